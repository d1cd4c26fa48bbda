/-
  A map[int]bool of the call's own, used as a set: a look-up of a bool; what it holds, key by key.
-/
import Derived.Maps.RangeWalk
import Derived.Maps.OwnOps
import Derived.Maps.OwnSet
import Derived.Maps.Views
import Derived.WalkKit
namespace Go.Proofs.Ytgclbnfpipepfaa
open Go.RowKit Go.Maps

theorem plainElem_bool_inv {H : Type} {P : Program} {e : TypeId} (he : P.underlying e = some .bool) {v : Value} {z : DataW H × List MemPlace} (h : plainElem P e v = some z) : ∃ c, v = .bool c ∧ z = (.lit (.bool c), []) := by
  unfold plainElem at h
  rw [he] at h
  cases v <;> simp at h
  exact ⟨_, rfl, h.symm⟩

/-- 'm[k]' (without 'ok') at elements of type bool. -/
theorem wpList_lookup_own_bool {H : Type} {P : Program} (w : World) {ops : Array Oper} {rest : List Oper} {o : Oper} {a : Act} {Q : Exit → Act → World → Prop}
    (hg : o.guard = none) (m x : Operand) (t : TypeId) (hop : o.op = Op.lookup t m x false)
    (k e : TypeId) (K : Keyed P k) (ht : P.underlying t = some (.map k e)) (he : P.underlying e = some .bool) (hz : (zeroValue e).run P w = .ok (.bool false) w) (b n : Nat) (D : DataW H)
    (hm : a.eval m = .map (some b)) (hown : w.ownsMap P k (plainElem P e) b n D) (key : Value) (kl : Lit) (hx : a.eval x = key) (hkey : keyOf P k key = some kl) (c : Bool) (hc : D.atKey kl (.lit (.bool false)) = .lit (.bool c))
    (hK : wpList P ops Q rest (a.put o.dst (.bool c)) w) :
    wpList P ops Q (o :: rest) a w := by
  refine wpList_plain hg fun K' hK' => ?_
  obtain ⟨v, ps, hrun, hv⟩ := hown.lookup K ht hz (plainElem_bool he false) hkey
  obtain ⟨c', rfl, hc'⟩ := plainElem_bool_inv he hv
  simp only [Prod.mk.injEq] at hc'
  rw [hc] at hc'
  have : c = c' := by simpa using hc'.1
  subst this
  unfold Oper.wp
  simp [execOp, hop, hm, hx, hrun, Result.andThen]
  exact hK' _ _ hK

/-- What the set holds: just the x with p x. -/
structure SetD (D : DataW Unit) (p : Int → Bool) : Prop where
  isMap : IsMap D
  at_ : ∀ x : Int, D.atKey (.int .i64 x) (.lit (.bool false)) = .lit (.bool (p x))
  has_ : ∀ x : Int, Maps.has D (.int .i64 x) = p x

theorem SetD.empty : SetD (.map []) (fun _ => false) := ⟨isMap_empty, fun _ => rfl, fun _ => rfl⟩
theorem SetD.put {D : DataW Unit} {p : Int → Bool} (h : SetD D p) (x : Int) : SetD (D.put (.int .i64 x) (.lit (.bool true))) (fun y => p y || y == x) := by
  refine ⟨h.isMap.put _ _, fun y => ?_, fun y => ?_⟩
  · by_cases e : y = x
    · subst e
      rw [atKey_put_same (k := .int .i64 y) h.isMap trivial]
      simp
    · rw [atKey_put_other (by simpa using e), h.at_]
      simp [e]
  · by_cases e : y = x
    · subst e
      rw [has_put_same (k := .int .i64 y) h.isMap trivial]
      simp
    · rw [has_put_other (by simpa using e), h.has_]
      simp [e]
theorem SetD.congr {D : DataW Unit} {p q : Int → Bool} (h : SetD D p) (e : ∀ x, p x = q x) : SetD D q := by
  obtain rfl : p = q := funext e
  exact h

/-- The step of a range over a map[int]bool of the call's own. -/
theorem wpList_next_ranges_ib {P : Program} (w : World) {ops : Array Oper} {rest : List Oper} {o : Oper} {a : Act} {Q : Exit → Act → World → Prop}
    (hg : o.guard = none) (it : Operand) (hop : o.op = Op.next it false) (k e : TypeId) (K : Keyed P k) (hk : P.underlying k = some (.int .i64)) (he : P.underlying e = some .bool)
    (b r n : Nat) (D : DataW Unit) (left : Lit → Bool) (cnt : Nat) (hit : a.eval it = .pointer (some ⟨r, 0, none⟩)) (h : w.ranges P k (plainElem P e) b r n D left cnt)
    (hDone : cnt = 0 → (∀ kl, left kl = false) → wpList P ops Q rest (a.put o.dst (.tuple #[.bool false])) w)
    (hMore : ∀ (x : Int) (u : Value) (w' : World) (cnt' : Nat), left (.int .i64 x) = true → w'.ranges P k (plainElem P e) b r n D (fun z => left z && !z.sameKey (.int .i64 x)) cnt' → cnt' < cnt →
      w.grownBy w' (some r) → w'.heap.size = w.heap.size → (Instr.entry (.pointer (some ⟨r, 0, none⟩))).run P w' = .ok (.tuple #[.int .i64 x, u]) w' → wpList P ops Q rest (a.put o.dst (.tuple #[.bool true, .int .i64 x, u])) w') :
    wpList P ops Q (o :: rest) a w :=
  wpList_next_ranges w hg it hop k K (plainElem P e) (Value.int .i64) Value.bool (fun key kl hkey => by obtain ⟨x, rfl, _⟩ := Maps.keyOf_int_inv hk hkey; exact ⟨x, rfl⟩) (fun v y hv => by obtain ⟨c, rfl, _⟩ := plainElem_bool_inv he hv; exact ⟨c, rfl⟩)
    b r n D left cnt hit h hDone (fun x c kl y w' cnt' hkey hlk hv hat hrg hlt hgr hsz hen => by
      obtain ⟨x', ex, rfl, hwx⟩ := Maps.keyOf_int_inv hk hkey
      cases ex
      exact hMore x (.bool c) w' cnt' hlk hrg hlt hgr hsz hen)
theorem sameKey_int (x y : Int) : (Lit.int .i64 x).sameKey (.int .i64 y) = (x == y) := by
  by_cases e : x = y
  · subst e
    rw [WideAt.sameKey_self (a := .int .i64 x) trivial]; simp
  · rw [sameKey_ne (by simpa using e)]; simp [e]

end Go.Proofs.Ytgclbnfpipepfaa
