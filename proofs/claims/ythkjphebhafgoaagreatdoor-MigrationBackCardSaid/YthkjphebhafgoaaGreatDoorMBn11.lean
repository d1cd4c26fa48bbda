/-
  Joined: VpF VpI VpP.
-/
import Derived.Test.YthkjphebhafgoaaGreatDoorMBn07
import Derived.Test.YthkjphebhafgoaaGreatDoorMBn09
set_option linter.all false
set_option maxRecDepth 100000
set_option maxHeartbeats 64000000
namespace Go.Proofs.YthkjphebhafgoaaGreatDoor
section
open Go.RowKit
theorem flatX : Flat extS := fun _ _ _ _ h => h
theorem flatH : Flat holS := fun _ _ _ _ h => h
section
variable {α : Type} {ρ : Shape α} {w0 w1 w w' W : World} {v : Value} {xs : List α}
theorem OwnSeq.lt {t : TypeId} (h : OwnSeq ρ t w0 W v xs) {g : Nat} (hg : v.ownBlock = some g) : g < W.heap.size := by
 obtain ⟨css, ho, _⟩ := h
 exact (ho.lt g hg).2
end
theorem append_seqO {α : Type} {ρ : Shape α} {w0 w : World} {v : Value} {xs us : List α} {P : Program} {ops : Array Oper} {rest : List Oper} {o : Oper} {a : Act} {Q : Exit → Act → World → Prop} {TS T : TypeId} {b : Nat} {z : Value} (E : Elem P TS T ρ.n b z) (hgd : o.guard = none) (s x : Operand) (ho : o.op = .call { callee := .builtin .append, args := #[s, x], argTypes := #[TS, TS] })
  (hs : a.eval s = v) (hown : OwnSeq ρ T w0 w v xs) {vx : Value} (hx : a.eval x = vx) (hv : SrcAt ρ w0 w vx us) (hn : xs.length + us.length ≤ 100000000) (hB : Below w0.heap.size w0 w)
  (h : ∀ v' w', OwnSeq ρ T w0 w' v' (xs ++ us) → w.grownBy w' v.ownBlock → (v'.ownBlock = v.ownBlock ∨ v'.ownBlock = some w.heap.size) → Below w0.heap.size w0 w' → wpList P ops Q rest (a.put o.dst v') w') : wpList P ops Q (o :: rest) a w := by
 obtain ⟨v', w', hr, g1, g2, g4, g3⟩ := run_appendS E o.type hown hv hn hB
 refine wpList_plain hgd fun K hK => ?_
 unfold Oper.wp execOp
 simp only [ho, resolve, invoke, builtin, Sem.run_bind, Sem.run_pure, Result.andThen_ok, List.map_toArray, List.map_cons, List.map_nil, hs, hx, hr]
 exact hK _ _ (h v' w' g1 g2 g4 g3)
theorem grownBy_below {w w' : World} {r : Option Nat} (h : Below w.heap.size w w') : w.grownBy w' r := ⟨h.os, h.tape, h.output, h.size, fun k hk _ => h.block k hk⟩
theorem grownBy_trans {a b c : World} {r : Option Nat} (h : a.grownBy b r) (k : b.grownBy c r) : a.grownBy c r :=
 ⟨k.os.trans h.os, k.tape.trans h.tape, k.output.trans h.output, Nat.le_trans h.size k.size, fun i hi hn => (k.block i (Nat.lt_of_lt_of_le hi h.size) hn).trans (h.block i hi hn)⟩
end
section
open Go.RowKit
theorem OwnSeq.newAt {α : Type} {ρ : Shape α} {t : TypeId} {w W : World} (h : w.heap.size ≤ W.heap.size) : OwnSeq ρ t w (W.alloc (.cells #[] t)) (.slice (some ⟨W.heap.size, 0, none⟩) 0 0) [] :=
 ⟨[], ⟨(ownV_new W t ρ.n).1, (ownV_new W t ρ.n).2.imp id fun ⟨g, cap, cur, e, hB, r⟩ => ⟨g, cap, cur, e, by omega, r⟩⟩, .nil⟩
theorem src1B {α : Type} {ρ : Shape α} {w0 w W : World} {t : TypeId} (_ : Below w.heap.size w W) (cs : List Value) (x : α) (hr : ρ.R w0 cs x) : SrcAt ρ w0 (W.alloc (.cells cs.toArray t)) (.slice (some ⟨W.heap.size, 0, none⟩) 1 1) [x] := SrcAt.lit hr (Blk.new _ _ _)
theorem cell_lt {W : World} {b o : Nat} {u : Value} (h : W.cell? ⟨b, o, none⟩ = some u) : b < W.heap.size := by
 apply Decidable.byContradiction
 intro hn
 have hz : W.heap[b]? = none := Array.getElem?_eq_none (by omega)
 simp [World.cell?, hz] at h
theorem Blk.grownB {W W' : World} {g : Nat} {t : TypeId} {us : List Value} {r : Option Nat} (h : Blk W g t us) (hg : W.grownBy W' r) (hne : r ≠ some g) : Blk W' g t us := h.of_heap (hg.block g h.lt hne.symm)
def kd : Value → Nat
 | .int .i64 _ => 1
 | .int .u32 _ => 2
 | .string _ => 3
 | .slice _ _ _ => 4
 | _ => 0
def noFit (K : List Nat) : List Nat → Bool
 | [] => true
 | a :: r => !(K.isPrefixOf (a :: r)) && noFit K r
theorem isPre {K l : List Nat} (h : ∀ (j : Nat) (a : Nat), K[j]? = some a → l[j]? = some a) : K.isPrefixOf l = true := by
 induction K generalizing l with
 | nil => cases l <;> rfl
 | cons a K ih =>
  have h0 := h 0 a rfl
  cases l with
  | nil => cases h0
  | cons b l =>
   obtain rfl : b = a := by simpa using h0
   rw [List.isPrefixOf, ih (fun j x hj => by simpa using h (j + 1) x (by simpa using hj))]
   simp
theorem noFit_at {K l : List Nat} (h : noFit K l = true) (hK : K ≠ []) : ∀ o : Nat, ¬ ∀ (j : Nat) (a : Nat), K[j]? = some a → l[o + j]? = some a := by
 induction l with
 | nil =>
  intro o hp
  cases K with
  | nil => exact hK rfl
  | cons a K => cases hp 0 a rfl
 | cons b l ih =>
  rw [noFit, Bool.and_eq_true] at h
  intro o hp
  cases o with
  | zero =>
   have := isPre (fun j a hj => by have := hp j a hj; rwa [Nat.zero_add] at this)
   rw [this] at h
   cases h.1
  | succ o =>
   refine ih h.2 o fun j a hj => ?_
   have := hp j a hj
   rw [show o + 1 + j = o + j + 1 by omega] at this
   simpa using this
def Box (W : World) (D : Nat) (ks : List Nat) : Prop := ∃ t us, Blk W D t us ∧ us.map kd = ks
def Off {α : Type} (ρ : Shape α) (ks : List Nat) : Prop := ∀ (W W' : World) (D : Nat) (v : Value) (xs : List α), Box W D ks → W.grownBy W' (some D) → SeqAt ρ W v xs → SeqAt ρ W' v xs
theorem Off.of {α : Type} {ρ : Shape α} {ks : List Nat} (K : List Nat) (hK : ∀ w cs x, ρ.R w cs x → cs.map kd = K) (hK0 : K ≠ []) (hf : noFit K ks = true) (hR : ∀ W W' D cs x, Box W D ks → W.grownBy W' (some D) → ρ.R W cs x → ρ.R W' cs x) : Off ρ ks := by
 intro W W' D v xs hB hg ⟨A, c, e, h1, h2, h3⟩
 refine ⟨A, c, e, h1, h2, fun i x hx => ?_⟩
 obtain ⟨b, o, cs, rfl, hr, h4⟩ := h3 i x hx
 refine ⟨b, o, cs, rfl, hR W W' D cs x hB hg hr, fun j u hu => ?_⟩
 have hc := h4 j u hu
 by_cases hb : b = D
 ·exfalso
  subst hb
  obtain ⟨t, us, hU, rfl⟩ := hB
  refine noFit_at hf hK0 (o + i * ρ.n) fun j' a ha => ?_
  rw [← hK _ _ _ hr, List.getElem?_map] at ha
  obtain ⟨u', hu', rfl⟩ := Option.map_eq_some_iff.1 ha
  have hc' := h4 j' u' hu'
  rw [List.getElem?_map]
  unfold Blk at hU
  have : us[o + i * ρ.n + j']? = some u' := by simpa [World.cell?, hU] using hc'
  rw [this]
  rfl
 ·exact (World.cell?_of_block (hg.block b (cell_lt hc) (fun e => hb (Option.some.inj e)))).trans hc
theorem Off.flat {α : Type} {ρ : Shape α} {ks : List Nat} (hF : Flat ρ) (K : List Nat) (hK : ∀ w cs x, ρ.R w cs x → cs.map kd = K) (hK0 : K ≠ []) (hf : noFit K ks = true) : Off ρ ks :=
 Off.of K hK hK0 hf fun _ _ _ _ _ _ _ h => hF _ _ _ _ h
theorem flatA : Flat atrS := fun _ _ _ _ h => h
theorem SeqAt.kd {α : Type} {ρ : Shape α} {W : World} {v : Value} {xs : List α} (h : SeqAt ρ W v xs) : kd v = 4 := by
 obtain ⟨A, c, rfl, _⟩ := h
 rfl
theorem off_atr {ks : List Nat} (hf : noFit [3, 3] ks = true) : Off atrS ks := Off.flat flatA [3, 3] (fun _ _ _ h => by rw [h]; rfl) (by decide) hf
theorem off_ext {ks : List Nat} (hf : noFit [1, 1, 1] ks = true) : Off extS ks := Off.flat flatX [1, 1, 1] (fun _ _ _ h => by rw [h]; rfl) (by decide) hf
theorem off_hol {ks : List Nat} (hf : noFit [3, 1] ks = true) : Off holS ks := Off.flat flatH [3, 1] (fun _ _ _ h => by rw [h]; rfl) (by decide) hf
theorem off_ent {ks : List Nat} (hf : noFit [1, 3, 4, 3, 1, 3, 4] ks = true) (hx : noFit [1, 1, 1] ks = true) (ha : noFit [3, 3] ks = true) : Off entS ks := by
 refine Off.of [1, 3, 4, 3, 1, 3, 4] ?_ (by decide) hf ?_
 ·rintro w cs x ⟨va, vx, rfl, h1, h2⟩
  simp only [List.map_cons, List.map_nil, h1.kd, h2.kd]
  rfl
 ·rintro W W' D cs x hB hg ⟨va, vx, rfl, h1, h2⟩
  exact ⟨va, vx, rfl, off_atr ha W W' D _ _ hB hg h1, off_ext hx W W' D _ _ hB hg h2⟩
theorem grown_set (W : World) (D i : Nat) (u : Value) : W.grownBy (W.setCell ⟨D, i, none⟩ u) (some D) :=
 ⟨rfl, rfl, rfl, by simp [World.setCell], fun k _ hk => Below.heap_setCell W ⟨D, i, none⟩ u k (fun e => hk (by rw [e]))⟩
end
end Go.Proofs.YthkjphebhafgoaaGreatDoor
