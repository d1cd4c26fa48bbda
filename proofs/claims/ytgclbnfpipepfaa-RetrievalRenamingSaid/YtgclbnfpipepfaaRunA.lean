/-
  WALKS: the program's Plan$1, ContainsFunc, even of layer 56.
-/
import Derived.Test.YtgclbnfpipepfaaRefC
namespace Go.Proofs.Ytgclbnfpipepfaa
open Go.RowKit

def badB (x : Int) : Bool := decide (x < 0) || decide (1000000000 < x)
theorem badB_lo {x : Int} (h : x < 0) : badB x = true := by unfold badB; rw [decide_eq_true h]; rfl
theorem badB_hi {x : Int} (h : 1000000000 < x) : badB x = true := by unfold badB; rw [decide_eq_true h]; simp
theorem badB_no {x : Int} (h : 0 ≤ x) (k : x ≤ 1000000000) : badB x = false := by unfold badB; rw [decide_eq_false (by omega), decide_eq_false (by omega)]; rfl

theorem any_yes {α : Type} {l : List α} {p : α → Bool} (k : Nat) (y : α) (h : l[k]? = some y) (hy : p y = true) : l.any p = true :=
  List.any_eq_true.2 ⟨y, List.mem_of_getElem? h, hy⟩
theorem any_no {α : Type} {l : List α} {p : α → Bool} (h : ∀ (k : Nat) (y : α), l[k]? = some y → p y = false) : l.any p = false := by
  rw [List.any_eq_false]
  intro y hy
  obtain ⟨k, hk⟩ := List.mem_iff_getElem?.1 hy
  simpa using h k y hk

/-- An index, or -1. -/
def Found (b : Bool) (w : World) (e : Ending) (w' : World) : Prop := ∃ n : Int, e = .returned (.int .i64 n) ∧ (b = true ↔ 0 ≤ n) ∧ w = w'

set_option maxHeartbeats 400000 in
theorem idxI_any (w : World) (v : Value) (c : List Int) (hc : IntsAt w v c) :
    Calls Try.prog 28 #[v, .func (.func 21) #[] #[]] w (Found (c.any badB) w) := by
  obtain ⟨A, d, rfl, h1, h2, h3⟩ := hc
  go_enter Try.func28, Try.ntmps28
  go_wp2
  go_loop [8] (fun i => ∃ k : Nat, k ≤ c.length ∧ i = .int .i64 k ∧ ∀ (j : Nat) (y : Int), j < k → c[j]? = some y → badB y = false) (fun i => c.length - (intOf i).toNat)
  case atStart => exact ⟨0, Nat.zero_le _, rfl, fun j r h => absurd h (Nat.not_lt_zero _)⟩
  case round =>
    obtain ⟨k, hk, rfl, hr⟩ := hrel
    by_cases hlt : k < c.length
    · obtain ⟨b, o, u, rfl, hck, rfl⟩ := h3 k c[k] (List.getElem?_eq_getElem hlt)
      have Hr := Lib.hid hr
      have H3 := Lib.hid h3
      have hkI : (k : Int) < c.length := by omega
      clear hr h3
      by_cases hlo : c[k] < 0
      · go_wp2
        go_ret
        exact ⟨k, rfl, by rw [any_yes k _ (List.getElem?_eq_getElem hlt) (badB_lo hlo)]; simp, rfl⟩
      have hlo' : 0 ≤ c[k] := by omega
      by_cases hhi : 1000000000 < c[k]
      · go_wp2
        go_ret
        exact ⟨k, rfl, by rw [any_yes k _ (List.getElem?_eq_getElem hlt) (badB_hi hhi)]; simp, rfl⟩
      have hhi' : c[k] ≤ 1000000000 := by omega
      go_wp2
      go_round
      case rel =>
        refine ⟨k + 1, by omega, by go_num, fun j r hj he => ?_⟩
        rcases Nat.lt_succ_iff_lt_or_eq.1 hj with h | rfl
        · exact Hr.out j r h he
        · rw [List.getElem?_eq_getElem hlt] at he
          cases he
          exact badB_no hlo' hhi'
      case measure => simp [intOf]; omega
    · have Hr := Lib.hid hr
      have H3 := Lib.hid h3
      clear hr h3
      go_wp2
      go_ret
      refine ⟨-1, rfl, ?_, rfl⟩
      rw [any_no fun j r he => Hr.out j r (by have := (List.getElem?_eq_some_iff.1 he).1; omega) he]
      simp

set_option maxHeartbeats 400000 in
theorem contI_any (w : World) (v : Value) (c : List Int) (hc : IntsAt w v c) :
    Calls Try.prog 20 #[v, .func (.func 21) #[] #[]] w fun e w' => e = .returned (.bool (c.any badB)) ∧ w = w' := by
  have H := Lib.hid (idxI_any w v c hc)
  go_enter Try.func20, Try.ntmps20
  go_wp2_with (go_at_call 28; refine H.out.mono ?_; rintro e w' ⟨n, rfl, hn, rfl⟩)
  go_ret
  refine ⟨ret_bool ?_, rfl⟩
  cases hb : c.any badB with
  | false => rw [hb] at hn; exact decide_eq_false (fun h => by have := hn.2 h; cases this)
  | true => rw [hb] at hn; exact decide_eq_true (hn.1 rfl)

def oddB (n : Nat) (r : List Bool) : Bool := r.length != n
theorem evenB_any (m : List (List Bool)) : evenB m = !m.any (oddB (cols m)) := by
  unfold evenB oddB
  rw [List.not_any_eq_all_not]
  exact congrArg m.all (funext fun r => by rw [Bool.eq_iff_iff]; simp)

set_option maxHeartbeats 400000 in
theorem idxB_any (w : World) (v : Value) (m : List (List Bool)) (bx : Nat) (hm : RowsAt w v m) (hx : w.cell? ⟨bx, 0, none⟩ = some v) :
    Calls Try.prog 33 #[v, .func (.func 30) #[] #[.pointer (some ⟨bx, 0, none⟩)]] w (Found (m.any (oddB (cols m))) w) := by
  obtain ⟨A, d, rfl, h1, h2, h3⟩ := hm
  go_enter Try.func33, Try.ntmps33
  go_wp2
  go_loop [8] (fun i => ∃ k : Nat, k ≤ m.length ∧ i = .int .i64 k ∧ ∀ (j : Nat) (y : List Bool), j < k → m[j]? = some y → oddB (cols m) y = false) (fun i => m.length - (intOf i).toNat)
  case atStart => exact ⟨0, Nat.zero_le _, rfl, fun j r h => absurd h (Nat.not_lt_zero _)⟩
  case round =>
    obtain ⟨k, hk, rfl, hr⟩ := hrel
    by_cases hlt : k < m.length
    · obtain ⟨b, o, u, rfl, hc, A2, c2, rfl, h4, h5, -⟩ := h3 k m[k] (List.getElem?_eq_getElem hlt)
      obtain ⟨b', o', u', e', hc0, A3, c3, rfl, h6, h7, -⟩ := h3 0 m[0] (List.getElem?_eq_getElem (by omega))
      cases e'
      rw [Nat.add_zero] at hc0
      have Hr := Lib.hid hr
      have H3 := Lib.hid h3
      have hkI : (k : Int) < m.length := by omega
      have hx1 : (0 : Int) < m.length := by omega
      have he0 : cols m = m[0].length := by
        have h0 : 0 < m.length := by omega
        simp [cols, List.getD, h0]
      have He0 := Lib.hid he0
      clear hr h3 he0
      by_cases hg : m[k].length = m[0].length
      · have hb : ((m[k].length : Int) != (m[0].length : Int)) = false := by rw [bne_eq_false_iff_eq]; omega
        have Hg := Lib.hid hg
        clear hg
        go_wp2
        go_round
        case rel =>
          refine ⟨k + 1, by omega, by go_num, fun j r hj he => ?_⟩
          rcases Nat.lt_succ_iff_lt_or_eq.1 hj with h | rfl
          · exact Hr.out j r h he
          · rw [List.getElem?_eq_getElem hlt] at he
            cases he
            unfold oddB
            rw [bne_eq_false_iff_eq, He0.out]
            exact Hg.out
        case measure => simp [intOf]; omega
      · have hb : ((m[k].length : Int) != (m[0].length : Int)) = true := by rw [bne_iff_ne]; omega
        have Hg := Lib.hid hg
        clear hg
        go_wp2
        go_ret
        exact ⟨k, rfl, by rw [any_yes k _ (List.getElem?_eq_getElem hlt) (by unfold oddB; rw [bne_iff_ne, He0.out]; exact Hg.out)]; simp, rfl⟩
    · have Hr := Lib.hid hr
      have H3 := Lib.hid h3
      clear hr h3
      go_wp2
      go_ret
      refine ⟨-1, rfl, ?_, rfl⟩
      rw [any_no fun j r he => Hr.out j r (by have := (List.getElem?_eq_some_iff.1 he).1; omega) he]
      simp

set_option maxHeartbeats 400000 in
theorem contB_any (w : World) (v : Value) (m : List (List Bool)) (bx : Nat) (hm : RowsAt w v m) (hx : w.cell? ⟨bx, 0, none⟩ = some v) :
    Calls Try.prog 29 #[v, .func (.func 30) #[] #[.pointer (some ⟨bx, 0, none⟩)]] w fun e w' => e = .returned (.bool (m.any (oddB (cols m)))) ∧ w = w' := by
  have H := Lib.hid (idxB_any w v m bx hm hx)
  clear hx hm
  go_enter Try.func29, Try.ntmps29
  go_wp2_with (go_at_call 33; refine H.out.mono ?_; rintro e w' ⟨n, rfl, hn, rfl⟩)
  go_ret
  refine ⟨ret_bool ?_, rfl⟩
  cases hb : m.any (oddB (cols m)) with
  | false => rw [hb] at hn; exact decide_eq_false (fun h => by have := hn.2 h; cases this)
  | true => rw [hb] at hn; exact decide_eq_true (hn.1 rfl)

theorem RowsAt.alloc {w : World} {v : Value} {m : List (List Bool)} (h : RowsAt w v m) (o : Obj) : RowsAt (w.alloc o) v m := h.below ((Below.refl _ w).alloc (Nat.le_refl _) o)
theorem IntsAt.alloc {w : World} {v : Value} {m : List Int} (h : IntsAt w v m) (o : Obj) : IntsAt (w.alloc o) v m := h.below ((Below.refl _ w).alloc (Nat.le_refl _) o)

set_option maxHeartbeats 400000 in
theorem reven_any (w : World) (v : Value) (m : List (List Bool)) (hm : RowsAt w v m) :
    Calls Try.prog 22 #[v] w fun e w' => e = .returned (.bool (evenB m)) ∧ w.alloc (.cells #[v] 23) = w' := by
  have hc : (w.alloc (.cells #[v] 23)).cell? ⟨w.heap.size, 0, none⟩ = some v := by simp
  have H := Lib.hid (contB_any (w.alloc (.cells #[v] 23)) v m w.heap.size (hm.alloc _) hc)
  have Hm := Lib.hid hm
  clear hm hc
  obtain ⟨A, c, rfl⟩ : ∃ A c, v = .slice A m.length c := by obtain ⟨A, c, e, _⟩ := Hm.out; exact ⟨A, c, e⟩
  go_enter Try.func22, Try.ntmps22
  go_wp2_with (go_at_call 29; refine H.out.mono ?_; rintro e w' ⟨rfl, rfl⟩)
  go_ret
  exact ⟨ret_bool (evenB_any m).symm, rfl⟩

end Go.Proofs.Ytgclbnfpipepfaa
