/-
  WALKS: the reference's small functions of layer 56.
-/
import Derived.Test.YtgclbnfpipepfaaRows
import Derived.Test.YtgclbnfpipepfaaMem
import Derived.WalkKit
import Derived.WalkSpells
import Derived.WalkLawsBesides
import Derived.Deep.QuietTactic
import Derived.BigQuiet
import Derived.Lib.Hide
namespace Go.Proofs.Ytgclbnfpipepfaa
open Go.RowKit

def great (n : Nat) (m : List (List Bool)) : Int := if 10 < n ∧ n ≠ 16 ∨ 20 < m.length then 1 else if m.any (fun r => decide (12 < r.length)) then 1 else 0

theorem great_yes {n : Nat} {m : List (List Bool)} (h : 10 < n ∧ n ≠ 16 ∨ 20 < m.length) : great n m = 1 := if_pos h
theorem great_row {n : Nat} {m : List (List Bool)} (k : Nat) (r : List Bool) (h : m[k]? = some r) (hr : 12 < r.length) : great n m = 1 := by
  unfold great
  split
  · rfl
  · rw [if_pos (List.any_eq_true.2 ⟨r, List.mem_of_getElem? h, by simpa using hr⟩)]
theorem great_no {n : Nat} {m : List (List Bool)} (h : ¬ (10 < n ∧ n ≠ 16 ∨ 20 < m.length)) (hr : ∀ (k : Nat) (r : List Bool), m[k]? = some r → r.length ≤ 12) : great n m = 0 := by
  unfold great
  rw [if_neg h, if_neg]
  intro ha
  obtain ⟨r, hm, hl⟩ := List.any_eq_true.1 ha
  obtain ⟨k, hk⟩ := List.mem_iff_getElem?.1 hm
  have := hr k r hk
  simp at hl
  omega
theorem ret_int {k : IntKind} {a b : Int} (h : a = b) : Ending.returned (.int k a) = .returned (.int k b) := by rw [h]
theorem ret_bool {a b : Bool} (h : a = b) : Ending.returned (.bool a) = .returned (.bool b) := by rw [h]

set_option maxHeartbeats 400000 in
theorem great_any (w : World) (A : Option Addr) (n c : Nat) (vh : Value) (m : List (List Bool)) (hn : n ≤ 9223372036854775807) (hm : RowsAt w vh m) :
    Calls Try.prog 11 #[.slice A n c, vh] w fun e w' => e = .returned (.int .i64 (great n m)) ∧ w = w' := by
  obtain ⟨B, d, rfl, h1, h2, h3⟩ := hm
  go_enter Try.func11, Try.ntmps11
  go_wp2
  all_goals first
    | (go_ret; exact ⟨ret_int (great_yes (by omega)).symm, rfl⟩)
    | skip
  all_goals
    go_loop [5] (fun i => ∃ k : Nat, k ≤ m.length ∧ i = .int .i64 k ∧ ∀ (j : Nat) (r : List Bool), j < k → m[j]? = some r → r.length ≤ 12) (fun i => m.length - (intOf i).toNat)
    case atStart => exact ⟨0, Nat.zero_le _, rfl, fun j r h => absurd h (Nat.not_lt_zero _)⟩
    case round =>
      obtain ⟨k, hk, rfl, hr⟩ := hrel
      by_cases hlt : k < m.length
      · obtain ⟨b, o, u, rfl, hc, A2, c2, rfl, h4, h5, -⟩ := h3 k m[k] (List.getElem?_eq_getElem hlt)
        have Hr := Lib.hid hr
        have H3 := Lib.hid h3
        clear hr h3
        by_cases hg : 12 < m[k].length
        · go_wp2
          go_ret
          exact ⟨ret_int (great_row k m[k] (List.getElem?_eq_getElem hlt) hg).symm, rfl⟩
        · go_wp2
          go_round
          case rel =>
            refine ⟨k + 1, by omega, by go_num, fun j r hj he => ?_⟩
            rcases Nat.lt_succ_iff_lt_or_eq.1 hj with h | rfl
            · exact Hr.out j r h he
            · rw [List.getElem?_eq_getElem hlt] at he
              cases he
              omega
          case measure => simp [intOf]; omega
      · have Hr := Lib.hid hr
        have H3 := Lib.hid h3
        clear hr h3
        go_wp2
        go_ret
        refine ⟨ret_int (great_no (by omega) fun j r he => Hr.out j r ?_ he).symm, rfl⟩
        have := (List.getElem?_eq_some_iff.1 he).1
        omega


/-! in -/
def inB (l : List Int) (x : Int) : Bool := l.any (fun y => y == x)
theorem inB_yes {l : List Int} {x : Int} (k : Nat) (y : Int) (h : l[k]? = some y) (hy : y = x) : inB l x = true :=
  List.any_eq_true.2 ⟨y, List.mem_of_getElem? h, by simp [hy]⟩
theorem inB_no {l : List Int} {x : Int} (h : ∀ (k : Nat) (y : Int), l[k]? = some y → y ≠ x) : inB l x = false := by
  unfold inB
  rw [List.any_eq_false]
  intro y hy
  obtain ⟨k, hk⟩ := List.mem_iff_getElem?.1 hy
  simpa using h k y hk

set_option maxHeartbeats 400000 in
theorem in_any (w : World) (v : Value) (l : List Int) (x : Int) (hl : IntsAt w v l) :
    Calls Try.prog 27 #[v, .int .i64 x] w fun e w' => e = .returned (.bool (inB l x)) ∧ w = w' := by
  obtain ⟨A, c, rfl, h1, h2, h3⟩ := hl
  go_enter Try.func27, Try.ntmps27
  go_wp2
  go_loop [5] (fun i => ∃ k : Nat, k ≤ l.length ∧ i = .int .i64 k ∧ ∀ (j : Nat) (y : Int), j < k → l[j]? = some y → y ≠ x) (fun i => l.length - (intOf i).toNat)
  case atStart => exact ⟨0, Nat.zero_le _, rfl, fun j r h => absurd h (Nat.not_lt_zero _)⟩
  case round =>
    obtain ⟨k, hk, rfl, hr⟩ := hrel
    by_cases hlt : k < l.length
    · obtain ⟨b, o, u, rfl, hc, rfl⟩ := h3 k l[k] (List.getElem?_eq_getElem hlt)
      have Hr := Lib.hid hr
      have H3 := Lib.hid h3
      clear hr h3
      by_cases hg : l[k] = x
      · have hb : (l[k] == x) = true := by simpa using hg
        have Hg := Lib.hid hg
        clear hg
        go_wp2
        go_ret
        exact ⟨ret_bool (inB_yes k l[k] (List.getElem?_eq_getElem hlt) Hg.out).symm, rfl⟩
      · have hb : (l[k] == x) = false := by simpa using hg
        have Hg := Lib.hid hg
        clear hg
        go_wp2
        go_round
        case rel =>
          refine ⟨k + 1, by omega, by go_num, fun j r hj he => ?_⟩
          rcases Nat.lt_succ_iff_lt_or_eq.1 hj with h | rfl
          · exact Hr.out j r h he
          · rw [List.getElem?_eq_getElem hlt] at he
            cases he
            exact Hg.out
        case measure => simp [intOf]; omega
    · have Hr := Lib.hid hr
      have H3 := Lib.hid h3
      clear hr h3
      go_wp2
      go_ret
      refine ⟨ret_bool (inB_no fun j r he => Hr.out j r ?_ he).symm, rfl⟩
      have := (List.getElem?_eq_some_iff.1 he).1
      omega

/-! Same -/
def sameB (a b : List Int) : Bool := decide (a = b)
theorem sameB_ne {a b : List Int} (k : Nat) (x y : Int) (ha : a[k]? = some x) (hb : b[k]? = some y) (h : x ≠ y) : sameB a b = false := by
  unfold sameB
  rw [decide_eq_false_iff_not]
  rintro rfl
  rw [ha] at hb
  exact h (Option.some.inj hb)
theorem sameB_len {a b : List Int} (h : a.length ≠ b.length) : sameB a b = false := by
  unfold sameB
  rw [decide_eq_false_iff_not]
  rintro rfl
  exact h rfl
theorem sameB_eq {a b : List Int} (h : a.length = b.length) (hr : ∀ (k : Nat) (x y : Int), a[k]? = some x → b[k]? = some y → x = y) : sameB a b = true := by
  unfold sameB
  rw [decide_eq_true_iff]
  refine List.ext_getElem h fun i h1 h2 => hr i _ _ (List.getElem?_eq_getElem h1) (List.getElem?_eq_getElem h2)

set_option maxHeartbeats 400000 in
theorem same_any (w : World) (va vb : Value) (a b : List Int) (ha : IntsAt w va a) (hb : IntsAt w vb b) :
    Calls Try.prog 14 #[va, vb] w fun e w' => e = .returned (.bool (sameB a b)) ∧ ∃ n, w' = w.drewN n := by
  obtain ⟨A, c, rfl, h1, h2, h3⟩ := ha
  obtain ⟨B, d, rfl, k1, k2, k3⟩ := hb
  by_cases hlen : a.length = b.length
  · have hne : ((a.length : Int) != b.length) = false := by simp [hlen]
    have Hlen := Lib.hid hlen
    have hle : a.length ≤ b.length := by omega
    clear hlen
    go_enter Try.func14, Try.ntmps14
    go_wp2
    go_loopw [5] (fun i wr => (∃ n, wr = w.drewN n) ∧ ∃ k : Nat, k ≤ a.length ∧ i = .int .i64 k ∧ ∀ (j : Nat) (x y : Int), j < k → a[j]? = some x → b[j]? = some y → x = y) (fun i _ => a.length - (intOf i).toNat)
    case atStart => exact ⟨⟨0, rfl⟩, 0, Nat.zero_le _, rfl, fun j r _ h => absurd h (Nat.not_lt_zero _)⟩
    case round =>
      obtain ⟨⟨n, rfl⟩, k, hk, rfl, hr⟩ := hrel
      by_cases hlt : k < a.length
      · have hlb : k < b.length := by omega
        obtain ⟨p, o, u, rfl, hc, rfl⟩ := h3 k a[k] (List.getElem?_eq_getElem hlt)
        obtain ⟨p', o', u', rfl, hc', rfl⟩ := k3 k b[k] (List.getElem?_eq_getElem hlb)
        have Hr := Lib.hid hr
        have H3 := Lib.hid h3
        have K3 := Lib.hid k3
        clear hr h3 k3
        have hx0 : (k : Int) < a.length := by omega
        have hx1 : (k : Int) < b.length := by omega
        by_cases hg : a[k] = b[k]
        · have hb : (a[k] != b[k]) = false := by simpa using hg
          have Hg := Lib.hid hg
          clear hg
          go_wp2
          go_quiet (fail)
          go_wp2
          go_roundw
          case rel =>
            refine ⟨⟨_, rfl⟩, k + 1, by omega, by go_num, fun j x y hj he hf => ?_⟩
            rcases Nat.lt_succ_iff_lt_or_eq.1 hj with h | rfl
            · exact Hr.out j x y h he hf
            · rw [List.getElem?_eq_getElem hlt] at he
              rw [List.getElem?_eq_getElem hlb] at hf
              cases he
              cases hf
              exact Hg.out
          case measure => simp [intOf]; omega
        · have hb : (a[k] != b[k]) = true := by simpa using hg
          have Hg := Lib.hid hg
          clear hg
          go_wp2
          go_quiet (fail)
          go_wp2
          go_ret
          exact ⟨ret_bool (sameB_ne k _ _ (List.getElem?_eq_getElem hlt) (List.getElem?_eq_getElem hlb) Hg.out).symm, _, World.drewN_drewN _ _ _⟩
      · have Hr := Lib.hid hr
        have H3 := Lib.hid h3
        have K3 := Lib.hid k3
        clear hr h3 k3
        go_wp2
        go_ret
        refine ⟨ret_bool (sameB_eq Hlen.out fun j x y he hf => Hr.out j x y ?_ he hf).symm, _, rfl⟩
        have := (List.getElem?_eq_some_iff.1 he).1
        omega
  · have hne : ((a.length : Int) != b.length) = true := by rw [bne_iff_ne]; omega
    have Hlen := Lib.hid hlen
    clear hlen h3 k3
    go_enter Try.func14, Try.ntmps14
    go_wp2
    go_ret
    exact ⟨ret_bool (sameB_len Hlen.out).symm, 0, rfl⟩

/-! less (the reference's), before (the law's): one text -/
def lessB : List Int → List Int → Bool
  | _, [] => false
  | [], _ :: _ => true
  | x :: a, y :: b => if x = y then lessB a b else decide (x < y)
theorem lessB_at {a b : List Int} (k : Nat) (hr : ∀ (j : Nat) (x y : Int), j < k → a[j]? = some x → b[j]? = some y → x = y) {x y : Int} (ha : a[k]? = some x) (hb : b[k]? = some y) (h : x ≠ y) :
    lessB a b = decide (x < y) := by
  induction k generalizing a b with
  | zero =>
    cases a with
    | nil => cases ha
    | cons p a =>
      cases b with
      | nil => cases hb
      | cons q b =>
        cases ha
        cases hb
        rw [lessB, if_neg h]
  | succ k ih =>
    cases a with
    | nil => cases ha
    | cons p a =>
      cases b with
      | nil => cases hb
      | cons q b =>
        rw [lessB, if_pos (hr 0 p q (by omega) rfl rfl)]
        exact ih (fun j x y hj hx hy => hr (j + 1) x y (by omega) hx hy) ha hb
theorem lessB_end {a b : List Int} (hr : ∀ (j : Nat) (x y : Int), a[j]? = some x → b[j]? = some y → x = y) : lessB a b = decide (a.length < b.length) := by
  induction a generalizing b with
  | nil => cases b <;> simp [lessB]
  | cons p a ih =>
    cases b with
    | nil => simp [lessB]
    | cons q b =>
      rw [lessB, if_pos (hr 0 p q rfl rfl), ih fun j x y hx hy => hr (j + 1) x y hx hy]
      simp

set_option maxHeartbeats 400000 in
theorem less_any (w : World) (va vb : Value) (a b : List Int) (ha : IntsAt w va a) (hb : IntsAt w vb b) :
    Calls Try.prog 26 #[va, vb] w fun e w' => e = .returned (.bool (lessB a b)) ∧ ∃ n, w' = w.drewN n := by
  obtain ⟨A, c, rfl, h1, h2, h3⟩ := ha
  obtain ⟨B, d, rfl, k1, k2, k3⟩ := hb
  go_enter Try.func26, Try.ntmps26
  go_wp2
  go_loopw [5] (fun i wr => (∃ n, wr = w.drewN n) ∧ ∃ k : Nat, k ≤ a.length ∧ k ≤ b.length ∧ i = .int .i64 k ∧ ∀ (j : Nat) (x y : Int), j < k → a[j]? = some x → b[j]? = some y → x = y) (fun i _ => a.length - (intOf i).toNat)
  case atStart => exact ⟨⟨0, rfl⟩, 0, Nat.zero_le _, Nat.zero_le _, rfl, fun j r _ h => absurd h (Nat.not_lt_zero _)⟩
  case round =>
    obtain ⟨⟨n, rfl⟩, k, hk, hkb, rfl, hr⟩ := hrel
    by_cases hlt : k < a.length ∧ k < b.length
    · obtain ⟨hlt, hlb⟩ := hlt
      obtain ⟨p, o, u, rfl, hc, rfl⟩ := h3 k a[k] (List.getElem?_eq_getElem hlt)
      obtain ⟨p', o', u', rfl, hc', rfl⟩ := k3 k b[k] (List.getElem?_eq_getElem hlb)
      have Hr := Lib.hid hr
      have H3 := Lib.hid h3
      have K3 := Lib.hid k3
      clear hr h3 k3
      have hx0 : (k : Int) < a.length := by omega
      have hx1 : (k : Int) < b.length := by omega
      by_cases hg : a[k] = b[k]
      · have hb : (a[k] != b[k]) = false := by simpa using hg
        have Hg := Lib.hid hg
        clear hg
        go_wp2
        go_quiet (fail)
        go_wp2
        go_roundw
        case rel =>
          refine ⟨⟨_, rfl⟩, k + 1, by omega, by omega, by go_num, fun j x y hj he hf => ?_⟩
          rcases Nat.lt_succ_iff_lt_or_eq.1 hj with h | rfl
          · exact Hr.out j x y h he hf
          · rw [List.getElem?_eq_getElem hlt] at he
            rw [List.getElem?_eq_getElem hlb] at hf
            cases he
            cases hf
            exact Hg.out
        case measure => simp [intOf]; omega
      · have hb : (a[k] != b[k]) = true := by simpa using hg
        have Hg := Lib.hid hg
        clear hg
        go_wp2
        go_quiet (fail)
        go_wp2
        go_quiet (fail)
        go_wp2
        go_ret
        exact ⟨ret_bool (lessB_at k Hr.out (List.getElem?_eq_getElem hlt) (List.getElem?_eq_getElem hlb) Hg.out).symm, _, by rw [World.drewN_drewN, World.drewN_drewN]⟩
    · have Hr := Lib.hid hr
      have H3 := Lib.hid h3
      have K3 := Lib.hid k3
      have Hlt := Lib.hid hlt
      clear hr h3 k3 hlt
      by_cases hla : k < a.length
      · have hlb : ¬ k < b.length := fun h => Hlt.out ⟨hla, h⟩
        go_wp2
        go_ret
        refine ⟨ret_bool ?_, _, rfl⟩
        rw [lessB_end fun j x y hx hy => Hr.out j x y ?_ hx hy]
        have := (List.getElem?_eq_some_iff.1 hy).1
        omega
      · go_wp2
        go_ret
        refine ⟨ret_bool ?_, _, rfl⟩
        rw [lessB_end fun j x y hx hy => Hr.out j x y ?_ hx hy]
        have := (List.getElem?_eq_some_iff.1 hx).1
        omega


set_option maxHeartbeats 400000 in
theorem before_any (w : World) (va vb : Value) (a b : List Int) (ha : IntsAt w va a) (hb : IntsAt w vb b) :
    Calls Try.prog 19 #[va, vb] w fun e w' => e = .returned (.bool (lessB a b)) ∧ ∃ n, w' = w.drewN n := by
  obtain ⟨A, c, rfl, h1, h2, h3⟩ := ha
  obtain ⟨B, d, rfl, k1, k2, k3⟩ := hb
  go_enter Try.func19, Try.ntmps19
  go_wp2
  go_loopw [5] (fun i wr => (∃ n, wr = w.drewN n) ∧ ∃ k : Nat, k ≤ a.length ∧ k ≤ b.length ∧ i = .int .i64 k ∧ ∀ (j : Nat) (x y : Int), j < k → a[j]? = some x → b[j]? = some y → x = y) (fun i _ => a.length - (intOf i).toNat)
  case atStart => exact ⟨⟨0, rfl⟩, 0, Nat.zero_le _, Nat.zero_le _, rfl, fun j r _ h => absurd h (Nat.not_lt_zero _)⟩
  case round =>
    obtain ⟨⟨n, rfl⟩, k, hk, hkb, rfl, hr⟩ := hrel
    by_cases hlt : k < a.length ∧ k < b.length
    · obtain ⟨hlt, hlb⟩ := hlt
      obtain ⟨p, o, u, rfl, hc, rfl⟩ := h3 k a[k] (List.getElem?_eq_getElem hlt)
      obtain ⟨p', o', u', rfl, hc', rfl⟩ := k3 k b[k] (List.getElem?_eq_getElem hlb)
      have Hr := Lib.hid hr
      have H3 := Lib.hid h3
      have K3 := Lib.hid k3
      clear hr h3 k3
      have hx0 : (k : Int) < a.length := by omega
      have hx1 : (k : Int) < b.length := by omega
      by_cases hg : a[k] = b[k]
      · have hb : (a[k] != b[k]) = false := by simpa using hg
        have Hg := Lib.hid hg
        clear hg
        go_wp2
        go_quiet (fail)
        go_wp2
        go_roundw
        case rel =>
          refine ⟨⟨_, rfl⟩, k + 1, by omega, by omega, by go_num, fun j x y hj he hf => ?_⟩
          rcases Nat.lt_succ_iff_lt_or_eq.1 hj with h | rfl
          · exact Hr.out j x y h he hf
          · rw [List.getElem?_eq_getElem hlt] at he
            rw [List.getElem?_eq_getElem hlb] at hf
            cases he
            cases hf
            exact Hg.out
        case measure => simp [intOf]; omega
      · have hb : (a[k] != b[k]) = true := by simpa using hg
        have Hg := Lib.hid hg
        clear hg
        go_wp2
        go_quiet (fail)
        go_wp2
        go_quiet (fail)
        go_wp2
        go_ret
        exact ⟨ret_bool (lessB_at k Hr.out (List.getElem?_eq_getElem hlt) (List.getElem?_eq_getElem hlb) Hg.out).symm, _, by rw [World.drewN_drewN, World.drewN_drewN]⟩
    · have Hr := Lib.hid hr
      have H3 := Lib.hid h3
      have K3 := Lib.hid k3
      have Hlt := Lib.hid hlt
      clear hr h3 k3 hlt
      by_cases hla : k < a.length
      · have hlb : ¬ k < b.length := fun h => Hlt.out ⟨hla, h⟩
        go_wp2
        go_ret
        refine ⟨ret_bool ?_, _, rfl⟩
        rw [lessB_end fun j x y hx hy => Hr.out j x y ?_ hx hy]
        have := (List.getElem?_eq_some_iff.1 hy).1
        omega
      · go_wp2
        go_ret
        refine ⟨ret_bool ?_, _, rfl⟩
        rw [lessB_end fun j x y hx hy => Hr.out j x y ?_ hx hy]
        have := (List.getElem?_eq_some_iff.1 hx).1
        omega

end Go.Proofs.Ytgclbnfpipepfaa
