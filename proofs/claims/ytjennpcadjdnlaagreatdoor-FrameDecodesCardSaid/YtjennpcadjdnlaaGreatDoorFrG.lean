/-
  WALK: steleref13.Check.
-/
import Derived.Test.YtjennpcadjdnlaaGreatDoorFrE
namespace Go.Proofs.YtjennpcadjdnlaaGreatDoor
open Go.RowKit

theorem frE_kind {k r s i l d p : Int} {t : ByteArray} (h : k ≠ 66 ∧ k ≠ 68) : frE k r s i l d p t = 10 := by
  unfold frE
  rw [if_pos (by simp [h.1, h.2])]
theorem frE_bad {k r s i l d p : Int} {t : ByteArray} (hk : k = 66 ∨ k = 68) (h : d < 1 ∨ 8 < d ∨ p < 0 ∨ 7 < p ∨ r < 0 ∨ d + p ≤ r ∨ s < 1 ∨ 255 < s ∨ i < 0 ∨ 65535 < i ∨ l < 0 ∨ 28 < l) : frE k r s i l d p t = 2 := by
  unfold frE
  rw [if_neg (by simp only [Bool.and_eq_true, bne_iff_ne, ne_eq]; omega)]
  split
  · rfl
  · next h1 =>
    rw [if_pos]
    simp only [inR, Bool.or_eq_true, Bool.not_eq_true', Bool.and_eq_false_iff, decide_eq_false_iff_not] at h1 ⊢
    omega
theorem frE_rest {k r s i l d p : Int} {t : ByteArray} (hk : k = 66 ∨ k = 68) (h : ¬ (d < 1 ∨ 8 < d ∨ p < 0 ∨ 7 < p ∨ r < 0 ∨ d + p ≤ r ∨ s < 1 ∨ 255 < s ∨ i < 0 ∨ 65535 < i ∨ l < 0 ∨ 28 < l)) :
    frE k r s i l d p t = if (t.size : Int) != 28 || !padOK l t then 1 else 0 := by
  unfold frE
  rw [if_neg (by simp only [Bool.and_eq_true, bne_iff_ne, ne_eq]; omega), if_neg, if_neg]
  · simp only [inR, Bool.or_eq_true, Bool.not_eq_true', Bool.and_eq_false_iff, decide_eq_false_iff_not]
    omega
  · simp only [inR, Bool.or_eq_true, Bool.not_eq_true', Bool.and_eq_false_iff, decide_eq_false_iff_not]
    omega
/-- The bytes from l to j are zero. -/
def ZeroTo (t : ByteArray) (l j : Nat) : Prop := ∀ n, l ≤ n → n < j → (bs t)[n]? = some 0
theorem ZeroTo.pad {t : ByteArray} {l : Nat} (h : ZeroTo t l 28) (ht : t.size = 28) : padOK l t = true := by
  unfold padOK allIn
  rw [List.all_eq_true]
  intro x hx
  obtain ⟨n, hn⟩ := List.mem_iff_getElem?.1 hx
  rw [List.getElem?_drop, Int.toNat_natCast] at hn
  have hlt : l + n < (bs t).length := (List.getElem?_eq_some_iff.1 hn).1
  rw [bs_len, ht] at hlt
  rw [h (l + n) (by omega) hlt] at hn
  cases hn
  decide
theorem pad_not {t : ByteArray} {l j : Nat} (hl : l ≤ j) (hj : j < t.size) (h : (t[j]'hj).toNat ≠ 0) : padOK l t = false := by
  unfold padOK allIn
  rw [List.all_eq_false]
  refine ⟨(t[j]'hj).toNat, ?_, ?_⟩
  · refine List.mem_iff_getElem?.2 ⟨j - l, ?_⟩
    rw [List.getElem?_drop, Int.toNat_natCast, show l + (j - l) = j by omega]
    exact bs_get t j hj
  · simpa using h

set_option maxRecDepth 100000 in
set_option maxHeartbeats 16000000 in
theorem rcheck_all (w : World) (k r s i l d p a : Int) (t : ByteArray) :
    Calls Tryz.prog 117 #[frV k r s i l d p a t] w fun e w' => e = .returned (.int .i64 (frE k r s i l d p t)) ∧ Below w.heap.size w w' := by
  obtain ⟨X, hX⟩ : ∃ X, frE k r s i l d p t = X := ⟨_, rfl⟩
  rw [hX]
  unfold frV
  cases h1 : ((k != 66) && (k != 68)) with
  | true =>
    rw [Bool.and_eq_true] at h1
    obtain ⟨h1, h2⟩ := h1
    rw [frE_kind (by simpa using And.intro h1 h2)] at hX
    subst hX
    go_enter Tryz.func117, Tryz.ntmps117
    go_wp2
    go_ret
    exact ⟨rfl, (Below.refl _ _).alloc (Nat.le_refl _) _⟩
  | false =>
    have hk : (k != 66) = false ∨ ((k != 66) = true ∧ (k != 68) = false) := by
      cases h2 : (k != 66) with
      | false => exact .inl rfl
      | true => rw [h2] at h1; exact .inr ⟨rfl, by simpa using h1⟩
    have hK : k = 66 ∨ k = 68 := by simpa [Decidable.or_iff_not_imp_left] using h1
    have HB := Lib.hid (((Below.refl _ w).alloc (Nat.le_refl _) (.cells #[.int .i64 k, .int .i64 r, .int .i64 s, .int .i64 i, .int .i64 l, .int .i64 d, .int .i64 p, .int .u32 a, .string t] 26)).alloc (by simp) (.cells #[.int .i64 d, .int .i64 p] 23))
    clear h1
    by_cases hbad : d < 1 ∨ 8 < d ∨ p < 0 ∨ 7 < p ∨ r < 0 ∨ d + p ≤ r ∨ s < 1 ∨ 255 < s ∨ i < 0 ∨ 65535 < i ∨ l < 0 ∨ 28 < l
    · rw [frE_bad hK hbad] at hX
      subst hX
      clear hK
      cases g0 : decide (d < 1) with
      | true =>
        clear hbad
        rcases hk with hk | ⟨hk, hk2⟩
        all_goals
          go_enter Tryz.func117, Tryz.ntmps117
          go_wp2
          go_ret
          exact ⟨rfl, HB.out⟩
      | false =>
      cases g1 : decide (8 < d) with
      | true =>
        clear hbad
        rcases hk with hk | ⟨hk, hk2⟩
        all_goals
          go_enter Tryz.func117, Tryz.ntmps117
          go_wp2
          go_ret
          exact ⟨rfl, HB.out⟩
      | false =>
      cases g2 : decide (p < 0) with
      | true =>
        clear hbad
        rcases hk with hk | ⟨hk, hk2⟩
        all_goals
          go_enter Tryz.func117, Tryz.ntmps117
          go_wp2
          go_ret
          exact ⟨rfl, HB.out⟩
      | false =>
      cases g3 : decide (7 < p) with
      | true =>
        clear hbad
        rcases hk with hk | ⟨hk, hk2⟩
        all_goals
          go_enter Tryz.func117, Tryz.ntmps117
          go_wp2
          go_ret
          exact ⟨rfl, HB.out⟩
      | false =>
      cases g4 : decide (r < 0) with
      | true =>
        clear hbad
        rcases hk with hk | ⟨hk, hk2⟩
        all_goals
          go_enter Tryz.func117, Tryz.ntmps117
          go_wp2
          go_ret
          exact ⟨rfl, HB.out⟩
      | false =>
      have ew1 : IntKind.i64.wrap (d + p) = d + p := by (have e1 := of_decide_eq_false g0; have e2 := of_decide_eq_false g1; have e3 := of_decide_eq_false g2; have e4 := of_decide_eq_false g3; rw [IntKind.wrap_i64]; omega)
      cases g5 : decide (d + p ≤ r) with
      | true =>
        clear hbad
        rcases hk with hk | ⟨hk, hk2⟩
        all_goals
          go_enter Tryz.func117, Tryz.ntmps117
          go_wp2
          go_ret
          exact ⟨rfl, HB.out⟩
      | false =>
      cases g6 : decide (s < 1) with
      | true =>
        clear hbad
        rcases hk with hk | ⟨hk, hk2⟩
        all_goals
          go_enter Tryz.func117, Tryz.ntmps117
          go_wp2
          go_ret
          exact ⟨rfl, HB.out⟩
      | false =>
      cases g7 : decide (255 < s) with
      | true =>
        clear hbad
        rcases hk with hk | ⟨hk, hk2⟩
        all_goals
          go_enter Tryz.func117, Tryz.ntmps117
          go_wp2
          go_ret
          exact ⟨rfl, HB.out⟩
      | false =>
      cases g8 : decide (i < 0) with
      | true =>
        clear hbad
        rcases hk with hk | ⟨hk, hk2⟩
        all_goals
          go_enter Tryz.func117, Tryz.ntmps117
          go_wp2
          go_ret
          exact ⟨rfl, HB.out⟩
      | false =>
      cases g9 : decide (65535 < i) with
      | true =>
        clear hbad
        rcases hk with hk | ⟨hk, hk2⟩
        all_goals
          go_enter Tryz.func117, Tryz.ntmps117
          go_wp2
          go_ret
          exact ⟨rfl, HB.out⟩
      | false =>
      cases g10 : decide (l < 0) with
      | true =>
        clear hbad
        rcases hk with hk | ⟨hk, hk2⟩
        all_goals
          go_enter Tryz.func117, Tryz.ntmps117
          go_wp2
          go_ret
          exact ⟨rfl, HB.out⟩
      | false =>
      cases g11 : decide (28 < l) with
      | true =>
        clear hbad
        rcases hk with hk | ⟨hk, hk2⟩
        all_goals
          go_enter Tryz.func117, Tryz.ntmps117
          go_wp2
          go_ret
          exact ⟨rfl, HB.out⟩
      | false =>
      exfalso
      have e0 := of_decide_eq_false g0; have e1 := of_decide_eq_false g1; have e2 := of_decide_eq_false g2; have e3 := of_decide_eq_false g3; have e4 := of_decide_eq_false g4; have e5 := of_decide_eq_false g5; have e6 := of_decide_eq_false g6; have e7 := of_decide_eq_false g7; have e8 := of_decide_eq_false g8; have e9 := of_decide_eq_false g9; have e10 := of_decide_eq_false g10; have e11 := of_decide_eq_false g11
      omega
    · rw [frE_rest hK hbad] at hX
      obtain ⟨l, rfl⟩ : ∃ n : Nat, l = n := ⟨l.toNat, by omega⟩
      have g0 : decide (d < 1) = false := decide_eq_false (by omega)
      have g1 : decide (8 < d) = false := decide_eq_false (by omega)
      have g2 : decide (p < 0) = false := decide_eq_false (by omega)
      have g3 : decide (7 < p) = false := decide_eq_false (by omega)
      have g4 : decide (r < 0) = false := decide_eq_false (by omega)
      have g5 : decide (d + p ≤ r) = false := decide_eq_false (by omega)
      have g6 : decide (s < 1) = false := decide_eq_false (by omega)
      have g7 : decide (255 < s) = false := decide_eq_false (by omega)
      have g8 : decide (i < 0) = false := decide_eq_false (by omega)
      have g9 : decide (65535 < i) = false := decide_eq_false (by omega)
      have g10 : decide ((l : Int) < 0) = false := decide_eq_false (by omega)
      have g11 : decide (28 < (l : Int)) = false := decide_eq_false (by omega)
      have ew1 : IntKind.i64.wrap (d + p) = d + p := by rw [IntKind.wrap_i64]; omega
      have hlN : l ≤ 28 := by omega
      clear hK hbad
      by_cases hn : (t.size : Int) = 28
      · have hn2 : t.size = 28 := by omega
        have HX := Lib.hid hX
        clear hX
        rcases hk with hk | ⟨hk, hk2⟩
        all_goals
          go_enter Tryz.func117, Tryz.ntmps117
          go_wp2
          have HZ := Lib.hid (Box9.blk (Blk.new w 26 [.int .i64 k, .int .i64 r, .int .i64 s, .int .i64 i, .int .i64 (l : Int), .int .i64 d, .int .i64 p, .int .u32 a, .string t]))
          change Hid (Box9 (w.alloc (.cells #[.int .i64 k, .int .i64 r, .int .i64 s, .int .i64 i, .int .i64 (l : Int), .int .i64 d, .int .i64 p, .int .u32 a, .string t] 26)) _ _ _ _ _ _ _ _ _ _) at HZ
          have HZ2 := Lib.hid (HZ.out.keep ((Below.refl _ _).alloc (Nat.le_refl _) (.cells #[.int .i64 d, .int .i64 p] 23)))
          generalize (w.alloc (.cells #[.int .i64 k, .int .i64 r, .int .i64 s, .int .i64 i, .int .i64 (l : Int), .int .i64 d, .int .i64 p, .int .u32 a, .string t] 26)).alloc (.cells #[.int .i64 d, .int .i64 p] 23) = wz at *
          clear HZ
          go_loopw [4] (fun v wr => ∃ j : Nat, l ≤ j ∧ j ≤ 28 ∧ v = .int .i64 j ∧ ZeroTo t l j ∧ wr = wz) (fun v _ => 28 - (intOf v).toNat)
          case atStart => exact ⟨l, Nat.le_refl _, hlN, rfl, fun n h1 h2 => absurd h2 (by omega), rfl⟩
          case round =>
            obtain ⟨j, hlj, hj, rfl, hz, rfl⟩ := hrel
            have Hz := Lib.hid hz
            clear hz
            obtain ⟨c0, c1, c2, c3, c4, c5, c6, c7, c8⟩ := HZ2.out
            by_cases h : j < 28
            · have hjI : (j : Int) < 28 := by omega
              have hjs : j < t.size := by omega
              by_cases hb : (t[j]'hjs).toNat = 0
              · have hbe : (((t[j]'hjs).toNat : Int) != 0) = false := by rw [hb]; rfl
                have HN : Hid (ZeroTo t l (j + 1)) := Lib.hid (fun n h1 h2 => by
                  by_cases e : n = j
                  · subst e
                    rw [bs_get t n hjs, hb]
                  · exact Hz.out n h1 (by omega))
                go_wp2
                go_roundw
                case rel => exact ⟨j + 1, by omega, by omega, by go_num, HN.out, trivial⟩
                case measure => simp [intOf]; omega
              · have hbe : (((t[j]'hjs).toNat : Int) != 0) = true := by simpa using hb
                have HX1 : Hid (X = 1) := Lib.hid (by rw [← HX.out, pad_not hlj hjs hb]; simp)
                clear hb
                go_wp2
                go_ret
                exact ⟨by rw [HX1.out]; rfl, HB.out⟩
            · obtain rfl : j = 28 := by omega
              have HX1 : Hid (X = 0) := Lib.hid (by rw [← HX.out, Hz.out.pad hn2, hn]; rfl)
              go_wp2
              go_ret
              exact ⟨by rw [HX1.out]; rfl, HB.out⟩
      · have hn2 : ((t.size : Int) != 28) = true := by simpa using hn
        rw [hn2, if_pos (by simp)] at hX
        subst hX
        rcases hk with hk | ⟨hk, hk2⟩
        all_goals
          go_enter Tryz.func117, Tryz.ntmps117
          go_wp2
          go_ret
          exact ⟨rfl, HB.out⟩

theorem rcheck_any (w : World) (k r s i l d p a : Int) (t : ByteArray) (_ : t.size ≤ 1000) :
    Calls Tryz.prog 117 #[frV k r s i l d p a t] w fun e w' => e = .returned (.int .i64 (frE k r s i l d p t)) ∧ Below w.heap.size w w' := rcheck_all w k r s i l d p a t

end Go.Proofs.YtjennpcadjdnlaaGreatDoor
