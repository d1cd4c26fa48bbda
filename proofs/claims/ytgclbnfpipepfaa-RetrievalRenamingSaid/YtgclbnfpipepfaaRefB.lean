/-
  WALKS: the reference's even, Suffices, Cost of layer 56.
-/
import Derived.Test.YtgclbnfpipepfaaRefA
namespace Go.Proofs.Ytgclbnfpipepfaa
open Go.RowKit

/-- How many stripes: the first row's length. -/
def cols (m : List (List Bool)) : Nat := (m.getD 0 []).length
def evenB (m : List (List Bool)) : Bool := m.all (fun r => r.length == cols m)
theorem evenB_no {m : List (List Bool)} (k : Nat) (r : List Bool) (h : m[k]? = some r) (hr : r.length ≠ cols m) : evenB m = false := by
  unfold evenB
  rw [List.all_eq_false]
  exact ⟨r, List.mem_of_getElem? h, by simpa using hr⟩
theorem evenB_yes {m : List (List Bool)} (h : ∀ (k : Nat) (r : List Bool), m[k]? = some r → r.length = cols m) : evenB m = true := by
  unfold evenB
  rw [List.all_eq_true]
  intro r hr
  obtain ⟨k, hk⟩ := List.mem_iff_getElem?.1 hr
  simpa using h k r hk
theorem evenB_out {m : List (List Bool)} (h : evenB m = true) (k : Nat) (r : List Bool) (hk : m[k]? = some r) : r.length = cols m := by
  have := List.all_eq_true.1 h r (List.mem_of_getElem? hk)
  simpa using this

set_option maxHeartbeats 400000 in
theorem even_any (w : World) (v : Value) (m : List (List Bool)) (hm : RowsAt w v m) :
    Calls Try.prog 25 #[v] w fun e w' => e = .returned (.bool (evenB m)) ∧ ∃ n, w' = w.drewN n := by
  obtain ⟨A, c, rfl, h1, h2, h3⟩ := hm
  go_enter Try.func25, Try.ntmps25
  go_wp2
  go_loopw [3] (fun i wr => (∃ n, wr = w.drewN n) ∧ ∃ k : Nat, k ≤ m.length ∧ i = .int .i64 k ∧ ∀ (j : Nat) (r : List Bool), j < k → m[j]? = some r → r.length = cols m) (fun i _ => m.length - (intOf i).toNat)
  case atStart => exact ⟨⟨0, rfl⟩, 0, Nat.zero_le _, rfl, fun j r h => absurd h (Nat.not_lt_zero _)⟩
  case round =>
    obtain ⟨⟨n, rfl⟩, k, hk, rfl, hr⟩ := hrel
    by_cases hlt : k < m.length
    · obtain ⟨b, o, u, rfl, hc, A2, c2, rfl, h4, h5, -⟩ := h3 k m[k] (List.getElem?_eq_getElem hlt)
      obtain ⟨b', o', u', e', hc0, A3, c3, rfl, h6, h7, -⟩ := h3 0 m[0] (List.getElem?_eq_getElem (by omega))
      cases e'
      rw [Nat.add_zero] at hc0
      have Hr := Lib.hid hr
      have H3 := Lib.hid h3
      have hx0 : (k : Int) < m.length := by omega
      have hx1 : (0 : Int) < m.length := by omega
      have he0 : cols m = m[0].length := by
        have h0 : 0 < m.length := by omega
        simp [cols, List.getD, h0]
      have He0 := Lib.hid he0
      clear hr h3 he0
      by_cases hg : m[k].length = m[0].length
      · have hb : ((m[k].length : Int) != (m[0].length : Int)) = false := by rw [bne_eq_false_iff_eq]; omega
        have Hg := Lib.hid hg
        clear hg
        go_wp2
        go_quiet (fail)
        go_wp2
        go_roundw
        case rel =>
          refine ⟨⟨_, rfl⟩, k + 1, by omega, by go_num, fun j r hj he => ?_⟩
          rcases Nat.lt_succ_iff_lt_or_eq.1 hj with h | rfl
          · exact Hr.out j r h he
          · rw [List.getElem?_eq_getElem hlt] at he
            cases he
            rw [He0.out]
            exact Hg.out
        case measure => simp [intOf]; omega
      · have hb : ((m[k].length : Int) != (m[0].length : Int)) = true := by rw [bne_iff_ne]; omega
        have Hg := Lib.hid hg
        clear hg
        go_wp2
        go_quiet (fail)
        go_wp2
        go_ret
        exact ⟨ret_bool (evenB_no k _ (List.getElem?_eq_getElem hlt) (by rw [He0.out]; exact Hg.out)).symm, _, World.drewN_drewN _ _ _⟩
    · have Hr := Lib.hid hr
      have H3 := Lib.hid h3
      clear hr h3
      go_wp2
      go_ret
      refine ⟨ret_bool (evenB_yes fun j r he => Hr.out j r ?_ he).symm, _, rfl⟩
      have := (List.getElem?_eq_some_iff.1 he).1
      omega

/-- How many of the first k reels have a readable block of stripe s and are chosen. -/
def cnt (m : List (List Bool)) (p : Nat → Bool) (s : Nat) : Nat → Nat
  | 0 => 0
  | k + 1 => cnt m p s k + if (m.getD k []).getD s false && p k then 1 else 0
theorem cnt_le (m : List (List Bool)) (p : Nat → Bool) (s k : Nat) : cnt m p s k ≤ k := by
  induction k with
  | zero => exact Nat.le_refl _
  | succ k ih => rw [cnt]; split <;> omega
def suffB (data : Int) (p : Nat → Bool) (m : List (List Bool)) : Bool :=
  decide (1 ≤ data) && decide (data ≤ 8) && evenB m && (List.range (cols m)).all (fun s => decide (data ≤ cnt m p s m.length))
theorem suffB_lo {data : Int} {p : Nat → Bool} {m : List (List Bool)} (h : data < 1) : suffB data p m = false := by
  unfold suffB
  rw [decide_eq_false (by omega)]; rfl
theorem suffB_hi {data : Int} {p : Nat → Bool} {m : List (List Bool)} (h : 8 < data) : suffB data p m = false := by
  unfold suffB
  rw [decide_eq_false (p := data ≤ 8) (by omega)]; simp
theorem suffB_ragged {data : Int} {p : Nat → Bool} {m : List (List Bool)} (h : evenB m = false) : suffB data p m = false := by
  unfold suffB
  rw [h]; simp
theorem suffB_less {data : Int} {p : Nat → Bool} {m : List (List Bool)} (s : Nat) (hs : s < cols m) (h : (cnt m p s m.length : Int) < data) : suffB data p m = false := by
  unfold suffB
  rw [Bool.and_eq_false_iff]
  right
  rw [List.all_eq_false]
  exact ⟨s, List.mem_range.2 hs, by simp; omega⟩
theorem suffB_yes {data : Int} {p : Nat → Bool} {m : List (List Bool)} (h1 : 1 ≤ data) (h2 : data ≤ 8) (he : evenB m = true) (h : ∀ s, s < cols m → data ≤ cnt m p s m.length) : suffB data p m = true := by
  unfold suffB
  rw [decide_eq_true h1, decide_eq_true h2, he]
  simp only [Bool.true_and, List.all_eq_true, List.mem_range, decide_eq_true_eq]
  exact h
theorem suffB_out {data : Int} {p : Nat → Bool} {m : List (List Bool)} (h : suffB data p m = true) : 1 ≤ data ∧ data ≤ 8 ∧ evenB m = true ∧ ∀ s, s < cols m → data ≤ cnt m p s m.length := by
  unfold suffB at h
  simp only [Bool.and_eq_true, List.all_eq_true, List.mem_range, decide_eq_true_eq] at h
  exact ⟨h.1.1.1, h.1.1.2, h.1.2, h.2⟩

set_option maxHeartbeats 1000000 in
theorem suff_any (w : World) (data : Int) (vl vh : Value) (l : List Int) (m : List (List Bool)) (hl : IntsAt w vl l) (hm : RowsAt w vh m) (hsz : m.length ≤ 1000000) :
    Calls Try.prog 18 #[.int .i64 data, vl, vh] w fun e w' => e = .returned (.bool (suffB data (fun r => inB l r) m)) ∧ ∃ n, w' = w.drewN n := by
  by_cases hlo : data < 1
  · go_enter Try.func18, Try.ntmps18
    go_wp2
    go_ret
    exact ⟨ret_bool (suffB_lo hlo).symm, 0, rfl⟩
  by_cases hhi : 8 < data
  · go_enter Try.func18, Try.ntmps18
    go_wp2
    go_ret
    exact ⟨ret_bool (suffB_hi hhi).symm, 0, rfl⟩
  have hev := even_any w vh m hm
  cases he : evenB m with
  | false =>
    rw [he] at hev
    have He := Lib.hid he
    have Hev := Lib.hid hev
    clear he hev
    go_enter Try.func18, Try.ntmps18
    go_wp2_with (go_at_call 25; refine Hev.out.mono ?_; rintro e w' ⟨rfl, n, rfl⟩)
    go_ret
    exact ⟨ret_bool (suffB_ragged He.out).symm, _, rfl⟩
  | true =>
    rw [he] at hev
    have He := Lib.hid he
    have Hev := Lib.hid hev
    have Hl := Lib.hid hl
    clear he hev hl
    obtain ⟨A, c, rfl, h1, h2, h3⟩ := hm
    by_cases h0 : m.length = 0
    · have hz : ((m.length : Int) == 0) = true := by simpa using h0
      have H0 := Lib.hid h0
      have H3 := Lib.hid h3
      clear h0 h3
      go_enter Try.func18, Try.ntmps18
      go_wp2_with (go_at_call 25; refine Hev.out.mono ?_; rintro e w' ⟨rfl, n, rfl⟩)
      go_ret
      refine ⟨ret_bool (suffB_yes (by omega) (by omega) He.out ?_).symm, _, rfl⟩
      have : m = [] := List.eq_nil_of_length_eq_zero H0.out
      subst this
      intro s hs
      simp [cols] at hs
    · have hz : ((m.length : Int) == 0) = false := by simpa using h0
      obtain ⟨b, o, u, rfl, hc0, A3, c3, rfl, h6, h7, -⟩ := h3 0 m[0] (List.getElem?_eq_getElem (by omega))
      rw [Nat.add_zero] at hc0
      have hx1 : (0 : Int) < m.length := by omega
      have hc1 : cols m = m[0].length := by
        have h0 : 0 < m.length := by omega
        simp [cols, List.getD, h0]
      have Hc := Lib.hid hc1
      have H3 := Lib.hid h3
      clear h3 hc1
      go_enter Try.func18, Try.ntmps18
      go_wp2_with (go_at_call 25; refine Hev.out.mono ?_; rintro e w' ⟨rfl, n, rfl⟩)
      go_loopw [7] (fun i wr => (∃ n, wr = w.drewN n) ∧ ∃ s : Nat, s ≤ m[0].length ∧ i = .int .i64 s ∧ ∀ t, t < s → data ≤ cnt m (fun r => inB l r) t m.length) (fun i _ => m[0].length - (intOf i).toNat)
      case atStart => exact ⟨⟨_, rfl⟩, 0, Nat.zero_le _, rfl, fun t h => absurd h (Nat.not_lt_zero _)⟩
      case round =>
        obtain ⟨⟨n1, rfl⟩, s, hs, rfl, hd⟩ := hrel
        have Hd := Lib.hid hd
        clear hd
        by_cases hls : s < m[0].length
        · go_wp2
          go_loopw [8, 9] (fun q i wr => (∃ n, wr = w.drewN n) ∧ ∃ k : Nat, k ≤ m.length ∧ i = .int .i64 k ∧ q = .int .i64 (cnt m (fun r => inB l r) s k)) (fun _ i _ => m.length - (intOf i).toNat)
          case atStart => exact ⟨⟨_, rfl⟩, 0, Nat.zero_le _, rfl, rfl⟩
          case round =>
            obtain ⟨⟨n2, rfl⟩, k, hk, rfl, rfl⟩ := hrel
            have hle := cnt_le m (fun r => inB l r) s k
            by_cases hlk : k < m.length
            · obtain ⟨b', o', u', e', hck, A4, c4, rfl, h8, h9, h10⟩ := H3.out k m[k] (List.getElem?_eq_getElem hlk)
              cases e'
              have hrow := evenB_out He.out k m[k] (List.getElem?_eq_getElem hlk)
              rw [Hc.out] at hrow
              have hsk : s < m[k].length := by omega
              obtain ⟨b5, o5, u5, rfl, hc5, rfl⟩ := h10 s m[k][s] (List.getElem?_eq_getElem hsk)
              have Hrow := Lib.hid hrow
              have hsI : (s : Int) < m[k].length := by omega
              have hkI : (k : Int) < m.length := by omega
              have hget : (m.getD k []).getD s false = m[k][s] := by simp [List.getD, hlk, hsk]
              have H10 := Lib.hid h10
              clear h10 hrow
              cases hv : m[k][s] with
              | false =>
                have Hs : cnt m (fun r => inB l r) s (k + 1) = cnt m (fun r => inB l r) s k := by rw [cnt, hget, hv]; rfl
                have HS := Lib.hid Hs
                have Hget := Lib.hid hget
                rw [hv] at hc5
                clear Hs hget hv
                go_wp2
                go_roundw
                case rel => exact ⟨⟨_, rfl⟩, k + 1, by omega, by go_num, by rw [HS.out]⟩
                case measure => simp [intOf]; omega
              | true =>
                have Hs : cnt m (fun r => inB l r) s (k + 1) = cnt m (fun r => inB l r) s k + if inB l k then 1 else 0 := by rw [cnt, hget, hv]; simp
                have Hin := Lib.hid (in_any (w.drewN n2) vl l k (SlAt.keep Hl.out (fun _ _ h => h) plainR_keep))
                have Hget := Lib.hid hget
                rw [hv] at hc5
                clear hget hv
                cases hb : inB l k with
                | false =>
                  rw [hb] at Hin Hs
                  have HS := Lib.hid Hs
                  clear Hs hb
                  go_wp2_with (go_at_call 27; refine Hin.out.mono ?_; rintro e w' ⟨rfl, rfl⟩)
                  go_roundw
                  case rel => exact ⟨⟨_, rfl⟩, k + 1, by omega, by go_num, by rw [HS.out]; simp⟩
                  case measure => simp [intOf]; omega
                | true =>
                  rw [hb] at Hin Hs
                  have HS := Lib.hid Hs
                  clear Hs hb
                  go_wp2_with (go_at_call 27; refine Hin.out.mono ?_; rintro e w' ⟨rfl, rfl⟩)
                  go_roundw
                  case rel => exact ⟨⟨_, rfl⟩, k + 1, by omega, by go_num, by rw [HS.out]; simp⟩
                  case measure => simp [intOf]; omega
            · have hkm : k = m.length := by omega
              subst hkm
              by_cases hlt : (cnt m (fun r => inB l r) s m.length : Int) < data
              · go_wp2
                go_ret
                exact ⟨ret_bool (suffB_less s (by rw [Hc.out]; exact hls) hlt).symm, _, rfl⟩
              · go_wp2
                go_roundw
                case rel =>
                  refine ⟨⟨_, rfl⟩, s + 1, by omega, by go_num, fun t ht => ?_⟩
                  rcases Nat.lt_succ_iff_lt_or_eq.1 ht with h | rfl
                  · exact Hd.out t h
                  · omega
                case measure => simp [intOf]; omega
        · go_wp2
          go_ret
          exact ⟨ret_bool (suffB_yes (by omega) (by omega) He.out fun t ht => Hd.out t (by rw [Hc.out] at ht; omega)).symm, _, rfl⟩

end Go.Proofs.Ytgclbnfpipepfaa
