/-
  WALKS: the program's Suffices of layer 56.
-/
import Derived.Test.YtgclbnfpipepfaaRunB
namespace Go.Proofs.Ytgclbnfpipepfaa
open Go.RowKit Go.Maps

theorem cnt_congr {m : List (List Bool)} {p q : Nat → Bool} (s N : Nat) (h : ∀ r, r < N → p r = q r) : cnt m p s N = cnt m q s N := by
  induction N with
  | zero => rfl
  | succ N ih => rw [cnt, cnt, ih fun r hr => h r (by omega), h N (by omega)]
theorem cnt_add {m : List (List Bool)} {p q : Nat → Bool} (s N x : Nat) (hx : x < N) (hp : p x = false) (hq : ∀ r, q r = (p r || r == x)) :
    cnt m q s N = cnt m p s N + if (m.getD x []).getD s false then 1 else 0 := by
  induction N with
  | zero => omega
  | succ N ih =>
    rw [cnt, cnt]
    by_cases e : x = N
    · subst e
      rw [cnt_congr s x (p := q) (q := p) (fun r hr => by rw [hq]; simp; intro h; omega), hp, hq, hp]
      simp
    · rw [ih (by omega), hq N]
      have : (N == x) = false := by simp; omega
      rw [this, Bool.or_false]
      omega
theorem cnt_zero {m : List (List Bool)} {p : Nat → Bool} (s N : Nat) (h : ∀ r, r < N → p r = false) : cnt m p s N = 0 := by
  induction N with
  | zero => rfl
  | succ N ih => rw [cnt, ih fun r hr => h r (by omega), h N (by omega)]; simp

/-- The chosen reels among the first k numbers of the list. -/
def chosenB (l : List Int) (n k : Nat) (x : Int) : Bool := inB (l.take k) x && decide (0 ≤ x) && decide (x < n)
theorem chosenB_no (l : List Int) (n k : Nat) (hk : k < l.length) (h : ¬ (0 ≤ l[k] ∧ l[k] < n)) (x : Int) : chosenB l n (k + 1) x = chosenB l n k x := by
  unfold chosenB
  rw [inB_take l k hk]
  by_cases e : x = l[k]
  · subst e
    by_cases h0 : 0 ≤ l[k]
    · rw [decide_eq_false (p := l[k] < _) (fun h1 => h ⟨h0, h1⟩)]; simp
    · rw [decide_eq_false h0]; simp
  · have : (x == l[k]) = false := by simpa using e
    rw [this, Bool.or_false]
theorem chosenB_yes (l : List Int) (n k : Nat) (hk : k < l.length) (h0 : 0 ≤ l[k]) (h1 : l[k] < n) (x : Int) : chosenB l n (k + 1) x = (chosenB l n k x || x == l[k]) := by
  unfold chosenB
  rw [inB_take l k hk]
  by_cases e : x = l[k]
  · subst e
    rw [decide_eq_true h0, decide_eq_true h1]; simp
  · have : (x == l[k]) = false := by simpa using e
    rw [this, Bool.or_false, Bool.or_false]
theorem chosenB_all (l : List Int) (n : Nat) (r : Nat) (hr : r < n) : chosenB l n l.length r = inB l r := by
  unfold chosenB
  rw [List.take_length, decide_eq_true (by omega), decide_eq_true (by omega)]; simp

set_option maxHeartbeats 2000000 in
theorem rsuff_any (w : World) (data : Int) (vl vh : Value) (l : List Int) (m : List (List Bool)) (hl : IntsAt w vl l) (hm : RowsAt w vh m) (hsz : m.length ≤ 1000000) (_hlsz : l.length ≤ 1000000) :
    Calls Try.prog 17 #[.int .i64 data, vl, vh] w fun e w' => e = .returned (.bool (suffB data (fun r => inB l r) m)) ∧ Below w.heap.size w w' := by
  by_cases hlo : data < 1
  · go_enter Try.func17, Try.ntmps17
    go_wp2
    go_ret
    exact ⟨ret_bool (suffB_lo hlo).symm, Below.refl _ _⟩
  by_cases hhi : 8 < data
  · go_enter Try.func17, Try.ntmps17
    go_wp2
    go_ret
    exact ⟨ret_bool (suffB_hi hhi).symm, Below.refl _ _⟩
  have hev := reven_any w vh m hm
  cases he : evenB m with
  | false =>
    rw [he] at hev
    have He := Lib.hid he
    have Hev := Lib.hid hev
    clear he hev
    go_enter Try.func17, Try.ntmps17
    go_wp2_with (go_at_call 22; refine Hev.out.mono ?_; rintro e w' ⟨rfl, rfl⟩)
    go_ret
    exact ⟨ret_bool (suffB_ragged He.out).symm, (Below.refl _ _).alloc (Nat.le_refl _) _⟩
  | true =>
    rw [he] at hev
    have He := Lib.hid he
    have Hev := Lib.hid hev
    clear he hev
    obtain ⟨A, c, rfl, h1, h2, h3⟩ := hm
    obtain ⟨L, d, rfl, k1, k2, k3⟩ := hl
    by_cases h0 : m.length = 0
    · have hz : ((m.length : Int) == 0) = true := by simpa using h0
      have H0 := Lib.hid h0
      have H3 := Lib.hid h3
      clear h0 h3
      go_enter Try.func17, Try.ntmps17
      go_wp2_with (go_at_call 22; refine Hev.out.mono ?_; rintro e w' ⟨rfl, rfl⟩)
      go_ret
      refine ⟨ret_bool (suffB_yes (by omega) (by omega) He.out ?_).symm, (Below.refl _ _).alloc (Nat.le_refl _) _⟩
      have : m = [] := List.eq_nil_of_length_eq_zero H0.out
      subst this
      intro s hs
      simp [cols] at hs
    · have hz : ((m.length : Int) == 0) = false := by simpa using h0
      obtain ⟨b, o, u, rfl, hc0, A3, c3, rfl, h6, h7, -⟩ := h3 0 m[0] (List.getElem?_eq_getElem (by omega))
      rw [Nat.add_zero] at hc0
      have hx1 : (0 : Int) < m.length := by omega
      have hc1 : cols m = m[0].length := by
        have h0 : 0 < m.length := by omega
        simp [cols, List.getD, h0]
      have Hc := Lib.hid hc1
      have H3 := Lib.hid h3
      clear h3 hc1
      have hmm := @run_makeMap Try.prog
      go_enter Try.func17, Try.ntmps17
      go_wp2_with (go_at_call 22; refine Hev.out.mono ?_; rintro e w' ⟨rfl, rfl⟩)
      have hBB : Below w.heap.size w ((w.alloc (.cells #[.slice (some ⟨b, o, none⟩) m.length c] 23)).alloc (.map #[] 0)) := ((Below.refl _ _).alloc (Nat.le_refl _) _).alloc (by simp) _
      go_loopw [30] (fun i wr => ∃ (k : Nat) (D : DataW Unit), k ≤ l.length ∧ i = .int .i64 k ∧
        wr.ownsMap Try.prog 3 (plainElem Try.prog 4) (w.heap.size + 1) k D ∧ SetD D (chosenB l m.length k) ∧ Below w.heap.size w wr ∧ w.heap.size + 1 ≤ wr.heap.size) (fun i _ => l.length - (intOf i).toNat)
      case atStart =>
        refine ⟨0, .map [], Nat.zero_le _, rfl, ?_, SetD.empty.congr (fun x => by unfold chosenB; rfl), hBB, by simp⟩
        have := World.ownsMap_made (H := Unit) (w.alloc (.cells #[.slice (some ⟨b, o, none⟩) m.length c] 23)) Try.prog 3 (plainElem Try.prog 4)
        simpa using this
      case round =>
        obtain ⟨k, D, hk, rfl, hown, hD, hB, hs1⟩ := hrel
        have HD := Lib.hid hD
        clear hD
        by_cases hlt : k < l.length
        · obtain ⟨b2, o2, u2, rfl, hck, rfl⟩ := k3 k l[k] (List.getElem?_eq_getElem hlt)
          replace hck := cell_below hB hck
          have hkI : (k : Int) < l.length := by omega
          by_cases hin : 0 ≤ l[k] ∧ l[k] < m.length
          · obtain ⟨i0, i1⟩ := hin
            have hch := chosenB_yes l m.length k hlt i0 i1
            obtain ⟨n, hn⟩ : ∃ n : Nat, l[k] = n := ⟨l[k].toNat, by omega⟩
            rw [hn] at hck i0 i1 hch
            have Hch := Lib.hid hch
            have Hn := Lib.hid hn
            have K3 := Lib.hid k3
            have hkey : keyOf Try.prog 3 (.int .i64 n) = some (.int .i64 n) := keyOf_int_mk Try.underlying3 (wf_nat (by omega))
            clear hch hn k3
            go_wp2_with (at_mapUpdate; refine wpList_mapUpdate_own _ rfl _ _ _ 46 rfl 3 4 keyI Try.underlying46 _ (w.heap.size + 1) k _ rfl hown (by unfold maxLen; omega) _ _ _ rfl rfl hkey _ [] (plainElem_bool Try.underlying4 true) ?_; intro w1 hown1 hgrow1)
            go_roundw
            case rel => exact ⟨k + 1, _, by omega, by go_num, hown1, (HD.out.put n).congr fun x => (Hch.out x).symm, hB.grown hgrow1 hB.size (fun j hj => by cases hj; omega), Nat.le_trans hs1 hgrow1.size⟩
            case measure => simp [intOf]; omega
          · have hch := chosenB_no l m.length k hlt hin
            have Hch := Lib.hid hch
            have Hin := Lib.hid hin
            have K3 := Lib.hid k3
            clear hch hin k3
            by_cases hneg : l[k] < 0
            · go_wp2
              go_roundw
              case rel => exact ⟨k + 1, D, by omega, by go_num, hown.mono (by omega), HD.out.congr fun x => (Hch.out x).symm, hB, hs1⟩
              case measure => simp [intOf]; omega
            · have hge : (m.length : Int) ≤ l[k] := by have := Hin.out; omega
              have hpos : 0 ≤ l[k] := by omega
              go_wp2
              go_roundw
              case rel => exact ⟨k + 1, D, by omega, by go_num, hown.mono (by omega), HD.out.congr fun x => (Hch.out x).symm, hB, hs1⟩
              case measure => simp [intOf]; omega
        · have hkl : k = l.length := by omega
          subst hkl
          have K3 := Lib.hid k3
          have hc0w := cell_below hB hc0
          have Hc0 := Lib.hid hc0
          have Hb := Lib.hid hB
          clear k3 hc0 hBB
          go_wp2
          go_loopw [49] (fun i wo => ∃ s : Nat, s ≤ m[0].length ∧ i = .int .i64 s ∧
            wo.ownsMap Try.prog 3 (plainElem Try.prog 4) (w.heap.size + 1) l.length D ∧ Below w.heap.size w wo ∧ w.heap.size + 1 ≤ wo.heap.size ∧
            ∀ t, t < s → data ≤ cnt m (fun r => inB l r) t m.length) (fun i _ => m[0].length - (intOf i).toNat)
          case atStart => exact ⟨0, Nat.zero_le _, rfl, hown, Hb.out, hs1, fun t h => absurd h (Nat.not_lt_zero _)⟩
          case round =>
            clear hown hB hs1 hc0w
            obtain ⟨s, hs, rfl, hown, hB, hs1, hd⟩ := hrel
            obtain ⟨wo, rfl⟩ : ∃ wo : World, wo = wr := ⟨_, rfl⟩
            have Hd := Lib.hid hd
            clear hd
            by_cases hls : s < m[0].length
            · go_wp2_with (at_range; refine wpList_range_own _ rfl _ 46 rfl 3 4 keyI Try.underlying46 _ (w.heap.size + 1) l.length D rfl hown ?_; intro w0 hrg0 hg0 hs0)
              go_frame
              go_loopw [11] (fun n wi => ∃ (left : Lit → Bool) (cn : Nat), wi.ranges Try.prog 3 (plainElem Try.prog 4) (w.heap.size + 1) wo.heap.size l.length D left cn ∧
                n = .int .i64 (cnt m (fun r => chosenB l m.length l.length r && !left (.int .i64 r)) s m.length) ∧ Below w.heap.size w wi ∧ w.heap.size + 1 ≤ wi.heap.size ∧
                (∀ x : Int, left (.int .i64 x) = true → chosenB l m.length l.length x = true)) (fun _ wi => wi.rangeLeft (w.heap.size + 1) wo.heap.size)
              case atStart =>
                refine ⟨_, _, hrg0, ?_, hB.grown hg0 hB.size (fun j hj => by cases hj), by omega, fun x hx => by rw [HD.out.has_] at hx; exact hx⟩
                rw [cnt_zero s m.length fun r hr => by rw [HD.out.has_]; cases chosenB l m.length l.length r <;> rfl]
                rfl
              case round =>
                clear hrg0 hg0 hs0 hB hown
                obtain ⟨left, cn, hrg, rfl, hB, hs2, hleft⟩ := hrel
                have hle := cnt_le m (fun r => chosenB l m.length l.length r && !left (.int .i64 r)) s m.length
                have Hleft := Lib.hid hleft
                clear hleft
                go_wp2_with (at_next; refine wpList_next_ranges_ib _ rfl _ rfl 3 4 keyI Try.underlying3 Try.underlying4 (w.heap.size + 1) wo.heap.size l.length D left cn rfl hrg ?_ ?_)
                · intro _ hl0
                  have hcnt : cnt m (fun r => chosenB l m.length l.length r && !left (.int .i64 r)) s m.length = cnt m (fun r => inB l r) s m.length :=
                    cnt_congr s m.length fun r hr => by rw [hl0, chosenB_all l m.length r hr]; simp
                  have Hcnt := Lib.hid hcnt
                  have hown := hrg.owns
                  clear hcnt hl0 hrg
                  by_cases hless : (cnt m (fun r => chosenB l m.length l.length r && !left (.int .i64 r)) s m.length : Int) < data
                  · go_wp2
                    go_ret
                    exact ⟨ret_bool (suffB_less s (by rw [Hc.out]; exact hls) (by rw [← Hcnt.out]; exact hless)).symm, hB⟩
                  · go_wp2
                    go_roundw
                    case rel =>
                      refine ⟨s + 1, by omega, by go_num, hown, hB, hs2, fun t ht => ?_⟩
                      rcases Nat.lt_succ_iff_lt_or_eq.1 ht with h | rfl
                      · exact Hd.out t h
                      · rw [← Hcnt.out]; omega
                    case measure => simp [intOf]; omega
                · intro x u' w1 cnt' hlk hrg1 hlt1 hg1 hs3 hen
                  have hB1 := hB.grown hg1 hB.size (fun j hj => by cases hj; omega)
                  have hch := Hleft.out x hlk
                  have hx0 : 0 ≤ x := by unfold chosenB at hch; simp only [Bool.and_eq_true, decide_eq_true_eq] at hch; exact hch.1.2
                  have hxm : x < m.length := by unfold chosenB at hch; simp only [Bool.and_eq_true, decide_eq_true_eq] at hch; exact hch.2
                  obtain ⟨k, rfl⟩ : ∃ k : Nat, x = k := ⟨x.toNat, by omega⟩
                  have hkm : k < m.length := by omega
                  obtain ⟨b', o', w', e', hck, A4, c4, rfl, h8, h9, h10⟩ := H3.out k m[k] (List.getElem?_eq_getElem hkm)
                  cases e'
                  have hrow := evenB_out He.out k m[k] (List.getElem?_eq_getElem hkm)
                  rw [Hc.out] at hrow
                  have hsk : s < m[k].length := by omega
                  obtain ⟨b5, o5, u5, rfl, hc5, rfl⟩ := h10 s m[k][s] (List.getElem?_eq_getElem hsk)
                  have hsI : (s : Int) < m[k].length := by omega
                  have hkI : (k : Int) < m.length := by omega
                  have hget : (m.getD k []).getD s false = m[k][s] := by simp [List.getD, hkm, hsk]
                  replace hck := cell_below hB1 hck
                  replace hc5 := cell_below hB1 hc5
                  have hadd := cnt_add (m := m) (p := fun r => chosenB l m.length l.length r && !left (.int .i64 r)) (q := fun r => chosenB l m.length l.length r && !(left (.int .i64 r) && !(Lit.int .i64 r).sameKey (.int .i64 k))) s m.length k hkm
                    (by simp [hlk]) (fun r => by
                      by_cases e : r = k
                      · subst e; rw [sameKey_int, hch]; simp
                      · rw [sameKey_int]
                        have e1 : ((r : Int) == (k : Int)) = false := by simp; omega
                        have e2 : (r == k) = false := by simp; omega
                        rw [e1, e2]; simp)
                  rw [hget] at hadd
                  have Hrow := Lib.hid hrow
                  have H10 := Lib.hid h10
                  have Hlk := Lib.hid hlk
                  have Hget := Lib.hid hget
                  have Hch := Lib.hid hch
                  have hnew : ∀ y : Int, (left (.int .i64 y) && !(Lit.int .i64 y).sameKey (.int .i64 k)) = true → chosenB l m.length l.length y = true := fun y hy => by
                    simp only [Bool.and_eq_true] at hy
                    exact Hleft.out y hy.1
                  have Hnew := Lib.hid hnew
                  clear h10 hrow hlk hget hch hnew
                  cases hv : m[k][s] with
                  | false =>
                    rw [hv] at hc5 hadd
                    have HS := Lib.hid hadd
                    clear hadd hv
                    go_wp2
                    go_roundw
                    case rel => exact ⟨_, cnt', hrg1, by rw [HS.out]; simp, hB1, by omega, Hnew.out⟩
                    case measure => rw [hrg1.left_eq, hrg.left_eq]; omega
                  | true =>
                    rw [hv] at hc5 hadd
                    have HS := Lib.hid hadd
                    clear hadd hv
                    go_wp2
                    go_roundw
                    case rel => exact ⟨_, cnt', hrg1, by rw [HS.out]; simp, hB1, by omega, Hnew.out⟩
                    case measure => rw [hrg1.left_eq, hrg.left_eq]; omega
            · go_wp2
              go_ret
              exact ⟨ret_bool (suffB_yes (by omega) (by omega) He.out fun t ht => Hd.out t (by rw [Hc.out] at ht; omega)).symm, hB⟩

end Go.Proofs.Ytgclbnfpipepfaa
