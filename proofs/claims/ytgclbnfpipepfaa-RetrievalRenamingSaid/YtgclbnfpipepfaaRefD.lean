/-
  WALK: the reference's Plan of layer 56.
-/
import Derived.Test.YtgclbnfpipepfaaPlanA
namespace Go.Proofs.Ytgclbnfpipepfaa
open Go.RowKit

/-- The reels of the first k whose bit is set. -/
def bitsK (s : Nat) : Nat → List Int
  | 0 => []
  | k + 1 => if s.testBit k then bitsK s k ++ [(k : Int)] else bitsK s k
def sumK (c : List Int) (s : Nat) : Nat → Int
  | 0 => 0
  | k + 1 => if s.testBit k then sumK c s k + c.getD k 0 else sumK c s k
def xbetter (n : Int) (l : List Int) : Option (List Int × Int) → Bool
  | none => true
  | some b => decide (n < b.2) || (decide (n = b.2) && lessB l b.1)
/-- One step of the reference's search. -/
def xpick (data : Int) (c : List Int) (m : List (List Bool)) (acc : Option (List Int × Int)) (s : Nat) : Option (List Int × Int) :=
  if xbetter (sumK c s c.length) (bitsK s c.length) acc && suffB data (fun r => inB (bitsK s c.length) r) m
    then some (bitsK s c.length, sumK c s c.length) else acc
def xacc (data : Int) (c : List Int) (m : List (List Bool)) : Nat → Option (List Int × Int)
  | 0 => none
  | s + 1 => xpick data c m (xacc data c m s) s
def xplanB (data : Int) (c : List Int) (m : List (List Bool)) : Except Int (List Int) :=
  if data < 1 ∨ 8 < data then .error 2
  else if 15 < c.length then .error 6
  else if c.any badB then .error 2
  else if m.length ≠ c.length ∨ evenB m = false then .error 1
  else planEnd (xacc data c m (2 ^ c.length))

theorem badB_out {c : List Int} (h : c.any badB = false) (k : Nat) (y : Int) (hy : c[k]? = some y) : 0 ≤ y ∧ y ≤ 1000000000 := by
  have := List.any_eq_false.1 h y (List.mem_of_getElem? hy)
  unfold badB at this
  simp at this
  omega
theorem sumK_bd {c : List Int} (h : c.any badB = false) (s k : Nat) (hk : k ≤ c.length) : 0 ≤ sumK c s k ∧ sumK c s k ≤ k * 1000000000 := by
  induction k with
  | zero => simp [sumK]
  | succ k ih =>
    have ih := ih (by omega)
    have hb := badB_out h k c[k] (List.getElem?_eq_getElem (by omega))
    have hg : c.getD k 0 = c[k] := by simp [List.getD, List.getElem?_eq_getElem (show k < c.length by omega)]
    rw [sumK]
    split
    · rw [hg]; omega
    · omega
theorem bitsK_len (s k : Nat) : (bitsK s k).length ≤ k := by
  induction k with
  | zero => exact Nat.le_refl _
  | succ k ih =>
    rw [bitsK]
    split
    · simp; omega
    · omega

theorem and_one (a : Nat) (h : a < 9223372036854775808) : bits .and .i64 (a : Int) 1 = ((a % 2 : Nat) : Int) := by
  show IntKind.i64.wrap ((BitVec.ofInt 64 (a : Int) &&& BitVec.ofInt 64 1).toNat : Int) = _
  have e : (BitVec.ofInt 64 (a : Int) &&& BitVec.ofInt 64 1).toNat = a % 2 := by
    rw [BitVec.toNat_and, BitVec.ofInt_natCast, BitVec.toNat_ofNat, Nat.mod_eq_of_lt (by omega)]
    exact Nat.and_one_is_mod a
  rw [e]
  exact IntWalk.i64_in _ (by omega)
theorem bit_test (s k : Nat) (h : s < 9223372036854775808) : (bits .and .i64 ((s : Int) / 2 ^ k) 1 == 1) = s.testBit k := by
  have e : ((s : Int) / 2 ^ k) = ((s / 2 ^ k : Nat) : Int) := by simp
  rw [e, and_one _ (Nat.lt_of_le_of_lt (Nat.div_le_self _ _) h), Nat.testBit_eq_decide_div_mod_eq]
  rw [Bool.eq_iff_iff, beq_iff_eq, decide_eq_true_iff]
  omega

set_option maxRecDepth 100000 in
set_option maxHeartbeats 2000000 in
theorem xplan_any (w : World) (data : Int) (vc vh : Value) (c : List Int) (m : List (List Bool)) (hc : IntsAt w vc c) (hm : RowsAt w vh m) (hmsz : m.length ≤ 1000000) :
    Calls Try.prog 13 #[.int .i64 data, vc, vh] w (PlanPost w (xplanB data c m)) := by
  have Hc := Lib.hid hc
  have Hm := Lib.hid hm
  obtain ⟨A, d, rfl, h1, h2, h3⟩ := hc
  obtain ⟨B, d2, rfl, k1, k2, k3⟩ := hm
  clear k3
  by_cases hlo : data < 1
  · have hp : xplanB data c m = .error 2 := if_pos (.inl hlo)
    have Hp := Lib.hid hp
    clear hp h3
    go_enter Try.func13, Try.ntmps13
    go_wp2
    go_ret2
    refine ⟨_, ?_, by rw [Hp.out]; exact ints_nil _, Below.refl _ _⟩
    rw [Hp.out]; rfl
  by_cases hhi : 8 < data
  · have hp : xplanB data c m = .error 2 := if_pos (.inr hhi)
    have Hp := Lib.hid hp
    clear hp h3
    go_enter Try.func13, Try.ntmps13
    go_wp2
    go_ret2
    refine ⟨_, ?_, by rw [Hp.out]; exact ints_nil _, Below.refl _ _⟩
    rw [Hp.out]; rfl
  by_cases hlen : 15 < c.length
  · have hp : xplanB data c m = .error 6 := by unfold xplanB; rw [if_neg (by omega), if_pos hlen]
    have Hp := Lib.hid hp
    clear hp h3
    go_enter Try.func13, Try.ntmps13
    go_wp2
    go_ret2
    refine ⟨_, ?_, by rw [Hp.out]; exact ints_nil _, Below.refl _ _⟩
    rw [Hp.out]; rfl
  have hlen' : c.length ≤ 15 := by omega
  have hcl : ¬ (15 : Int) < c.length := by omega
  have H3 := Lib.hid h3
  clear h3
  go_enter Try.func13, Try.ntmps13
  go_wp2
  go_loop [8] (fun i => ∃ k : Nat, k ≤ c.length ∧ i = .int .i64 k ∧ ∀ (j : Nat) (y : Int), j < k → c[j]? = some y → badB y = false) (fun i => c.length - (intOf i).toNat)
  case atStart => exact ⟨0, Nat.zero_le _, rfl, fun j r h => absurd h (Nat.not_lt_zero _)⟩
  case round =>
    obtain ⟨k, hk, rfl, hr⟩ := hrel
    by_cases hlt : k < c.length
    · obtain ⟨b, o, u, rfl, hck, rfl⟩ := H3.out k c[k] (List.getElem?_eq_getElem hlt)
      have Hr := Lib.hid hr
      have hkI : (k : Int) < c.length := by omega
      clear hr
      by_cases hlo2 : c[k] < 0
      · have hp : xplanB data c m = .error 2 := by unfold xplanB; rw [if_neg (by omega), if_neg (by omega), if_pos (any_yes k _ (List.getElem?_eq_getElem hlt) (badB_lo hlo2))]
        have Hp := Lib.hid hp
        clear hp
        go_wp2
        go_ret2
        refine ⟨_, ?_, by rw [Hp.out]; exact ints_nil _, Below.refl _ _⟩
        rw [Hp.out]; rfl
      have hlo' : 0 ≤ c[k] := by omega
      by_cases hhi2 : 1000000000 < c[k]
      · have hp : xplanB data c m = .error 2 := by unfold xplanB; rw [if_neg (by omega), if_neg (by omega), if_pos (any_yes k _ (List.getElem?_eq_getElem hlt) (badB_hi hhi2))]
        have Hp := Lib.hid hp
        clear hp
        go_wp2
        go_ret2
        refine ⟨_, ?_, by rw [Hp.out]; exact ints_nil _, Below.refl _ _⟩
        rw [Hp.out]; rfl
      have hhi' : c[k] ≤ 1000000000 := by omega
      go_wp2
      go_round
      case rel =>
        refine ⟨k + 1, by omega, by go_num, fun j r hj he => ?_⟩
        rcases Nat.lt_succ_iff_lt_or_eq.1 hj with h | rfl
        · exact Hr.out j r h he
        · rw [List.getElem?_eq_getElem hlt] at he
          cases he
          exact badB_no hlo' hhi'
      case measure => simp [intOf]; omega
    · have hbad : c.any badB = false := any_no fun j r he => hr j r (by have := (List.getElem?_eq_some_iff.1 he).1; omega) he
      have Hbad := Lib.hid hbad
      clear hr hbad
      by_cases hml : m.length = c.length
      · have hev := even_any w (.slice B m.length d2) m Hm.out
        have hne : ((m.length : Int) != (c.length : Int)) = false := by rw [bne_eq_false_iff_eq]; omega
        cases he : evenB m with
        | false =>
          rw [he] at hev
          have hp : xplanB data c m = .error 1 := by unfold xplanB; rw [if_neg (by omega), if_neg (by omega), if_neg (by rw [Hbad.out]; decide), if_pos (.inr he)]
          have Hp := Lib.hid hp
          have Hev := Lib.hid hev
          clear hp hev he hml
          go_wp2_with (go_at_call 25; refine Hev.out.mono ?_; rintro e w' ⟨rfl, n, rfl⟩)
          go_ret2
          refine ⟨_, ?_, by rw [Hp.out]; exact ints_nil _, below_drewN (Below.refl _ _) _⟩
          rw [Hp.out]; rfl
        | true =>
          rw [he] at hev
          have Hev := Lib.hid hev
          have Hml := Lib.hid hml
          have He := Lib.hid he
          clear hev he hml
          go_wp2_with (go_at_call 25; refine Hev.out.mono ?_; rintro e w' ⟨rfl, n, rfl⟩)
          obtain ⟨N, hN⟩ : ∃ N : Nat, 2 ^ c.length = N := ⟨_, rfl⟩
          have hN2 : N ≤ 32768 := by rw [← hN]; exact Nat.pow_le_pow_right (by omega) hlen'
          have hw : wrap64 ((2 : Int) ^ c.length) = (N : Int) := by
            have e : ((2 : Int) ^ c.length) = (N : Int) := by rw [← hN]; simp
            rw [e]
            exact IntWalk.wrap64_in _ ⟨by omega, by omega⟩
          have HN := Lib.hid hN
          clear hN
          go_loopw [9, 10, 11, 12] (fun f v l i wr => ∃ s : Nat, s ≤ N ∧ i = .int .i64 s ∧ f = .bool (xacc data c m s).isSome ∧ IntsAt wr v (bestOf (xacc data c m s)) ∧ l = .int .i64 (((xacc data c m s).map (·.2)).getD 0) ∧ Below w.heap.size w wr)
            (fun _ _ _ i _ => N - (intOf i).toNat)
          case atStart => exact ⟨0, Nat.zero_le _, rfl, rfl, ints_nil _, rfl, below_drewN (Below.refl _ _) _⟩
          case round =>
            obtain ⟨s, hs, rfl, rfl, hv, rfl, hB⟩ := hrel
            obtain ⟨wo, rfl⟩ : ∃ wo : World, wo = wr := ⟨_, rfl⟩
            have Hv := Lib.hid hv
            have HB := Lib.hid hB
            clear hv hB
            generalize hA : xacc data c m s = acc at *
            have HA := Lib.hid hA
            clear hA
            by_cases hsn : s < N
            · have hsI : (s : Int) < N := by omega
              go_wp2
              rw [hw]
              go_loopw [13, 14, 15] (fun v q r wi => ∃ k : Nat, k ≤ c.length ∧ r = .int .i64 k ∧ q = .int .i64 (sumK c s k) ∧ wi.ownsRow wo.heap.size 3 1 v (bitsK s k).length ((bitsK s k).map intV) ∧ Below wo.heap.size wo wi) (fun _ _ r _ => c.length - (intOf r).toNat)
              case atStart => exact ⟨0, Nat.zero_le _, rfl, rfl, World.ownsRow_nil _ _ _ _, Below.refl _ _⟩
              case round =>
                obtain ⟨k, hk, rfl, rfl, hown, hBi⟩ := hrel
                by_cases hkc : k < c.length
                · have hkI : (k : Int) < c.length := by omega
                  have hbt := bit_test s k (by omega)
                  have hsl := bitsK_len s k
                  have hsm := sumK_bd Hbad.out s k hk
                  obtain ⟨hsm1, hsm2⟩ := hsm
                  obtain ⟨b, o, u, rfl, hck, rfl⟩ := H3.out k c[k] (List.getElem?_eq_getElem hkc)
                  have hbd := badB_out Hbad.out k c[k] (List.getElem?_eq_getElem hkc)
                  obtain ⟨hbd1, hbd2⟩ := hbd
                  have hgc : c.getD k 0 = c[k] := by simp [List.getD, List.getElem?_eq_getElem hkc]
                  have Hgc := Lib.hid hgc
                  have Hck := Lib.hid hck
                  clear hck hgc
                  cases htb : s.testBit k with
                  | false =>
                    rw [htb] at hbt
                    have Htb := Lib.hid htb
                    clear htb
                    go_wp2
                    go_roundw
                    case rel =>
                      refine ⟨k + 1, by omega, by go_num, ?_, ?_, hBi⟩
                      · rw [sumK, if_neg (by rw [Htb.out]; decide)]
                      · rw [bitsK, if_neg (by rw [Htb.out]; decide)]; exact hown
                    case measure => simp [intOf]; omega
                  | true =>
                    rw [htb] at hbt
                    have Htb := Lib.hid htb
                    have hsum : sumK c s (k + 1) = sumK c s k + c[k] := by rw [sumK, if_pos htb, Hgc.out]
                    have hbk : bitsK s (k + 1) = bitsK s k ++ [(k : Int)] := by rw [bitsK, if_pos htb]
                    have Hsum := Lib.hid hsum
                    have Hbk := Lib.hid hbk
                    obtain ⟨i0, hi, hz0, hz1, hz2⟩ := info_parts Try.infoI
                    clear htb hsum hbk
                    go_wp2_with (at_builtin; refine wpList_append_own _ rfl _ _ 22 rfl wo.heap.size 3 i0 (.int .i64 0) 1 8 Try.underlying22 hi hz0 hz1 hz2 rfl (by decide) _ (bitsK s k).length _ rfl (hown.alloc _) ⟨wr.heap.size, 0, none⟩ 1 1 [intV k] rfl rfl (cell_one_new _ _ _) (by simp [Value.oneCell']) (by unfold maxLen; omega) (by omega) (by have := hBi.size; simp; omega) ?_; intro v' w1 hown1 hgrow1 _; have hB1 := (hBi.alloc hBi.size _).grown hgrow1 (by have := hBi.size; simp; omega) (own_ge hown); have hck1 := cell_below ((HB.out.trans (hB1.mono HB.out.size))) Hck.out)
                    go_roundw
                    case rel =>
                      have e1 : w1.ownsRow wo.heap.size 3 1 v' (bitsK s (k + 1)).length ((bitsK s (k + 1)).map intV) := by rw [Hbk.out]; simpa using hown1
                      exact ⟨k + 1, by omega, by go_num, by rw [Hsum.out], e1, hB1⟩
                    case measure => simp [intOf]; omega
                · have hkl : k = c.length := by omega
                  subst hkl
                  have hi13 : IntsAt wr u13 (bitsK s c.length) := IntsAt.of_own hown
                  have hBw := HB.out.trans (hBi.mono HB.out.size)
                  have hsuff := fun (n : Nat) => suff_any (wr.drewN n) data u13 (.slice B m.length d2) (bitsK s c.length) m hi13 (RowsAt.below (w' := wr) Hm.out hBw) hmsz
                  have Hi13 := Lib.hid hi13
                  have Hbw := Lib.hid hBw
                  have Hbest := Lib.hid (IntsAt.below Hv.out hBi)
                  have hless := less_any wr u13 u10 (bitsK s c.length) (bestOf acc) hi13 Hbest.out
                  clear hi13 hBw hown hBi
                  cases acc with
                  | none =>
                    clear hless
                    cases hsb : suffB data (fun r => inB (bitsK s c.length) r) m with
                    | true =>
                      rw [hsb] at hsuff
                      have hst : xacc data c m (s + 1) = some (bitsK s c.length, sumK c s c.length) := by rw [xacc, HA.out]; unfold xpick; rw [hsb]; rfl
                      have Hst := Lib.hid hst
                      have Hs := Lib.hid hsuff
                      clear hst hsuff hsb
                      go_wp2_with (go_at_call 18; refine (Hs.out 0).mono ?_; rintro e w' ⟨rfl, ns, rfl⟩)
                      go_roundw
                      case rel =>
                        refine ⟨s + 1, by omega, by go_num, by rw [Hst.out]; rfl, ?_, by rw [Hst.out]; rfl, below_drewN Hbw.out _⟩
                        rw [Hst.out]; exact Hi13.out
                      case measure => simp [intOf]; omega
                    | false =>
                      rw [hsb] at hsuff
                      have hst : xacc data c m (s + 1) = xacc data c m s := by rw [xacc, HA.out]; unfold xpick; rw [hsb]; rfl
                      have Hst := Lib.hid hst
                      have Hs := Lib.hid hsuff
                      clear hst hsuff hsb
                      go_wp2_with (go_at_call 18; refine (Hs.out 0).mono ?_; rintro e w' ⟨rfl, ns, rfl⟩)
                      go_roundw
                      case rel =>
                        refine ⟨s + 1, by omega, by go_num, by rw [Hst.out, HA.out]; try rfl, ?_, by rw [Hst.out, HA.out]; try rfl, below_drewN Hbw.out _⟩
                        rw [Hst.out, HA.out]; exact Hbest.out
                      case measure => simp [intOf]; omega
                  | some b =>
                    rcases Int.lt_trichotomy (sumK c s c.length) b.2 with hlt | heq | hgt
                    · clear hless
                      have hng : ¬ b.2 < sumK c s c.length := by omega
                      have hne2 : (sumK c s c.length == b.2) = false := by rw [beq_eq_false_iff_ne]; omega
                      cases hsb : suffB data (fun r => inB (bitsK s c.length) r) m with
                      | true =>
                        rw [hsb] at hsuff
                        have hst : xacc data c m (s + 1) = some (bitsK s c.length, sumK c s c.length) := by rw [xacc, HA.out]; unfold xpick; rw [hsb]; simp [xbetter, hlt]
                        have Hst := Lib.hid hst
                        have Hs := Lib.hid hsuff
                        clear hst hsuff hsb
                        go_wp2_with (go_at_call 18; refine (Hs.out 0).mono ?_; rintro e w' ⟨rfl, ns, rfl⟩)
                        go_roundw
                        case rel =>
                          refine ⟨s + 1, by omega, by go_num, by rw [Hst.out]; rfl, ?_, by rw [Hst.out]; rfl, below_drewN Hbw.out _⟩
                          rw [Hst.out]; exact Hi13.out
                        case measure => simp [intOf]; omega
                      | false =>
                        rw [hsb] at hsuff
                        have hst : xacc data c m (s + 1) = xacc data c m s := by rw [xacc, HA.out]; unfold xpick; rw [hsb]; simp
                        have Hst := Lib.hid hst
                        have Hs := Lib.hid hsuff
                        clear hst hsuff hsb
                        go_wp2_with (go_at_call 18; refine (Hs.out 0).mono ?_; rintro e w' ⟨rfl, ns, rfl⟩)
                        go_roundw
                        case rel =>
                          refine ⟨s + 1, by omega, by go_num, by rw [Hst.out, HA.out]; try rfl, ?_, by rw [Hst.out, HA.out]; try rfl, below_drewN Hbw.out _⟩
                          rw [Hst.out, HA.out]; exact Hbest.out
                        case measure => simp [intOf]; omega
                    · have hng : ¬ b.2 < sumK c s c.length := by omega
                      have heq2 : (sumK c s c.length == b.2) = true := by rw [beq_iff_eq]; omega
                      have Heq := Lib.hid heq
                      clear heq
                      cases hlb : lessB (bitsK s c.length) b.1 with
                      | true =>
                        have hless2 : Calls Try.prog 26 #[u13, u10] wr fun e w' => e = .returned (.bool true) ∧ ∃ n, w' = wr.drewN n := by rw [← hlb]; exact hless
                        have HL := Lib.hid hless2
                        have Hlb := Lib.hid hlb
                        clear hless hless2 hlb
                        cases hsb : suffB data (fun r => inB (bitsK s c.length) r) m with
                        | true =>
                          rw [hsb] at hsuff
                          have hst : xacc data c m (s + 1) = some (bitsK s c.length, sumK c s c.length) := by rw [xacc, HA.out]; unfold xpick; rw [hsb]; simp [xbetter, Heq.out, Hlb.out]
                          have Hst := Lib.hid hst
                          have Hs := Lib.hid hsuff
                          clear hst hsuff hsb
                          go_wp2_with (first | (go_at_call 26; refine HL.out.mono ?_; rintro e w' ⟨rfl, nl, rfl⟩) | (go_at_call 18; refine (Hs.out _).mono ?_; rintro e w' ⟨rfl, ns, rfl⟩))
                          go_roundw
                          case rel =>
                            refine ⟨s + 1, by omega, by go_num, by rw [Hst.out]; rfl, ?_, by rw [Hst.out]; rfl, below_drewN Hbw.out _⟩
                            rw [Hst.out]; exact Hi13.out
                          case measure => simp [intOf]; omega
                        | false =>
                          rw [hsb] at hsuff
                          have hst : xacc data c m (s + 1) = xacc data c m s := by rw [xacc, HA.out]; unfold xpick; rw [hsb]; simp
                          have Hst := Lib.hid hst
                          have Hs := Lib.hid hsuff
                          clear hst hsuff hsb
                          go_wp2_with (first | (go_at_call 26; refine HL.out.mono ?_; rintro e w' ⟨rfl, nl, rfl⟩) | (go_at_call 18; refine (Hs.out _).mono ?_; rintro e w' ⟨rfl, ns, rfl⟩))
                          go_roundw
                          case rel =>
                            refine ⟨s + 1, by omega, by go_num, by rw [Hst.out, HA.out]; try rfl, ?_, by rw [Hst.out, HA.out]; try rfl, below_drewN Hbw.out _⟩
                            rw [Hst.out, HA.out]; exact Hbest.out
                          case measure => simp [intOf]; omega
                      | false =>
                        have hless2 : Calls Try.prog 26 #[u13, u10] wr fun e w' => e = .returned (.bool false) ∧ ∃ n, w' = wr.drewN n := by rw [← hlb]; exact hless
                        have HL := Lib.hid hless2
                        have hst : xacc data c m (s + 1) = xacc data c m s := by rw [xacc, HA.out]; unfold xpick; simp [xbetter, Heq.out, hlb]
                        have Hst := Lib.hid hst
                        clear hless hless2 hlb hst hsuff
                        go_wp2_with (go_at_call 26; refine HL.out.mono ?_; rintro e w' ⟨rfl, nl, rfl⟩)
                        go_roundw
                        case rel =>
                          refine ⟨s + 1, by omega, by go_num, by rw [Hst.out, HA.out]; try rfl, ?_, by rw [Hst.out, HA.out]; try rfl, below_drewN Hbw.out _⟩
                          rw [Hst.out, HA.out]; exact Hbest.out
                        case measure => simp [intOf]; omega
                    · have hst : xacc data c m (s + 1) = xacc data c m s := by
                        rw [xacc, HA.out]
                        unfold xpick
                        have e1 : decide (sumK c s c.length < b.2) = false := decide_eq_false (by omega)
                        have e2 : decide (sumK c s c.length = b.2) = false := decide_eq_false (by omega)
                        simp [xbetter, e1, e2]
                      have Hst := Lib.hid hst
                      clear hless hst hsuff
                      go_wp2
                      go_roundw
                      case rel =>
                        refine ⟨s + 1, by omega, by go_num, by rw [Hst.out, HA.out]; try rfl, ?_, by rw [Hst.out, HA.out]; try rfl, Hbw.out⟩
                        rw [Hst.out, HA.out]; exact Hbest.out
                      case measure => simp [intOf]; omega
            · have hsN : s = N := by omega
              have hp : xplanB data c m = planEnd acc := by
                unfold xplanB
                rw [if_neg (by omega), if_neg (by omega), if_neg (by rw [Hbad.out]; decide), if_neg (by rintro (h | h); exact h Hml.out; rw [He.out] at h; cases h), HN.out, ← hsN, HA.out]
              have Hp := Lib.hid hp
              clear hp hsN
              cases acc with
              | none =>
                go_wp2
                go_ret2
                refine ⟨_, ?_, by rw [Hp.out]; exact ints_nil _, HB.out⟩
                rw [Hp.out]; rfl
              | some b =>
                go_wp2
                go_ret2
                refine ⟨_, ?_, by rw [Hp.out]; exact Hv.out, HB.out⟩
                rw [Hp.out]; rfl
      · have hne : ((m.length : Int) != (c.length : Int)) = true := by rw [bne_iff_ne]; omega
        have hp : xplanB data c m = .error 1 := by unfold xplanB; rw [if_neg (by omega), if_neg (by omega), if_neg (by rw [Hbad.out]; decide), if_pos (.inl hml)]
        have Hp := Lib.hid hp
        clear hp hml
        go_wp2_with fail
        go_ret2
        refine ⟨_, ?_, by rw [Hp.out]; exact ints_nil _, Below.refl _ _⟩
        rw [Hp.out]; rfl

end Go.Proofs.Ytgclbnfpipepfaa
