/-
  RetrievalOptimal holds for every input: a plan suffices, and no list of reels that suffices is better. No condition.
-/
import Derived.Test.YtgclbnfpipepfaaPlainB
import Derived.BigQuiet
namespace Go.Proofs.Ytgclbnfpipepfaa.lawOptimal
open Go.ChangeShapes Go.WideShapes Go.ChangeAt Go.RowKit

theorem and_one16 (a : Nat) (h : a < 65536) : bits .and .u16 (a : Int) 1 = ((a % 2 : Nat) : Int) := by
  show IntKind.u16.wrap ((BitVec.ofInt 16 (a : Int) &&& BitVec.ofInt 16 1).toNat : Int) = _
  have e : (BitVec.ofInt 16 (a : Int) &&& BitVec.ofInt 16 1).toNat = a % 2 := by
    rw [BitVec.toNat_and, BitVec.ofInt_natCast, BitVec.toNat_ofNat, Nat.mod_eq_of_lt (by omega)]
    exact Nat.and_one_is_mod a
  rw [e]
  exact IntWalk.u16_in _ (by omega)
theorem bit_test16 (s k : Nat) (h : s < 65536) : (bits .and .u16 ((s : Int) / 2 ^ k) 1 == 1) = s.testBit k := by
  have e : ((s : Int) / 2 ^ k) = ((s / 2 ^ k : Nat) : Int) := by simp
  rw [e, and_one16 _ (Nat.lt_of_le_of_lt (Nat.div_le_self _ _) h), Nat.testBit_eq_decide_div_mod_eq]
  rw [Bool.eq_iff_iff, beq_iff_eq, decide_eq_true_iff]
  omega

theorem asc_len {n : Nat} {l : List Int} (h : Asc 0 n l) : l.length ≤ n := by
  obtain ⟨s, _, rfl⟩ := asc_bits n l h
  exact bitsK_len s n

theorem sameB_refl (a : List Int) : sameB a a = true := by unfold sameB; simp

set_option maxRecDepth 100000 in
set_option maxHeartbeats 2000000 in
theorem walk (w : World) (data : Int) (_wf : (Lit.int .i64 data).wf = true) (vc : Value) (c : List Int) (hc : IntsAt w vc c) (vh : Value) (m : List (List Bool)) (hm : RowsAt w vh m) (st : Int) (wfs : (Lit.int .u16 st).wf = true) :
    Calls Try.prog 5 #[.int .i64 data, vc, vh, .int .u16 st] w fun e w' => e = .returned (.bool true) ∧ Below w.heap.size w w' := by
  have Hal := Lib.hid (alive_any w)
  have Hc := Lib.hid hc
  have Hm := Lib.hid hm
  obtain ⟨A, d, rfl, h1, h2, _⟩ := hc
  clear hm
  obtain ⟨B, d2, rfl, k1, k2⟩ : ∃ B d2, vh = .slice B m.length d2 ∧ m.length ≤ d2 ∧ d2 ≤ 9223372036854775807 := by
    obtain ⟨B, d2, e, k1, k2, _⟩ := Hm.out
    exact ⟨B, d2, e, k1, k2⟩
  obtain ⟨s, rfl, hs⟩ : ∃ s : Nat, st = s ∧ s < 65536 := by
    have := bounds_u16 wfs
    exact ⟨st.toNat, by omega, by omega⟩
  clear wfs
  go_enter Try.func5, Try.ntmps5
  go_wp2_with fail
  refine Hal.out.mono ?_
  rintro e w1 ⟨rfl, hb1⟩
  have Hb1 := Lib.hid hb1
  have hg := great_any w1 A c.length d (.slice B m.length d2) m (by omega) (RowsAt.below Hm.out hb1)
  clear hb1
  by_cases hgr : great c.length m = 1
  · rw [hgr] at hg
    have Hg := Lib.hid hg
    clear hg hgr
    go_wp2_with fail
    refine Hg.out.mono ?_
    rintro e w2 ⟨rfl, rfl⟩
    go_wp2
    go_ret
    exact ⟨rfl, Hb1.out⟩
  have hgf : (great c.length m == 1) = false := by simpa using hgr
  have hml : m.length ≤ 1000000 ∧ c.length ≤ 16 := by
    unfold great at hgr
    split at hgr
    · exact absurd rfl hgr
    · omega
  obtain ⟨hml, hcl⟩ := hml
  have Hg := Lib.hid hg
  clear hg hgr
  go_wp2_with fail
  refine Hg.out.mono ?_
  rintro e w2 ⟨rfl, rfl⟩
  have hp := rplan_any w1 data (.slice A c.length d) (.slice B m.length d2) c m (IntsAt.below Hc.out Hb1.out) (RowsAt.below Hm.out Hb1.out) hml
  have Hp := Lib.hid hp
  clear hp
  go_wp2_with fail
  refine Hp.out.mono ?_
  rintro e w2 ⟨v1, rfl, hv1, hb2⟩
  have HB2 := Lib.hid (Hb1.out.trans (hb2.mono Hb1.out.size))
  have Hv1 := Lib.hid hv1
  clear hv1 hb2
  generalize hpl : planB data c m = pl at *
  have Hpl := Lib.hid hpl
  clear hpl
  go_wp2
  go_loopw [11, 12] (fun v i wr => ∃ k : Nat, k ≤ c.length ∧ i = .int .i64 k ∧ wr.ownsRow w2.heap.size 3 1 v (bitsK s k).length ((bitsK s k).map intV) ∧ Below w2.heap.size w2 wr) (fun _ i _ => c.length - (intOf i).toNat)
  case atStart => exact ⟨0, Nat.zero_le _, rfl, World.ownsRow_nil _ _ _ _, Below.refl _ _⟩
  case round =>
    obtain ⟨k, hk, rfl, hown, hBi⟩ := hrel
    obtain ⟨v, rfl⟩ : ∃ v, v = u11 := ⟨_, rfl⟩
    by_cases hkc : k < c.length
    · have hkI : (k : Int) < c.length := by omega
      have hk16 : (k : Int) < 16 := by omega
      have hbt := bit_test16 s k hs
      have hsl := bitsK_len s k
      cases htb : s.testBit k with
      | false =>
        rw [htb] at hbt
        have Htb := Lib.hid htb
        clear htb
        go_wp2
        go_roundw
        case rel =>
          refine ⟨k + 1, by omega, by go_num, ?_, hBi⟩
          rw [bitsK, if_neg (by rw [Htb.out]; decide)]
          exact hown
        case measure => simp [intOf]; omega
      | true =>
        rw [htb] at hbt
        have Htb := Lib.hid htb
        have hbk : bitsK s (k + 1) = bitsK s k ++ [(k : Int)] := by rw [bitsK, if_pos htb]
        have Hbk := Lib.hid hbk
        obtain ⟨i0, hi, hz0, hz1, hz2⟩ := info_parts Try.infoI
        clear htb hbk
        go_wp2_with (at_builtin; refine wpList_append_own _ rfl _ _ 22 rfl w2.heap.size 3 i0 (.int .i64 0) 1 8 Try.underlying22 hi hz0 hz1 hz2 rfl (by decide) _ (bitsK s k).length _ rfl (hown.alloc _) ⟨wr.heap.size, 0, none⟩ 1 1 [intV k] rfl rfl (cell_one_new _ _ _) (by simp [Value.oneCell']) (by unfold maxLen; omega) (by omega) (by have := hBi.size; simp; omega) ?_; intro v' w3 hown3 hgrow3 _; have hB3 := (hBi.alloc hBi.size _).grown hgrow3 (by have := hBi.size; simp; omega) (own_ge hown))
        go_roundw
        case rel =>
          have e1 : w3.ownsRow w2.heap.size 3 1 v' (bitsK s (k + 1)).length ((bitsK s (k + 1)).map intV) := by rw [Hbk.out]; simpa using hown3
          exact ⟨k + 1, by omega, by go_num, e1, hB3⟩
        case measure => simp [intOf]; omega
    · have hkl : k = c.length := by omega
      subst hkl
      have hil : IntsAt wr v (bitsK s c.length) := IntsAt.of_own hown
      have hBw := HB2.out.trans (hBi.mono HB2.out.size)
      have Hla := Lib.hid (bitsK_asc s c.length)
      have hll := bitsK_len s c.length
      have hvp := IntsAt.below Hv1.out hBi
      generalize bitsK s c.length = l at *
      have hsl := rsuff_any wr data v (.slice B m.length d2) l m hil (RowsAt.below Hm.out hBw) hml (by omega)
      have hcl2 := rcost_any wr (.slice A c.length d) v c l (IntsAt.below Hc.out hBw) hil (by omega)
      have Hvp := Lib.hid hvp
      have Hil := Lib.hid hil
      have Hbw := Lib.hid hBw
      have Hown := Lib.hid hown
      clear hvp hil hBw hown hBi
      cases pl with
      | error er =>
        obtain ⟨he0, he1⟩ := plan_err Hpl.out
        obtain ⟨P, dp, rfl, q1, q2, q3⟩ := Hvp.out
        have Hq3 := Lib.hid q3
        have Hsl := Lib.hid hsl
        have He1 := Lib.hid (fun h => he1 h l Hla.out)
        have hne : (er != 0) = true := by simpa using he0
        have hpc : planCode (.error er) = er := rfl
        have hpn : (planList (.error er)).length = 0 := rfl
        clear q3 he1 hcl2 hsl
        by_cases h21 : er = 21
        · have hss := He1.out h21
          have h21' : (er != 21) = false := by simpa using h21
          rw [hss] at Hsl
          clear h21 hss
          go_wp2_with fail
          refine Hsl.out.mono ?_
          rintro e w4 ⟨rfl, hb4⟩
          go_wp2
          go_ret
          exact ⟨rfl, Hbw.out.trans (hb4.mono Hbw.out.size)⟩
        · have h21' : (er != 21) = true := by simpa using h21
          clear h21
          go_wp2
          go_ret
          exact ⟨rfl, Hbw.out⟩
      | ok p =>
        have hip := plan_ok Hpl.out
        have hvp : IntsAt wr v1 p := Hvp.out
        have hpc : planCode (.ok p) = 0 := rfl
        clear Hvp
        have Hvp := Lib.hid hvp
        obtain ⟨P, dp, rfl, q1, q2, q3⟩ := hvp
        have Hq3 := Lib.hid q3
        have hpn := asc_len hip.asc
        have hbb := hip.len
        have Hip := Lib.hid hip
        have hcp := rcost_any wr (.slice A c.length d) (.slice P p.length dp) c p (IntsAt.below Hc.out Hbw.out) Hvp.out (by omega)
        rw [costB_sum Hip.out.bad Hip.out.asc] at hcp
        simp only [costV] at hcp
        have Hcp := Lib.hid hcp
        clear hsl hcl2 hcp q3 hip
        go_wp2_with fail
        refine Hcp.out.mono ?_
        rintro e w3 ⟨rfl, hb3⟩
        have HB3 := Lib.hid (Hbw.out.trans (hb3.mono Hbw.out.size))
        have HP3 := Lib.hid (IntsAt.below Hvp.out hb3)
        have HL3 := Lib.hid (IntsAt.below Hil.out hb3)
        have hcl3 := rcost_any w3 (.slice A c.length d) v c l (IntsAt.below Hc.out HB3.out) HL3.out (by omega)
        rw [costB_sum Hip.out.bad Hla.out] at hcl3
        simp only [costV] at hcl3
        have Hcl3 := Lib.hid hcl3
        clear hcl3 hb3
        go_wp2_with fail
        refine Hcl3.out.mono ?_
        rintro e w4 ⟨rfl, hb4⟩
        have HB4 := Lib.hid (HB3.out.trans (hb4.mono HB3.out.size))
        have HP4 := Lib.hid (IntsAt.below HP3.out hb4)
        have HL4 := Lib.hid (IntsAt.below HL3.out hb4)
        have hs4 := rsuff_any w4 data (.slice P p.length dp) (.slice B m.length d2) p m HP4.out (RowsAt.below Hm.out HB4.out) hml (by omega)
        rw [Hip.out.suff] at hs4
        have Hs4 := Lib.hid hs4
        clear hs4 hb4
        go_wp2_with fail
        refine Hs4.out.mono ?_
        rintro e w5 ⟨rfl, hb5⟩
        have HB5 := Lib.hid (HB4.out.trans (hb5.mono HB4.out.size))
        have HP5 := Lib.hid (IntsAt.below HP4.out hb5)
        have HL5 := Lib.hid (IntsAt.below HL4.out hb5)
        clear hb5
        go_wp2
        go_loopw [17] (fun i wl => ∃ k : Nat, k ≤ p.length ∧ i = .int .i64 k ∧ Below w5.heap.size w5 wl) (fun i _ => p.length - (intOf i).toNat)
        case atStart => exact ⟨0, Nat.zero_le _, rfl, Below.refl _ _⟩
        case round =>
          obtain ⟨k, hk, rfl, hBl⟩ := hrel
          have hQl := IntsAt.below HP5.out hBl
          have HQl := Lib.hid hQl
          obtain ⟨P', d', e, _, _, q⟩ := hQl
          cases e
          have HBl := Lib.hid (HB5.out.trans (hBl.mono HB5.out.size))
          have HLl := Lib.hid (IntsAt.below HL5.out hBl)
          have Hq := Lib.hid q
          clear q
          by_cases hkp : k < p.length
          · have hkI : (k : Int) < p.length := by omega
            by_cases hk0 : k = 0
            · subst hk0
              have HBc := Lib.hid hBl
              clear hBl
              go_wp2
              go_quiet (fail)
              go_wp2
              go_roundw
              case rel => exact ⟨0 + 1, by omega, by go_num, below_drewN HBc.out _⟩
              case measure => simp [intOf]; omega
            · obtain ⟨b, o, u, rfl, hck, rfl⟩ := Hq.out k p[k] (List.getElem?_eq_getElem hkp)
              obtain ⟨b', o', u', e', hcj, rfl⟩ := Hq.out (k - 1) p[k - 1] (List.getElem?_eq_getElem (by omega))
              cases e'
              have hlt : p[k - 1] < p[k] := List.pairwise_iff_getElem.1 Hip.out.asc.1 (k - 1) k (by omega) hkp (by omega)
              have hs1 : IntKind.i64.wrap ((k : Int) - 1) = ((k - 1 : Nat) : Int) := by rw [IntWalk.i64_in _ (by omega)]; omega
              have hjI : ((k - 1 : Nat) : Int) < p.length := by omega
              have hj0 : (0 : Int) ≤ ((k - 1 : Nat) : Int) := by omega
              have hkpos : (0 : Int) < k := by omega
              have hkN : 0 < k := by omega
              have hd1 : decide (0 < k) = true := decide_eq_true hkN
              have hd2 : decide ((0 : Int) < k) = true := decide_eq_true (by omega)
              have hd3 : decide (p[k - 1] ≥ p[k]) = false := decide_eq_false (by omega)
              have hd4 : decide (p[k] ≤ p[k - 1]) = false := decide_eq_false (by omega)
              have HBc := Lib.hid hBl
              clear hBl
              go_wp2
              go_quiet (fail)
              go_wp2
              go_roundw
              case rel => exact ⟨k + 1, by omega, by go_num, below_drewN HBc.out _⟩
              case measure => simp [intOf]; omega
          · have hkl : k = p.length := by omega
            subst hkl
            have hsl := rsuff_any wr data v (.slice B m.length d2) l m HLl.out (RowsAt.below Hm.out HBl.out) hml (by omega)
            clear hBl
            cases hsb : suffB data (fun r => inB l r) m with
            | false =>
              rw [hsb] at hsl
              have Hsl := Lib.hid hsl
              clear hsl hsb
              go_wp2_with fail
              refine Hsl.out.mono ?_
              rintro e w6 ⟨rfl, hb6⟩
              go_wp2
              go_ret
              exact ⟨rfl, HBl.out.trans (hb6.mono HBl.out.size)⟩
            | true =>
              rw [hsb] at hsl
              have Hle := Lib.hid (Hip.out.least l Hla.out hsb)
              have Hsl := Lib.hid hsl
              clear hsl hsb
              go_wp2_with fail
              refine Hsl.out.mono ?_
              rintro e w6 ⟨rfl, hb6⟩
              have HB6 := Lib.hid (HBl.out.trans (hb6.mono HBl.out.size))
              have HP6 := Lib.hid (IntsAt.below HQl.out hb6)
              have HL6 := Lib.hid (IntsAt.below HLl.out hb6)
              clear hb6
              generalize csum c p = a at *
              generalize csum c l = b at *
              by_cases hab : a < b
              · go_wp2
                go_ret
                exact ⟨rfl, HB6.out⟩
              · have hle := Hle.out
                have heq : a = b := by omega
                have hor : p = l ∨ lessB p l = true := by
                  rcases hle with h | h
                  · omega
                  · exact h.2
                have Hor := Lib.hid hor
                subst heq
                have haa : (a == a) = true := by simp
                have hsm := same_any w6 (.slice P p.length dp) v p l HP6.out HL6.out
                clear hle hor
                cases hsame : sameB p l with
                | true =>
                  rw [hsame] at hsm
                  have Hsm := Lib.hid hsm
                  clear hsm hsame
                  go_wp2_with fail
                  refine Hsm.out.mono ?_
                  rintro e w7 ⟨rfl, n7, rfl⟩
                  go_wp2
                  go_ret
                  exact ⟨rfl, below_drewN HB6.out _⟩
                | false =>
                  have hlb : lessB p l = true := by
                    rcases Hor.out with rfl | h
                    · rw [sameB_refl] at hsame; cases hsame
                    · exact h
                  have Hlb := Lib.hid hlb
                  rw [hsame] at hsm
                  have Hsm := Lib.hid hsm
                  clear hsm hsame hlb
                  go_wp2_with fail
                  refine Hsm.out.mono ?_
                  rintro e w7 ⟨rfl, n7, rfl⟩
                  have hB7 := below_drewN (Below.refl w6.heap.size w6) n7
                  have hbf := before_any (w6.drewN n7) (.slice P p.length dp) v p l (IntsAt.below HP6.out hB7) (IntsAt.below HL6.out hB7)
                  rw [Hlb.out] at hbf
                  have Hbf := Lib.hid hbf
                  clear hbf hB7
                  go_wp2_with fail
                  refine Hbf.out.mono ?_
                  rintro e w8 ⟨rfl, n8, rfl⟩
                  go_wp2
                  go_ret
                  exact ⟨rfl, below_drewN HB6.out _⟩

/-! the row's step -/
set_option maxRecDepth 100000 in
theorem lifted (os : Os) (started : os.Started) (H : Type) (enc : TypeId × Value → H) :
    ReturnsInHanded {} Try.checked os 5 .any (Rows.retrievalOptimalSpec.pre6 enc Try.prog Try.f5 Rows.retrievalOptimalRow.domain false) (Rows.retrievalOptimalSpec.post enc Try.prog Try.f5 false true false false) := by
  refine returnsInHanded_of_change (C := Try.checked) ownN started (by kernel_rfl) Try.func5
    (ChangeSpec.witness6 (enc := enc) (C := Try.checked) false ⟨#[], #[.int .i64 0, .slice none 0 0, .slice none 0 0, .int .u16 0], []⟩ 8 (by kernel_rfl) (by kernel_rfl) (by kernel_rfl) (by kernel_rfl)) ?_
  intro W base args ds gs before hval0 hW _ _
  have hval : ∀ (j : Nat) t v, Try.f5.params[j]? = some t → args[j]? = some v → Value.okWide Try.prog W .any base t v := hval0
  have hW' := hW
  obtain ⟨p, q, hA0, hV, rfl, _, _⟩ := hW
  have hA : DataW.TrodAll enc Try.prog W 0 (fun _ => true) true Try.f5.params.toList args.toList ds p := hA0
  rw [Try.params5] at hA hval
  obtain ⟨v0, vs0, d0, ds0, p0, q0, hargs, rfl, rfl, h0, r0⟩ := trodAll_cons hA
  obtain ⟨v1, vs1, d1, ds1, p1, q1, rfl, rfl, rfl, h1, r1⟩ := trodAll_cons r0
  obtain ⟨v2, vs2, d2, ds2, p2, q2, rfl, rfl, rfl, h2, r2⟩ := trodAll_cons r1
  obtain ⟨v3, vs3, d3, ds3, p3, q3, rfl, rfl, rfl, h3, r3⟩ := trodAll_cons r2
  obtain ⟨rfl, rfl, rfl⟩ := trodAll_nil r3
  obtain rfl : args = #[v0, v1, v2, v3] := by cases args; simp_all
  obtain ⟨rfl, rfl⟩ := trodVars_none hV
  obtain ⟨a0, rfl, rfl, rfl, w0⟩ := open_int Try.underlying3 (hval 0 3 v0 rfl rfl) h0
  have k1 := h1
  have lt1 : ∀ x ∈ p1, x.block < W.heap.size := by obtain ⟨m, hm⟩ := k1; exact DataW.trod_lt m _ _ _ hm
  obtain ⟨x1, w1⟩ := open_intsAt (hval 1 22 v1 rfl rfl) h1
  have k2 := h2
  have lt2 : ∀ x ∈ p2, x.block < W.heap.size := by obtain ⟨m, hm⟩ := k2; exact DataW.trod_lt m _ _ _ hm
  obtain ⟨x2, w2⟩ := open_rowsAt (hval 2 23 v2 rfl rfl) h2
  obtain ⟨a3, rfl, rfl, rfl, w3⟩ := open_int Try.underlying34 (hval 3 34 v3 rfl rfl) h3
  clear hA0 hval0
  refine (walk W a0 w0 v1 x1 w1 v2 x2 w2 a3 w3).mono fun e W' ⟨he, bel⟩ => ?_
  subst he
  exact ⟨_, rfl, _, _, _, [], _, [], hW', trodAll_mk1 (shut_bool Try.underlying4 _), (trodAll_cons_mk (shut_int Try.underlying3 w0) (trodAll_cons_mk (Below.trod laidN (by kernel_rfl) (of_decide_eq_true (by kernel_rfl)) k1 bel lt1) (trodAll_cons_mk (Below.trod laidN (by kernel_rfl) (of_decide_eq_true (by kernel_rfl)) k2 bel lt2) (trodAll_cons_mk (shut_int Try.underlying34 w3) trodAll_mk0)))), rfl, bel.frame _, fun h => by cases h⟩

theorem proved : Rows.RetrievalOptimalSaid :=
  OpenClaim.holds_of_wide 5 Try.f5 rfl rfl rfl rfl rfl rfl rfl ⟨rfl, rfl, rfl, rfl, rfl⟩ rfl rfl rfl rfl rfl (by kernel_rfl) Try.func5 (by kernel_rfl)
    (of_decide_eq_true (by kernel_rfl)) (by unfold Func.isWrapper; first | (rw [if_pos (by decide +kernel)]; kernel_rfl) | (rw [if_neg (by decide +kernel)]; exact ⟨rfl, rfl⟩))
    (fun os started H enc _ => lifted os started H enc)
#print axioms proved

end Go.Proofs.Ytgclbnfpipepfaa.lawOptimal
