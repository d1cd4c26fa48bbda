/-
  WALKS: rsdecode.Decode without erasures.
-/
import Derived.Test.YtjennpcadjdnlaaGreatDoorRsN
import Derived.Test.YtjennpcadjdnlaaGreatDoorByM
namespace Go.Proofs.YtjennpcadjdnlaaGreatDoor
open Go.RowKit

theorem differ_len (a b : List Nat) : (differ a b).length ≤ a.length := by
  have := List.length_filter_le (fun i => cf a i != cf b i) (List.range a.length)
  unfold differ
  simpa using this
def emptyB : ByteArray := ⟨#[]⟩
def rsDecR (w : List Nat) : Value := match rsDec w with
  | none => .tuple #[.string ⟨#[]⟩, .int .i64 0, .int .i64 11]
  | some (o, n) => .tuple #[.string (strB o), .int .i64 (n : Int), .int .i64 0]
/-- What the decoder holds while it corrects. -/
structure DI (w W : World) (l om sl : List Nat) (vl vo vs : Value) : Prop where
  l : BytesAt W vl l
  om : BytesAt W vo om
  sl : BytesAt W vs sl
  below : Below w.heap.size w W
theorem DI.step {w W W' : World} {l om sl : List Nat} {vl vo vs : Value} (h : DI w W l om sl vl vo vs) (hb : Below W.heap.size W W') : DI w W' l om sl vl vo vs :=
  ⟨h.l.below hb, h.om.below hb, h.sl.below hb, h.below.trans (hb.mono h.below.size)⟩

set_option maxRecDepth 200000 in
set_option maxHeartbeats 8000000 in
theorem ddec_any (w : World) (s : ByteArray) (h1 : 8 ≤ s.size) (h2 : s.size ≤ 255) : Calls Tryz.prog 41 #[.string s, .int .i64 8, .slice none 0 0] w fun e w' => e = .returned (rsDecR (bs s)) ∧ Below w.heap.size w w' := by
  have h1I : ¬ (s.size : Int) < 8 := by omega
  have Hs := Lib.hid (rssyn_any w s h1 h2)
  have bS := synd_bytes (bs_lt s)
  have hSl := synd_len (bs s)
  obtain ⟨S, hS⟩ : ∃ S, synd (bs s) = S := ⟨_, rfl⟩
  rw [hS] at Hs bS hSl
  have HS := Lib.hid hS
  have HSl := Lib.hid hSl
  clear hS hSl
  go_enter Tryz.func41, Tryz.ntmps41
  go_wp2_with fail
  refine Hs.out.mono ?_
  rintro e w1 ⟨vS, rfl, hv, hb⟩
  have HvS := Lib.hid hv
  have HB1 := Lib.hid hb
  clear hv hb Hs
  go_wp2_with fail
  refine (clonei_nil _).mono ?_
  rintro e w' ⟨rfl, rfl⟩
  go_wp2_with fail
  refine (sort_nil _).mono ?_
  rintro e w' ⟨rfl, rfl⟩
  go_wp2_with fail
  refine (comp_nil _).mono ?_
  rintro e w' ⟨rfl, rfl⟩
  go_wp2
  refine wp_loop_rounds 1 ?_
  rw [rounds_succ]
  have hbA : Below w1.heap.size w1 (w1.alloc (.cells #[.int .u8 1] 5)) := (Below.refl _ _).alloc (Nat.le_refl _) _
  have Hloc := Lib.hid (dloc_any (w1.alloc (.cells #[.int .u8 1] 5)) vS _ S (HvS.out.below hbA) HSl.out bS (BytesAt.one w1 1))
  have HvA := Lib.hid (HvS.out.below hbA)
  have HBA := Lib.hid (HB1.out.trans (hbA.mono HB1.out.size))
  have hln := locP_len S
  have hlb := locP_bytes S
  obtain ⟨l, hl⟩ : ∃ l, locP S = l := ⟨_, rfl⟩
  rw [hl] at Hloc hln hlb
  have Hl := Lib.hid hl
  clear hbA HvS HB1 hl
  go_wp2_with fail
  refine Hloc.out.mono ?_
  rintro e w2 ⟨vl, rfl, hvl, hb⟩
  have HvL := Lib.hid hvl
  have HvS := Lib.hid (HvA.out.below hb)
  have HB2 := Lib.hid (HBA.out.trans (hb.mono HBA.out.size))
  have Hmul := Lib.hid (pmul_any w2 vS vl S l (HvA.out.below hb) hvl bS hlb (by have := HSl.out; omega) (by omega))
  have hob : Bytes (pmul S l) := pmul_bytes bS
  have hol := pmul_len S l
  rw [HSl.out] at hol
  obtain ⟨O, hO⟩ : ∃ O, pmul S l = O := ⟨_, rfl⟩
  rw [hO] at Hmul hob hol
  have HO := Lib.hid hO
  clear HvA HBA hO hb hvl Hloc
  go_wp2_with fail
  refine Hmul.out.mono ?_
  rintro e w3 ⟨vo, rfl, hvo, hb⟩
  have HvL3 := Lib.hid (HvL.out.below hb)
  have HB3 := Lib.hid (HB2.out.trans (hb.mono HB2.out.size))
  have HvO := Lib.hid hvo
  obtain ⟨A, c, rfl, k1, k2, k3⟩ := hvo
  have Hder := Lib.hid (pder_any w3 vl l HvL3.out (by omega))
  clear HvL HvS HB2 hb k3 Hmul
  have hbw : Bytes (bs s) := bs_lt s
  have Hw := Lib.hid hbw
  clear hbw hob
  by_cases hO8 : 8 < O.length
  case' pos =>
    have h8c : 8 ≤ c := by omega
    have hO8I : (8 : Int) < O.length := by omega
    have Hom : Hid (BytesAt w3 (.slice A 8 c) (O.take 8)) := Lib.hid (HvO.out.take (k := 8) (by omega))
  case' neg =>
    have hO8I : ¬ (8 : Int) < O.length := by omega
    have Hom : Hid (BytesAt w3 (.slice A O.length c) (O.take 8)) := Lib.hid (by rw [List.take_of_length_le (by omega)]; exact HvO.out)
  all_goals
    have hfx := rsDec_eq HS.out Hl.out HO.out
    rw [bs_len] at hfx
    have Hfx := Lib.hid hfx
    have hbom : Bytes (O.take 8) := fun b hb => by
      have h := pmul_bytes (q := l) bS
      rw [HO.out] at h
      exact h b (List.mem_of_mem_take hb)
    have hlom : (O.take 8).length ≤ 8 := by rw [List.length_take]; omega
    have hbsl : Bytes (pder l) := pder_bytes hlb
    have hlsl := pder_len l
    clear hfx HvO k1 k2 hol HO Hl HS
    generalize O.take 8 = om at *
    generalize pder l = sl at *
    go_wp2_with fail
    refine Hder.out.mono ?_
    rintro e w4 ⟨vs, rfl, hvs, hb⟩
    have HvL := Lib.hid (HvL3.out.below hb)
    have Hvo := Lib.hid (Hom.out.below hb)
    have HB4 := Lib.hid (HB3.out.trans (hb.mono HB3.out.size))
    have Hvs := Lib.hid hvs
    obtain ⟨cc, w5, hcv, hc1, hc2, hrow, hbb, hsz5⟩ := run_toBytes w4 s (by omega)
    have Hrow := Lib.hid hrow
    have Hbb := Lib.hid hbb
    clear hb hvs HvL3 Hom HB3 hrow hbb hsz5 Hder
    go_wp2
    go_loopw [20, 101] (fun r x wr => ∃ (i q : Nat) (out : List Nat), i ≤ s.size ∧ x = .int .i64 i ∧ r = .int .i64 q ∧ fixP l om sl (bs s) i = some (out, q) ∧ RowB wr w4.heap.size out ∧ Below w4.heap.size w4 wr) (fun _ x _ => s.size - (intOf x).toNat)
    case atStart => exact ⟨0, 0, bs s, by omega, rfl, rfl, rfl, Hrow.out, Hbb.out⟩
    case round =>
      obtain ⟨i, q, out, hi, rfl, rfl, hf, hr, hB⟩ := hrel
      clear hcv Hrow Hbb
      have Hf := Lib.hid hf
      have Hr := Lib.hid hr
      have HBr := Lib.hid hB
      obtain ⟨g1, g2, g3⟩ := fixP_ok Hw.out i hf
      rw [bs_len] at g1
      have HvL5 := Lib.hid (HvL.out.below hB)
      have Hvo5 := Lib.hid (Hvo.out.below hB)
      have Hvs5 := Lib.hid (Hvs.out.below hB)
      have G1 := Lib.hid g1
      clear hf hr hB g1
      by_cases h : i < s.size
      · have hiI : (i : Int) < s.size := by omega
        have hx1 : ∀ T : Int, T = -((s.size : Int) - 1 - i) → gexp T = xAt (bs s) i := by
          rintro T rfl
          unfold gexp gexpN xAt
          rw [bs_len]
          congr 1
          omega
        have hx2 : ∀ T : Int, T = (s.size : Int) - 1 - i → gexp T = pw (s.size - 1 - i) := by
          rintro T rfl
          unfold gexp gexpN
          congr 1
          omega
        have hxl : xAt (bs s) i < 256 := pw_lt _
        have Hx1 := Lib.hid hx1
        have Hx2 := Lib.hid hx2
        have hs1 : (0 : Int) ≤ (s.size : Int) - 1 - i := by omega
        clear hx1 hx2
        go_wp2_with fail
        refine (gexp_any _ _ (by omega)).mono ?_
        rintro e w6 ⟨rfl, hb⟩
        rw [Hx1.out _ (by omega)]
        have HL6 := Lib.hid (HvL5.out.below hb)
        have HO6 := Lib.hid (Hvo5.out.below hb)
        have HS6 := Lib.hid (Hvs5.out.below hb)
        have HR6 := Lib.hid (Hr.out.kept hb)
        have HB6 := Lib.hid (HBr.out.trans (hb.mono HBr.out.size))
        clear hb HvL5 Hvo5 Hvs5 Hr HBr
        obtain ⟨X, hX⟩ : ∃ X, xAt (bs s) i = X := ⟨_, rfl⟩
        rw [hX]
        rw [hX] at hxl
        have HX := Lib.hid hX
        clear hX Hx1
        have Hev := Lib.hid (peval_any w6 _ l X HL6.out hlb hxl (by omega))
        go_wp2_with fail
        refine Hev.out.mono ?_
        rintro e w7 ⟨rfl, hb⟩
        have HL7 := Lib.hid (HL6.out.below hb)
        have HO7 := Lib.hid (HO6.out.below hb)
        have HS7 := Lib.hid (HS6.out.below hb)
        have HR7 := Lib.hid (HR6.out.kept hb)
        have HB7 := Lib.hid (HB6.out.trans (hb.mono HB6.out.size))
        clear hb HL6 HO6 HS6 HR6 HB6 Hev
        by_cases h0 : hev X l = 0
        · have h0I : ((hev X l : Int) != 0) = false := by rw [bne_eq_false_iff_eq]; omega
          have H0 : Hid (hev (xAt (bs s) i) l = 0) := Lib.hid (by rw [HX.out]; exact h0)
          clear h0
          go_wp2_with fail
          refine (gexp_any _ _ (by omega)).mono ?_
          rintro e w8 ⟨rfl, hb⟩
          rw [Hx2.out _ (by omega)]
          have HL8 := Lib.hid (HL7.out.below hb)
          have HO8 := Lib.hid (HO7.out.below hb)
          have HS8 := Lib.hid (HS7.out.below hb)
          have HR8 := Lib.hid (HR7.out.kept hb)
          have HB8 := Lib.hid (HB7.out.trans (hb.mono HB7.out.size))
          clear hb HL7 HO7 HS7 HR7 HB7 Hx2
          have Hev := Lib.hid (peval_any w8 _ om X HO8.out hbom hxl (by omega))
          go_wp2_with fail
          refine Hev.out.mono ?_
          rintro e w9 ⟨rfl, hb⟩
          have HL9 := Lib.hid (HL8.out.below hb)
          have HO9 := Lib.hid (HO8.out.below hb)
          have HS9 := Lib.hid (HS8.out.below hb)
          have HR9 := Lib.hid (HR8.out.kept hb)
          have HB9 := Lib.hid (HB8.out.trans (hb.mono HB8.out.size))
          clear hb HL8 HO8 HS8 HR8 HB8 Hev
          have hev1 := hev_lt hxl hbom
          have hpw := pw_lt (s.size - 1 - i)
          have Hm := Lib.hid (gmul_any w9 _ _ hpw hev1)
          have hml : gmul (pw (s.size - 1 - i)) (hev X om) < 256 := gmul_lt _ hpw
          obtain ⟨M, hM⟩ : ∃ M, gmul (pw (s.size - 1 - i)) (hev X om) = M := ⟨_, rfl⟩
          rw [hM] at Hm hml
          have HM := Lib.hid hM
          clear hM
          go_wp2_with fail
          refine Hm.out.mono ?_
          rintro e w' ⟨rfl, rfl⟩
          have Hev := Lib.hid (peval_any w9 _ sl X HS9.out hbsl hxl (by omega))
          have hev2 := hev_lt hxl hbsl
          obtain ⟨Z, hZ⟩ : ∃ Z, hev X sl = Z := ⟨_, rfl⟩
          rw [hZ] at Hev hev2
          have HZ : Hid (hev (xAt (bs s) i) sl = Z) := Lib.hid (by rw [HX.out]; exact hZ)
          clear hZ
          go_wp2_with fail
          refine Hev.out.mono ?_
          rintro e w10 ⟨rfl, hb⟩
          have HR10 := Lib.hid (HR9.out.kept hb)
          have HB10 := Lib.hid (HB9.out.trans (hb.mono HB9.out.size))
          clear hb HL9 HO9 HS9 HR9 HB9 Hev Hm
          go_wp2_with fail
          refine (gdiv_any w10 M Z hml hev2).mono ?_
          rintro e w11 ⟨rfl, hb⟩
          rw [gdivR_eq]
          have HR11 := Lib.hid (HR10.out.kept hb)
          have HB11 := Lib.hid (HB10.out.trans (hb.mono HB10.out.size))
          clear hb HR10 HB10
          by_cases hz0 : Z = 0
          · have hd : decide (Z ≠ 0) = false := by simpa using hz0
            rw [hd]
            have e1 := fixP_none (fixP_fail Hf.out H0.out (HZ.out.trans hz0)) (s.size - (i + 1))
            rw [show i + 1 + (s.size - (i + 1)) = s.size by omega] at e1
            have e2 : rsDecR (bs s) = .tuple #[.string ⟨#[]⟩, .int .i64 0, .int .i64 11] := by
              unfold rsDecR
              rw [Hfx.out, e1]
              rfl
            have He2 := Lib.hid e2
            clear e1 e2 hd hz0
            go_wp2
            go_ret3
            exact ⟨by rw [He2.out]; rfl, HB4.out.trans (HB11.out.mono HB4.out.size)⟩
          · have hd : decide (Z ≠ 0) = true := by simpa using hz0
            rw [hd]
            have hoi : out[i]? = some (cf out i) := by unfold cf; rw [List.getElem?_eq_getElem (by rw [G1.out]; exact h)]; rfl
            have hc := HR11.out.cell i _ hoi
            have hfr := HR11.out.free i (by rw [G1.out]; exact h)
            have Hadd := Lib.hid (gadd_any w11 (cf out i) (gdv M Z) (cf_lt g2 i) (gdv_lt hml))
            have Hset := Lib.hid (HR11.out.set i (cf out i ^^^ gdv M Z))
            have e1 := fixP_fix Hf.out H0.out (by rw [HZ.out]; exact hz0)
            rw [HZ.out, HX.out, bs_len, HM.out] at e1
            have He1 := Lib.hid e1
            clear hoi hd e1 hz0
            generalize cf out i = x at *
            generalize gdv M Z = y at *
            go_wp2_with (go_at_call 97; refine Hadd.out.mono ?_; rintro e w' ⟨rfl, rfl⟩)
            go_roundw
            case rel => exact ⟨i + 1, q + 1, _, by omega, by go_num, by go_num, He1.out, Hset.out, HB11.out.setCell (p := ⟨w4.heap.size, i, none⟩) (Nat.le_refl _) _⟩
            case measure => simp [intOf]; omega
        · have h0I : ((hev X l : Int) != 0) = true := by rw [bne_iff_ne]; omega
          have e1 := fixP_skip Hf.out (by rw [HX.out]; exact h0)
          have He1 := Lib.hid e1
          clear h0 e1
          go_wp2
          go_roundw
          case rel => exact ⟨i + 1, q, out, by omega, by go_num, rfl, He1.out, HR7.out, HB7.out⟩
          case measure => simp [intOf]; omega
      · have hin : i = s.size := by omega
        subst hin
        have G2 := Lib.hid g2
        have hlt4 : s.size ≤ out.length := by have := G1.out; omega
        have hlt5 : out.length ≤ s.size := by have := G1.out; omega
        have Hfin : Hid (rsDec (bs s) = rsFin l (bs s) (some (out, q))) := Lib.hid (by rw [Hfx.out, Hf.out])
        have hcs := run_toStr (Hr.out.bytes (n := s.size) (c := cc) G1.out.symm hc1 hc2) G1.out.symm
        have hdl := dlocate_any wr s (strB out) (by rw [strB_size]; exact G1.out.symm) (by omega)
        rw [bs_strB g2] at hdl
        have Hdl := Lib.hid hdl
        obtain ⟨Al, cl, rfl, m1, m2, m3⟩ := HvL.out
        have hDl : (differ (bs s) out).length ≤ s.size := by have := differ_len (bs s) out; rwa [bs_len] at this
        obtain ⟨D, hD⟩ : ∃ D, differ (bs s) out = D := ⟨_, rfl⟩
        rw [hD] at Hdl hDl
        have HD := Lib.hid hD
        clear g2 hD hdl m3 Hfx HvL HvL5 Hvo5 Hvs5 Hvo Hvs
        go_wp2_with fail
        refine Hdl.out.mono ?_
        rintro e w6 ⟨vD, rfl, hvD, hb⟩
        have HR6 := Lib.hid (Hr.out.kept hb)
        have HB6 := Lib.hid (HBr.out.trans (hb.mono HBr.out.size))
        have HvD := Lib.hid hvD
        obtain ⟨AD, cD, rfl, n1, n2, n3⟩ := hvD
        clear hcs hb n3 Hdl Hr HBr
        go_wp2
        go_loop [28, 151] (fun c x => ∃ k : Nat, k ≤ D.length ∧ x = .int .i64 k ∧ c = .int .i64 k) (fun _ x => D.length - (intOf x).toNat)
        case atStart => exact ⟨0, by omega, rfl, rfl⟩
        case round =>
          obtain ⟨k, hk, rfl, rfl⟩ := hrel
          by_cases h' : k < D.length
          · have hkI : (k : Int) < D.length := by omega
            obtain ⟨b, o, rfl, hc⟩ := SlAt.cell HvD.out (List.getElem?_eq_getElem h')
            go_wp2_with (go_at_call 99; refine (bin_nil _ _).mono ?_; rintro e w' ⟨rfl, rfl⟩)
            go_round
            case rel => exact ⟨k + 1, by omega, by go_num, by go_num⟩
            case measure => simp [intOf]; omega
          · have hkn : k = D.length := by omega
            subst hkn
            have hnI : ¬ (D.length : Int) < D.length := by omega
            have hl1 : IntKind.i64.wrap ((l.length : Int) - 1) = (l.length : Int) - 1 := IntWalk.i64_in _ (by omega)
            have hfail : ¬ (q + 1 = l.length ∧ synd out = List.replicate 8 0 ∧ D.length ≤ 4) → rsDecR (bs s) = .tuple #[.string ⟨#[]⟩, .int .i64 0, .int .i64 11] := by
              intro hh
              unfold rsDecR
              rw [Hfin.out]
              unfold rsFin
              simp only
              rw [HD.out, if_neg hh]
            have Hfail := Lib.hid hfail
            clear hfail
            by_cases hq : q + 1 = l.length
            · have hqI : ((q : Int) != (l.length : Int) - 1) = false := by rw [bne_eq_false_iff_eq]; omega
              have Hq := Lib.hid hq
              have hcs := run_toStr (HR6.out.bytes (n := s.size) (c := cc) G1.out.symm hc1 hc2) G1.out.symm
              have his := rsis_any w6 (strB out) (by rw [strB_size]; omega) (by rw [strB_size]; omega)
              rw [bs_strB G2.out] at his
              have His := Lib.hid his
              clear hq his
              go_wp2_with fail
              refine His.out.mono ?_
              rintro e w7 ⟨rfl, hb⟩
              have HR7 := Lib.hid (HR6.out.kept hb)
              have HB7 := Lib.hid (HB6.out.trans (hb.mono HB6.out.size))
              clear hcs hb His HR6 HB6
              cases hz : zero8 (synd out) with
              | false =>
                have he := Hfail.out (fun hh => by unfold zero8 at hz; rw [decide_eq_false_iff_not] at hz; exact hz hh.2.1)
                have He := Lib.hid he
                clear he hz
                go_wp2
                go_ret3
                exact ⟨by rw [He.out]; rfl, HB4.out.trans (HB7.out.mono HB4.out.size)⟩
              | true =>
                have Hz := Lib.hid hz
                clear hz
                have hrd := dradius_any w7 D.length (by omega)
                by_cases h4 : D.length ≤ 4
                · have hd4 : decide (D.length ≤ 4) = true := by simpa using h4
                  rw [hd4] at hrd
                  have Hrd := Lib.hid hrd
                  have hcs := run_toStr (HR7.out.bytes (n := s.size) (c := cc) G1.out.symm hc1 hc2) G1.out.symm
                  have he : rsDecR (bs s) = .tuple #[.string (strB out), .int .i64 (D.length : Int), .int .i64 0] := by
                    unfold rsDecR
                    rw [Hfin.out]
                    unfold rsFin
                    simp only
                    have hz := Hz.out
                    unfold zero8 at hz
                    rw [decide_eq_true_eq] at hz
                    rw [HD.out, if_pos ⟨Hq.out, hz, h4⟩]
                  have He := Lib.hid he
                  clear hrd hd4 he
                  go_wp2_with (go_at_call 101; refine Hrd.out.mono ?_; rintro e w' ⟨rfl, rfl⟩)
                  go_ret3
                  exact ⟨by rw [He.out]; rfl, HB4.out.trans (HB7.out.mono HB4.out.size)⟩
                · have hd4 : decide (D.length ≤ 4) = false := by simpa using h4
                  rw [hd4] at hrd
                  have Hrd := Lib.hid hrd
                  have he := Hfail.out (fun hh => h4 hh.2.2)
                  have He := Lib.hid he
                  clear hrd hd4 he
                  go_wp2_with (go_at_call 101; refine Hrd.out.mono ?_; rintro e w' ⟨rfl, rfl⟩)
                  go_ret3
                  exact ⟨by rw [He.out]; rfl, HB4.out.trans (HB7.out.mono HB4.out.size)⟩
            · have hqI : ((q : Int) != (l.length : Int) - 1) = true := by rw [bne_iff_ne]; omega
              have he := Hfail.out (fun hh => hq hh.1)
              have He := Lib.hid he
              clear hq he
              go_wp2
              go_ret3
              exact ⟨by rw [He.out]; rfl, HB4.out.trans (HB6.out.mono HB4.out.size)⟩

end Go.Proofs.YtjennpcadjdnlaaGreatDoor
