/-
  WALKS: rsdecode.locator.
-/
import Derived.Test.YtjennpcadjdnlaaGreatDoorRsW
import Derived.Test.YtjennpcadjdnlaaGreatDoorRsB
namespace Go.Proofs.YtjennpcadjdnlaaGreatDoor
open Go.RowKit

theorem gdivR_eq (a b : Nat) : gdivR a b = .tuple #[.int .u8 (gdv a b : Nat), .bool (decide (b ≠ 0))] := by
  unfold gdivR gdv
  by_cases h : b = 0 <;> simp [h]
/-- Between two rounds of the locator's loop. -/
def LocI (w : World) (S : List Nat) (l prev len gap last n : Value) (wr : World) : Prop :=
  ∃ k : Nat, k ≤ 8 ∧ n = .int .i64 k ∧ BytesAt wr l (bmRun S k).l ∧ BytesAt wr prev (bmRun S k).prev ∧ len = .int .i64 (bmRun S k).length ∧ gap = .int .i64 (bmRun S k).gap ∧ last = .int .u8 (bmRun S k).last ∧ Below w.heap.size w wr
theorem LocI.mk' {w wr : World} {S : List Nat} {l prev : Value} {k : Nat} (h1 : k ≤ 8) (h2 : BytesAt wr l (bmRun S k).l) (h3 : BytesAt wr prev (bmRun S k).prev) (h4 : Below w.heap.size w wr) :
    LocI w S l prev (.int .i64 (bmRun S k).length) (.int .i64 (bmRun S k).gap) (.int .u8 (bmRun S k).last) (.int .i64 k) wr := ⟨k, h1, rfl, h2, h3, rfl, rfl, rfl, h4⟩

set_option maxRecDepth 100000 in
set_option maxHeartbeats 4000000 in
theorem dloc_any (w : World) (v u : Value) (S : List Nat) (hS : BytesAt w v S) (hl : S.length = 8) (bS : Bytes S) (hu : BytesAt w u [1]) : Calls Tryz.prog 92 #[v, u] w fun e w' => ∃ v', e = .returned v' ∧ BytesAt w' v' (locP S) ∧ Below w.heap.size w w' := by
  have HS := Lib.hid hS
  obtain ⟨A, c, rfl, h1, h2, h3⟩ := hS
  have Hu := Lib.hid hu
  obtain ⟨A', c', rfl, h1', h2', h3'⟩ := hu
  have Hl := Lib.hid hl
  have hl8 : S.length ≤ 8 := by omega
  have hl9 : 8 ≤ S.length := by omega
  clear h3 h3' hl
  have Hc1 := Lib.hid (cloneb_any w _ [1] Hu.out (by decide))
  go_enter Tryz.func92, Tryz.ntmps92
  go_wp2_with fail
  refine Hc1.out.mono ?_
  rintro e w1 ⟨v1, rfl, hv1, hb1⟩
  have Hv1 := Lib.hid hv1
  have Hb1 := Lib.hid hb1
  have Hc2 := Lib.hid (cloneb_any w1 _ [1] (Hu.out.below hb1) (by decide))
  clear hv1 hb1
  go_wp2_with fail
  refine Hc2.out.mono ?_
  rintro e w2 ⟨v2, rfl, hv2, hb2⟩
  have Hv2 := Lib.hid hv2
  have Hb2 := Lib.hid (Hb1.out.trans (hb2.mono Hb1.out.size))
  have Hv1' := Lib.hid (Hv1.out.below hb2)
  clear hv2 hb2
  go_wp2
  go_loopw [6, 7, 8, 9, 10, 11] (fun l prev len gap last n wr => LocI w S l prev len gap last n wr) (fun _ _ _ _ _ n _ => 8 - (intOf n).toNat)
  case atStart => exact ⟨0, by omega, rfl, Hv1'.out, Hv2.out, rfl, rfl, rfl, Hb2.out⟩
  case round =>
    obtain ⟨k, hk, rfl, gl, gp, rfl, rfl, rfl, hB⟩ := hrel
    have Hgl := Lib.hid gl
    have Hgp := Lib.hid gp
    have HBr := Lib.hid hB
    clear Hc1 Hc2 Hv1 Hb1 Hv2 Hb2 Hv1' gl gp hB
    by_cases h : k < 8
    · have hkI : (k : Int) < S.length := by omega
      have hok := bm_ok S k (by omega)
      have hnx := bmRun_succ S k
      have Hnx := Lib.hid hnx
      clear hnx
      generalize bmRun S k = t at *
      have Hok := Lib.hid hok
      have hlen := hok.len
      have hgap := hok.gap
      clear hok
      obtain ⟨wo, hwo⟩ : ∃ wo : World, wo = wr := ⟨_, rfl⟩
      subst hwo
      go_wp2
      go_loopw [12, 13] (fun d i wr => ∃ j : Nat, j ≤ k + 1 ∧ i = .int .i64 j ∧ d = .int .u8 (disc t.l S k j : Nat) ∧ Below wo.heap.size wo wr) (fun _ i _ => k + 1 - (intOf i).toNat)
      case atStart => exact ⟨0, by omega, rfl, rfl, Below.refl _ _⟩
      case round =>
        obtain ⟨j, hj, rfl, rfl, hBi⟩ := hrel
        have HBi := Lib.hid hBi
        clear hBi
        by_cases hj2 : j ≤ k
        · have hjI : (j : Int) ≤ k := by omega
          have hSk : S[k - j]? = some (cf S (k - j)) := by unfold cf; rw [List.getElem?_eq_getElem (by omega)]; rfl
          obtain ⟨b, o, rfl, hc⟩ := BytesAt.cell ((HS.out.below HBr.out).below HBi.out) hSk
          have Hat := Lib.hid (dat_any wr.drew u6 t.l j (Hgl.out.below HBi.out.drew))
          have Hmul := Lib.hid (fun W => gmul_any W (cf t.l j) (cf S (k - j)) (cf_lt Hok.out.bl _) (cf_lt bS _))
          have Hadd := Lib.hid (fun W => gadd_any W (disc t.l S k j) _ (disc_lt Hok.out.bl k j) (gmul_lt (cf S (k - j)) (cf_lt Hok.out.bl j)))
          have Hst : Hid (disc t.l S k (j + 1) = disc t.l S k j ^^^ gmul (cf t.l j) (cf S (k - j))) := Lib.hid rfl
          have hs1 : IntKind.i64.wrap ((k : Int) - j) = (k : Int) - j := IntWalk.i64_in _ (by omega)
          have hs3 : ((k : Int) - j).toNat = k - j := by omega
          have hs4 : (0 : Int) ≤ (k : Int) - j := by omega
          have hs5 : (k : Int) - j < S.length := by omega
          clear hSk
          generalize cf S (k - j) = y at *
          generalize cf t.l j = x at *
          go_wp2
          go_still_tail 12, (by kernel_rfl)
          still_call (still_of Hat.out)
          repeat still_step
          still_call (still_of (Hmul.out _))
          repeat still_step
          still_call (still_of (Hadd.out _))
          repeat still_step
          refine wpStill_nil ?_
          go_wp2
          clear hs1 hs3 hs4 hs5
          go_roundw
          case rel => exact ⟨j + 1, by omega, by go_num, by rw [Hst.out], HBi.out.drew⟩
          case measure => simp [intOf]; omega
        · have hjk : j = k + 1 := by omega
          subst hjk
          have hnI : ¬ ((k + 1 : Nat) : Int) ≤ k := by omega
          have hD := disc_lt Hok.out.bl (s := S) k (k + 1)
          have HgL := Lib.hid (Hgl.out.below HBi.out)
          have HgP := Lib.hid (Hgp.out.below HBi.out)
          have HBw := Lib.hid (HBr.out.trans (HBi.out.mono HBr.out.size))
          clear HBi HBr Hgl Hgp
          obtain ⟨D, hDe⟩ : ∃ D, disc t.l S k (k + 1) = D := ⟨_, rfl⟩
          rw [hDe] at hD
          rw [hDe]
          have HD := Lib.hid hDe
          clear hDe
          by_cases h0 : D = 0
          · have hI : ((D : Int) == 0) = true := by rw [beq_iff_eq]; omega
            have e := Hnx.out.trans (bmStep_zero (HD.out.trans h0))
            have He := Lib.hid e
            clear e h0
            go_wp2
            go_roundw
            case rel =>
              refine ⟨k + 1, by omega, by go_num, ?_, ?_, ?_, ?_, ?_, HBw.out⟩
              · rw [He.out]; exact HgL.out
              · rw [He.out]; exact HgP.out
              · rw [He.out]
              · rw [He.out]; go_num
              · rw [He.out]
            case measure => simp [intOf]; omega
          · have hI : ((D : Int) == 0) = false := by rw [beq_eq_false_iff_ne]; omega
            have hD0 : disc t.l S k (k + 1) ≠ 0 := by rw [HD.out]; exact h0
            have HD0 := Lib.hid hD0
            have Hdiv := Lib.hid (gdiv_any wr D t.last hD Hok.out.last)
            have hby : gdv D t.last < 256 := gdv_lt hD
            have Hnext : Hid (bmNext S k t = padd t.l (List.replicate t.gap 0 ++ pmul t.prev [gdv D t.last])) := by
              refine Lib.hid ?_
              rw [← HD.out]
              rfl
            clear h0 hD0
            go_wp2_with fail
            refine Hdiv.out.mono ?_
            rintro e w1 ⟨rfl, hb1⟩
            rw [gdivR_eq]
            have HB1 := Lib.hid (HBw.out.trans (hb1.mono HBw.out.size))
            have HgL1 := Lib.hid (HgL.out.below hb1)
            have HgP1 := Lib.hid (HgP.out.below hb1)
            clear HBw HgL HgP hb1 Hdiv
            generalize gdv D t.last = by' at *
            have Hsc := Lib.hid (dscale_any w1 u7 t.prev by' HgP1.out Hok.out.bp hby (by have := Hok.out.lp; omega))
            go_wp2_with fail
            refine Hsc.out.mono ?_
            rintro e w2 ⟨v2, rfl, hv2, hb2⟩
            have HB2 := Lib.hid (HB1.out.trans (hb2.mono HB1.out.size))
            have HgL2 := Lib.hid (HgL1.out.below hb2)
            have HgP2 := Lib.hid (HgP1.out.below hb2)
            have hpl : (pmul t.prev [by']).length ≤ 400 := by have := pmul_len t.prev [by']; have := Hok.out.lp; rw [List.length_singleton] at *; omega
            have Hsh := Lib.hid (dshift_any w2 v2 _ t.gap hv2 (by omega) (by omega))
            clear HB1 HgL1 HgP1 hb2 hv2 Hsc
            go_wp2_with fail
            refine Hsh.out.mono ?_
            rintro e w3 ⟨v3, rfl, hv3, hb3⟩
            have HB3 := Lib.hid (HB2.out.trans (hb3.mono HB2.out.size))
            have HgL3 := Lib.hid (HgL2.out.below hb3)
            have HgP3 := Lib.hid (HgP2.out.below hb3)
            have Hpa := Lib.hid (padd_any w3 u6 v3 t.l _ HgL3.out hv3 Hok.out.bl (bytes_rep (pmul_bytes Hok.out.bp) t.gap) (by have := Hok.out.ll; omega) (by rw [List.length_append, List.length_replicate]; omega))
            rw [← Hnext.out] at Hpa
            clear HB2 HgL2 HgP2 hb3 hv3 Hsh
            go_wp2_with fail
            refine Hpa.out.mono ?_
            rintro e w4 ⟨v4, rfl, hv4, hb4⟩
            have HB4 := Lib.hid (HB3.out.trans (hb4.mono HB3.out.size))
            have HgL4 := Lib.hid (HgL3.out.below hb4)
            have HgP4 := Lib.hid (HgP3.out.below hb4)
            have Hv4 := Lib.hid hv4
            clear HB3 HgL3 HgP3 hb4 hv4 Hpa
            by_cases h2 : 2 * t.length ≤ k
            · have h2I : 2 * (t.length : Int) ≤ k := by omega
              have He := Lib.hid (Hnx.out.trans (bmStep_far HD0.out h2))
              go_wp2
              go_roundw
              case rel =>
                refine ⟨k + 1, by omega, by go_num, ?_, ?_, ?_, ?_, ?_, HB4.out⟩
                · rw [He.out]; exact Hv4.out
                · rw [He.out]; exact HgL4.out
                · rw [He.out]; exact congrArg (Value.int .i64) (by show _ = ((k + 1 - t.length : Nat) : Int); omega)
                · rw [He.out]; rfl
                · rw [He.out, HD.out]
              case measure => simp [intOf]; omega
            · have h2I : ¬ 2 * (t.length : Int) ≤ k := by omega
              have He := Lib.hid (Hnx.out.trans (bmStep_near HD0.out h2))
              go_wp2
              go_roundw
              case rel =>
                refine ⟨k + 1, by omega, by go_num, ?_, ?_, ?_, ?_, ?_, HB4.out⟩
                · rw [He.out]; exact Hv4.out
                · rw [He.out]; exact HgP4.out
                · rw [He.out]
                · rw [He.out]; go_num
                · rw [He.out]
              case measure => simp [intOf]; omega
    · have hk8 : k = 8 := by omega
      have hlen := (bm_ok S k hk).ll
      have e : ptrim (bmRun S k).l = locP S := by unfold locP; rw [hk8]
      have hI : ¬ (k : Int) < S.length := by omega
      have He := Lib.hid e
      have Hgl2 := Lib.hid Hgl.out
      clear e hk8 Hgl Hgp
      generalize (bmRun S k).l = L at *
      have Ht := Lib.hid (ptrim_any wr u6 _ Hgl2.out (by omega))
      rw [He.out] at Ht
      go_wp2_with (go_at_call 153; refine Ht.out.mono ?_; rintro e w1 ⟨v1, rfl, hv1, hb1⟩)
      go_ret
      exact ⟨v1, rfl, hv1, HBr.out.trans (hb1.mono HBr.out.size)⟩

end Go.Proofs.YtjennpcadjdnlaaGreatDoor
