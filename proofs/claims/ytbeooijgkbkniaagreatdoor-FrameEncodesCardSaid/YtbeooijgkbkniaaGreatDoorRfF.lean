/-
  WALK: the reference's Encode of the outer code, at a message of 44 bytes.
-/
import Derived.Test.YtbeooijgkbkniaaGreatDoorRfE
namespace Go.Proofs.YtbeooijgkbkniaaGreatDoor
open Go.RowKit

theorem wpList_appZ {ops : Array Oper} {rest : List Oper} {o : Oper} {a : Act} {Q : Exit → Act → World → Prop} {W : World} {B g n c : Nat} {xs : List Nat} (hw : Region.wanted o (yielded ops a.tmps) = true) (s y : Operand) (ho : o.op = .call { callee := .builtin .append, args := #[s, y], argTypes := #[37, 3] })
    (hs : a.eval s = .slice (some ⟨g, 0, none⟩) n c) (hy : a.eval y = .int .i64 8) (hrow : RowB W g xs) (hn : xs.length = n) (hn9 : n ≤ 1000) (hc : n ≤ c) (hc2 : c ≤ 9223372036854775807)
    (hfree : ∀ i, n ≤ i → i < c → W.cell? ⟨g, i, none⟩ = some (.int .u8 0) ∧ W.frozen? ⟨g, i, none⟩ = false) (hB : B ≤ g) (hB2 : B ≤ W.heap.size)
    (h : ∀ g' c' w', RowB w' g' (xs ++ List.replicate 8 0) → n + 8 ≤ c' → c' ≤ 9223372036854775807 → B ≤ g' → Below B W w' → wpList Tryz.prog ops Q rest (a.put o.dst (.slice (some ⟨g', 0, none⟩) (n + 8) c')) w') : wpList Tryz.prog ops Q (o :: rest) a W :=
  wpList_step fun K hK => by
    simp only [hw, if_true]
    obtain ⟨g', c', w', hr, k1, k2, k3, k4, k5⟩ := run_appZ o.type hrow hn hn9 hc hc2 hfree hB hB2
    unfold Oper.wp execOp
    simp only [ho, resolve, invoke, builtin, Sem.run_bind, Sem.run_pure, Result.andThen_ok, List.map_toArray, List.map_cons, List.map_nil, hs, hy, hr]
    exact hK _ _ (h g' c' w' k1 k2 k3 k4 k5)
/-- The end of a row of bytes. -/
theorem RowB.tail {w : World} {g : Nat} {xs : List Nat} (h : RowB w g xs) {k m c : Nat} (_hk : k ≤ xs.length) (hm : m = xs.length - k) (hc : m ≤ c) (hc2 : c ≤ 9223372036854775807) : BytesAt w (.slice (some ⟨g, k, none⟩) m c) (xs.drop k) := by
  subst hm
  refine ⟨_, c, by rw [List.length_drop], by rw [List.length_drop]; exact hc, hc2, fun i x hi => ⟨g, k, u8V x, rfl, ?_, rfl⟩⟩
  rw [List.getElem?_drop] at hi
  exact h.cell _ _ hi

set_option maxRecDepth 100000 in
set_option maxHeartbeats 8000000 in
theorem rsenc7_any (w : World) (s : ByteArray) (hs : s.size = 44) : Calls Tryz.prog 50 #[.string s, .int .i64 8] w fun e w' => e = .returned (.tuple #[.string (strB (rsEnc (bs s))), .int .i64 0]) ∧ Below w.heap.size w w' := by
  have hDl : (bs s).length = 44 := by rw [bs_len, hs]
  have hDb : Bytes (bs s) := fun b hb => bs_lt s b hb
  have HE : Hid (s = strB (bs s)) := Lib.hid (strB_bs s).symm
  have HDl := Lib.hid hDl
  have HDb := Lib.hid hDb
  clear hDl hDb
  go_enter Tryz.func50, Tryz.ntmps50
  go_upto_region 2 with (go_at_call 111; refine (rgen_any _).mono ?_; rintro e w1 ⟨v1, rfl, hv1, hb1⟩)
  have Hv := Lib.hid hv1
  obtain ⟨A, cg, rfl, h1, h2, h3⟩ := hv1
  have hG9 : G8.length = 9 := rfl
  rw [hG9] at h1 ⊢
  have HB1 := Lib.hid hb1
  clear h3 hb1 hG9
  go_upto_region 6 with fail
  obtain ⟨c, w2, hcv, hc1, hc2, hrow, hbb, hfree⟩ := run_toBytesX w1 s (by omega)
  rw [hs] at hcv hc1 hfree
  have Hrow := Lib.hid hrow
  have HB2 := Lib.hid hbb
  have Hfree := Lib.hid hfree
  have Hc1 := Lib.hid hc1
  have Hc2 := Lib.hid hc2
  have hz2 := hbb.size
  clear hrow hbb hfree hc1 hc2
  go_wp2_with (at_builtin; refine wpList_appZ rfl _ _ rfl rfl rfl Hrow.out HDl.out (by omega) Hc1.out Hc2.out Hfree.out (Nat.le_refl _) hz2 ?_; intro g' c' w3 hr3 hc3 hc4 hg3 hb3)
  have HB3 := Lib.hid (HB2.out.trans hb3)
  have Hr3 := Lib.hid hr3
  have HS0 := Lib.hid (encS_zero HDb.out)
  clear hr3 hb3 Hrow HB2 Hfree Hc1 Hc2 hcv
  go_loopw [9] (fun x wr => ∃ (i : Nat) (R : List Nat), i ≤ 44 ∧ x = .int .i64 (i : Int) ∧ EncS (bs s) i R ∧ RowB wr g' R ∧ Below w1.heap.size w1 wr) (fun x _ => 44 - (intOf x).toNat)
  case atStart => exact ⟨0, _, by omega, rfl, HS0.out, Hr3.out, HB3.out⟩
  case round =>
    obtain ⟨i, R, hi, rfl, hS, hr, hB⟩ := hrel
    obtain ⟨wo, rfl⟩ : ∃ x, x = wr := ⟨_, rfl⟩
    clear HS0 Hr3 HB3
    have HS := Lib.hid hS
    have Hr := Lib.hid hr
    have HBr := Lib.hid hB
    clear hS hr hB
    by_cases h : i < 44
    · have hiI : (i : Int) < 44 := by omega
      have hlen : R.length = 52 := by rw [HS.out.len, HDl.out]
      have hRi : R[i]? = some (cf R i) := by unfold cf; rw [List.getElem?_eq_getElem (by omega)]; rfl
      have hci := Hr.out.cell i _ hRi
      have hi52 : (i : Int) < 52 := by omega
      have hld : cf R i < 256 := cf_lt HS.out.bytes i
      have Hstep := Lib.hid (encS_step HS.out (by rw [HDl.out]; exact h))
      have Hrb := Lib.hid HS.out.bytes
      have HRl := Lib.hid hlen
      obtain ⟨ld, hle⟩ : ∃ ld, cf R i = ld := ⟨_, rfl⟩
      rw [hle] at hci hld Hstep
      clear hRi hle hlen
      go_wp2
      clear hci
      go_loopw [11] (fun x wx => ∃ k : Nat, k ≤ 9 ∧ x = .int .i64 (k : Int) ∧ RowB wx g' (encK R i ld k) ∧ Below w1.heap.size w1 wx) (fun x _ => 9 - (intOf x).toNat)
      case atStart => exact ⟨0, by omega, rfl, Hr.out, HBr.out⟩
      case round =>
        obtain ⟨k, hk, rfl, hr, hB⟩ := hrel
        clear Hr HBr
        have Hr := Lib.hid hr
        have HBr := Lib.hid hB
        clear hr hB
        by_cases h' : k < 9
        · have hkI : (k : Int) ≤ 8 := by omega
          have hKl := encK_len R i ld k
          rw [HRl.out] at hKl
          have hRk : (encK R i ld k)[i + k]? = some (cf (encK R i ld k) (i + k)) := by unfold cf; rw [List.getElem?_eq_getElem (by omega)]; rfl
          have hc1 := Hr.out.cell (i + k) _ hRk
          have hf1 := Hr.out.free (i + k) (by omega)
          obtain ⟨gb, go, e9, hcg⟩ := (Hv.out.below HBr.out).cell (i := 8 - k) (x := cf G8 (8 - k)) (by unfold cf; rw [List.getElem?_eq_getElem (by show 8 - k < 9; omega)]; rfl)
          have hgb : cf G8 (8 - k) < 256 := cf_lt G8_bytes _
          have Htm := Lib.hid (fun W => r7times_any W ld (cf G8 (8 - k)) hld hgb)
          have hx1 := u8_xor (cf_lt (encK_bytes Hrb.out i hld k) (i + k)) (gmul_lt (cf G8 (8 - k)) hld)
          have Hs1 := Lib.hid (Hr.out.set (i + k) (cf (encK R i ld k) (i + k) ^^^ gmul ld (cf G8 (8 - k))))
          have Hst : Hid ((encK R i ld k).set (i + k) (cf (encK R i ld k) (i + k) ^^^ gmul ld (cf G8 (8 - k))) = encK R i ld (k + 1)) := Lib.hid rfl
          rw [Hst.out] at Hs1
          have HX1 := Lib.hid ((HBr.out.setCell (p := ⟨g', i + k, none⟩) hg3 (.int .u8 ((cf (encK R i ld k) (i + k) ^^^ gmul ld (cf G8 (8 - k)) : Nat) : Int))).drew)
          have hs1 : IntKind.i64.wrap ((i : Int) + k) = (i : Int) + k := IntWalk.i64_in _ (by omega)
          have hs2 : ((i : Int) + k).toNat = i + k := by omega
          have hs3 : (0 : Int) ≤ (i : Int) + k := by omega
          have hs4 : (i : Int) + k < 52 := by omega
          have ht1 : IntKind.i64.wrap (8 - (k : Int)) = 8 - (k : Int) := IntWalk.i64_in _ (by omega)
          have ht2 : (8 - (k : Int)).toNat = 8 - k := by omega
          have ht3 : (0 : Int) ≤ 8 - (k : Int) := by omega
          have ht4 : 8 - (k : Int) < 9 := by omega
          cases e9
          clear hKl hRk Hst
          generalize gmul ld (cf G8 (8 - k)) = z at *
          generalize cf G8 (8 - k) = y at *
          generalize cf (encK R i ld k) (i + k) = x1 at *
          go_wp2
          go_still_tail 20, (by kernel_rfl)
          still_call (still_of (Htm.out _))
          repeat still_step
          refine wpStill_nil ?_
          go_wp2
          clear hx1 hs1 hs2 hs3 hs4 ht1 ht2 ht3 ht4
          go_roundw
          case rel => exact ⟨k + 1, by omega, by go_num, Hs1.out.of_heap rfl, HX1.out⟩
          case measure => simp [intOf]; omega
        · obtain rfl : k = 9 := by omega
          go_wp2
          go_roundw
          case rel => exact ⟨i + 1, _, by omega, by go_num, Hstep.out, Hr.out, HBr.out⟩
          case measure => simp [intOf]; omega
    · obtain rfl : i = 44 := by omega
      have hlen : R.length = 52 := by rw [HS.out.len, HDl.out]
      have hS := HS.out
      rw [← HDl.out] at hS
      have he := encS_end hS
      rw [HDl.out] at he
      have ht := Hr.out.tail (k := 44) (m := 8) (c := c' - 44) (by omega) (by omega) (by omega) (by omega)
      rw [he] at ht
      have hcs := run_toStr ht (by rw [← he, List.length_drop, hlen])
      have hcap : ¬ c' = 44 := by omega
      have hcapI : ¬ ((c' : Int) = 44) := by omega
      have hR : s ++ strB (rsPar (bs s)) = strB (rsEnc (bs s)) := by
        conv => lhs; rw [HE.out, strB_cat]
        rw [bs_strB HDb.out]
        rfl
      have h8 : (strB (rsPar (bs s))).size = 8 := by rw [strB_size, ← he, List.length_drop, hlen]
      have HR := Lib.hid hR
      have hsz44 : s.size = 44 := hs
      clear hS he ht hR hlen
      generalize strB (rsPar (bs s)) = P at *
      go_wp2
      go_ret2
      exact ⟨by rw [← HR.out]; rfl, HB1.out.trans (HBr.out.mono HB1.out.size)⟩

end Go.Proofs.YtbeooijgkbkniaaGreatDoor
