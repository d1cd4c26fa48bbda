/-
 WALK: steleref13.Encode.
 WALKS: steleref14.Join; stelelaw14.ScanJoin.
-/
import Derived.Test.YtnlnmfkmbpihhaaGreatDoorFrN
import Derived.Test.YtnlnmfkmbpihhaaGreatDoorFrI
import Derived.Test.YtnlnmfkmbpihhaaGreatDoorRfA
import Derived.Test.YtnlnmfkmbpihhaaGreatDoorScC
import Derived.BigQuiet
namespace Go.Proofs.YtnlnmfkmbpihhaaGreatDoor
open Go.RowKit

set_option maxRecDepth 100000 in
set_option maxHeartbeats 8000000 in
theorem renc_all (w : World) (k r s i l d p a : Int) (t : ByteArray) (ha : 0 ≤ a ∧ a < 4294967296) :
  Calls Tryz.prog 37 #[frV k r s i l d p a t] w fun e w' => e = .returned (fencR k r s i l d p a t) ∧ Below w.heap.size w w' := by
 obtain ⟨R, hR⟩ : ∃ R, fencR k r s i l d p a t = R := ⟨_, rfl⟩
 rw [hR]
 unfold fencR at hR
 have HMr := Lib.hid (fun W => rmar_all W k r s i l d p a t ha)
 have HB := Lib.hid ((Below.refl w.heap.size w).alloc (Nat.le_refl _) (.cells #[.int .i64 k, .int .i64 r, .int .i64 s, .int .i64 i, .int .i64 l, .int .i64 d, .int .i64 p, .int .u32 a, .string t] 34))
 have HZ := Lib.hid (Box9.blk (Blk.new w 34 [.int .i64 k, .int .i64 r, .int .i64 s, .int .i64 i, .int .i64 l, .int .i64 d, .int .i64 p, .int .u32 a, .string t]))
 change Hid (Box9 (w.alloc (.cells #[.int .i64 k, .int .i64 r, .int .i64 s, .int .i64 i, .int .i64 l, .int .i64 d, .int .i64 p, .int .u32 a, .string t] 34)) _ _ _ _ _ _ _ _ _ _) at HZ
 unfold marR at HMr
 by_cases h0 : frE k r s i l d p t = 0
 ·rw [if_neg (by simpa using h0)] at hR HMr
  have hmb : Bytes (marL k.toNat r.toNat s.toNat i.toNat l.toNat d.toNat p.toNat a.toNat t) ∧ (marL k.toNat r.toNat s.toNat i.toNat l.toNat d.toNat p.toNat a.toNat t).length = 44 := by
   obtain ⟨h1, h2, h3, h4, h5, h6, h7, h8⟩ := frE_ok h0
   have e : frE (k.toNat : Int) (r.toNat : Int) (s.toNat : Int) (i.toNat : Int) (l.toNat : Int) (d.toNat : Int) (p.toNat : Int) t = 0 := by
    rw [Int.toNat_of_nonneg (by omega), Int.toNat_of_nonneg (by omega), Int.toNat_of_nonneg (by omega), Int.toNat_of_nonneg (by omega), Int.toNat_of_nonneg (by omega), Int.toNat_of_nonneg (by omega), Int.toNat_of_nonneg (by omega)]
    exact h0
   obtain ⟨c, _, _, h9, h10, _, _⟩ := mar_ok (a := a.toNat) e (by omega)
   exact ⟨h9, h10⟩
  obtain ⟨m, hm⟩ : ∃ m, marL k.toNat r.toNat s.toNat i.toNat l.toNat d.toNat p.toNat a.toNat t = m := ⟨_, rfl⟩
  rw [hm] at hR HMr hmb
  obtain ⟨hmB, hml⟩ := hmb
  obtain ⟨hwl, hwB⟩ := rsEnc_ok hmB hml
  have H1 : Hid (∀ W : World, Calls Tryz.prog 70 #[.string (stepS m 0), .int .i64 8] W fun e w' => e = .returned (.tuple #[.string (stepS m 1), .int .i64 0]) ∧ Below W.heap.size W w') := Lib.hid (fun W => by
   have h := rsenc7_any W (strB m) (by rw [strB_size, hml])
   rw [bs_strB hmB] at h
   exact h)
  have H2 : Hid (∀ W : World, Calls Tryz.prog 72 #[.string (stepS m 1)] W fun e w' => e = .returned (.string (stepS m 2)) ∧ Below W.heap.size W w') := Lib.hid (fun W => by
   have h := rfrom_any W (strB (rsEnc m)) (by rw [strB_size, hwl]; omega)
   rw [bs_strB hwB] at h
   exact h)
  have H3 : Hid (∀ W : World, Calls Tryz.prog 71 #[.string (stepS m 2)] W fun e w' => e = .returned (.tuple #[.string (stepS m 3), .int .i64 0]) ∧ Below W.heap.size W w') := Lib.hid (fun W =>
   rcenc_any W (strB (frmB (rsEnc m))) (bitU (rsEnc m)) (by rw [bitsS_bitU, bs_strB]; intro x hx; rcases frmB_01 _ x hx with rfl | rfl <;> decide) (bitU_bits _) (by rw [bitU_len, hwl]; omega))
  have H4 : Hid (∀ W : World, Calls Tryz.prog 73 #[.string (stepS m 3), .int .i64 8] W fun e w' => e = .returned (.tuple #[.string (stepS m 4), .int .i64 0]) ∧ Below W.heap.size W w') := Lib.hid (fun W => by
   have h := rinter_any W (strB (cellL m)) (by rw [strB_size, cellL_len hmB hml])
   rw [bs_strB (fun x hx => by rcases cellL_01 m x hx with rfl | rfl <;> decide)] at h
   exact h)
  have z4 : (stepS m 4).size = 836 := by show (strB (bodyL m)).size = _; rw [strB_size, bodyL_len]
  have zk : markS.size = 16 := by decide
  have HR : Hid (Value.tuple #[.string (markS ++ stepS m 4), .int .i64 0] = R) := Lib.hid hR
  have HMr2 : Hid (∀ W : World, Calls Tryz.prog 69 #[frV k r s i l d p a t] W fun e w' => e = .returned (.tuple #[.string (stepS m 0), .int .i64 0]) ∧ Below W.heap.size W w') := Lib.hid HMr.out
  clear hR h0 hm hmB hml hwl hwB HMr ha
  have HK : Hid (∀ W : World, Calls Tryz.prog 74 #[] W fun e w' => e = .returned (.string markS) ∧ W = w') := Lib.hid (fun W => rmark_any W)
  generalize hS : stepS m = S at *
  clear hS
  generalize markS = K at *
  unfold frV at HMr2 ⊢
  go_enter Tryz.func37, Tryz.ntmps37
  go_upto_region 1 with fail
  generalize w.alloc (.cells #[.int .i64 k, .int .i64 r, .int .i64 s, .int .i64 i, .int .i64 l, .int .i64 d, .int .i64 p, .int .u32 a, .string t] 34) = wz at *
  obtain ⟨c0, c1, c2, c3, c4, c5, c6, c7, c8⟩ := HZ.out
  go_upto_region 4 with (go_at_call 69; refine (HMr2.out _).mono ?_; rintro e w1 ⟨rfl, hb1⟩)
  have HB1 := Lib.hid (HB.out.trans (hb1.mono HB.out.size))
  clear hb1 HZ HB HMr2 c0 c1 c2 c3 c4 c5 c6 c7 c8
  go_upto_region 5 with (go_at_call 70; refine (H1.out _).mono ?_; rintro e w2 ⟨rfl, hb2⟩)
  have HB2 := Lib.hid (HB1.out.trans (hb2.mono HB1.out.size))
  clear hb2 HB1 H1
  go_upto_region 6 with (first | (go_at_call 72; refine (H2.out _).mono ?_; rintro e w3 ⟨rfl, hb3⟩) | (go_at_call 71; refine (H3.out _).mono ?_; rintro e w4 ⟨rfl, hb4⟩))
  have HB4 := Lib.hid (HB2.out.trans ((hb3.trans (hb4.mono hb3.size)).mono HB2.out.size))
  clear hb3 hb4 HB2 H2 H3
  go_upto_region 7 with (go_at_call 73; refine (H4.out _).mono ?_; rintro e w5 ⟨rfl, hb5⟩)
  have HB5 := Lib.hid (HB4.out.trans (hb5.mono HB4.out.size))
  clear hb5 HB4 H4
  go_wp2_with (go_at_call 74; refine (HK.out _).mono ?_; rintro e w6 ⟨rfl, rfl⟩)
  rw [← HR.out]
  exact bodyPost_ret (v := .tuple #[.string (K ++ S 4), .int .i64 0]) (by simp [results, Tryz.results37, go_sem]) rfl ⟨rfl, HB5.out⟩
 ·have h1 : (frE k r s i l d p t != 0) = true := by simpa using h0
  rw [if_pos h0] at hR HMr
  obtain ⟨E, hE⟩ : ∃ E, frE k r s i l d p t = E := ⟨_, rfl⟩
  rw [hE] at hR HMr h1
  have HR := Lib.hid hR
  clear hR h0 hE ha
  unfold frV at HMr ⊢
  go_enter Tryz.func37, Tryz.ntmps37
  go_upto_region 1 with fail
  generalize w.alloc (.cells #[.int .i64 k, .int .i64 r, .int .i64 s, .int .i64 i, .int .i64 l, .int .i64 d, .int .i64 p, .int .u32 a, .string t] 34) = wz at *
  obtain ⟨c0, c1, c2, c3, c4, c5, c6, c7, c8⟩ := HZ.out
  go_wp2_with (go_at_call 69; refine (HMr.out _).mono ?_; rintro e w1 ⟨rfl, hb1⟩)
  rw [← HR.out]
  exact bodyPost_ret (v := .tuple #[.string ⟨#[]⟩, .int .i64 E]) (by simp [results, Tryz.results37, go_sem]) rfl ⟨rfl, HB.out.trans (hb1.mono HB.out.size)⟩

theorem renc_any (w : World) (k r s i l d p a : Int) (t : ByteArray) (_ : t.size ≤ 1000) (ha : 0 ≤ a ∧ a < 4294967296) :
  Calls Tryz.prog 37 #[frV k r s i l d p a t] w fun e w' => e = .returned (fencR k r s i l d p a t) ∧ Below w.heap.size w w' := renc_all w k r s i l d p a t ha
theorem fenc_ok {k r s i l d p a : Int} {t : ByteArray} (h : frE k r s i l d p t = 0) : ∃ C : ByteArray, C.size = 852 ∧ fencR k r s i l d p a t = .tuple #[.string C, .int .i64 0] := by
 refine ⟨_, ?_, by unfold fencR; rw [if_neg (by simpa using h)]⟩
 rw [ByteArray.size_append, strB_size, bodyL_len]
 decide

end Go.Proofs.YtnlnmfkmbpihhaaGreatDoor

namespace Go.Proofs.YtnlnmfkmbpihhaaGreatDoor
open Go.RowKit

set_option maxRecDepth 100000 in
set_option maxHeartbeats 8000000 in
theorem rjoin_any (w : World) (v : Value) (fs : List Frm) (hv : FrmsAt w v fs) (hl : fs.length ≤ 100) (ha : ∀ f ∈ fs, f.small) :
  Calls Tryz.prog 57 #[v] w fun e w' => e = .returned (.tuple #[.string (joinS fs), .int .i64 (joinE fs)]) ∧ Below w.heap.size w w' := by
 have Hv := Lib.hid hv
 have Ha := Lib.hid ha
 obtain ⟨A, c, rfl, h1, h2, h3⟩ := hv
 clear h3 ha
 obtain ⟨R, hR⟩ : ∃ R, Value.tuple #[.string (joinS fs), .int .i64 (joinE fs)] = R := ⟨_, rfl⟩
 rw [hR]
 have HR := Lib.hid hR
 clear hR
 go_enter Tryz.func57, Tryz.ntmps57
 go_wp2
 go_loopw [4, 5] (fun y x wr => ∃ (k : Nat) (S : ByteArray), k ≤ fs.length ∧ y = .string S ∧ x = .int .i64 (k : Int) ∧ S = strB (flatC ((fs.take k).map msgOf)) ∧ (∀ g ∈ fs.take k, fE g = 0) ∧ Below w.heap.size w wr) (fun _ x _ => fs.length - (intOf x).toNat)
 case atStart => exact ⟨0, ⟨#[]⟩, by omega, rfl, rfl, rfl, (fun g hg => by cases hg), Below.refl _ _⟩
 case round =>
  obtain ⟨k, S, hk, rfl, rfl, hS, hok, hB⟩ := hrel
  have HS := Lib.hid hS
  have Hok := Lib.hid hok
  have HBr := Lib.hid hB
  clear hok hS hB
  by_cases h : k < fs.length
  ·have hkI : (k : Int) < fs.length := by omega
   obtain ⟨f, hf⟩ : ∃ f, fs[k]? = some f := ⟨_, List.getElem?_eq_getElem h⟩
   have hsm : f.small := Ha.out f (List.mem_of_getElem? hf)
   obtain ⟨_, _, e9, _, _, h4⟩ := Hv.out.below HBr.out
   cases e9
   obtain ⟨b, o, rfl, h5⟩ := h4 k f hf
   have HE := Lib.hid (fun W => renc_all W f.k f.r f.s f.i f.l f.d f.p f.a f.t hsm)
   have Hf := Lib.hid hf
   obtain ⟨k0, r0, s0, i0, l0, d0, p0, a0, t0⟩ := f
   have c0 := h5 0 _ rfl
   have c1 := h5 1 _ rfl
   have c2 := h5 2 _ rfl
   have c3 := h5 3 _ rfl
   have c4 := h5 4 _ rfl
   have c5 := h5 5 _ rfl
   have c6 := h5 6 _ rfl
   have c7 := h5 7 _ rfl
   have c8 := h5 8 _ rfl
   dsimp only at c0 c1 c2 c3 c4 c5 c6 c7 c8 HE
   clear h4 h5 hf
   rw [Nat.add_zero] at c0
   unfold frV at HE
   by_cases h0 : fE ⟨k0, r0, s0, i0, l0, d0, p0, a0, t0⟩ = 0
   ·obtain ⟨hm, hc⟩ := msgOf_msg h0 hsm
    dsimp only at hc
    rw [hc] at HE
    have H0 := Lib.hid h0
    obtain ⟨C, hC⟩ : ∃ C, strB (markL ++ bodyL (msgOf ⟨k0, r0, s0, i0, l0, d0, p0, a0, t0⟩)) = C := ⟨_, rfl⟩
    rw [hC] at HE
    have HX : Hid (S ++ C = strB (flatC ((fs.take (k + 1)).map msgOf)) ∧ ∀ g ∈ fs.take (k + 1), fE g = 0) := Lib.hid (by
     have hts : fs.take (k + 1) = fs.take k ++ [⟨k0, r0, s0, i0, l0, d0, p0, a0, t0⟩] := by
      rw [List.take_succ_eq_append_getElem h]
      congr 2
      exact Option.some.inj ((List.getElem?_eq_getElem h).symm.trans Hf.out)
     refine ⟨?_, fun g hg => ?_⟩
     ·rw [HS.out, ← hC, strB_cat, hts, List.map_append, flatC_app]
      have e2 : flatC ([⟨k0, r0, s0, i0, l0, d0, p0, a0, t0⟩].map msgOf) = markL ++ bodyL (msgOf ⟨k0, r0, s0, i0, l0, d0, p0, a0, t0⟩) := by
       unfold flatC
       simp
      rw [e2]
     ·rw [hts] at hg
      rcases List.mem_append.1 hg with hg | hg
      ·exact Hok.out g hg
      ·rw [List.mem_singleton.1 hg]
       exact H0.out)
    have hz : (S ++ C).size ≤ 1000000 := by
     rw [HX.out.1, strB_size, flatC_len, List.length_map]
     have := List.length_take_le (k + 1) fs
     omega
    have hap : ∀ x y : ByteArray, (x ++ y).size = x.size + y.size := fun x y => ByteArray.size_append
    have hz2 : S.size + C.size ≤ 1000000 := by rw [← hap]; exact hz
    clear hap hz
    clear hm hc h0 hC
    go_upto_region 6 with (go_at_call 37; refine (HE.out _).mono ?_; rintro e w1 ⟨rfl, hb1⟩)
    have HB2 := Lib.hid (HBr.out.trans (hb1.mono HBr.out.size))
    clear hb1 HE HBr c0 c1 c2 c3 c4 c5 c6 c7 c8
    go_wp2
    go_roundw
    case rel => exact ⟨k + 1, S ++ C, by omega, rfl, by go_num, HX.out.1, HX.out.2, HB2.out⟩
    case measure => simp [intOf]; omega
   ·have hje := joinE_at Hok.out Hf.out h0
    have hjs : joinS fs = ⟨#[]⟩ := by unfold joinS; rw [if_neg (by rw [hje]; exact h0)]
    have hfe : fencR k0 r0 s0 i0 l0 d0 p0 a0 t0 = .tuple #[.string ⟨#[]⟩, .int .i64 (fE ⟨k0, r0, s0, i0, l0, d0, p0, a0, t0⟩)] := by
     have h0' : frE k0 r0 s0 i0 l0 d0 p0 t0 ≠ 0 := h0
     unfold fencR
     rw [if_pos h0']
     rfl
    rw [hfe] at HE
    have hne : (fE ⟨k0, r0, s0, i0, l0, d0, p0, a0, t0⟩ != 0) = true := by rw [bne_iff_ne]; exact h0
    have HQ : Hid (Value.tuple #[.string ⟨#[]⟩, .int .i64 (fE ⟨k0, r0, s0, i0, l0, d0, p0, a0, t0⟩)] = R) := Lib.hid (by rw [← HR.out, hje, hjs])
    clear hje hjs hfe h0
    generalize fE ⟨k0, r0, s0, i0, l0, d0, p0, a0, t0⟩ = E at *
    go_wp2_with (go_at_call 37; refine (HE.out _).mono ?_; rintro e w1 ⟨rfl, hb1⟩)
    go_ret2
    exact ⟨congrArg _ HQ.out, HBr.out.trans (hb1.mono HBr.out.size)⟩
  ·obtain rfl : k = fs.length := by omega
   have hok := Hok.out
   rw [List.take_length] at hok
   have hje := joinE_all hok
   have hS := HS.out
   rw [List.take_length] at hS
   have hjs : joinS fs = strB (flatC (fs.map msgOf)) := by unfold joinS; rw [if_pos hje]
   have HQ : Hid (Value.tuple #[.string S, .int .i64 0] = R) := Lib.hid (by rw [← HR.out, hje, hjs, hS])
   clear hok hje hS hjs
   go_wp2
   go_ret2
   exact ⟨congrArg _ HQ.out, HBr.out⟩
namespace scjoin

end scjoin
end Go.Proofs.YtnlnmfkmbpihhaaGreatDoor
