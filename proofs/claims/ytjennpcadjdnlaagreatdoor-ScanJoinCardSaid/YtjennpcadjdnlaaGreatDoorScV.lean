/-
 WALKS: steleref14.Join; stelelaw14.ScanJoin.
-/
import Derived.Test.YtjennpcadjdnlaaGreatDoorScC
import Derived.Test.YtjennpcadjdnlaaGreatDoorFrT
import Derived.BigQuiet
namespace Go.Proofs.YtjennpcadjdnlaaGreatDoor
open Go.RowKit

set_option maxRecDepth 100000 in
set_option maxHeartbeats 8000000 in
theorem rjoin_any (w : World) (v : Value) (fs : List Frm) (hv : FrmsAt w v fs) (hl : fs.length ≤ 100) (ha : ∀ f ∈ fs, f.small) :
  Calls Tryz.prog 24 #[v] w fun e w' => e = .returned (.tuple #[.string (joinS fs), .int .i64 (joinE fs)]) ∧ Below w.heap.size w w' := by
 have Hv := Lib.hid hv
 have Ha := Lib.hid ha
 obtain ⟨A, c, rfl, h1, h2, h3⟩ := hv
 clear h3 ha
 obtain ⟨R, hR⟩ : ∃ R, Value.tuple #[.string (joinS fs), .int .i64 (joinE fs)] = R := ⟨_, rfl⟩
 rw [hR]
 have HR := Lib.hid hR
 clear hR
 go_enter Tryz.func24, Tryz.ntmps24
 go_wp2
 go_loopw [4, 5] (fun y x wr => ∃ (k : Nat) (S : ByteArray), k ≤ fs.length ∧ y = .string S ∧ x = .int .i64 (k : Int) ∧ S = strB (flatC ((fs.take k).map msgOf)) ∧ (∀ g ∈ fs.take k, fE g = 0) ∧ Below w.heap.size w wr) (fun _ x _ => fs.length - (intOf x).toNat)
 case atStart => exact ⟨0, ⟨#[]⟩, by omega, rfl, rfl, rfl, (fun g hg => by cases hg), Below.refl _ _⟩
 case round =>
  obtain ⟨k, S, hk, rfl, rfl, hS, hok, hB⟩ := hrel
  have HS := Lib.hid hS
  have Hok := Lib.hid hok
  have HBr := Lib.hid hB
  clear hok hS hB
  by_cases h : k < fs.length
  ·have hkI : (k : Int) < fs.length := by omega
   obtain ⟨f, hf⟩ : ∃ f, fs[k]? = some f := ⟨_, List.getElem?_eq_getElem h⟩
   have hsm : f.small := Ha.out f (List.mem_of_getElem? hf)
   obtain ⟨_, _, e9, _, _, h4⟩ := Hv.out.below HBr.out
   cases e9
   obtain ⟨b, o, rfl, h5⟩ := h4 k f hf
   have HE := Lib.hid (fun W => renc_all W f.k f.r f.s f.i f.l f.d f.p f.a f.t hsm)
   have Hf := Lib.hid hf
   obtain ⟨k0, r0, s0, i0, l0, d0, p0, a0, t0⟩ := f
   have c0 := h5 0 _ rfl
   have c1 := h5 1 _ rfl
   have c2 := h5 2 _ rfl
   have c3 := h5 3 _ rfl
   have c4 := h5 4 _ rfl
   have c5 := h5 5 _ rfl
   have c6 := h5 6 _ rfl
   have c7 := h5 7 _ rfl
   have c8 := h5 8 _ rfl
   dsimp only at c0 c1 c2 c3 c4 c5 c6 c7 c8 HE
   clear h4 h5 hf
   rw [Nat.add_zero] at c0
   unfold frV at HE
   by_cases h0 : fE ⟨k0, r0, s0, i0, l0, d0, p0, a0, t0⟩ = 0
   ·obtain ⟨hm, hc⟩ := msgOf_msg h0 hsm
    dsimp only at hc
    rw [hc] at HE
    have H0 := Lib.hid h0
    obtain ⟨C, hC⟩ : ∃ C, strB (markL ++ bodyL (msgOf ⟨k0, r0, s0, i0, l0, d0, p0, a0, t0⟩)) = C := ⟨_, rfl⟩
    rw [hC] at HE
    have HX : Hid (S ++ C = strB (flatC ((fs.take (k + 1)).map msgOf)) ∧ ∀ g ∈ fs.take (k + 1), fE g = 0) := Lib.hid (by
     have hts : fs.take (k + 1) = fs.take k ++ [⟨k0, r0, s0, i0, l0, d0, p0, a0, t0⟩] := by
      rw [List.take_succ_eq_append_getElem h]
      congr 2
      exact Option.some.inj ((List.getElem?_eq_getElem h).symm.trans Hf.out)
     refine ⟨?_, fun g hg => ?_⟩
     ·rw [HS.out, ← hC, strB_cat, hts, List.map_append, flatC_app]
      have e2 : flatC ([⟨k0, r0, s0, i0, l0, d0, p0, a0, t0⟩].map msgOf) = markL ++ bodyL (msgOf ⟨k0, r0, s0, i0, l0, d0, p0, a0, t0⟩) := by
       unfold flatC
       simp
      rw [e2]
     ·rw [hts] at hg
      rcases List.mem_append.1 hg with hg | hg
      ·exact Hok.out g hg
      ·rw [List.mem_singleton.1 hg]
       exact H0.out)
    have hz : (S ++ C).size ≤ 1000000 := by
     rw [HX.out.1, strB_size, flatC_len, List.length_map]
     have := List.length_take_le (k + 1) fs
     omega
    have hap : ∀ x y : ByteArray, (x ++ y).size = x.size + y.size := fun x y => ByteArray.size_append
    have hz2 : S.size + C.size ≤ 1000000 := by rw [← hap]; exact hz
    clear hap hz
    clear hm hc h0 hC
    go_upto_region 6 with (go_at_call 16; refine (HE.out _).mono ?_; rintro e w1 ⟨rfl, hb1⟩)
    have HB2 := Lib.hid (HBr.out.trans (hb1.mono HBr.out.size))
    clear hb1 HE HBr c0 c1 c2 c3 c4 c5 c6 c7 c8
    go_wp2
    go_roundw
    case rel => exact ⟨k + 1, S ++ C, by omega, rfl, by go_num, HX.out.1, HX.out.2, HB2.out⟩
    case measure => simp [intOf]; omega
   ·have hje := joinE_at Hok.out Hf.out h0
    have hjs : joinS fs = ⟨#[]⟩ := by unfold joinS; rw [if_neg (by rw [hje]; exact h0)]
    have hfe : fencR k0 r0 s0 i0 l0 d0 p0 a0 t0 = .tuple #[.string ⟨#[]⟩, .int .i64 (fE ⟨k0, r0, s0, i0, l0, d0, p0, a0, t0⟩)] := by
     have h0' : frE k0 r0 s0 i0 l0 d0 p0 t0 ≠ 0 := h0
     unfold fencR
     rw [if_pos h0']
     rfl
    rw [hfe] at HE
    have hne : (fE ⟨k0, r0, s0, i0, l0, d0, p0, a0, t0⟩ != 0) = true := by rw [bne_iff_ne]; exact h0
    have HQ : Hid (Value.tuple #[.string ⟨#[]⟩, .int .i64 (fE ⟨k0, r0, s0, i0, l0, d0, p0, a0, t0⟩)] = R) := Lib.hid (by rw [← HR.out, hje, hjs])
    clear hje hjs hfe h0
    generalize fE ⟨k0, r0, s0, i0, l0, d0, p0, a0, t0⟩ = E at *
    go_wp2_with (go_at_call 16; refine (HE.out _).mono ?_; rintro e w1 ⟨rfl, hb1⟩)
    go_ret2
    exact ⟨congrArg _ HQ.out, HBr.out.trans (hb1.mono HBr.out.size)⟩
  ·obtain rfl : k = fs.length := by omega
   have hok := Hok.out
   rw [List.take_length] at hok
   have hje := joinE_all hok
   have hS := HS.out
   rw [List.take_length] at hS
   have hjs : joinS fs = strB (flatC (fs.map msgOf)) := by unfold joinS; rw [if_pos hje]
   have HQ : Hid (Value.tuple #[.string S, .int .i64 0] = R) := Lib.hid (by rw [← HR.out, hje, hjs, hS])
   clear hok hje hS hjs
   go_wp2
   go_ret2
   exact ⟨congrArg _ HQ.out, HBr.out⟩
namespace scjoin

set_option maxRecDepth 100000 in
set_option maxHeartbeats 8000000 in
theorem walk (w : World) (v : Value) (fs : List Frm) (hv : FrmsAt w v fs) (ha : ∀ f ∈ fs, f.small) :
  Calls Tryz.prog 5 #[v] w fun e w' => e = .returned (.bool true) ∧ Below w.heap.size w w' := by
 have HA := Lib.hid (fun W => awake_any W)
 have Hv := Lib.hid hv
 by_cases h4 : 4 < fs.length
 ·have h4I : (4 : Int) < fs.length := by omega
  obtain ⟨A, c, rfl, h1, h2, h3⟩ := hv
  clear h3 Hv
  go_enter Tryz.func5, Tryz.ntmps5
  go_wp2_with (go_at_call 19; refine (HA.out _).mono ?_; rintro e w3 ⟨rfl, hb3⟩)
  go_ret
  exact ⟨rfl, hb3⟩
 ·have h4I : ¬ (4 : Int) < fs.length := by omega
  have HJ := Lib.hid (fun (W : World) (hb : Below w.heap.size w W) => scjoin_any W v fs (Hv.out.below hb) (by omega) ha)
  have HK := Lib.hid (fun (W : World) (hb : Below w.heap.size w W) => rjoin_any W v fs (Hv.out.below hb) (by omega) ha)
  obtain ⟨A, c, rfl, h1, h2, h3⟩ := hv
  clear h3 Hv
  generalize joinS fs = S at *
  generalize joinE fs = E at *
  go_enter Tryz.func5, Tryz.ntmps5
  go_upto_region 4 with (go_at_call 23; refine (HJ.out _ (Below.refl _ _)).mono ?_; rintro e w3 ⟨rfl, hb3⟩)
  have HB3 := Lib.hid hb3
  clear hb3 HJ
  go_upto_region 5 with (go_at_call 24; refine (HK.out _ HB3.out).mono ?_; rintro e w4 ⟨rfl, hb4⟩)
  have HB4 := Lib.hid (HB3.out.trans (hb4.mono HB3.out.size))
  clear hb4 HK HB3
  go_wp2_with (go_at_call 19; refine (HA.out _).mono ?_; rintro e w6 ⟨rfl, hb6⟩)
  go_ret
  exact ⟨rfl, HB4.out.trans (hb6.mono HB4.out.size)⟩
end scjoin
end Go.Proofs.YtjennpcadjdnlaaGreatDoor
