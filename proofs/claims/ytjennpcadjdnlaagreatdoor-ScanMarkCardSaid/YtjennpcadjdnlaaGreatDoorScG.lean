/-
  WALK: scan.Join, over a slice of valid frames.
  WALK: steleref13.Make on a payload of one byte.
-/
import Derived.Test.YtjennpcadjdnlaaGreatDoorScM
import Derived.Test.YtjennpcadjdnlaaGreatDoorFrW
import Derived.Test.YtjennpcadjdnlaaGreatDoorEncF
import Derived.Test.YtjennpcadjdnlaaGreatDoorFrH
import Derived.Deep.WholeRow
namespace Go.Proofs.YtjennpcadjdnlaaGreatDoor
open Go.RowKit

/-- A slice value that reads as these frames. -/
def FrmsAt (W : World) (v : Value) (fs : List Frm) : Prop :=
  ∃ (A : Option Addr) (c : Nat), v = .slice A fs.length c ∧ fs.length ≤ c ∧ c ≤ 9223372036854775807 ∧
    ∀ i f, fs[i]? = some f → ∃ b o, A = some ⟨b, o, none⟩ ∧ ∀ j u, f.cells[j]? = some u → W.cell? ⟨b, o + i * 9 + j, none⟩ = some u
theorem FrmsAt.below {W W' : World} {v : Value} {fs : List Frm} (h : FrmsAt W v fs) (hb : Below W.heap.size W W') : FrmsAt W' v fs := by
  obtain ⟨A, c, e, h1, h2, h3⟩ := h
  refine ⟨A, c, e, h1, h2, fun i f hf => ?_⟩
  obtain ⟨b, o, e1, h4⟩ := h3 i f hf
  exact ⟨b, o, e1, fun j u hu => cell_below hb (h4 j u hu)⟩
def fE (f : Frm) : Int := frE f.k f.r f.s f.i f.l f.d f.p f.t
/-- A frame's message. -/
def msgOf (f : Frm) : List Nat := marL f.k.toNat f.r.toNat f.s.toNat f.i.toNat f.l.toNat f.d.toNat f.p.toNat f.a.toNat f.t
/-- The first error. -/
def joinE : List Frm → Int
  | [] => 0
  | f :: r => if fE f ≠ 0 then fE f else joinE r
def joinS (fs : List Frm) : ByteArray := if joinE fs = 0 then strB (flatC (fs.map msgOf)) else ⟨#[]⟩
def Frm.small (f : Frm) : Prop := 0 ≤ f.a ∧ f.a < 4294967296
theorem msgOf_msg {f : Frm} (h : fE f = 0) (ha : f.small) : Msg (msgOf f) f ∧ fencR f.k f.r f.s f.i f.l f.d f.p f.a f.t = .tuple #[.string (strB (markL ++ bodyL (msgOf f))), .int .i64 0] := by
  have h' : frE f.k f.r f.s f.i f.l f.d f.p f.t = 0 := h
  have h3 : fencR f.k f.r f.s f.i f.l f.d f.p f.a f.t = .tuple #[.string (markS ++ strB (bodyL (msgOf f))), .int .i64 0] := by
    unfold fencR msgOf
    rw [if_neg (by simpa using h')]
  have hm : Bytes (msgOf f) ∧ (msgOf f).length = 44 ∧ unmC (strB (msgOf f)) = 0 ∧ unmF (strB (msgOf f)) = f.v := by
    obtain ⟨k, r, s, i, l, d, p, a, t⟩ := f
    have h' : frE k r s i l d p t = 0 := h
    have ha' : 0 ≤ a ∧ a < 4294967296 := ha
    clear h ha
    obtain ⟨g1, g2, g3, g4, g5, g6, g7, g8⟩ := frE_ok h'
    obtain ⟨k, rfl⟩ : ∃ n : Nat, k = n := ⟨k.toNat, by omega⟩
    obtain ⟨r, rfl⟩ : ∃ n : Nat, r = n := ⟨r.toNat, by omega⟩
    obtain ⟨s, rfl⟩ : ∃ n : Nat, s = n := ⟨s.toNat, by omega⟩
    obtain ⟨i, rfl⟩ : ∃ n : Nat, i = n := ⟨i.toNat, by omega⟩
    obtain ⟨l, rfl⟩ : ∃ n : Nat, l = n := ⟨l.toNat, by omega⟩
    obtain ⟨d, rfl⟩ : ∃ n : Nat, d = n := ⟨d.toNat, by omega⟩
    obtain ⟨p, rfl⟩ : ∃ n : Nat, p = n := ⟨p.toNat, by omega⟩
    obtain ⟨a, rfl⟩ : ∃ n : Nat, a = n := ⟨a.toNat, by omega⟩
    have ha2 : a < 4294967296 := by omega
    obtain ⟨_, _, _, hb, hl, _, _⟩ := mar_ok h' ha2
    obtain ⟨hc, hf⟩ := unm_mar h' ha2
    exact ⟨hb, hl, hc, hf⟩
  rw [mark_cat] at h3
  exact ⟨⟨hm.1, hm.2.1, hm.2.2.1, hm.2.2.2⟩, h3⟩
theorem joinE_ok : ∀ {fs : List Frm}, joinE fs = 0 → ∀ f ∈ fs, fE f = 0
  | [], _, f, hf => by cases hf
  | g :: r, h, f, hf => by
    unfold joinE at h
    split at h
    · next h1 => exact absurd h h1
    · next h1 =>
      rcases List.mem_cons.1 hf with rfl | hf
      · simpa using h1
      · exact joinE_ok h f hf
theorem joinE_at : ∀ {fs : List Frm} {k : Nat} {f : Frm}, (∀ g ∈ fs.take k, fE g = 0) → fs[k]? = some f → fE f ≠ 0 → joinE fs = fE f
  | [], k, f, _, hf, _ => by cases hf
  | g :: r, 0, f, _, hf, h => by
    cases hf
    unfold joinE
    rw [if_pos h]
  | g :: r, k + 1, f, hp, hf, h => by
    unfold joinE
    have h0 : fE g = 0 := hp g (by simp)
    rw [if_neg (by simpa using h0)]
    exact joinE_at (fun x hx => hp x (by rw [List.take_succ_cons]; exact List.mem_cons_of_mem _ hx)) hf h
theorem joinE_all : ∀ {fs : List Frm}, (∀ g ∈ fs, fE g = 0) → joinE fs = 0
  | [], _ => rfl
  | g :: r, h => by
    unfold joinE
    rw [if_neg (by simpa using h g List.mem_cons_self)]
    exact joinE_all fun x hx => h x (List.mem_cons_of_mem _ hx)

set_option maxRecDepth 100000 in
set_option maxHeartbeats 8000000 in
theorem scjoin_any (w : World) (v : Value) (fs : List Frm) (hv : FrmsAt w v fs) (hl : fs.length ≤ 100) (ha : ∀ f ∈ fs, f.small) :
    Calls Tryz.prog 23 #[v] w fun e w' => e = .returned (.tuple #[.string (joinS fs), .int .i64 (joinE fs)]) ∧ Below w.heap.size w w' := by
  have Hv := Lib.hid hv
  have Ha := Lib.hid ha
  obtain ⟨A, c, rfl, h1, h2, h3⟩ := hv
  have HK0 : Hid (Bld (w.alloc (.cells #[.pointer none, .slice none 0 0] 94)) w.heap.size w.heap.size (flatC ((fs.take 0).map msgOf))) := Lib.hid (Bld.new w)
  have HB0 := Lib.hid ((Below.refl w.heap.size w).alloc (Nat.le_refl _) (.cells #[.pointer none, .slice none 0 0] 94))
  clear h3 ha
  obtain ⟨R, hR⟩ : ∃ R, Value.tuple #[.string (joinS fs), .int .i64 (joinE fs)] = R := ⟨_, rfl⟩
  rw [hR]
  have HR := Lib.hid hR
  clear hR
  go_enter Tryz.func23, Tryz.ntmps23
  go_wp2
  go_loopw [11] (fun x wr => ∃ k : Nat, k ≤ fs.length ∧ x = .int .i64 (k : Int) ∧ (∀ g ∈ fs.take k, fE g = 0) ∧ Bld wr w.heap.size w.heap.size (flatC ((fs.take k).map msgOf)) ∧ Below w.heap.size w wr) (fun x _ => fs.length - (intOf x).toNat)
  case atStart => exact ⟨0, by omega, rfl, (fun g hg => by cases hg), HK0.out, HB0.out⟩
  case round =>
    obtain ⟨k, hk, rfl, hok, hbl, hB⟩ := hrel
    have Hok := Lib.hid hok
    have Hbl := Lib.hid hbl
    have HBr := Lib.hid hB
    clear hok hbl hB HK0 HB0
    by_cases h : k < fs.length
    · have hkI : (k : Int) < fs.length := by omega
      obtain ⟨f, hf⟩ : ∃ f, fs[k]? = some f := ⟨_, List.getElem?_eq_getElem h⟩
      have hsm : f.small := Ha.out f (List.mem_of_getElem? hf)
      obtain ⟨_, _, e9, _, _, h4⟩ := Hv.out.below HBr.out
      cases e9
      obtain ⟨b, o, rfl, h5⟩ := h4 k f hf
      have HE := Lib.hid (fun W => fenc_all W f.k f.r f.s f.i f.l f.d f.p f.a f.t hsm)
      have Hf := Lib.hid hf
      obtain ⟨k0, r0, s0, i0, l0, d0, p0, a0, t0⟩ := f
      have c0 := h5 0 _ rfl
      have c1 := h5 1 _ rfl
      have c2 := h5 2 _ rfl
      have c3 := h5 3 _ rfl
      have c4 := h5 4 _ rfl
      have c5 := h5 5 _ rfl
      have c6 := h5 6 _ rfl
      have c7 := h5 7 _ rfl
      have c8 := h5 8 _ rfl
      dsimp only at c0 c1 c2 c3 c4 c5 c6 c7 c8 HE
      clear h4 h5 hf
      rw [Nat.add_zero] at c0
      go_upto_region 5 with fail
      have hA : Below wr.heap.size wr (wr.alloc (.cells #[.int .i64 k0, .int .i64 r0, .int .i64 s0, .int .i64 i0, .int .i64 l0, .int .i64 d0, .int .i64 p0, .int .u32 a0, .string t0] 26)) := (Below.refl _ _).alloc (Nat.le_refl _) _
      have HZ := Lib.hid (Box9.blk (Blk.new wr 26 [.int .i64 k0, .int .i64 r0, .int .i64 s0, .int .i64 i0, .int .i64 l0, .int .i64 d0, .int .i64 p0, .int .u32 a0, .string t0]))
      change Hid (Box9 (wr.alloc (.cells #[.int .i64 k0, .int .i64 r0, .int .i64 s0, .int .i64 i0, .int .i64 l0, .int .i64 d0, .int .i64 p0, .int .u32 a0, .string t0] 26)) _ _ _ _ _ _ _ _ _ _) at HZ
      have Hbl1 := Lib.hid (Bld.moved Hbl.out (fun k o hk _ => (hA.block k (Array.getElem?_eq_some_iff.1 hk).1).trans hk))
      have HB1 := Lib.hid (HBr.out.trans (hA.mono HBr.out.size))
      clear hA Hbl HBr c0 c1 c2 c3 c4 c5 c6 c7 c8
      generalize wr.alloc (.cells #[.int .i64 k0, .int .i64 r0, .int .i64 s0, .int .i64 i0, .int .i64 l0, .int .i64 d0, .int .i64 p0, .int .u32 a0, .string t0] 26) = wa at *
      obtain ⟨c0, c1, c2, c3, c4, c5, c6, c7, c8⟩ := HZ.out
      unfold frV at HE
      by_cases h0 : fE ⟨k0, r0, s0, i0, l0, d0, p0, a0, t0⟩ = 0
      · obtain ⟨hm, hc⟩ := msgOf_msg h0 hsm
        dsimp only at hc
        rw [hc] at HE
        have Hm := Lib.hid hm
        have H0 := Lib.hid h0
        obtain ⟨C, hC⟩ : ∃ C, strB (markL ++ bodyL (msgOf ⟨k0, r0, s0, i0, l0, d0, p0, a0, t0⟩)) = C := ⟨_, rfl⟩
        rw [hC] at HE
        have HCb : Hid (bs C = markL ++ bodyL (msgOf ⟨k0, r0, s0, i0, l0, d0, p0, a0, t0⟩)) := Lib.hid (by rw [← hC, bs_strB (bytes_app (b01_bytes markL_01) (bodyL_bytes hm.bytes hm.len))])
        have hCz : C.size ≤ 1000000 := by rw [← hC, strB_size, List.length_append, markL_len, bodyL_len]; omega
        clear hm hc h0 hC
        go_upto_region 8 with (go_at_call 25; refine (HE.out _).mono ?_; rintro e w1 ⟨rfl, hb1⟩)
        have HB2 := Lib.hid (HB1.out.trans (hb1.mono HB1.out.size))
        have hbl2 := Bld.moved Hbl1.out (fun k o hk _ => (hb1.block k (Array.getElem?_eq_some_iff.1 hk).1).trans hk)
        have hln : (flatC ((fs.take k).map msgOf)).length ≤ 1000000 := by
          have h1 : ((fs.take k).map msgOf).length ≤ k := by rw [List.length_map]; exact List.length_take_le _ _
          rw [flatC_len]
          omega
        have HW := Lib.hid (ws_any w1 w.heap.size w.heap.size _ C hbl2 hln hCz HB2.out.size)
        clear hb1 HB1 Hbl1 HZ HE hbl2 c0 c1 c2 c3 c4 c5 c6 c7 c8
        go_wp2_with (go_at_call 60; refine HW.out.mono ?_; rintro e w2 ⟨rfl, hbl3, hb2⟩)
        go_roundw
        case rel =>
          have hts : fs.take (k + 1) = fs.take k ++ [⟨k0, r0, s0, i0, l0, d0, p0, a0, t0⟩] := by
            rw [List.take_succ_eq_append_getElem h]
            congr 2
            exact Option.some.inj ((List.getElem?_eq_getElem h).symm.trans Hf.out)
          refine ⟨k + 1, by omega, by go_num, fun g hg => ?_, ?_, HB2.out.trans hb2⟩
          · rw [hts] at hg
            rcases List.mem_append.1 hg with hg | hg
            · exact Hok.out g hg
            · rw [List.mem_singleton.1 hg]
              exact H0.out
          · rw [hts, List.map_append, flatC_app]
            rw [HCb.out] at hbl3
            have e2 : flatC ([⟨k0, r0, s0, i0, l0, d0, p0, a0, t0⟩].map msgOf) = markL ++ bodyL (msgOf ⟨k0, r0, s0, i0, l0, d0, p0, a0, t0⟩) := by
              unfold flatC
              simp
            rw [e2]
            exact hbl3
        case measure => simp [intOf]; omega
      · have hje := joinE_at Hok.out Hf.out h0
        have hjs : joinS fs = ⟨#[]⟩ := by unfold joinS; rw [if_neg (by rw [hje]; exact h0)]
        have hfe : fencR k0 r0 s0 i0 l0 d0 p0 a0 t0 = .tuple #[.string ⟨#[]⟩, .int .i64 (fE ⟨k0, r0, s0, i0, l0, d0, p0, a0, t0⟩)] := by
          have h0' : frE k0 r0 s0 i0 l0 d0 p0 t0 ≠ 0 := h0
          unfold fencR
          rw [if_pos h0']
          rfl
        rw [hfe] at HE
        have hne : (fE ⟨k0, r0, s0, i0, l0, d0, p0, a0, t0⟩ != 0) = true := by rw [bne_iff_ne]; exact h0
        have HQ : Hid (Value.tuple #[.string ⟨#[]⟩, .int .i64 (fE ⟨k0, r0, s0, i0, l0, d0, p0, a0, t0⟩)] = R) := Lib.hid (by rw [← HR.out, hje, hjs])
        clear hje hjs hfe h0
        generalize fE ⟨k0, r0, s0, i0, l0, d0, p0, a0, t0⟩ = E at *
        go_wp2_with (go_at_call 25; refine (HE.out _).mono ?_; rintro e w1 ⟨rfl, hb1⟩)
        go_ret2
        exact ⟨congrArg _ HQ.out, HB1.out.trans (hb1.mono HB1.out.size)⟩
    · obtain rfl : k = fs.length := by omega
      have hok := Hok.out
      rw [List.take_length] at hok
      have hje := joinE_all hok
      have hbl := Hbl.out
      rw [List.take_length] at hbl
      have hby : Bytes (flatC (fs.map msgOf)) := flatC_bytes fun m hm => by
        obtain ⟨f, hf, rfl⟩ := List.mem_map.1 hm
        obtain ⟨h5, _⟩ := msgOf_msg (hok f hf) (Ha.out f hf)
        exact ⟨h5.bytes, h5.len⟩
      have hjs : joinS fs = strB (flatC (fs.map msgOf)) := by unfold joinS; rw [if_pos hje]
      have HS := Lib.hid (str_any wr w.heap.size w.heap.size _ hby hbl HBr.out.size)
      have HQ : Hid (Value.tuple #[.string (strB (flatC (fs.map msgOf))), .int .i64 0] = R) := Lib.hid (by rw [← HR.out, hje, hjs])
      clear hok hje hbl hby hjs
      go_wp2_with (go_at_call 61; refine HS.out.mono ?_; rintro e w1 ⟨rfl, _, hb1⟩)
      go_ret2
      exact ⟨congrArg _ HQ.out, HBr.out.trans hb1⟩

end Go.Proofs.YtjennpcadjdnlaaGreatDoor

namespace Go.Proofs.YtjennpcadjdnlaaGreatDoor
open Go.RowKit

/-- One byte and 27 zeros. -/
def chL (c : Nat) : List Nat := [c, 0, 0, 0, 0, 0, 0, 0, 0, 0, 0, 0, 0, 0, 0, 0, 0, 0, 0, 0, 0, 0, 0, 0, 0, 0, 0, 0]
def chFrm (x c : Nat) : Frm := ⟨66, 0, 1, x, 1, 1, 0, 7, strB (chL c)⟩

set_option maxRecDepth 100000 in
set_option maxHeartbeats 4000000 in
theorem rmake_ch (w : World) (x c : Nat) (hc : c < 256) : Calls Tryz.prog 31 #[.int .i64 0, .int .i64 1, .int .i64 x, .agg #[.int .i64 1, .int .i64 0], .int .u32 7, .string (strB [c])] w fun e w' => e = .returned (chFrm x c).v ∧ Below w.heap.size w w' := by
  have hmk : ∀ W : World, (Instr.makeSlice 28 (.int .i64 28) (.int .i64 28)).run Tryz.prog W = .ok (.slice (some ⟨W.heap.size, 0, none⟩) 28 28) (W.alloc (.cells (arrB (List.replicate 28 0)) 5)) := make_u8 28 28 (Nat.le_refl _) (by omega)
  rw [show List.replicate 28 0 = [0, 0, 0, 0, 0, 0, 0, 0, 0, 0, 0, 0, 0, 0, 0, 0, 0, 0, 0, 0, 0, 0, 0, 0, 0, 0, 0, 0] from rfl] at hmk
  have hB := ((Below.refl w.heap.size w).alloc (Nat.le_refl _) (.cells #[.int .i64 1, .int .i64 0] 23)).alloc (by simp) (.cells #[.int .i64 0, .int .i64 0, .int .i64 0, .int .i64 0, .int .i64 0, .int .i64 0, .int .i64 0, .int .u32 0, .string ⟨#[]⟩] 26)
  have hs := hB.size
  have hU : Blk ((w.alloc (.cells #[.int .i64 1, .int .i64 0] 23)).alloc (.cells #[.int .i64 0, .int .i64 0, .int .i64 0, .int .i64 0, .int .i64 0, .int .i64 0, .int .i64 0, .int .u32 0, .string ⟨#[]⟩] 26)) (w.heap.size + 1) 26 zeroL := by
    have h := Blk.new (w.alloc (.cells #[.int .i64 1, .int .i64 0] 23)) 26 [.int .i64 0, .int .i64 0, .int .i64 0, .int .i64 0, .int .i64 0, .int .i64 0, .int .i64 0, .int .u32 0, .string ⟨#[]⟩]
    rw [show (w.alloc (.cells #[.int .i64 1, .int .i64 0] 23)).heap.size = w.heap.size + 1 by simp] at h
    exact h
  have hL : (w.alloc (.cells #[.int .i64 1, .int .i64 0] 23)).cell? ⟨w.heap.size, 0, none⟩ = some (.int .i64 1) ∧ (w.alloc (.cells #[.int .i64 1, .int .i64 0] 23)).cell? ⟨w.heap.size, 1, none⟩ = some (.int .i64 0) := by
    have h := Blk.new w 23 [.int .i64 1, .int .i64 0]
    exact ⟨h.cell (i := 0) rfl, h.cell (i := 1) rfl⟩
  have hL0 := cell_below ((Below.refl _ _).alloc (Nat.le_refl _) (.cells #[.int .i64 0, .int .i64 0, .int .i64 0, .int .i64 0, .int .i64 0, .int .i64 0, .int .i64 0, .int .u32 0, .string ⟨#[]⟩] 26)) hL.1
  have hL1 := cell_below ((Below.refl _ _).alloc (Nat.le_refl _) (.cells #[.int .i64 0, .int .i64 0, .int .i64 0, .int .i64 0, .int .i64 0, .int .i64 0, .int .i64 0, .int .u32 0, .string ⟨#[]⟩] 26)) hL.2
  have hbs : Lib.byteCells (strB [c]).data.toList = [.int .u8 (c : Int)] := by
    have h := bs_strB (l := [c]) (fun y hy => by rw [List.mem_singleton.1 hy]; exact hc)
    unfold bs at h
    unfold Lib.byteCells
    obtain ⟨u, hu⟩ : ∃ u, (strB [c]).data.toList = [u] := ⟨_, rfl⟩
    rw [hu] at h ⊢
    simp only [List.map_cons, List.map_nil, List.cons.injEq, and_true] at h
    simp [h]
  have hE1 : ∀ W : World, (Builtin.copy_ #[28, 9] 3 #[.slice (some ⟨W.heap.size, 0, none⟩) 28 28, .string (strB [c])]).run Tryz.prog (W.alloc (.cells (arrB [0, 0, 0, 0, 0, 0, 0, 0, 0, 0, 0, 0, 0, 0, 0, 0, 0, 0, 0, 0, 0, 0, 0, 0, 0, 0, 0, 0]) 5)) =
      .ok (.int .i64 1) (W.alloc (.cells (arrB (chL c)) 5)) := fun W => by
    have h := Lib.run_copy_row_string (P := Tryz.prog) (W.alloc (.cells (arrB [0, 0, 0, 0, 0, 0, 0, 0, 0, 0, 0, 0, 0, 0, 0, 0, 0, 0, 0, 0, 0, 0, 0, 0, 0, 0, 0, 0]) 5)) 28 9 3 5 W.heap.size 0 28 28 (strB [c]) (arrB [0, 0, 0, 0, 0, 0, 0, 0, 0, 0, 0, 0, 0, 0, 0, 0, 0, 0, 0, 0, 0, 0, 0, 0, 0, 0, 0, 0]) 5 Tryz.underlying28 (by kernel_rfl) (heap_alloc_new _ _) (by rw [strB_size]; exact (by decide : 1 ≤ 28)) (by rw [strB_size]; exact (by decide : 0 + 1 ≤ 28))
    rw [World.setRow_alloc_new, hbs] at h
    rw [h]
    rfl
  have hE2 : ∀ W : World, (convert 28 9 (.slice (some ⟨W.heap.size, 0, none⟩) 28 28)).run Tryz.prog (W.alloc (.cells (arrB (chL c)) 5)) =
      .ok (.string (strB (chL c))) (W.alloc (.cells (arrB (chL c)) 5)) := fun W =>
    run_toStr ((U8B.new W (chL c)).bytes (n := 28) (c := 28) rfl (Nat.le_refl _) (by omega)) rfl
  have hz : (strB [c]).size = 1 := by rw [strB_size]; rfl
  have HB := Lib.hid hB
  have HU := Lib.hid hU
  clear hB hU hL hbs
  unfold chFrm Frm.v
  dsimp only
  generalize strB [c] = C at *
  generalize strB (chL c) = Z at *
  generalize chL c = L at *
  go_enter Tryz.func31, Tryz.ntmps31
  go_upto_region 1 with fail
  generalize (w.alloc (.cells #[.int .i64 1, .int .i64 0] 23)).alloc (.cells #[.int .i64 0, .int .i64 0, .int .i64 0, .int .i64 0, .int .i64 0, .int .i64 0, .int .i64 0, .int .u32 0, .string ⟨#[]⟩] 26) = wz at *
  have hA : Below wz.heap.size wz (wz.alloc (.cells (arrB L) 5)) := (Below.refl _ _).alloc (Nat.le_refl _) _
  have hL2 := cell_below hA hL0
  have hL3 := cell_below hA hL1
  have hU2 := HU.out.kept hA
  have hB2 := HB.out.trans (hA.mono hs)
  have HT := Lib.hid hU2.there
  have HF := Lib.hid (setCells_blk [.int .i64 66, .int .i64 0, .int .i64 1, .int .i64 x, .int .i64 1, .int .i64 1, .int .i64 0, .int .u32 7, .string Z] [] zeroL _ hU2 rfl)
  have HG := Lib.hid (setCells_below hB2 (by omega : w.heap.size ≤ w.heap.size + 1) [.int .i64 66, .int .i64 0, .int .i64 1, .int .i64 x, .int .i64 1, .int .i64 1, .int .i64 0, .int .u32 7, .string Z] 0)
  obtain ⟨W1, hE⟩ : ∃ W1, (wz.alloc (.cells (arrB L) 5)).setCells (w.heap.size + 1) 0 [.int .i64 66, .int .i64 0, .int .i64 1, .int .i64 x, .int .i64 1, .int .i64 1, .int .i64 0, .int .u32 7, .string Z] = W1 := ⟨_, rfl⟩
  have HE := Lib.hid hE
  have HO : Hid ((#[.int .i64 66, .int .i64 0, .int .i64 1, .int .i64 x, .int .i64 1, .int .i64 1, .int .i64 0, .int .u32 7, .string Z] : Array Value).all (·.oneCell') = true) := Lib.hid (by simp [Value.oneCell'])
  rw [hE] at HG
  have HF2 : Hid (Blk W1 (w.heap.size + 1) 26 _) := Lib.hid (hE ▸ HF.out)
  clear hA hU2 hB2 hE HF HU HB hL0 hL1
  go_wp2_with (refine frm_store rfl (.tmp 12) (.tmp 32) rfl _ _ rfl rfl HT.out rfl HO.out W1 HE.out ?_)
  have hF := HF2.out
  have c0 := hF.cell (i := 0) rfl
  have c1 := hF.cell (i := 1) rfl
  have c2 := hF.cell (i := 2) rfl
  have c3 := hF.cell (i := 3) rfl
  have c4 := hF.cell (i := 4) rfl
  have c5 := hF.cell (i := 5) rfl
  have c6 := hF.cell (i := 6) rfl
  have c7 := hF.cell (i := 7) rfl
  have c8 := hF.cell (i := 8) rfl
  exact bodyPost_ret (v := frV 66 0 1 x 1 1 0 7 Z) (by simp [results, Tryz.results31, go_sem, frV, c0, c1, c2, c3, c4, c5, c6, c7, c8]) rfl ⟨rfl, HG.out⟩

end Go.Proofs.YtjennpcadjdnlaaGreatDoor
