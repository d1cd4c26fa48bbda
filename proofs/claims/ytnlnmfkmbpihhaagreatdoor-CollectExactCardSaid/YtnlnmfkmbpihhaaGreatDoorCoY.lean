/-
 WALK: stelelaw44.CollectExact.
-/
import Derived.Test.YtnlnmfkmbpihhaaGreatDoorCoX
import Derived.Maps.OwnOps
namespace Go.Proofs.YtnlnmfkmbpihhaaGreatDoor
open Go.RowKit Go.Maps

/-- A valid frame fits a map's key. -/
theorem fE_key {f : Frm} (h : fE f = 0) (ha : f.small) : frmKey.OK f := by
 obtain ⟨k, r, s, i, l, d, p, a, t⟩ := f
 obtain ⟨g1, g2, g3, g4, g5, g6, g7, g8⟩ := frE_ok (show frE k r s i l d p t = 0 from h)
 have ha' : 0 ≤ a ∧ a < 4294967296 := ha
 have wf : ∀ z : Int, 0 ≤ z → z < 4294967296 → (Lit.int .i64 z).wf = true := fun z h1 h2 => by
  have := wf_nat (n := z.toNat) (by omega)
  rwa [Int.toNat_of_nonneg h1] at this
 have wfu : (Lit.int .u32 a).wf = true := by
  have := wf_natU (n := a.toNat) (by omega)
  rwa [Int.toNat_of_nonneg ha'.1] at this
 refine ⟨wf k (by omega) (by omega), wf r (by omega) (by omega), wf s (by omega) (by omega), wf i (by omega) (by omega), wf l (by omega) (by omega), wf d (by omega) (by omega), wf p (by omega) (by omega), wfu, ?_⟩
 show t.size ≤ maxLen
 unfold maxLen
 omega
/-- The valid frames. -/
def goodL (fs : List Frm) : List Frm := fs.filter fun f => decide (fE f = 0)
theorem goodL_cons (f : Frm) (fs : List Frm) : goodL (f :: fs) = (if fE f = 0 then [f] else []) ++ goodL fs := by
 unfold goodL
 rw [List.filter_cons]
 by_cases h : fE f = 0
 ·rw [if_pos (decide_eq_true h), if_pos h]; rfl
 ·rw [if_neg (by simpa using h), if_neg h]; rfl
theorem goodL_mem {fs : List Frm} {f : Frm} : f ∈ goodL fs ↔ f ∈ fs ∧ fE f = 0 := by
 unfold goodL
 rw [List.mem_filter, decide_eq_true_eq]
namespace coexact

set_option maxRecDepth 100000 in
set_option maxHeartbeats 32000000 in
theorem walk (w : World) (v : Value) (fs : List Frm) (hv : FrmsAt w v fs) (ha : ∀ f ∈ fs, f.small) (sp : Nat) (hsp : sp < 65536) (ar : Int) (_ : 0 ≤ ar) (_ : ar < 4294967296) :
  Calls Tryz.prog 6 #[v, .int .u16 (sp : Int), .int .u32 ar] w fun e w' => e = .returned (.bool true) ∧ Below w.heap.size w w' := by
 have HA := Lib.hid (fun W => alive_any W)
 have Hv := Lib.hid hv
 have Ha := Lib.hid ha
 obtain ⟨A, c, rfl, h1, h2, h3⟩ := hv
 clear h3 ha
 have HF := Lib.hid (fun W : World => few_any W A none fs.length 0 c 0)
 by_cases h5 : fs.length ≤ 5
 ·rw [decide_eq_true ⟨h5, by omega⟩] at HF
  obtain ⟨GL, hGL⟩ : ∃ GL, goodL fs = GL := ⟨_, rfl⟩
  have HGL := Lib.hid hGL
  have HGm : Hid (∀ f ∈ GL, fE f = 0 ∧ f.small) := Lib.hid (fun f hf => by
   rw [← hGL] at hf
   obtain ⟨q1, q2⟩ := goodL_mem.1 hf
   exact ⟨q2, Ha.out f q1⟩)
  have hgl5 : GL.length ≤ 5 := by
   rw [← hGL]
   exact Nat.le_trans (List.length_filter_le _ _) h5
  obtain ⟨iF, hi, hq0, hq1, hq2⟩ := info_parts Tryz.infoFrm
  have HiF : Hid (Tryz.prog.info? 34 = some iF ∧ iF.zero = some zeroF ∧ iF.size = 9 ∧ iF.bytes = 80) := Lib.hid ⟨hi, hq0, hq1, hq2⟩
  have HCk := Lib.hid (fun (W : World) (k r s i l d p a : Int) (t : ByteArray) => rcheck_all W k r s i l d p a t)
  have HPc := Lib.hid (fun (W : World) (v : Value) (h : FrmsAt W v GL) => pieces_sound W v GL sp h (by omega) (fun f hf => (HGm.out f hf).2) hsp)
  obtain ⟨ss, hss⟩ : ∃ ss, pcsL GL.length sp GL = ss := ⟨_, rfl⟩
  rw [hss] at HPc
  have hsl : ss.length ≤ 5 := by rw [← hss]; exact pcsL_few hgl5
  have HCo : Hid (∀ (W : World) (vl : Value), StrvAt W vl ss → Calls Tryz.prog 26 #[vl, .int .u32 ar] W fun e w' => ∃ v, e = .returned (.agg #[.int .u32 ar, v]) ∧ FrmsAt w' v (collF ar (piecesL 0 ss)) ∧ Below W.heap.size W w') := Lib.hid (fun W vl h =>
   coll_pieces W vl ar ss h (by omega) (fun s hs => Nat.le_trans (by rw [← hss] at hs; exact (pcsL_size s hs).2) (by omega : 2556 ≤ 900000)) (piecesL_small (n := 2556) (by omega) fun s hs => by rw [← hss] at hs; exact (pcsL_size s hs).2))
  obtain ⟨cs, hcs⟩ : ∃ cs, collF ar (piecesL 0 ss) = cs := ⟨_, rfl⟩
  have HCm : Hid (∀ y, y ∈ cs ↔ y.a = ar ∧ y ∈ GL) := Lib.hid (fun y => by
   rw [← hcs, collF_pieces, ← hss, framesL_pcs (fun f hf => (HGm.out f hf).2), grpL_flat _ _ _ (Nat.le_refl _) fun f hf => (HGm.out f hf).1])
  have HCn : Hid cs.Nodup := Lib.hid (by rw [← hcs]; exact (collF_spec ar _).1.nodup)
  rw [hcs] at HCo
  clear hi hq0 hq1 hq2 hGL hss hcs
  have hmm := @run_makeMap Tryz.prog
  go_enter Tryz.func6, Tryz.ntmps6
  go_wp2_with fail
  refine (HA.out _).mono ?_
  rintro e1 w1 ⟨rfl, hb1⟩
  have HB1 := Lib.hid hb1
  clear hb1
  go_wp2_with fail
  refine (HF.out _).mono ?_
  rintro e2 w2 ⟨rfl, rfl⟩
  have HM := Lib.hid (World.ownsMap_made (H := Unit) w1 Tryz.prog 34 (plainElem Tryz.prog 4))
  have HBm := Lib.hid (HB1.out.alloc HB1.out.size (.map #[] 0))
  have hs1 := HB1.out.size
  have hsm : (w1.alloc (.map #[] 0)).heap.size = w1.heap.size + 1 := by simp
  go_upto_region 7 with fail
  clear hmm
  obtain ⟨mb, hmb⟩ : ∃ mb, w1.heap.size = mb := ⟨_, rfl⟩
  rw [hmb] at HM hs1 hsm ⊢
  generalize w1.alloc (.map #[] 0) = wm at *
  clear hmb HB1
  go_wp2
  go_loopw [7, 22] (fun y x wr => ∃ (i : Nat) (gl L : List Frm) (Av : Option Addr) (cv : Nat) (D : DataW Unit), i ≤ fs.length ∧ x = .int .i64 (i : Int) ∧ y = .slice Av gl.length cv ∧ gl.length ≤ i ∧ GL = gl ++ goodL (fs.drop i) ∧ wr.ownsRow wm.heap.size 34 9 (.slice Av gl.length cv) gl.length (gl.flatMap Frm.cells) ∧ wr.ownsMap Tryz.prog 34 (plainElem Tryz.prog 4) mb i D ∧ Seen D L ∧ (∀ f, f ∈ L ↔ f.a = ar ∧ f ∈ gl) ∧ Below w.heap.size w wr ∧ wm.heap.size ≤ wr.heap.size) (fun _ x _ => fs.length - (intOf x).toNat)
  case atStart => exact ⟨0, [], [], none, 0, .map [], by omega, rfl, rfl, by simp, HGL.out.symm, World.ownsRow_nil _ _ _ _, HM.out, Seen.empty, fun f => by simp, HBm.out, Nat.le_refl _⟩
  case round =>
   obtain ⟨i, gl, L, Av, cv, D, hi, rfl, rfl, hgi, hr, ho, hm, hL, hLm, hB, hbs⟩ := hrel
   clear HGL HM HBm
   have Hr := Lib.hid hr
   have Ho := Lib.hid ho
   have HM := Lib.hid hm
   have HL := Lib.hid hL
   have HLm := Lib.hid hLm
   have HBr := Lib.hid hB
   clear hr ho hm hL hLm hB
   by_cases h : i < fs.length
   ·have hiI : (i : Int) < fs.length := by omega
    obtain ⟨f, hf⟩ : ∃ f, fs[i]? = some f := ⟨_, List.getElem?_eq_getElem h⟩
    have hsm2 := Lib.hid (Ha.out f (List.mem_of_getElem? hf))
    obtain ⟨_, _, e9, _, _, h4⟩ := Hv.out.below HBr.out
    cases e9
    obtain ⟨b, o, rfl, h5'⟩ := h4 i f hf
    clear h4
    have hd : fs.drop i = f :: fs.drop (i + 1) := by
     obtain ⟨q1, q2⟩ := List.getElem?_eq_some_iff.1 hf
     rw [List.drop_eq_getElem_cons q1, q2]
    have hr := Hr.out
    rw [hd, goodL_cons] at hr
    have HC0 := HCk.out
    obtain ⟨k0, r0, s0, i0, l0, d0, p0, a0, t0⟩ := f
    have c0 := h5' 0 _ rfl
    have c1 := h5' 1 _ rfl
    have c2 := h5' 2 _ rfl
    have c3 := h5' 3 _ rfl
    have c4 := h5' 4 _ rfl
    have c5 := h5' 5 _ rfl
    have c6 := h5' 6 _ rfl
    have c7 := h5' 7 _ rfl
    have c8 := h5' 8 _ rfl
    dsimp only at c0 c1 c2 c3 c4 c5 c6 c7 c8
    rw [Nat.add_zero] at c0
    have HCkf := Lib.hid (fun W => HC0 W k0 r0 s0 i0 l0 d0 p0 a0 t0)
    clear h5' hd hf Hr HC0
    obtain ⟨E, hE⟩ : ∃ E, frE k0 r0 s0 i0 l0 d0 p0 t0 = E := ⟨_, rfl⟩
    have hfE : fE ⟨k0, r0, s0, i0, l0, d0, p0, a0, t0⟩ = E := hE
    rw [hE] at HCkf
    rw [hfE] at hr
    unfold frV at HCkf
    have Hr := Lib.hid hr
    have HfE := Lib.hid hfE
    clear hr hE hfE
    have hF := Blk.new wr 34 [.int .i64 k0, .int .i64 r0, .int .i64 s0, .int .i64 i0, .int .i64 l0, .int .i64 d0, .int .i64 p0, .int .u32 a0, .string t0]
    change Blk (wr.alloc (.cells #[.int .i64 k0, .int .i64 r0, .int .i64 s0, .int .i64 i0, .int .i64 l0, .int .i64 d0, .int .i64 p0, .int .u32 a0, .string t0] 34)) _ _ _ at hF
    have HFb := Lib.hid hF
    have HBy := Lib.hid (HBr.out.alloc HBr.out.size (.cells #[.int .i64 k0, .int .i64 r0, .int .i64 s0, .int .i64 i0, .int .i64 l0, .int .i64 d0, .int .i64 p0, .int .u32 a0, .string t0] 34))
    have HMy := Lib.hid (HM.out.alloc (.cells #[.int .i64 k0, .int .i64 r0, .int .i64 s0, .int .i64 i0, .int .i64 l0, .int .i64 d0, .int .i64 p0, .int .u32 a0, .string t0] 34))
    have Hoy := Lib.hid (Ho.out.alloc (.cells #[.int .i64 k0, .int .i64 r0, .int .i64 s0, .int .i64 i0, .int .i64 l0, .int .i64 d0, .int .i64 p0, .int .u32 a0, .string t0] 34))
    have hsy : wm.heap.size ≤ (wr.alloc (.cells #[.int .i64 k0, .int .i64 r0, .int .i64 s0, .int .i64 i0, .int .i64 l0, .int .i64 d0, .int .i64 p0, .int .u32 a0, .string t0] 34)).heap.size := by simp; omega
    have hrow0 := Ho.out.lt
    clear hF HM HBr Ho
    go_upto_region 10 with fail
    clear c0 c1 c2 c3 c4 c5 c6 c7 c8
    obtain ⟨fb, hfb⟩ : ∃ fb, wr.heap.size = fb := ⟨_, rfl⟩
    rw [hfb] at HFb hbs hrow0 ⊢
    generalize wr.alloc (.cells #[.int .i64 k0, .int .i64 r0, .int .i64 s0, .int .i64 i0, .int .i64 l0, .int .i64 d0, .int .i64 p0, .int .u32 a0, .string t0] 34) = wy at *
    have g0 := HFb.out.cell (i := 0) rfl
    have g1 := HFb.out.cell (i := 1) rfl
    have g2 := HFb.out.cell (i := 2) rfl
    have g3 := HFb.out.cell (i := 3) rfl
    have g4 := HFb.out.cell (i := 4) rfl
    have g5 := HFb.out.cell (i := 5) rfl
    have g6 := HFb.out.cell (i := 6) rfl
    have g7 := HFb.out.cell (i := 7) rfl
    have g8 := HFb.out.cell (i := 8) rfl
    go_wp2_with fail
    refine (HCkf.out _).mono ?_
    rintro e6 w6 ⟨rfl, hb6⟩
    clear g0 g1 g2 g3 g4 g5 g6 g7 g8
    have HF6 := Lib.hid (HFb.out.kept hb6)
    have HB6 := Lib.hid (HBy.out.trans (hb6.mono HBy.out.size))
    have HM6 := Lib.hid (own_map_heapG HMy.out hb6)
    have Ho6 := Lib.hid (own_belowC Hoy.out hb6)
    have hs6 : wm.heap.size ≤ w6.heap.size := by have := hb6.size; omega
    have hfb6 := HF6.out.lt
    clear hb6 HFb HBy HMy Hoy hsy HCkf
    have g0 := HF6.out.cell (i := 0) rfl
    have g1 := HF6.out.cell (i := 1) rfl
    have g2 := HF6.out.cell (i := 2) rfl
    have g3 := HF6.out.cell (i := 3) rfl
    have g4 := HF6.out.cell (i := 4) rfl
    have g5 := HF6.out.cell (i := 5) rfl
    have g6 := HF6.out.cell (i := 6) rfl
    have g7 := HF6.out.cell (i := 7) rfl
    have g8 := HF6.out.cell (i := 8) rfl
    by_cases hE0 : E = 0
    ·subst hE0
     have hok := Lib.hid (fE_key HfE.out hsm2.out)
     have hr := Hr.out
     rw [if_pos rfl, ← List.append_assoc] at hr
     have Hr2 := Lib.hid hr
     clear hr Hr
     have Hnewsa : Hid (∀ (j : Nat) (x : Value), ([.int .i64 k0, .int .i64 r0, .int .i64 s0, .int .i64 i0, .int .i64 l0, .int .i64 d0, .int .i64 p0, .int .u32 a0, .string t0] : List Value)[j]? = some x → (w6.alloc (.cells #[.int .i64 k0, .int .i64 r0, .int .i64 s0, .int .i64 i0, .int .i64 l0, .int .i64 d0, .int .i64 p0, .int .u32 a0, .string t0] 34)).cell? ((⟨w6.heap.size, 0, none⟩ : Addr).add j) = some x) := Lib.hid (fun j x hj => by
      rw [Addr.add_lit, Nat.zero_add]
      exact (Blk.new w6 34 [.int .i64 k0, .int .i64 r0, .int .i64 s0, .int .i64 i0, .int .i64 l0, .int .i64 d0, .int .i64 p0, .int .u32 a0, .string t0]).cell hj)
     have Honea : Hid (∀ x ∈ ([.int .i64 k0, .int .i64 r0, .int .i64 s0, .int .i64 i0, .int .i64 l0, .int .i64 d0, .int .i64 p0, .int .u32 a0, .string t0] : List Value), x.oneCell' = true) := Lib.hid (by simp [Value.oneCell'])
     have HUa := Lib.hid (Ho6.out.alloc (.cells #[.int .i64 k0, .int .i64 r0, .int .i64 s0, .int .i64 i0, .int .i64 l0, .int .i64 d0, .int .i64 p0, .int .u32 a0, .string t0] 34))
     have HBa := Lib.hid (HB6.out.alloc HB6.out.size (.cells #[.int .i64 k0, .int .i64 r0, .int .i64 s0, .int .i64 i0, .int .i64 l0, .int .i64 d0, .int .i64 p0, .int .u32 a0, .string t0] 34))
     have HFa := Lib.hid (HF6.out.alloc (.cells #[.int .i64 k0, .int .i64 r0, .int .i64 s0, .int .i64 i0, .int .i64 l0, .int .i64 d0, .int .i64 p0, .int .u32 a0, .string t0] 34))
     have HMa := Lib.hid (HM6.out.alloc (.cells #[.int .i64 k0, .int .i64 r0, .int .i64 s0, .int .i64 i0, .int .i64 l0, .int .i64 d0, .int .i64 p0, .int .u32 a0, .string t0] 34))
     have hba : wm.heap.size ≤ (w6.alloc (.cells #[.int .i64 k0, .int .i64 r0, .int .i64 s0, .int .i64 i0, .int .i64 l0, .int .i64 d0, .int .i64 p0, .int .u32 a0, .string t0] 34)).heap.size := by simp; omega
     have hrow : ∀ k, some k = (Value.slice Av gl.length cv).ownBlock → wm.heap.size ≤ k ∧ k < fb := fun k e => hrow0 k e.symm
     go_upto_region 12 with (at_builtin; refine append_atC _ rfl _ _ 49 rfl wm.heap.size 34 iF zeroF 9 80 Tryz.underlying49 HiF.out.1 HiF.out.2.1 HiF.out.2.2.1 HiF.out.2.2.2 rfl (by omega) (.slice Av gl.length cv) gl.length _ rfl HUa.out ⟨w6.heap.size, 0, none⟩ 1 1 _ rfl rfl Hnewsa.out Honea.out (by unfold maxLen; omega) (by omega) hba ?_; intro va wa hob hgb _; obtain ⟨Aa, ca, rfl⟩ := own_sliceU hob; have KUa := Lib.hid hob; have KGa := Lib.hid hgb; clear hob hgb)
     clear g0 g1 g2 g3 g4 g5 g6 g7 g8
     have hFx := HFa.out.of_heap (KGa.out.block fb HFa.out.lt (fun e => by have := (hrow _ e).2; omega))
     have HMx := Lib.hid (own_map_heapE HMa.out (KGa.out.block mb (by omega) (fun e => by have := (hrow _ e).1; omega)))
     have HBx := Lib.hid (HBa.out.grown KGa.out HBa.out.size (fun j hj => by have := (hrow j hj.symm).1; omega))
     have hsx : wm.heap.size ≤ wa.heap.size := by have := KGa.out.size; omega
     have g0 := hFx.cell (i := 0) rfl
     have g1 := hFx.cell (i := 1) rfl
     have g2 := hFx.cell (i := 2) rfl
     have g3 := hFx.cell (i := 3) rfl
     have g4 := hFx.cell (i := 4) rfl
     have g5 := hFx.cell (i := 5) rfl
     have g6 := hFx.cell (i := 6) rfl
     have g7 := hFx.cell (i := 7) rfl
     have g8 := hFx.cell (i := 8) rfl
     have KOx : Hid (wa.ownsRow wm.heap.size 34 9 (.slice Aa (gl ++ [(⟨k0, r0, s0, i0, l0, d0, p0, a0, t0⟩ : Frm)]).length ca) (gl ++ [(⟨k0, r0, s0, i0, l0, d0, p0, a0, t0⟩ : Frm)]).length ((gl ++ [(⟨k0, r0, s0, i0, l0, d0, p0, a0, t0⟩ : Frm)]).flatMap Frm.cells)) := Lib.hid (by
      rw [List.length_append, List.flatMap_append]
      exact KUa.out)
     clear hFx HFa HMa HBa HF6 HB6 HM6 Ho6 HUa Hnewsa Honea KUa KGa hrow hrow0
     by_cases ha : a0 = ar
     ·subst ha
      have Hkl : Hid (keyOf Tryz.prog 34 (.agg #[.int .i64 k0, .int .i64 r0, .int .i64 s0, .int .i64 i0, .int .i64 l0, .int .i64 d0, .int .i64 p0, .int .u32 a0, .string t0]) = some (frmKey.K ⟨k0, r0, s0, i0, l0, d0, p0, a0, t0⟩)) := Lib.hid (frmKey.key hok.out)
      have HL7 := Lib.hid (HL.out.put (HMx.out.tidy frmKey.keyed) hok.out)
      go_wp2_with (at_mapUpdate; refine wpList_mapUpdate_own _ rfl _ _ _ 58 rfl 34 4 frmKey.keyed Tryz.underlying58 _ mb i _ rfl HMx.out (by unfold maxLen; omega) _ _ _ rfl rfl Hkl.out _ [] (plainElem_bool Tryz.underlying4 true) ?_; intro w7 hown7 hgrow7; have Hown7 := Lib.hid hown7; have Hgr7 := Lib.hid hgrow7; clear hown7 hgrow7)
      have HB7 := Lib.hid (HBx.out.grown Hgr7.out HBx.out.size (fun j hj => by cases hj; omega))
      have Ho7 := Lib.hid (own_putC KOx.out Hgr7.out (fun k hk e => by have q1 := own_geC KOx.out k hk; have q2 := Option.some.inj e; omega))
      have hs7 : wm.heap.size ≤ w7.heap.size := by have := Hgr7.out.size; omega
      go_roundw
      case rel => exact ⟨i + 1, gl ++ [⟨k0, r0, s0, i0, l0, d0, p0, a0, t0⟩], addF L ⟨k0, r0, s0, i0, l0, d0, p0, a0, t0⟩, Aa, ca, _, by omega, by go_num, by rw [List.length_append]; rfl, by simp; omega, Hr2.out, Ho7.out, Hown7.out, HL7.out, fun f => by
       rw [addF_mem, HLm.out, List.mem_append, List.mem_singleton]
       constructor
       ·rintro (⟨q1, q2⟩ | rfl)
        ·exact ⟨q1, .inl q2⟩
        ·exact ⟨rfl, .inr rfl⟩
       ·rintro ⟨q1, q2 | rfl⟩
        ·exact .inl ⟨q1, q2⟩
        ·exact .inr rfl, HB7.out, hs7⟩
      case measure => simp [intOf]; omega
     ·have hb0 : (a0 == ar) = false := by simpa using ha
      go_wp2
      go_roundw
      case rel => exact ⟨i + 1, gl ++ [⟨k0, r0, s0, i0, l0, d0, p0, a0, t0⟩], L, Aa, ca, D, by omega, by go_num, by rw [List.length_append]; rfl, by simp; omega, Hr2.out, KOx.out, HMx.out.mono (by omega), HL.out, fun f => by
       rw [HLm.out, List.mem_append, List.mem_singleton]
       constructor
       ·rintro ⟨q1, q2⟩
        exact ⟨q1, .inl q2⟩
       ·rintro ⟨q1, q2 | rfl⟩
        ·exact ⟨q1, q2⟩
        ·exact absurd q1 ha, HBx.out, hsx⟩
      case measure => simp [intOf]; omega
    ·have hE1 : (E == 0) = false := by simpa using hE0
     have hr := Hr.out
     rw [if_neg hE0, List.nil_append] at hr
     have Hr2 := Lib.hid hr
     clear hr Hr
     go_wp2
     go_roundw
     case rel => exact ⟨i + 1, gl, L, Av, cv, D, by omega, by go_num, rfl, by omega, Hr2.out, Ho6.out, HM6.out.mono (by omega), HL.out, HLm.out, HB6.out, hs6⟩
     case measure => simp [intOf]; omega
   ·obtain rfl : i = fs.length := by omega
    have hiI : ¬ ((fs.length : Nat) : Int) < (fs.length : Int) := by omega
    have hr := Hr.out
    rw [List.drop_length, show goodL [] = [] from rfl, List.append_nil] at hr
    subst hr
    clear Hr
    have HV := Lib.hid (FrmsAt.of_own Ho.out)
    have Hcn : Hid (cs.length = L.length) := Lib.hid (nodup_len HCn.out HL.out.nodup fun y => by rw [HCm.out, HLm.out])
    go_wp2_with fail
    refine (HPc.out _ _ HV.out).mono ?_
    rintro e3 w3 ⟨v3, rfl, ho3, hb3⟩
    obtain ⟨A3, c3, rfl⟩ := own_sliceU ho3
    have HV3 := Lib.hid (StrvAt.of_own ho3)
    have HB3 := Lib.hid (HBr.out.trans (hb3.mono HBr.out.size))
    have HM3 := Lib.hid (own_map_heapG HM.out hb3)
    clear ho3 hb3 HBr HM Ho HV HPc
    go_wp2_with fail
    refine (HCo.out _ _ HV3.out).mono ?_
    rintro e5 w5 ⟨u5, rfl, hf5, hb5⟩
    have HF5 := Lib.hid hf5
    have HB5 := Lib.hid (HB3.out.trans (hb5.mono HB3.out.size))
    have HM5 := Lib.hid (own_map_heapG HM3.out hb5)
    obtain ⟨A5, c5, rfl, q1, q2, _⟩ := hf5
    clear hb5 HB3 HM3 HV3 HCo
    have hK := Blk.new w5 55 [.int .u32 ar, .slice A5 cs.length c5]
    change Blk (w5.alloc (.cells #[.int .u32 ar, .slice A5 cs.length c5] 55)) _ _ _ at hK
    have HK := Lib.hid hK
    have hbq := (Below.refl w5.heap.size w5).alloc (Nat.le_refl _) (.cells #[.int .u32 ar, .slice A5 cs.length c5] 55)
    have HFq := Lib.hid (HF5.out.below hbq)
    have HBq := Lib.hid (HB5.out.trans (hbq.mono HB5.out.size))
    have HMq := Lib.hid (own_map_heapG HM5.out hbq)
    clear hK hbq HF5 HB5 HM5
    go_upto_region 16 with fail
    obtain ⟨kb, hkb⟩ : ∃ kb, w5.heap.size = kb := ⟨_, rfl⟩
    rw [hkb] at HK ⊢
    generalize w5.alloc (.cells #[.int .u32 ar, .slice A5 cs.length c5] 55) = wq at *
    clear hkb
    have z1 := HK.out.cell (i := 1) rfl
    go_wp2
    clear z1
    go_loopw [48] (fun z wr => ∃ i : Nat, i ≤ cs.length ∧ z = .int .i64 (i : Int) ∧ Below wq.heap.size wq wr) (fun z _ => cs.length - (intOf z).toNat)
    case atStart => exact ⟨0, by omega, rfl, Below.refl _ _⟩
    case round =>
     obtain ⟨i, hi, rfl, hB⟩ := hrel
     have HBr := Lib.hid hB
     clear hB
     by_cases h : i < cs.length
     ·have hiI2 : (i : Int) < cs.length := by omega
      obtain ⟨f, hf⟩ : ∃ f, cs[i]? = some f := ⟨_, List.getElem?_eq_getElem h⟩
      obtain ⟨hfa, hfg⟩ := (HCm.out f).1 (List.mem_of_getElem? hf)
      have hgk := HGm.out f hfg
      have hok := Lib.hid (fE_key hgk.1 hgk.2)
      have hin : f ∈ L := (HLm.out f).2 ⟨hfa, hfg⟩
      have Hat : Hid (D.atKey (frmKey.K f) (.lit (.bool false)) = .lit (.bool true)) := Lib.hid (by rw [HL.out.met.2 _ hok.out]; simp [hin])
      obtain ⟨_, _, e9, _, _, h4⟩ := HFq.out.below HBr.out
      cases e9
      obtain ⟨b, o, rfl, h5'⟩ := h4 i f hf
      obtain ⟨k0, r0, s0, i0, l0, d0, p0, a0, t0⟩ := f
      have c0 := h5' 0 _ rfl
      have c1 := h5' 1 _ rfl
      have c2 := h5' 2 _ rfl
      have c3 := h5' 3 _ rfl
      have c4 := h5' 4 _ rfl
      have c5' := h5' 5 _ rfl
      have c6 := h5' 6 _ rfl
      have c7 := h5' 7 _ rfl
      have c8 := h5' 8 _ rfl
      dsimp only at c0 c1 c2 c3 c4 c5' c6 c7 c8
      rw [Nat.add_zero] at c0
      clear h4 h5' hf hin hgk hfa hfg
      have Hkl : Hid (keyOf Tryz.prog 34 (.agg #[.int .i64 k0, .int .i64 r0, .int .i64 s0, .int .i64 i0, .int .i64 l0, .int .i64 d0, .int .i64 p0, .int .u32 a0, .string t0]) = some (frmKey.K ⟨k0, r0, s0, i0, l0, d0, p0, a0, t0⟩)) := Lib.hid (frmKey.key hok.out)
      have hF := Blk.new wr 34 [.int .i64 k0, .int .i64 r0, .int .i64 s0, .int .i64 i0, .int .i64 l0, .int .i64 d0, .int .i64 p0, .int .u32 a0, .string t0]
      change Blk (wr.alloc (.cells #[.int .i64 k0, .int .i64 r0, .int .i64 s0, .int .i64 i0, .int .i64 l0, .int .i64 d0, .int .i64 p0, .int .u32 a0, .string t0] 34)) _ _ _ at hF
      have HBy := Lib.hid (HBr.out.alloc HBr.out.size (.cells #[.int .i64 k0, .int .i64 r0, .int .i64 s0, .int .i64 i0, .int .i64 l0, .int .i64 d0, .int .i64 p0, .int .u32 a0, .string t0] 34))
      have HMy := Lib.hid (own_map_heapG HMq.out HBy.out)
      go_upto_region 19 with fail
      clear c0 c1 c2 c3 c4 c5' c6 c7 c8
      obtain ⟨fb, hfb⟩ : ∃ fb, wr.heap.size = fb := ⟨_, rfl⟩
      rw [hfb] at hF ⊢
      generalize wr.alloc (.cells #[.int .i64 k0, .int .i64 r0, .int .i64 s0, .int .i64 i0, .int .i64 l0, .int .i64 d0, .int .i64 p0, .int .u32 a0, .string t0] 34) = wy at *
      clear hfb
      have g0 := hF.cell (i := 0) rfl
      have g1 := hF.cell (i := 1) rfl
      have g2 := hF.cell (i := 2) rfl
      have g3 := hF.cell (i := 3) rfl
      have g4 := hF.cell (i := 4) rfl
      have g5 := hF.cell (i := 5) rfl
      have g6 := hF.cell (i := 6) rfl
      have g7 := hF.cell (i := 7) rfl
      have g8 := hF.cell (i := 8) rfl
      go_wp2_with (refine look_boolG _ rfl _ _ 58 rfl 34 4 frmKey.keyed Tryz.underlying58 Tryz.underlying4 (by first | exact Tryz.zeroValue4 _ | rfl) mb fs.length D rfl HMy.out _ _ rfl Hkl.out true Hat.out ?_)
      go_roundw
      case rel => exact ⟨i + 1, by omega, by go_num, HBy.out⟩
      case measure => simp [intOf]; omega
     ·obtain rfl : i = cs.length := by omega
      have hiI2 : ¬ ((cs.length : Nat) : Int) < (cs.length : Int) := by omega
      have z0 := (HK.out.kept HBr.out).cell (i := 0) rfl
      have z1 := (HK.out.kept HBr.out).cell (i := 1) rfl
      have hlen := (own_map_heapG HMq.out HBr.out).len Tryz.underlying58 3
      rw [HL.out.size, ← Hcn.out] at hlen
      go_wp2
      go_ret
      exact ⟨rfl, HBq.out.trans (HBr.out.mono HBq.out.size)⟩
 ·rw [decide_eq_false fun h => h5 h.1] at HF
  go_enter Tryz.func6, Tryz.ntmps6
  go_wp2_with fail
  refine (HA.out _).mono ?_
  rintro e1 w1 ⟨rfl, hb1⟩
  have HB1 := Lib.hid hb1
  clear hb1
  go_wp2_with fail
  refine (HF.out _).mono ?_
  rintro e2 w2 ⟨rfl, rfl⟩
  go_wp2_with fail
  go_ret
  exact ⟨rfl, HB1.out⟩
end coexact
end Go.Proofs.YtnlnmfkmbpihhaaGreatDoor
