/-
 WALK: steleref44.Payload.
-/
import Derived.Test.YtnlnmfkmbpihhaaGreatDoorCoA
namespace Go.Proofs.YtnlnmfkmbpihhaaGreatDoor
open Go.RowKit

/-- What the variable for the frame found holds. -/
def stC : Option Frm → List Value
 | none => zeroL
 | some f => f.cells

set_option maxRecDepth 100000 in
set_option maxHeartbeats 16000000 in
theorem rpay_any (w : World) (ar : Int) (v : Value) (fs : List Frm) (kd ss rl ix : Int) (hv : FrmsAt w v fs) :
  Calls Tryz.prog 30 #[.agg #[.int .u32 ar, v], .int .i64 kd, .int .i64 ss, .int .i64 rl, .int .i64 ix] w fun e w' => e = .returned (payF kd ss rl ix none fs) ∧ Below w.heap.size w w' := by
 have Hv := Lib.hid hv
 obtain ⟨A, c, rfl, h1, h2, h3⟩ := hv
 clear h3
 obtain ⟨R, hR⟩ : ∃ R, payF kd ss rl ix none fs = R := ⟨_, rfl⟩
 rw [hR]
 have HR := Lib.hid hR
 have hw1 := Blk.new w 55 [.int .u32 ar, .slice A fs.length c]
 change Blk (w.alloc (.cells #[.int .u32 ar, .slice A fs.length c] 55)) _ _ _ at hw1
 have HZ := Lib.hid (hw1.alloc (.cells zeroL.toArray 34))
 have hX : Blk ((w.alloc (.cells #[.int .u32 ar, .slice A fs.length c] 55)).alloc (.cells zeroL.toArray 34)) (w.heap.size + 1) 34 zeroL := by
  have h := Blk.new (w.alloc (.cells #[.int .u32 ar, .slice A fs.length c] 55)) 34 zeroL
  rwa [show (w.alloc (.cells #[.int .u32 ar, .slice A fs.length c] 55)).heap.size = w.heap.size + 1 by simp] at h
 have HX := Lib.hid hX
 have HBz := Lib.hid (((Below.refl w.heap.size w).alloc (Nat.le_refl _) (.cells #[.int .u32 ar, .slice A fs.length c] 55)).alloc (by simp) (.cells zeroL.toArray 34))
 clear hR hw1 hX
 unfold zeroL at HZ HX HBz
 change Hid (Blk ((w.alloc (.cells #[.int .u32 ar, .slice A fs.length c] 55)).alloc (.cells #[.int .i64 0, .int .i64 0, .int .i64 0, .int .i64 0, .int .i64 0, .int .i64 0, .int .i64 0, .int .u32 0, .string ⟨#[]⟩] 34)) _ _ _) at HZ
 change Hid (Blk ((w.alloc (.cells #[.int .u32 ar, .slice A fs.length c] 55)).alloc (.cells #[.int .i64 0, .int .i64 0, .int .i64 0, .int .i64 0, .int .i64 0, .int .i64 0, .int .i64 0, .int .u32 0, .string ⟨#[]⟩] 34)) _ _ _) at HX
 change Hid (Below _ _ ((w.alloc (.cells #[.int .u32 ar, .slice A fs.length c] 55)).alloc (.cells #[.int .i64 0, .int .i64 0, .int .i64 0, .int .i64 0, .int .i64 0, .int .i64 0, .int .i64 0, .int .u32 0, .string ⟨#[]⟩] 34))) at HBz
 go_enter Tryz.func30, Tryz.ntmps30
 go_upto_region 3 with fail
 generalize (w.alloc (.cells #[.int .u32 ar, .slice A fs.length c] 55)).alloc (.cells #[.int .i64 0, .int .i64 0, .int .i64 0, .int .i64 0, .int .i64 0, .int .i64 0, .int .i64 0, .int .u32 0, .string ⟨#[]⟩] 34) = wz at *
 go_wp2
 go_loopw [13, 15] (fun y x wr => ∃ (k : Nat) (st : Option Frm), k ≤ fs.length ∧ x = .int .i64 (k : Int) ∧ y = .bool st.isSome ∧ R = payF kd ss rl ix st (fs.drop k) ∧ Blk wr w.heap.size 55 [.int .u32 ar, .slice A fs.length c] ∧ Blk wr (w.heap.size + 1) 34 (stC st) ∧ Below w.heap.size w wr) (fun _ x _ => fs.length - (intOf x).toNat)
 case atStart => exact ⟨0, none, by omega, rfl, rfl, by rw [List.drop_zero]; exact HR.out.symm, HZ.out, HX.out, HBz.out⟩
 case round =>
  obtain ⟨k, st, hk, rfl, rfl, hr, hz, hx, hB⟩ := hrel
  clear HR HZ HX HBz
  have HBr := Lib.hid hB
  have Hr := Lib.hid hr
  have hz1r := hz.cell (i := 1) rfl
  have Hz := Lib.hid hz
  have Hx := Lib.hid hx
  clear hB hr hz hx
  by_cases h : k < fs.length
  ·have hkI : (k : Int) < fs.length := by omega
   obtain ⟨f, hf⟩ : ∃ f, fs[k]? = some f := ⟨_, List.getElem?_eq_getElem h⟩
   obtain ⟨_, _, e9, _, _, h4⟩ := Hv.out.below HBr.out
   cases e9
   obtain ⟨b, o, rfl, h5⟩ := h4 k f hf
   have hd := Hr.out
   rw [frm_drop hf] at hd
   have Hd := Lib.hid hd
   obtain ⟨k0, r0, s0, i0, l0, d0, p0, a0, t0⟩ := f
   have c0 := h5 0 _ rfl
   have c1 := h5 1 _ rfl
   have c2 := h5 2 _ rfl
   have c3 := h5 3 _ rfl
   have c4 := h5 4 _ rfl
   have c5 := h5 5 _ rfl
   have c6 := h5 6 _ rfl
   have c7 := h5 7 _ rfl
   have c8 := h5 8 _ rfl
   dsimp only at c0 c1 c2 c3 c4 c5 c6 c7 c8
   rw [Nat.add_zero] at c0
   clear h4 h5 hd hf Hr
   have hF := Blk.new wr 34 [.int .i64 k0, .int .i64 r0, .int .i64 s0, .int .i64 i0, .int .i64 l0, .int .i64 d0, .int .i64 p0, .int .u32 a0, .string t0]
   change Blk (wr.alloc (.cells #[.int .i64 k0, .int .i64 r0, .int .i64 s0, .int .i64 i0, .int .i64 l0, .int .i64 d0, .int .i64 p0, .int .u32 a0, .string t0] 34)) _ _ _ at hF
   have hBy := HBr.out.alloc HBr.out.size (.cells #[.int .i64 k0, .int .i64 r0, .int .i64 s0, .int .i64 i0, .int .i64 l0, .int .i64 d0, .int .i64 p0, .int .u32 a0, .string t0] 34)
   have hzy := Hz.out.alloc (.cells #[.int .i64 k0, .int .i64 r0, .int .i64 s0, .int .i64 i0, .int .i64 l0, .int .i64 d0, .int .i64 p0, .int .u32 a0, .string t0] 34)
   have hxy := Hx.out.alloc (.cells #[.int .i64 k0, .int .i64 r0, .int .i64 s0, .int .i64 i0, .int .i64 l0, .int .i64 d0, .int .i64 p0, .int .u32 a0, .string t0] 34)
   have hwr := HBr.out.size
   have hlx := Hx.out.lt
   go_upto_region 7 with fail
   clear c0 c1 c2 c3 c4 c5 c6 c7 c8 hz1r
   generalize wr.alloc (.cells #[.int .i64 k0, .int .i64 r0, .int .i64 s0, .int .i64 i0, .int .i64 l0, .int .i64 d0, .int .i64 p0, .int .u32 a0, .string t0] 34) = wy at *
   have f0 := hF.cell (i := 0) rfl
   have f1 := hF.cell (i := 1) rfl
   have f2 := hF.cell (i := 2) rfl
   have f3 := hF.cell (i := 3) rfl
   have f4 := hF.cell (i := 4) rfl
   have f5 := hF.cell (i := 5) rfl
   have f6 := hF.cell (i := 6) rfl
   have f7 := hF.cell (i := 7) rfl
   have f8 := hF.cell (i := 8) rfl
   have HF := Lib.hid hF
   have HBy := Lib.hid hBy
   have Hzy := Lib.hid hzy
   have Hxy := Lib.hid hxy
   clear hF hBy hzy hxy HBr Hz Hx
   by_cases q0 : k0 = kd
   ·subst q0
    by_cases q1 : s0 = ss
    ·subst q1
     by_cases q2 : r0 = rl
     ·subst q2
      by_cases q3 : i0 = ix
      ·subst q3
       have hm : payAt k0 s0 r0 i0 ⟨k0, r0, s0, i0, l0, d0, p0, a0, t0⟩ = true := by unfold payAt; simp
       cases st with
       | none =>
        have HX := Lib.hid (Hd.out.trans (payF_first hm))
        clear hm
        rw [show (none : Option Frm).isSome = false from rfl]
        have HT := Lib.hid Hxy.out.there
        have HG := Lib.hid (setCells_below HBy.out (by omega : w.heap.size ≤ w.heap.size + 1) [.int .i64 k0, .int .i64 r0, .int .i64 s0, .int .i64 i0, .int .i64 l0, .int .i64 d0, .int .i64 p0, .int .u32 a0, .string t0] 0)
        have HFx := setCells_blk [.int .i64 k0, .int .i64 r0, .int .i64 s0, .int .i64 i0, .int .i64 l0, .int .i64 d0, .int .i64 p0, .int .u32 a0, .string t0] [] (zeroL) _ Hxy.out rfl
        have HTu := setCells_turned [.int .i64 k0, .int .i64 r0, .int .i64 s0, .int .i64 i0, .int .i64 l0, .int .i64 d0, .int .i64 p0, .int .u32 a0, .string t0] wy (w.heap.size + 1) 0
        obtain ⟨W1, hE⟩ : ∃ W1, wy.setCells (w.heap.size + 1) 0 [.int .i64 k0, .int .i64 r0, .int .i64 s0, .int .i64 i0, .int .i64 l0, .int .i64 d0, .int .i64 p0, .int .u32 a0, .string t0] = W1 := ⟨_, rfl⟩
        have HE := Lib.hid hE
        have HO : Hid ((#[.int .i64 k0, .int .i64 r0, .int .i64 s0, .int .i64 i0, .int .i64 l0, .int .i64 d0, .int .i64 p0, .int .u32 a0, .string t0] : Array Value).all (·.oneCell') = true) := Lib.hid (by simp [Value.oneCell'])
        rw [hE] at HG
        rw [show ([] : List Value).length = 0 from rfl, hE, List.nil_append] at HFx
        have HF2 := Lib.hid HFx
        rw [hE] at HTu
        have HZ2 : Hid (Blk W1 w.heap.size 55 _) := Lib.hid (Hzy.out.turned HTu (by omega))
        clear hE HFx HTu Hxy HBy Hzy
        go_wp2_with (refine frm_store rfl (.tmp 14) (.tmp 57) rfl _ _ rfl rfl HT.out rfl HO.out W1 HE.out ?_)
        go_roundw
        case rel => exact ⟨k + 1, some ⟨k0, r0, s0, i0, l0, d0, p0, a0, t0⟩, by omega, by go_num, rfl, HX.out, HZ2.out, HF2.out, HG.out⟩
        case measure => simp [intOf]; omega
       | some g =>
        rw [show (some g).isSome = true from rfl]
        have hxy := Hxy.out
        obtain ⟨gk, gr, gs, gi, gl, gd, gp, ga, gt⟩ := g
        have e0 := hxy.cell (i := 0) rfl
        have e1 := hxy.cell (i := 1) rfl
        have e2 := hxy.cell (i := 2) rfl
        have e3 := hxy.cell (i := 3) rfl
        have e4 := hxy.cell (i := 4) rfl
        have e5 := hxy.cell (i := 5) rfl
        have e6 := hxy.cell (i := 6) rfl
        have e7 := hxy.cell (i := 7) rfl
        have e8 := hxy.cell (i := 8) rfl
        clear hxy
        cases hq : frEq ⟨gk, gr, gs, gi, gl, gd, gp, ga, gt⟩ ⟨k0, r0, s0, i0, l0, d0, p0, a0, t0⟩ with
        | true =>
         have HX := Lib.hid (Hd.out.trans (payF_same hm hq))
         have Hq : Hid ((!frEq ⟨gk, gr, gs, gi, gl, gd, gp, ga, gt⟩ ⟨k0, r0, s0, i0, l0, d0, p0, a0, t0⟩) = false) := Lib.hid (by rw [hq]; rfl)
         clear hm hq
         have HT := Lib.hid Hxy.out.there
         have HG := Lib.hid (setCells_below HBy.out (by omega : w.heap.size ≤ w.heap.size + 1) [.int .i64 k0, .int .i64 r0, .int .i64 s0, .int .i64 i0, .int .i64 l0, .int .i64 d0, .int .i64 p0, .int .u32 a0, .string t0] 0)
         have HFx := setCells_blk [.int .i64 k0, .int .i64 r0, .int .i64 s0, .int .i64 i0, .int .i64 l0, .int .i64 d0, .int .i64 p0, .int .u32 a0, .string t0] [] (Frm.cells ⟨gk, gr, gs, gi, gl, gd, gp, ga, gt⟩) _ Hxy.out rfl
         have HTu := setCells_turned [.int .i64 k0, .int .i64 r0, .int .i64 s0, .int .i64 i0, .int .i64 l0, .int .i64 d0, .int .i64 p0, .int .u32 a0, .string t0] wy (w.heap.size + 1) 0
         obtain ⟨W1, hE⟩ : ∃ W1, wy.setCells (w.heap.size + 1) 0 [.int .i64 k0, .int .i64 r0, .int .i64 s0, .int .i64 i0, .int .i64 l0, .int .i64 d0, .int .i64 p0, .int .u32 a0, .string t0] = W1 := ⟨_, rfl⟩
         have HE := Lib.hid hE
         have HO : Hid ((#[.int .i64 k0, .int .i64 r0, .int .i64 s0, .int .i64 i0, .int .i64 l0, .int .i64 d0, .int .i64 p0, .int .u32 a0, .string t0] : Array Value).all (·.oneCell') = true) := Lib.hid (by simp [Value.oneCell'])
         rw [hE] at HG
         rw [show ([] : List Value).length = 0 from rfl, hE, List.nil_append] at HFx
         have HF2 := Lib.hid HFx
         rw [hE] at HTu
         have HZ2 : Hid (Blk W1 w.heap.size 55 _) := Lib.hid (Hzy.out.turned HTu (by omega))
         clear hE HFx HTu Hxy HBy Hzy
         go_wp2_with (first | (refine wpList_neqF (.tmp 53) (.tmp 54) rfl rfl _ _ rfl rfl Hq.out ?_) | (refine frm_store rfl (.tmp 14) (.tmp 57) rfl _ _ rfl rfl HT.out rfl HO.out W1 HE.out ?_))
         go_roundw
         case rel => exact ⟨k + 1, some ⟨k0, r0, s0, i0, l0, d0, p0, a0, t0⟩, by omega, by go_num, rfl, HX.out, HZ2.out, HF2.out, HG.out⟩
         case measure => simp [intOf]; omega
        | false =>
         have HX := Lib.hid (Hd.out.trans (payF_other hm hq))
         have Hq : Hid ((!frEq ⟨gk, gr, gs, gi, gl, gd, gp, ga, gt⟩ ⟨k0, r0, s0, i0, l0, d0, p0, a0, t0⟩) = true) := Lib.hid (by rw [hq]; rfl)
         clear hm hq
         go_wp2_with (refine wpList_neqF (.tmp 53) (.tmp 54) rfl rfl _ _ rfl rfl Hq.out ?_)
         go_ret3
         exact ⟨congrArg Ending.returned HX.out.symm, HBy.out⟩
      ·have hm : payAt k0 s0 r0 ix ⟨k0, r0, s0, i0, l0, d0, p0, a0, t0⟩ = false := by unfold payAt; simp [q3]
       have qb : (i0 != ix) = true := by rw [bne_iff_ne]; exact q3
       have hX := payF_miss (o := st) (r := fs.drop (k + 1)) hm
       have HX := Lib.hid (Hd.out.trans hX)
       clear hm hX
       go_wp2
       go_roundw
       case rel => exact ⟨k + 1, st, by omega, by go_num, rfl, HX.out, Hzy.out, Hxy.out, HBy.out⟩
       case measure => simp [intOf]; omega
     ·have hm : payAt k0 s0 rl ix ⟨k0, r0, s0, i0, l0, d0, p0, a0, t0⟩ = false := by unfold payAt; simp [q2]
      have qb : (r0 != rl) = true := by rw [bne_iff_ne]; exact q2
      have hX := payF_miss (o := st) (r := fs.drop (k + 1)) hm
      have HX := Lib.hid (Hd.out.trans hX)
      clear hm hX
      go_wp2
      go_roundw
      case rel => exact ⟨k + 1, st, by omega, by go_num, rfl, HX.out, Hzy.out, Hxy.out, HBy.out⟩
      case measure => simp [intOf]; omega
    ·have hm : payAt k0 ss rl ix ⟨k0, r0, s0, i0, l0, d0, p0, a0, t0⟩ = false := by unfold payAt; simp [q1]
     have qb : (s0 != ss) = true := by rw [bne_iff_ne]; exact q1
     have hX := payF_miss (o := st) (r := fs.drop (k + 1)) hm
     have HX := Lib.hid (Hd.out.trans hX)
     clear hm hX
     go_wp2
     go_roundw
     case rel => exact ⟨k + 1, st, by omega, by go_num, rfl, HX.out, Hzy.out, Hxy.out, HBy.out⟩
     case measure => simp [intOf]; omega
   ·have hm : payAt kd ss rl ix ⟨k0, r0, s0, i0, l0, d0, p0, a0, t0⟩ = false := by unfold payAt; simp [q0]
    have qb : (k0 != kd) = true := by rw [bne_iff_ne]; exact q0
    have hX := payF_miss (o := st) (r := fs.drop (k + 1)) hm
    have HX := Lib.hid (Hd.out.trans hX)
    clear hm hX
    go_wp2
    go_roundw
    case rel => exact ⟨k + 1, st, by omega, by go_num, rfl, HX.out, Hzy.out, Hxy.out, HBy.out⟩
    case measure => simp [intOf]; omega
  ·obtain rfl : k = fs.length := by omega
   have hkI : ¬ (fs.length : Int) < fs.length := by omega
   have hr := Hr.out
   rw [List.drop_length] at hr
   cases st with
   | none =>
    rw [payF] at hr
    have Hr2 := Lib.hid hr
    clear hr Hr
    rw [show (none : Option Frm).isSome = false from rfl]
    go_wp2
    go_ret3
    exact ⟨congrArg Ending.returned Hr2.out.symm, HBr.out⟩
   | some g =>
    rw [payF] at hr
    obtain ⟨k0, r0, s0, i0, l0, d0, p0, a0, t0⟩ := g
    have hx := Hx.out
    have c0 := hx.cell (i := 0) rfl
    have c1 := hx.cell (i := 1) rfl
    have c2 := hx.cell (i := 2) rfl
    have c3 := hx.cell (i := 3) rfl
    have c4 := hx.cell (i := 4) rfl
    have c5 := hx.cell (i := 5) rfl
    have c6 := hx.cell (i := 6) rfl
    have c7 := hx.cell (i := 7) rfl
    have c8 := hx.cell (i := 8) rfl
    dsimp only at hr
    have Hr2 := Lib.hid hr
    clear hr Hr hx
    rw [show (some (⟨k0, r0, s0, i0, l0, d0, p0, a0, t0⟩ : Frm)).isSome = true from rfl]
    go_upto_region 14 with fail
    go_quiet (fail)
    go_wp2
    go_ret3
    exact ⟨congrArg Ending.returned Hr2.out.symm, below_drewN HBr.out nq⟩

end Go.Proofs.YtnlnmfkmbpihhaaGreatDoor
