/-
 WALKS: collect.Payload, steleref44.Payload.
-/
import Derived.Test.YtnlnmfkmbpihhaaGreatDoorCoT
namespace Go.Proofs.YtnlnmfkmbpihhaaGreatDoor
open Go.RowKit

/-- The frame stands at this position. -/
def payAt (kd ss rl ix : Int) (f : Frm) : Bool := f.k == kd && (f.s == ss && (f.r == rl && f.i == ix))
/-- What Payload answers. -/
def payF (kd ss rl ix : Int) : Option Frm → List Frm → Value
 | none, [] => .tuple #[.string ⟨#[]⟩, .int .i64 0, .int .i64 19]
 | some g, [] => .tuple #[.string g.t, .int .i64 g.l, .int .i64 0]
 | none, f :: r => if payAt kd ss rl ix f then payF kd ss rl ix (some f) r else payF kd ss rl ix none r
 | some g, f :: r => if payAt kd ss rl ix f then (if frEq g f then payF kd ss rl ix (some f) r else .tuple #[.string ⟨#[]⟩, .int .i64 0, .int .i64 20]) else payF kd ss rl ix (some g) r
theorem payF_miss {kd ss rl ix : Int} {o : Option Frm} {f : Frm} {r : List Frm} (h : payAt kd ss rl ix f = false) : payF kd ss rl ix o (f :: r) = payF kd ss rl ix o r := by
 cases o <;> rw [payF, h] <;> rfl
theorem payF_first {kd ss rl ix : Int} {f : Frm} {r : List Frm} (h : payAt kd ss rl ix f = true) : payF kd ss rl ix none (f :: r) = payF kd ss rl ix (some f) r := by rw [payF, if_pos h]
theorem payF_same {kd ss rl ix : Int} {g f : Frm} {r : List Frm} (h : payAt kd ss rl ix f = true) (h2 : frEq g f = true) : payF kd ss rl ix (some g) (f :: r) = payF kd ss rl ix (some f) r := by rw [payF, if_pos h, if_pos h2]
theorem payF_other {kd ss rl ix : Int} {g f : Frm} {r : List Frm} (h : payAt kd ss rl ix f = true) (h2 : frEq g f = false) : payF kd ss rl ix (some g) (f :: r) = .tuple #[.string ⟨#[]⟩, .int .i64 0, .int .i64 20] := by
 rw [payF, if_pos h, h2]
 rfl
theorem frm_drop {xs : List Frm} {q : Nat} {x : Frm} (h : xs[q]? = some x) : xs.drop q = x :: xs.drop (q + 1) := by
 obtain ⟨h1, h2⟩ := List.getElem?_eq_some_iff.1 h
 rw [List.drop_eq_getElem_cons h1, h2]
/-- The pointer to the frame found so far. -/
def PtrAt (A : Option Addr) (fs : List Frm) (v : Value) (st : Option Frm) : Prop := (v = .pointer none ∧ st = none) ∨ ∃ j g b o, fs[j]? = some g ∧ A = some ⟨b, o, none⟩ ∧ v = .pointer (some ⟨b, o + j * 9, none⟩) ∧ st = some g

set_option maxRecDepth 100000 in
set_option maxHeartbeats 16000000 in
theorem pay_any (w : World) (ar : Int) (v : Value) (fs : List Frm) (kd ss rl ix : Int) (hv : FrmsAt w v fs) :
  Calls Tryz.prog 29 #[.agg #[.int .u32 ar, v], .int .i64 kd, .int .i64 ss, .int .i64 rl, .int .i64 ix] w fun e w' => e = .returned (payF kd ss rl ix none fs) ∧ Below w.heap.size w w' := by
 have Hv := Lib.hid hv
 obtain ⟨A, c, rfl, h1, h2, h3⟩ := hv
 clear h3
 obtain ⟨R, hR⟩ : ∃ R, payF kd ss rl ix none fs = R := ⟨_, rfl⟩
 rw [hR]
 have HR := Lib.hid hR
 have HZ := Lib.hid (Blk.new w 55 [.int .u32 ar, .slice A fs.length c])
 change Hid (Blk (w.alloc (.cells #[.int .u32 ar, .slice A fs.length c] 55)) _ _ _) at HZ
 have HBz := Lib.hid ((Below.refl w.heap.size w).alloc (Nat.le_refl _) (.cells #[.int .u32 ar, .slice A fs.length c] 55))
 have HV1 := Lib.hid (Hv.out.below ((Below.refl _ _).alloc (Nat.le_refl _) (.cells #[.int .u32 ar, .slice A fs.length c] 55)))
 clear hR Hv
 go_enter Tryz.func29, Tryz.ntmps29
 go_upto_region 1 with fail
 generalize w.alloc (.cells #[.int .u32 ar, .slice A fs.length c] 55) = wz at *
 have hz1 := HZ.out.cell (i := 1) rfl
 go_wp2
 go_loopw [13, 19] (fun y x wr => ∃ (k : Nat) (st : Option Frm), k ≤ fs.length ∧ x = .int .i64 (k : Int) ∧ PtrAt A fs y st ∧ R = payF kd ss rl ix st (fs.drop k) ∧ Below wz.heap.size wz wr) (fun _ x _ => fs.length - (intOf x).toNat)
 case atStart => exact ⟨0, none, by omega, rfl, .inl ⟨rfl, rfl⟩, by rw [List.drop_zero]; exact HR.out.symm, Below.refl _ _⟩
 case round =>
  obtain ⟨k, st, hk, rfl, hp, hr, hB⟩ := hrel
  clear HR
  have HBr := Lib.hid hB
  have Hr := Lib.hid hr
  have hz1r := cell_below hB hz1
  clear hB hr
  by_cases h : k < fs.length
  ·have hkI : (k : Int) < fs.length := by omega
   obtain ⟨f, hf⟩ : ∃ f, fs[k]? = some f := ⟨_, List.getElem?_eq_getElem h⟩
   have HVr := Lib.hid (HV1.out.below HBr.out)
   obtain ⟨_, _, e9, _, _, h4⟩ := HVr.out
   cases e9
   obtain ⟨b, o, rfl, h5⟩ := h4 k f hf
   have hd := Hr.out
   rw [frm_drop hf] at hd
   have Hd := Lib.hid hd
   have Hf := Lib.hid hf
   obtain ⟨k0, r0, s0, i0, l0, d0, p0, a0, t0⟩ := f
   have c0 := h5 0 _ rfl
   have c1 := h5 1 _ rfl
   have c2 := h5 2 _ rfl
   have c3 := h5 3 _ rfl
   have c4 := h5 4 _ rfl
   have c5 := h5 5 _ rfl
   have c6 := h5 6 _ rfl
   have c7 := h5 7 _ rfl
   have c8 := h5 8 _ rfl
   dsimp only at c0 c1 c2 c3 c4 c5 c6 c7 c8
   rw [Nat.add_zero] at c0
   have H4 := Lib.hid h4
   clear h4 h5 hd hf
   by_cases q0 : k0 = kd
   ·subst q0
    by_cases q1 : s0 = ss
    ·subst q1
     by_cases q2 : r0 = rl
     ·subst q2
      by_cases q3 : i0 = ix
      ·subst q3
       have hm : payAt k0 s0 r0 i0 ⟨k0, r0, s0, i0, l0, d0, p0, a0, t0⟩ = true := by unfold payAt; simp
       rcases hp with ⟨rfl, rfl⟩ | ⟨j, g, bb, oo, hj, e7, rfl, rfl⟩
       ·have HX := Lib.hid (Hd.out.trans (payF_first hm))
        clear hm
        go_upto_region 7 with fail
        go_quiet (fail)
        go_wp2
        go_roundw
        case rel => exact ⟨k + 1, some ⟨k0, r0, s0, i0, l0, d0, p0, a0, t0⟩, by omega, by go_num, .inr ⟨k, _, b, o, Hf.out, rfl, rfl, rfl⟩, HX.out, below_drewN HBr.out nq⟩
        case measure => simp [intOf]; omega
       ·cases e7
        obtain ⟨_, _, e8, h5⟩ := H4.out j g hj
        cases e8
        obtain ⟨gk, gr, gs, gi, gl, gd, gp, ga, gt⟩ := g
        have e0 := h5 0 _ rfl
        have e1 := h5 1 _ rfl
        have e2 := h5 2 _ rfl
        have e3 := h5 3 _ rfl
        have e4 := h5 4 _ rfl
        have e5 := h5 5 _ rfl
        have e6 := h5 6 _ rfl
        have e7 := h5 7 _ rfl
        have e8 := h5 8 _ rfl
        dsimp only at e0 e1 e2 e3 e4 e5 e6 e7 e8
        rw [Nat.add_zero] at e0
        clear h5 hj
        cases hq : frEq ⟨gk, gr, gs, gi, gl, gd, gp, ga, gt⟩ ⟨k0, r0, s0, i0, l0, d0, p0, a0, t0⟩ with
        | true =>
         have HX := Lib.hid (Hd.out.trans (payF_same hm hq))
         have e := frEq_iff.1 hq
         cases e
         clear hm hq
         go_upto_region 7 with fail
         go_quiet (fail)
         go_wp2
         go_roundw
         case rel => exact ⟨k + 1, some ⟨k0, r0, s0, i0, l0, d0, p0, a0, t0⟩, by omega, by go_num, .inr ⟨k, _, b, o, Hf.out, rfl, rfl, rfl⟩, HX.out, below_drewN HBr.out nq⟩
         case measure => simp [intOf]; omega
        | false =>
         have HX := Lib.hid (Hd.out.trans (payF_other hm hq))
         have Hq : Hid ((!frEq ⟨gk, gr, gs, gi, gl, gd, gp, ga, gt⟩ ⟨k0, r0, s0, i0, l0, d0, p0, a0, t0⟩) = true) := Lib.hid (by rw [hq]; rfl)
         clear hm hq
         go_upto_region 7 with fail
         refine wp_region_quiet_lit (by kernel_rfl) (by kernel_rfl) ?_
         repeat (go_big_quiet_step (fail))
         refine quiet_neqF_step (.tmp 61) (.tmp 64) rfl rfl _ _ rfl rfl Hq.out ?_
         try simp only [Act.put, List.setIfInBounds_toArray, List.set_cons_zero, List.set_cons_succ]
         repeat (go_big_quiet_step (fail))
         refine wpQuiet_nil ?_
         intro _ hw'
         obtain ⟨nq, hw''⟩ := hw'
         subst hw''
         go_wp2
         go_ret3
         exact ⟨congrArg Ending.returned HX.out.symm, HBz.out.trans ((below_drewN HBr.out nq).mono HBz.out.size)⟩
      ·have hm : payAt k0 s0 r0 ix ⟨k0, r0, s0, i0, l0, d0, p0, a0, t0⟩ = false := by unfold payAt; simp [q3]
       have qb : (i0 != ix) = true := by rw [bne_iff_ne]; exact q3
       have hX := payF_miss (o := st) (r := fs.drop (k + 1)) hm
       have HX := Lib.hid (Hd.out.trans hX)
       have Hp := Lib.hid hp
       clear hm hX hp
       go_wp2
       go_roundw
       case rel => exact ⟨k + 1, st, by omega, by go_num, Hp.out, HX.out, HBr.out⟩
       case measure => simp [intOf]; omega
     ·have hm : payAt k0 s0 rl ix ⟨k0, r0, s0, i0, l0, d0, p0, a0, t0⟩ = false := by unfold payAt; simp [q2]
      have qb : (r0 != rl) = true := by rw [bne_iff_ne]; exact q2
      have hX := payF_miss (o := st) (r := fs.drop (k + 1)) hm
      have HX := Lib.hid (Hd.out.trans hX)
      have Hp := Lib.hid hp
      clear hm hX hp
      go_wp2
      go_roundw
      case rel => exact ⟨k + 1, st, by omega, by go_num, Hp.out, HX.out, HBr.out⟩
      case measure => simp [intOf]; omega
    ·have hm : payAt k0 ss rl ix ⟨k0, r0, s0, i0, l0, d0, p0, a0, t0⟩ = false := by unfold payAt; simp [q1]
     have qb : (s0 != ss) = true := by rw [bne_iff_ne]; exact q1
     have hX := payF_miss (o := st) (r := fs.drop (k + 1)) hm
     have HX := Lib.hid (Hd.out.trans hX)
     have Hp := Lib.hid hp
     clear hm hX hp
     go_wp2
     go_roundw
     case rel => exact ⟨k + 1, st, by omega, by go_num, Hp.out, HX.out, HBr.out⟩
     case measure => simp [intOf]; omega
   ·have hm : payAt kd ss rl ix ⟨k0, r0, s0, i0, l0, d0, p0, a0, t0⟩ = false := by unfold payAt; simp [q0]
    have qb : (k0 != kd) = true := by rw [bne_iff_ne]; exact q0
    have hX := payF_miss (o := st) (r := fs.drop (k + 1)) hm
    have HX := Lib.hid (Hd.out.trans hX)
    have Hp := Lib.hid hp
    clear hm hX hp
    go_wp2
    go_roundw
    case rel => exact ⟨k + 1, st, by omega, by go_num, Hp.out, HX.out, HBr.out⟩
    case measure => simp [intOf]; omega
  ·obtain rfl : k = fs.length := by omega
   have hkI : ¬ (fs.length : Int) < fs.length := by omega
   have hr := Hr.out
   rw [List.drop_length] at hr
   rcases hp with ⟨rfl, rfl⟩ | ⟨j, g, b, o, hj, rfl, rfl, rfl⟩
   ·rw [payF] at hr
    have Hr2 := Lib.hid hr
    clear hr Hr
    go_wp2
    go_ret3
    exact ⟨congrArg Ending.returned Hr2.out.symm, HBz.out.trans (HBr.out.mono HBz.out.size)⟩
   ·obtain ⟨_, _, e9, _, _, h4⟩ := HV1.out.below HBr.out
    cases e9
    obtain ⟨_, _, e8, h5⟩ := h4 j g hj
    cases e8
    rw [payF] at hr
    obtain ⟨k0, r0, s0, i0, l0, d0, p0, a0, t0⟩ := g
    have c0 := h5 0 _ rfl
    have c1 := h5 1 _ rfl
    have c2 := h5 2 _ rfl
    have c3 := h5 3 _ rfl
    have c4 := h5 4 _ rfl
    have c5 := h5 5 _ rfl
    have c6 := h5 6 _ rfl
    have c7 := h5 7 _ rfl
    have c8 := h5 8 _ rfl
    dsimp only at c0 c1 c2 c3 c4 c5 c6 c7 c8
    rw [Nat.add_zero] at c0
    dsimp only at hr
    have Hr2 := Lib.hid hr
    clear h4 h5 hr Hr
    go_upto_region 13 with fail
    go_quiet (fail)
    go_wp2
    go_ret3
    exact ⟨congrArg Ending.returned Hr2.out.symm, HBz.out.trans ((below_drewN HBr.out nq).mono HBz.out.size)⟩

end Go.Proofs.YtnlnmfkmbpihhaaGreatDoor
