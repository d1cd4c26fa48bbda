/-
  Joined: MbD MbE OpnM.
-/
import Derived.Test.YtbccghbngaiceaaGreatDoorMMn12
import Derived.Test.YtbccghbngaiceaaGreatDoorMMn14
import Derived.Test.YtbccghbngaiceaaGreatDoorMMn17
import Derived.Test.YtbccghbngaiceaaGreatDoorMMn18
set_option linter.all false
set_option maxRecDepth 100000
set_option maxHeartbeats 64000000
namespace Go.Proofs.YtbccghbngaiceaaGreatDoor
section
open Go.RowKit
def enE (e : Ent) : Int :=
 if e.k < 1 ∨ 6 < e.k then 10
 else if pathE (bs e.path) ≠ 0 then pathE (bs e.path)
 else if e.path.size = 0 ∧ e.k < 5 then 1
 else if attrsE e.attrs ≠ 0 then attrsE e.attrs
 else if (0 < e.attrs.length ∧ 3 < e.k) ∨ tgtB e = false then 1
 else contE e
theorem contE_0 {e : Ent} : contE e = 0 ↔ (0 ≤ e.size ∧ e.size ≤ 65536 ∧ (e.k ≠ 1 → e.size = 0)) ∧ ((e.k = 1 → e.dig.size = 32) ∧ (e.k ≠ 1 → e.dig.size = 0)) ∧ (0 < e.exts.length → e.k = 1) ∧ (∀ x ∈ e.exts, extB x = true) ∧ sumX e.exts = e.size := by
 unfold contE
 by_cases h1 : e.size < 0 ∨ 65536 < e.size ∨ (e.k ≠ 1 ∧ e.size ≠ 0)
 ·rw [if_pos h1]
  refine ⟨fun h => absurd h (by decide), fun h => ?_⟩
  exfalso
  rcases h1 with h1 | h1 | h1
  ·omega
  ·omega
  ·exact h1.2 (h.1.2.2 h1.1)
 ·rw [if_neg h1]
  have g1 : 0 ≤ e.size ∧ e.size ≤ 65536 ∧ (e.k ≠ 1 → e.size = 0) := ⟨by omega, by omega, fun h => Decidable.byContradiction fun q => h1 (.inr (.inr ⟨h, q⟩))⟩
  by_cases h2 : (e.k = 1 ∧ e.dig.size ≠ 32) ∨ (e.k ≠ 1 ∧ e.dig.size ≠ 0)
  ·rw [if_pos h2]
   refine ⟨fun h => absurd h (by decide), fun h => ?_⟩
   exfalso
   rcases h2 with h2 | h2
   ·exact h2.2 (h.2.1.1 h2.1)
   ·exact h2.2 (h.2.1.2 h2.1)
  ·rw [if_neg h2]
   have g2 : (e.k = 1 → e.dig.size = 32) ∧ (e.k ≠ 1 → e.dig.size = 0) := ⟨fun h => Decidable.byContradiction fun q => h2 (.inl ⟨h, q⟩), fun h => Decidable.byContradiction fun q => h2 (.inr ⟨h, q⟩)⟩
   by_cases h3 : e.k ≠ 1
   ·rw [if_pos h3]
    by_cases h4 : e.exts = []
    ·rw [if_pos h4]
     refine ⟨fun _ => ⟨g1, g2, ?_, ?_, ?_⟩, fun _ => rfl⟩
     ·rw [h4]; intro h; exact absurd h (by decide)
     ·rw [h4]; intro x hx; cases hx
     ·rw [h4, g1.2.2 h3]; rfl
    ·rw [if_neg h4]
     refine ⟨fun h => absurd h (by decide), fun h => ?_⟩
     exact absurd (h.2.2.1 (List.length_pos_iff.2 h4)) h3
   ·rw [if_neg h3]
    have hk : e.k = 1 := Decidable.byContradiction h3
    cases h5 : e.exts.all extB with
    | false =>
     rw [if_pos rfl]
     refine ⟨fun h => absurd h (by decide), fun h => ?_⟩
     rw [List.all_eq_true.2 h.2.2.2.1] at h5
     cases h5
    | true =>
     rw [if_neg (by decide)]
     by_cases h6 : sumX e.exts = e.size
     ·rw [if_pos h6]
      exact ⟨fun _ => ⟨g1, g2, fun _ => hk, List.all_eq_true.1 h5, h6⟩, fun _ => rfl⟩
     ·rw [if_neg h6]
      exact ⟨fun h => absurd h (by decide), fun h => absurd h.2.2.2.2 h6⟩
theorem enE_0 {e : Ent} : enE e = 0 ↔ EntOk e := by
 unfold enE
 by_cases h1 : e.k < 1 ∨ 6 < e.k
 ·rw [if_pos h1]
  exact ⟨fun h => absurd h (by decide), fun h => by have := h.kind; omega⟩
 rw [if_neg h1]
 by_cases h2 : pathE (bs e.path) ≠ 0
 ·rw [if_pos h2]
  exact ⟨fun h => absurd h h2, fun h => absurd h.path h2⟩
 rw [if_neg h2]
 have h2 : pathE (bs e.path) = 0 := Decidable.byContradiction h2
 by_cases h3 : e.path.size = 0 ∧ e.k < 5
 ·rw [if_pos h3]
  exact ⟨fun h => absurd h (by decide), fun h => by have := h.named h3.1; omega⟩
 rw [if_neg h3]
 by_cases h4 : attrsE e.attrs ≠ 0
 ·rw [if_pos h4]
  exact ⟨fun h => absurd h h4, fun h => absurd h.attrs h4⟩
 rw [if_neg h4]
 have h4 : attrsE e.attrs = 0 := Decidable.byContradiction h4
 by_cases h5 : (0 < e.attrs.length ∧ 3 < e.k) ∨ tgtB e = false
 ·rw [if_pos h5]
  refine ⟨fun h => absurd h (by decide), fun h => ?_⟩
  exfalso
  rcases h5 with h5 | h5
  ·have := h.bare h5.1; omega
  ·rw [h.tgt] at h5; cases h5
 rw [if_neg h5]
 have h6 : tgtB e = true := by
  cases q : tgtB e with
  | true => rfl
  | false => exact absurd (.inr q) h5
 rw [contE_0]
 exact ⟨fun h => ⟨by omega, h2, fun q => by omega, h4, fun q => Int.not_lt.1 fun r => h5 (.inl ⟨q, r⟩), h6, h.1, h.2.1, h.2.2⟩, fun h => ⟨h.size, h.dig, h.exts⟩⟩
theorem encheck_gen (w : World) (e : Ent) (va vx : Value) (hva : SeqAt atrS w va e.attrs) (hvx : SeqAt extS w vx e.exts) (hp : e.path.size ≤ 1000000) (ht : e.tgt.size ≤ 1000000) (hT : Tb w) : Calls Tryz.prog 92 #[entV e va vx] w fun r w' => r = .returned (.int .i64 (enE e)) ∧ Below w.heap.size w w' := by
 have HTg := Lib.hid (fun W (hW : Below w.heap.size w W) => entarget_gen W e va vx ht (hT.below hW))
 have HCo := Lib.hid (fun W (hW : Below w.heap.size w W) => encontent_gen W e va vx (hvx.below hW))
 have HAt := Lib.hid (fun W (hW : Below w.heap.size w W) => atcheck_gen W va e.attrs (hva.below hW))
 have HPa := Lib.hid (fun W (hW : Below w.heap.size w W) => pcheck_gen W e.path hp (hT.tab.below hW))
 obtain ⟨R, hR⟩ : ∃ R, enE e = R := ⟨_, rfl⟩
 rw [hR]
 rw [enE] at hR
 generalize contE e = C at *
 generalize tgtB e = T at *
 obtain ⟨k, path, attrs, t, size, dig, exts⟩ := e
 dsimp only at hva hvx hR HTg HCo HAt HPa
 generalize attrsE attrs = F at *
 generalize pathE (bs path) = G at *
 obtain ⟨Aa, ca, rfl, ha1, ha2⟩ := hva.slice
 obtain ⟨Ax, cx, rfl, hx1, hx2⟩ := hvx.slice
 clear hva hvx hT hp ht
 rw [entV] at HTg HCo ⊢
 dsimp only at HTg HCo ⊢
 have hK := Blk.new w 48 [.int .i64 k, .string path, .slice Aa attrs.length ca, .string t, .int .i64 size, .string dig, .slice Ax exts.length cx]
 change Blk (w.alloc (.cells #[.int .i64 k, .string path, .slice Aa attrs.length ca, .string t, .int .i64 size, .string dig, .slice Ax exts.length cx] 48)) _ _ _ at hK
 have HB0 := Lib.hid ((Below.refl w.heap.size w).alloc (Nat.le_refl _) (.cells #[.int .i64 k, .string path, .slice Aa attrs.length ca, .string t, .int .i64 size, .string dig, .slice Ax exts.length cx] 48))
 have HK := Lib.hid hK
 clear hK
 have HR := Lib.hid hR
 clear hR
 go_enter Tryz.func92, Tryz.ntmps92
 go_upto_region 1 with fail
 generalize w.alloc (.cells #[.int .i64 k, .string path, .slice Aa attrs.length ca, .string t, .int .i64 size, .string dig, .slice Ax exts.length cx] 48) = wb at *
 have c0 := HK.out.cell (i := 0) rfl
 have c1 := HK.out.cell (i := 1) rfl
 by_cases q1 : k < 1
 ·have hr : R = 10 := by rw [← HR.out, if_pos (.inl q1)]
  subst hr
  go_wp2_with fail
  go_ret
  exact ⟨rfl, HB0.out⟩
 by_cases q2 : 6 < k
 ·have hr : R = 10 := by rw [← HR.out, if_pos (.inr q2)]
  subst hr
  go_wp2_with fail
  go_ret
  exact ⟨rfl, HB0.out⟩
 have HR := Lib.hid ((if_neg (by omega : ¬ (k < 1 ∨ 6 < k))).symm.trans HR.out)
 go_wp2_with fail
 refine (HPa.out _ HB0.out).mono ?_
 rintro e2 w2 ⟨rfl, hb2⟩
 have HK2 := Lib.hid (HK.out.kept hb2)
 have HB2 := Lib.hid (HB0.out.trans (hb2.mono HB0.out.size))
 clear hb2 HK HB0 c0 c1
 have c0 := HK2.out.cell (i := 0) rfl
 have c1 := HK2.out.cell (i := 1) rfl
 by_cases g0 : G = 0
 ·subst g0
  have HR := Lib.hid ((if_neg (by decide : ¬ ((0 : Int) ≠ 0))).symm.trans HR.out)
  go_upto_region 6 with fail
  go_cut [31] (fun s wx => s = .bool (decide (path.size = 0 ∧ k < 5)) ∧ w2 = wx)
  case first =>
   by_cases h0 : path.size = 0
   ·have e0 : path.toList.isEmpty = true := by
     rw [show path = ⟨#[]⟩ by apply ByteArray.ext; exact Array.eq_empty_of_size_eq_zero h0]
     exact isEmptyV0
    by_cases h7 : k = 5
    ·have f1 : (k != 5) = false := by rw [h7]; rfl
     have HD : Hid (decide (path.size = 0 ∧ k < 5) = false) := Lib.hid (decide_eq_false (by omega))
     clear h7 h0
     go_wp2_with fail
     go_meet
     exact ⟨by rw [HD.out], rfl⟩
    ·have f1 : (k != 5) = true := by rw [bne, beq_eq_false_iff_ne.2 h7]; rfl
     by_cases h8 : k = 6
     ·have f2 : (k != 6) = false := by rw [h8]; rfl
      have HD : Hid (decide (path.size = 0 ∧ k < 5) = false) := Lib.hid (decide_eq_false (by omega))
      clear h7 h8 h0
      go_wp2_with fail
      go_meet
      exact ⟨by rw [HD.out], rfl⟩
     ·have f2 : (k != 6) = true := by rw [bne, beq_eq_false_iff_ne.2 h8]; rfl
      have HD : Hid (decide (path.size = 0 ∧ k < 5) = true) := Lib.hid (decide_eq_true (by omega))
      clear h7 h8 h0
      go_wp2_with fail
      go_meet
      exact ⟨by rw [HD.out], rfl⟩
   ·have e0 : path.toList.isEmpty = false := isEmptyV h0
    have HD : Hid (decide (path.size = 0 ∧ k < 5) = false) := Lib.hid (decide_eq_false (by omega))
    clear h0
    go_wp2_with fail
    go_meet
    exact ⟨by rw [HD.out], rfl⟩
  case rest =>
   obtain ⟨rfl, rfl⟩ := hcut
   by_cases p0 : path.size = 0 ∧ k < 5
   ·have hr : R = 1 := by rw [← HR.out, if_pos p0]
    subst hr
    rw [decide_eq_true p0]
    clear HR
    go_wp2_with fail
    go_ret
    exact ⟨rfl, HB2.out⟩
   ·have HR := Lib.hid ((if_neg p0).symm.trans HR.out)
    rw [decide_eq_false p0]
    have c2 := HK2.out.cell (i := 2) rfl
    go_wp2_with fail
    refine (HAt.out _ HB2.out).mono ?_
    rintro e3 w3 ⟨rfl, hb3⟩
    have HK3 := Lib.hid (HK2.out.kept hb3)
    have HB3 := Lib.hid (HB2.out.trans (hb3.mono HB2.out.size))
    clear hb3 HK2 HB2 c0 c1 c2
    by_cases a0 : F = 0
    ·subst a0
     have HR := Lib.hid ((if_neg (by decide : ¬ ((0 : Int) ≠ 0))).symm.trans HR.out)
     have c0 := HK3.out.cell (i := 0) rfl
     have c2 := HK3.out.cell (i := 2) rfl
     have c1 := HK3.out.cell (i := 1) rfl
     have c3 := HK3.out.cell (i := 3) rfl
     have c4 := HK3.out.cell (i := 4) rfl
     have c5 := HK3.out.cell (i := 5) rfl
     have c6 := HK3.out.cell (i := 6) rfl
     go_upto_region 11 with fail
     go_cut [51] (fun s wx => ∃ W, s = .bool (decide ((0 < attrs.length ∧ 3 < k) ∨ T = false)) ∧ W = wx ∧ Below w3.heap.size w3 W)
     case first =>
      by_cases z1 : 0 < attrs.length
      ·have f1 : (0 : Int) < attrs.length := by omega
       by_cases z2 : 3 < k
       ·have HD : Hid (decide ((0 < attrs.length ∧ 3 < k) ∨ T = false) = true) := Lib.hid (decide_eq_true (.inl ⟨z1, z2⟩))
        clear z1
        go_wp2_with fail
        go_meet
        exact ⟨_, by rw [HD.out], rfl, Below.refl _ _⟩
       ·have HD : Hid (decide ((0 < attrs.length ∧ 3 < k) ∨ T = false) = !T) := Lib.hid (by
         cases T
         ·exact decide_eq_true (.inr rfl)
         ·exact decide_eq_false (fun h => h.elim (fun h => z2 h.2) (fun h => by cases h)))
        clear z1
        go_wp2_with fail
        refine (HTg.out _ HB3.out).mono ?_
        rintro e4 w4 ⟨rfl, hb4⟩
        go_wp2_with fail
        go_meet
        exact ⟨_, by rw [HD.out], rfl, hb4⟩
      ·have f1 : ¬ (0 : Int) < attrs.length := by omega
       have HD : Hid (decide ((0 < attrs.length ∧ 3 < k) ∨ T = false) = !T) := Lib.hid (by
        cases T
        ·exact decide_eq_true (.inr rfl)
        ·exact decide_eq_false (fun h => h.elim (fun h => z1 h.1) (fun h => by cases h)))
       clear z1
       go_wp2_with fail
       refine (HTg.out _ HB3.out).mono ?_
       rintro e4 w4 ⟨rfl, hb4⟩
       go_wp2_with fail
       go_meet
       exact ⟨_, by rw [HD.out], rfl, hb4⟩
     case rest =>
      obtain ⟨w4, rfl, rfl, hb4⟩ := hcut
      have HK4 := Lib.hid (HK3.out.kept hb4)
      have HB4 := Lib.hid (HB3.out.trans (hb4.mono HB3.out.size))
      clear hb4 HK3 HB3 c0 c1 c2 c3 c4 c5 c6
      by_cases b0 : (0 < attrs.length ∧ 3 < k) ∨ T = false
      ·have hr : R = 1 := by rw [← HR.out, if_pos b0]
       subst hr
       rw [decide_eq_true b0]
       clear HR
       go_wp2_with fail
       go_ret
       exact ⟨rfl, HB4.out⟩
      ·obtain rfl : C = R := by rw [← HR.out, if_neg b0]
       rw [decide_eq_false b0]
       have c0 := HK4.out.cell (i := 0) rfl
       have c2 := HK4.out.cell (i := 2) rfl
       have c1 := HK4.out.cell (i := 1) rfl
       have c3 := HK4.out.cell (i := 3) rfl
       have c4 := HK4.out.cell (i := 4) rfl
       have c5 := HK4.out.cell (i := 5) rfl
       have c6 := HK4.out.cell (i := 6) rfl
       clear HR
       go_wp2_with fail
       refine (HCo.out _ HB4.out).mono ?_
       rintro e5 w5 ⟨rfl, hb5⟩
       have HB5 := Lib.hid (HB4.out.trans (hb5.mono HB4.out.size))
       clear hb5
       go_wp2_with fail
       go_ret
       exact ⟨rfl, HB5.out⟩
    ·obtain rfl : F = R := by rw [← HR.out, if_pos a0]
     have g1 : (F != 0) = true := by rw [bne, beq_eq_false_iff_ne.2 a0]; rfl
     clear HR
     go_wp2_with fail
     go_ret
     exact ⟨rfl, HB3.out⟩
 ·obtain rfl : G = R := by rw [← HR.out, if_pos g0]
  have g1 : (G != 0) = true := by rw [bne, beq_eq_false_iff_ne.2 g0]; rfl
  clear HR
  go_wp2_with fail
  go_ret
  exact ⟨rfl, HB2.out⟩
theorem enhead_no (w : World) (e : Ent) (va vx : Value) (hva : SeqAt atrS w va e.attrs) (hvx : SeqAt extS w vx e.exts) (hp : e.path.size ≤ 1000000) (ht : e.tgt.size ≤ 1000000) (hT : Tb w) (h : enE e ≠ 0) : Calls Tryz.prog 50 #[entV e va vx] w fun r w' => r = .returned (.tuple #[.string ⟨#[]⟩, .int .i64 (enE e)]) ∧ Below w.heap.size w w' := by
 have HCk := Lib.hid (fun W (hW : Below w.heap.size w W) => encheck_gen W e va vx (hva.below hW) (hvx.below hW) hp ht (hT.below hW))
 obtain ⟨C, hC⟩ : ∃ C, enE e = C := ⟨_, rfl⟩
 rw [hC] at HCk h ⊢
 have g1 : (C != 0) = true := by rw [bne, beq_eq_false_iff_ne.2 h]; rfl
 obtain ⟨k, path, attrs, t, size, dig, exts⟩ := e
 dsimp only at hva hvx
 obtain ⟨Aa, ca, rfl, ha1, ha2⟩ := hva.slice
 obtain ⟨Ax, cx, rfl, hx1, hx2⟩ := hvx.slice
 clear hva hvx hT hp ht hC h
 rw [entV] at HCk ⊢
 dsimp only at HCk ⊢
 have hK := Blk.new w 48 [.int .i64 k, .string path, .slice Aa attrs.length ca, .string t, .int .i64 size, .string dig, .slice Ax exts.length cx]
 change Blk (w.alloc (.cells #[.int .i64 k, .string path, .slice Aa attrs.length ca, .string t, .int .i64 size, .string dig, .slice Ax exts.length cx] 48)) _ _ _ at hK
 have HB0 := Lib.hid ((Below.refl w.heap.size w).alloc (Nat.le_refl _) (.cells #[.int .i64 k, .string path, .slice Aa attrs.length ca, .string t, .int .i64 size, .string dig, .slice Ax exts.length cx] 48))
 have HK := Lib.hid hK
 clear hK
 go_enter Tryz.func50, Tryz.ntmps50
 go_upto_region 1 with fail
 generalize w.alloc (.cells #[.int .i64 k, .string path, .slice Aa attrs.length ca, .string t, .int .i64 size, .string dig, .slice Ax exts.length cx] 48) = wb at *
 have c0 := HK.out.cell (i := 0) rfl
 have c1 := HK.out.cell (i := 1) rfl
 have c2 := HK.out.cell (i := 2) rfl
 have c3 := HK.out.cell (i := 3) rfl
 have c4 := HK.out.cell (i := 4) rfl
 have c5 := HK.out.cell (i := 5) rfl
 have c6 := HK.out.cell (i := 6) rfl
 go_wp2_with fail
 refine (HCk.out _ HB0.out).mono ?_
 rintro e1 w1 ⟨rfl, hb1⟩
 have HB1 := Lib.hid (HB0.out.trans (hb1.mono HB0.out.size))
 clear hb1 c0 c1 c2 c3 c4 c5 c6
 go_wp2_with fail
 go_ret2
 exact ⟨rfl, HB1.out⟩
theorem enencode_no (w : World) (e : Ent) (va vx : Value) (hva : SeqAt atrS w va e.attrs) (hvx : SeqAt extS w vx e.exts) (hp : e.path.size ≤ 1000000) (ht : e.tgt.size ≤ 1000000) (hT : Tb w) (h : enE e ≠ 0) : Calls Tryz.prog 96 #[entV e va vx] w fun r w' => r = .returned (.tuple #[.string ⟨#[]⟩, .int .i64 (enE e)]) ∧ Below w.heap.size w w' := by
 have HHd := Lib.hid (fun W (hW : Below w.heap.size w W) => enhead_no W e va vx (hva.below hW) (hvx.below hW) hp ht (hT.below hW) h)
 obtain ⟨C, hC⟩ : ∃ C, enE e = C := ⟨_, rfl⟩
 rw [hC] at HHd h ⊢
 have g1 : (C != 0) = true := by rw [bne, beq_eq_false_iff_ne.2 h]; rfl
 obtain ⟨k, path, attrs, t, size, dig, exts⟩ := e
 dsimp only at hva hvx
 obtain ⟨Aa, ca, rfl, ha1, ha2⟩ := hva.slice
 obtain ⟨Ax, cx, rfl, hx1, hx2⟩ := hvx.slice
 clear hva hvx hT hp ht hC h
 rw [entV] at HHd ⊢
 dsimp only at HHd ⊢
 have hK := Blk.new w 48 [.int .i64 k, .string path, .slice Aa attrs.length ca, .string t, .int .i64 size, .string dig, .slice Ax exts.length cx]
 change Blk (w.alloc (.cells #[.int .i64 k, .string path, .slice Aa attrs.length ca, .string t, .int .i64 size, .string dig, .slice Ax exts.length cx] 48)) _ _ _ at hK
 have HB0 := Lib.hid ((Below.refl w.heap.size w).alloc (Nat.le_refl _) (.cells #[.int .i64 k, .string path, .slice Aa attrs.length ca, .string t, .int .i64 size, .string dig, .slice Ax exts.length cx] 48))
 have HK := Lib.hid hK
 clear hK
 go_enter Tryz.func96, Tryz.ntmps96
 go_upto_region 1 with fail
 generalize w.alloc (.cells #[.int .i64 k, .string path, .slice Aa attrs.length ca, .string t, .int .i64 size, .string dig, .slice Ax exts.length cx] 48) = wb at *
 have c0 := HK.out.cell (i := 0) rfl
 have c1 := HK.out.cell (i := 1) rfl
 have c2 := HK.out.cell (i := 2) rfl
 have c3 := HK.out.cell (i := 3) rfl
 have c4 := HK.out.cell (i := 4) rfl
 have c5 := HK.out.cell (i := 5) rfl
 have c6 := HK.out.cell (i := 6) rfl
 go_wp2_with fail
 refine (HHd.out _ HB0.out).mono ?_
 rintro e1 w1 ⟨rfl, hb1⟩
 have HB1 := Lib.hid (HB0.out.trans (hb1.mono HB0.out.size))
 clear hb1 c0 c1 c2 c3 c4 c5 c6
 go_wp2_with fail
 go_ret2
 exact ⟨rfl, HB1.out⟩
end
section
open Go.ChangeShapes Go.WideShapes Go.ChangeAt Go.RowKit Go.Deep
theorem cellsExt : Tryz.prog.cellsOf 80 = 3 := by kernel_rfl
theorem cellsExts : Tryz.prog.cellsOf 46 = 1 := by kernel_rfl
theorem cellsEnt : Tryz.prog.cellsOf 48 = 7 := by kernel_rfl
theorem cellsEnts : Tryz.prog.cellsOf 41 = 1 := by kernel_rfl
theorem cellsSes : Tryz.prog.cellsOf 43 = 6 := by kernel_rfl
theorem cellsSess : Tryz.prog.cellsOf 22 = 1 := by kernel_rfl
theorem cellsArch : Tryz.prog.cellsOf 29 = 4 := by kernel_rfl
instance : Inhabited Ext := ⟨⟨0, 0, 0⟩⟩
instance : Inhabited Ent := ⟨⟨0, ⟨#[]⟩, [], ⟨#[]⟩, 0, ⟨#[]⟩, []⟩⟩
instance : Inhabited Ses := ⟨⟨0, 0, ⟨#[]⟩, [], ⟨#[]⟩, ⟨#[]⟩⟩⟩
theorem list3M {α : Type} {l : List α} (h : l.length = 3) : ∃ c0 c1 c2, l = [c0, c1, c2] := by
 match l, h with
 | [c0, c1, c2], _ => exact ⟨c0, c1, c2, rfl⟩
theorem list4M {α : Type} {l : List α} (h : l.length = 4) : ∃ c0 c1 c2 c3, l = [c0, c1, c2, c3] := by
 match l, h with
 | [c0, c1, c2, c3], _ => exact ⟨c0, c1, c2, c3, rfl⟩
theorem list6M {α : Type} {l : List α} (h : l.length = 6) : ∃ c0 c1 c2 c3 c4 c5, l = [c0, c1, c2, c3, c4, c5] := by
 match l, h with
 | [c0, c1, c2, c3, c4, c5], _ => exact ⟨c0, c1, c2, c3, c4, c5, rfl⟩
theorem list7M {α : Type} {l : List α} (h : l.length = 7) : ∃ c0 c1 c2 c3 c4 c5 c6, l = [c0, c1, c2, c3, c4, c5, c6] := by
 match l, h with
 | [c0, c1, c2, c3, c4, c5, c6], _ => exact ⟨c0, c1, c2, c3, c4, c5, c6, rfl⟩
section
variable {H : Type} {enc : TypeId × Value → H} {w : World}
theorem cell_int {fuel : Nat} {c : Value} {y : DataW H × List MemPlace} (h : DataW.trod enc Tryz.prog w 0 (fun _ => true) true fuel 3 [c] = some y) : ∃ k : Int, c = .int .i64 k := by
 obtain ⟨k, e, _, _⟩ := DataW.trod_int Tryz.underlying3 h
 exact ⟨k, by simpa [Value.cells] using e⟩
theorem cell_str {fuel : Nat} {c : Value} {y : DataW H × List MemPlace} (h : DataW.trod enc Tryz.prog w 0 (fun _ => true) true fuel 9 [c] = some y) : ∃ k, c = .string k := by
 obtain ⟨k, e, _, _⟩ := DataW.trod_string Tryz.underlying9 h
 exact ⟨k, by simpa [Value.cells] using e⟩
theorem ext_cells {fuel : Nat} {cs : List Value} {y : DataW H × List MemPlace} (hl : cs.length = 3) (hf : DataW.trod enc Tryz.prog w 0 (fun _ => true) true fuel 80 cs = some y) : ∃ x : Ext, extS.R w cs x := by
 obtain ⟨c0, c1, c2, rfl⟩ := list3M hl
 obtain ⟨xs, n, _, _, _, hlen, hfs⟩ := DataW.trod_struct Tryz.underlying80 hf
 obtain ⟨y0, y1, y2, rfl⟩ := list3M (l := xs) hlen
 have f0 : DataW.trod enc Tryz.prog w 0 (fun _ => true) true n 3 (([c0, c1, c2].drop 0).take (Tryz.prog.cellsOf 3)) = some y0 := hfs 0 _ rfl
 have f1 : DataW.trod enc Tryz.prog w 0 (fun _ => true) true n 3 (([c0, c1, c2].drop 1).take (Tryz.prog.cellsOf 3)) = some y1 := hfs 1 _ rfl
 have f2 : DataW.trod enc Tryz.prog w 0 (fun _ => true) true n 3 (([c0, c1, c2].drop 2).take (Tryz.prog.cellsOf 3)) = some y2 := hfs 2 _ rfl
 rw [cellsI] at f0 f1 f2
 obtain ⟨k0, rfl⟩ := cell_int (c := c0) f0
 obtain ⟨k1, rfl⟩ := cell_int (c := c1) f1
 obtain ⟨k2, rfl⟩ := cell_int (c := c2) f2
 exact ⟨⟨k0, k1, k2⟩, rfl⟩
theorem ent_cells {fuel : Nat} {cs : List Value} {y : DataW H × List MemPlace} (hl : cs.length = 7) (hf : DataW.trod enc Tryz.prog w 0 (fun _ => true) true fuel 48 cs = some y) : ∃ x : Ent, entS.R w cs x := by
 obtain ⟨c0, c1, c2, c3, c4, c5, c6, rfl⟩ := list7M hl
 obtain ⟨xs, n, _, _, _, hlen, hfs⟩ := DataW.trod_struct Tryz.underlying48 hf
 obtain ⟨y0, y1, y2, y3, y4, y5, y6, rfl⟩ := list7M (l := xs) hlen
 have f0 : DataW.trod enc Tryz.prog w 0 (fun _ => true) true n 3 (([c0, c1, c2, c3, c4, c5, c6].drop 0).take (Tryz.prog.cellsOf 3)) = some y0 := hfs 0 _ rfl
 have f1 : DataW.trod enc Tryz.prog w 0 (fun _ => true) true n 9 (([c0, c1, c2, c3, c4, c5, c6].drop 1).take (Tryz.prog.cellsOf 9)) = some y1 := hfs 1 _ rfl
 have f2 : DataW.trod enc Tryz.prog w 0 (fun _ => true) true n 45 (([c0, c1, c2, c3, c4, c5, c6].drop 2).take (Tryz.prog.cellsOf 45)) = some y2 := hfs 2 _ rfl
 have f3 : DataW.trod enc Tryz.prog w 0 (fun _ => true) true n 9 (([c0, c1, c2, c3, c4, c5, c6].drop 3).take (Tryz.prog.cellsOf 9)) = some y3 := hfs 3 _ rfl
 have f4 : DataW.trod enc Tryz.prog w 0 (fun _ => true) true n 3 (([c0, c1, c2, c3, c4, c5, c6].drop 4).take (Tryz.prog.cellsOf 3)) = some y4 := hfs 4 _ rfl
 have f5 : DataW.trod enc Tryz.prog w 0 (fun _ => true) true n 9 (([c0, c1, c2, c3, c4, c5, c6].drop 5).take (Tryz.prog.cellsOf 9)) = some y5 := hfs 5 _ rfl
 have f6 : DataW.trod enc Tryz.prog w 0 (fun _ => true) true n 46 (([c0, c1, c2, c3, c4, c5, c6].drop 6).take (Tryz.prog.cellsOf 46)) = some y6 := hfs 6 _ rfl
 rw [cellsI] at f0 f4
 rw [cellsS] at f1 f3 f5
 rw [cellsAtrs] at f2
 rw [cellsExts] at f6
 obtain ⟨k0, rfl⟩ := cell_int (c := c0) f0
 obtain ⟨k1, rfl⟩ := cell_str (c := c1) f1
 obtain ⟨al, h2⟩ := seq_of (ρ := atrS) (c := c2) Tryz.underlying45 cellsAtr (by decide) atr_cells f2
 obtain ⟨k3, rfl⟩ := cell_str (c := c3) f3
 obtain ⟨k4, rfl⟩ := cell_int (c := c4) f4
 obtain ⟨k5, rfl⟩ := cell_str (c := c5) f5
 obtain ⟨xl, h6⟩ := seq_of (ρ := extS) (c := c6) Tryz.underlying46 cellsExt (by decide) ext_cells f6
 exact ⟨⟨k0, k1, al, k3, k4, k5, xl⟩, c2, c6, rfl, h2, h6⟩
theorem ses_cells {fuel : Nat} {cs : List Value} {y : DataW H × List MemPlace} (hl : cs.length = 6) (hf : DataW.trod enc Tryz.prog w 0 (fun _ => true) true fuel 43 cs = some y) : ∃ x : Ses, sesS.R w cs x := by
 obtain ⟨c0, c1, c2, c3, c4, c5, rfl⟩ := list6M hl
 obtain ⟨xs, n, _, _, _, hlen, hfs⟩ := DataW.trod_struct Tryz.underlying43 hf
 obtain ⟨y0, y1, y2, y3, y4, y5, rfl⟩ := list6M (l := xs) hlen
 have f0 : DataW.trod enc Tryz.prog w 0 (fun _ => true) true n 3 (([c0, c1, c2, c3, c4, c5].drop 0).take (Tryz.prog.cellsOf 3)) = some y0 := hfs 0 _ rfl
 have f1 : DataW.trod enc Tryz.prog w 0 (fun _ => true) true n 3 (([c0, c1, c2, c3, c4, c5].drop 1).take (Tryz.prog.cellsOf 3)) = some y1 := hfs 1 _ rfl
 have f2 : DataW.trod enc Tryz.prog w 0 (fun _ => true) true n 9 (([c0, c1, c2, c3, c4, c5].drop 2).take (Tryz.prog.cellsOf 9)) = some y2 := hfs 2 _ rfl
 have f3 : DataW.trod enc Tryz.prog w 0 (fun _ => true) true n 41 (([c0, c1, c2, c3, c4, c5].drop 3).take (Tryz.prog.cellsOf 41)) = some y3 := hfs 3 _ rfl
 have f4 : DataW.trod enc Tryz.prog w 0 (fun _ => true) true n 9 (([c0, c1, c2, c3, c4, c5].drop 4).take (Tryz.prog.cellsOf 9)) = some y4 := hfs 4 _ rfl
 have f5 : DataW.trod enc Tryz.prog w 0 (fun _ => true) true n 9 (([c0, c1, c2, c3, c4, c5].drop 5).take (Tryz.prog.cellsOf 9)) = some y5 := hfs 5 _ rfl
 rw [cellsI] at f0 f1
 rw [cellsS] at f2 f4 f5
 rw [cellsEnts] at f3
 obtain ⟨k0, rfl⟩ := cell_int (c := c0) f0
 obtain ⟨k1, rfl⟩ := cell_int (c := c1) f1
 obtain ⟨k2, rfl⟩ := cell_str (c := c2) f2
 obtain ⟨el, h3⟩ := seq_of (ρ := entS) (c := c3) Tryz.underlying41 cellsEnt (by decide) ent_cells f3
 obtain ⟨k4, rfl⟩ := cell_str (c := c4) f4
 obtain ⟨k5, rfl⟩ := cell_str (c := c5) f5
 exact ⟨⟨k0, k1, k2, el, k4, k5⟩, c3, rfl, h3⟩
theorem open_arch {v : Value} {d : DataW H} {p : List MemPlace} {b0 : Nat} (hval : Value.okWide Tryz.prog w .any b0 29 v) (hd : DataW.Trod enc Tryz.prog w 0 (fun _ => true) true 29 v d p) :
  ∃ (a x y : Int) (u : Value) (l : List Ses), v = .agg #[.int .u32 a, .int .i64 x, .int .i64 y, u] ∧ SeqAt sesS w u l := by
 obtain ⟨⟨cs⟩, rfl, hsz⟩ := okWide_struct Tryz.underlying29 hval
 rw [cellsArch] at hsz
 obtain ⟨c0, c1, c2, c3, rfl⟩ := list4M hsz
 obtain ⟨fuel, hf⟩ := hd
 replace hf : DataW.trod enc Tryz.prog w 0 (fun _ => true) true fuel 29 [c0, c1, c2, c3] = some (d, p) := hf
 obtain ⟨xs, n, _, _, _, hlen, hfs⟩ := DataW.trod_struct Tryz.underlying29 hf
 obtain ⟨y0, y1, y2, rfl⟩ := list3M (l := xs) hlen
 have f0 : DataW.trod enc Tryz.prog w 0 (fun _ => true) true n 23 (([c0, c1, c2, c3].drop 0).take (Tryz.prog.cellsOf 23)) = some y0 := hfs 0 _ rfl
 have f1 : DataW.trod enc Tryz.prog w 0 (fun _ => true) true n 25 (([c0, c1, c2, c3].drop 1).take (Tryz.prog.cellsOf 25)) = some y1 := hfs 1 _ rfl
 have f2 : DataW.trod enc Tryz.prog w 0 (fun _ => true) true n 22 (([c0, c1, c2, c3].drop 3).take (Tryz.prog.cellsOf 22)) = some y2 := hfs 2 _ rfl
 rw [cellsU32] at f0
 rw [cellsL] at f1
 rw [cellsSess] at f2
 replace f0 : DataW.trod enc Tryz.prog w 0 (fun _ => true) true n 23 [c0] = some y0 := f0
 replace f1 : DataW.trod enc Tryz.prog w 0 (fun _ => true) true n 25 [c1, c2] = some y1 := f1
 obtain ⟨k0, e0, _, _⟩ := DataW.trod_int Tryz.underlying23 f0
 obtain rfl : c0 = .int .u32 k0 := by simpa [Value.cells] using e0
 obtain ⟨z0, z1, m, _, _, g0, g1⟩ := trod_struct2 Tryz.underlying25 f1
 replace g0 : DataW.trod enc Tryz.prog w 0 (fun _ => true) true m 3 (([c1, c2].drop 0).take (Tryz.prog.cellsOf 3)) = some z0 := g0
 replace g1 : DataW.trod enc Tryz.prog w 0 (fun _ => true) true m 3 (([c1, c2].drop 1).take (Tryz.prog.cellsOf 3)) = some z1 := g1
 rw [cellsI] at g0 g1
 obtain ⟨k1, rfl⟩ := cell_int (c := c1) g0
 obtain ⟨k2, rfl⟩ := cell_int (c := c2) g1
 obtain ⟨l, h3⟩ := seq_of (ρ := sesS) (c := c3) Tryz.underlying22 cellsSes (by decide) ses_cells f2
 exact ⟨k0, k1, k2, c3, l, rfl, h3⟩
end
theorem err_of {W : World} {L : List (String × DataW Unit)} {n nm : String} {D : DataW Unit} {g : Nat} (hL : laidMetH Tryz.prog L W) (hk : (L.filter fun x => x.1 == n) = [(n, .iface nm D)]) (hp : (DataW.iface nm D).handleName?.isNone = true)
  (hg : Tryz.prog.globalNamed n = some g) (ht : (Tryz.prog.globals[g]?).map (·.type) = some 114) : ∃ tp p, W.var? Tryz.prog n = some #[.iface tp p] := by
 have h1 := hL.filter fun x => x.1 == n
 rw [hk, MakeChecks.laidMetH_plain _ _ _ (by simp [hp])] at h1
 obtain ⟨ps, ⟨g', t, cs, fuel, p, q, hg', ht', hv, hd, _⟩, _⟩ := h1
 obtain rfl := Option.some.inj (hg.symm.trans hg')
 obtain rfl := Option.some.inj (ht.symm.trans ht')
 obtain ⟨f1, u, v, e, _⟩ := iface_of_trod Tryz.underlying114 hd
 obtain ⟨cs⟩ := cs
 have e : cs = [.iface u v] := e
 subst e
 exact ⟨u, v, hv⟩
theorem tb_of {W : World} {L : List (String × DataW Unit)} {n1 n2 : String} {D1 D2 : DataW Unit} (hL : laidMetH Tryz.prog L W) (hk : (L.filter fun x => x.1 == "internal/strconv.uint64pow10") = [("internal/strconv.uint64pow10", Lib.tabData .u64 Lib.pow10Tab)])
  (h1 : (L.filter fun x => x.1 == "strconv.ErrSyntax") = [("strconv.ErrSyntax", .iface n1 D1)]) (p1 : (DataW.iface n1 D1).handleName?.isNone = true)
  (h2 : (L.filter fun x => x.1 == "strconv.ErrRange") = [("strconv.ErrRange", .iface n2 D2)]) (p2 : (DataW.iface n2 D2).handleName?.isNone = true) (hsh : W.ShapedOpen Tryz.prog) : Tb W :=
 ⟨tab_of hL hk hsh, err_of (g := 2) hL h1 p1 (by kernel_rfl) (by kernel_rfl), err_of (g := 3) hL h2 p2 (by kernel_rfl) (by kernel_rfl)⟩
end
end Go.Proofs.YtbccghbngaiceaaGreatDoor
