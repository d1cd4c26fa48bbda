/-
  Joined: MbD.
-/
import Derived.Test.YthkjphebhafgoaaGreatDoorMBn16
import Derived.Test.YthkjphebhafgoaaGreatDoorMBn19
import Derived.Test.YthkjphebhafgoaaGreatDoorMBn20
import Derived.Test.YthkjphebhafgoaaGreatDoorMBn21
set_option linter.all false
set_option maxRecDepth 100000
set_option maxHeartbeats 64000000
namespace Go.Proofs.YthkjphebhafgoaaGreatDoor
section
open Go.RowKit
def enE (e : Ent) : Int :=
 if e.k < 1 ∨ 6 < e.k then 10
 else if pathE (bs e.path) ≠ 0 then pathE (bs e.path)
 else if e.path.size = 0 ∧ e.k < 5 then 1
 else if attrsE e.attrs ≠ 0 then attrsE e.attrs
 else if (0 < e.attrs.length ∧ 3 < e.k) ∨ tgtB e = false then 1
 else contE e
theorem contE_0 {e : Ent} : contE e = 0 ↔ (0 ≤ e.size ∧ e.size ≤ 65536 ∧ (e.k ≠ 1 → e.size = 0)) ∧ ((e.k = 1 → e.dig.size = 32) ∧ (e.k ≠ 1 → e.dig.size = 0)) ∧ (0 < e.exts.length → e.k = 1) ∧ (∀ x ∈ e.exts, extB x = true) ∧ sumX e.exts = e.size := by
 unfold contE
 by_cases h1 : e.size < 0 ∨ 65536 < e.size ∨ (e.k ≠ 1 ∧ e.size ≠ 0)
 ·rw [if_pos h1]
  refine ⟨fun h => absurd h (by decide), fun h => ?_⟩
  exfalso
  rcases h1 with h1 | h1 | h1
  ·omega
  ·omega
  ·exact h1.2 (h.1.2.2 h1.1)
 ·rw [if_neg h1]
  have g1 : 0 ≤ e.size ∧ e.size ≤ 65536 ∧ (e.k ≠ 1 → e.size = 0) := ⟨by omega, by omega, fun h => Decidable.byContradiction fun q => h1 (.inr (.inr ⟨h, q⟩))⟩
  by_cases h2 : (e.k = 1 ∧ e.dig.size ≠ 32) ∨ (e.k ≠ 1 ∧ e.dig.size ≠ 0)
  ·rw [if_pos h2]
   refine ⟨fun h => absurd h (by decide), fun h => ?_⟩
   exfalso
   rcases h2 with h2 | h2
   ·exact h2.2 (h.2.1.1 h2.1)
   ·exact h2.2 (h.2.1.2 h2.1)
  ·rw [if_neg h2]
   have g2 : (e.k = 1 → e.dig.size = 32) ∧ (e.k ≠ 1 → e.dig.size = 0) := ⟨fun h => Decidable.byContradiction fun q => h2 (.inl ⟨h, q⟩), fun h => Decidable.byContradiction fun q => h2 (.inr ⟨h, q⟩)⟩
   by_cases h3 : e.k ≠ 1
   ·rw [if_pos h3]
    by_cases h4 : e.exts = []
    ·rw [if_pos h4]
     refine ⟨fun _ => ⟨g1, g2, ?_, ?_, ?_⟩, fun _ => rfl⟩
     ·rw [h4]; intro h; exact absurd h (by decide)
     ·rw [h4]; intro x hx; cases hx
     ·rw [h4, g1.2.2 h3]; rfl
    ·rw [if_neg h4]
     refine ⟨fun h => absurd h (by decide), fun h => ?_⟩
     exact absurd (h.2.2.1 (List.length_pos_iff.2 h4)) h3
   ·rw [if_neg h3]
    have hk : e.k = 1 := Decidable.byContradiction h3
    cases h5 : e.exts.all extB with
    | false =>
     rw [if_pos rfl]
     refine ⟨fun h => absurd h (by decide), fun h => ?_⟩
     rw [List.all_eq_true.2 h.2.2.2.1] at h5
     cases h5
    | true =>
     rw [if_neg (by decide)]
     by_cases h6 : sumX e.exts = e.size
     ·rw [if_pos h6]
      exact ⟨fun _ => ⟨g1, g2, fun _ => hk, List.all_eq_true.1 h5, h6⟩, fun _ => rfl⟩
     ·rw [if_neg h6]
      exact ⟨fun h => absurd h (by decide), fun h => absurd h.2.2.2.2 h6⟩
theorem enE_0 {e : Ent} : enE e = 0 ↔ EntOk e := by
 unfold enE
 by_cases h1 : e.k < 1 ∨ 6 < e.k
 ·rw [if_pos h1]
  exact ⟨fun h => absurd h (by decide), fun h => by have := h.kind; omega⟩
 rw [if_neg h1]
 by_cases h2 : pathE (bs e.path) ≠ 0
 ·rw [if_pos h2]
  exact ⟨fun h => absurd h h2, fun h => absurd h.path h2⟩
 rw [if_neg h2]
 have h2 : pathE (bs e.path) = 0 := Decidable.byContradiction h2
 by_cases h3 : e.path.size = 0 ∧ e.k < 5
 ·rw [if_pos h3]
  exact ⟨fun h => absurd h (by decide), fun h => by have := h.named h3.1; omega⟩
 rw [if_neg h3]
 by_cases h4 : attrsE e.attrs ≠ 0
 ·rw [if_pos h4]
  exact ⟨fun h => absurd h h4, fun h => absurd h.attrs h4⟩
 rw [if_neg h4]
 have h4 : attrsE e.attrs = 0 := Decidable.byContradiction h4
 by_cases h5 : (0 < e.attrs.length ∧ 3 < e.k) ∨ tgtB e = false
 ·rw [if_pos h5]
  refine ⟨fun h => absurd h (by decide), fun h => ?_⟩
  exfalso
  rcases h5 with h5 | h5
  ·have := h.bare h5.1; omega
  ·rw [h.tgt] at h5; cases h5
 rw [if_neg h5]
 have h6 : tgtB e = true := by
  cases q : tgtB e with
  | true => rfl
  | false => exact absurd (.inr q) h5
 rw [contE_0]
 exact ⟨fun h => ⟨by omega, h2, fun q => by omega, h4, fun q => Int.not_lt.1 fun r => h5 (.inl ⟨q, r⟩), h6, h.1, h.2.1, h.2.2⟩, fun h => ⟨h.size, h.dig, h.exts⟩⟩
theorem encheck_gen (w : World) (e : Ent) (va vx : Value) (hva : SeqAt atrS w va e.attrs) (hvx : SeqAt extS w vx e.exts) (hp : e.path.size ≤ 1000000) (ht : e.tgt.size ≤ 1000000) (hT : Tb w) : Calls Tryz.prog 80 #[entV e va vx] w fun r w' => r = .returned (.int .i64 (enE e)) ∧ Below w.heap.size w w' := by
 have HTg := Lib.hid (fun W (hW : Below w.heap.size w W) => entarget_gen W e va vx ht (hT.below hW))
 have HCo := Lib.hid (fun W (hW : Below w.heap.size w W) => encontent_gen W e va vx (hvx.below hW))
 have HAt := Lib.hid (fun W (hW : Below w.heap.size w W) => atcheck_gen W va e.attrs (hva.below hW))
 have HPa := Lib.hid (fun W (hW : Below w.heap.size w W) => pcheck_gen W e.path hp (hT.tab.below hW))
 obtain ⟨R, hR⟩ : ∃ R, enE e = R := ⟨_, rfl⟩
 rw [hR]
 rw [enE] at hR
 generalize contE e = C at *
 generalize tgtB e = T at *
 obtain ⟨k, path, attrs, t, size, dig, exts⟩ := e
 dsimp only at hva hvx hR HTg HCo HAt HPa
 generalize attrsE attrs = F at *
 generalize pathE (bs path) = G at *
 obtain ⟨Aa, ca, rfl, ha1, ha2⟩ := hva.slice
 obtain ⟨Ax, cx, rfl, hx1, hx2⟩ := hvx.slice
 clear hva hvx hT hp ht
 rw [entV] at HTg HCo ⊢
 dsimp only at HTg HCo ⊢
 have hK := Blk.new w 48 [.int .i64 k, .string path, .slice Aa attrs.length ca, .string t, .int .i64 size, .string dig, .slice Ax exts.length cx]
 change Blk (w.alloc (.cells #[.int .i64 k, .string path, .slice Aa attrs.length ca, .string t, .int .i64 size, .string dig, .slice Ax exts.length cx] 48)) _ _ _ at hK
 have HB0 := Lib.hid ((Below.refl w.heap.size w).alloc (Nat.le_refl _) (.cells #[.int .i64 k, .string path, .slice Aa attrs.length ca, .string t, .int .i64 size, .string dig, .slice Ax exts.length cx] 48))
 have HK := Lib.hid hK
 clear hK
 have HR := Lib.hid hR
 clear hR
 go_enter Tryz.func80, Tryz.ntmps80
 go_upto_region 1 with fail
 generalize w.alloc (.cells #[.int .i64 k, .string path, .slice Aa attrs.length ca, .string t, .int .i64 size, .string dig, .slice Ax exts.length cx] 48) = wb at *
 have c0 := HK.out.cell (i := 0) rfl
 have c1 := HK.out.cell (i := 1) rfl
 by_cases q1 : k < 1
 ·have hr : R = 10 := by rw [← HR.out, if_pos (.inl q1)]
  subst hr
  go_wp2_with fail
  go_ret
  exact ⟨rfl, HB0.out⟩
 by_cases q2 : 6 < k
 ·have hr : R = 10 := by rw [← HR.out, if_pos (.inr q2)]
  subst hr
  go_wp2_with fail
  go_ret
  exact ⟨rfl, HB0.out⟩
 have HR := Lib.hid ((if_neg (by omega : ¬ (k < 1 ∨ 6 < k))).symm.trans HR.out)
 go_wp2_with fail
 refine (HPa.out _ HB0.out).mono ?_
 rintro e2 w2 ⟨rfl, hb2⟩
 have HK2 := Lib.hid (HK.out.kept hb2)
 have HB2 := Lib.hid (HB0.out.trans (hb2.mono HB0.out.size))
 clear hb2 HK HB0 c0 c1
 have c0 := HK2.out.cell (i := 0) rfl
 have c1 := HK2.out.cell (i := 1) rfl
 by_cases g0 : G = 0
 ·subst g0
  have HR := Lib.hid ((if_neg (by decide : ¬ ((0 : Int) ≠ 0))).symm.trans HR.out)
  go_upto_region 6 with fail
  go_cut [31] (fun s wx => s = .bool (decide (path.size = 0 ∧ k < 5)) ∧ w2 = wx)
  case first =>
   by_cases h0 : path.size = 0
   ·have e0 : path.toList.isEmpty = true := by
     rw [show path = ⟨#[]⟩ by apply ByteArray.ext; exact Array.eq_empty_of_size_eq_zero h0]
     exact isEmptyV0
    by_cases h7 : k = 5
    ·have f1 : (k != 5) = false := by rw [h7]; rfl
     have HD : Hid (decide (path.size = 0 ∧ k < 5) = false) := Lib.hid (decide_eq_false (by omega))
     clear h7 h0
     go_wp2_with fail
     go_meet
     exact ⟨by rw [HD.out], rfl⟩
    ·have f1 : (k != 5) = true := by rw [bne, beq_eq_false_iff_ne.2 h7]; rfl
     by_cases h8 : k = 6
     ·have f2 : (k != 6) = false := by rw [h8]; rfl
      have HD : Hid (decide (path.size = 0 ∧ k < 5) = false) := Lib.hid (decide_eq_false (by omega))
      clear h7 h8 h0
      go_wp2_with fail
      go_meet
      exact ⟨by rw [HD.out], rfl⟩
     ·have f2 : (k != 6) = true := by rw [bne, beq_eq_false_iff_ne.2 h8]; rfl
      have HD : Hid (decide (path.size = 0 ∧ k < 5) = true) := Lib.hid (decide_eq_true (by omega))
      clear h7 h8 h0
      go_wp2_with fail
      go_meet
      exact ⟨by rw [HD.out], rfl⟩
   ·have e0 : path.toList.isEmpty = false := isEmptyV h0
    have HD : Hid (decide (path.size = 0 ∧ k < 5) = false) := Lib.hid (decide_eq_false (by omega))
    clear h0
    go_wp2_with fail
    go_meet
    exact ⟨by rw [HD.out], rfl⟩
  case rest =>
   obtain ⟨rfl, rfl⟩ := hcut
   by_cases p0 : path.size = 0 ∧ k < 5
   ·have hr : R = 1 := by rw [← HR.out, if_pos p0]
    subst hr
    rw [decide_eq_true p0]
    clear HR
    go_wp2_with fail
    go_ret
    exact ⟨rfl, HB2.out⟩
   ·have HR := Lib.hid ((if_neg p0).symm.trans HR.out)
    rw [decide_eq_false p0]
    have c2 := HK2.out.cell (i := 2) rfl
    go_wp2_with fail
    refine (HAt.out _ HB2.out).mono ?_
    rintro e3 w3 ⟨rfl, hb3⟩
    have HK3 := Lib.hid (HK2.out.kept hb3)
    have HB3 := Lib.hid (HB2.out.trans (hb3.mono HB2.out.size))
    clear hb3 HK2 HB2 c0 c1 c2
    by_cases a0 : F = 0
    ·subst a0
     have HR := Lib.hid ((if_neg (by decide : ¬ ((0 : Int) ≠ 0))).symm.trans HR.out)
     have c0 := HK3.out.cell (i := 0) rfl
     have c2 := HK3.out.cell (i := 2) rfl
     have c1 := HK3.out.cell (i := 1) rfl
     have c3 := HK3.out.cell (i := 3) rfl
     have c4 := HK3.out.cell (i := 4) rfl
     have c5 := HK3.out.cell (i := 5) rfl
     have c6 := HK3.out.cell (i := 6) rfl
     go_upto_region 11 with fail
     go_cut [51] (fun s wx => ∃ W, s = .bool (decide ((0 < attrs.length ∧ 3 < k) ∨ T = false)) ∧ W = wx ∧ Below w3.heap.size w3 W)
     case first =>
      by_cases z1 : 0 < attrs.length
      ·have f1 : (0 : Int) < attrs.length := by omega
       by_cases z2 : 3 < k
       ·have HD : Hid (decide ((0 < attrs.length ∧ 3 < k) ∨ T = false) = true) := Lib.hid (decide_eq_true (.inl ⟨z1, z2⟩))
        clear z1
        go_wp2_with fail
        go_meet
        exact ⟨_, by rw [HD.out], rfl, Below.refl _ _⟩
       ·have HD : Hid (decide ((0 < attrs.length ∧ 3 < k) ∨ T = false) = !T) := Lib.hid (by
         cases T
         ·exact decide_eq_true (.inr rfl)
         ·exact decide_eq_false (fun h => h.elim (fun h => z2 h.2) (fun h => by cases h)))
        clear z1
        go_wp2_with fail
        refine (HTg.out _ HB3.out).mono ?_
        rintro e4 w4 ⟨rfl, hb4⟩
        go_wp2_with fail
        go_meet
        exact ⟨_, by rw [HD.out], rfl, hb4⟩
      ·have f1 : ¬ (0 : Int) < attrs.length := by omega
       have HD : Hid (decide ((0 < attrs.length ∧ 3 < k) ∨ T = false) = !T) := Lib.hid (by
        cases T
        ·exact decide_eq_true (.inr rfl)
        ·exact decide_eq_false (fun h => h.elim (fun h => z1 h.1) (fun h => by cases h)))
       clear z1
       go_wp2_with fail
       refine (HTg.out _ HB3.out).mono ?_
       rintro e4 w4 ⟨rfl, hb4⟩
       go_wp2_with fail
       go_meet
       exact ⟨_, by rw [HD.out], rfl, hb4⟩
     case rest =>
      obtain ⟨w4, rfl, rfl, hb4⟩ := hcut
      have HK4 := Lib.hid (HK3.out.kept hb4)
      have HB4 := Lib.hid (HB3.out.trans (hb4.mono HB3.out.size))
      clear hb4 HK3 HB3 c0 c1 c2 c3 c4 c5 c6
      by_cases b0 : (0 < attrs.length ∧ 3 < k) ∨ T = false
      ·have hr : R = 1 := by rw [← HR.out, if_pos b0]
       subst hr
       rw [decide_eq_true b0]
       clear HR
       go_wp2_with fail
       go_ret
       exact ⟨rfl, HB4.out⟩
      ·obtain rfl : C = R := by rw [← HR.out, if_neg b0]
       rw [decide_eq_false b0]
       have c0 := HK4.out.cell (i := 0) rfl
       have c2 := HK4.out.cell (i := 2) rfl
       have c1 := HK4.out.cell (i := 1) rfl
       have c3 := HK4.out.cell (i := 3) rfl
       have c4 := HK4.out.cell (i := 4) rfl
       have c5 := HK4.out.cell (i := 5) rfl
       have c6 := HK4.out.cell (i := 6) rfl
       clear HR
       go_wp2_with fail
       refine (HCo.out _ HB4.out).mono ?_
       rintro e5 w5 ⟨rfl, hb5⟩
       have HB5 := Lib.hid (HB4.out.trans (hb5.mono HB4.out.size))
       clear hb5
       go_wp2_with fail
       go_ret
       exact ⟨rfl, HB5.out⟩
    ·obtain rfl : F = R := by rw [← HR.out, if_pos a0]
     have g1 : (F != 0) = true := by rw [bne, beq_eq_false_iff_ne.2 a0]; rfl
     clear HR
     go_wp2_with fail
     go_ret
     exact ⟨rfl, HB3.out⟩
 ·obtain rfl : G = R := by rw [← HR.out, if_pos g0]
  have g1 : (G != 0) = true := by rw [bne, beq_eq_false_iff_ne.2 g0]; rfl
  clear HR
  go_wp2_with fail
  go_ret
  exact ⟨rfl, HB2.out⟩
end
end Go.Proofs.YthkjphebhafgoaaGreatDoor
