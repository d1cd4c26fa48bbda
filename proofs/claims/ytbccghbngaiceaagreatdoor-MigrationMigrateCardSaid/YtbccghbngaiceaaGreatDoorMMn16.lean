/-
  Joined: VqA.
-/
import Derived.Test.YtbccghbngaiceaaGreatDoorMMn07
import Derived.Test.YtbccghbngaiceaaGreatDoorMMn13
set_option linter.all false
set_option maxRecDepth 100000
set_option maxHeartbeats 64000000
namespace Go.Proofs.YtbccghbngaiceaaGreatDoor
section
open Go.RowKit
theorem mix4_eq {V : List Int} (hV : V.length = 16) {a b c d : Nat} (ha : a < 16) (hb : b < 16) (hc : c < 16) (hd : d < 16) (hab : a ≠ b) (hac : a ≠ c) (had : a ≠ d) (hbc : b ≠ c) (hbd : b ≠ d) (hcd : c ≠ d) {x y a1 d1 c1 b1 a2 d2 c2 b2 : Int}
  (e1 : ((getW V a + getW V b) % 4294967296 + x) % 4294967296 = a1) (e2 : rotI (bits .xor .u32 (getW V d) a1) 65536 65536 = d1) (e3 : (getW V c + d1) % 4294967296 = c1) (e4 : rotI (bits .xor .u32 (getW V b) c1) 4096 1048576 = b1)
  (e5 : ((a1 + b1) % 4294967296 + y) % 4294967296 = a2) (e6 : rotI (bits .xor .u32 d1 a2) 256 16777216 = d2) (e7 : (c1 + d2) % 4294967296 = c2) (e8 : rotI (bits .xor .u32 b1 c2) 128 33554432 = b2) :
  mixW V a b c d x y = (((V.set a a2).set b b2).set c c2).set d d2 := by
 have l1 : (V.set a a1).length = 16 := by simpa using hV
 have l2 : ((V.set a a1).set d d1).length = 16 := by simpa using hV
 have l3 : (((V.set a a1).set d d1).set c c1).length = 16 := by simpa using hV
 have l4 : ((((V.set a a1).set d d1).set c c1).set b b1).length = 16 := by simpa using hV
 have l5 : (((((V.set a a1).set d d1).set c c1).set b b1).set a a2).length = 16 := by simpa using hV
 have l6 : ((((((V.set a a1).set d d1).set c c1).set b b1).set a a2).set d d2).length = 16 := by simpa using hV
 have l7 : (((((((V.set a a1).set d d1).set c c1).set b b1).set a a2).set d d2).set c c2).length = 16 := by simpa using hV
 have g := fun (U : List Int) (hU : U.length = 16) (i j : Nat) (z : Int) (hi : i < 16) => getW_set (V := U) (i := i) (j := j) (z := z) (by omega)
 rw [mixW_eq (V1 := V.set a a1) (V2 := (V.set a a1).set d d1) (V3 := ((V.set a a1).set d d1).set c c1) (V4 := (((V.set a a1).set d d1).set c c1).set b b1) (V5 := ((((V.set a a1).set d d1).set c c1).set b b1).set a a2) (V6 := (((((V.set a a1).set d d1).set c c1).set b b1).set a a2).set d d2)
  (V7 := ((((((V.set a a1).set d d1).set c c1).set b b1).set a a2).set d d2).set c c2) (V8 := (((((((V.set a a1).set d d1).set c c1).set b b1).set a a2).set d d2).set c c2).set b b2)]
 ·refine ext_getW (by simp) fun i hi => ?_
  simp only [List.length_set, hV] at hi
  have k1 : (V.set a a2).length = 16 := by simpa using hV
  have k2 : ((V.set a a2).set b b2).length = 16 := by simpa using hV
  have k3 : (((V.set a a2).set b b2).set c c2).length = 16 := by simpa using hV
  rw [g _ l7 b i _ hb, g _ l6 c i _ hc, g _ l5 d i _ hd, g _ l4 a i _ ha, g _ l3 b i _ hb, g _ l2 c i _ hc, g _ l1 d i _ hd, g _ hV a i _ ha, g _ k3 d i _ hd, g _ k2 c i _ hc, g _ k1 b i _ hb, g _ hV a i _ ha]
  by_cases h1 : a = i
  ·subst h1
   rw [if_neg hab.symm, if_neg hac.symm, if_neg had.symm, if_pos rfl, if_neg had.symm, if_neg hac.symm, if_neg hab.symm, if_pos rfl]
  ·by_cases h2 : b = i
   ·subst h2
    rw [if_pos rfl, if_neg hbd.symm, if_neg hbc.symm, if_pos rfl]
   ·by_cases h3 : c = i
    ·subst h3
     rw [if_neg hbc, if_pos rfl, if_neg hcd.symm, if_pos rfl]
    ·by_cases h4 : d = i
     ·subst h4
      rw [if_neg hbd, if_neg hcd, if_pos rfl, if_pos rfl]
     ·rw [if_neg h2, if_neg h3, if_neg h4, if_neg h1, if_neg h2, if_neg h3, if_neg h4, if_neg h1, if_neg h4, if_neg h3, if_neg h2, if_neg h1]
 ·rw [e1]
 ·rw [g _ hV a d _ ha, if_neg had, g _ hV a a _ ha, if_pos rfl, e2]
 ·rw [g _ l1 d c _ hd, if_neg hcd.symm, g _ hV a c _ ha, if_neg hac, g _ l1 d d _ hd, if_pos rfl, e3]
 ·rw [g _ l2 c b _ hc, if_neg hbc.symm, g _ l1 d b _ hd, if_neg hbd.symm, g _ hV a b _ ha, if_neg hab, g _ l2 c c _ hc, if_pos rfl, e4]
 ·rw [g _ l3 b a _ hb, if_neg hab.symm, g _ l2 c a _ hc, if_neg hac.symm, g _ l1 d a _ hd, if_neg had.symm, g _ hV a a _ ha, if_pos rfl, g _ l3 b b _ hb, if_pos rfl, e5]
 ·rw [g _ l4 a d _ ha, if_neg had, g _ l3 b d _ hb, if_neg hbd, g _ l2 c d _ hc, if_neg hcd, g _ l1 d d _ hd, if_pos rfl, g _ l4 a a _ ha, if_pos rfl, e6]
 ·rw [g _ l5 d c _ hd, if_neg hcd.symm, g _ l4 a c _ ha, if_neg hac, g _ l3 b c _ hb, if_neg hbc, g _ l2 c c _ hc, if_pos rfl, g _ l5 d d _ hd, if_pos rfl, e7]
 ·rw [g _ l6 c b _ hc, if_neg hbc.symm, g _ l5 d b _ hd, if_neg hbd.symm, g _ l4 a b _ ha, if_neg hab, g _ l3 b b _ hb, if_pos rfl, g _ l6 c c _ hc, if_pos rfl, e8]
theorem rotl_any (w : World) (x : Int) {k a b : Int} (h : (k, a, b) = (-16, 65536, 65536) ∨ (k, a, b) = (-12, 4096, 1048576) ∨ (k, a, b) = (-8, 256, 16777216) ∨ (k, a, b) = (-7, 128, 33554432)) : Calls Tryz.prog 275 #[.int .u32 x, .int .i64 k] w fun e w' => e = .returned (.int .u32 (rotI x a b)) ∧ w = w' := by
 simp only [Prod.mk.injEq] at h
 unfold rotI
 rw [or_comm32]
 have b1 : bits .and .u64 (IntKind.u64.wrap (-16)) 31 = 16 := by decide
 have b2 : bits .and .u64 (IntKind.u64.wrap (-12)) 31 = 20 := by decide
 have b3 : bits .and .u64 (IntKind.u64.wrap (-8)) 31 = 24 := by decide
 have b4 : bits .and .u64 (IntKind.u64.wrap (-7)) 31 = 25 := by decide
 rcases h with ⟨rfl, rfl, rfl⟩ | ⟨rfl, rfl, rfl⟩ | ⟨rfl, rfl, rfl⟩ | ⟨rfl, rfl, rfl⟩
 all_goals
  go_enter Tryz.func275, Tryz.ntmps275
  go_wp2
  go_ret
  exact ⟨rfl, rfl⟩
theorem bmix_any (w : World) (g : Nat) (V : List Int) (hV : V.length = 16) (hB : Blk w g 251 (V.map u32V)) (a b c d : Nat) (ha : a < 16) (hb : b < 16) (hc : c < 16) (hd : d < 16) (hab : a ≠ b) (hac : a ≠ c) (had : a ≠ d) (hbc : b ≠ c) (hbd : b ≠ d) (hcd : c ≠ d) (x y : Int) :
  Calls Tryz.prog 183 #[.pointer (some ⟨g, 0, none⟩), .agg #[.int .i64 (a : Int), .int .i64 (b : Int), .int .i64 (c : Int), .int .i64 (d : Int)], .int .u32 x, .int .u32 y] w fun e w' => (∃ v, e = .returned v) ∧ Blk w' g 251 ((mixW V a b c d x y).map u32V) ∧ w.grownBy w' (some g) := by
 have HRo := Lib.hid (fun (W : World) (z k a b : Int) h => rotl_any W z (k := k) (a := a) (b := b) h)
 obtain ⟨a1, e1⟩ : ∃ z, ((getW V a + getW V b) % 4294967296 + x) % 4294967296 = z := ⟨_, rfl⟩
 obtain ⟨d1, e2⟩ : ∃ z, rotI (bits .xor .u32 (getW V d) a1) 65536 65536 = z := ⟨_, rfl⟩
 obtain ⟨c1, e3⟩ : ∃ z, (getW V c + d1) % 4294967296 = z := ⟨_, rfl⟩
 obtain ⟨b1, e4⟩ : ∃ z, rotI (bits .xor .u32 (getW V b) c1) 4096 1048576 = z := ⟨_, rfl⟩
 obtain ⟨a2, e5⟩ : ∃ z, ((a1 + b1) % 4294967296 + y) % 4294967296 = z := ⟨_, rfl⟩
 obtain ⟨d2, e6⟩ : ∃ z, rotI (bits .xor .u32 d1 a2) 256 16777216 = z := ⟨_, rfl⟩
 obtain ⟨c2, e7⟩ : ∃ z, (c1 + d2) % 4294967296 = z := ⟨_, rfl⟩
 obtain ⟨b2, e8⟩ : ∃ z, rotI (bits .xor .u32 b1 c2) 128 33554432 = z := ⟨_, rfl⟩
 rw [mix4_eq hV ha hb hc hd hab hac had hbc hbd hcd e1 e2 e3 e4 e5 e6 e7 e8]
 have E2 := Lib.hid e2
 have E4 := Lib.hid e4
 have E6 := Lib.hid e6
 have E8 := Lib.hid e8
 have w1 : (getW V a + (getW V b + x)) % 4294967296 = a1 := by omega
 have w5 : (a1 + (b1 + y)) % 4294967296 = a2 := by omega
 have haI : (a : Int) < 16 := by omega
 have hbI : (b : Int) < 16 := by omega
 have hcI : (c : Int) < 16 := by omega
 have hdI : (d : Int) < 16 := by omega
 have hQ := Blk.new w 255 [.int .i64 (a : Int), .int .i64 (b : Int), .int .i64 (c : Int), .int .i64 (d : Int)]
 change Blk (w.alloc (.cells #[.int .i64 (a : Int), .int .i64 (b : Int), .int .i64 (c : Int), .int .i64 (d : Int)] 255)) _ _ _ at hQ
 have HQ := Lib.hid hQ
 have HG := Lib.hid (grownBy_below (r := some g) ((Below.refl w.heap.size w).alloc (Nat.le_refl _) (.cells #[.int .i64 (a : Int), .int .i64 (b : Int), .int .i64 (c : Int), .int .i64 (d : Int)] 255)))
 have HNe : Hid (w.heap.size ≠ g) := Lib.hid (by have := hB.lt; omega)
 have HV := Lib.hid (hB.alloc (.cells #[.int .i64 (a : Int), .int .i64 (b : Int), .int .i64 (c : Int), .int .i64 (d : Int)] 255))
 have HLn := Lib.hid hV
 clear hQ hB hV e1 e2 e4 e5 e6 e8 hab hac had hbc hbd hcd
 go_enter Tryz.func183, Tryz.ntmps183
 go_upto_region 1 with fail
 generalize w.alloc (.cells #[.int .i64 (a : Int), .int .i64 (b : Int), .int .i64 (c : Int), .int .i64 (d : Int)] 255) = wa at *
 have q0 := HQ.out.cell (i := 0) rfl
 have q1 := HQ.out.cell (i := 1) rfl
 have q2 := HQ.out.cell (i := 2) rfl
 have q3 := HQ.out.cell (i := 3) rfl
 have ca := HV.out.word (i := a) (by rw [HLn.out]; exact ha)
 have cb := HV.out.word (i := b) (by rw [HLn.out]; exact hb)
 have cc := HV.out.word (i := c) (by rw [HLn.out]; exact hc)
 have cd := HV.out.word (i := d) (by rw [HLn.out]; exact hd)
 go_quiet (fail)
 have HBn := Lib.hid (zBd (Below.refl wa.heap.size wa) nq)
 generalize wa.drewN nq = wn at *
 have HV := Lib.hid (HV.out.kept HBn.out)
 have HQ := Lib.hid (HQ.out.kept HBn.out)
 have HG := Lib.hid (grownBy_trans HG.out (grownBy_below HBn.out))
 clear q0 q1 q2 q3 ca cb cc cd HBn
 go_wp2_with fail
 refine (HRo.out wn _ (-16) 65536 65536 (.inl rfl)).mono ?_
 rintro e1 w1 ⟨rfl, rfl⟩
 rw [E2.out]
 go_wp2_with fail
 refine (HRo.out wn _ (-12) 4096 1048576 (.inr (.inl rfl))).mono ?_
 rintro e1 w1 ⟨rfl, rfl⟩
 rw [E4.out]
 go_wp2_with fail
 refine (HRo.out wn _ (-8) 256 16777216 (.inr (.inr (.inl rfl)))).mono ?_
 rintro e1 w1 ⟨rfl, rfl⟩
 rw [E6.out]
 go_wp2_with fail
 refine (HRo.out wn _ (-7) 128 33554432 (.inr (.inr (.inr rfl)))).mono ?_
 rintro e1 w1 ⟨rfl, rfl⟩
 rw [E8.out]
 go_upto_region 10 with fail
 have HV := Lib.hid HV.out.drewW
 have HQ := Lib.hid HQ.out.drewW
 have HG := Lib.hid (grownBy_trans HG.out (grownBy_below (Below.refl _ wn).drew))
 refine wp_region_held_drew (S := (fun W => W.cell? ⟨w.heap.size, 0, none⟩ = some (.int .i64 (a : Int)) ∧ W.cell? ⟨w.heap.size, 1, none⟩ = some (.int .i64 (b : Int)) ∧ W.cell? ⟨w.heap.size, 2, none⟩ = some (.int .i64 (c : Int)) ∧ W.cell? ⟨w.heap.size, 3, none⟩ = some (.int .i64 (d : Int)))) (by kernel_rfl) ?_ (fun hHeld => ?_)
 ·exact ⟨HQ.out.cell (i := 0) rfl, HQ.out.cell (i := 1) rfl, HQ.out.cell (i := 2) rfl, HQ.out.cell (i := 3) rfl⟩
 refine tk 0 ?_
 refine tk 1 ?_
 refine tk 2 ?_
 refine tk 3 ?_
 refine tk 4 ?_
 refine tk 5 ?_
 refine tk 6 ?_
 refine tk 7 ?_
 refine tk 8 ?_
 refine tk 9 ?_
 refine tk 10 ?_
 refine tk 11 ?_
 refine tk 12 ?_
 refine tk 13 ?_
 refine tk 14 ?_
 refine tk 15 ?_
 refine tk 16 ?_
 refine tk 17 ?_
 refine tk 19 ?_
 refine tk 22 ?_
 refine tk 25 ?_
 refine wpAnyH_ready (rs := [18]) (by kernel_rfl) (by simp) ?_
 refine AllReadyH.cons (o := _) rfl (fun K hK => ?_) ?_
 ·obtain ⟨u0, cv0⟩ : ∃ u, wn.cell? ⟨g, a, none⟩ = some (.int .u32 u) := by
   have h := HV.out.word (i := a) (by first | (rw [HLn.out]; exact ha) | (simp only [List.length_set]; rw [HLn.out]; exact ha))
   exact ⟨_, h⟩
  have fv0 := HV.out.frozen a
  have fv : wn.frozen? ⟨g, a, none⟩ = false := fv0
  clear fv0
  go_simp
  have HV := Lib.hid (HV.out.store (i := a) (z := a2) (by first | (rw [HLn.out]; exact ha) | (simp only [List.length_set]; rw [HLn.out]; exact ha)))
  have HQ := Lib.hid (HQ.out.far (p := ⟨g, a, none⟩) HNe.out (.int .u32 a2))
  have HG := Lib.hid (grownBy_trans HG.out (grown_set _ g a (.int .u32 a2)))
  clear cv0 fv
  refine hko hK (by exact ⟨HQ.out.cell (i := 0) rfl, HQ.out.cell (i := 1) rfl, HQ.out.cell (i := 2) rfl, HQ.out.cell (i := 3) rfl⟩) (fun _ => ?_)
  clear hK K
  refine tk 20 ?_
  refine wpAnyH_ready (rs := [21]) (by kernel_rfl) (by simp) ?_
  refine AllReadyH.cons (o := _) rfl (fun K hK => ?_) ?_
  ·obtain ⟨u0, cv0⟩ : ∃ u, (wn.setCell ⟨g, a, none⟩ (.int .u32 a2)).cell? ⟨g, b, none⟩ = some (.int .u32 u) := by
    have h := HV.out.word (i := b) (by first | (rw [HLn.out]; exact hb) | (simp only [List.length_set]; rw [HLn.out]; exact hb))
    exact ⟨_, h⟩
   have fv0 := HV.out.frozen b
   have fv : (wn.setCell ⟨g, a, none⟩ (.int .u32 a2)).frozen? ⟨g, b, none⟩ = false := fv0
   clear fv0
   go_simp
   have HV := Lib.hid (HV.out.store (i := b) (z := b2) (by first | (rw [HLn.out]; exact hb) | (simp only [List.length_set]; rw [HLn.out]; exact hb)))
   have HQ := Lib.hid (HQ.out.far (p := ⟨g, b, none⟩) HNe.out (.int .u32 b2))
   have HG := Lib.hid (grownBy_trans HG.out (grown_set _ g b (.int .u32 b2)))
   clear cv0 fv
   refine hko hK (by exact ⟨HQ.out.cell (i := 0) rfl, HQ.out.cell (i := 1) rfl, HQ.out.cell (i := 2) rfl, HQ.out.cell (i := 3) rfl⟩) (fun _ => ?_)
   clear hK K
   refine tk 23 ?_
   refine wpAnyH_ready (rs := [24]) (by kernel_rfl) (by simp) ?_
   refine AllReadyH.cons (o := _) rfl (fun K hK => ?_) ?_
   ·obtain ⟨u0, cv0⟩ : ∃ u, ((wn.setCell ⟨g, a, none⟩ (.int .u32 a2)).setCell ⟨g, b, none⟩ (.int .u32 b2)).cell? ⟨g, c, none⟩ = some (.int .u32 u) := by
     have h := HV.out.word (i := c) (by first | (rw [HLn.out]; exact hc) | (simp only [List.length_set]; rw [HLn.out]; exact hc))
     exact ⟨_, h⟩
    have fv0 := HV.out.frozen c
    have fv : ((wn.setCell ⟨g, a, none⟩ (.int .u32 a2)).setCell ⟨g, b, none⟩ (.int .u32 b2)).frozen? ⟨g, c, none⟩ = false := fv0
    clear fv0
    go_simp
    have HV := Lib.hid (HV.out.store (i := c) (z := c2) (by first | (rw [HLn.out]; exact hc) | (simp only [List.length_set]; rw [HLn.out]; exact hc)))
    have HQ := Lib.hid (HQ.out.far (p := ⟨g, c, none⟩) HNe.out (.int .u32 c2))
    have HG := Lib.hid (grownBy_trans HG.out (grown_set _ g c (.int .u32 c2)))
    clear cv0 fv
    refine hko hK (by exact ⟨HQ.out.cell (i := 0) rfl, HQ.out.cell (i := 1) rfl, HQ.out.cell (i := 2) rfl, HQ.out.cell (i := 3) rfl⟩) (fun _ => ?_)
    clear hK K
    refine tk 26 ?_
    refine wpAnyH_ready (rs := [27]) (by kernel_rfl) (by simp) ?_
    refine AllReadyH.cons (o := _) rfl (fun K hK => ?_) ?_
    ·obtain ⟨u0, cv0⟩ : ∃ u, (((wn.setCell ⟨g, a, none⟩ (.int .u32 a2)).setCell ⟨g, b, none⟩ (.int .u32 b2)).setCell ⟨g, c, none⟩ (.int .u32 c2)).cell? ⟨g, d, none⟩ = some (.int .u32 u) := by
      have h := HV.out.word (i := d) (by first | (rw [HLn.out]; exact hd) | (simp only [List.length_set]; rw [HLn.out]; exact hd))
      exact ⟨_, h⟩
     have fv0 := HV.out.frozen d
     have fv : (((wn.setCell ⟨g, a, none⟩ (.int .u32 a2)).setCell ⟨g, b, none⟩ (.int .u32 b2)).setCell ⟨g, c, none⟩ (.int .u32 c2)).frozen? ⟨g, d, none⟩ = false := fv0
     clear fv0
     go_simp
     have HV := Lib.hid (HV.out.store (i := d) (z := d2) (by first | (rw [HLn.out]; exact hd) | (simp only [List.length_set]; rw [HLn.out]; exact hd)))
     have HQ := Lib.hid (HQ.out.far (p := ⟨g, d, none⟩) HNe.out (.int .u32 d2))
     have HG := Lib.hid (grownBy_trans HG.out (grown_set _ g d (.int .u32 d2)))
     clear cv0 fv
     refine hko hK (by exact ⟨HQ.out.cell (i := 0) rfl, HQ.out.cell (i := 1) rfl, HQ.out.cell (i := 2) rfl, HQ.out.cell (i := 3) rfl⟩) (fun _ => ?_)
     clear hK K
     refine wpAnyH_done (by kernel_rfl) ?_ _
     go_wp2_with fail
     go_end0
     exact ⟨⟨_, rfl⟩, HV.out, HG.out⟩
    exact AllReadyH.nil
   exact AllReadyH.nil
  exact AllReadyH.nil
 exact AllReadyH.nil
end
end Go.Proofs.YtbccghbngaiceaaGreatDoor
