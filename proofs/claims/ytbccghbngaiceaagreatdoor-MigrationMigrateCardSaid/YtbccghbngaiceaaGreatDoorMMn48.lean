/-
  Joined: MgH.
-/
import Derived.Test.YtbccghbngaiceaaGreatDoorMMn26
import Derived.Test.YtbccghbngaiceaaGreatDoorMMn40
import Derived.Test.YtbccghbngaiceaaGreatDoorMMn44
import Derived.Test.YtbccghbngaiceaaGreatDoorMMn47
set_option linter.all false
set_option maxRecDepth 100000
set_option maxHeartbeats 64000000
namespace Go.Proofs.YtbccghbngaiceaaGreatDoor
section
open Go.RowKit
theorem migE_of {a id d s : Int} {l : List Ses} {E : Int} (h : migE a id d s l = E) : (id = a → E = 8) ∧ (id ≠ a → (layE d s ≠ 0 → E = layE d s) ∧ (layE d s = 0 → E = histC l)) := by
 subst h
 unfold migE
 refine ⟨fun e => ?_, fun e => ⟨fun f => ?_, fun f => ?_⟩⟩
 ·have : (id == a) = true := by rw [e]; exact beq_self_eq_true a
  rw [this]
  simp [firstE]
 ·have : (id == a) = false := beq_eq_false_iff_ne.2 e
  rw [this]
  simp only [firstE, cond_false, if_true]
  rw [if_neg f]
 ·have : (id == a) = false := beq_eq_false_iff_ne.2 e
  rw [this]
  simp only [firstE, cond_false, if_true]
  rw [if_pos f]
  by_cases g : histC l = 0
  ·rw [if_pos g, g]
  ·rw [if_neg g]
theorem refmig_ex (w : World) (a d s id d2 s2 : Int) (v : Value) (l : List Ses) (hv : SeqAt sesS w v l) (hl : l.length ≤ 8) (hz : ∀ x ∈ l, SesG x) :
  Calls Tryz.prog 7 #[.agg #[.int .u32 a, .int .i64 d, .int .i64 s, v], .int .u32 id, .agg #[.int .i64 d2, .int .i64 s2]] w fun r w' =>
   (∃ u, r = .returned (.tuple #[u, .int .i64 (migE a id d2 s2 l)]) ∧ (migE a id d2 s2 l = 0 → u = .agg #[.int .u32 id, .int .i64 d2, .int .i64 s2, v]) ∧ (migE a id d2 s2 l ≠ 0 → u = .agg #[.int .u32 0, .int .i64 0, .int .i64 0, .slice none 0 0])) ∧ Below w.heap.size w w' := by
 have HV := Lib.hid hv
 obtain ⟨A, c, rfl, _, _⟩ := hv.slice
 obtain ⟨E, hE⟩ : ∃ E, migE a id d2 s2 l = E := ⟨_, rfl⟩
 rw [hE]
 have HE := Lib.hid (migE_of hE)
 have HCk := Lib.hid (fun (W : World) (hW : Below w.heap.size w W) => check41_ex W _ l (hv.below hW) hl hz)
 clear hE hv hz
 obtain ⟨W1, hW1⟩ : ∃ W1, w.alloc (.cells #[.int .u32 a, .int .i64 d, .int .i64 s, .slice A l.length c] 29) = W1 := ⟨_, rfl⟩
 obtain ⟨W2, hW2⟩ : ∃ W2, W1.alloc (.cells #[.int .i64 d2, .int .i64 s2] 25) = W2 := ⟨_, rfl⟩
 obtain ⟨W3, hW3⟩ : ∃ W3, W2.alloc (.cells #[.int .u32 0, .int .i64 0, .int .i64 0, .slice none 0 0] 29) = W3 := ⟨_, rfl⟩
 have hn1 : W1.heap.size = w.heap.size + 1 := by rw [← hW1]; simp
 have hn2 : W2.heap.size = w.heap.size + 1 + 1 := by rw [← hW2, World.size_alloc, hn1]
 have hA : Blk W1 w.heap.size 29 [.int .u32 a, .int .i64 d, .int .i64 s, .slice A l.length c] := hW1 ▸ Blk.new w _ _
 have hL : Blk W2 (w.heap.size + 1) 25 [.int .i64 d2, .int .i64 s2] := by rw [← hn1, ← hW2]; exact Blk.new W1 _ _
 have hR : Blk W3 (w.heap.size + 1 + 1) 29 [.int .u32 0, .int .i64 0, .int .i64 0, .slice none 0 0] := by rw [← hn2, ← hW3]; exact Blk.new W2 _ _
 have hb1 : Below w.heap.size w W1 := hW1 ▸ (Below.refl _ w).alloc (Nat.le_refl _) _
 have hb2 : Below W1.heap.size W1 W2 := hW2 ▸ (Below.refl _ W1).alloc (Nat.le_refl _) _
 have hb3 : Below W2.heap.size W2 W3 := hW3 ▸ (Below.refl _ W2).alloc (Nat.le_refl _) _
 have HA3 := Lib.hid ((hA.kept hb2).kept hb3)
 have HL3 := Lib.hid (hL.kept hb3)
 have HR3 := Lib.hid hR
 have HB3 := Lib.hid ((hb1.trans (hb2.mono hb1.size)).trans (hb3.mono (Nat.le_trans hb1.size hb2.size)))
 have hWW : ((w.alloc (.cells #[.int .u32 a, .int .i64 d, .int .i64 s, .slice A l.length c] 29)).alloc (.cells #[.int .i64 d2, .int .i64 s2] 25)).alloc (.cells #[.int .u32 0, .int .i64 0, .int .i64 0, .slice none 0 0] 29) = W3 := by rw [hW1, hW2, hW3]
 clear hA hL hR hb1 hb2 hb3 hW1 hW2 hW3 hn1 hn2
 go_enter Tryz.func7, Tryz.ntmps7
 go_upto_region 1 with fail
 clear hWW
 have a0 := HA3.out.cell (i := 0) rfl
 by_cases hid : id = a
 ·have g1 : (id == a) = true := by rw [hid]; exact beq_self_eq_true a
  have he : E = 8 := HE.out.1 hid
  subst he
  have hne : (8 : Int) ≠ 0 := by decide
  clear hid
  go_wp2_with (refine wpList_store_row rfl 29 (.tmp 6) (.tmp 14) rfl (w.heap.size + 1 + 1) #[.int .u32 0, .int .i64 0, .int .i64 0, .slice none 0 0] rfl rfl 29 _ HR3.out (by kernel_rfl) rfl (by simp [Value.oneCell']) ?_)
  refine bodyPost_ret (results_row_tmp rfl _ _ (w.heap.size + 1 + 1) 29 _ (0, 0) _ rfl (setRow_heap _ _ _ _ _ _ HR3.out) Tryz.underlying29 rfl (by kernel_rfl)) rfl ?_
  first | exact ⟨⟨_, rfl, fun h => absurd h hne, fun _ => rfl⟩, below_setRow HB3.out (by omega) _⟩ | exact ⟨⟨_, rfl, rfl⟩, below_setRow HB3.out (by omega) _⟩ | exact ⟨rfl, below_setRow HB3.out (by omega) _⟩
 have g1 : (id == a) = false := beq_eq_false_iff_ne.2 hid
 have HE := Lib.hid (HE.out.2 hid)
 have l0 := HL3.out.cell (i := 0) rfl
 have l1 := HL3.out.cell (i := 1) rfl
 clear hid
 go_wp2_with fail
 refine (check16_any W3 d2 s2).mono ?_
 rintro e4 w4 ⟨rfl, hb⟩
 have HA4 := Lib.hid (HA3.out.kept hb)
 have HL4 := Lib.hid (HL3.out.kept hb)
 have HR4 := Lib.hid (HR3.out.kept hb)
 have HB4 := Lib.hid (HB3.out.trans (hb.mono HB3.out.size))
 clear hb a0 l0 l1 g1 HA3 HL3 HR3 HB3
 generalize layE d2 s2 = F at *
 by_cases hf : F = 0
 rotate_left
 ·have g1 : (F != 0) = true := by rw [bne, beq_eq_false_iff_ne.2 hf]; rfl
  have he : E = F := HE.out.1 hf
  subst he
  have hne := hf
  clear hf
  go_wp2_with (refine wpList_store_row rfl 29 (.tmp 6) (.tmp 19) rfl (w.heap.size + 1 + 1) #[.int .u32 0, .int .i64 0, .int .i64 0, .slice none 0 0] rfl rfl 29 _ HR4.out (by kernel_rfl) rfl (by simp [Value.oneCell']) ?_)
  refine bodyPost_ret (results_row_tmp rfl _ _ (w.heap.size + 1 + 1) 29 _ (0, 0) _ rfl (setRow_heap _ _ _ _ _ _ HR4.out) Tryz.underlying29 rfl (by kernel_rfl)) rfl ?_
  first | exact ⟨⟨_, rfl, fun h => absurd h hne, fun _ => rfl⟩, below_setRow HB4.out (by omega) _⟩ | exact ⟨⟨_, rfl, rfl⟩, below_setRow HB4.out (by omega) _⟩ | exact ⟨rfl, below_setRow HB4.out (by omega) _⟩
 subst hf
 have HEc : Hid (E = histC l) := Lib.hid (by first | exact HE.out.2 rfl | exact HE.out.2 trivial)
 have a3 := HA4.out.cell (i := 3) rfl
 go_wp2_with fail
 refine (HCk.out _ HB4.out).mono ?_
 rintro e5 w5 ⟨rfl, hb⟩
 have HA5 := Lib.hid (HA4.out.kept hb)
 have HL5 := Lib.hid (HL4.out.kept hb)
 have HR5 := Lib.hid (HR4.out.kept hb)
 have HB5 := Lib.hid (HB4.out.trans (hb.mono HB4.out.size))
 clear hb a3 HA4 HL4 HR4 HB4
 have he : E = histC l := HEc.out
 rw [← he]
 clear HE HEc he
 by_cases hf : E = 0
 ·subst hf
  have a3 := HA5.out.cell (i := 3) rfl
  have l0 := HL5.out.cell (i := 0) rfl
  have l1 := HL5.out.cell (i := 1) rfl
  go_wp2_with (refine wpList_store_row rfl 29 (.tmp 6) (.tmp 32) rfl (w.heap.size + 1 + 1) #[.int .u32 id, .int .i64 d2, .int .i64 s2, .slice A l.length c] rfl rfl 29 _ HR5.out (by kernel_rfl) rfl (by simp [Value.oneCell']) ?_)
  refine bodyPost_ret (results_row_tmp rfl _ _ (w.heap.size + 1 + 1) 29 _ (0, 0) _ rfl (setRow_heap _ _ _ _ _ _ HR5.out) Tryz.underlying29 rfl (by kernel_rfl)) rfl ?_
  first | exact ⟨⟨_, rfl, fun _ => rfl, fun h => absurd rfl h⟩, below_setRow HB5.out (by omega) _⟩ | exact ⟨⟨_, rfl, rfl⟩, below_setRow HB5.out (by omega) _⟩ | exact ⟨rfl, below_setRow HB5.out (by omega) _⟩
 ·have g1 : (E != 0) = true := by rw [bne, beq_eq_false_iff_ne.2 hf]; rfl
  have hne := hf
  clear hf
  go_wp2_with (refine wpList_store_row rfl 29 (.tmp 6) (.tmp 26) rfl (w.heap.size + 1 + 1) #[.int .u32 0, .int .i64 0, .int .i64 0, .slice none 0 0] rfl rfl 29 _ HR5.out (by kernel_rfl) rfl (by simp [Value.oneCell']) ?_)
  refine bodyPost_ret (results_row_tmp rfl _ _ (w.heap.size + 1 + 1) 29 _ (0, 0) _ rfl (setRow_heap _ _ _ _ _ _ HR5.out) Tryz.underlying29 rfl (by kernel_rfl)) rfl ?_
  first | exact ⟨⟨_, rfl, fun h => absurd h hne, fun _ => rfl⟩, below_setRow HB5.out (by omega) _⟩ | exact ⟨⟨_, rfl, rfl⟩, below_setRow HB5.out (by omega) _⟩ | exact ⟨rfl, below_setRow HB5.out (by omega) _⟩
theorem lawmig_any (w : World) (v : Value) (l : List Ses) (hv : SeqAt sesS w v l) (a id d s : Int) (hT : Tb w) :
  Calls Tryz.prog 3 #[v, .int .u32 a, .int .u32 id, .agg #[.int .i64 d, .int .i64 s]] w fun r w' => r = .returned (.bool true) ∧ Below w.heap.size w w' := by
 have HU := Lib.hid hv
 obtain ⟨A, c, rfl, _, _⟩ := hv.slice
 have HT := Lib.hid hT
 have HB := Lib.hid ((Below.refl w.heap.size w).alloc (Nat.le_refl _) (.cells #[.int .i64 d, .int .i64 s] 25))
 have hL : Blk (w.alloc (.cells #[.int .i64 d, .int .i64 s] 25)) w.heap.size 25 [.int .i64 d, .int .i64 s] := Blk.new w _ _
 have HL := Lib.hid hL
 have HAl := Lib.hid (fun W => alive48_any W)
 clear hv hT hL
 go_enter Tryz.func3, Tryz.ntmps3
 go_upto_region 1 with fail
 generalize w.alloc (.cells #[.int .i64 d, .int .i64 s] 25) = wa at *
 go_wp2_with fail
 refine (HAl.out _).mono ?_
 rintro e1 w1 ⟨rfl, hb⟩
 have HL1 := Lib.hid (HL.out.kept hb)
 have HB1 := Lib.hid (HB.out.trans (hb.mono HB.out.size))
 clear hb HL HB HAl
 have HGr := Lib.hid (great41_ex w1 _ l (HU.out.below HB1.out))
 go_wp2_with fail
 refine HGr.out.mono ?_
 rintro e2 w2 ⟨⟨k, rfl, hk⟩, hb⟩
 have HL2 := Lib.hid (HL1.out.kept hb)
 have HB2 := Lib.hid (HB1.out.trans (hb.mono HB1.out.size))
 have Hk := Lib.hid hk
 clear hb hk HL1 HB1 HGr
 by_cases hgr : 0 < k
 ·go_wp2_with fail
  go_ret
  exact ⟨rfl, HB2.out⟩
 have HSm := Lib.hid (Hk.out (by omega))
 have HM := Lib.hid (fun (W : World) (hW : Below w.heap.size w W) => migrate_any W a d s id d s _ l (HU.out.below hW) (by have := HSm.out.1; omega) (fun x hx => (HSm.out.2 x hx).s) (HT.out.below hW))
 have HN := Lib.hid (fun (W : World) (hW : Below w.heap.size w W) => refmig_ex W a d s id d s _ l (HU.out.below hW) HSm.out.1 HSm.out.2)
 obtain ⟨E, hE⟩ : ∃ E, migE a id d s l = E := ⟨_, rfl⟩
 rw [hE] at HM HN
 have l0 := HL2.out.cell (i := 0) rfl
 have l1 := HL2.out.cell (i := 1) rfl
 have hK : Blk (w2.alloc (.cells #[.int .u32 a, .int .i64 d, .int .i64 s, .slice A l.length c] 29)) w2.heap.size 29 [.int .u32 a, .int .i64 d, .int .i64 s, .slice A l.length c] := Blk.new w2 _ _
 have hb9 := (Below.refl w2.heap.size w2).alloc (Nat.le_refl _) (.cells #[.int .u32 a, .int .i64 d, .int .i64 s, .slice A l.length c] 29)
 have HAx := Lib.hid hK
 have HLx := Lib.hid (HL2.out.kept hb9)
 have HBx := Lib.hid (HB2.out.trans (hb9.mono HB2.out.size))
 clear hK hb9 hE Hk HT
 go_upto_region 6 with fail
 clear l0 l1 HL2 HB2
 generalize w2.alloc (.cells #[.int .u32 a, .int .i64 d, .int .i64 s, .slice A l.length c] 29) = wx at *
 generalize w2.heap.size = gx at *
 have a0 := HAx.out.cell (i := 0) rfl
 have a1 := HAx.out.cell (i := 1) rfl
 have a2 := HAx.out.cell (i := 2) rfl
 have a3 := HAx.out.cell (i := 3) rfl
 have l0 := HLx.out.cell (i := 0) rfl
 have l1 := HLx.out.cell (i := 1) rfl
 go_wp2_with fail
 refine (HM.out _ HBx.out).mono ?_
 rintro e3 w3 ⟨⟨v3, rfl, hz, hnz⟩, hb⟩
 have HA3 := Lib.hid (HAx.out.kept hb)
 have HL3 := Lib.hid (HLx.out.kept hb)
 have HB3 := Lib.hid (HBx.out.trans (hb.mono HBx.out.size))
 clear hb a0 a1 a2 a3 l0 l1 HAx HLx HBx HM
 by_cases hE0 : E = 0
 ·subst hE0
  obtain rfl := hz rfl
  clear hz hnz
  have hb9 := (Below.refl w3.heap.size w3).alloc (Nat.le_refl _) (.cells #[.int .u32 id, .int .i64 d, .int .i64 s, .slice A l.length c] 29)
  have hK : Blk (w3.alloc (.cells #[.int .u32 id, .int .i64 d, .int .i64 s, .slice A l.length c] 29)) w3.heap.size 29 [.int .u32 id, .int .i64 d, .int .i64 s, .slice A l.length c] := Blk.new w3 _ _
  have HK4 := Lib.hid hK
  have HB4 := Lib.hid (HB3.out.trans (hb9.mono HB3.out.size))
  have HA4 := Lib.hid (HA3.out.kept hb9)
  have HL4 := Lib.hid (HL3.out.kept hb9)
  clear hb9 hK HB3 HA3 HL3
  go_upto_region 7 with fail
  generalize w3.alloc (.cells #[.int .u32 id, .int .i64 d, .int .i64 s, .slice A l.length c] 29) = w4 at *
  generalize w3.heap.size = g4 at *
  have a0 := HA4.out.cell (i := 0) rfl
  have a1 := HA4.out.cell (i := 1) rfl
  have a2 := HA4.out.cell (i := 2) rfl
  have a3 := HA4.out.cell (i := 3) rfl
  have l0 := HL4.out.cell (i := 0) rfl
  have l1 := HL4.out.cell (i := 1) rfl
  go_wp2_with fail
  refine (HN.out _ HB4.out).mono ?_
  rintro e5 w5 ⟨⟨v5, rfl, hz, hnz⟩, hb⟩
  have HK5 := Lib.hid (HK4.out.kept hb)
  have HB5 := Lib.hid (HB4.out.trans (hb.mono HB4.out.size))
  have hv : v5 = .agg #[.int .u32 id, .int .i64 d, .int .i64 s, .slice A l.length c] := by first | exact hz rfl | exact hz trivial
  subst hv
  clear hb a0 a1 a2 a3 l0 l1 hz hnz HA4 HL4 HK4 HB4
  have hb9 := (Below.refl w5.heap.size w5).alloc (Nat.le_refl _) (.cells #[.int .u32 id, .int .i64 d, .int .i64 s, .slice A l.length c] 29)
  have hK : Blk (w5.alloc (.cells #[.int .u32 id, .int .i64 d, .int .i64 s, .slice A l.length c] 29)) w5.heap.size 29 [.int .u32 id, .int .i64 d, .int .i64 s, .slice A l.length c] := Blk.new w5 _ _
  have HY6 := Lib.hid hK
  have HK6 := Lib.hid (HK5.out.kept hb9)
  have HB6 := Lib.hid (HB5.out.trans (hb9.mono HB5.out.size))
  clear hb9 hK HB5 HK5
  go_upto_region 8 with fail
  generalize w5.alloc (.cells #[.int .u32 id, .int .i64 d, .int .i64 s, .slice A l.length c] 29) = w6 at *
  generalize w5.heap.size = g6 at *
  have k0 := HK6.out.cell (i := 0) rfl
  have k1 := HK6.out.cell (i := 1) rfl
  have k2 := HK6.out.cell (i := 2) rfl
  have k3 := HK6.out.cell (i := 3) rfl
  have y0 := HY6.out.cell (i := 0) rfl
  have y1 := HY6.out.cell (i := 1) rfl
  have y2 := HY6.out.cell (i := 2) rfl
  have y3 := HY6.out.cell (i := 3) rfl
  have HS := Lib.hid (same46_any w6 _ l (HU.out.below HB6.out))
  go_wp2_with fail
  refine HS.out.mono ?_
  rintro e7 w7 ⟨rfl, hb⟩
  have HB7 := Lib.hid (HB6.out.trans (hb.mono HB6.out.size))
  clear hb k0 k1 k2 k3 y0 y1 y2 y3
  go_wp2_with fail
  go_ret
  exact ⟨rfl, HB7.out⟩
 ·obtain rfl := hnz hE0
  clear hz hnz
  have hb9 := (Below.refl w3.heap.size w3).alloc (Nat.le_refl _) (.cells #[.int .u32 0, .int .i64 0, .int .i64 0, .slice none 0 0] 29)
  have hK : Blk (w3.alloc (.cells #[.int .u32 0, .int .i64 0, .int .i64 0, .slice none 0 0] 29)) w3.heap.size 29 [.int .u32 0, .int .i64 0, .int .i64 0, .slice none 0 0] := Blk.new w3 _ _
  have HK4 := Lib.hid hK
  have HB4 := Lib.hid (HB3.out.trans (hb9.mono HB3.out.size))
  have HA4 := Lib.hid (HA3.out.kept hb9)
  have HL4 := Lib.hid (HL3.out.kept hb9)
  clear hb9 hK HB3 HA3 HL3
  go_upto_region 7 with fail
  generalize w3.alloc (.cells #[.int .u32 0, .int .i64 0, .int .i64 0, .slice none 0 0] 29) = w4 at *
  generalize w3.heap.size = g4 at *
  have a0 := HA4.out.cell (i := 0) rfl
  have a1 := HA4.out.cell (i := 1) rfl
  have a2 := HA4.out.cell (i := 2) rfl
  have a3 := HA4.out.cell (i := 3) rfl
  have l0 := HL4.out.cell (i := 0) rfl
  have l1 := HL4.out.cell (i := 1) rfl
  go_wp2_with fail
  refine (HN.out _ HB4.out).mono ?_
  rintro e5 w5 ⟨⟨v5, rfl, hz, hnz⟩, hb⟩
  have HK5 := Lib.hid (HK4.out.kept hb)
  have HB5 := Lib.hid (HB4.out.trans (hb.mono HB4.out.size))
  obtain rfl := hnz hE0
  clear hb a0 a1 a2 a3 l0 l1 hz hnz HA4 HL4 HK4 HB4
  have hb9 := (Below.refl w5.heap.size w5).alloc (Nat.le_refl _) (.cells #[.int .u32 0, .int .i64 0, .int .i64 0, .slice none 0 0] 29)
  have hK : Blk (w5.alloc (.cells #[.int .u32 0, .int .i64 0, .int .i64 0, .slice none 0 0] 29)) w5.heap.size 29 [.int .u32 0, .int .i64 0, .int .i64 0, .slice none 0 0] := Blk.new w5 _ _
  have HY6 := Lib.hid hK
  have HK6 := Lib.hid (HK5.out.kept hb9)
  have HB6 := Lib.hid (HB5.out.trans (hb9.mono HB5.out.size))
  clear hb9 hK HB5 HK5
  go_upto_region 8 with fail
  generalize w5.alloc (.cells #[.int .u32 0, .int .i64 0, .int .i64 0, .slice none 0 0] 29) = w6 at *
  generalize w5.heap.size = g6 at *
  have k0 := HK6.out.cell (i := 0) rfl
  have k1 := HK6.out.cell (i := 1) rfl
  have k2 := HK6.out.cell (i := 2) rfl
  have k3 := HK6.out.cell (i := 3) rfl
  have y0 := HY6.out.cell (i := 0) rfl
  have y1 := HY6.out.cell (i := 1) rfl
  have y2 := HY6.out.cell (i := 2) rfl
  have y3 := HY6.out.cell (i := 3) rfl
  have HS := Lib.hid (same46_any w6 (.slice none 0 0) [] (SeqAt.nil _))
  go_wp2_with fail
  refine HS.out.mono ?_
  rintro e7 w7 ⟨rfl, hb⟩
  have HB7 := Lib.hid (HB6.out.trans (hb.mono HB6.out.size))
  clear hb k0 k1 k2 k3 y0 y1 y2 y3
  go_wp2_with fail
  go_ret
  exact ⟨rfl, HB7.out⟩
end
end Go.Proofs.YtbccghbngaiceaaGreatDoor
