/-
  Joined: MbR MbS.
-/
import Derived.Test.YtbccghbngaiceaaGreatDoorMMn33
import Derived.Test.YtbccghbngaiceaaGreatDoorMMn35
import Derived.Test.YtbccghbngaiceaaGreatDoorMMn36
set_option linter.all false
set_option maxRecDepth 100000
set_option maxHeartbeats 64000000
namespace Go.Proofs.YtbccghbngaiceaaGreatDoor
section
open Go.RowKit
theorem hcreates_any (w : World) (e : Ent) (va vx : Value) : Calls Tryz.prog 56 #[entV e va vx] w fun r w' => r = .returned (.bool (decide (e.k = 1 ∨ e.k = 2 ∨ e.k = 3))) ∧ Below w.heap.size w w' := by
 have hK := Blk.new w 48 [.int .i64 e.k, .string e.path, va, .string e.tgt, .int .i64 e.size, .string e.dig, vx]
 change Blk (w.alloc (.cells #[.int .i64 e.k, .string e.path, va, .string e.tgt, .int .i64 e.size, .string e.dig, vx] 48)) _ _ _ at hK
 have HB := Lib.hid ((Below.refl w.heap.size w).alloc (Nat.le_refl _) (.cells #[.int .i64 e.k, .string e.path, va, .string e.tgt, .int .i64 e.size, .string e.dig, vx] 48))
 have c0 := hK.cell (i := 0) rfl
 rw [entV]
 obtain ⟨k, path, attrs, t, size, dig, exts⟩ := e
 dsimp only at HB c0 ⊢
 clear hK
 by_cases h1 : k = 1
 ·have i1 : (k == 1) = true := by rw [h1]; rfl
  rw [decide_eq_true (.inl h1)]
  clear h1
  go_enter Tryz.func56, Tryz.ntmps56
  go_wp2
  go_ret
  exact ⟨by first | rfl | exact ret_bool' (by simp), HB.out⟩
 ·have i1 : (k == 1) = false := beq_eq_false_iff_ne.2 h1
  by_cases h2 : k = 2
  ·have i2 : (k == 2) = true := by rw [h2]; rfl
   rw [decide_eq_true (.inr (.inl h2))]
   clear h1 h2
   go_enter Tryz.func56, Tryz.ntmps56
   go_wp2
   go_ret
   exact ⟨by first | rfl | exact ret_bool' (by simp), HB.out⟩
  ·have i2 : (k == 2) = false := beq_eq_false_iff_ne.2 h2
   by_cases h3 : k = 3
   ·have i3 : (k == 3) = true := by rw [h3]; rfl
    rw [decide_eq_true (.inr (.inr h3))]
    clear h1 h2 h3
    go_enter Tryz.func56, Tryz.ntmps56
    go_wp2
    go_ret
    exact ⟨by first | rfl | exact ret_bool' (by simp), HB.out⟩
   ·have i3 : (k == 3) = false := beq_eq_false_iff_ne.2 h3
    rw [decide_eq_false (by omega)]
    clear h1 h2 h3
    go_enter Tryz.func56, Tryz.ntmps56
    go_wp2
    go_ret
    exact ⟨by first | rfl | exact ret_bool' (by simp [i1, i2, i3]), HB.out⟩
theorem hhas_any (w : World) (vt vh : Value) (t : List Ent) (hv : SeqAt entS w vt t) (h1 : vh.oneCell' = true) (p : ByteArray) : Calls Tryz.prog 57 #[.agg #[vt, vh], .string p] w fun r w' => r = .returned (.bool (getT t p).isSome) ∧ Below w.heap.size w w' := by
 have hB := (Below.refl w.heap.size w).alloc (Nat.le_refl _) (.cells #[vt, vh] 69)
 have hK := Blk.new w 69 [vt, vh]
 change Blk (w.alloc (.cells #[vt, vh] 69)) _ _ _ at hK
 have c0 := hK.cell (i := 0) rfl
 have HG := Lib.hid (dtget_any _ vt t (hv.below hB) p)
 have HB := Lib.hid hB
 obtain ⟨A, c, rfl, _, _⟩ := hv.slice
 clear hv hB hK
 cases hG : getT t p with
 | none =>
  rw [hG] at HG
  clear hG
  go_enter Tryz.func57, Tryz.ntmps57
  go_wp2_with fail
  refine HG.out.mono ?_
  rintro e1 w1 ⟨hr, hb1⟩
  have hr : e1 = .returned (.tuple #[entZ, .bool false]) := hr
  subst hr
  rw [entZ]
  have HB1 := Lib.hid ((HB.out.trans (hb1.mono HB.out.size)).alloc (HB.out.trans (hb1.mono HB.out.size)).size (.cells #[.int .i64 0, .string ⟨#[]⟩, .slice none 0 0, .string ⟨#[]⟩, .int .i64 0, .string ⟨#[]⟩, .slice none 0 0] 48))
  clear hb1
  go_wp2_with fail
  go_ret
  exact ⟨rfl, HB1.out⟩
 | some x =>
  rw [hG] at HG
  clear hG
  go_enter Tryz.func57, Tryz.ntmps57
  go_wp2_with fail
  refine HG.out.mono ?_
  rintro e1 w1 ⟨⟨Aa, Ax, ca, cx, rfl⟩, hb1⟩
  rw [entV]
  have HB1 := Lib.hid ((HB.out.trans (hb1.mono HB.out.size)).alloc (HB.out.trans (hb1.mono HB.out.size)).size (.cells #[.int .i64 x.k, .string x.path, .slice Aa x.attrs.length ca, .string x.tgt, .int .i64 x.size, .string x.dig, .slice Ax x.exts.length cx] 48))
  clear hb1
  go_wp2_with fail
  go_ret
  exact ⟨rfl, HB1.out⟩
theorem applyT_ok {t : List Ent} {e : Ent} (h : (applyT t e).1 = 0) : EntOk e := by
 rw [applyT] at h
 by_cases h0 : enE e = 0
 ·exact enE_0.1 h0
 ·rw [if_pos h0] at h
  exact absurd h h0
theorem setRow_grown (W : World) (g : Nat) (cs : Array Value) : W.grownBy (W.setRow g cs) (some g) :=
 ⟨rfl, rfl, rfl, by rw [size_setRow]; exact Nat.le_refl _, fun k _ hne => setRow_other W g k cs (fun e => hne (by rw [e]))⟩
theorem setRow_ent {W : World} {v : Value} {xs : List Ent} (h : SeqAt entS W v xs) {g : Nat} (hB : Blk W g 69 [.slice none 0 0, .slice none 0 0]) (cs : Array Value) : SeqAt entS (W.setRow g cs) v xs :=
 off_ent (ks := [4, 4]) (by decide) (by decide) (by decide) W _ g v xs ⟨_, _, hB, rfl⟩ (setRow_grown W g cs) h
theorem setRow_hol {W : World} {v : Value} {xs : List Hol} (h : SeqAt holS W v xs) {g : Nat} (hB : Blk W g 69 [.slice none 0 0, .slice none 0 0]) (cs : Array Value) : SeqAt holS (W.setRow g cs) v xs :=
 off_hol (ks := [4, 4]) (by decide) W _ g v xs ⟨_, _, hB, rfl⟩ (setRow_grown W g cs) h
def StepR (o : Int × Sta) (r : Ending) (w' : World) : Prop := ∃ ut uh, r = .returned (.tuple #[.agg #[ut, uh], .int .i64 o.1]) ∧ SeqAt entS w' ut o.2.tree ∧ SeqAt holS w' uh o.2.holds
structure StaZ (s : Sta) : Prop where
 tn : s.tree.length ≤ 4000
 tp : ∀ x ∈ s.tree, x.path.size ≤ 1000
 hn : s.holds.length ≤ 4000
 hp : ∀ h ∈ s.holds, h.p.size ≤ 1000
theorem happly_any (w : World) (vt vh : Value) (s : Sta) (hvt : SeqAt entS w vt s.tree) (hvh : SeqAt holS w vh s.holds) (hz : StaZ s) (e : Ent) (va vx : Value) (hva : SeqAt atrS w va e.attrs) (hvx : SeqAt extS w vx e.exts) (hp : e.path.size ≤ 1000) (ht : e.tgt.size ≤ 1000) (d : Int) (hT : Tb w) :
  Calls Tryz.prog 33 #[.agg #[vt, vh], entV e va vx, .int .i64 d] w fun r w' => StepR (stepS s e d) r w' ∧ Below w.heap.size w w' := by
 have HAp := Lib.hid (fun W (hW : Below w.heap.size w W) => dtapply_any W vt s.tree (hvt.below hW) e va vx (hva.below hW) (hvx.below hW) hz.tp hz.tn hp ht (hT.below hW))
 have HCr := Lib.hid (fun W => hcreates_any W e va vx)
 have HHs := Lib.hid (fun W (hW : Below w.heap.size w W) => hhas_any W vt vh s.tree (hvt.below hW) hvh.one e.path)
 have HAl := Lib.hid (fun W (hW : Below w.heap.size w W) (hk : 1 ≤ e.k ∧ e.k ≤ 6) => rtalw_any W vh s.holds (hvh.below hW) (by have := hz.hn; omega) (fun h hh => by have := hz.hp h hh; omega) e va vx (by omega) d (hT.tab.below hW) hk)
 have HRa := Lib.hid (fun W (hW : Below w.heap.size w W) (hk : 1 ≤ e.k ∧ e.k ≤ 6) (h5 : e.k = 5 → dateB (bs e.tgt) = true) => rtapply_any W vh s.holds (hvh.below hW) (by have := hz.hn; omega) (fun h hh => by have := hz.hp h hh; omega) e va vx hva.one hvx.one (by omega) hk h5 d (hT.tab.below hW))
 have HVt := Lib.hid hvt
 have HVh := Lib.hid hvh
 have HOk := Lib.hid (fun h : (applyT s.tree e).1 = 0 => applyT_ok h)
 obtain ⟨R, hR⟩ : ∃ R, stepS s e d = R := ⟨_, rfl⟩
 rw [hR]
 unfold stepS at hR
 have HR := Lib.hid hR
 obtain ⟨At, ct, rfl, _, _⟩ := hvt.slice
 obtain ⟨Ah, ch, rfl, _, _⟩ := hvh.slice
 obtain ⟨Aa, ca, rfl, _, _⟩ := hva.slice
 obtain ⟨Ax, cx, rfl, _, _⟩ := hvx.slice
 obtain ⟨ap, hap⟩ : ∃ ap, applyT s.tree e = ap := ⟨_, rfl⟩
 obtain ⟨ah, hah⟩ : ∃ ah, applyH s.holds e d = ah := ⟨_, rfl⟩
 obtain ⟨al, hal⟩ : ∃ al, alwE s.holds e d = al := ⟨_, rfl⟩
 rw [hap] at HAp HR HOk
 rw [hah] at HRa HR
 rw [hal] at HAl HR
 obtain ⟨hs, hhs⟩ : ∃ hs, (getT s.tree e.path).isSome = hs := ⟨_, rfl⟩
 rw [hhs] at HHs HR
 rw [entV] at HAp HCr HAl HRa ⊢
 obtain ⟨ac, at'⟩ := ap
 obtain ⟨hc, hh'⟩ := ah
 dsimp only at HR HOk
 clear hvt hvh hz hva hvx hp ht hT hR hap hah hal hhs
 have hsz1 : (w.alloc (.cells #[.slice At s.tree.length ct, .slice Ah s.holds.length ch] 69)).heap.size = w.heap.size + 1 := by simp
 have hsz2 : ((w.alloc (.cells #[.slice At s.tree.length ct, .slice Ah s.holds.length ch] 69)).alloc (.cells #[.int .i64 e.k, .string e.path, .slice Aa e.attrs.length ca, .string e.tgt, .int .i64 e.size, .string e.dig, .slice Ax e.exts.length cx] 48)).heap.size = w.heap.size + 1 + 1 := by simp
 have hb1 := (Below.refl w.heap.size w).alloc (Nat.le_refl _) (.cells #[.slice At s.tree.length ct, .slice Ah s.holds.length ch] 69)
 have hb2 := hb1.alloc hb1.size (.cells #[.int .i64 e.k, .string e.path, .slice Aa e.attrs.length ca, .string e.tgt, .int .i64 e.size, .string e.dig, .slice Ax e.exts.length cx] 48)
 have hb3 := hb2.alloc hb2.size (.cells #[.slice none 0 0, .slice none 0 0] 69)
 have hS := ((Blk.new w 69 [.slice At s.tree.length ct, .slice Ah s.holds.length ch]).alloc (.cells #[.int .i64 e.k, .string e.path, .slice Aa e.attrs.length ca, .string e.tgt, .int .i64 e.size, .string e.dig, .slice Ax e.exts.length cx] 48)).alloc (.cells #[.slice none 0 0, .slice none 0 0] 69)
 change Blk (((w.alloc (.cells #[.slice At s.tree.length ct, .slice Ah s.holds.length ch] 69)).alloc (.cells #[.int .i64 e.k, .string e.path, .slice Aa e.attrs.length ca, .string e.tgt, .int .i64 e.size, .string e.dig, .slice Ax e.exts.length cx] 48)).alloc (.cells #[.slice none 0 0, .slice none 0 0] 69)) w.heap.size 69 [.slice At s.tree.length ct, .slice Ah s.holds.length ch] at hS
 have hK := (Blk.new (w.alloc (.cells #[.slice At s.tree.length ct, .slice Ah s.holds.length ch] 69)) 48 [.int .i64 e.k, .string e.path, .slice Aa e.attrs.length ca, .string e.tgt, .int .i64 e.size, .string e.dig, .slice Ax e.exts.length cx]).alloc (.cells #[.slice none 0 0, .slice none 0 0] 69)
 rw [hsz1] at hK
 change Blk (((w.alloc (.cells #[.slice At s.tree.length ct, .slice Ah s.holds.length ch] 69)).alloc (.cells #[.int .i64 e.k, .string e.path, .slice Aa e.attrs.length ca, .string e.tgt, .int .i64 e.size, .string e.dig, .slice Ax e.exts.length cx] 48)).alloc (.cells #[.slice none 0 0, .slice none 0 0] 69)) (w.heap.size + 1) 48 [.int .i64 e.k, .string e.path, .slice Aa e.attrs.length ca, .string e.tgt, .int .i64 e.size, .string e.dig, .slice Ax e.exts.length cx] at hK
 have hZ := Blk.new ((w.alloc (.cells #[.slice At s.tree.length ct, .slice Ah s.holds.length ch] 69)).alloc (.cells #[.int .i64 e.k, .string e.path, .slice Aa e.attrs.length ca, .string e.tgt, .int .i64 e.size, .string e.dig, .slice Ax e.exts.length cx] 48)) 69 [.slice none 0 0, .slice none 0 0]
 rw [hsz2] at hZ
 change Blk (((w.alloc (.cells #[.slice At s.tree.length ct, .slice Ah s.holds.length ch] 69)).alloc (.cells #[.int .i64 e.k, .string e.path, .slice Aa e.attrs.length ca, .string e.tgt, .int .i64 e.size, .string e.dig, .slice Ax e.exts.length cx] 48)).alloc (.cells #[.slice none 0 0, .slice none 0 0] 69)) (w.heap.size + 1 + 1) 69 [.slice none 0 0, .slice none 0 0] at hZ
 have HS0 := Lib.hid hS
 have HK0 := Lib.hid hK
 have HZ0 := Lib.hid hZ
 have HB0 := Lib.hid hb3
 clear hS hK hZ hb1 hb2 hb3 hsz1 hsz2
 go_enter Tryz.func33, Tryz.ntmps33
 go_upto_region 1 with fail
 generalize (((w.alloc (.cells #[.slice At s.tree.length ct, .slice Ah s.holds.length ch] 69)).alloc (.cells #[.int .i64 e.k, .string e.path, .slice Aa e.attrs.length ca, .string e.tgt, .int .i64 e.size, .string e.dig, .slice Ax e.exts.length cx] 48)).alloc (.cells #[.slice none 0 0, .slice none 0 0] 69)) = wb at *
 have s0 := HS0.out.cell (i := 0) rfl
 have s1 := HS0.out.cell (i := 1) rfl
 have c0 := HK0.out.cell (i := 0) rfl
 have c1 := HK0.out.cell (i := 1) rfl
 have c2 := HK0.out.cell (i := 2) rfl
 have c3 := HK0.out.cell (i := 3) rfl
 have c4 := HK0.out.cell (i := 4) rfl
 have c5 := HK0.out.cell (i := 5) rfl
 have c6 := HK0.out.cell (i := 6) rfl
 go_wp2_with fail
 refine (HAp.out _ HB0.out).mono ?_
 rintro e1 w1 ⟨⟨v1, rfl, hs1⟩, hb1⟩
 have HT1 := Lib.hid hs1
 clear hs1
 have HS1 := Lib.hid (HS0.out.kept hb1)
 have HK1 := Lib.hid (HK0.out.kept hb1)
 have HZ1 := Lib.hid (HZ0.out.kept hb1)
 have HB1 := Lib.hid (HB0.out.trans (hb1.mono HB0.out.size))
 clear hb1 s0 s1 c0 c1 c2 c3 c4 c5 c6
 obtain ⟨A1, d1, rfl, _, _⟩ := HT1.out.slice
 have s0 := HS1.out.cell (i := 0) rfl
 have s1 := HS1.out.cell (i := 1) rfl
 have c0 := HK1.out.cell (i := 0) rfl
 have c1 := HK1.out.cell (i := 1) rfl
 have c2 := HK1.out.cell (i := 2) rfl
 have c3 := HK1.out.cell (i := 3) rfl
 have c4 := HK1.out.cell (i := 4) rfl
 have c5 := HK1.out.cell (i := 5) rfl
 have c6 := HK1.out.cell (i := 6) rfl
 by_cases hac : ac = 0
 rotate_left
 ·have hr : R = (ac, s) := by rw [← HR.out, if_pos hac]
  have g1 : (ac != 0) = true := by rw [bne, beq_eq_false_iff_ne.2 hac]; rfl
  subst hr
  clear HR
  go_wp2_with (refine wpList_store_row rfl 69 (.tmp 6) (.tmp 21) rfl (w.heap.size + 1 + 1) #[.slice At s.tree.length ct, .slice Ah s.holds.length ch] rfl rfl 69 _ HZ1.out (by kernel_rfl) rfl (by simp [Value.oneCell']) ?_)
  refine bodyPost_ret (results_row_tmp rfl _ _ (w.heap.size + 1 + 1) 69 _ (0, 0) _ rfl (setRow_heap _ _ _ _ _ _ HZ1.out) Tryz.underlying69 rfl (by kernel_rfl)) rfl ?_
  exact ⟨⟨_, _, rfl, HVt.out.below (below_setRow HB1.out (by omega) _), HVh.out.below (below_setRow HB1.out (by omega) _)⟩, below_setRow HB1.out (by omega) _⟩
 subst hac
 have HR := Lib.hid ((if_neg (fun q => q rfl)).symm.trans HR.out)
 have HEk := Lib.hid (HOk.out rfl)
 have hk := HEk.out.kind
 have HD5 : Hid (e.k = 5 → dateB (bs e.tgt) = true) := Lib.hid (fun q => by
  have := HEk.out.tgt
  rw [tgtB, if_neg (by omega), if_pos q] at this
  exact this)
 by_cases h3 : 3 < e.k
 ·have hcr : decide (e.k = 1 ∨ e.k = 2 ∨ e.k = 3) = false := decide_eq_false (by omega)
  rw [hcr] at HCr
  clear hcr
  go_wp2_with fail
  refine (HCr.out _).mono ?_
  rintro e2 w2 ⟨rfl, hb2⟩
  have HS2 := Lib.hid (HS1.out.kept hb2)
  have HK2 := Lib.hid (HK1.out.kept hb2)
  have HZ2 := Lib.hid (HZ1.out.kept hb2)
  have HT2 := Lib.hid (HT1.out.below hb2)
  have HB2 := Lib.hid (HB1.out.trans (hb2.mono HB1.out.size))
  clear hb2 s0 s1 c0 c1 c2 c3 c4 c5 c6
  have s0 := HS2.out.cell (i := 0) rfl
  have s1 := HS2.out.cell (i := 1) rfl
  have c0 := HK2.out.cell (i := 0) rfl
  have c1 := HK2.out.cell (i := 1) rfl
  have c2 := HK2.out.cell (i := 2) rfl
  have c3 := HK2.out.cell (i := 3) rfl
  have c4 := HK2.out.cell (i := 4) rfl
  have c5 := HK2.out.cell (i := 5) rfl
  have c6 := HK2.out.cell (i := 6) rfl
  go_wp2_with fail
  refine (HAl.out _ HB2.out hk).mono ?_
  rintro e3 w3 ⟨rfl, hb3⟩
  have HS3 := Lib.hid (HS2.out.kept hb3)
  have HK3 := Lib.hid (HK2.out.kept hb3)
  have HZ3 := Lib.hid (HZ2.out.kept hb3)
  have HT3 := Lib.hid (HT2.out.below hb3)
  have HB3 := Lib.hid (HB2.out.trans (hb3.mono HB2.out.size))
  clear hb3 s0 s1 c0 c1 c2 c3 c4 c5 c6
  by_cases hal : al = 0
  ·subst hal
   have HR := Lib.hid ((if_neg (fun q => q.2 rfl)).symm.trans HR.out)
   have s0 := HS3.out.cell (i := 0) rfl
   have s1 := HS3.out.cell (i := 1) rfl
   have c0 := HK3.out.cell (i := 0) rfl
   have c1 := HK3.out.cell (i := 1) rfl
   have c2 := HK3.out.cell (i := 2) rfl
   have c3 := HK3.out.cell (i := 3) rfl
   have c4 := HK3.out.cell (i := 4) rfl
   have c5 := HK3.out.cell (i := 5) rfl
   have c6 := HK3.out.cell (i := 6) rfl
   go_wp2_with fail
   refine (HRa.out _ HB3.out hk (fun q => HD5.out q)).mono ?_
   rintro e4 w4 ⟨⟨v4, rfl, hs4⟩, hb4⟩
   have HH4 := Lib.hid hs4
   clear hs4
   have HS4 := Lib.hid (HS3.out.kept hb4)
   have HK4 := Lib.hid (HK3.out.kept hb4)
   have HZ4 := Lib.hid (HZ3.out.kept hb4)
   have HT4 := Lib.hid (HT3.out.below hb4)
   have HB4 := Lib.hid (HB3.out.trans (hb4.mono HB3.out.size))
   clear hb4 s0 s1 c0 c1 c2 c3 c4 c5 c6
   obtain ⟨A4, d4, rfl, _, _⟩ := HH4.out.slice
   have s0 := HS4.out.cell (i := 0) rfl
   have s1 := HS4.out.cell (i := 1) rfl
   have c0 := HK4.out.cell (i := 0) rfl
   have c1 := HK4.out.cell (i := 1) rfl
   have c2 := HK4.out.cell (i := 2) rfl
   have c3 := HK4.out.cell (i := 3) rfl
   have c4 := HK4.out.cell (i := 4) rfl
   have c5 := HK4.out.cell (i := 5) rfl
   have c6 := HK4.out.cell (i := 6) rfl
   by_cases hhc : hc = 0
   ·subst hhc
    have hr : R = (0, ⟨at', hh'⟩) := by rw [← HR.out, if_neg (fun q => q rfl)]
    subst hr
    clear HR
    go_wp2_with (refine wpList_store_row rfl 69 (.tmp 6) (.tmp 55) rfl (w.heap.size + 1 + 1) #[.slice A1 at'.length d1, .slice A4 hh'.length d4] rfl rfl 69 _ HZ4.out (by kernel_rfl) rfl (by simp [Value.oneCell']) ?_)
    refine bodyPost_ret (results_row_tmp rfl _ _ (w.heap.size + 1 + 1) 69 _ (0, 0) _ rfl (setRow_heap _ _ _ _ _ _ HZ4.out) Tryz.underlying69 rfl (by kernel_rfl)) rfl ?_
    have hb9 := below_setRow HB4.out (show w.heap.size ≤ w.heap.size + 1 + 1 by omega) #[.slice A1 at'.length d1, .slice A4 hh'.length d4]
    exact ⟨⟨_, _, rfl, setRow_ent HT4.out HZ4.out _, setRow_hol HH4.out HZ4.out _⟩, hb9⟩
   ·have g1 : (hc != 0) = true := by rw [bne, beq_eq_false_iff_ne.2 hhc]; rfl
    have hr : R = (hc, s) := by rw [← HR.out, if_pos hhc]
    subst hr
    clear HR
    go_wp2_with (refine wpList_store_row rfl 69 (.tmp 6) (.tmp 51) rfl (w.heap.size + 1 + 1) #[.slice At s.tree.length ct, .slice Ah s.holds.length ch] rfl rfl 69 _ HZ4.out (by kernel_rfl) rfl (by simp [Value.oneCell']) ?_)
    refine bodyPost_ret (results_row_tmp rfl _ _ (w.heap.size + 1 + 1) 69 _ (0, 0) _ rfl (setRow_heap _ _ _ _ _ _ HZ4.out) Tryz.underlying69 rfl (by kernel_rfl)) rfl ?_
    exact ⟨⟨_, _, rfl, HVt.out.below (below_setRow HB4.out (by omega) _), HVh.out.below (below_setRow HB4.out (by omega) _)⟩, below_setRow HB4.out (by omega) _⟩
  ·have g1 : (al != 0) = true := by rw [bne, beq_eq_false_iff_ne.2 hal]; rfl
   have hr : R = (al, s) := by rw [← HR.out, if_pos ⟨.inl h3, hal⟩]
   subst hr
   clear HR
   have s0 := HS3.out.cell (i := 0) rfl
   have s1 := HS3.out.cell (i := 1) rfl
   have c0 := HK3.out.cell (i := 0) rfl
   have c1 := HK3.out.cell (i := 1) rfl
   have c2 := HK3.out.cell (i := 2) rfl
   have c3 := HK3.out.cell (i := 3) rfl
   have c4 := HK3.out.cell (i := 4) rfl
   have c5 := HK3.out.cell (i := 5) rfl
   have c6 := HK3.out.cell (i := 6) rfl
   go_wp2_with (refine wpList_store_row rfl 69 (.tmp 6) (.tmp 39) rfl (w.heap.size + 1 + 1) #[.slice At s.tree.length ct, .slice Ah s.holds.length ch] rfl rfl 69 _ HZ3.out (by kernel_rfl) rfl (by simp [Value.oneCell']) ?_)
   refine bodyPost_ret (results_row_tmp rfl _ _ (w.heap.size + 1 + 1) 69 _ (0, 0) _ rfl (setRow_heap _ _ _ _ _ _ HZ3.out) Tryz.underlying69 rfl (by kernel_rfl)) rfl ?_
   exact ⟨⟨_, _, rfl, HVt.out.below (below_setRow HB3.out (by omega) _), HVh.out.below (below_setRow HB3.out (by omega) _)⟩, below_setRow HB3.out (by omega) _⟩
 ·have hcr : decide (e.k = 1 ∨ e.k = 2 ∨ e.k = 3) = true := decide_eq_true (by omega)
  rw [hcr] at HCr
  clear hcr
  go_wp2_with fail
  refine (HCr.out _).mono ?_
  rintro e2 w2 ⟨rfl, hb2⟩
  have HS2 := Lib.hid (HS1.out.kept hb2)
  have HK2 := Lib.hid (HK1.out.kept hb2)
  have HZ2 := Lib.hid (HZ1.out.kept hb2)
  have HT2 := Lib.hid (HT1.out.below hb2)
  have HB2 := Lib.hid (HB1.out.trans (hb2.mono HB1.out.size))
  clear hb2 s0 s1 c0 c1 c2 c3 c4 c5 c6
  have s0 := HS2.out.cell (i := 0) rfl
  have s1 := HS2.out.cell (i := 1) rfl
  have c0 := HK2.out.cell (i := 0) rfl
  have c1 := HK2.out.cell (i := 1) rfl
  have c2 := HK2.out.cell (i := 2) rfl
  have c3 := HK2.out.cell (i := 3) rfl
  have c4 := HK2.out.cell (i := 4) rfl
  have c5 := HK2.out.cell (i := 5) rfl
  have c6 := HK2.out.cell (i := 6) rfl
  go_wp2_with fail
  refine (HHs.out _ HB2.out).mono ?_
  rintro e3 w3 ⟨rfl, hb3⟩
  have HS3 := Lib.hid (HS2.out.kept hb3)
  have HK3 := Lib.hid (HK2.out.kept hb3)
  have HZ3 := Lib.hid (HZ2.out.kept hb3)
  have HT3 := Lib.hid (HT2.out.below hb3)
  have HB3 := Lib.hid (HB2.out.trans (hb3.mono HB2.out.size))
  clear hb3 s0 s1 c0 c1 c2 c3 c4 c5 c6
  cases hs with
  | true =>
   have s0 := HS3.out.cell (i := 0) rfl
   have s1 := HS3.out.cell (i := 1) rfl
   have c0 := HK3.out.cell (i := 0) rfl
   have c1 := HK3.out.cell (i := 1) rfl
   have c2 := HK3.out.cell (i := 2) rfl
   have c3 := HK3.out.cell (i := 3) rfl
   have c4 := HK3.out.cell (i := 4) rfl
   have c5 := HK3.out.cell (i := 5) rfl
   have c6 := HK3.out.cell (i := 6) rfl
   go_wp2_with fail
   refine (HAl.out _ HB3.out hk).mono ?_
   rintro e4 w4 ⟨rfl, hb4⟩
   have HS4 := Lib.hid (HS3.out.kept hb4)
   have HK4 := Lib.hid (HK3.out.kept hb4)
   have HZ4 := Lib.hid (HZ3.out.kept hb4)
   have HT4 := Lib.hid (HT3.out.below hb4)
   have HB4 := Lib.hid (HB3.out.trans (hb4.mono HB3.out.size))
   clear hb4 s0 s1 c0 c1 c2 c3 c4 c5 c6
   by_cases hal : al = 0
   ·subst hal
    have HR := Lib.hid ((if_neg (fun q => q.2 rfl)).symm.trans HR.out)
    have s0 := HS4.out.cell (i := 0) rfl
    have s1 := HS4.out.cell (i := 1) rfl
    have c0 := HK4.out.cell (i := 0) rfl
    have c1 := HK4.out.cell (i := 1) rfl
    have c2 := HK4.out.cell (i := 2) rfl
    have c3 := HK4.out.cell (i := 3) rfl
    have c4 := HK4.out.cell (i := 4) rfl
    have c5 := HK4.out.cell (i := 5) rfl
    have c6 := HK4.out.cell (i := 6) rfl
    go_wp2_with fail
    refine (HRa.out _ HB4.out hk (fun q => HD5.out q)).mono ?_
    rintro e5 w5 ⟨⟨v5, rfl, hs5⟩, hb5⟩
    have HH5 := Lib.hid hs5
    clear hs5
    have HS5 := Lib.hid (HS4.out.kept hb5)
    have HK5 := Lib.hid (HK4.out.kept hb5)
    have HZ5 := Lib.hid (HZ4.out.kept hb5)
    have HT5 := Lib.hid (HT4.out.below hb5)
    have HB5 := Lib.hid (HB4.out.trans (hb5.mono HB4.out.size))
    clear hb5 s0 s1 c0 c1 c2 c3 c4 c5 c6
    obtain ⟨A5, d5, rfl, _, _⟩ := HH5.out.slice
    have s0 := HS5.out.cell (i := 0) rfl
    have s1 := HS5.out.cell (i := 1) rfl
    have c0 := HK5.out.cell (i := 0) rfl
    have c1 := HK5.out.cell (i := 1) rfl
    have c2 := HK5.out.cell (i := 2) rfl
    have c3 := HK5.out.cell (i := 3) rfl
    have c4 := HK5.out.cell (i := 4) rfl
    have c5 := HK5.out.cell (i := 5) rfl
    have c6 := HK5.out.cell (i := 6) rfl
    by_cases hhc : hc = 0
    ·subst hhc
     have hr : R = (0, ⟨at', hh'⟩) := by rw [← HR.out, if_neg (fun q => q rfl)]
     subst hr
     clear HR
     go_wp2_with (refine wpList_store_row rfl 69 (.tmp 6) (.tmp 55) rfl (w.heap.size + 1 + 1) #[.slice A1 at'.length d1, .slice A5 hh'.length d5] rfl rfl 69 _ HZ5.out (by kernel_rfl) rfl (by simp [Value.oneCell']) ?_)
     refine bodyPost_ret (results_row_tmp rfl _ _ (w.heap.size + 1 + 1) 69 _ (0, 0) _ rfl (setRow_heap _ _ _ _ _ _ HZ5.out) Tryz.underlying69 rfl (by kernel_rfl)) rfl ?_
     have hb9 := below_setRow HB5.out (show w.heap.size ≤ w.heap.size + 1 + 1 by omega) #[.slice A1 at'.length d1, .slice A5 hh'.length d5]
     exact ⟨⟨_, _, rfl, setRow_ent HT5.out HZ5.out _, setRow_hol HH5.out HZ5.out _⟩, hb9⟩
    ·have g1 : (hc != 0) = true := by rw [bne, beq_eq_false_iff_ne.2 hhc]; rfl
     have hr : R = (hc, s) := by rw [← HR.out, if_pos hhc]
     subst hr
     clear HR
     go_wp2_with (refine wpList_store_row rfl 69 (.tmp 6) (.tmp 51) rfl (w.heap.size + 1 + 1) #[.slice At s.tree.length ct, .slice Ah s.holds.length ch] rfl rfl 69 _ HZ5.out (by kernel_rfl) rfl (by simp [Value.oneCell']) ?_)
     refine bodyPost_ret (results_row_tmp rfl _ _ (w.heap.size + 1 + 1) 69 _ (0, 0) _ rfl (setRow_heap _ _ _ _ _ _ HZ5.out) Tryz.underlying69 rfl (by kernel_rfl)) rfl ?_
     exact ⟨⟨_, _, rfl, HVt.out.below (below_setRow HB5.out (by omega) _), HVh.out.below (below_setRow HB5.out (by omega) _)⟩, below_setRow HB5.out (by omega) _⟩
   ·have g1 : (al != 0) = true := by rw [bne, beq_eq_false_iff_ne.2 hal]; rfl
    have hr : R = (al, s) := by rw [← HR.out, if_pos ⟨.inr (by first | rfl | trivial | simp), hal⟩]
    subst hr
    clear HR
    have s0 := HS4.out.cell (i := 0) rfl
    have s1 := HS4.out.cell (i := 1) rfl
    have c0 := HK4.out.cell (i := 0) rfl
    have c1 := HK4.out.cell (i := 1) rfl
    have c2 := HK4.out.cell (i := 2) rfl
    have c3 := HK4.out.cell (i := 3) rfl
    have c4 := HK4.out.cell (i := 4) rfl
    have c5 := HK4.out.cell (i := 5) rfl
    have c6 := HK4.out.cell (i := 6) rfl
    go_wp2_with (refine wpList_store_row rfl 69 (.tmp 6) (.tmp 39) rfl (w.heap.size + 1 + 1) #[.slice At s.tree.length ct, .slice Ah s.holds.length ch] rfl rfl 69 _ HZ4.out (by kernel_rfl) rfl (by simp [Value.oneCell']) ?_)
    refine bodyPost_ret (results_row_tmp rfl _ _ (w.heap.size + 1 + 1) 69 _ (0, 0) _ rfl (setRow_heap _ _ _ _ _ _ HZ4.out) Tryz.underlying69 rfl (by kernel_rfl)) rfl ?_
    exact ⟨⟨_, _, rfl, HVt.out.below (below_setRow HB4.out (by omega) _), HVh.out.below (below_setRow HB4.out (by omega) _)⟩, below_setRow HB4.out (by omega) _⟩
  | false =>
   have HR := Lib.hid ((if_neg (fun q => q.1.elim (fun y => by omega) (fun z => by first | cases z | simp at z))).symm.trans HR.out)
   have s0 := HS3.out.cell (i := 0) rfl
   have s1 := HS3.out.cell (i := 1) rfl
   have c0 := HK3.out.cell (i := 0) rfl
   have c1 := HK3.out.cell (i := 1) rfl
   have c2 := HK3.out.cell (i := 2) rfl
   have c3 := HK3.out.cell (i := 3) rfl
   have c4 := HK3.out.cell (i := 4) rfl
   have c5 := HK3.out.cell (i := 5) rfl
   have c6 := HK3.out.cell (i := 6) rfl
   go_wp2_with fail
   refine (HRa.out _ HB3.out hk (fun q => HD5.out q)).mono ?_
   rintro e4 w4 ⟨⟨v4, rfl, hs4⟩, hb4⟩
   have HH4 := Lib.hid hs4
   clear hs4
   have HS4 := Lib.hid (HS3.out.kept hb4)
   have HK4 := Lib.hid (HK3.out.kept hb4)
   have HZ4 := Lib.hid (HZ3.out.kept hb4)
   have HT4 := Lib.hid (HT3.out.below hb4)
   have HB4 := Lib.hid (HB3.out.trans (hb4.mono HB3.out.size))
   clear hb4 s0 s1 c0 c1 c2 c3 c4 c5 c6
   obtain ⟨A4, d4, rfl, _, _⟩ := HH4.out.slice
   have s0 := HS4.out.cell (i := 0) rfl
   have s1 := HS4.out.cell (i := 1) rfl
   have c0 := HK4.out.cell (i := 0) rfl
   have c1 := HK4.out.cell (i := 1) rfl
   have c2 := HK4.out.cell (i := 2) rfl
   have c3 := HK4.out.cell (i := 3) rfl
   have c4 := HK4.out.cell (i := 4) rfl
   have c5 := HK4.out.cell (i := 5) rfl
   have c6 := HK4.out.cell (i := 6) rfl
   by_cases hhc : hc = 0
   ·subst hhc
    have hr : R = (0, ⟨at', hh'⟩) := by rw [← HR.out, if_neg (fun q => q rfl)]
    subst hr
    clear HR
    go_wp2_with (refine wpList_store_row rfl 69 (.tmp 6) (.tmp 55) rfl (w.heap.size + 1 + 1) #[.slice A1 at'.length d1, .slice A4 hh'.length d4] rfl rfl 69 _ HZ4.out (by kernel_rfl) rfl (by simp [Value.oneCell']) ?_)
    refine bodyPost_ret (results_row_tmp rfl _ _ (w.heap.size + 1 + 1) 69 _ (0, 0) _ rfl (setRow_heap _ _ _ _ _ _ HZ4.out) Tryz.underlying69 rfl (by kernel_rfl)) rfl ?_
    have hb9 := below_setRow HB4.out (show w.heap.size ≤ w.heap.size + 1 + 1 by omega) #[.slice A1 at'.length d1, .slice A4 hh'.length d4]
    exact ⟨⟨_, _, rfl, setRow_ent HT4.out HZ4.out _, setRow_hol HH4.out HZ4.out _⟩, hb9⟩
   ·have g1 : (hc != 0) = true := by rw [bne, beq_eq_false_iff_ne.2 hhc]; rfl
    have hr : R = (hc, s) := by rw [← HR.out, if_pos hhc]
    subst hr
    clear HR
    go_wp2_with (refine wpList_store_row rfl 69 (.tmp 6) (.tmp 51) rfl (w.heap.size + 1 + 1) #[.slice At s.tree.length ct, .slice Ah s.holds.length ch] rfl rfl 69 _ HZ4.out (by kernel_rfl) rfl (by simp [Value.oneCell']) ?_)
    refine bodyPost_ret (results_row_tmp rfl _ _ (w.heap.size + 1 + 1) 69 _ (0, 0) _ rfl (setRow_heap _ _ _ _ _ _ HZ4.out) Tryz.underlying69 rfl (by kernel_rfl)) rfl ?_
    exact ⟨⟨_, _, rfl, HVt.out.below (below_setRow HB4.out (by omega) _), HVh.out.below (below_setRow HB4.out (by omega) _)⟩, below_setRow HB4.out (by omega) _⟩
def extV (x : Ext) : Value := .agg #[.int .i64 x.s, .int .i64 x.o, .int .i64 x.l]
def JudgeX (g : Nat) (lb : Array Value) (p : Ext → Bool) (l : List Ext) (w : World) : Prop :=
 ∀ (W : World) (x : Ext), Below w.heap.size w W → x ∈ l → Calls Tryz.prog g (#[extV x] ++ lb) W fun e w' => e = .returned (.bool (p x)) ∧ Below W.heap.size W w'
theorem idxExt_any (w : World) (v : Value) (l : List Ext) (hl : SeqAt extS w v l) (g : Nat) (lb : Array Value) (eg : ∀ args w, (callFunc g args).run Tryz.prog w = .ok (.enter g args) w) (p : Ext → Bool) (hp : JudgeX g lb p l w) :
  Calls Tryz.prog 124 #[v, .func (.func g) #[] lb] w fun e w' => e = .returned (.int .i64 (idxI (idxP p l))) ∧ Below w.heap.size w w' := by
 have HL := Lib.hid hl
 obtain ⟨A, c, rfl, h1, h2⟩ := hl.slice
 have HP := Lib.hid hp
 obtain ⟨R, hR⟩ : ∃ R, idxP p l = R := ⟨_, rfl⟩
 rw [hR]
 have HR := Lib.hid hR
 clear hl hp hR
 go_enter Tryz.func124, Tryz.ntmps124
 go_wp2
 go_loopw [8] (fun i wr => ∃ k : Nat, k ≤ l.length ∧ i = .int .i64 k ∧ (∀ (j : Nat) (y : Ext), j < k → l[j]? = some y → p y = false) ∧ Below w.heap.size w wr) (fun i _ => l.length - (intOf i).toNat)
 case atStart => exact ⟨0, Nat.zero_le _, rfl, fun j r h => absurd h (Nat.not_lt_zero _), Below.refl _ _⟩
 case round =>
  obtain ⟨k, hk, rfl, hr, hB⟩ := hrel
  have Hr := Lib.hid hr
  have HB := Lib.hid hB
  clear hr hB
  by_cases hlt : k < l.length
  ·have hkI : (k : Int) < l.length := by omega
   obtain ⟨x, hx⟩ : ∃ x, l[k]? = some x := ⟨_, List.getElem?_eq_getElem hlt⟩
   have Hx := Lib.hid hx
   obtain ⟨_, _, e9, _, _, h4⟩ := HL.out.below HB.out
   cases e9
   obtain ⟨b, o, cs, rfl, rfl, hc⟩ := h4 k x hx
   have HC := Lib.hid (HP.out wr x HB.out (List.mem_of_getElem? hx))
   obtain ⟨q, hq⟩ : ∃ q, p x = q := ⟨_, rfl⟩
   have HQ := Lib.hid hq
   rw [hq, extV] at HC
   have e0 : wr.cell? ⟨b, o + k * 3, none⟩ = some (.int .i64 x.s) := hc 0 _ rfl
   have e1 : wr.cell? ⟨b, o + k * 3 + 1, none⟩ = some (.int .i64 x.o) := hc 1 _ rfl
   have e2 : wr.cell? ⟨b, o + k * 3 + 2, none⟩ = some (.int .i64 x.l) := hc 2 _ rfl
   clear hc h4 hx hq
   go_wp2_with fail
   refine HC.out.mono ?_
   rintro e w2 ⟨rfl, hb2⟩
   have HB2 := Lib.hid (HB.out.trans (hb2.mono HB.out.size))
   clear hb2 e0 e1 e2
   cases q with
   | true =>
    have hr : R = some k := by rw [← HR.out]; exact idxP_some Hr.out Hx.out HQ.out
    subst hr
    go_wp2
    go_ret
    exact ⟨rfl, HB2.out⟩
   | false =>
    go_wp2
    go_roundw
    case rel =>
     refine ⟨k + 1, by omega, by go_num, fun j r hj he => ?_, HB2.out⟩
     rcases Nat.lt_succ_iff_lt_or_eq.1 hj with h | rfl
     ·exact Hr.out j r h he
     ·rw [Hx.out] at he
      cases he
      exact HQ.out
    case measure => simp [intOf]; omega
  ·have hkI : ¬ (k : Int) < l.length := by omega
   have hr : R = none := by
    rw [← HR.out]
    refine idxP_none fun x hx => ?_
    obtain ⟨j, hj⟩ := List.mem_iff_getElem?.1 hx
    exact Hr.out j x (by have := (List.getElem?_eq_some_iff.1 hj).1; omega) hj
   subst hr
   go_wp2
   go_ret
   exact ⟨rfl, HB.out⟩
theorem contExt_any (w : World) (v : Value) (l : List Ext) (hl : SeqAt extS w v l) (g : Nat) (lb : Array Value) (eg : ∀ args w, (callFunc g args).run Tryz.prog w = .ok (.enter g args) w) (p : Ext → Bool) (hp : JudgeX g lb p l w) :
  Calls Tryz.prog 60 #[v, .func (.func g) #[] lb] w fun e w' => e = .returned (.bool (l.any p)) ∧ Below w.heap.size w w' := by
 have H := Lib.hid (idxExt_any w v l hl g lb eg p hp)
 have HI := Lib.hid (idxI_any (f := p) (l := l))
 generalize idxI (idxP p l) = n at *
 obtain ⟨A, c, rfl, h1, h2⟩ := hl.slice
 clear hl hp
 go_enter Tryz.func60, Tryz.ntmps60
 go_wp2_with (go_at_call 124; refine H.out.mono ?_; rintro e w' ⟨rfl, hb⟩; have HB := Lib.hid hb; clear hb)
 go_ret
 exact ⟨ret_bool' (by simp only [HI.out, Bool.decide_eq_true]), HB.out⟩
theorem hstored1_any (w : World) (x : Ext) (g : Nat) (v : Value) (l : List Ses) (hg : Blk w g 22 [v]) (hv : SeqAt sesS w v l) (hl : l.length ≤ 1000) (hs : ∀ y ∈ l, y.str.size ≤ 14680064) (hx : extB x = true) : Calls Tryz.prog 61 #[extV x, .pointer (some ⟨g, 0, none⟩)] w fun e w' => e = .returned (.bool (extOut l x)) ∧ Below w.heap.size w w' := by
 obtain ⟨s, o, n⟩ := x
 have hx := of_decide_eq_true hx
 dsimp only at hx
 rw [extV]
 dsimp only
 have hK := Blk.new w 80 [.int .i64 s, .int .i64 o, .int .i64 n]
 change Blk (w.alloc (.cells #[.int .i64 s, .int .i64 o, .int .i64 n] 80)) _ _ _ at hK
 have hB := (Below.refl w.heap.size w).alloc (Nat.le_refl _) (.cells #[.int .i64 s, .int .i64 o, .int .i64 n] 80)
 have hG := hg.alloc (.cells #[.int .i64 s, .int .i64 o, .int .i64 n] 80)
 have HS := Lib.hid (hv.below hB)
 obtain ⟨A, c, rfl, _, _⟩ := hv.slice
 have HB := Lib.hid hB
 have HK := Lib.hid hK
 have HG := Lib.hid hG
 obtain ⟨R, hR⟩ : ∃ R, extOut l ⟨s, o, n⟩ = R := ⟨_, rfl⟩
 rw [hR]
 unfold extOut at hR
 dsimp only at hR
 clear hv hK hB hG hg
 by_cases h0 : s = 0
 ·have i0 : (s == 0) = true := by rw [h0]; rfl
  rw [if_pos h0] at hR
  subst hR
  have c0 := HK.out.cell (i := 0) rfl
  clear h0
  go_enter Tryz.func61, Tryz.ntmps61
  go_wp2
  go_ret
  exact ⟨rfl, HB.out⟩
 ·have i0 : (s == 0) = false := beq_eq_false_iff_ne.2 h0
  rw [if_neg h0] at hR
  by_cases h1 : (l.length : Int) < s
  ·rw [if_pos h1] at hR
   subst hR
   have hd : decide ((l.length : Int) < s) = true := decide_eq_true h1
   go_enter Tryz.func61, Tryz.ntmps61
   go_upto_region 1 with fail
   generalize w.alloc (.cells #[.int .i64 s, .int .i64 o, .int .i64 n] 80) = wa at *
   have c0 := HK.out.cell (i := 0) rfl
   have c1 := HK.out.cell (i := 1) rfl
   have c2 := HK.out.cell (i := 2) rfl
   have g0 := HG.out.cell (i := 0) rfl
   go_upto_region 3 with fail
   go_quiet (fail)
   go_wp2
   go_ret
   exact ⟨by first | rfl | exact ret_bool' (by simp), by first | exact HB.out | exact blwN HB.out _⟩
  ·rw [if_neg h1] at hR
   obtain ⟨j, hj⟩ : ∃ j : Nat, s = (j : Int) + 1 := ⟨(s - 1).toNat, by omega⟩
   subst hj
   have hjl : j < l.length := by omega
   obtain ⟨y, hy⟩ : ∃ y, l[j]? = some y := ⟨_, List.getElem?_eq_getElem hjl⟩
   have hys := hs y (List.mem_of_getElem? hy)
   rw [show (((j : Int) + 1 - 1).toNat) = j by omega, hy] at hR
   have hR : decide ((y.str.size : Int) < o + n) = R := hR
   have hd : decide ((l.length : Int) < (j : Int) + 1) = false := decide_eq_false h1
   have hw1 : IntKind.i64.wrap (o + n) = o + n := IntWalk.i64_in _ (by omega)
   have hw2 : IntKind.i64.wrap ((j : Int) + 1 - 1) = (j : Int) := by rw [IntWalk.i64_in _ (by omega)]; omega
   have hw3 : (j : Int) + 1 - 1 = (j : Int) := by omega
   have hjI : (j : Int) < (l.length : Int) := by omega
   obtain ⟨_, _, e9, _, _, h4⟩ := HS.out
   cases e9
   obtain ⟨b, ob, cs, rfl, ⟨ve, rfl, _⟩, hc⟩ := h4 j y hy
   have e4 : (w.alloc (.cells #[.int .i64 ((j : Int) + 1), .int .i64 o, .int .i64 n] 80)).cell? ⟨b, ob + j * 6 + 4, none⟩ = some (.string y.str) := hc 4 _ rfl
   have HE4 := Lib.hid e4
   clear e4 hc h4 hy hs hjl
   go_enter Tryz.func61, Tryz.ntmps61
   go_upto_region 1 with fail
   generalize w.alloc (.cells #[.int .i64 ((j : Int) + 1), .int .i64 o, .int .i64 n] 80) = wa at *
   have c0 := HK.out.cell (i := 0) rfl
   have c1 := HK.out.cell (i := 1) rfl
   have c2 := HK.out.cell (i := 2) rfl
   have g0 := HG.out.cell (i := 0) rfl
   have e4 := HE4.out
   go_upto_region 3 with fail
   go_quiet (fail)
   go_wp2
   go_ret
   exact ⟨by first | exact ret_bool' hR | exact ret_bool' (by simp) | (rw [← hR]; rfl), by first | exact HB.out | exact blwN HB.out _⟩
theorem hstored_any (w : World) (v : Value) (l : List Ses) (hv : SeqAt sesS w v l) (hl : l.length ≤ 1000) (hs : ∀ y ∈ l, y.str.size ≤ 14680064) (e : Ent) (va vx : Value) (h1a : va.oneCell' = true) (hvx : SeqAt extS w vx e.exts) (hx : ∀ x ∈ e.exts, extB x = true) : Calls Tryz.prog 34 #[v, entV e va vx] w fun r w' => r = .returned (.bool (storedB l e)) ∧ Below w.heap.size w w' := by
 have hsz1 : (w.alloc (.cells #[v] 22)).heap.size = w.heap.size + 1 := by simp
 have hb1 := (Below.refl w.heap.size w).alloc (Nat.le_refl _) (.cells #[v] 22)
 have hb2 := hb1.alloc hb1.size (.cells #[.int .i64 e.k, .string e.path, va, .string e.tgt, .int .i64 e.size, .string e.dig, vx] 48)
 have hG := (Blk.new w 22 [v]).alloc (.cells #[.int .i64 e.k, .string e.path, va, .string e.tgt, .int .i64 e.size, .string e.dig, vx] 48)
 change Blk ((w.alloc (.cells #[v] 22)).alloc (.cells #[.int .i64 e.k, .string e.path, va, .string e.tgt, .int .i64 e.size, .string e.dig, vx] 48)) w.heap.size 22 [v] at hG
 have hK := Blk.new (w.alloc (.cells #[v] 22)) 48 [.int .i64 e.k, .string e.path, va, .string e.tgt, .int .i64 e.size, .string e.dig, vx]
 rw [hsz1] at hK
 change Blk ((w.alloc (.cells #[v] 22)).alloc (.cells #[.int .i64 e.k, .string e.path, va, .string e.tgt, .int .i64 e.size, .string e.dig, vx] 48)) (w.heap.size + 1) 48 _ at hK
 have c6 := hK.cell (i := 6) rfl
 have HX := Lib.hid (contExt_any _ vx e.exts (hvx.below hb2) 61 #[.pointer (some ⟨w.heap.size, 0, none⟩)] (enters_of Tryz.func61 (by kernel_rfl) rfl) (extOut l) (fun W x hW hxm => hstored1_any W x w.heap.size v l (hG.kept hW) (hv.below (hb2.trans (hW.mono hb2.size))) hl hs (hx x hxm)))
 have HB := Lib.hid hb2
 unfold storedB
 generalize e.exts.any (extOut l) = Q at *
 obtain ⟨A, c, rfl, _, _⟩ := hv.slice
 obtain ⟨Ax, cx, rfl, _, _⟩ := hvx.slice
 rw [entV]
 clear hv hvx hG hK hb1 hb2 hsz1 hs hx
 go_enter Tryz.func34, Tryz.ntmps34
 go_wp2_with fail
 refine HX.out.mono ?_
 rintro e1 w1 ⟨rfl, hb1⟩
 have HB1 := Lib.hid (HB.out.trans (hb1.mono HB.out.size))
 clear hb1
 go_wp2_with fail
 go_ret
 exact ⟨by first | rfl | exact ret_bool' (by cases Q <;> rfl), HB1.out⟩
end
end Go.Proofs.YtbccghbngaiceaaGreatDoor
