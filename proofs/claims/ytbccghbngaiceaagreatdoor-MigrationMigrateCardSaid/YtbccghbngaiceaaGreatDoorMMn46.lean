/-
  Joined: MgG.
-/
import Derived.Test.YtbccghbngaiceaaGreatDoorMMn38
import Derived.Test.YtbccghbngaiceaaGreatDoorMMn39
import Derived.Test.YtbccghbngaiceaaGreatDoorMMn41
set_option linter.all false
set_option maxRecDepth 100000
set_option maxHeartbeats 64000000
namespace Go.Proofs.YtbccghbngaiceaaGreatDoor
section
open Go.RowKit
theorem setRow_entR {W : World} {v : Value} {xs : List Ent} (h : SeqAt entS W v xs) {g : Nat} (hB : Blk W g 76 [.slice none 0 0, .slice none 0 0]) (cs : Array Value) : SeqAt entS (W.setRow g cs) v xs :=
 off_ent (ks := [4, 4]) (by decide) (by decide) (by decide) W _ g v xs ⟨_, _, hB, rfl⟩ (setRow_grown W g cs) h
theorem setRow_holR {W : World} {v : Value} {xs : List Hol} (h : SeqAt holS W v xs) {g : Nat} (hB : Blk W g 76 [.slice none 0 0, .slice none 0 0]) (cs : Array Value) : SeqAt holS (W.setRow g cs) v xs :=
 off_hol (ks := [4, 4]) (by decide) W _ g v xs ⟨_, _, hB, rfl⟩ (setRow_grown W g cs) h
theorem step41_ex (w : World) (vt vh : Value) (s : Sta) (hvt : SeqAt entS w vt s.tree) (hvh : SeqAt holS w vh s.holds) (hz : StaZ s) (e : Ent) (va vx : Value) (hva : SeqAt atrS w va e.attrs) (hvx : SeqAt extS w vx e.exts) (hp : e.path.size ≤ 1000) (ht : e.tgt.size ≤ 1000) (d : Int) (ho : StaO s) (hn : s.tree.length ≤ 1000 ∧ s.holds.length ≤ 1000) (ha : ∀ a ∈ e.attrs, a.k.size ≤ 1000) (hx : e.exts.length ≤ 1000) :
  Calls Tryz.prog 36 #[.agg #[vt, vh], entV e va vx, .int .i64 d] w fun r w' => StepR (stepS s e d) r w' ∧ Below w.heap.size w w' := by
 have HAp := Lib.hid (fun W (hW : Below w.heap.size w W) => apply37_ex W vt va vx s.tree e (hvt.below hW) (hva.below hW) (hvx.below hW) hn.1 (fun x hh => by have := hz.tp x hh; omega) (by omega) (by omega) (fun a hh => by have := ha a hh; omega) (by omega))
 rw [applyT_eq ho.tree] at HAp
 have HGt := Lib.hid (fun W (hW : Below w.heap.size w W) => get37_ex W vt s.tree (hvt.below hW) e.path)
 have HAl := Lib.hid (fun W (hW : Below w.heap.size w W) (Aa Ax : Option Addr) (na ca nx cx : Nat) => allowed38_ex W e vh s.holds (hvh.below hW) (fun h hh => by have := hz.hp h hh; omega) e.k e.path e.tgt e.dig Aa Ax na ca nx cx e.size rfl rfl (by omega) d)
 have HRa := Lib.hid (fun W (hW : Below w.heap.size w W) (h5 : e.k = 5 → dateB (bs e.tgt) = true) (Aa Ax : Option Addr) (na ca nx cx : Nat) => apply38_ex W e vh s.holds 1000 (by omega) (hvh.below hW) hn.2 hz.hp e.k e.path e.tgt e.dig Aa Ax na ca nx cx e.size rfl rfl (fun q => ⟨rfl, h5 q⟩) (by omega) (by omega) d)
 rw [applyH_eq ho.holds ho.pos] at HRa
 have HVt := Lib.hid hvt
 have HVh := Lib.hid hvh
 have HOk := Lib.hid (fun h : (applyT s.tree e).1 = 0 => applyT_ok h)
 obtain ⟨R, hR⟩ : ∃ R, stepS s e d = R := ⟨_, rfl⟩
 rw [hR]
 unfold stepS at hR
 have HR := Lib.hid hR
 obtain ⟨At, ct, rfl, _, _⟩ := hvt.slice
 obtain ⟨Ah, ch, rfl, _, _⟩ := hvh.slice
 obtain ⟨Aa, ca, rfl, _, _⟩ := hva.slice
 obtain ⟨Ax, cx, rfl, _, _⟩ := hvx.slice
 obtain ⟨ap, hap⟩ : ∃ ap, applyT s.tree e = ap := ⟨_, rfl⟩
 obtain ⟨ah, hah⟩ : ∃ ah, applyH s.holds e d = ah := ⟨_, rfl⟩
 obtain ⟨al, hal⟩ : ∃ al, alwE s.holds e d = al := ⟨_, rfl⟩
 rw [hap] at HAp HR HOk
 rw [hah] at HRa HR
 rw [hal] at HAl HR
 obtain ⟨G, hG⟩ : ∃ G, getT s.tree e.path = G := ⟨_, rfl⟩
 rw [hG] at HGt HR
 obtain ⟨hs, hhs⟩ : ∃ hs, G.isSome = hs := ⟨_, rfl⟩
 rw [hhs] at HR
 rw [entV] at HAp ⊢
 obtain ⟨ac, at'⟩ := ap
 obtain ⟨hc, hh'⟩ := ah
 dsimp only at HR HOk
 have Hhs := Lib.hid hhs
 clear hvt hvh hz hva hvx hp ht ho hn ha hx hR hap hah hal hhs hG
 have hsz1 : (w.alloc (.cells #[.slice At s.tree.length ct, .slice Ah s.holds.length ch] 76)).heap.size = w.heap.size + 1 := by simp
 have hsz2 : ((w.alloc (.cells #[.slice At s.tree.length ct, .slice Ah s.holds.length ch] 76)).alloc (.cells #[.int .i64 e.k, .string e.path, .slice Aa e.attrs.length ca, .string e.tgt, .int .i64 e.size, .string e.dig, .slice Ax e.exts.length cx] 48)).heap.size = w.heap.size + 1 + 1 := by simp
 have hb1 := (Below.refl w.heap.size w).alloc (Nat.le_refl _) (.cells #[.slice At s.tree.length ct, .slice Ah s.holds.length ch] 76)
 have hb2 := hb1.alloc hb1.size (.cells #[.int .i64 e.k, .string e.path, .slice Aa e.attrs.length ca, .string e.tgt, .int .i64 e.size, .string e.dig, .slice Ax e.exts.length cx] 48)
 have hb3 := hb2.alloc hb2.size (.cells #[.slice none 0 0, .slice none 0 0] 76)
 have hS := ((Blk.new w 76 [.slice At s.tree.length ct, .slice Ah s.holds.length ch]).alloc (.cells #[.int .i64 e.k, .string e.path, .slice Aa e.attrs.length ca, .string e.tgt, .int .i64 e.size, .string e.dig, .slice Ax e.exts.length cx] 48)).alloc (.cells #[.slice none 0 0, .slice none 0 0] 76)
 change Blk (((w.alloc (.cells #[.slice At s.tree.length ct, .slice Ah s.holds.length ch] 76)).alloc (.cells #[.int .i64 e.k, .string e.path, .slice Aa e.attrs.length ca, .string e.tgt, .int .i64 e.size, .string e.dig, .slice Ax e.exts.length cx] 48)).alloc (.cells #[.slice none 0 0, .slice none 0 0] 76)) w.heap.size 76 [.slice At s.tree.length ct, .slice Ah s.holds.length ch] at hS
 have hK := (Blk.new (w.alloc (.cells #[.slice At s.tree.length ct, .slice Ah s.holds.length ch] 76)) 48 [.int .i64 e.k, .string e.path, .slice Aa e.attrs.length ca, .string e.tgt, .int .i64 e.size, .string e.dig, .slice Ax e.exts.length cx]).alloc (.cells #[.slice none 0 0, .slice none 0 0] 76)
 rw [hsz1] at hK
 change Blk (((w.alloc (.cells #[.slice At s.tree.length ct, .slice Ah s.holds.length ch] 76)).alloc (.cells #[.int .i64 e.k, .string e.path, .slice Aa e.attrs.length ca, .string e.tgt, .int .i64 e.size, .string e.dig, .slice Ax e.exts.length cx] 48)).alloc (.cells #[.slice none 0 0, .slice none 0 0] 76)) (w.heap.size + 1) 48 [.int .i64 e.k, .string e.path, .slice Aa e.attrs.length ca, .string e.tgt, .int .i64 e.size, .string e.dig, .slice Ax e.exts.length cx] at hK
 have hZ := Blk.new ((w.alloc (.cells #[.slice At s.tree.length ct, .slice Ah s.holds.length ch] 76)).alloc (.cells #[.int .i64 e.k, .string e.path, .slice Aa e.attrs.length ca, .string e.tgt, .int .i64 e.size, .string e.dig, .slice Ax e.exts.length cx] 48)) 76 [.slice none 0 0, .slice none 0 0]
 rw [hsz2] at hZ
 change Blk (((w.alloc (.cells #[.slice At s.tree.length ct, .slice Ah s.holds.length ch] 76)).alloc (.cells #[.int .i64 e.k, .string e.path, .slice Aa e.attrs.length ca, .string e.tgt, .int .i64 e.size, .string e.dig, .slice Ax e.exts.length cx] 48)).alloc (.cells #[.slice none 0 0, .slice none 0 0] 76)) (w.heap.size + 1 + 1) 76 [.slice none 0 0, .slice none 0 0] at hZ
 have HS0 := Lib.hid hS
 have HK0 := Lib.hid hK
 have HZ0 := Lib.hid hZ
 have HB0 := Lib.hid hb3
 clear hS hK hZ hb1 hb2 hb3 hsz1 hsz2
 go_enter Tryz.func36, Tryz.ntmps36
 go_upto_region 1 with fail
 generalize (((w.alloc (.cells #[.slice At s.tree.length ct, .slice Ah s.holds.length ch] 76)).alloc (.cells #[.int .i64 e.k, .string e.path, .slice Aa e.attrs.length ca, .string e.tgt, .int .i64 e.size, .string e.dig, .slice Ax e.exts.length cx] 48)).alloc (.cells #[.slice none 0 0, .slice none 0 0] 76)) = wb at *
 have s0 := HS0.out.cell (i := 0) rfl
 have s1 := HS0.out.cell (i := 1) rfl
 have c0 := HK0.out.cell (i := 0) rfl
 have c1 := HK0.out.cell (i := 1) rfl
 have c2 := HK0.out.cell (i := 2) rfl
 have c3 := HK0.out.cell (i := 3) rfl
 have c4 := HK0.out.cell (i := 4) rfl
 have c5 := HK0.out.cell (i := 5) rfl
 have c6 := HK0.out.cell (i := 6) rfl
 go_wp2_with fail
 refine (HAp.out _ HB0.out).mono ?_
 rintro e1 w1 ⟨⟨v1, rfl, hs1⟩, hb1⟩
 have HT1 := Lib.hid hs1
 clear hs1
 have HS1 := Lib.hid (HS0.out.kept hb1)
 have HK1 := Lib.hid (HK0.out.kept hb1)
 have HZ1 := Lib.hid (HZ0.out.kept hb1)
 have HB1 := Lib.hid (HB0.out.trans (hb1.mono HB0.out.size))
 clear hb1 s0 s1 c0 c1 c2 c3 c4 c5 c6
 obtain ⟨A1, d1, rfl, _, _⟩ := HT1.out.slice
 have s0 := HS1.out.cell (i := 0) rfl
 have s1 := HS1.out.cell (i := 1) rfl
 have c0 := HK1.out.cell (i := 0) rfl
 have c1 := HK1.out.cell (i := 1) rfl
 have c2 := HK1.out.cell (i := 2) rfl
 have c3 := HK1.out.cell (i := 3) rfl
 have c4 := HK1.out.cell (i := 4) rfl
 have c5 := HK1.out.cell (i := 5) rfl
 have c6 := HK1.out.cell (i := 6) rfl
 by_cases hac : ac = 0
 rotate_left
 ·have hr : R = (ac, s) := by rw [← HR.out, if_pos hac]
  have g1 : (ac != 0) = true := by rw [bne, beq_eq_false_iff_ne.2 hac]; rfl
  subst hr
  clear HR
  go_wp2_with (refine wpList_store_row rfl 76 (.tmp 6) (.tmp 23) rfl (w.heap.size + 1 + 1) #[.slice At s.tree.length ct, .slice Ah s.holds.length ch] rfl rfl 76 _ HZ1.out (by kernel_rfl) rfl (by simp [Value.oneCell']) ?_)
  refine bodyPost_ret (results_row_tmp rfl _ _ (w.heap.size + 1 + 1) 76 _ (0, 0) _ rfl (setRow_heap _ _ _ _ _ _ HZ1.out) Tryz.underlying76 rfl (by kernel_rfl)) rfl ?_
  exact ⟨⟨_, _, rfl, HVt.out.below (below_setRow HB1.out (by omega) _), HVh.out.below (below_setRow HB1.out (by omega) _)⟩, below_setRow HB1.out (by omega) _⟩
 subst hac
 have HR := Lib.hid ((if_neg (fun q => q rfl)).symm.trans HR.out)
 have HEk := Lib.hid (HOk.out rfl)
 have hk := HEk.out.kind
 have HD5 : Hid (e.k = 5 → dateB (bs e.tgt) = true) := Lib.hid (fun q => by
  have := HEk.out.tgt
  rw [tgtB, if_neg (by omega), if_pos q] at this
  exact this)
 go_wp2_with fail
 refine (HGt.out _ HB1.out).mono ?_
 rintro e2 w2 ⟨⟨gk, gz, gp, gt, gd, gA, gB, gn, gm, gc, gf, rfl, -⟩, hb2⟩
 rw [Hhs.out]
 have hb2 := hb2.alloc hb2.size (.cells #[.int .i64 gk, .string gp, .slice gA gn gc, .string gt, .int .i64 gz, .string gd, .slice gB gm gf] 48)
 go_upto_region 5 with fail
 generalize w2.alloc (.cells #[.int .i64 gk, .string gp, .slice gA gn gc, .string gt, .int .i64 gz, .string gd, .slice gB gm gf] 48) = w2 at *
 have HS2 := Lib.hid (HS1.out.kept hb2)
 have HK2 := Lib.hid (HK1.out.kept hb2)
 have HZ2 := Lib.hid (HZ1.out.kept hb2)
 have HT2 := Lib.hid (HT1.out.below hb2)
 have HB2 := Lib.hid (HB1.out.trans (hb2.mono HB1.out.size))
 clear hb2 s0 s1 c0 c1 c2 c3 c4 c5 c6
 have s0 := HS2.out.cell (i := 0) rfl
 have s1 := HS2.out.cell (i := 1) rfl
 have c0 := HK2.out.cell (i := 0) rfl
 have c1 := HK2.out.cell (i := 1) rfl
 have c2 := HK2.out.cell (i := 2) rfl
 have c3 := HK2.out.cell (i := 3) rfl
 have c4 := HK2.out.cell (i := 4) rfl
 have c5 := HK2.out.cell (i := 5) rfl
 have c6 := HK2.out.cell (i := 6) rfl
 cases hs with
 | true =>
  go_wp2_with fail
  refine (HAl.out _ HB2.out _ _ _ _ _ _).mono ?_
  rintro e3 w3 ⟨rfl, hb3⟩
  have HS3 := Lib.hid (HS2.out.kept hb3)
  have HK3 := Lib.hid (HK2.out.kept hb3)
  have HZ3 := Lib.hid (HZ2.out.kept hb3)
  have HT3 := Lib.hid (HT2.out.below hb3)
  have HB3 := Lib.hid (HB2.out.trans (hb3.mono HB2.out.size))
  clear hb3 s0 s1 c0 c1 c2 c3 c4 c5 c6
  by_cases hal : al = 0
  ·subst hal
   have HR := Lib.hid ((if_neg (fun q => q.2 rfl)).symm.trans HR.out)
   have s0 := HS3.out.cell (i := 0) rfl
   have s1 := HS3.out.cell (i := 1) rfl
   have c0 := HK3.out.cell (i := 0) rfl
   have c1 := HK3.out.cell (i := 1) rfl
   have c2 := HK3.out.cell (i := 2) rfl
   have c3 := HK3.out.cell (i := 3) rfl
   have c4 := HK3.out.cell (i := 4) rfl
   have c5 := HK3.out.cell (i := 5) rfl
   have c6 := HK3.out.cell (i := 6) rfl
   go_wp2_with fail
   refine (HRa.out _ HB3.out (fun q => HD5.out q) _ _ _ _ _ _).mono ?_
   rintro e4 w4 ⟨⟨v4, rfl, hs4⟩, hb4⟩
   have HH4 := Lib.hid hs4
   clear hs4
   have HS4 := Lib.hid (HS3.out.kept hb4)
   have HK4 := Lib.hid (HK3.out.kept hb4)
   have HZ4 := Lib.hid (HZ3.out.kept hb4)
   have HT4 := Lib.hid (HT3.out.below hb4)
   have HB4 := Lib.hid (HB3.out.trans (hb4.mono HB3.out.size))
   clear hb4 s0 s1 c0 c1 c2 c3 c4 c5 c6
   obtain ⟨A4, d4, rfl, _, _⟩ := HH4.out.slice
   have s0 := HS4.out.cell (i := 0) rfl
   have s1 := HS4.out.cell (i := 1) rfl
   have c0 := HK4.out.cell (i := 0) rfl
   have c1 := HK4.out.cell (i := 1) rfl
   have c2 := HK4.out.cell (i := 2) rfl
   have c3 := HK4.out.cell (i := 3) rfl
   have c4 := HK4.out.cell (i := 4) rfl
   have c5 := HK4.out.cell (i := 5) rfl
   have c6 := HK4.out.cell (i := 6) rfl
   by_cases hhc : hc = 0
   ·subst hhc
    have hr : R = (0, ⟨at', hh'⟩) := by rw [← HR.out, if_neg (fun q => q rfl)]
    subst hr
    clear HR
    go_wp2_with (refine wpList_store_row rfl 76 (.tmp 6) (.tmp 62) rfl (w.heap.size + 1 + 1) #[.slice A1 at'.length d1, .slice A4 hh'.length d4] rfl rfl 76 _ HZ4.out (by kernel_rfl) rfl (by simp [Value.oneCell']) ?_)
    refine bodyPost_ret (results_row_tmp rfl _ _ (w.heap.size + 1 + 1) 76 _ (0, 0) _ rfl (setRow_heap _ _ _ _ _ _ HZ4.out) Tryz.underlying76 rfl (by kernel_rfl)) rfl ?_
    have hb9 := below_setRow HB4.out (show w.heap.size ≤ w.heap.size + 1 + 1 by omega) #[.slice A1 at'.length d1, .slice A4 hh'.length d4]
    exact ⟨⟨_, _, rfl, setRow_entR HT4.out HZ4.out _, setRow_holR HH4.out HZ4.out _⟩, hb9⟩
   ·have g1 : (hc != 0) = true := by rw [bne, beq_eq_false_iff_ne.2 hhc]; rfl
    have hr : R = (hc, s) := by rw [← HR.out, if_pos hhc]
    subst hr
    clear HR
    go_wp2_with (refine wpList_store_row rfl 76 (.tmp 6) (.tmp 58) rfl (w.heap.size + 1 + 1) #[.slice At s.tree.length ct, .slice Ah s.holds.length ch] rfl rfl 76 _ HZ4.out (by kernel_rfl) rfl (by simp [Value.oneCell']) ?_)
    refine bodyPost_ret (results_row_tmp rfl _ _ (w.heap.size + 1 + 1) 76 _ (0, 0) _ rfl (setRow_heap _ _ _ _ _ _ HZ4.out) Tryz.underlying76 rfl (by kernel_rfl)) rfl ?_
    exact ⟨⟨_, _, rfl, HVt.out.below (below_setRow HB4.out (by omega) _), HVh.out.below (below_setRow HB4.out (by omega) _)⟩, below_setRow HB4.out (by omega) _⟩
  ·have g1 : (al != 0) = true := by rw [bne, beq_eq_false_iff_ne.2 hal]; rfl
   have hr : R = (al, s) := by rw [← HR.out, if_pos ⟨.inr (by first | rfl | trivial | simp), hal⟩]
   subst hr
   clear HR
   have s0 := HS3.out.cell (i := 0) rfl
   have s1 := HS3.out.cell (i := 1) rfl
   have c0 := HK3.out.cell (i := 0) rfl
   have c1 := HK3.out.cell (i := 1) rfl
   have c2 := HK3.out.cell (i := 2) rfl
   have c3 := HK3.out.cell (i := 3) rfl
   have c4 := HK3.out.cell (i := 4) rfl
   have c5 := HK3.out.cell (i := 5) rfl
   have c6 := HK3.out.cell (i := 6) rfl
   go_wp2_with (refine wpList_store_row rfl 76 (.tmp 6) (.tmp 46) rfl (w.heap.size + 1 + 1) #[.slice At s.tree.length ct, .slice Ah s.holds.length ch] rfl rfl 76 _ HZ3.out (by kernel_rfl) rfl (by simp [Value.oneCell']) ?_)
   refine bodyPost_ret (results_row_tmp rfl _ _ (w.heap.size + 1 + 1) 76 _ (0, 0) _ rfl (setRow_heap _ _ _ _ _ _ HZ3.out) Tryz.underlying76 rfl (by kernel_rfl)) rfl ?_
   exact ⟨⟨_, _, rfl, HVt.out.below (below_setRow HB3.out (by omega) _), HVh.out.below (below_setRow HB3.out (by omega) _)⟩, below_setRow HB3.out (by omega) _⟩
 | false =>
  by_cases h3 : 3 < e.k
  ·have hx9 : True := trivial
   go_wp2_with fail
   refine (HAl.out _ HB2.out _ _ _ _ _ _).mono ?_
   rintro e3 w3 ⟨rfl, hb3⟩
   have HS3 := Lib.hid (HS2.out.kept hb3)
   have HK3 := Lib.hid (HK2.out.kept hb3)
   have HZ3 := Lib.hid (HZ2.out.kept hb3)
   have HT3 := Lib.hid (HT2.out.below hb3)
   have HB3 := Lib.hid (HB2.out.trans (hb3.mono HB2.out.size))
   clear hb3 s0 s1 c0 c1 c2 c3 c4 c5 c6
   by_cases hal : al = 0
   ·subst hal
    have HR := Lib.hid ((if_neg (fun q => q.2 rfl)).symm.trans HR.out)
    have s0 := HS3.out.cell (i := 0) rfl
    have s1 := HS3.out.cell (i := 1) rfl
    have c0 := HK3.out.cell (i := 0) rfl
    have c1 := HK3.out.cell (i := 1) rfl
    have c2 := HK3.out.cell (i := 2) rfl
    have c3 := HK3.out.cell (i := 3) rfl
    have c4 := HK3.out.cell (i := 4) rfl
    have c5 := HK3.out.cell (i := 5) rfl
    have c6 := HK3.out.cell (i := 6) rfl
    go_wp2_with fail
    refine (HRa.out _ HB3.out (fun q => HD5.out q) _ _ _ _ _ _).mono ?_
    rintro e4 w4 ⟨⟨v4, rfl, hs4⟩, hb4⟩
    have HH4 := Lib.hid hs4
    clear hs4
    have HS4 := Lib.hid (HS3.out.kept hb4)
    have HK4 := Lib.hid (HK3.out.kept hb4)
    have HZ4 := Lib.hid (HZ3.out.kept hb4)
    have HT4 := Lib.hid (HT3.out.below hb4)
    have HB4 := Lib.hid (HB3.out.trans (hb4.mono HB3.out.size))
    clear hb4 s0 s1 c0 c1 c2 c3 c4 c5 c6
    obtain ⟨A4, d4, rfl, _, _⟩ := HH4.out.slice
    have s0 := HS4.out.cell (i := 0) rfl
    have s1 := HS4.out.cell (i := 1) rfl
    have c0 := HK4.out.cell (i := 0) rfl
    have c1 := HK4.out.cell (i := 1) rfl
    have c2 := HK4.out.cell (i := 2) rfl
    have c3 := HK4.out.cell (i := 3) rfl
    have c4 := HK4.out.cell (i := 4) rfl
    have c5 := HK4.out.cell (i := 5) rfl
    have c6 := HK4.out.cell (i := 6) rfl
    by_cases hhc : hc = 0
    ·subst hhc
     have hr : R = (0, ⟨at', hh'⟩) := by rw [← HR.out, if_neg (fun q => q rfl)]
     subst hr
     clear HR
     go_wp2_with (refine wpList_store_row rfl 76 (.tmp 6) (.tmp 62) rfl (w.heap.size + 1 + 1) #[.slice A1 at'.length d1, .slice A4 hh'.length d4] rfl rfl 76 _ HZ4.out (by kernel_rfl) rfl (by simp [Value.oneCell']) ?_)
     refine bodyPost_ret (results_row_tmp rfl _ _ (w.heap.size + 1 + 1) 76 _ (0, 0) _ rfl (setRow_heap _ _ _ _ _ _ HZ4.out) Tryz.underlying76 rfl (by kernel_rfl)) rfl ?_
     have hb9 := below_setRow HB4.out (show w.heap.size ≤ w.heap.size + 1 + 1 by omega) #[.slice A1 at'.length d1, .slice A4 hh'.length d4]
     exact ⟨⟨_, _, rfl, setRow_entR HT4.out HZ4.out _, setRow_holR HH4.out HZ4.out _⟩, hb9⟩
    ·have g1 : (hc != 0) = true := by rw [bne, beq_eq_false_iff_ne.2 hhc]; rfl
     have hr : R = (hc, s) := by rw [← HR.out, if_pos hhc]
     subst hr
     clear HR
     go_wp2_with (refine wpList_store_row rfl 76 (.tmp 6) (.tmp 58) rfl (w.heap.size + 1 + 1) #[.slice At s.tree.length ct, .slice Ah s.holds.length ch] rfl rfl 76 _ HZ4.out (by kernel_rfl) rfl (by simp [Value.oneCell']) ?_)
     refine bodyPost_ret (results_row_tmp rfl _ _ (w.heap.size + 1 + 1) 76 _ (0, 0) _ rfl (setRow_heap _ _ _ _ _ _ HZ4.out) Tryz.underlying76 rfl (by kernel_rfl)) rfl ?_
     exact ⟨⟨_, _, rfl, HVt.out.below (below_setRow HB4.out (by omega) _), HVh.out.below (below_setRow HB4.out (by omega) _)⟩, below_setRow HB4.out (by omega) _⟩
   ·have g1 : (al != 0) = true := by rw [bne, beq_eq_false_iff_ne.2 hal]; rfl
    have hr : R = (al, s) := by rw [← HR.out, if_pos ⟨.inl h3, hal⟩]
    subst hr
    clear HR
    have s0 := HS3.out.cell (i := 0) rfl
    have s1 := HS3.out.cell (i := 1) rfl
    have c0 := HK3.out.cell (i := 0) rfl
    have c1 := HK3.out.cell (i := 1) rfl
    have c2 := HK3.out.cell (i := 2) rfl
    have c3 := HK3.out.cell (i := 3) rfl
    have c4 := HK3.out.cell (i := 4) rfl
    have c5 := HK3.out.cell (i := 5) rfl
    have c6 := HK3.out.cell (i := 6) rfl
    go_wp2_with (refine wpList_store_row rfl 76 (.tmp 6) (.tmp 46) rfl (w.heap.size + 1 + 1) #[.slice At s.tree.length ct, .slice Ah s.holds.length ch] rfl rfl 76 _ HZ3.out (by kernel_rfl) rfl (by simp [Value.oneCell']) ?_)
    refine bodyPost_ret (results_row_tmp rfl _ _ (w.heap.size + 1 + 1) 76 _ (0, 0) _ rfl (setRow_heap _ _ _ _ _ _ HZ3.out) Tryz.underlying76 rfl (by kernel_rfl)) rfl ?_
    exact ⟨⟨_, _, rfl, HVt.out.below (below_setRow HB3.out (by omega) _), HVh.out.below (below_setRow HB3.out (by omega) _)⟩, below_setRow HB3.out (by omega) _⟩
  ·have HR := Lib.hid ((if_neg (fun q => q.1.elim (fun y => by omega) (fun z => by first | cases z | simp at z))).symm.trans HR.out)
   have s0 := HS2.out.cell (i := 0) rfl
   have s1 := HS2.out.cell (i := 1) rfl
   have c0 := HK2.out.cell (i := 0) rfl
   have c1 := HK2.out.cell (i := 1) rfl
   have c2 := HK2.out.cell (i := 2) rfl
   have c3 := HK2.out.cell (i := 3) rfl
   have c4 := HK2.out.cell (i := 4) rfl
   have c5 := HK2.out.cell (i := 5) rfl
   have c6 := HK2.out.cell (i := 6) rfl
   go_wp2_with fail
   refine (HRa.out _ HB2.out (fun q => HD5.out q) _ _ _ _ _ _).mono ?_
   rintro e3 w3 ⟨⟨v3, rfl, hs3⟩, hb3⟩
   have HH3 := Lib.hid hs3
   clear hs3
   have HS3 := Lib.hid (HS2.out.kept hb3)
   have HK3 := Lib.hid (HK2.out.kept hb3)
   have HZ3 := Lib.hid (HZ2.out.kept hb3)
   have HT3 := Lib.hid (HT2.out.below hb3)
   have HB3 := Lib.hid (HB2.out.trans (hb3.mono HB2.out.size))
   clear hb3 s0 s1 c0 c1 c2 c3 c4 c5 c6
   obtain ⟨A3, d3, rfl, _, _⟩ := HH3.out.slice
   have s0 := HS3.out.cell (i := 0) rfl
   have s1 := HS3.out.cell (i := 1) rfl
   have c0 := HK3.out.cell (i := 0) rfl
   have c1 := HK3.out.cell (i := 1) rfl
   have c2 := HK3.out.cell (i := 2) rfl
   have c3 := HK3.out.cell (i := 3) rfl
   have c4 := HK3.out.cell (i := 4) rfl
   have c5 := HK3.out.cell (i := 5) rfl
   have c6 := HK3.out.cell (i := 6) rfl
   by_cases hhc : hc = 0
   ·subst hhc
    have hr : R = (0, ⟨at', hh'⟩) := by rw [← HR.out, if_neg (fun q => q rfl)]
    subst hr
    clear HR
    go_wp2_with (refine wpList_store_row rfl 76 (.tmp 6) (.tmp 62) rfl (w.heap.size + 1 + 1) #[.slice A1 at'.length d1, .slice A3 hh'.length d3] rfl rfl 76 _ HZ3.out (by kernel_rfl) rfl (by simp [Value.oneCell']) ?_)
    refine bodyPost_ret (results_row_tmp rfl _ _ (w.heap.size + 1 + 1) 76 _ (0, 0) _ rfl (setRow_heap _ _ _ _ _ _ HZ3.out) Tryz.underlying76 rfl (by kernel_rfl)) rfl ?_
    have hb9 := below_setRow HB3.out (show w.heap.size ≤ w.heap.size + 1 + 1 by omega) #[.slice A1 at'.length d1, .slice A3 hh'.length d3]
    exact ⟨⟨_, _, rfl, setRow_entR HT3.out HZ3.out _, setRow_holR HH3.out HZ3.out _⟩, hb9⟩
   ·have g1 : (hc != 0) = true := by rw [bne, beq_eq_false_iff_ne.2 hhc]; rfl
    have hr : R = (hc, s) := by rw [← HR.out, if_pos hhc]
    subst hr
    clear HR
    go_wp2_with (refine wpList_store_row rfl 76 (.tmp 6) (.tmp 58) rfl (w.heap.size + 1 + 1) #[.slice At s.tree.length ct, .slice Ah s.holds.length ch] rfl rfl 76 _ HZ3.out (by kernel_rfl) rfl (by simp [Value.oneCell']) ?_)
    refine bodyPost_ret (results_row_tmp rfl _ _ (w.heap.size + 1 + 1) 76 _ (0, 0) _ rfl (setRow_heap _ _ _ _ _ _ HZ3.out) Tryz.underlying76 rfl (by kernel_rfl)) rfl ?_
    exact ⟨⟨_, _, rfl, HVt.out.below (below_setRow HB3.out (by omega) _), HVh.out.below (below_setRow HB3.out (by omega) _)⟩, below_setRow HB3.out (by omega) _⟩
end
end Go.Proofs.YtbccghbngaiceaaGreatDoor
