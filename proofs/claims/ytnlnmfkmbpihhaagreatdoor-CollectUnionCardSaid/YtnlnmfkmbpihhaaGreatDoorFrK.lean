/-
 WALK: frame.Decode.
-/
import Derived.Test.YtnlnmfkmbpihhaaGreatDoorFrD
import Derived.Test.YtnlnmfkmbpihhaaGreatDoorFrE
namespace Go.Proofs.YtnlnmfkmbpihhaaGreatDoor
open Go.RowKit

theorem Tryz.sizeQual : (Tryz.prog.info? 36).map (·.size) = some 3 := by kernel_rfl
theorem qual_store {ops : Array Oper} {rest : List Oper} {op : Oper} {a : Act} {W : World} {Q : Exit → Act → World → Prop} (hgd : op.guard = none) (x y : Operand) (ho : op.op = .store 36 x y)
  (b : Nat) (cells : Array Value) (hx : a.eval x = .pointer (some ⟨b, 0, none⟩)) (hy : a.eval y = .agg cells)
  (ht : W.there b 0 cells.size) (h3 : cells.size = 3) (h1 : cells.all (·.oneCell') = true) (W1 : World) (hE : W.setCells b 0 cells.toList = W1)
  (h : wpList Tryz.prog ops Q rest (a.put op.dst undef) W1) : wpList Tryz.prog ops Q (op :: rest) a W :=
 wpList_store_mid hgd 36 x y ho b 0 cells hx hy ht (by rw [h3]; exact Tryz.sizeQual) h1 (by rw [hE]; exact h)
section
variable {ops : Array Oper} {o : Oper} {a : Act} {K : Act → World → Prop} {Q : Exit → Act → World → Prop} {E : Prop}
theorem step_storeQ {W : World} {g : Nat} {us : List Value} (hw : Region.wanted o (yielded ops a.tmps) = true) (p s : Operand) (ho : o.op = .store 36 p s) (cells : Array Value)
  (hp : a.eval p = .pointer (some ⟨g, 0, none⟩)) (hs : a.eval s = .agg cells) (h3 : cells.size = 3) (h1 : cells.all (·.oneCell') = true) (ht : Blk W g 36 us) (hu : us.length = 3)
  (h : ∀ W', Blk W' g 36 cells.toList → Turned W W' g → K (a.put o.dst undef) W') :
  if Region.wanted o (yielded ops a.tmps) = true then Oper.wp Tryz.prog o a W K Q else E := by
 rw [if_pos hw]
 have hb := setCells_blk cells.toList [] us W ht (by rw [hu]; simp [h3])
 exact wp_store_mid 36 p s ho g 0 cells hp hs (by rw [h3, ← hu]; exact ht.there) (by rw [h3]; exact Tryz.sizeQual) h1 (h _ hb (setCells_turned _ _ _ _))
end
theorem Blk.turned {A B : World} {g g' : Nat} {t : TypeId} {us : List Value} (h : Blk A g t us) (k : Turned A B g') (hne : g ≠ g') : Blk B g t us := h.of_heap (k.other g hne)
theorem two_stores {w W : World} {H g2 g3 : Nat} {us vs : List Value} (hZ : Blk W g2 34 us) (hQ : Blk W g3 36 vs) (hne : g2 ≠ g3) (hB : Below H w W) (h2 : H ≤ g2) (h3 : H ≤ g3)
  (fs qs : List Value) (hf : us.length = fs.length) (hq : vs.length = qs.length) :
  ∃ W1 W2, W.setCells g2 0 fs = W1 ∧ W1.setCells g3 0 qs = W2 ∧ W.there g2 0 fs.length ∧ W1.there g3 0 qs.length ∧ Blk W2 g2 34 fs ∧ Blk W2 g3 36 qs ∧ Below H w W2 := by
 have k1 := setCells_turned fs W g2 0
 have k2 := setCells_turned qs (W.setCells g2 0 fs) g3 0
 have b1 := setCells_blk fs [] us W hZ hf
 have q1 := hQ.turned k1 (Ne.symm hne)
 exact ⟨_, _, rfl, rfl, by rw [← hf]; exact hZ.there, by rw [← hq]; exact q1.there, b1.turned k2 hne, setCells_blk qs [] vs _ q1 hq, k2.below (k1.below hB h2) h3⟩

abbrev Quad (W : World) (g16 g6 : Nat) (c0 c1 c2 c3 c4 c5 c6 c7 c8 x y z : Value) : Prop := Box9 W g16 c0 c1 c2 c3 c4 c5 c6 c7 c8 ∧ Blk W g6 36 [x, y, z] ∧ W.cell? ⟨g6, 0, none⟩ = some x ∧ W.cell? ⟨g6, 1, none⟩ = some y ∧ W.cell? ⟨g6, 2, none⟩ = some z
theorem quad_drw {W : World} {g16 g6 : Nat} {c0 c1 c2 c3 c4 c5 c6 c7 c8 x y z : Value} (h : Quad W g16 g6 c0 c1 c2 c3 c4 c5 c6 c7 c8 x y z) : Quad W.drew g16 g6 c0 c1 c2 c3 c4 c5 c6 c7 c8 x y z := h
theorem quad_turned {A B : World} {g16 g6 g : Nat} {c0 c1 c2 c3 c4 c5 c6 c7 c8 x y z : Value} (h : Quad A g16 g6 c0 c1 c2 c3 c4 c5 c6 c7 c8 x y z) (k : Turned A B g) (h1 : g16 ≠ g) (h2 : g6 ≠ g) : Quad B g16 g6 c0 c1 c2 c3 c4 c5 c6 c7 c8 x y z := by
 have hk : ∀ j u, A.cell? ⟨g16, j, none⟩ = some u → B.cell? ⟨g16, j, none⟩ = some u := fun j u hu => (World.cell?_of_block (a := ⟨g16, j, none⟩) (k.other g16 h1)).trans hu
 obtain ⟨⟨a0, a1, a2, a3, a4, a5, a6, a7, a8⟩, hb, _, _, _⟩ := h
 have hb2 := hb.turned k h2
 exact ⟨⟨hk _ _ a0, hk _ _ a1, hk _ _ a2, hk _ _ a3, hk _ _ a4, hk _ _ a5, hk _ _ a6, hk _ _ a7, hk _ _ a8⟩, hb2, hb2.cell (i := 0) rfl, hb2.cell (i := 1) rfl, hb2.cell (i := 2) rfl⟩

set_option maxRecDepth 100000 in
set_option maxHeartbeats 16000000 in
theorem fdec_any (w : World) (s : ByteArray) (hs : s.size ≤ 1000) :
  Calls Tryz.prog 17 #[.string s] w fun e w' => e = .returned (decR s) ∧ Below w.heap.size w w' := by
 obtain ⟨R, hR⟩ : ∃ R, decR s = R := ⟨_, rfl⟩
 rw [hR]
 unfold decR at hR
 have HCk := Lib.hid (fun W => ccheck_any W s (by omega))
 have HO9 : Hid ((#[Value.int .i64 0, Value.int .i64 0, Value.int .i64 0, Value.int .i64 0, Value.int .i64 0, Value.int .i64 0, Value.int .i64 0, Value.int .u32 0, Value.string ⟨#[]⟩] : Array Value).all (·.oneCell') = true) := Lib.hid (by simp [Value.oneCell'])
 have HO3 : Hid ((#[Value.int .i64 0, Value.int .i64 0, Value.int .i64 0] : Array Value).all (·.oneCell') = true) := Lib.hid (by simp [Value.oneCell'])
 have hm : ∃ wz, (w.alloc (.cells #[.int .i64 0, .int .i64 0, .int .i64 0, .int .i64 0, .int .i64 0, .int .i64 0, .int .i64 0, .int .u32 0, .string ⟨#[]⟩] 34)).alloc (.cells #[.int .i64 0, .int .i64 0, .int .i64 0] 36) = wz ∧ Blk wz w.heap.size 34 zeroL ∧ Blk wz (w.heap.size + 1) 36 [.int .i64 0, .int .i64 0, .int .i64 0] ∧ Below w.heap.size w wz := by
  refine ⟨_, rfl, ?_, ?_, ((Below.refl _ _).alloc (Nat.le_refl _) _).alloc (by simp) _⟩
  ·exact (Blk.new w 34 zeroL).kept ((Below.refl _ _).alloc (Nat.le_refl _) _)
  ·have h := Blk.new (w.alloc (.cells #[.int .i64 0, .int .i64 0, .int .i64 0, .int .i64 0, .int .i64 0, .int .i64 0, .int .i64 0, .int .u32 0, .string ⟨#[]⟩] 34)) 36 [.int .i64 0, .int .i64 0, .int .i64 0]
   rw [show (w.alloc (.cells #[.int .i64 0, .int .i64 0, .int .i64 0, .int .i64 0, .int .i64 0, .int .i64 0, .int .i64 0, .int .u32 0, .string ⟨#[]⟩] 34)).heap.size = w.heap.size + 1 by simp] at h
   exact h
 obtain ⟨wz, hwz, hz, hq, hb⟩ := hm
 have HZ := Lib.hid hz
 have HQ := Lib.hid hq
 have HB := Lib.hid hb
 have HWZ := Lib.hid hwz
 clear hz hq hb hwz
 go_enter Tryz.func17, Tryz.ntmps17
 go_upto_region 1 with fail
 rw [HWZ.out]
 clear HWZ
 by_cases hc : chkE (bs s) = 0
 ·rw [if_neg (by simpa using hc)] at hR
  rw [hc] at HCk
  by_cases h836 : s.size ≤ 836
  ·rw [if_neg (by omega)] at hR
   have hok := chkE_ok hc
   have hsub : IntKind.i64.wrap (836 - (s.size : Int)) = ((836 - s.size : Nat) : Int) := by rw [IntKind.wrap_i64]; omega
   obtain ⟨F, hF⟩ : ∃ F, strB (fullL s) = F := ⟨_, rfl⟩
   obtain ⟨L, hL⟩ : ∃ L, strB (wordL s) = L := ⟨_, rfl⟩
   obtain ⟨P, hP⟩ : ∃ P, strB (List.replicate (836 - s.size) 63) = P := ⟨_, rfl⟩
   obtain ⟨n, hn⟩ : ∃ n : Nat, 836 - s.size = n := ⟨_, rfl⟩
   have hbF : bs F = fullL s := by rw [← hF]; exact bs_strB (full_bytes s)
   have hbL : bs L = wordL s := by rw [← hL]; exact bs_strB (word_bytes h836)
   have zF : F.size = 836 := by rw [← hF, strB_size, full_len h836]
   have zL : L.size = 836 := by rw [← hL, strB_size, word_len]
   have hsP : s ++ P = F := by rw [← hF, ← hP]; unfold fullL; rw [← strB_cat, strB_bs]
   have zP : P.size = n := by rw [← hP, strB_size, List.length_replicate, hn]
   have hsn : (s.size : Int) + n = 836 := by omega
   have hsn2 : s.size + n = 836 := by omega
   rw [hn] at hsub hP
   have HRp : Hid (∀ W : World, Calls Tryz.prog 31 #[.string ⟨#[63]⟩, .int .i64 (n : Int)] W fun e w' => e = .returned (.string P) ∧ Below W.heap.size W w') := Lib.hid (fun W => by
    have h := repeat_any W 63 n (by omega)
    rw [show (63 : UInt8).toNat = 63 from rfl, hP] at h
    exact h)
   obtain ⟨U, hU⟩ : ∃ U : Int, (((fullL s).count 63 : Nat) : Int) = U := ⟨_, rfl⟩
   have HUn : Hid (∀ W : World, Calls Tryz.prog 49 #[.string F] W fun e w' => e = .returned (.int .i64 U) ∧ W = w') := Lib.hid (fun W => by
    have h := cunr_any W F
    rw [hbF, hU] at h
    exact h)
   have HDe : Hid (∀ W : World, Calls Tryz.prog 50 #[.string F, .int .i64 8] W fun e w' => e = .returned (.tuple #[.string L, .int .i64 0]) ∧ Below W.heap.size W w') := Lib.hid (fun W => by
    have h := dein_any W F zF
    rw [hbF, show strB (deinL (fullL s)) = L from hL] at h
    exact h)
   have HEx : Hid (∀ W : World, Calls Tryz.prog 51 #[.string L] W fun e w' => e = .returned (extR (wordL s)) ∧ Below W.heap.size W w') := Lib.hid (fun W => by
    have h := vext_any W L (by omega) (by omega) (by omega) (by rw [hbL]; exact word_ok hok h836)
    rw [hbL] at h
    exact h)
   have HVi : Hid (∀ W : World, Calls Tryz.prog 52 #[.string L] W fun e w' => (∃ f : Bool, e = .returned (.tuple #[.string (strB (bitsS (vdec 416 (wordL s) 0))), .int .i64 (vst (wordL s) 0), .bool f, .int .i64 0])) ∧ Below W.heap.size W w') := Lib.hid (fun W => by
    have h := vdecode_any W L 416 (by omega) (by omega) (by rw [hbL]; unfold chkE; rw [word_ok hok h836]; rfl)
    rw [hbL] at h
    exact h)
   obtain ⟨B, hB⟩ : ∃ B, strB (bitsS (inner (wordL s)).1) = B := ⟨_, rfl⟩
   obtain ⟨D, hD⟩ : ∃ D, (inner (wordL s)).2 = D := ⟨_, rfl⟩
   obtain ⟨V, hV⟩ : ∃ V, strB (recL s) = V := ⟨_, rfl⟩
   have hi := inner_len (word_len s)
   have hbB : bs B = bitsS (inner (wordL s)).1 := by rw [← hB]; exact bs_strB (bitsS_bytes hi.2)
   have zB : B.size = 416 := by rw [← hB, strB_size, bitsS_len, hi.1]
   have hbV : bs V = recL s := by rw [← hV]; exact bs_strB (rec_bytes s)
   have zV : V.size = 52 := by rw [← hV, strB_size, rec_len]
   have HTo : Hid (∀ W : World, Calls Tryz.prog 53 #[.string B] W fun e w' => e = .returned (.tuple #[.string V, .slice none 0 0, .int .i64 0]) ∧ Below W.heap.size W w') := Lib.hid (fun W => by
    have h := cto_any W B (by omega) (by omega) (by rw [hbB]; exact bitsS_01 hi.2)
    rw [hbB, show strB (toB (bitsS (inner (wordL s)).1)) = V from hV] at h
    exact h)
   have HDd : Hid (∀ W : World, Calls Tryz.prog 54 #[.string V, .int .i64 8, .slice none 0 0] W fun e w' => e = .returned (rsDecR (recL s)) ∧ Below W.heap.size W w') := Lib.hid (fun W => by
    have h := ddec_any W V (by omega) (by omega)
    rw [hbV] at h
    exact h)
   have hg : decide ((836 : Int) < s.size) = false := decide_eq_false (by omega)
   have hD2 := Lib.hid hD; have hUc := Lib.hid hU
   have HR := Lib.hid hR
   have HI : Hid (bs B = bitsS (inner (wordL s)).1 ∧ (inner (wordL s)).2 = D) := Lib.hid ⟨hbB, hD⟩
   clear hR hbF hbL zF zL hF hL hP hn hU hB hD hV hi hbB hbV zB zV hc h836 hok
   go_upto_region 7 with (first | (go_at_call 48; refine (HCk.out _).mono ?_; rintro e w1 ⟨rfl, hb1⟩) | (go_at_call 31; refine (HRp.out _).mono ?_; rintro e w2 ⟨rfl, hb2⟩))
   have eB : Below wz.heap.size wz w2 := hb1.trans (hb2.mono hb1.size)
   have hZ2 := HZ.out.kept eB
   have hQ2 := HQ.out.kept eB
   have hB2 := HB.out.trans (eB.mono HB.out.size)
   have hg6 : w.heap.size + 2 ≤ w2.heap.size := by have := HQ.out.lt; have := eB.size; omega
   have hA : Below w2.heap.size w2 (w2.alloc (.cells #[.int .i64 0, .int .i64 U, .int .i64 0] 36)) := (Below.refl _ _).alloc (Nat.le_refl _) _
   have HZ3 := Lib.hid (hZ2.kept hA)
   have HQ3 := Lib.hid (hQ2.kept hA)
   have HB3 := Lib.hid (hB2.trans (hA.mono hB2.size))
   have HX3 := Lib.hid (Blk.new w2 36 [.int .i64 0, .int .i64 U, .int .i64 0])
   change Hid (Blk (w2.alloc (.cells #[.int .i64 0, .int .i64 U, .int .i64 0] 36)) _ _ _) at HX3
   clear hb1 hb2 eB hZ2 hQ2 hB2 hA HZ HQ HB
   obtain ⟨g6, hg6e⟩ : ∃ g, w2.heap.size = g := ⟨_, rfl⟩
   rw [hg6e] at HX3 hg6
   go_upto_region 9 with (first | (go_at_call 49; refine (HUn.out _).mono ?_; rintro e w' ⟨rfl, rfl⟩) | (go_at_call 50; refine (HDe.out _).mono ?_; rintro e w4 ⟨rfl, hb4⟩))
   have HZ4 := Lib.hid (HZ3.out.kept hb4)
   have HQ4 := Lib.hid (HQ3.out.kept hb4)
   have HX4 := Lib.hid (HX3.out.kept hb4)
   have HB4 := Lib.hid (HB3.out.trans (hb4.mono HB3.out.size))
   clear hb4 HZ3 HQ3 HX3 HB3 HUn HDe HRp HCk
   clear hg6e
   have hEx : ∃ (X : ByteArray) (e : Int) (b : Bool), extR (wordL s) = .tuple #[.string X, .int .i64 e] ∧ (e != 0) = b ∧ (b = false → X = B ∧ D = 0) ∧ (b = true → strB (bitsS (vdec 416 (wordL s) 0)) = B ∧ vst (wordL s) 0 = D) := by
    obtain ⟨h1, h2⟩ := HI.out
    have h3 : B = strB (bitsS (inner (wordL s)).1) := by rw [← h1, strB_bs]
    unfold inner at h2 h3
    unfold extR
    cases hx : extP (wordL s) with
    | none =>
     rw [hx] at h2 h3
     exact ⟨_, _, true, rfl, rfl, (fun h => Bool.noConfusion h), (fun _ => ⟨h3.symm, h2⟩)⟩
    | some u =>
     rw [hx] at h2 h3
     exact ⟨_, _, false, rfl, rfl, (fun _ => ⟨h3.symm, h2.symm⟩), (fun h => Bool.noConfusion h)⟩
   obtain ⟨X, e0, be, hx1, hx2, hx3, hx4⟩ := hEx
   rw [hx1] at HEx
   have H3 := Lib.hid hx3
   have H4 := Lib.hid hx4
   clear hx1 hx3 hx4 HI
   go_upto_if 49 with (go_at_call 51; refine (HEx.out _).mono ?_; rintro e w5 ⟨rfl, hb5⟩)
   have HZ5 := Lib.hid (HZ4.out.kept hb5)
   have HQ5 := Lib.hid (HQ4.out.kept hb5)
   have HX5 := Lib.hid (HX4.out.kept hb5)
   have HB5 := Lib.hid (HB4.out.trans (hb5.mono HB4.out.size))
   clear hb5 HZ4 HQ4 HX4 HB4 HEx
   go_cut [9] (fun s9 wx => s9 = .string B ∧ Blk wx w.heap.size 34 zeroL ∧ Blk wx (w.heap.size + 1) 36 [.int .i64 0, .int .i64 0, .int .i64 0] ∧ Blk wx g6 36 [.int .i64 D, .int .i64 U, .int .i64 0] ∧ Below w.heap.size w wx)
   case first =>
    cases be with
    | false =>
     obtain ⟨h5, h6⟩ := H3.out rfl
     subst h5 h6
     go_wp2_with fail
     go_meet
     exact ⟨rfl, HZ5.out, HQ5.out, HX5.out, HB5.out⟩
    | true =>
     obtain ⟨h5, h6⟩ := H4.out rfl
     rw [h5, h6] at HVi
     clear h5 h6
     go_wp2_with (go_at_call 52; refine (HVi.out _).mono ?_; rintro e w6 ⟨⟨f, rfl⟩, hb6⟩; have hx6 := HX5.out.kept hb6; have k0 := hx6.cell (i := 0) rfl; have f0 := hx6.frozen 0)
     go_meet
     exact ⟨rfl, (HZ5.out.kept hb6).far (by simp; omega) _, (HQ5.out.kept hb6).far (by simp; omega) _, hx6.set 0 _, (HB5.out.trans (hb6.mono HB5.out.size)).setCell (by simp; omega) _⟩
   case rest =>
   obtain ⟨rfl, hz, hq, hx, hbw⟩ := hcut
   have HZ6 := Lib.hid hz
   have HQ6 := Lib.hid hq
   have HX6 := Lib.hid hx
   have HB6 := Lib.hid hbw
   clear hz hq hx hbw HZ5 HQ5 HX5 HB5 HVi H3 H4 hx2
   cases hd : rsDec (recL s) with
   | none =>
    have hR := HR.out
    rw [hd] at hR
    dsimp only at hR
    have HR2 := Lib.hid hR
    unfold rsDecR at HDd
    rw [hd] at HDd
    dsimp only at HDd
    clear hR HR hd
    go_upto_region 15 with (first | (go_at_call 53; refine (HTo.out _).mono ?_; rintro e w6 ⟨rfl, hb6⟩) | (go_at_call 54; refine (HDd.out _).mono ?_; rintro e w7 ⟨rfl, hb7⟩))
    have eB := hb6.trans (hb7.mono hb6.size)
    have HZ7 := Lib.hid (HZ6.out.kept eB)
    have HQ7 := Lib.hid (HQ6.out.kept eB)
    have HB7 := Lib.hid (HB6.out.trans (eB.mono HB6.out.size))
    clear eB hb6 hb7 HZ6 HQ6 HX6 HB6 HTo HDd
    go_upto_region 15 with (fail)
    have hZ7 := HZ7.out; have hQ7 := HQ7.out; have hB7 := HB7.out
    obtain ⟨W1, W2, hE1, hE2, hT1, hT2, hF, hQ, hG⟩ := two_stores (g2 := w.heap.size) (g3 := w.heap.size + 1) hZ7 hQ7 (by omega) hB7 (Nat.le_refl _) (by omega) zeroL [.int .i64 0, .int .i64 0, .int .i64 0] rfl rfl
    have HE1 := Lib.hid hE1; have HE2 := Lib.hid hE2; have HT1 := Lib.hid hT1; have HT2 := Lib.hid hT2; have HF2 := Lib.hid hF; have HQ2 := Lib.hid hQ; have HG := Lib.hid hG
    clear hE1 hE2 hT1 hT2 hF hQ hG hZ7 hQ7 hB7
    go_wp2_with (first | refine frm_store rfl (.tmp 2) (.tmp 72) rfl _ _ rfl rfl HT1.out rfl HO9.out W1 HE1.out ?_ | refine qual_store rfl (.tmp 3) (.tmp 73) rfl _ _ rfl rfl HT2.out rfl HO3.out W2 HE2.out ?_)
    have hF := HF2.out; have hQ := HQ2.out; unfold zeroL at hF
    have c0 := hF.cell (i := 0) rfl; have c1 := hF.cell (i := 1) rfl; have c2 := hF.cell (i := 2) rfl; have c3 := hF.cell (i := 3) rfl; have c4 := hF.cell (i := 4) rfl; have c5 := hF.cell (i := 5) rfl; have c6 := hF.cell (i := 6) rfl; have c7 := hF.cell (i := 7) rfl; have c8 := hF.cell (i := 8) rfl
    have d0 := hQ.cell (i := 0) rfl; have d1 := hQ.cell (i := 1) rfl; have d2 := hQ.cell (i := 2) rfl
    rw [← HR2.out]
    exact bodyPost_ret (v := .tuple #[zeroF, zeroQ, .int .i64 11]) (by simp [results, Tryz.results17, go_sem, zeroF, frV, zeroQ, qualV, c0, c1, c2, c3, c4, c5, c6, c7, c8, d0, d1, d2]) rfl ⟨rfl, HG.out⟩
   | some on =>
    obtain ⟨o, nn⟩ := on
    obtain ⟨ho1, ho2⟩ := rsDec_len (rec_bytes s) hd
    rw [rec_len] at ho1
    have hR := HR.out
    rw [hd] at hR
    dsimp only at hR
    unfold rsDecR at HDd
    rw [hd] at HDd
    dsimp only at HDd
    have hM := take44 ho2
    obtain ⟨O, hO⟩ : ∃ O, strB o = O := ⟨_, rfl⟩
    obtain ⟨M, hMe⟩ : ∃ M, strB (o.take 44) = M := ⟨_, rfl⟩
    have zO : O.size = 52 := by rw [← hO, strB_size, ho1]
    have zM : M.size ≤ 1000 := by rw [← hMe, strB_size, List.length_take]; omega
    obtain ⟨N, hN⟩ : ∃ x : Int, ((nn : Nat) : Int) = x := ⟨_, rfl⟩
    rw [hO, hN] at HDd
    rw [hO] at hM
    rw [hN] at hR
    clear hN
    rw [hMe] at hM hR
    have HUm := Lib.hid (fun W => funm_any W M zM)
    obtain ⟨k, r, q, i, l, d, p, a, t, hfr⟩ := frame_parts M
    rw [unmR_eq, hfr] at HUm
    obtain ⟨C, hC⟩ : ∃ C, unmC M = C := ⟨_, rfl⟩
    rw [hC] at HUm hR hfr
    have HR := Lib.hid hR
    have HFr := Lib.hid hfr
    unfold frV at HUm
    clear hR hd ho1 ho2 hO hMe zM hfr hC
    go_upto_region 16 with (first | (go_at_call 53; refine (HTo.out _).mono ?_; rintro e w6 ⟨rfl, hb6⟩) | (go_at_call 54; refine (HDd.out _).mono ?_; rintro e w7 ⟨rfl, hb7⟩))
    have eB := hb6.trans (hb7.mono hb6.size)
    have hX7 := HX6.out.kept eB
    have HZ7 := Lib.hid ((HZ6.out.kept eB).far (p := ⟨g6, 2, none⟩) (by simp; omega) (.int .i64 N))
    have HQ7 := Lib.hid ((HQ6.out.kept eB).far (p := ⟨g6, 2, none⟩) (by simp; omega) (.int .i64 N))
    have HX7 := Lib.hid (hX7.set 2 (.int .i64 N))
    have HB7 := Lib.hid ((HB6.out.trans (eB.mono HB6.out.size)).setCell (p := ⟨g6, 2, none⟩) (by simp; omega) (.int .i64 N))
    have k2 := hX7.cell (i := 2) rfl
    have f2 := hX7.frozen 2
    clear eB hb6 hX7 HZ6 HQ6 HX6 HB6 HTo HDd
    go_upto_region 17 with fail
    generalize w7.setCell ⟨g6, 2, none⟩ (.int .i64 N) = wy at *
    clear k2 f2 hb7
    go_upto_region 18 with (go_at_call 55; refine (HUm.out _).mono ?_; rintro e w8 ⟨rfl, hb8⟩)
    have hA : Below w8.heap.size w8 (w8.alloc (.cells #[.int .i64 k, .int .i64 r, .int .i64 q, .int .i64 i, .int .i64 l, .int .i64 d, .int .i64 p, .int .u32 a, .string t] 34)) := (Below.refl _ _).alloc (Nat.le_refl _) _
    have eB := hb8.trans (hA.mono hb8.size)
    have HZ9 := Lib.hid (HZ7.out.kept eB)
    have HQ9 := Lib.hid (HQ7.out.kept eB)
    have HX9 := Lib.hid (HX7.out.kept eB)
    have HB9 := Lib.hid (HB7.out.trans (eB.mono HB7.out.size))
    have HS9 := Lib.hid (Blk.new w8 34 [.int .i64 k, .int .i64 r, .int .i64 q, .int .i64 i, .int .i64 l, .int .i64 d, .int .i64 p, .int .u32 a, .string t])
    change Hid (Blk (w8.alloc (.cells #[.int .i64 k, .int .i64 r, .int .i64 q, .int .i64 i, .int .i64 l, .int .i64 d, .int .i64 p, .int .u32 a, .string t] 34)) _ _ _) at HS9
    have h16 : w.heap.size + 2 ≤ w8.heap.size := by have := HQ7.out.lt; have := hb8.size; omega
    clear hA eB hb8 HZ7 HQ7 HX7 HB7 HUm
    generalize w8.alloc (.cells #[.int .i64 k, .int .i64 r, .int .i64 q, .int .i64 i, .int .i64 l, .int .i64 d, .int .i64 p, .int .u32 a, .string t] 34) = w9 at *
    generalize w8.heap.size = g16 at *
    by_cases hC0 : C = 0
    ·subst hC0
     have hR := HR.out
     rw [if_pos rfl] at hR
     have hfr := HFr.out
     rw [if_pos rfl] at hfr
     rw [hfr, hD2.out, hUc.out] at hR
     have HR2 := Lib.hid hR
     have HSb : Hid (Quad w9 g16 g6 (.int .i64 k) (.int .i64 r) (.int .i64 q) (.int .i64 i) (.int .i64 l) (.int .i64 d) (.int .i64 p) (.int .u32 a) (.string t) (.int .i64 D) (.int .i64 U) (.int .i64 N)) := Lib.hid ⟨Box9.blk HS9.out, HX9.out, HX9.out.cell (i := 0) rfl, HX9.out.cell (i := 1) rfl, HX9.out.cell (i := 2) rfl⟩
     clear hR hfr HR HFr
     go_upto_region 20 with fail
     go_cut [4] (fun s4 wx => s4 = .int .i64 0 ∧ Blk wx w.heap.size 34 [.int .i64 k, .int .i64 r, .int .i64 q, .int .i64 i, .int .i64 l, .int .i64 d, .int .i64 p, .int .u32 a, .string t] ∧ Blk wx (w.heap.size + 1) 36 [.int .i64 D, .int .i64 U, .int .i64 N] ∧ Below w.heap.size w wx)
     case first =>
      refine wp_region_held_drew (S := (fun w' => Box9 w' g16 (.int .i64 k) (.int .i64 r) (.int .i64 q) (.int .i64 i) (.int .i64 l) (.int .i64 d) (.int .i64 p) (.int .u32 a) (.string t) ∧ Blk w' g6 36 [.int .i64 D, .int .i64 U, .int .i64 N] ∧ w'.cell? ⟨g6, 0, none⟩ = some (.int .i64 D) ∧ w'.cell? ⟨g6, 1, none⟩ = some (.int .i64 U) ∧ w'.cell? ⟨g6, 2, none⟩ = some (.int .i64 N))) (by kernel_rfl) ?_ (fun hHeld => ?_)
      ·(first | exact quad_drw HSb.out | exact quad_turned (quad_turned (quad_drw HSb.out) tF (by omega) (by omega)) tQ (by omega) (by omega) | exact quad_turned (quad_turned (quad_drw HSb.out) tQ (by omega) (by omega)) tF (by omega) (by omega) | exact quad_turned (quad_drw HSb.out) tF (by omega) (by omega) | exact quad_turned (quad_drw HSb.out) tQ (by omega) (by omega))
      refine tk 0 ?_
      refine tk 1 ?_
      refine wpAnyH_ready (rs := [2]) (by kernel_rfl) (by simp) ?_
      refine AllReadyH.cons (o := _) rfl (fun K hK => ?_) ?_
      ·refine step_storeF (g := w.heap.size) (us := zeroL) rfl (.tmp 2) (.tmp 88) rfl _ rfl rfl rfl (by simp [Value.oneCell']) (by first | exact HZ9.out | exact (show Blk _ _ _ _ from HZ9.out).turned tQ (by omega)) rfl ?_
       intro wF pF tF
       refine hko hK (by (first | exact quad_drw HSb.out | exact quad_turned (quad_turned (quad_drw HSb.out) tF (by omega) (by omega)) tQ (by omega) (by omega) | exact quad_turned (quad_turned (quad_drw HSb.out) tQ (by omega) (by omega)) tF (by omega) (by omega) | exact quad_turned (quad_drw HSb.out) tF (by omega) (by omega) | exact quad_turned (quad_drw HSb.out) tQ (by omega) (by omega))) (fun _ => ?_)
       clear hK K
       refine wpAnyH_ready (rs := [3]) (by kernel_rfl) (by simp) ?_
       refine AllReadyH.cons (o := _) rfl (fun K hK => ?_) ?_
       ·refine step_storeQ (g := w.heap.size + 1) (us := [.int .i64 0, .int .i64 0, .int .i64 0]) rfl (.tmp 3) (.tmp 89) rfl _ rfl rfl rfl (by simp [Value.oneCell']) (Blk.turned (A := w9.drew) HQ9.out tF (by omega)) rfl ?_
        intro wQ pQ tQ
        refine hko hK (by (first | exact quad_drw HSb.out | exact quad_turned (quad_turned (quad_drw HSb.out) tF (by omega) (by omega)) tQ (by omega) (by omega) | exact quad_turned (quad_turned (quad_drw HSb.out) tQ (by omega) (by omega)) tF (by omega) (by omega) | exact quad_turned (quad_drw HSb.out) tF (by omega) (by omega) | exact quad_turned (quad_drw HSb.out) tQ (by omega) (by omega))) (fun _ => ?_)
        clear hK K
        refine tk 4 ?_
        refine wpAnyH_done (by kernel_rfl) ?_ _
        have eB : Below w.heap.size w wQ := tQ.below (tF.below HB9.out.drew (by omega)) (by omega)
        have pF2 := pF.turned tQ (by omega)
        clear tF tQ pF
        go_wp2_with fail
        go_meet
        exact ⟨rfl, pF2, pQ, eB⟩
       exact AllReadyH.nil
      exact AllReadyH.nil

     case rest =>
      obtain ⟨rfl, hF, hQ, hG⟩ := hcut
      clear HSb HS9 HX9 HZ9 HQ9 HB9
      have HF2 := Lib.hid hF; have HQ2 := Lib.hid hQ; have HG := Lib.hid hG
      clear hF hQ hG
      go_wp2_with fail
      have hF := HF2.out; have hQ := HQ2.out
      have c0 := hF.cell (i := 0) rfl; have c1 := hF.cell (i := 1) rfl; have c2 := hF.cell (i := 2) rfl; have c3 := hF.cell (i := 3) rfl; have c4 := hF.cell (i := 4) rfl; have c5 := hF.cell (i := 5) rfl; have c6 := hF.cell (i := 6) rfl; have c7 := hF.cell (i := 7) rfl; have c8 := hF.cell (i := 8) rfl
      have d0 := hQ.cell (i := 0) rfl; have d1 := hQ.cell (i := 1) rfl; have d2 := hQ.cell (i := 2) rfl
      rw [← HR2.out]
      exact bodyPost_ret (v := .tuple #[frV k r q i l d p a t, qualV D U N, .int .i64 0]) (by simp [results, Tryz.results17, go_sem, frV, qualV, c0, c1, c2, c3, c4, c5, c6, c7, c8, d0, d1, d2]) rfl ⟨rfl, HG.out⟩
    ·have hR := HR.out
     rw [if_neg hC0] at hR
     have HR2 := Lib.hid hR
     have h1 : (C != 0) = true := by simpa using hC0
     clear hR hC0 HR HFr HS9 HX9
     go_upto_region 19 with (fail)
     have hZ7 := HZ9.out; have hQ7 := HQ9.out; have hB7 := HB9.out
     obtain ⟨W1, W2, hE1, hE2, hT1, hT2, hF, hQ, hG⟩ := two_stores (g2 := w.heap.size) (g3 := w.heap.size + 1) hZ7 hQ7 (by omega) hB7 (Nat.le_refl _) (by omega) zeroL [.int .i64 0, .int .i64 0, .int .i64 0] rfl rfl
     have HE1 := Lib.hid hE1; have HE2 := Lib.hid hE2; have HT1 := Lib.hid hT1; have HT2 := Lib.hid hT2; have HF2 := Lib.hid hF; have HQ2 := Lib.hid hQ; have HG := Lib.hid hG
     clear hE1 hE2 hT1 hT2 hF hQ hG hZ7 hQ7 hB7
     go_wp2_with (first | refine frm_store rfl (.tmp 2) (.tmp 85) rfl _ _ rfl rfl HT1.out rfl HO9.out W1 HE1.out ?_ | refine qual_store rfl (.tmp 3) (.tmp 86) rfl _ _ rfl rfl HT2.out rfl HO3.out W2 HE2.out ?_)
     have hF := HF2.out; have hQ := HQ2.out; unfold zeroL at hF
     have c0 := hF.cell (i := 0) rfl; have c1 := hF.cell (i := 1) rfl; have c2 := hF.cell (i := 2) rfl; have c3 := hF.cell (i := 3) rfl; have c4 := hF.cell (i := 4) rfl; have c5 := hF.cell (i := 5) rfl; have c6 := hF.cell (i := 6) rfl; have c7 := hF.cell (i := 7) rfl; have c8 := hF.cell (i := 8) rfl
     have d0 := hQ.cell (i := 0) rfl; have d1 := hQ.cell (i := 1) rfl; have d2 := hQ.cell (i := 2) rfl
     rw [← HR2.out]
     exact bodyPost_ret (v := .tuple #[zeroF, zeroQ, .int .i64 C]) (by simp [results, Tryz.results17, go_sem, zeroF, frV, zeroQ, qualV, c0, c1, c2, c3, c4, c5, c6, c7, c8, d0, d1, d2]) rfl ⟨rfl, HG.out⟩

  ·rw [if_pos (by omega)] at hR
   have HR2 := Lib.hid hR
   have h8 : (836 : Int) < s.size := by omega
   clear hR hc h836
   go_upto_region 5 with (go_at_call 48; refine (HCk.out _).mono ?_; rintro e w7 ⟨rfl, hb7⟩)
   have hZ7 := HZ.out.kept hb7; have hQ7 := HQ.out.kept hb7; have hB7 := HB.out.trans (hb7.mono HB.out.size)
   obtain ⟨W1, W2, hE1, hE2, hT1, hT2, hF, hQ, hG⟩ := two_stores (g2 := w.heap.size) (g3 := w.heap.size + 1) hZ7 hQ7 (by omega) hB7 (Nat.le_refl _) (by omega) zeroL [.int .i64 0, .int .i64 0, .int .i64 0] rfl rfl
   have HE1 := Lib.hid hE1; have HE2 := Lib.hid hE2; have HT1 := Lib.hid hT1; have HT2 := Lib.hid hT2; have HF2 := Lib.hid hF; have HQ2 := Lib.hid hQ; have HG := Lib.hid hG
   clear hE1 hE2 hT1 hT2 hF hQ hG hZ7 hQ7 hB7 hb7
   go_wp2_with (first | refine frm_store rfl (.tmp 2) (.tmp 27) rfl _ _ rfl rfl HT1.out rfl HO9.out W1 HE1.out ?_ | refine qual_store rfl (.tmp 3) (.tmp 28) rfl _ _ rfl rfl HT2.out rfl HO3.out W2 HE2.out ?_)
   have hF := HF2.out; have hQ := HQ2.out; unfold zeroL at hF
   have c0 := hF.cell (i := 0) rfl; have c1 := hF.cell (i := 1) rfl; have c2 := hF.cell (i := 2) rfl; have c3 := hF.cell (i := 3) rfl; have c4 := hF.cell (i := 4) rfl; have c5 := hF.cell (i := 5) rfl; have c6 := hF.cell (i := 6) rfl; have c7 := hF.cell (i := 7) rfl; have c8 := hF.cell (i := 8) rfl
   have d0 := hQ.cell (i := 0) rfl; have d1 := hQ.cell (i := 1) rfl; have d2 := hQ.cell (i := 2) rfl
   rw [← HR2.out]
   exact bodyPost_ret (v := .tuple #[zeroF, zeroQ, .int .i64 6]) (by simp [results, Tryz.results17, go_sem, zeroF, frV, zeroQ, qualV, c0, c1, c2, c3, c4, c5, c6, c7, c8, d0, d1, d2]) rfl ⟨rfl, HG.out⟩
 ·rw [if_pos hc] at hR
  obtain ⟨E, hE⟩ : ∃ E, chkE (bs s) = E := ⟨_, rfl⟩
  rw [hE] at hR HCk hc
  have HR2 := Lib.hid hR
  have h1 : (E != 0) = true := by simpa using hc
  clear hR hc hE
  go_upto_region 3 with (go_at_call 48; refine (HCk.out _).mono ?_; rintro e w7 ⟨rfl, hb7⟩)
  have hZ7 := HZ.out.kept hb7; have hQ7 := HQ.out.kept hb7; have hB7 := HB.out.trans (hb7.mono HB.out.size)
  obtain ⟨W1, W2, hE1, hE2, hT1, hT2, hF, hQ, hG⟩ := two_stores (g2 := w.heap.size) (g3 := w.heap.size + 1) hZ7 hQ7 (by omega) hB7 (Nat.le_refl _) (by omega) zeroL [.int .i64 0, .int .i64 0, .int .i64 0] rfl rfl
  have HE1 := Lib.hid hE1; have HE2 := Lib.hid hE2; have HT1 := Lib.hid hT1; have HT2 := Lib.hid hT2; have HF2 := Lib.hid hF; have HQ2 := Lib.hid hQ; have HG := Lib.hid hG
  clear hE1 hE2 hT1 hT2 hF hQ hG hZ7 hQ7 hB7 hb7
  go_wp2_with (first | refine frm_store rfl (.tmp 2) (.tmp 21) rfl _ _ rfl rfl HT1.out rfl HO9.out W1 HE1.out ?_ | refine qual_store rfl (.tmp 3) (.tmp 22) rfl _ _ rfl rfl HT2.out rfl HO3.out W2 HE2.out ?_)
  have hF := HF2.out; have hQ := HQ2.out; unfold zeroL at hF
  have c0 := hF.cell (i := 0) rfl; have c1 := hF.cell (i := 1) rfl; have c2 := hF.cell (i := 2) rfl; have c3 := hF.cell (i := 3) rfl; have c4 := hF.cell (i := 4) rfl; have c5 := hF.cell (i := 5) rfl; have c6 := hF.cell (i := 6) rfl; have c7 := hF.cell (i := 7) rfl; have c8 := hF.cell (i := 8) rfl
  have d0 := hQ.cell (i := 0) rfl; have d1 := hQ.cell (i := 1) rfl; have d2 := hQ.cell (i := 2) rfl
  rw [← HR2.out]
  exact bodyPost_ret (v := .tuple #[zeroF, zeroQ, .int .i64 E]) (by simp [results, Tryz.results17, go_sem, zeroF, frV, zeroQ, qualV, c0, c1, c2, c3, c4, c5, c6, c7, c8, d0, d1, d2]) rfl ⟨rfl, HG.out⟩

end Go.Proofs.YtnlnmfkmbpihhaaGreatDoor
