/-
  Joined: VqB.
-/
import Derived.Test.YtbccghbngaiceaaGreatDoorMMn16
import Derived.Test.YtbccghbngaiceaaGreatDoorMMn17
import Derived.Test.YtbccghbngaiceaaGreatDoorMMn18
import Derived.Lib.SlBuf
set_option linter.all false
set_option maxRecDepth 100000
set_option maxHeartbeats 64000000
namespace Go.Proofs.YtbccghbngaiceaaGreatDoor
section
open Go.RowKit
theorem grown_setRowW (W : World) (g : Nat) (cs : Array Value) : W.grownBy (W.setRow g cs) (some g) :=
 ⟨rfl, rfl, rfl, by simp [World.setRow], fun k _ hk => by
  have hne : g ≠ k := fun e => hk (by rw [e])
  simp [World.setRow, Array.getElem?_modify, hne]⟩
def brunW (l : List Nat) : Nat → List Int
 | 0 => List.replicate 16 0
 | i + 1 => (brunW l i).set i (wrdW l i)
theorem brunW_len (l : List Nat) (i : Nat) : (brunW l i).length = 16 := by
 induction i with
 | zero => rfl
 | succ i ih => rw [brunW, List.length_set, ih]
theorem brunW_get (l : List Nat) : ∀ q, q ≤ 16 → ∀ i, i < q → getW (brunW l q) i = wrdW l i := by
 intro q
 induction q with
 | zero => intro _ i hi; omega
 | succ q ih =>
  intro hq i hi
  rw [brunW, getW_set (by rw [brunW_len]; omega)]
  by_cases h : q = i
  ·rw [if_pos h, h]
  ·rw [if_neg h, ih (by omega) i (by omega)]
theorem brunW_all (l : List Nat) : brunW l 16 = msgW l := by
 refine ext_getW (by rw [brunW_len, msgW_len]) fun i hi => ?_
 rw [brunW_len] at hi
 rw [brunW_get l 16 (Nat.le_refl _) i hi, getW, msgW, List.getElem?_map, List.getElem?_range hi]
 rfl
structure BSt (w wr : World) (H M V : List Int) : Prop where
 below : Below w.heap.size w wr
 h : Blk wr w.heap.size 176 (H.map u32V)
 r : Blk wr (w.heap.size + 1) 176 ((List.replicate 8 0).map u32V)
 m : Blk wr (w.heap.size + 1 + 1) 251 (M.map u32V)
 v : Blk wr (w.heap.size + 1 + 1 + 1) 251 (V.map u32V)
section
variable {w wr w' : World} {H M V V' : List Int}
theorem BSt.kept (h : BSt w wr H M V) (hb : Below wr.heap.size wr w') : BSt w w' H M V := ⟨h.below.trans (hb.mono h.below.size), h.h.kept hb, h.r.kept hb, h.m.kept hb, h.v.kept hb⟩
theorem BSt.setM (h : BSt w wr H M V) {i : Nat} (hi : i < M.length) (z : Int) : BSt w (wr.setCell ⟨w.heap.size + 1 + 1, i, none⟩ (.int .u32 z)) H (M.set i z) V :=
 ⟨h.below.setCell (by show w.heap.size ≤ w.heap.size + 1 + 1; omega) _, h.h.far (by show w.heap.size ≠ w.heap.size + 1 + 1; omega) _, h.r.far (by show w.heap.size + 1 ≠ w.heap.size + 1 + 1; omega) _, h.m.store hi, h.v.far (by show w.heap.size + 1 + 1 + 1 ≠ w.heap.size + 1 + 1; omega) _⟩
theorem BSt.setV (h : BSt w wr H M V) {i : Nat} (hi : i < V.length) (z : Int) : BSt w (wr.setCell ⟨w.heap.size + 1 + 1 + 1, i, none⟩ (.int .u32 z)) H M (V.set i z) :=
 ⟨h.below.setCell (by show w.heap.size ≤ w.heap.size + 1 + 1 + 1; omega) _, h.h.far (by show w.heap.size ≠ w.heap.size + 1 + 1 + 1; omega) _, h.r.far (by show w.heap.size + 1 ≠ w.heap.size + 1 + 1 + 1; omega) _, h.m.far (by show w.heap.size + 1 + 1 ≠ w.heap.size + 1 + 1 + 1; omega) _, h.v.store hi⟩
theorem BSt.setH (h : BSt w wr H M V) {i : Nat} (hi : i < H.length) (z : Int) : BSt w (wr.setCell ⟨w.heap.size, i, none⟩ (.int .u32 z)) (H.set i z) M V :=
 ⟨h.below.setCell (Nat.le_refl _) _, h.h.store hi, h.r.far (by show w.heap.size + 1 ≠ w.heap.size; omega) _, h.m.far (by show w.heap.size + 1 + 1 ≠ w.heap.size; omega) _, h.v.far (by show w.heap.size + 1 + 1 + 1 ≠ w.heap.size; omega) _⟩
theorem BSt.grownV (h : BSt w wr H M V) (hg : wr.grownBy w' (some (w.heap.size + 1 + 1 + 1))) (hv : Blk w' (w.heap.size + 1 + 1 + 1) 251 (V'.map u32V)) : BSt w w' H M V' :=
 ⟨h.below.grown hg h.below.size (fun k hk => by cases hk; omega), h.h.grownB hg (by simp <;> omega), h.r.grownB hg (by simp <;> omega), h.m.grownB hg (by simp <;> omega), hv⟩
theorem BSt.rowV (h : BSt w wr H M V) : BSt w (wr.setRow (w.heap.size + 1 + 1 + 1) (V'.map u32V).toArray) H M V' := h.grownV (grown_setRowW _ _ _) (setRow_heap _ _ _ _ _ _ h.v)
end
theorem cpy_all {H : List Int} (h : H.length = 8) : (((List.replicate 16 (0 : Int)).take 0 ++ H ++ (List.replicate 16 (0 : Int)).drop 8).take 8 ++ initW ++ ((List.replicate 16 (0 : Int)).take 0 ++ H ++ (List.replicate 16 (0 : Int)).drop 8).drop (8 + 8)) = H ++ initW := by
 match H, h with
 | [a, b, c, d, e, f, g, i], _ => rfl
theorem cpy_words {W : World} {ty : TypeId} {g g2 n c o : Nat} {t t2 : TypeId} {V U : List Int} (hV : Blk W g t (V.map u32V)) (hU : Blk W g2 t2 (U.map u32V)) (hUl : U.length = 8) (ho : o + 8 ≤ V.length) (hn : 8 ≤ n) :
  (Builtin.copy_ #[252, 252] ty #[.slice (some ⟨g, o, none⟩) n c, .slice (some ⟨g2, 0, none⟩) 8 8]).run Tryz.prog W = .ok (goInt 8) (W.setRow g ((V.take o ++ U ++ V.drop (o + 8)).map u32V).toArray) := by
 have h := run_copy_row (P := Tryz.prog) W 252 252 ty 23 g o n c ⟨g2, 0, none⟩ 8 8 _ t (U.map u32V) Tryz.underlying252 (by kernel_rfl) hV (by rw [List.length_map, hUl]; exact (Nat.min_eq_left hn).symm) (fun j u hu => by
  rw [Addr.add_lit, Nat.zero_add]
  exact hU.cell hu) (by simp [hUl]; try omega) (fun u hu => by
  obtain ⟨x, _, rfl⟩ := List.mem_map.1 hu
  rfl)
 rw [List.length_map, hUl] at h
 rw [h]
 simp [List.map_append, List.map_take, List.map_drop]
theorem bcompress_any (w : World) (H : List Int) (hH : H.length = 8) (s : ByteArray) (hs : s.size = 64) (cnt : Nat) (hcnt : cnt < 18446744073709551616) (last : Bool) :
  Calls Tryz.prog 100 #[.agg (H.map u32V).toArray, .string s, .int .u64 (cnt : Int), .bool last] w fun e w' => e = .returned (.tuple #[.agg ((comW H (bs s) cnt last).map u32V).toArray, .int .i64 0]) ∧ Below w.heap.size w w' := by
 obtain ⟨R, hR⟩ : ∃ R, comW H (bs s) cnt last = R := ⟨_, rfl⟩
 rw [hR]
 have HR := Lib.hid hR
 have HH := Lib.hid hH
 clear hR hH
 have h1 : Hid (BSt w ((((w.alloc (.cells (H.map u32V).toArray 176)).alloc (.cells (List.replicate 8 (.int .u32 0)).toArray 176)).alloc (.cells (List.replicate 16 (.int .u32 0)).toArray 251)).alloc (.cells (List.replicate 16 (.int .u32 0)).toArray 251)) H (brunW (bs s) 0) (List.replicate 16 0)) := Lib.hid (by
  have b1 := Blk.new w 176 (H.map u32V)
  have b2 := Blk.new (w.alloc (.cells (H.map u32V).toArray 176)) 176 (List.replicate 8 (.int .u32 0))
  have b3 := Blk.new ((w.alloc (.cells (H.map u32V).toArray 176)).alloc (.cells (List.replicate 8 (.int .u32 0)).toArray 176)) 251 (List.replicate 16 (.int .u32 0))
  have b4 := Blk.new (((w.alloc (.cells (H.map u32V).toArray 176)).alloc (.cells (List.replicate 8 (.int .u32 0)).toArray 176)).alloc (.cells (List.replicate 16 (.int .u32 0)).toArray 251)) 251 (List.replicate 16 (.int .u32 0))
  refine ⟨((((Below.refl w.heap.size w).alloc (Nat.le_refl _) _).alloc (by simp) _).alloc (by simp; omega) _).alloc (by simp; omega) _, ((b1.alloc _).alloc _).alloc _, ?_, ?_, ?_⟩
  ·have := (b2.alloc (.cells (List.replicate 16 (.int .u32 0)).toArray 251)).alloc (.cells (List.replicate 16 (.int .u32 0)).toArray 251)
   simpa [u32V] using this
  ·have := b3.alloc (.cells (List.replicate 16 (.int .u32 0)).toArray 251)
   simpa [u32V, brunW] using this
  ·simpa [u32V] using b4)
 have hs64 : (s.size : Int) = 64 := by omega
 go_enter Tryz.func100, Tryz.ntmps100
 go_upto_region 4 with fail
 change Code.wp _ _ _ _ ((((w.alloc (.cells (H.map u32V).toArray 176)).alloc (.cells (List.replicate 8 (.int .u32 0)).toArray 176)).alloc (.cells (List.replicate 16 (.int .u32 0)).toArray 251)).alloc (.cells (List.replicate 16 (.int .u32 0)).toArray 251))
 have Hsz := Lib.hid hs
 clear hs hs64
 generalize ((((w.alloc (.cells (H.map u32V).toArray 176)).alloc (.cells (List.replicate 8 (.int .u32 0)).toArray 176)).alloc (.cells (List.replicate 16 (.int .u32 0)).toArray 251)).alloc (.cells (List.replicate 16 (.int .u32 0)).toArray 251)) = wa at *
 go_wp2
 go_loopw [25] (fun x wr => ∃ i : Nat, i ≤ 16 ∧ x = .int .i64 (i : Int) ∧ BSt w wr H (brunW (bs s) i) (List.replicate 16 0)) (fun x _ => 16 - (intOf x).toNat)
 case atStart => exact ⟨0, by omega, rfl, h1.out⟩
 case round =>
  obtain ⟨i, hi, rfl, hst⟩ := hrel
  have HS := Lib.hid hst
  clear hst h1
  by_cases h : i < 16
  ·have hiI : (i : Int) < 16 := by omega
   obtain ⟨n0, hn0⟩ : ∃ n, 4 * i = n := ⟨_, rfl⟩
   obtain ⟨n1, hn1⟩ : ∃ n, n0 + 1 = n := ⟨_, rfl⟩
   obtain ⟨n2, hn2⟩ : ∃ n, n0 + 2 = n := ⟨_, rfl⟩
   obtain ⟨n3, hn3⟩ : ∃ n, n0 + 3 = n := ⟨_, rfl⟩
   have m0 : (4 : Int) * (i : Int) = n0 := by omega
   have m1 : (n0 : Int) + 1 = n1 := by omega
   have m2 : (n0 : Int) + 2 = n2 := by omega
   have m3 : (n0 : Int) + 3 = n3 := by omega
   have s0 : n0 < s.size := by rw [Hsz.out]; omega
   have t0 : (n0 : Int) < s.size := by omega
   have w0 : IntKind.i64.wrap (n0 : Int) = n0 := IntWalk.i64_in _ (by omega)
   obtain ⟨b0, hb0⟩ : ∃ b, (s[n0]'s0).toNat = b := ⟨_, rfl⟩
   have hc0 : b0 < 256 := by rw [← hb0]; exact (s[n0]'s0).toNat_lt
   have HF0 : Hid ((bs s).getD n0 0 = b0) := Lib.hid (by
    rw [List.getD_eq_getElem?_getD]
    have := bsc s n0 s0
    unfold cf at this
    rw [this, hb0])
   have hm0 : (b0 : Int) % 4294967296 = b0 := by omega
   have s1 : n1 < s.size := by rw [Hsz.out]; omega
   have t1 : (n1 : Int) < s.size := by omega
   have w1 : IntKind.i64.wrap (n1 : Int) = n1 := IntWalk.i64_in _ (by omega)
   obtain ⟨b1, hb1⟩ : ∃ b, (s[n1]'s1).toNat = b := ⟨_, rfl⟩
   have hc1 : b1 < 256 := by rw [← hb1]; exact (s[n1]'s1).toNat_lt
   have HF1 : Hid ((bs s).getD n1 0 = b1) := Lib.hid (by
    rw [List.getD_eq_getElem?_getD]
    have := bsc s n1 s1
    unfold cf at this
    rw [this, hb1])
   have hm1 : (b1 : Int) % 4294967296 = b1 := by omega
   have s2 : n2 < s.size := by rw [Hsz.out]; omega
   have t2 : (n2 : Int) < s.size := by omega
   have w2 : IntKind.i64.wrap (n2 : Int) = n2 := IntWalk.i64_in _ (by omega)
   obtain ⟨b2, hb2⟩ : ∃ b, (s[n2]'s2).toNat = b := ⟨_, rfl⟩
   have hc2 : b2 < 256 := by rw [← hb2]; exact (s[n2]'s2).toNat_lt
   have HF2 : Hid ((bs s).getD n2 0 = b2) := Lib.hid (by
    rw [List.getD_eq_getElem?_getD]
    have := bsc s n2 s2
    unfold cf at this
    rw [this, hb2])
   have hm2 : (b2 : Int) % 4294967296 = b2 := by omega
   have s3 : n3 < s.size := by rw [Hsz.out]; omega
   have t3 : (n3 : Int) < s.size := by omega
   have w3 : IntKind.i64.wrap (n3 : Int) = n3 := IntWalk.i64_in _ (by omega)
   obtain ⟨b3, hb3⟩ : ∃ b, (s[n3]'s3).toNat = b := ⟨_, rfl⟩
   have hc3 : b3 < 256 := by rw [← hb3]; exact (s[n3]'s3).toNat_lt
   have HF3 : Hid ((bs s).getD n3 0 = b3) := Lib.hid (by
    rw [List.getD_eq_getElem?_getD]
    have := bsc s n3 s3
    unfold cf at this
    rw [this, hb3])
   have hm3 : (b3 : Int) % 4294967296 = b3 := by omega
   have HWd : Hid (brunW (bs s) (i + 1) = (brunW (bs s) i).set i (bits .or .u32 (bits .or .u32 (bits .or .u32 (b0 : Int) ((b1 : Int) * 256)) ((b2 : Int) * 65536)) ((b3 : Int) * 16777216))) := Lib.hid (by
    rw [brunW, wrdW, hn0, hn1, hn2, hn3, HF0.out, HF1.out, HF2.out, HF3.out]
    unfold plc
    rw [show (b0 : Int) * 256 ^ 0 = b0 by omega, show (b1 : Int) * 256 ^ 1 = (b1 : Int) * 256 by omega, show (b2 : Int) * 256 ^ 2 = (b2 : Int) * 65536 by omega, show (b3 : Int) * 256 ^ 3 = (b3 : Int) * 16777216 by omega])
   have cq := HS.out.m.word (i := i) (by rw [brunW_len]; exact h)
   have fq := HS.out.m.frozen i
   clear hn0 hn1 hn2 hn3
   go_upto_region 7 with fail
   go_still_tail 31, (by kernel_rfl)
   go_wp2
   go_roundw
   case rel => exact ⟨i + 1, by omega, by go_num, by rw [HWd.out]; exact (HS.out.setM (by rw [brunW_len]; exact h) _).kept (Below.refl _ _).drew⟩
   case measure => simp [intOf]; omega
  ·obtain rfl : i = 16 := by omega
   have hiI : ¬ ((16 : Nat) : Int) < 16 := by omega
   have HS2 : Hid (BSt w wr H (msgW (bs s)) (List.replicate 16 0)) := Lib.hid (by have := HS.out; rwa [brunW_all (bs s)] at this)
   have HML := Lib.hid (msgW_len (bs s))
   have HR1 : Hid (outW H (rndW (msgW (bs s)) (headW H cnt last) 80) = R) := Lib.hid HR.out
   generalize msgW (bs s) = M at *
   clear HS HR
   obtain ⟨wx, rfl⟩ : ∃ x, x = wr := ⟨_, rfl⟩
   go_wp2_with fail
   refine (binit_any _).mono ?_
   rintro e1 w1 ⟨rfl, hb1⟩
   have HI0 := Lib.hid (Blk.new w1 176 (initW.map u32V))
   have HS3 := Lib.hid ((HS2.out.kept hb1).kept ((Below.refl w1.heap.size w1).alloc (Nat.le_refl _) (.cells (initW.map u32V).toArray 176)))
   have HGl : Hid (w.heap.size + 1 + 1 + 1 < w1.heap.size) := Lib.hid (HS2.out.kept hb1).v.lt
   clear hb1 HS2
   go_upto_region 10 with fail
   change Code.wp _ _ _ _ (w1.alloc (.cells (initW.map u32V).toArray 176))
   generalize w1.alloc (.cells (initW.map u32V).toArray 176) = wb at *
   generalize w1.heap.size = G at *
   go_cut [] (fun wx => BSt w wx H M ((List.replicate 16 (0 : Int)).take 0 ++ H ++ (List.replicate 16 (0 : Int)).drop 8) ∧ Blk wx G 176 (initW.map u32V))
   case first =>
    have HS := Lib.hid (HS3.out.kept (Below.refl _ wb).drew)
    have HI := Lib.hid HI0.out.drewW
    refine wp_region_held_drew (S := (fun _ => True)) (by kernel_rfl) ?_ (fun hHeld => ?_)
    ·exact trivial
    refine tk 0 ?_
    refine tk 1 ?_
    refine wpAnyH_ready (rs := [2]) (by kernel_rfl) (by simp) ?_
    refine AllReadyH.cons (o := _) rfl (fun K hK => ?_) ?_
    ·refine Lib.wp_copy_run _ (.tmp 61) (.tmp 62) 252 252 rfl _ _ rfl rfl (cpy_words HS.out.v HS.out.h HH.out (by simp [HH.out]) (Nat.le_refl 8)) ?_
     refine hko hK (by exact trivial) (fun _ => ?_)
     clear hK K
     refine wpAnyH_done (by kernel_rfl) ?_ _
     go_wp2_with fail
     go_meet
     exact ⟨HS.out.rowV, Blk.grownB HI.out (grown_setRowW _ _ _) (by have := HGl.out; simp; omega)⟩
    exact AllReadyH.nil
   case rest =>
    obtain ⟨hs4, hi4⟩ := hcut
    obtain ⟨wd, hwd⟩ : ∃ x, x = wc := ⟨_, rfl⟩
    subst hwd
    have HS4 := Lib.hid hs4
    have HI4 := Lib.hid hi4
    clear hs4 hi4 HS3 HI0
    go_upto_region 11 with fail
    go_cut [] (fun wx => BSt w wx H M (((List.replicate 16 (0 : Int)).take 0 ++ H ++ (List.replicate 16 (0 : Int)).drop 8).take 8 ++ initW ++ ((List.replicate 16 (0 : Int)).take 0 ++ H ++ (List.replicate 16 (0 : Int)).drop 8).drop (8 + 8)) ∧ Blk wx G 176 (initW.map u32V))
    case first =>
     have HS := Lib.hid (HS4.out.kept (Below.refl _ wd).drew)
     have HI := Lib.hid HI4.out.drewW
     refine wp_region_held_drew (S := (fun _ => True)) (by kernel_rfl) ?_ (fun hHeld => ?_)
     ·exact trivial
     refine tk 0 ?_
     refine tk 1 ?_
     refine wpAnyH_ready (rs := [2]) (by kernel_rfl) (by simp) ?_
     refine AllReadyH.cons (o := _) rfl (fun K hK => ?_) ?_
     ·refine Lib.wp_copy_run _ (.tmp 64) (.tmp 65) 252 252 rfl _ _ rfl rfl (cpy_words HS.out.v HI.out rfl (by simp [HH.out]) (Nat.le_refl 8)) ?_
      refine hko hK (by exact trivial) (fun _ => ?_)
      clear hK K
      refine wpAnyH_done (by kernel_rfl) ?_ _
      go_wp2_with fail
      go_meet
      exact ⟨HS.out.rowV, Blk.grownB HI.out (grown_setRowW _ _ _) (by have := HGl.out; simp; omega)⟩
     exact AllReadyH.nil
    case rest =>
     obtain ⟨hs5, _⟩ := hcut
     obtain ⟨wy, hwy⟩ : ∃ x, x = wc := ⟨_, rfl⟩
     subst hwy
     have hVe : (((List.replicate 16 (0 : Int)).take 0 ++ H ++ (List.replicate 16 (0 : Int)).drop 8).take 8 ++ initW ++ ((List.replicate 16 (0 : Int)).take 0 ++ H ++ (List.replicate 16 (0 : Int)).drop 8).drop (8 + 8)) = H ++ initW := cpy_all HH.out
     rw [hVe] at hs5
     have HD2 := Lib.hid hs5
     clear hs5 hVe HS4 HI4 HGl
     obtain ⟨V0, hV0⟩ : ∃ V0, H ++ initW = V0 := ⟨_, rfl⟩
     have l0 : V0.length = 16 := by rw [← hV0, List.length_append, HH.out]; rfl
     rw [hV0] at HD2
     have HV0 := Lib.hid hV0
     have L0 := Lib.hid l0
     clear hV0 l0
     have c12 := HD2.out.v.word (i := 12) (by rw [L0.out]; omega)
     have f12 := HD2.out.v.frozen 12
     go_upto_region 13 with fail
     have HD3 := Lib.hid (HD2.out.setV (i := 12) (by rw [L0.out]; omega) (bits .xor .u32 (getW V0 12) ((cnt : Int) % 4294967296)))
     generalize hW1 : wy.setCell ⟨w.heap.size + 1 + 1 + 1, 12, none⟩ (.int .u32 (bits .xor .u32 (getW V0 12) ((cnt : Int) % 4294967296))) = wz at *
     clear hW1
     obtain ⟨V1, hV1⟩ : ∃ V1, V0.set 12 (bits .xor .u32 (getW V0 12) ((cnt : Int) % 4294967296)) = V1 := ⟨_, rfl⟩
     have HV1 := Lib.hid hV1
     have L1 : Hid (V1.length = 16) := Lib.hid (by rw [← hV1, List.length_set, L0.out])
     rw [hV1] at HD3
     clear hV1 c12 f12 HD2
     have c13 := HD3.out.v.word (i := 13) (by rw [L1.out]; omega)
     have f13 := HD3.out.v.frozen 13
     go_upto_region 14 with fail
     have HD4 := Lib.hid (HD3.out.setV (i := 13) (by rw [L1.out]; omega) (bits .xor .u32 (getW V1 13) ((cnt : Int) / 4294967296)))
     generalize hW1 : wz.setCell ⟨w.heap.size + 1 + 1 + 1, 13, none⟩ (.int .u32 (bits .xor .u32 (getW V1 13) ((cnt : Int) / 4294967296))) = wu at *
     clear hW1
     obtain ⟨V2, hV2⟩ : ∃ V2, V1.set 13 (bits .xor .u32 (getW V1 13) ((cnt : Int) / 4294967296)) = V2 := ⟨_, rfl⟩
     have L2 : Hid (V2.length = 16) := Lib.hid (by rw [← hV2, List.length_set, L1.out])
     have HV2 : Hid (headW H cnt last = flipW last V2) := Lib.hid (by rw [← hV2, ← HV1.out, ← HV0.out]; rfl)
     rw [hV2] at HD4
     clear hV2 HV1 HV0 c13 f13 HD3
     go_upto_if 80 with fail
     go_cut [] (fun wx => BSt w wx H M (headW H cnt last))
     case first =>
      cases last with
      | false =>
       go_wp2
       go_meet
       rw [HV2.out]
       exact HD4.out
      | true =>
       have c14 := HD4.out.v.word (i := 14) (by rw [L2.out]; omega)
       have f14 := HD4.out.v.frozen 14
       have HD5 := Lib.hid (HD4.out.setV (i := 14) (by rw [L2.out]; omega) (bits .xor .u32 IntKind.u32.max (getW V2 14)))
       go_wp2
       go_meet
       rw [HV2.out]
       exact HD5.out
     case rest =>
      obtain ⟨Vh, hVh⟩ : ∃ Vh, headW H cnt last = Vh := ⟨_, rfl⟩
      have LVh : Hid (Vh.length = 16) := Lib.hid (by rw [← hVh]; exact headW_len HH.out _ _)
      rw [hVh] at hcut HR1
      have HD6 := Lib.hid hcut
      clear hcut hVh HV2 L2 HD4 L0 L1
      go_wp2_with fail
      refine (bperm_any _).mono ?_
      rintro e2 w2 ⟨rfl, hb2⟩
      have HD7 := Lib.hid (HD6.out.kept hb2)
      clear hb2 HD6
      go_wp2
      go_loopw [86] (fun x wr => ∃ r : Nat, r ≤ 10 ∧ x = .int .i64 (r : Int) ∧ BSt w wr H M (rndW M Vh (8 * r))) (fun x _ => 10 - (intOf x).toNat)
      case atStart => exact ⟨0, by omega, rfl, HD7.out⟩
      case round =>
       obtain ⟨r, hr, rfl, hst⟩ := hrel
       have HD := Lib.hid hst
       clear hst HD7
       by_cases h : r < 10
       ·have hrI : (r : Int) < 10 := by omega
        have hix := run_index_p wr _ r h (perm_at r h)
        obtain ⟨pv, hpv⟩ : ∃ z, permI r = z := ⟨_, rfl⟩
        rw [hpv] at hix
        go_wp2_with fail
        refine (quads_any _).mono ?_
        rintro e3 w3 ⟨rfl, hb3⟩
        have HD3 := Lib.hid (HD.out.kept hb3)
        clear hb3 hix HD
        go_wp2
        go_loopw [90] (fun x wr => ∃ k : Nat, k ≤ 8 ∧ x = .int .i64 (k : Int) ∧ BSt w wr H M (rndW M Vh (8 * r + k))) (fun x _ => 8 - (intOf x).toNat)
        case atStart => exact ⟨0, by omega, rfl, HD3.out⟩
        case round =>
         obtain ⟨k, hk, rfl, hst⟩ := hrel
         have HDk := Lib.hid hst
         clear hst HD3
         obtain ⟨wk, rfl⟩ : ∃ x, x = wr := ⟨_, rfl⟩
         by_cases hk8 : k < 8
         ·have hkI : (k : Int) < 8 := by omega
          obtain ⟨a, b, c, d, sx, sy, hne, hxl, hyl, hx, hy, hq, hst⟩ := qstep wk r k h hk8
          have HSt := Lib.hid (hst M Vh)
          have HNe := Lib.hid hne
          obtain ⟨Vk, hVk⟩ : ∃ V, rndW M Vh (8 * r + k) = V := ⟨_, rfl⟩
          have LVk : Hid (Vk.length = 16) := Lib.hid (by rw [← hVk, rndW_len]; exact LVh.out)
          rw [hVk] at HDk HSt
          rw [hpv] at hx hy
          obtain ⟨j, hj⟩ : ∃ j, (8 : Int) * (k : Int) = j := ⟨_, rfl⟩
          rw [hj] at hx hy
          obtain ⟨s1, hs1⟩ : ∃ s, 60 - j = s := ⟨_, rfl⟩
          obtain ⟨s2, hs2⟩ : ∃ s, 56 - j = s := ⟨_, rfl⟩
          rw [hs1] at hx
          rw [hs2] at hy
          have p1 : 0 ≤ s1 := by omega
          have p2 : 0 ≤ s2 := by omega
          have p3 : s1 ≤ 64 := by omega
          have p4 : s2 ≤ 64 := by omega
          have v1 : IntKind.i64.wrap j = j := IntWalk.i64_in _ (by omega)
          have v2 : IntKind.i64.wrap s1 = s1 := IntWalk.i64_in _ (by omega)
          have v3 : IntKind.i64.wrap s2 = s2 := IntWalk.i64_in _ (by omega)
          clear hst hne hVk
          have hQ := Blk.new wk 255 [.int .i64 (a : Int), .int .i64 (b : Int), .int .i64 (c : Int), .int .i64 (d : Int)]
          change Blk (wk.alloc (.cells #[.int .i64 (a : Int), .int .i64 (b : Int), .int .i64 (c : Int), .int .i64 (d : Int)] 255)) _ _ _ at hQ
          have HQ := Lib.hid hQ
          have HDq := Lib.hid (HDk.out.kept ((Below.refl wk.heap.size wk).alloc (Nat.le_refl _) (.cells #[.int .i64 (a : Int), .int .i64 (b : Int), .int .i64 (c : Int), .int .i64 (d : Int)] 255)))
          have HQl : Hid (w.heap.size + 1 + 1 + 1 < wk.heap.size) := Lib.hid HDk.out.v.lt
          clear hQ
          go_upto_region 22 with fail
          clear hq
          generalize wk.alloc (.cells #[.int .i64 (a : Int), .int .i64 (b : Int), .int .i64 (c : Int), .int .i64 (d : Int)] 255) = wq at *
          go_quiet (fail)
          have HBn := Lib.hid (zBd (Below.refl wq.heap.size wq) nq)
          generalize wq.drewN nq = wn at *
          have HDn := Lib.hid ((HDq.out.kept HBn.out).kept (Below.refl _ wn).drew)
          have HQn := Lib.hid ((HQ.out.kept HBn.out).kept (Below.refl _ wn).drew)
          have hxI : (sx : Int) < 16 := by omega
          have hyI : (sy : Int) < 16 := by omega
          have HMl := Lib.hid (fun i (hi : i < 16) => (show i < M.length by rw [HML.out]; exact hi))
          have HMx : Hid (∀ W, Blk W (w.heap.size + 1 + 1 + 1) 251 (Vk.map u32V) → Calls Tryz.prog 183 #[.pointer (some ⟨w.heap.size + 1 + 1 + 1, 0, none⟩), .agg #[.int .i64 (a : Int), .int .i64 (b : Int), .int .i64 (c : Int), .int .i64 (d : Int)], .int .u32 (getW M sx), .int .u32 (getW M sy)] W fun e w' => (∃ v, e = .returned v) ∧ Blk w' (w.heap.size + 1 + 1 + 1) 251 ((mixW Vk a b c d (getW M sx) (getW M sy)).map u32V) ∧ W.grownBy w' (some (w.heap.size + 1 + 1 + 1))) := Lib.hid (fun W h => bmix_any W (w.heap.size + 1 + 1 + 1) Vk LVk.out h a b c d HNe.out.1 HNe.out.2.1 HNe.out.2.2.1 HNe.out.2.2.2.1 HNe.out.2.2.2.2.1 HNe.out.2.2.2.2.2.1 HNe.out.2.2.2.2.2.2.1 HNe.out.2.2.2.2.2.2.2.1 HNe.out.2.2.2.2.2.2.2.2.1 HNe.out.2.2.2.2.2.2.2.2.2 _ _)
          have HSx := Lib.hid hxl
          have HSy := Lib.hid hyl
          clear HBn hx hy v1 v2 v3 p1 p2 p3 p4 hj hs1 hs2 HDq HQ hxl hyl
          generalize hzx : getW M sx = zx at *
          generalize hzy : getW M sy = zy at *
          have HZx := Lib.hid hzx
          have HZy := Lib.hid hzy
          clear hzx hzy
          go_upto_region 23 with fail
          refine wp_region_held_drew (S := (fun W => W.cell? ⟨wk.heap.size, 0, none⟩ = some (.int .i64 (a : Int)) ∧ W.cell? ⟨wk.heap.size, 1, none⟩ = some (.int .i64 (b : Int)) ∧ W.cell? ⟨wk.heap.size, 2, none⟩ = some (.int .i64 (c : Int)) ∧ W.cell? ⟨wk.heap.size, 3, none⟩ = some (.int .i64 (d : Int)) ∧ W.cell? ⟨w.heap.size + 1 + 1, sx, none⟩ = some (.int .u32 zx) ∧ W.cell? ⟨w.heap.size + 1 + 1, sy, none⟩ = some (.int .u32 zy))) (by kernel_rfl) ?_ (fun hHeld => ?_)
          ·exact ⟨HQn.out.cell (i := 0) rfl, HQn.out.cell (i := 1) rfl, HQn.out.cell (i := 2) rfl, HQn.out.cell (i := 3) rfl, by rw [← HZx.out]; exact HDn.out.m.word (HMl.out _ HSx.out), by rw [← HZy.out]; exact HDn.out.m.word (HMl.out _ HSy.out)⟩
          refine tk 0 ?_
          refine tk 1 ?_
          refine tk 2 ?_
          refine tk 3 ?_
          refine tk 4 ?_
          refine tk 5 ?_
          refine tk 6 ?_
          refine wpAnyH_ready (rs := [7]) (by kernel_rfl) (by simp) ?_
          refine AllReadyH.cons (o := _) rfl (fun K hK => ?_) ?_
          ·go_simp
           refine (HMx.out _ HDn.out.v).mono ?_
           rintro e5 w5 ⟨⟨v5, rfl⟩, hv5, hg5⟩
           (try go_wp2_with fail)
           have HQn := Lib.hid (HQn.out.grownB hg5 (by have := HQl.out; simp; omega))
           have HDn := Lib.hid (HDn.out.grownV hg5 hv5)
           clear hv5 hg5
           refine hko hK (by exact ⟨HQn.out.cell (i := 0) rfl, HQn.out.cell (i := 1) rfl, HQn.out.cell (i := 2) rfl, HQn.out.cell (i := 3) rfl, by rw [← HZx.out]; exact HDn.out.m.word (HMl.out _ HSx.out), by rw [← HZy.out]; exact HDn.out.m.word (HMl.out _ HSy.out)⟩) (fun _ => ?_)
           clear hK K
           refine wpAnyH_done (by kernel_rfl) ?_ _
           go_wp2_with fail
           go_roundw
           case rel => exact ⟨k + 1, by omega, by go_num, by have h9 := HDn.out; have h8 := HSt.out; rw [← h8] at h9; exact h9⟩
           case measure => simp [intOf]; omega
          exact AllReadyH.nil
         ·obtain rfl : k = 8 := by omega
          have hkI : ¬ ((8 : Nat) : Int) < 8 := by omega
          go_wp2
          go_roundw
          case rel => exact ⟨r + 1, by omega, by go_num, by rw [show 8 * (r + 1) = 8 * r + 8 by omega]; exact HDk.out⟩
          case measure => simp [intOf]; omega
       ·obtain rfl : r = 10 := by omega
        have hrI : ¬ ((10 : Nat) : Int) < 10 := by omega
        obtain ⟨Vf, hVf⟩ : ∃ Vf, rndW M Vh (8 * 10) = Vf := ⟨_, rfl⟩
        have LVf : Hid (Vf.length = 16) := Lib.hid (by rw [← hVf, rndW_len, LVh.out])
        have HR2 : Hid (orunW H Vf 8 = R) := Lib.hid (by rw [orunW_all HH.out, ← hVf]; exact HR1.out)
        rw [hVf] at HD
        clear hVf HR1
        obtain ⟨wq, rfl⟩ : ∃ x, x = wr := ⟨_, rfl⟩
        go_wp2
        go_loopw [116] (fun x wr => ∃ i : Nat, i ≤ 8 ∧ x = .int .i64 (i : Int) ∧ BSt w wr (orunW H Vf i) M Vf) (fun x _ => 8 - (intOf x).toNat)
        case atStart => exact ⟨0, by omega, rfl, HD.out⟩
        case round =>
         obtain ⟨i, hi, rfl, hst⟩ := hrel
         have HDi := Lib.hid hst
         clear hst HD
         by_cases h : i < 8
         ·have hiI : (i : Int) < 8 := by omega
          obtain ⟨j, hj⟩ : ∃ j, i + 8 = j := ⟨_, rfl⟩
          have hi16 : (i : Int) < 16 := by omega
          have hjI : (i : Int) + 8 = j := by omega
          have hjw : IntKind.i64.wrap (j : Int) = j := IntWalk.i64_in _ (by omega)
          have hjw2 : IntKind.i64.wrap ((i : Int) + 8) = j := by rw [hjI]; exact hjw
          have hj16 : (j : Int) < 16 := by omega
          have HLh : Hid ((orunW H Vf i).length = 8) := Lib.hid (by rw [orunW_len, HH.out])
          have cH := HDi.out.h.word (i := i) (by rw [HLh.out]; exact h)
          have fH := HDi.out.h.frozen i
          have cV := HDi.out.v.word (i := i) (by rw [LVf.out]; omega)
          have cV2 := HDi.out.v.word (i := j) (by rw [LVf.out]; omega)
          have HNx : Hid (orunW H Vf (i + 1) = (orunW H Vf i).set i (bits .xor .u32 (getW (orunW H Vf i) i) (bits .xor .u32 (getW Vf i) (getW Vf j)))) := Lib.hid (by rw [orunW, hj, xor_assoc32])
          generalize orunW H Vf i = Hi at *
          have HDn := Lib.hid ((HDi.out.setH (i := i) (by rw [HLh.out]; exact h) (bits .xor .u32 (getW Hi i) (bits .xor .u32 (getW Vf i) (getW Vf j)))).kept (Below.refl _ _).drew)
          generalize getW Hi i = t1 at *
          generalize getW Vf i = t2 at *
          generalize getW Vf j = t3 at *
          clear hj
          go_upto_region 29 with fail
          go_still_tail 13, (by kernel_rfl)
          go_wp2
          go_roundw
          case rel => exact ⟨i + 1, by omega, by go_num, by rw [HNx.out]; exact HDn.out⟩
          case measure => simp [intOf]; omega
         ·obtain rfl : i = 8 := by omega
          have hiI : ¬ ((8 : Nat) : Int) < 8 := by omega
          rw [HR2.out] at HDi
          have HLR : Hid (R.length = 8) := Lib.hid (by rw [← HR2.out, orunW_len, HH.out])
          go_upto_region 31 with fail
          refine wp_region_lit ?_
          refine wpList_load_row rfl 176 (.tmp 4) rfl w.heap.size rfl 176 _ (0, 0) _ HDi.out.h Tryz.underlying176 rfl (Tryz.sizeV8 HLR.out) ?_
          refine wpList_store_row rfl 176 (.tmp 8) (.tmp 133) rfl (w.heap.size + 1) _ rfl rfl 176 _ HDi.out.r (Tryz.sizeV8 HLR.out) (by simp [HLR.out]) (u32_one _) ?_
          go_wp2_with fail
          refine bodyPost_ret (results_row_tmp rfl _ _ (w.heap.size + 1) 176 _ (0, 0) _ rfl (setRow_heap _ _ _ _ _ _ HDi.out.r) Tryz.underlying176 rfl (Tryz.sizeV8 HLR.out)) rfl ?_
          exact ⟨rfl, below_setRow HDi.out.below (by omega) _⟩
end
end Go.Proofs.YtbccghbngaiceaaGreatDoor
