/-
  Joined: VqR.
-/
import Derived.Test.YtbccghbngaiceaaGreatDoorMMn12
import Derived.Test.YtbccghbngaiceaaGreatDoorMMn23
set_option linter.all false
set_option maxRecDepth 100000
set_option maxHeartbeats 64000000
namespace Go.Proofs.YtbccghbngaiceaaGreatDoor
section
open Go.RowKit
theorem run_index_v (w : World) (L : List Int) (hL : L.length = 8) (r : Nat) (hr : r < 8) : (Instr.index 176 (.agg (L.map u32V).toArray) (.int .i64 (r : Int))).run Tryz.prog w = .ok (.int .u32 (getW L r)) w := by
 have hn : (0 : Int) ≤ (r : Int) ∧ (r : Int) < (8 : Nat) := by omega
 have hu := Tryz.underlying176
 have hl : r < L.length := by omega
 have hv : L[r]? = some (getW L r) := by
  rw [getW, List.getElem?_eq_getElem hl]
  rfl
 simp [Instr.index, run_underlying hu, asIntOf, hn, hr, hv, go_sem]
 rfl
theorem SrcAt.bytes {w0 : World} (W : World) (L : List Nat) : SrcAt u8S w0 (W.alloc (.cells (L.map u8V).toArray 5)) (.slice (some ⟨W.heap.size, 0, none⟩) L.length L.length) L := by
 refine ⟨_, _, rfl, fun i x hx => ⟨W.heap.size, 0, [.int .u8 (x : Int)], rfl, rfl, fun j u hu => ?_⟩⟩
 cases j with
 | zero =>
  obtain rfl : Value.int .u8 (x : Int) = u := by simpa using hu
  show (W.alloc _).cell? ⟨W.heap.size, 0 + i * 1 + 0, none⟩ = _
  rw [Nat.zero_add, Nat.mul_one, Nat.add_zero]
  exact (Blk.new W 5 (L.map u8V)).cell (by rw [List.getElem?_map, hx]; rfl)
 | succ j => simp at hu
theorem range4 (i : Nat) : List.range (4 * (i + 1)) = List.range (4 * i) ++ [4 * i, 4 * i + 1, 4 * i + 2, 4 * i + 3] := by
 rw [show 4 * (i + 1) = 4 * i + 4 by omega, List.range_add]
 rfl
theorem OwnSeq.room {α : Type} {ρ : Shape α} {t : TypeId} {w0 W : World} {g cap : Nat} {cs : Array Value} (hb : w0.heap.size ≤ g) (hg : W.heap[g]? = some (.cells cs t (0, 0))) (hc : cap ≤ maxLen) (hs : cs.size = cap * ρ.n) : OwnSeq ρ t w0 W (.slice (some ⟨g, 0, none⟩) 0 cap) [] :=
 ⟨[], ⟨by simp, .inr ⟨g, cap, cs, rfl, hb, hg, by simp, hc, hs, by simp⟩⟩, .nil⟩
theorem bsum_any (w : World) (v : Value) (s : ByteArray) (hv : SeqAt strS w v [s]) (hs : s.size ≤ 1000000000) : Calls Tryz.prog 54 #[v] w fun e w' => e = .returned (.string (strB (digL (bs s)))) ∧ Below w.heap.size w w' := by
 have HC : Hid (∀ (W : World) (H : List Int) (t : ByteArray) (cnt : Nat) (last : Bool), H.length = 8 → t.size = 64 → cnt < 18446744073709551616 → Calls Tryz.prog 100 #[.agg (H.map u32V).toArray, .string t, .int .u64 (cnt : Int), .bool last] W fun e w' => e = .returned (.tuple #[.agg ((comW H (bs t) cnt last).map u32V).toArray, .int .i64 0]) ∧ Below W.heap.size W w') := Lib.hid (fun W H t cnt last h1 h2 h3 => bcompress_any W H h1 t h2 cnt h3 last)
 have HI := Lib.hid (fun W => binit_any W)
 have hJ : Calls Tryz.prog 98 #[v, .string ⟨#[]⟩] w fun e w' => e = .returned (.string s) ∧ Below w.heap.size w w' := by
  obtain ⟨A, c, rfl, h1, h2, h3⟩ := hv
  obtain ⟨b, o, cs, rfl, rfl, hc⟩ := h3 0 s rfl
  have e0 : w.cell? ⟨b, o + 0, none⟩ = some (.string s) := by simpa using hc 0 _ rfl
  have hbl : b < w.heap.size := by
   rcases Nat.lt_or_ge b w.heap.size with h' | h'
   ·exact h'
   ·simp [World.cell?, Array.getElem?_eq_none h'] at e0
  have ej : Lib.join ([s].map (·.data.toList)) ((⟨#[]⟩ : ByteArray).data.toList) = s.data.toList := by simp [Lib.join, List.intercalate]
  have hj := Tryz.strings_Join b o c [s] ⟨#[]⟩ w (fun j x hx => by
   cases j with
   | zero =>
    obtain rfl : s = x := by simpa using hx
    exact e0
   | succ j => simp at hx) hbl (by simp) h1 (by rw [ej]; show s.data.toList.length ≤ _; rw [Array.length_toList]; have : s.data.size = s.size := rfl; omega)
  rw [ej] at hj
  exact hj
 have HJ := Lib.hid hJ
 clear hJ
 obtain ⟨A0, c0, rfl, _, _⟩ := hv.slice
 clear hv
 obtain ⟨R, hR⟩ : ∃ R, strB (digL (bs s)) = R := ⟨_, rfl⟩
 rw [hR]
 have HR := Lib.hid hR
 clear hR
 go_enter Tryz.func54, Tryz.ntmps54
 go_wp2_with fail
 refine HJ.out.mono ?_
 rintro e1 w1 ⟨rfl, hb1⟩
 have HB1 := Lib.hid hb1
 clear hb1
 go_wp2_with fail
 refine (HI.out _).mono ?_
 rintro e2 w2 ⟨rfl, hb2⟩
 have HB2 := Lib.hid (HB1.out.trans (hb2.mono HB1.out.size))
 clear hb2 HB1
 have HK0 : Hid (Blk (w2.alloc (.cells ((hashW (bs s) 0).map u32V).toArray 176)) w2.heap.size 176 ((hashW (bs s) 0).map u32V)) := Lib.hid (Blk.new _ _ _)
 have HBa := Lib.hid (HB2.out.alloc HB2.out.size (.cells ((hashW (bs s) 0).map u32V).toArray 176))
 have HGe := Lib.hid HB2.out.size
 go_upto_region 4 with fail
 change Code.wp _ _ _ _ (w2.alloc (.cells ((hashW (bs s) 0).map u32V).toArray 176))
 generalize w2.alloc (.cells ((hashW (bs s) 0).map u32V).toArray 176) = wa at *
 generalize w2.heap.size = g at *
 clear HB2
 go_wp2
 go_loopw [5] (fun x wr => ∃ k c : Nat, k ≤ blkN s.size ∧ c = 64 * k ∧ x = .int .i64 (c : Int) ∧ Blk wr g 176 ((hashW (bs s) k).map u32V) ∧ Below w.heap.size w wr) (fun x _ => s.size + 1 - (intOf x).toNat)
 case atStart => exact ⟨0, 0, Nat.zero_le _, rfl, rfl, HK0.out, HBa.out⟩
 case round =>
  obtain ⟨k, c, hk, hc, rfl, hblk, hB⟩ := hrel
  have HKr := Lib.hid hblk
  have HBr := Lib.hid hB
  have hcn : c ≤ s.size := by have := blkN_le hk; omega
  obtain ⟨m, hm⟩ : ∃ m, s.size - c = m := ⟨_, rfl⟩
  have hmI : (s.size : Int) - c = m := by omega
  have hlen : (bs s).length = s.size := bs_len s
  clear hblk hB HK0 HBa
  obtain ⟨wx, rfl⟩ : ∃ x, x = wr := ⟨_, rfl⟩
  by_cases hbig : 64 < m
  ·have f1 : (64 : Int) < m := by omega
   obtain ⟨e, he⟩ : ∃ e, c + 64 = e := ⟨_, rfl⟩
   have heI : (c : Int) + 64 = e := by omega
   have hwr : IntKind.i64.wrap ((c : Int) + 64) = e := by rw [IntWalk.i64_in _ (by omega)]; omega
   have hwr2 : IntKind.i64.wrap (e : Int) = e := IntWalk.i64_in _ (by omega)
   have hwr3 : IntKind.u64.wrap (e : Int) = e := IntWalk.u64_in _ (by omega)
   have hce : (c : Int) ≤ e := by omega
   have hes : (e : Int) ≤ s.size := by omega
   obtain ⟨X, hX⟩ : ∃ X, s.extract c e = X := ⟨_, rfl⟩
   have HXz : Hid (X.size = 64) := Lib.hid (by rw [← hX, ByteArray.size_extract]; omega)
   have HXb : Hid (bs X = ((bs s).drop (64 * k)).take 64) := Lib.hid (by rw [← hX, bs_extract, List.drop_take, hc, show e - 64 * k = 64 by omega])
   have HN : Hid (hashW (bs s) (k + 1) = comW (hashW (bs s) k) (bs X) e false) := Lib.hid (by rw [HXb.out, hashW, show 64 * (k + 1) = e by omega])
   have Hk1 : Hid (k + 1 ≤ blkN s.size ∧ e = 64 * (k + 1)) := Lib.hid (by unfold blkN; omega)
   have Hel : Hid (e < 18446744073709551616) := Lib.hid (by omega)
   have hcs : c ≤ e := by omega
   have hes2 : e ≤ s.size := by omega
   clear he hm hk hc
   go_upto_region 6 with fail
   have HKc := Lib.hid (HKr.out.kept (Below.refl _ _).drew)
   have HBc := Lib.hid HBr.out.drew
   refine wp_region_held_drew (S := (fun _ => True)) (by kernel_rfl) ?_ (fun hHeld => ?_)
   ·exact trivial
   refine tk 1 ?_
   refine tk 2 ?_
   refine tk 3 ?_
   refine tk 4 ?_
   refine tk 5 ?_
   refine tk 6 ?_
   refine tk 7 ?_
   refine tk 8 ?_
   refine wpAnyH_ready (rs := [0]) (by kernel_rfl) (by simp) ?_
   refine AllReadyH.cons (o := _) rfl (fun K hK => ?_) ?_
   ·refine wp_load_row 176 (.tmp 4) rfl g rfl 176 _ (0, 0) _ HKc.out Tryz.underlying176 rfl (Tryz.sizeV8 (hashW_len _ _)) ?_
    refine hko hK (by exact trivial) (fun _ => ?_)
    clear hK K
    refine wpAnyH_ready (rs := [9]) (by kernel_rfl) (by simp) ?_
    refine AllReadyH.cons (o := _) rfl (fun K hK => ?_) ?_
    ·go_simp
     refine (HC.out _ (hashW (bs s) k) X e false (hashW_len _ _) HXz.out Hel.out).mono ?_
     rintro e5 w5 ⟨rfl, hb5⟩
     (try go_wp2_with fail)
     have HKc := Lib.hid (HKc.out.kept hb5)
     have HBc := Lib.hid (HBc.out.trans (hb5.mono HBc.out.size))
     clear hb5
     refine hko hK (by exact trivial) (fun _ => ?_)
     clear hK K
     refine tk 10 ?_
     refine tk 11 ?_
     refine tk 12 ?_
     refine wpAnyH_ready (rs := [13]) (by kernel_rfl) (by simp) ?_
     refine AllReadyH.cons (o := _) rfl (fun K hK => ?_) ?_
     ·refine wp_store_row 176 (.tmp 4) (.tmp 33) rfl g _ rfl rfl 176 _ HKc.out (Tryz.sizeV8 (comW_len _ _ _ _)) (by simp [hashW_len, comW_len]) (u32_one _) ?_
      have HKn := Lib.hid (show Blk (w5.setRow g ((comW (hashW (bs s) k) (bs X) e false).map u32V).toArray) g 176 ((hashW (bs s) (k + 1)).map u32V) by rw [HN.out]; exact setRow_heap _ _ _ _ _ _ HKc.out)
      have HBn := Lib.hid (below_setRow HBc.out HGe.out ((comW (hashW (bs s) k) (bs X) e false).map u32V).toArray)
      refine hko hK (by exact trivial) (fun _ => ?_)
      clear hK K
      refine wpAnyH_done (by kernel_rfl) ?_ _
      go_wp2_with fail
      go_roundw
      case rel => exact ⟨k + 1, e, Hk1.out.1, Hk1.out.2, rfl, HKn.out, HBn.out⟩
      case measure => simp [intOf]; omega
     exact AllReadyH.nil
    exact AllReadyH.nil
   exact AllReadyH.nil
  ·have f1 : ¬ (64 : Int) < m := by omega
   obtain ⟨X, hX⟩ : ∃ X, s.extract c s.size = X := ⟨_, rfl⟩
   have hce : (c : Int) ≤ s.size := by omega
   obtain ⟨j, hj⟩ : ∃ j, 64 - m = j := ⟨_, rfl⟩
   have hjI : (64 : Int) - m = j := by omega
   have hm64 : m ≤ 64 := by omega
   have hwr : IntKind.i64.wrap ((s.size : Int) - c) = m := by rw [IntWalk.i64_in _ (by omega)]; omega
   have hwr2 : IntKind.i64.wrap (m : Int) = m := IntWalk.i64_in _ (by omega)
   have hwr3 : IntKind.i64.wrap ((64 : Int) - m) = j := by rw [IntWalk.i64_in _ (by omega)]; omega
   have hwr4 : IntKind.i64.wrap (j : Int) = j := IntWalk.i64_in _ (by omega)
   have hXz : X.size = m := by rw [← hX, ByteArray.size_extract]; omega
   have hkb : k = blkN s.size := by unfold blkN at hk ⊢; omega
   have HXb : Hid (bs X = (bs s).drop (64 * k)) := Lib.hid (by rw [← hX, bs_extract, List.take_of_length_le (by omega), hc])
   obtain ⟨Z, hZ⟩ : ∃ Z, strB (List.replicate j 0) = Z := ⟨_, rfl⟩
   have hZz : Z.size = j := by rw [← hZ, strB_size, List.length_replicate]
   have HRp : Hid (∀ W : World, Calls Tryz.prog 79 #[.string ⟨#[0]⟩, .int .i64 (j : Int)] W fun e w' => e = .returned (.string Z) ∧ Below W.heap.size W w') := Lib.hid (fun W => by rw [← hZ]; exact repeat_any W 0 j (by omega))
   obtain ⟨B, hB⟩ : ∃ B, X ++ Z = B := ⟨_, rfl⟩
   have HBz : Hid (B.size = 64) := Lib.hid (by rw [← hB, ByteArray.size_append]; omega)
   have HBb : Hid (bs B = bs X ++ zerosN (64 - X.size)) := Lib.hid (by
    rw [← hB, hXz, hj]
    unfold bs
    rw [ByteArray.data_append, Array.toList_append, List.map_append]
    congr 1
    rw [← hZ]
    exact bs_strB (l := List.replicate j 0) (fun b hb => by rw [(List.mem_replicate.1 hb).2]; decide))
   have HN : Hid (lastW (bs s) = comW (hashW (bs s) k) (bs B) s.size true) := Lib.hid (by rw [HBb.out, HXb.out, hXz, ← hm, lastW, hlen, ← hkb, hc])
   have hel : s.size < 18446744073709551616 := by omega
   have hwr5 : IntKind.u64.wrap (s.size : Int) = s.size := IntWalk.u64_in _ (by omega)
   have hcc : ¬ 9223372036854775807 < X.size + Z.size := by omega
   have HLen : Hid (s.size < 18446744073709551616) := Lib.hid hel
   clear hm hk hc hkb hZ hXz hZz hj
   go_upto_region 8 with fail
   have HKc := Lib.hid (HKr.out.kept (Below.refl _ _).drew)
   have HBc := Lib.hid HBr.out.drew
   go_cut [6] (fun y wz => y = .string B ∧ Blk wz g 176 ((hashW (bs s) k).map u32V) ∧ Below w.heap.size w wz)
   case first =>
    refine wp_region_held_drew (S := (fun _ => True)) (by kernel_rfl) ?_ (fun hHeld => ?_)
    ·exact trivial
    refine tk 0 ?_
    refine tk 1 ?_
    refine tk 2 ?_
    refine tk 3 ?_
    refine tk 4 ?_
    refine tk 5 ?_
    refine tk 6 ?_
    refine tk 7 ?_
    refine wpAnyH_ready (rs := [8]) (by kernel_rfl) (by simp) ?_
    refine AllReadyH.cons (o := _) rfl (fun K hK => ?_) ?_
    ·go_simp
     refine (HRp.out _).mono ?_
     rintro e5 w5 ⟨rfl, hb5⟩
     (try go_wp2_with fail)
     have HKc := Lib.hid (HKc.out.kept hb5)
     have HBc := Lib.hid (HBc.out.trans (hb5.mono HBc.out.size))
     clear hb5
     refine hko hK (by exact trivial) (fun _ => ?_)
     clear hK K
     refine tk 9 ?_
     refine tk 10 ?_
     refine wpAnyH_done (by kernel_rfl) ?_ _
     go_wp2_with fail
     go_meet
     exact ⟨rfl, HKc.out, HBc.out⟩
    exact AllReadyH.nil
   case rest =>
    obtain ⟨rfl, hk9, hb9⟩ := hcut
    have HK9 := Lib.hid hk9
    have HB9 := Lib.hid hb9
    obtain ⟨wk, rfl⟩ : ∃ x, x = wc := ⟨_, rfl⟩
    clear hk9 hb9 HKc HBc HKr HBr
    go_upto_region 9 with fail
    refine wp_region_lit ?_
    refine wpList_load_row rfl 176 (.tmp 4) rfl g rfl 176 _ (0, 0) _ HK9.out Tryz.underlying176 rfl (Tryz.sizeV8 (hashW_len _ _)) ?_
    go_wp2_with fail
    refine (HC.out wk (hashW (bs s) k) B s.size true (hashW_len _ _) HBz.out HLen.out).mono ?_
    rintro e6 w6 ⟨rfl, hb6⟩
    have HK6 := Lib.hid (HK9.out.keepW hb6)
    have HB6 := Lib.hid (HB9.out.trans (hb6.mono HB9.out.size))
    clear hb6
    go_wp2_with (refine wpList_store_row rfl 176 (.tmp 4) (.tmp 54) rfl g _ rfl rfl 176 _ HK6.out (Tryz.sizeV8 (comW_len _ _ _ _)) (by simp [hashW_len, comW_len]) (u32_one _) ?_)
    have HK7 : Hid (Blk (w6.setRow g ((comW (hashW (bs s) k) (bs B) s.size true).map u32V).toArray) g 176 ((lastW (bs s)).map u32V)) := Lib.hid (by rw [HN.out]; exact setRow_heap _ _ _ _ _ _ HK6.out)
    have HB7 := Lib.hid (below_setRow HB6.out HGe.out ((comW (hashW (bs s) k) (bs B) s.size true).map u32V).toArray)
    generalize w6.setRow g ((comW (hashW (bs s) k) (bs B) s.size true).map u32V).toArray = wy at *
    obtain ⟨cs, hcs⟩ : ∃ cs, arrB (List.replicate 32 0) = cs := ⟨_, rfl⟩
    have hmk : ∀ W : World, (Instr.makeSlice 110 (.int .i64 0) (.int .i64 32)).run Tryz.prog W = .ok (.slice (some ⟨W.heap.size, 0, none⟩) 0 32) (W.alloc (.cells cs 5)) := by rw [← hcs]; exact make_u8 0 32 (by omega) (by omega)
    have hsz : cs.size = 32 := by rw [← hcs]; rfl
    have HOw : Hid (OwnSeq u8S 5 wy (wy.alloc (.cells cs 5)) (.slice (some ⟨wy.heap.size, 0, none⟩) 0 32) []) := Lib.hid (OwnSeq.room (Nat.le_refl _) (by
     show (wy.heap.push _)[wy.heap.size]? = _
     exact Array.getElem?_push_size) (by decide) hsz)
    have HBy := Lib.hid ((Below.refl wy.heap.size wy).alloc (Nat.le_refl _) (.cells cs 5))
    have HKy := Lib.hid (HK7.out.keepW HBy.out)
    clear hcs hsz
    go_wp2_with fail
    rw [hmk]
    go_upto_region 11 with fail
    clear hmk
    refine wp_region_lit ?_
    refine wpList_load_row rfl 176 (.tmp 4) rfl g rfl 176 _ (0, 0) _ HKy.out Tryz.underlying176 rfl (Tryz.sizeV8 (lastW_len _)) ?_
    generalize wy.alloc (.cells cs 5) = wv at *
    go_wp2
    go_loopw [7, 9, 58] (fun y _ x wr => ∃ i : Nat, i ≤ 8 ∧ x = .int .i64 (i : Int) ∧ OwnSeq u8S 5 wy wr y ((List.range (4 * i)).map (byteW (lastW (bs s)))) ∧ Below wy.heap.size wy wr) (fun _ _ x _ => 8 - (intOf x).toNat)
    case atStart => exact ⟨0, by omega, rfl, HOw.out, HBy.out⟩
    case round =>
     obtain ⟨i, hi, rfl, ho, hBy⟩ := hrel
     have Ho := Lib.hid ho
     have HBr := Lib.hid hBy
     clear ho hBy
     by_cases h : i < 8
     ·have hiI : (i : Int) < 8 := by omega
      have hq := run_index_v wr (lastW (bs s)) (lastW_len _) i h
      obtain ⟨z, hz⟩ : ∃ z, getW (lastW (bs s)) i = z := ⟨_, rfl⟩
      rw [hz] at hq
      have Hl1 : Hid (((List.range (4 * i)).map (byteW (lastW (bs s)))).length + 4 ≤ 100000000) := Lib.hid (by simp; omega)
      have HZ : Hid ((byteW (lastW (bs s)) (4 * i) : Int) = z % 256 ∧ (byteW (lastW (bs s)) (4 * i + 1) : Int) = z / 256 % 256 ∧ (byteW (lastW (bs s)) (4 * i + 2) : Int) = z / 65536 % 256 ∧ (byteW (lastW (bs s)) (4 * i + 3) : Int) = z / 16777216 % 256) := Lib.hid (by
       unfold byteW
       rw [show 4 * i / 4 = i by omega, show (4 * i + 1) / 4 = i by omega, show (4 * i + 2) / 4 = i by omega, show (4 * i + 3) / 4 = i by omega, show 4 * i % 4 = 0 by omega, show (4 * i + 1) % 4 = 1 by omega, show (4 * i + 2) % 4 = 2 by omega, show (4 * i + 3) % 4 = 3 by omega, hz]
       refine ⟨?_, ?_, ?_, ?_⟩ <;> omega)
      have HRg : Hid ((List.range (4 * (i + 1))).map (byteW (lastW (bs s))) = (List.range (4 * i)).map (byteW (lastW (bs s))) ++ [byteW (lastW (bs s)) (4 * i), byteW (lastW (bs s)) (4 * i + 1), byteW (lastW (bs s)) (4 * i + 2), byteW (lastW (bs s)) (4 * i + 3)]) := Lib.hid (by rw [range4, List.map_append]; rfl)
      clear hz
      generalize byteW (lastW (bs s)) (4 * i) = b0 at *
      generalize byteW (lastW (bs s)) (4 * i + 1) = b1 at *
      generalize byteW (lastW (bs s)) (4 * i + 2) = b2 at *
      generalize byteW (lastW (bs s)) (4 * i + 3) = b3 at *
      have HSrc : Hid (SrcAt u8S wy (wr.alloc (.cells #[.int .u8 (z % 256), .int .u8 (z / 256 % 256), .int .u8 (z / 65536 % 256), .int .u8 (z / 16777216 % 256)] 5)) (.slice (some ⟨wr.heap.size, 0, none⟩) 4 4) [b0, b1, b2, b3]) := Lib.hid (by
       rw [← HZ.out.1, ← HZ.out.2.1, ← HZ.out.2.2.1, ← HZ.out.2.2.2]
       exact SrcAt.bytes wr [b0, b1, b2, b3])
      obtain ⟨Av, cv, e9⟩ := Ho.out.slice
      subst e9
      go_wp2_with (at_builtin; refine append_seq (w0 := wy) Tryz.elemU8 rfl _ _ rfl rfl (Ho.out.alloc _) rfl HSrc.out Hl1.out (HBr.out.alloc HBr.out.size _) ?_; intro va wa hob _ hbb; have KU := Lib.hid hob; have KB := Lib.hid hbb; clear hob hbb)
      go_roundw
      case rel => exact ⟨i + 1, by omega, by go_num, by rw [HRg.out]; exact KU.out, KB.out⟩
      case measure => simp [intOf]; omega
     ·obtain rfl : i = 8 := by omega
      have hiI : ¬ ((8 : Nat) : Int) < 8 := by omega
      obtain ⟨A, c, e⟩ := Ho.out.slice
      rw [show ((List.range (4 * 8)).map (byteW (lastW (bs s)))).length = 32 by simp] at e
      subst e
      have hcv : (convert 110 9 (.slice A 32 c)).run Tryz.prog wr = .ok (.string R) wr := by
       rw [← HR.out]
       exact run_toStr (p := (List.range 32).map (byteW (lastW (bs s)))) (u8S_bytes Ho.out) (by rw [List.length_map, List.length_range])
      go_wp2
      go_ret
      exact ⟨rfl, HB7.out.trans (HBr.out.mono HB7.out.size)⟩
end
end Go.Proofs.YtbccghbngaiceaaGreatDoor
