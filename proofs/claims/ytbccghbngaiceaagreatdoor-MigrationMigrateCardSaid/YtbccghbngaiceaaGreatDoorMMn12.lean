/-
  Joined: VqQ.
-/
import Derived.Test.YtbccghbngaiceaaGreatDoorMMn11
set_option linter.all false
set_option maxRecDepth 100000
set_option maxHeartbeats 64000000
namespace Go.Proofs.YtbccghbngaiceaaGreatDoor
section
open Go.RowKit
theorem extL_lt (l : List Ext) : ∀ b ∈ extL l, b < 256 := by
 intro b hb
 obtain ⟨x, _, hx⟩ := List.mem_flatMap.1 hb
 simp only [List.mem_append] at hx
 rcases hx with (hx | hx) | hx
 ·exact numL_lt _ b hx
 ·exact numL_lt _ b hx
 ·exact numL_lt _ b hx
theorem encL_lt (e : Ent) : ∀ b ∈ encL e, b < 256 := by
 intro b hb
 unfold encL at hb
 simp only [List.mem_append] at hb
 rcases hb with (((hb | hb) | hb) | hb) | hb
 ·exact nstL_lt _ b hb
 ·exact numL_lt _ b hb
 ·exact nstL_lt _ b hb
 ·exact numL_lt _ b hb
 ·exact extL_lt _ b hb
theorem encL_len {e : Ent} (h : EntOk e) : (encL e).length ≤ 5000 + 63 * e.exts.length := by
 have z := h.z
 have h1 := nstL_len (strB (headL e)) (by rw [strB_size]; have := headL_len h; omega)
 have h2 := numL_len e.size.toNat (by have := h.size; omega)
 have h3 := nstL_len e.dig (by have := z.dig; omega)
 have h4 := numL_len e.exts.length (by have := z.exn; omega)
 have h5 := extL_len h.exts.2.1
 have h6 := headL_len h
 have h7 := z.dig
 rw [strB_size] at h1 h2 h3 h4
 rw [strB_size] at h1
 rw [encL, List.length_append, List.length_append, List.length_append, List.length_append]
 omega
theorem enencode_ok (w : World) (e : Ent) (va vx : Value) (hva : SeqAt atrS w va e.attrs) (hvx : SeqAt extS w vx e.exts) (h : EntOk e) (hT : Tab w) : Calls Tryz.prog 96 #[entV e va vx] w fun r w' => r = .returned (.tuple #[.string (strB (encL e)), .int .i64 0]) ∧ Below w.heap.size w w' := by
 have HHd := Lib.hid (fun W (hW : Below w.heap.size w W) => enhead_ok W e va vx (hva.below hW) (hvx.below hW) h (hT.below hW))
 have HT := Lib.hid hT
 have z := h.z
 have hd1 := z.dig
 have hxn := z.exn
 have HhL := Lib.hid (headL_len h)
 have HLt := Lib.hid (encL_lt e)
 have Hxb := Lib.hid h.exts.2.1
 have hLn := encL_len h
 have hsz := h.size
 clear h hT z
 obtain ⟨R, hR⟩ : ∃ R, encL e = R := ⟨_, rfl⟩
 rw [hR] at HLt hLn ⊢
 rw [encL] at hR
 obtain ⟨T, hT⟩ : ∃ T, strB (headL e) = T := ⟨_, rfl⟩
 have HTz : Hid (T.size ≤ 100000000) := Lib.hid (by rw [← hT, strB_size]; have := HhL.out; omega)
 have hTz : T.size ≤ 4000 := by rw [← hT, strB_size]; exact HhL.out
 rw [hT] at hR HHd
 clear hT HhL
 obtain ⟨k, path, attrs, t, size, dig, exts⟩ := e
 dsimp only at hva hvx hd1 hxn Hxb hLn hsz hR
 obtain ⟨z, rfl⟩ : ∃ z : Nat, size = (z : Int) := ⟨size.toNat, by omega⟩
 rw [Int.toNat_natCast] at hR
 have HR := Lib.hid hR
 have Hvx := Lib.hid hvx
 obtain ⟨Aa, ca, rfl, ha1, ha2⟩ := hva.slice
 obtain ⟨Ax, cx, rfl, hx1, hx2⟩ := hvx.slice
 clear hva hvx hR
 rw [entV] at HHd ⊢
 dsimp only at HHd ⊢
 have hK := Blk.new w 48 [.int .i64 k, .string path, .slice Aa attrs.length ca, .string t, .int .i64 (z : Int), .string dig, .slice Ax exts.length cx]
 change Blk (w.alloc (.cells #[.int .i64 k, .string path, .slice Aa attrs.length ca, .string t, .int .i64 (z : Int), .string dig, .slice Ax exts.length cx] 48)) _ _ _ at hK
 have HB0 := Lib.hid ((Below.refl w.heap.size w).alloc (Nat.le_refl _) (.cells #[.int .i64 k, .string path, .slice Aa attrs.length ca, .string t, .int .i64 (z : Int), .string dig, .slice Ax exts.length cx] 48))
 have HK := Lib.hid hK
 clear hK
 go_enter Tryz.func96, Tryz.ntmps96
 go_upto_region 1 with fail
 generalize w.alloc (.cells #[.int .i64 k, .string path, .slice Aa attrs.length ca, .string t, .int .i64 (z : Int), .string dig, .slice Ax exts.length cx] 48) = wb at *
 have c0 := HK.out.cell (i := 0) rfl
 have c1 := HK.out.cell (i := 1) rfl
 have c2 := HK.out.cell (i := 2) rfl
 have c3 := HK.out.cell (i := 3) rfl
 have c4 := HK.out.cell (i := 4) rfl
 have c5 := HK.out.cell (i := 5) rfl
 have c6 := HK.out.cell (i := 6) rfl
 go_wp2_with fail
 refine (HHd.out _ HB0.out).mono ?_
 rintro e1 w1 ⟨rfl, hb1⟩
 have HK1 := Lib.hid (HK.out.kept hb1)
 have HB1 := Lib.hid (HB0.out.trans (hb1.mono HB0.out.size))
 clear hb1 c0 c1 c2 c3 c4 c5 c6 HK HB0
 obtain ⟨T1, hT1⟩ : ∃ X, strB (nstL (bs T)) = X := ⟨_, rfl⟩
 obtain ⟨T2, hT2⟩ : ∃ X, strB (numL z) = X := ⟨_, rfl⟩
 obtain ⟨T3, hT3⟩ : ∃ X, strB (nstL (bs dig)) = X := ⟨_, rfl⟩
 obtain ⟨T4, hT4⟩ : ∃ X, strB (numL exts.length) = X := ⟨_, rfl⟩
 have q1 : T1.size ≤ 4100 := by rw [← hT1]; have := nstL_len T (by omega); omega
 have q2 : T2.size ≤ 21 := by rw [← hT2]; exact numL_len z (by omega)
 have q3 : T3.size ≤ 100 := by rw [← hT3]; have := nstL_len dig (by omega); omega
 have q4 : T4.size ≤ 21 := by rw [← hT4]; exact numL_len exts.length (by omega)
 have HTT : Hid ((T1 ++ T2 ++ T3 ++ T4).size ≤ 1000000000) := Lib.hid (by simp only [ByteArray.size_append]; omega)
 have HTb : Hid (bs (T1 ++ T2 ++ T3 ++ T4) = nstL (bs T) ++ numL z ++ nstL (bs dig) ++ numL exts.length) := Lib.hid (by
  rw [← hT1, ← hT2, ← hT3, ← hT4, strB_cat, strB_cat, strB_cat, bs_strB]
  intro b hb
  simp only [List.mem_append] at hb
  rcases hb with ((hb | hb) | hb) | hb
  ·exact nstL_lt _ b hb
  ·exact numL_lt _ b hb
  ·exact nstL_lt _ b hb
  ·exact numL_lt _ b hb)
 have HTl : Hid ((bs (T1 ++ T2 ++ T3 ++ T4)).length ≤ 5000) := Lib.hid (by rw [bs_len]; simp only [ByteArray.size_append]; omega)
 have HSt0 : Hid (∀ (W : World) (s : ByteArray), Below w1.heap.size w1 W → s.size ≤ 100000000 → Calls Tryz.prog 51 #[.string s] W fun e w' => e = .returned (.string (strB (nstL (bs s)))) ∧ Below W.heap.size W w') := Lib.hid (fun W s hW hs => nnstring_any W s (by omega) (HT.out.below (HB1.out.trans (hW.mono HB1.out.size))))
 have HSt : Hid (∀ (W : World) (s : ByteArray), Below w1.heap.size w1 W → s.size ≤ 100000000 → Calls Tryz.prog 51 #[.string s] W fun e w' => e = .returned (.string (strB (nstL (bs s)))) ∧ Below W.heap.size W w') := HSt0
 have HNu : Hid (∀ (W : World) (n : Nat), Below w1.heap.size w1 W → n < 9223372036854775808 → Calls Tryz.prog 48 #[.int .i64 (n : Int)] W fun e w' => e = .returned (.string (strB (numL n))) ∧ Below W.heap.size W w') := Lib.hid (fun W n hW hn => nnumber_any W n hn (HT.out.below (HB1.out.trans (hW.mono HB1.out.size))))
 have HZz : Hid (z < 9223372036854775808) := Lib.hid (by omega)
 have HXz : Hid (exts.length < 9223372036854775808) := Lib.hid (by omega)
 have HDz : Hid (dig.size ≤ 100000000) := Lib.hid (by omega)
 have hc1 : ¬ 9223372036854775807 < T1.size + T2.size := by omega
 have hc2 : ¬ 9223372036854775807 < T1.size + T2.size + T3.size := by omega
 have hc3 : ¬ 9223372036854775807 < T1.size + T2.size + T3.size + T4.size := by omega
 have HBl0 := Lib.hid (Bld.new w1)
 have HBc0 := Lib.hid ((Below.refl w1.heap.size w1).alloc (Nat.le_refl _) (.cells #[.pointer none, .slice none 0 0] 112))
 have H1 := Lib.hid hT1
 have H2 := Lib.hid hT2
 have H3 := Lib.hid hT3
 have H4 := Lib.hid hT4
 clear hT1 hT2 hT3 hT4 HSt0
 go_upto_region 5 with fail
 generalize w1.alloc (.cells #[.pointer none, .slice none 0 0] 112) = wz at *
 have HBl := Lib.hid HBl0.out.drew
 have HBc := Lib.hid HBc0.out.drew
 go_cut [] (fun wx => Bld wx w1.heap.size w1.heap.size ([] ++ bs (T1 ++ T2 ++ T3 ++ T4)) ∧ Below w1.heap.size w1 wx)
 case first =>
  refine wp_region_held_drew (S := (fun W => W.cell? ⟨w.heap.size, 4, none⟩ = some (.int .i64 (z : Int)) ∧ W.cell? ⟨w.heap.size, 5, none⟩ = some (.string dig) ∧ W.cell? ⟨w.heap.size, 6, none⟩ = some (.slice Ax exts.length cx))) (by kernel_rfl) ?_ (fun hHeld => ?_)
  ·exact ⟨(HK1.out.kept HBc.out).cell (i := 4) rfl, (HK1.out.kept HBc.out).cell (i := 5) rfl, (HK1.out.kept HBc.out).cell (i := 6) rfl⟩
  refine tk 0 ?_
  refine tk 2 ?_
  refine tk 3 ?_
  refine tk 6 ?_
  refine tk 7 ?_
  refine tk 10 ?_
  refine tk 11 ?_
  refine tk 12 ?_
  refine wpAnyH_ready (rs := [1]) (by kernel_rfl) (by simp) ?_
  refine AllReadyH.cons (o := _) rfl (fun K hK => ?_) ?_
  ·go_simp
   refine (show Calls _ _ _ _ fun e w' => e = .returned (.string T1) ∧ _ by rw [← H1.out]; exact HSt.out _ T HBc.out HTz.out).mono ?_
   rintro e5 w5 ⟨rfl, hb5⟩
   (try go_wp2_with fail)
   have HBl := Lib.hid (HBl.out.below hb5)
   have HBc := Lib.hid (HBc.out.trans (hb5.mono HBc.out.size))
   clear hb5
   refine hko hK (by exact ⟨(HK1.out.kept HBc.out).cell (i := 4) rfl, (HK1.out.kept HBc.out).cell (i := 5) rfl, (HK1.out.kept HBc.out).cell (i := 6) rfl⟩) (fun _ => ?_)
   clear hK K
   refine wpAnyH_ready (rs := [4]) (by kernel_rfl) (by simp) ?_
   refine AllReadyH.cons (o := _) rfl (fun K hK => ?_) ?_
   ·go_simp
    refine (show Calls _ _ _ _ fun e w' => e = .returned (.string T2) ∧ _ by rw [← H2.out]; exact HNu.out _ z HBc.out HZz.out).mono ?_
    rintro e6 w6 ⟨rfl, hb6⟩
    (try go_wp2_with fail)
    have HBl := Lib.hid (HBl.out.below hb6)
    have HBc := Lib.hid (HBc.out.trans (hb6.mono HBc.out.size))
    clear hb6
    refine hko hK (by exact ⟨(HK1.out.kept HBc.out).cell (i := 4) rfl, (HK1.out.kept HBc.out).cell (i := 5) rfl, (HK1.out.kept HBc.out).cell (i := 6) rfl⟩) (fun _ => ?_)
    clear hK K
    refine tk 5 ?_
    refine wpAnyH_ready (rs := [8]) (by kernel_rfl) (by simp) ?_
    refine AllReadyH.cons (o := _) rfl (fun K hK => ?_) ?_
    ·go_simp
     refine (show Calls _ _ _ _ fun e w' => e = .returned (.string T3) ∧ _ by rw [← H3.out]; exact HSt.out _ dig HBc.out HDz.out).mono ?_
     rintro e7 w7 ⟨rfl, hb7⟩
     (try go_wp2_with fail)
     have HBl := Lib.hid (HBl.out.below hb7)
     have HBc := Lib.hid (HBc.out.trans (hb7.mono HBc.out.size))
     clear hb7
     refine hko hK (by exact ⟨(HK1.out.kept HBc.out).cell (i := 4) rfl, (HK1.out.kept HBc.out).cell (i := 5) rfl, (HK1.out.kept HBc.out).cell (i := 6) rfl⟩) (fun _ => ?_)
     clear hK K
     refine tk 9 ?_
     refine wpAnyH_ready (rs := [13]) (by kernel_rfl) (by simp) ?_
     refine AllReadyH.cons (o := _) rfl (fun K hK => ?_) ?_
     ·go_simp
      refine (show Calls _ _ _ _ fun e w' => e = .returned (.string T4) ∧ _ by rw [← H4.out]; exact HNu.out _ exts.length HBc.out HXz.out).mono ?_
      rintro e8 w8 ⟨rfl, hb8⟩
      (try go_wp2_with fail)
      have HBl := Lib.hid (HBl.out.below hb8)
      have HBc := Lib.hid (HBc.out.trans (hb8.mono HBc.out.size))
      clear hb8
      refine hko hK (by exact ⟨(HK1.out.kept HBc.out).cell (i := 4) rfl, (HK1.out.kept HBc.out).cell (i := 5) rfl, (HK1.out.kept HBc.out).cell (i := 6) rfl⟩) (fun _ => ?_)
      clear hK K
      refine tk 14 ?_
      refine wpAnyH_ready (rs := [15]) (by kernel_rfl) (by simp) ?_
      refine AllReadyH.cons (o := _) rfl (fun K hK => ?_) ?_
      ·go_simp
       refine (wsB _ _ _ _ (T1 ++ T2 ++ T3 ++ T4) HBl.out (by decide) HTT.out HBc.out.size).mono ?_
       rintro e9 w9 ⟨rfl, hbl9, hb9⟩
       (try go_wp2_with fail)
       have HBl := Lib.hid hbl9
       have HBc := Lib.hid (HBc.out.trans hb9)
       clear hb9 hbl9
       refine hko hK (by exact ⟨(HK1.out.kept HBc.out).cell (i := 4) rfl, (HK1.out.kept HBc.out).cell (i := 5) rfl, (HK1.out.kept HBc.out).cell (i := 6) rfl⟩) (fun _ => ?_)
       clear hK K
       refine wpAnyH_done (by kernel_rfl) ?_ _
       go_wp2_with fail
       go_meet
       exact ⟨HBl.out, HBc.out⟩
      exact AllReadyH.nil
     exact AllReadyH.nil
    exact AllReadyH.nil
   exact AllReadyH.nil
  exact AllReadyH.nil
 case rest =>
  obtain ⟨hbl, hbc⟩ := hcut
  obtain ⟨A0, hA0⟩ : ∃ A0, [] ++ bs (T1 ++ T2 ++ T3 ++ T4) = A0 := ⟨_, rfl⟩
  rw [hA0] at hbl
  have HA0 : Hid (A0 = nstL (bs T) ++ numL z ++ nstL (bs dig) ++ numL exts.length) := Lib.hid (by rw [← hA0, List.nil_append, HTb.out])
  have HA0l : Hid (A0.length ≤ 5000) := Lib.hid (by rw [← hA0, List.nil_append]; exact HTl.out)
  have HBl3 := Lib.hid hbl
  have HBc3 := Lib.hid hbc
  have HK3 := Lib.hid (HK1.out.kept hbc)
  clear hbl hbc HBl HBc HBl0 HBc0 hA0 q1 q2 q3 q4 hc1 hc2 hc3 HTT HTb HTl H1 H2 H3 H4
  have c6 := HK3.out.cell (i := 6) rfl
  have HAl : Hid (∀ i, (extL (exts.take i)).length ≤ 5000000) := Lib.hid (fun i => by
   have h1 := extL_len (l := exts.take i) (fun x hx => Hxb.out x (List.mem_of_mem_take hx))
   have h2 := Nat.mul_le_mul (show (exts.take i).length ≤ 65536 by rw [List.length_take]; omega) (Nat.le_refl 63)
   omega)
  go_wp2
  go_loopw [36] (fun x wr => ∃ i : Nat, i ≤ exts.length ∧ x = .int .i64 (i : Int) ∧ Bld wr w1.heap.size w1.heap.size (A0 ++ extL (exts.take i)) ∧ Below w1.heap.size w1 wr) (fun x _ => exts.length - (intOf x).toNat)
  case atStart => exact ⟨0, by omega, rfl, by rw [List.take_zero, show extL [] = [] from rfl, List.append_nil]; exact HBl3.out, HBc3.out⟩
  case round =>
   obtain ⟨i, hi, rfl, hbl, hB⟩ := hrel
   have HBl := Lib.hid hbl
   have HB := Lib.hid hB
   clear hbl hB c6
   by_cases h : i < exts.length
   ·have hiI : (i : Int) < exts.length := by omega
    obtain ⟨x, hx'⟩ : ∃ x, exts[i]? = some x := ⟨_, List.getElem?_eq_getElem h⟩
    have hxb := of_decide_eq_true (Hxb.out x (List.mem_of_getElem? hx'))
    have HNx0 := Lib.hid (extL_take hx')
    obtain ⟨_, _, e9, _, _, h4⟩ := Hvx.out.below (HB1.out.trans (HB.out.mono HB1.out.size))
    cases e9
    obtain ⟨b, o, cs, rfl, rfl, hc⟩ := h4 i x hx'
    obtain ⟨x0, x1, x2⟩ := x
    dsimp only at hxb HNx0
    obtain ⟨n0, hn0⟩ : ∃ n : Nat, x0 = (n : Int) := ⟨x0.toNat, by omega⟩
    obtain ⟨n1, hn1⟩ : ∃ n : Nat, x1 = (n : Int) := ⟨x1.toNat, by omega⟩
    obtain ⟨n2, hn2⟩ : ∃ n : Nat, x2 = (n : Int) := ⟨x2.toNat, by omega⟩
    subst hn0 hn1 hn2
    rw [Int.toNat_natCast, Int.toNat_natCast, Int.toNat_natCast] at HNx0
    have e0 : wr.cell? ⟨b, o + i * 3, none⟩ = some (.int .i64 (n0 : Int)) := hc 0 _ rfl
    have e1 : wr.cell? ⟨b, o + i * 3 + 1, none⟩ = some (.int .i64 (n1 : Int)) := hc 1 _ rfl
    have e2 : wr.cell? ⟨b, o + i * 3 + 2, none⟩ = some (.int .i64 (n2 : Int)) := hc 2 _ rfl
    have hTm := Blk.new wr 80 [.int .i64 (n0 : Int), .int .i64 (n1 : Int), .int .i64 (n2 : Int)]
    change Blk (wr.alloc (.cells #[.int .i64 (n0 : Int), .int .i64 (n1 : Int), .int .i64 (n2 : Int)] 80)) _ _ _ at hTm
    have HTm0 := Lib.hid hTm
    have HBt := Lib.hid (HB.out.alloc HB.out.size (.cells #[.int .i64 (n0 : Int), .int .i64 (n1 : Int), .int .i64 (n2 : Int)] 80))
    have HBlt := Lib.hid (HBl.out.alloc (.cells #[.int .i64 (n0 : Int), .int .i64 (n1 : Int), .int .i64 (n2 : Int)] 80))
    obtain ⟨U0, hU0⟩ : ∃ X, strB (numL n0) = X := ⟨_, rfl⟩
    obtain ⟨U1, hU1⟩ : ∃ X, strB (numL n1) = X := ⟨_, rfl⟩
    obtain ⟨U2, hU2⟩ : ∃ X, strB (numL n2) = X := ⟨_, rfl⟩
    have q1 : U0.size ≤ 21 := by rw [← hU0]; exact numL_len n0 (by omega)
    have q2 : U1.size ≤ 21 := by rw [← hU1]; exact numL_len n1 (by omega)
    have q3 : U2.size ≤ 21 := by rw [← hU2]; exact numL_len n2 (by omega)
    have hc1 : ¬ 9223372036854775807 < U0.size + U1.size := by omega
    have hc2 : ¬ 9223372036854775807 < U0.size + U1.size + U2.size := by omega
    have HUz : Hid ((U0 ++ U1 ++ U2).size ≤ 1000000000) := Lib.hid (by simp only [ByteArray.size_append]; omega)
    have HNx : Hid (A0 ++ extL (exts.take (i + 1)) = A0 ++ extL (exts.take i) ++ bs (U0 ++ U1 ++ U2)) := Lib.hid (by
     rw [HNx0.out, ← hU0, ← hU1, ← hU2, strB_cat, strB_cat, bs_strB, ← List.append_assoc]
     intro b hb
     simp only [List.mem_append] at hb
     rcases hb with (hb | hb) | hb
     ·exact numL_lt _ b hb
     ·exact numL_lt _ b hb
     ·exact numL_lt _ b hb)
    have H1 := Lib.hid hU0
    have H2 := Lib.hid hU1
    have H3 := Lib.hid hU2
    have HN0 : Hid (n0 < 9223372036854775808) := Lib.hid (by omega)
    have HN1 : Hid (n1 < 9223372036854775808) := Lib.hid (by omega)
    have HN2 : Hid (n2 < 9223372036854775808) := Lib.hid (by omega)
    have HLn : Hid ((A0 ++ extL (exts.take i)).length ≤ 1000000000) := Lib.hid (by rw [List.length_append]; have := HA0l.out; have := HAl.out i; omega)
    clear hc h4 hx' hxb hTm hU0 hU1 hU2 HNx0
    go_upto_region 9 with fail
    generalize wr.alloc (.cells #[.int .i64 (n0 : Int), .int .i64 (n1 : Int), .int .i64 (n2 : Int)] 80) = wt at *
    have HGt : Hid (wr.heap.size ≠ w1.heap.size) := Lib.hid (by have := HBl.out.lt; omega)
    generalize wr.heap.size = gt at *
    clear e0 e1 e2
    have HBl := Lib.hid HBlt.out.drew
    have HBc := Lib.hid HBt.out.drew
    have HTm := Lib.hid HTm0.out.drewV
    refine wp_region_held_drew (S := (fun W => W.cell? ⟨gt, 0, none⟩ = some (.int .i64 (n0 : Int)) ∧ W.cell? ⟨gt, 1, none⟩ = some (.int .i64 (n1 : Int)) ∧ W.cell? ⟨gt, 2, none⟩ = some (.int .i64 (n2 : Int)))) (by kernel_rfl) ?_ (fun hHeld => ?_)
    ·exact ⟨HTm.out.cell (i := 0) rfl, HTm.out.cell (i := 1) rfl, HTm.out.cell (i := 2) rfl⟩
    refine tk 0 ?_
    refine tk 1 ?_
    refine tk 3 ?_
    refine tk 4 ?_
    refine tk 7 ?_
    refine tk 8 ?_
    refine wpAnyH_ready (rs := [2]) (by kernel_rfl) (by simp) ?_
    refine AllReadyH.cons (o := _) rfl (fun K hK => ?_) ?_
    ·go_simp
     refine (show Calls _ _ _ _ fun e w' => e = .returned (.string U0) ∧ _ by rw [← H1.out]; exact HNu.out _ n0 HBc.out HN0.out).mono ?_
     rintro e5 w5 ⟨rfl, hb5⟩
     (try go_wp2_with fail)
     have HTm := Lib.hid (HTm.out.kept hb5)
     have HBl := Lib.hid (HBl.out.below hb5)
     have HBc := Lib.hid (HBc.out.trans (hb5.mono HBc.out.size))
     clear hb5
     refine hko hK (by exact ⟨HTm.out.cell (i := 0) rfl, HTm.out.cell (i := 1) rfl, HTm.out.cell (i := 2) rfl⟩) (fun _ => ?_)
     clear hK K
     refine wpAnyH_ready (rs := [5]) (by kernel_rfl) (by simp) ?_
     refine AllReadyH.cons (o := _) rfl (fun K hK => ?_) ?_
     ·go_simp
      refine (show Calls _ _ _ _ fun e w' => e = .returned (.string U1) ∧ _ by rw [← H2.out]; exact HNu.out _ n1 HBc.out HN1.out).mono ?_
      rintro e6 w6 ⟨rfl, hb6⟩
      (try go_wp2_with fail)
      have HTm := Lib.hid (HTm.out.kept hb6)
      have HBl := Lib.hid (HBl.out.below hb6)
      have HBc := Lib.hid (HBc.out.trans (hb6.mono HBc.out.size))
      clear hb6
      refine hko hK (by exact ⟨HTm.out.cell (i := 0) rfl, HTm.out.cell (i := 1) rfl, HTm.out.cell (i := 2) rfl⟩) (fun _ => ?_)
      clear hK K
      refine tk 6 ?_
      refine wpAnyH_ready (rs := [9]) (by kernel_rfl) (by simp) ?_
      refine AllReadyH.cons (o := _) rfl (fun K hK => ?_) ?_
      ·go_simp
       refine (show Calls _ _ _ _ fun e w' => e = .returned (.string U2) ∧ _ by rw [← H3.out]; exact HNu.out _ n2 HBc.out HN2.out).mono ?_
       rintro e7 w7 ⟨rfl, hb7⟩
       (try go_wp2_with fail)
       have HTm := Lib.hid (HTm.out.kept hb7)
       have HBl := Lib.hid (HBl.out.below hb7)
       have HBc := Lib.hid (HBc.out.trans (hb7.mono HBc.out.size))
       clear hb7
       refine hko hK (by exact ⟨HTm.out.cell (i := 0) rfl, HTm.out.cell (i := 1) rfl, HTm.out.cell (i := 2) rfl⟩) (fun _ => ?_)
       clear hK K
       refine tk 10 ?_
       refine wpAnyH_ready (rs := [11]) (by kernel_rfl) (by simp) ?_
       refine AllReadyH.cons (o := _) rfl (fun K hK => ?_) ?_
       ·go_simp
        refine (wsK _ _ _ _ (U0 ++ U1 ++ U2) HBl.out HLn.out HUz.out HBc.out.size).mono ?_
        rintro e9 w9 ⟨rfl, hbl9, hb9, ho9⟩
        (try go_wp2_with fail)
        have HBl9 := Lib.hid hbl9
        have HBc9 := Lib.hid (HBc.out.trans hb9)
        have HTm := Lib.hid (HTm.out.others ho9 HGt.out (by decide))
        clear hb9 hbl9 ho9
        refine hko hK (by exact ⟨HTm.out.cell (i := 0) rfl, HTm.out.cell (i := 1) rfl, HTm.out.cell (i := 2) rfl⟩) (fun _ => ?_)
        clear hK K
        refine wpAnyH_done (by kernel_rfl) ?_ _
        go_wp2_with fail
        go_roundw
        case rel => exact ⟨i + 1, by omega, by go_num, by rw [HNx.out]; exact HBl9.out, HBc9.out⟩
        case measure => simp [intOf]; omega
       exact AllReadyH.nil
      exact AllReadyH.nil
     exact AllReadyH.nil
    exact AllReadyH.nil
   ·obtain rfl : i = exts.length := by omega
    have hiI : ¬ ((exts.length : Nat) : Int) < (exts.length : Int) := by omega
    have HRl : Hid (A0 ++ extL (exts.take exts.length) = R) := Lib.hid (by rw [← HR.out, HA0.out, List.take_length])
    rw [HRl.out] at HBl
    have HS := Lib.hid (str_any wr w1.heap.size w1.heap.size R HLt.out HBl.out HB.out.size)
    go_wp2_with fail
    refine HS.out.mono ?_
    rintro e6 w6 ⟨rfl, _, hb6⟩
    have HB6 := Lib.hid (HB1.out.trans ((HB.out.trans hb6).mono HB1.out.size))
    clear hb6
    go_wp2_with fail
    go_ret2
    exact ⟨rfl, HB6.out⟩
end
end Go.Proofs.YtbccghbngaiceaaGreatDoor
