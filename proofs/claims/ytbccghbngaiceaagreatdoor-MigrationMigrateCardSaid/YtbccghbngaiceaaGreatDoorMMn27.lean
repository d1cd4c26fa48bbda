/-
  Joined: MbF.
-/
import Derived.Test.YtbccghbngaiceaaGreatDoorMMn19
import Derived.Test.YtbccghbngaiceaaGreatDoorMMn25
set_option linter.all false
set_option maxRecDepth 100000
set_option maxHeartbeats 64000000
namespace Go.Proofs.YtbccghbngaiceaaGreatDoor
section
open Go.RowKit
def fldE (x : Ses) : Int :=
 if x.num < 1 ∨ 255 < x.num ∨ x.date < 0 ∨ 1000000000 < x.date then 2
 else if x.prev.size ≠ 0 ∧ x.prev.size ≠ 32 then 1 else 0
def entsE : List Ent → Int
 | [] => 0
 | e :: r => if enE e ≠ 0 then enE e else entsE r
def sgnE (x : Ses) : Int := if fldE x ≠ 0 then fldE x else if entsE x.ents ≠ 0 then entsE x.ents else if 2000 < x.sig.size then 6 else 0
structure SesS (x : Ses) : Prop where
 prev : x.prev.size ≤ 1000
 str : x.str.size ≤ 14680064
 sig : x.sig.size ≤ 1000000
 ents : x.ents.length ≤ 12
 each : ∀ e ∈ x.ents, e.path.size ≤ 1000 ∧ e.tgt.size ≤ 1000
theorem entsE_cons {e : Ent} {r : List Ent} : entsE (e :: r) = if enE e ≠ 0 then enE e else entsE r := rfl
theorem entsE_0 {l : List Ent} : entsE l = 0 ↔ ∀ e ∈ l, EntOk e := by
 induction l with
 | nil => exact ⟨fun _ e h => (nomatch h), fun _ => rfl⟩
 | cons e r ih =>
  rw [entsE_cons]
  by_cases h : enE e = 0
  ·rw [if_neg (fun q => q h), ih]
   exact ⟨fun q x hx => (List.mem_cons.1 hx).elim (fun z => by rw [z]; exact enE_0.1 h) (q x), fun q x hx => q x (List.mem_cons_of_mem _ hx)⟩
  ·rw [if_pos h]
   exact ⟨fun q => absurd q h, fun q => absurd (enE_0.2 (q e List.mem_cons_self)) h⟩
theorem dirfields_gen (w : World) (num date : Int) (prev st sg : ByteArray) (ve : Value) (l : List Ent) (h1 : ve.oneCell' = true) : Calls Tryz.prog 95 #[.agg #[.int .i64 num, .int .i64 date, .string prev, ve, .string st, .string sg]] w fun r w' => r = .returned (.int .i64 (fldE ⟨num, date, prev, l, st, sg⟩)) ∧ Below w.heap.size w w' := by
 have hK := Blk.new w 43 [.int .i64 num, .int .i64 date, .string prev, ve, .string st, .string sg]
 change Blk (w.alloc (.cells #[.int .i64 num, .int .i64 date, .string prev, ve, .string st, .string sg] 43)) _ _ _ at hK
 have HB0 := Lib.hid ((Below.refl w.heap.size w).alloc (Nat.le_refl _) (.cells #[.int .i64 num, .int .i64 date, .string prev, ve, .string st, .string sg] 43))
 have HK := Lib.hid hK
 clear hK
 obtain ⟨R, hR⟩ : ∃ R, fldE ⟨num, date, prev, l, st, sg⟩ = R := ⟨_, rfl⟩
 rw [hR]
 rw [fldE] at hR
 dsimp only at hR
 by_cases hb : num < 1 ∨ 255 < num ∨ date < 0 ∨ 1000000000 < date
 ·rw [if_pos hb] at hR
  subst hR
  rcases (by omega : num < 1 ∨ (¬ num < 1 ∧ 255 < num) ∨ (¬ num < 1 ∧ ¬ 255 < num ∧ date < 0) ∨ (¬ num < 1 ∧ ¬ 255 < num ∧ ¬ date < 0 ∧ 1000000000 < date)) with f1 | ⟨f1, f2⟩ | ⟨f1, f2, f3⟩ | ⟨f1, f2, f3, f4⟩
  all_goals
   clear hb
   go_enter Tryz.func95, Tryz.ntmps95
   go_upto_region 1 with fail
   generalize w.alloc (.cells #[.int .i64 num, .int .i64 date, .string prev, ve, .string st, .string sg] 43) = wb at *
   have c0 := HK.out.cell (i := 0) rfl
   have c1 := HK.out.cell (i := 1) rfl
   have c2 := HK.out.cell (i := 2) rfl
   go_wp2_with fail
   go_ret
   exact ⟨rfl, HB0.out⟩
 ·rw [if_neg hb] at hR
  have i1 : ¬ num < 1 := by omega
  have i2 : ¬ (255 : Int) < num := by omega
  have i3 : ¬ date < 0 := by omega
  have i4 : ¬ (1000000000 : Int) < date := by omega
  clear hb
  by_cases p0 : prev.size = 0
  ·have e0 : prev = ⟨#[]⟩ := by
    apply ByteArray.ext
    exact Array.eq_empty_of_size_eq_zero p0
   rw [if_neg (by omega)] at hR
   subst hR
   subst e0
   clear p0
   go_enter Tryz.func95, Tryz.ntmps95
   go_upto_region 1 with fail
   generalize w.alloc (.cells #[.int .i64 num, .int .i64 date, .string ⟨#[]⟩, ve, .string st, .string sg] 43) = wb at *
   have c0 := HK.out.cell (i := 0) rfl
   have c1 := HK.out.cell (i := 1) rfl
   have c2 := HK.out.cell (i := 2) rfl
   go_wp2_with fail
   go_ret
   exact ⟨rfl, HB0.out⟩
  ·have hb0 : prev.toList.isEmpty = false := isEmptyV p0
   by_cases p1 : prev.size = 32
   ·have i5 : ((prev.size : Int) != 32) = false := by rw [p1]; rfl
    rw [if_neg (by omega)] at hR
    subst hR
    clear p0 p1
    go_enter Tryz.func95, Tryz.ntmps95
    go_upto_region 1 with fail
    generalize w.alloc (.cells #[.int .i64 num, .int .i64 date, .string prev, ve, .string st, .string sg] 43) = wb at *
    have c0 := HK.out.cell (i := 0) rfl
    have c1 := HK.out.cell (i := 1) rfl
    have c2 := HK.out.cell (i := 2) rfl
    go_wp2_with fail
    go_ret
    exact ⟨rfl, HB0.out⟩
   ·have i5 : ((prev.size : Int) != 32) = true := by
     rw [bne, beq_eq_false_iff_ne.2 (by omega)]
     rfl
    rw [if_pos ⟨p0, p1⟩] at hR
    subst hR
    clear p0 p1
    go_enter Tryz.func95, Tryz.ntmps95
    go_upto_region 1 with fail
    generalize w.alloc (.cells #[.int .i64 num, .int .i64 date, .string prev, ve, .string st, .string sg] 43) = wb at *
    have c0 := HK.out.cell (i := 0) rfl
    have c1 := HK.out.cell (i := 1) rfl
    have c2 := HK.out.cell (i := 2) rfl
    go_wp2_with fail
    go_ret
    exact ⟨rfl, HB0.out⟩
theorem dirsigned_fld (w : World) (x : Ses) (ve : Value) (hve : SeqAt entS w ve x.ents) (h : fldE x ≠ 0) : Calls Tryz.prog 53 #[.agg #[.int .i64 x.num, .int .i64 x.date, .string x.prev, ve, .string x.str, .string x.sig]] w fun r w' => r = .returned (.tuple #[.string ⟨#[]⟩, .int .i64 (fldE x)]) ∧ Below w.heap.size w w' := by
 obtain ⟨C, hC⟩ : ∃ C, fldE x = C := ⟨_, rfl⟩
 rw [hC] at h ⊢
 have g1 : (C != 0) = true := by rw [bne, beq_eq_false_iff_ne.2 h]; rfl
 obtain ⟨num, date, prev, l, st, sg⟩ := x
 dsimp only at hve ⊢
 have hone := hve.one
 have HFi := Lib.hid (fun W => dirfields_gen W num date prev st sg ve l hone)
 rw [hC] at HFi
 obtain ⟨A, c, rfl, _, _⟩ := hve.slice
 clear hve hC h hone
 have hK := Blk.new w 43 [.int .i64 num, .int .i64 date, .string prev, .slice A l.length c, .string st, .string sg]
 change Blk (w.alloc (.cells #[.int .i64 num, .int .i64 date, .string prev, .slice A l.length c, .string st, .string sg] 43)) _ _ _ at hK
 have HB0 := Lib.hid ((Below.refl w.heap.size w).alloc (Nat.le_refl _) (.cells #[.int .i64 num, .int .i64 date, .string prev, .slice A l.length c, .string st, .string sg] 43))
 have HK := Lib.hid hK
 clear hK
 go_enter Tryz.func53, Tryz.ntmps53
 go_upto_region 1 with fail
 generalize w.alloc (.cells #[.int .i64 num, .int .i64 date, .string prev, .slice A l.length c, .string st, .string sg] 43) = wb at *
 have c0 := HK.out.cell (i := 0) rfl
 have c1 := HK.out.cell (i := 1) rfl
 have c2 := HK.out.cell (i := 2) rfl
 have c3 := HK.out.cell (i := 3) rfl
 have c4 := HK.out.cell (i := 4) rfl
 have c5 := HK.out.cell (i := 5) rfl
 go_wp2_with fail
 refine (HFi.out _).mono ?_
 rintro e1 w1 ⟨rfl, hb1⟩
 have HB1 := Lib.hid (HB0.out.trans (hb1.mono HB0.out.size))
 clear hb1 c0 c1 c2 c3 c4 c5
 go_wp2_with fail
 go_ret2
 exact ⟨rfl, HB1.out⟩
theorem dirsigned_any (w : World) (x : Ses) (ve : Value) (hve : SeqAt entS w ve x.ents) (h : SesS x) (hf : fldE x = 0) (hT : Tb w) : Calls Tryz.prog 53 #[.agg #[.int .i64 x.num, .int .i64 x.date, .string x.prev, ve, .string x.str, .string x.sig]] w fun r w' => r = .returned (.tuple #[.string (if sgnE x = 0 then strB (signL x) else ⟨#[]⟩), .int .i64 (sgnE x)]) ∧ Below w.heap.size w w' := by
 have HT := Lib.hid hT
 have HLt := Lib.hid (signL_lt x)
 obtain ⟨KE, hKE⟩ : ∃ K, sgnE x = K := ⟨_, rfl⟩
 rw [hKE]
 rw [sgnE, if_neg (fun q => q hf)] at hKE
 obtain ⟨R, hR⟩ : ∃ R, signL x = R := ⟨_, rfl⟩
 rw [hR] at HLt ⊢
 obtain ⟨TX, hTX⟩ : ∃ T, (if KE = 0 then strB R else (⟨#[]⟩ : ByteArray)) = T := ⟨_, rfl⟩
 rw [hTX]
 have HTX := Lib.hid hTX
 clear hTX
 rw [signL] at hR
 have hsig := h.sig
 rw [fldE] at hf
 by_cases hb : x.num < 1 ∨ 255 < x.num ∨ x.date < 0 ∨ 1000000000 < x.date
 ·rw [if_pos hb] at hf; exact absurd hf (by decide)
 rw [if_neg hb] at hf
 have hprev : x.prev.size = 0 ∨ x.prev.size = 32 := by
  by_cases q : x.prev.size ≠ 0 ∧ x.prev.size ≠ 32
  ·rw [if_pos q] at hf; exact absurd hf (by decide)
  ·omega
 have hnum : 1 ≤ x.num ∧ x.num ≤ 255 := by omega
 have hdate : 0 ≤ x.date ∧ x.date ≤ 1000000000 := by omega
 have hstr := h.str
 have hen := h.ents
 have Hok := Lib.hid h.each
 clear hb hf
 clear h hT
 obtain ⟨num, date, prev, l, st, sg⟩ := x
 dsimp only at hve hnum hdate hprev hstr hen Hok hsig hR hKE ⊢
 have HKE := Lib.hid hKE
 obtain ⟨num, rfl⟩ : ∃ z : Nat, num = (z : Int) := ⟨num.toNat, by omega⟩
 obtain ⟨date, rfl⟩ : ∃ z : Nat, date = (z : Int) := ⟨date.toNat, by omega⟩
 rw [Int.toNat_natCast, Int.toNat_natCast] at hR
 obtain ⟨D, hD⟩ : ∃ D, strB (digL (bs st)) = D := ⟨_, rfl⟩
 have hDz : D.size = 32 := by rw [← hD, strB_size, digL_len]
 rw [hD] at hR
 have HD := Lib.hid hD
 have HR := Lib.hid hR
 have Hve := Lib.hid hve
 have hone := hve.one
 have HFi := Lib.hid (fun W => dirfields_ok W num date prev st sg ve (by omega) (by omega) hprev hone)
 obtain ⟨Ae, ce, rfl, he1, he2⟩ := hve.slice
 generalize hne : l.length = ne at *
 have Hne := Lib.hid hne
 have hpz : prev.size ≤ 32 := by omega
 clear hve hR hD hone hne hprev hKE
 have hK := Blk.new w 43 [.int .i64 (num : Int), .int .i64 (date : Int), .string prev, .slice Ae ne ce, .string st, .string sg]
 change Blk (w.alloc (.cells #[.int .i64 (num : Int), .int .i64 (date : Int), .string prev, .slice Ae ne ce, .string st, .string sg] 43)) _ _ _ at hK
 have HB0 := Lib.hid ((Below.refl w.heap.size w).alloc (Nat.le_refl _) (.cells #[.int .i64 (num : Int), .int .i64 (date : Int), .string prev, .slice Ae ne ce, .string st, .string sg] 43))
 have HK := Lib.hid hK
 clear hK
 have i1 : ¬ (14680064 : Int) < st.size := by omega
 have i2 : ¬ (400 : Int) < ne := by omega
 go_enter Tryz.func53, Tryz.ntmps53
 go_upto_region 1 with fail
 generalize w.alloc (.cells #[.int .i64 (num : Int), .int .i64 (date : Int), .string prev, .slice Ae ne ce, .string st, .string sg] 43) = wb at *
 have c0 := HK.out.cell (i := 0) rfl
 have c1 := HK.out.cell (i := 1) rfl
 have c2 := HK.out.cell (i := 2) rfl
 have c3 := HK.out.cell (i := 3) rfl
 have c4 := HK.out.cell (i := 4) rfl
 have c5 := HK.out.cell (i := 5) rfl
 go_wp2_with fail
 refine (HFi.out _).mono ?_
 rintro e1 w1 ⟨rfl, hb1⟩
 have HK1 := Lib.hid (HK.out.kept hb1)
 have HB1 := Lib.hid (HB0.out.trans (hb1.mono HB0.out.size))
 clear hb1 c0 c1 c2 c3 c4 c5 HK HB0
 have c3 := HK1.out.cell (i := 3) rfl
 have c4 := HK1.out.cell (i := 4) rfl
 obtain ⟨T1, hT1⟩ : ∃ X, strB (numL num) = X := ⟨_, rfl⟩
 obtain ⟨T2, hT2⟩ : ∃ X, strB (numL date) = X := ⟨_, rfl⟩
 obtain ⟨T3, hT3⟩ : ∃ X, strB (nstL (bs prev)) = X := ⟨_, rfl⟩
 obtain ⟨T4, hT4⟩ : ∃ X, strB (numL st.size) = X := ⟨_, rfl⟩
 obtain ⟨T5, hT5⟩ : ∃ X, strB (nstL (bs D)) = X := ⟨_, rfl⟩
 obtain ⟨T6, hT6⟩ : ∃ X, strB (numL ne) = X := ⟨_, rfl⟩
 have q1 : T1.size ≤ 21 := by rw [← hT1]; exact numL_len num (by omega)
 have q2 : T2.size ≤ 21 := by rw [← hT2]; exact numL_len date (by omega)
 have q3 : T3.size ≤ 100 := by rw [← hT3]; have := nstL_len prev (by omega); omega
 have q4 : T4.size ≤ 21 := by rw [← hT4]; exact numL_len st.size (by omega)
 have q5 : T5.size ≤ 100 := by rw [← hT5]; have := nstL_len D (by omega); omega
 have q6 : T6.size ≤ 21 := by rw [← hT6]; exact numL_len ne (by omega)
 have HTa : Hid ((T1 ++ T2 ++ T3).size ≤ 1000000000) := Lib.hid (by simp only [ByteArray.size_append]; omega)
 have HTb : Hid ((T4 ++ T5 ++ T6).size ≤ 1000000000) := Lib.hid (by simp only [ByteArray.size_append]; omega)
 have HTab : Hid (bs (T1 ++ T2 ++ T3) = numL num ++ numL date ++ nstL (bs prev)) := Lib.hid (by
  rw [← hT1, ← hT2, ← hT3, strB_cat, strB_cat, bs_strB]
  intro b hb
  simp only [List.mem_append] at hb
  rcases hb with (hb | hb) | hb
  ·exact numL_lt _ b hb
  ·exact numL_lt _ b hb
  ·exact nstL_lt _ b hb)
 have HTbb : Hid (bs (T4 ++ T5 ++ T6) = numL st.size ++ nstL (bs D) ++ numL ne) := Lib.hid (by
  rw [← hT4, ← hT5, ← hT6, strB_cat, strB_cat, bs_strB]
  intro b hb
  simp only [List.mem_append] at hb
  rcases hb with (hb | hb) | hb
  ·exact numL_lt _ b hb
  ·exact nstL_lt _ b hb
  ·exact numL_lt _ b hb)
 have HLa : Hid (([] ++ bs (T1 ++ T2 ++ T3)).length ≤ 1000000000) := Lib.hid (by rw [List.nil_append, bs_len]; exact HTa.out)
 have HLb : Hid (([] ++ bs (T1 ++ T2 ++ T3) ++ bs (T4 ++ T5 ++ T6)).length ≤ 1000) := Lib.hid (by rw [List.nil_append, List.length_append, bs_len, bs_len]; simp only [ByteArray.size_append]; omega)
 have hc1 : ¬ 9223372036854775807 < T1.size + T2.size := by omega
 have hc2 : ¬ 9223372036854775807 < T1.size + T2.size + T3.size := by omega
 have hc3 : ¬ 9223372036854775807 < T4.size + T5.size := by omega
 have hc4 : ¬ 9223372036854775807 < T4.size + T5.size + T6.size := by omega
 have HSt : Hid (∀ (W : World) (s : ByteArray), Below w1.heap.size w1 W → s.size ≤ 100000000 → Calls Tryz.prog 51 #[.string s] W fun e w' => e = .returned (.string (strB (nstL (bs s)))) ∧ Below W.heap.size W w') := Lib.hid (fun W s hW hs => nnstring_any W s (by omega) (HT.out.tab.below (HB1.out.trans (hW.mono HB1.out.size))))
 have HNu : Hid (∀ (W : World) (n : Nat), Below w1.heap.size w1 W → n < 9223372036854775808 → Calls Tryz.prog 48 #[.int .i64 (n : Int)] W fun e w' => e = .returned (.string (strB (numL n))) ∧ Below W.heap.size W w') := Lib.hid (fun W n hW hn => nnumber_any W n hn (HT.out.tab.below (HB1.out.trans (hW.mono HB1.out.size))))
 have HSm : Hid (∀ (W : World) (v : Value), SeqAt strS W v [st] → Calls Tryz.prog 54 #[v] W fun e w' => e = .returned (.string (strB (digL (bs st)))) ∧ Below W.heap.size W w') := Lib.hid (fun W v h => bsum_any W v st h (by omega))
 have HZ1 : Hid (num < 9223372036854775808) := Lib.hid (by omega)
 have HZ2 : Hid (date < 9223372036854775808) := Lib.hid (by omega)
 have HZ3 : Hid (prev.size ≤ 100000000) := Lib.hid (by omega)
 have HZ4 : Hid (st.size < 9223372036854775808) := Lib.hid (by omega)
 have HZ5 : Hid (D.size ≤ 100000000) := Lib.hid (by omega)
 have HZ6 : Hid (ne < 9223372036854775808) := Lib.hid (by omega)
 have H1 := Lib.hid hT1
 have H2 := Lib.hid hT2
 have H3 := Lib.hid hT3
 have H4 := Lib.hid hT4
 have H5 := Lib.hid hT5
 have H6 := Lib.hid hT6
 clear hT1 hT2 hT3 hT4 hT5 hT6 q1 q2 q3 q4 q5 q6 hDz hpz
 have HBl0 := Lib.hid (Bld.new w1)
 have HBc0 := Lib.hid ((Below.refl w1.heap.size w1).alloc (Nat.le_refl _) (.cells #[.pointer none, .slice none 0 0] 112))
 go_upto_region 7 with fail
 generalize w1.alloc (.cells #[.pointer none, .slice none 0 0] 112) = wz at *
 clear c3 c4
 have HBl := Lib.hid HBl0.out.drew
 have HBc := Lib.hid HBc0.out.drew
 go_cut [] (fun wx => Bld wx w1.heap.size w1.heap.size ([] ++ bs (T1 ++ T2 ++ T3)) ∧ Below w1.heap.size w1 wx)
 case first =>
  refine wp_region_held_drew (S := (fun W => W.cell? ⟨w.heap.size, 0, none⟩ = some (.int .i64 (num : Int)) ∧ W.cell? ⟨w.heap.size, 1, none⟩ = some (.int .i64 (date : Int)) ∧ W.cell? ⟨w.heap.size, 2, none⟩ = some (.string prev) ∧ W.cell? ⟨w.heap.size, 3, none⟩ = some (.slice Ae ne ce) ∧ W.cell? ⟨w.heap.size, 4, none⟩ = some (.string st) ∧ W.cell? ⟨w.heap.size, 5, none⟩ = some (.string sg))) (by kernel_rfl) ?_ (fun hHeld => ?_)
  ·exact ⟨(HK1.out.kept HBc.out).cell (i := 0) rfl, (HK1.out.kept HBc.out).cell (i := 1) rfl, (HK1.out.kept HBc.out).cell (i := 2) rfl, (HK1.out.kept HBc.out).cell (i := 3) rfl, (HK1.out.kept HBc.out).cell (i := 4) rfl, (HK1.out.kept HBc.out).cell (i := 5) rfl⟩
  refine tk 0 ?_
  refine tk 1 ?_
  refine tk 3 ?_
  refine tk 4 ?_
  refine tk 7 ?_
  refine tk 8 ?_
  refine wpAnyH_ready (rs := [2]) (by kernel_rfl) (by simp) ?_
  refine AllReadyH.cons (o := _) rfl (fun K hK => ?_) ?_
  ·go_simp
   refine (show Calls _ _ _ _ fun e w' => e = .returned (.string T1) ∧ _ by rw [← H1.out]; exact HNu.out _ num HBc.out HZ1.out).mono ?_
   rintro e5 w5 ⟨rfl, hb5⟩
   (try go_wp2_with fail)
   have HBl := Lib.hid (HBl.out.below hb5)
   have HBc := Lib.hid (HBc.out.trans (hb5.mono HBc.out.size))
   first | (have HV := Lib.hid (HV.out.below hb5)) | skip
   clear hb5
   refine hko hK (by exact ⟨(HK1.out.kept HBc.out).cell (i := 0) rfl, (HK1.out.kept HBc.out).cell (i := 1) rfl, (HK1.out.kept HBc.out).cell (i := 2) rfl, (HK1.out.kept HBc.out).cell (i := 3) rfl, (HK1.out.kept HBc.out).cell (i := 4) rfl, (HK1.out.kept HBc.out).cell (i := 5) rfl⟩) (fun _ => ?_)
   clear hK K
   refine wpAnyH_ready (rs := [5]) (by kernel_rfl) (by simp) ?_
   refine AllReadyH.cons (o := _) rfl (fun K hK => ?_) ?_
   ·go_simp
    refine (show Calls _ _ _ _ fun e w' => e = .returned (.string T2) ∧ _ by rw [← H2.out]; exact HNu.out _ date HBc.out HZ2.out).mono ?_
    rintro e6 w6 ⟨rfl, hb6⟩
    (try go_wp2_with fail)
    have HBl := Lib.hid (HBl.out.below hb6)
    have HBc := Lib.hid (HBc.out.trans (hb6.mono HBc.out.size))
    first | (have HV := Lib.hid (HV.out.below hb6)) | skip
    clear hb6
    refine hko hK (by exact ⟨(HK1.out.kept HBc.out).cell (i := 0) rfl, (HK1.out.kept HBc.out).cell (i := 1) rfl, (HK1.out.kept HBc.out).cell (i := 2) rfl, (HK1.out.kept HBc.out).cell (i := 3) rfl, (HK1.out.kept HBc.out).cell (i := 4) rfl, (HK1.out.kept HBc.out).cell (i := 5) rfl⟩) (fun _ => ?_)
    clear hK K
    refine tk 6 ?_
    refine wpAnyH_ready (rs := [9]) (by kernel_rfl) (by simp) ?_
    refine AllReadyH.cons (o := _) rfl (fun K hK => ?_) ?_
    ·go_simp
     refine (show Calls _ _ _ _ fun e w' => e = .returned (.string T3) ∧ _ by rw [← H3.out]; exact HSt.out _ prev HBc.out HZ3.out).mono ?_
     rintro e7 w7 ⟨rfl, hb7⟩
     (try go_wp2_with fail)
     have HBl := Lib.hid (HBl.out.below hb7)
     have HBc := Lib.hid (HBc.out.trans (hb7.mono HBc.out.size))
     first | (have HV := Lib.hid (HV.out.below hb7)) | skip
     clear hb7
     refine hko hK (by exact ⟨(HK1.out.kept HBc.out).cell (i := 0) rfl, (HK1.out.kept HBc.out).cell (i := 1) rfl, (HK1.out.kept HBc.out).cell (i := 2) rfl, (HK1.out.kept HBc.out).cell (i := 3) rfl, (HK1.out.kept HBc.out).cell (i := 4) rfl, (HK1.out.kept HBc.out).cell (i := 5) rfl⟩) (fun _ => ?_)
     clear hK K
     refine tk 10 ?_
     refine wpAnyH_ready (rs := [11]) (by kernel_rfl) (by simp) ?_
     refine AllReadyH.cons (o := _) rfl (fun K hK => ?_) ?_
     ·go_simp
      refine (wsB _ _ _ _ (T1 ++ T2 ++ T3) HBl.out (by decide) HTa.out HBc.out.size).mono ?_
      rintro e8 w8 ⟨rfl, hbl8, hb8⟩
      (try go_wp2_with fail)
      have HBl := Lib.hid hbl8
      have HBc := Lib.hid (HBc.out.trans hb8)
      clear hb8 hbl8
      refine hko hK (by exact ⟨(HK1.out.kept HBc.out).cell (i := 0) rfl, (HK1.out.kept HBc.out).cell (i := 1) rfl, (HK1.out.kept HBc.out).cell (i := 2) rfl, (HK1.out.kept HBc.out).cell (i := 3) rfl, (HK1.out.kept HBc.out).cell (i := 4) rfl, (HK1.out.kept HBc.out).cell (i := 5) rfl⟩) (fun _ => ?_)
      clear hK K
      refine wpAnyH_done (by kernel_rfl) ?_ _
      go_wp2_with fail
      go_meet
      exact ⟨HBl.out, HBc.out⟩
     exact AllReadyH.nil
    exact AllReadyH.nil
   exact AllReadyH.nil
  exact AllReadyH.nil
 case rest =>
  obtain ⟨hbl, hbc⟩ := hcut
  have HBl := Lib.hid hbl.drew
  have HBc := Lib.hid hbc.drew
  clear hbl hbc HBl0 HBc0
  obtain ⟨wq, rfl⟩ : ∃ x, x = wc := ⟨_, rfl⟩
  go_upto_region 8 with fail
  go_cut [] (fun wx => Bld wx w1.heap.size w1.heap.size ([] ++ bs (T1 ++ T2 ++ T3) ++ bs (T4 ++ T5 ++ T6)) ∧ Below w1.heap.size w1 wx)
  case first =>
   refine wp_region_held_drew (S := (fun W => W.cell? ⟨w.heap.size, 0, none⟩ = some (.int .i64 (num : Int)) ∧ W.cell? ⟨w.heap.size, 1, none⟩ = some (.int .i64 (date : Int)) ∧ W.cell? ⟨w.heap.size, 2, none⟩ = some (.string prev) ∧ W.cell? ⟨w.heap.size, 3, none⟩ = some (.slice Ae ne ce) ∧ W.cell? ⟨w.heap.size, 4, none⟩ = some (.string st) ∧ W.cell? ⟨w.heap.size, 5, none⟩ = some (.string sg))) (by kernel_rfl) ?_ (fun hHeld => ?_)
   ·exact ⟨(HK1.out.kept HBc.out).cell (i := 0) rfl, (HK1.out.kept HBc.out).cell (i := 1) rfl, (HK1.out.kept HBc.out).cell (i := 2) rfl, (HK1.out.kept HBc.out).cell (i := 3) rfl, (HK1.out.kept HBc.out).cell (i := 4) rfl, (HK1.out.kept HBc.out).cell (i := 5) rfl⟩
   refine tk 0 ?_
   refine tk 1 ?_
   refine tk 2 ?_
   refine tk 4 ?_
   refine tk 5 ?_
   refine tk 10 ?_
   refine tk 11 ?_
   refine tk 12 ?_
   refine wpAnyH_ready (rs := [3, 6]) (by kernel_rfl) (by simp) ?_
   refine AllReadyH.cons (o := _) rfl (fun K hK => ?_) ?_
   ·go_simp
    refine (show Calls _ _ _ _ fun e w' => e = .returned (.string T4) ∧ _ by rw [← H4.out]; exact HNu.out _ st.size HBc.out HZ4.out).mono ?_
    rintro e5 w5 ⟨rfl, hb5⟩
    (try go_wp2_with fail)
    have HBl := Lib.hid (HBl.out.below hb5)
    have HBc := Lib.hid (HBc.out.trans (hb5.mono HBc.out.size))
    first | (have HV := Lib.hid (HV.out.below hb5)) | skip
    clear hb5
    refine hko hK (by exact ⟨(HK1.out.kept HBc.out).cell (i := 0) rfl, (HK1.out.kept HBc.out).cell (i := 1) rfl, (HK1.out.kept HBc.out).cell (i := 2) rfl, (HK1.out.kept HBc.out).cell (i := 3) rfl, (HK1.out.kept HBc.out).cell (i := 4) rfl, (HK1.out.kept HBc.out).cell (i := 5) rfl⟩) (fun _ => ?_)
    clear hK K
    refine wpAnyH_ready (rs := [6]) (by kernel_rfl) (by simp) ?_
    refine AllReadyH.cons (o := _) rfl (fun K hK => ?_) ?_
    ·go_simp
     have HV := Lib.hid (str1 HBc.out st)
     have HBl := Lib.hid (HBl.out.alloc (.cells #[.string st] 9))
     have HBc := Lib.hid (HBc.out.alloc HBc.out.size (.cells #[.string st] 9))
     refine hko hK (by exact ⟨(HK1.out.kept HBc.out).cell (i := 0) rfl, (HK1.out.kept HBc.out).cell (i := 1) rfl, (HK1.out.kept HBc.out).cell (i := 2) rfl, (HK1.out.kept HBc.out).cell (i := 3) rfl, (HK1.out.kept HBc.out).cell (i := 4) rfl, (HK1.out.kept HBc.out).cell (i := 5) rfl⟩) (fun _ => ?_)
     clear hK K
     refine wpAnyH_ready (rs := [7]) (by kernel_rfl) (by simp) ?_
     refine AllReadyH.cons (o := _) rfl (fun K hK => ?_) ?_
     ·go_simp
      refine (show Calls _ _ _ _ fun e w' => e = .returned (.string D) ∧ _ by rw [← HD.out]; exact HSm.out _ _ HV.out).mono ?_
      rintro e6 w6 ⟨rfl, hb6⟩
      (try go_wp2_with fail)
      have HBl := Lib.hid (HBl.out.below hb6)
      have HBc := Lib.hid (HBc.out.trans (hb6.mono HBc.out.size))
      clear hb6
      refine hko hK (by exact ⟨(HK1.out.kept HBc.out).cell (i := 0) rfl, (HK1.out.kept HBc.out).cell (i := 1) rfl, (HK1.out.kept HBc.out).cell (i := 2) rfl, (HK1.out.kept HBc.out).cell (i := 3) rfl, (HK1.out.kept HBc.out).cell (i := 4) rfl, (HK1.out.kept HBc.out).cell (i := 5) rfl⟩) (fun _ => ?_)
      clear hK K
      refine wpAnyH_ready (rs := [8]) (by kernel_rfl) (by simp) ?_
      refine AllReadyH.cons (o := _) rfl (fun K hK => ?_) ?_
      ·go_simp
       refine (show Calls _ _ _ _ fun e w' => e = .returned (.string T5) ∧ _ by rw [← H5.out]; exact HSt.out _ D HBc.out HZ5.out).mono ?_
       rintro e7 w7 ⟨rfl, hb7⟩
       (try go_wp2_with fail)
       have HBl := Lib.hid (HBl.out.below hb7)
       have HBc := Lib.hid (HBc.out.trans (hb7.mono HBc.out.size))
       first | (have HV := Lib.hid (HV.out.below hb7)) | skip
       clear hb7
       refine hko hK (by exact ⟨(HK1.out.kept HBc.out).cell (i := 0) rfl, (HK1.out.kept HBc.out).cell (i := 1) rfl, (HK1.out.kept HBc.out).cell (i := 2) rfl, (HK1.out.kept HBc.out).cell (i := 3) rfl, (HK1.out.kept HBc.out).cell (i := 4) rfl, (HK1.out.kept HBc.out).cell (i := 5) rfl⟩) (fun _ => ?_)
       clear hK K
       refine tk 9 ?_
       refine wpAnyH_ready (rs := [13]) (by kernel_rfl) (by simp) ?_
       refine AllReadyH.cons (o := _) rfl (fun K hK => ?_) ?_
       ·go_simp
        refine (show Calls _ _ _ _ fun e w' => e = .returned (.string T6) ∧ _ by rw [← H6.out]; exact HNu.out _ ne HBc.out HZ6.out).mono ?_
        rintro e8 w8 ⟨rfl, hb8⟩
        (try go_wp2_with fail)
        have HBl := Lib.hid (HBl.out.below hb8)
        have HBc := Lib.hid (HBc.out.trans (hb8.mono HBc.out.size))
        first | (have HV := Lib.hid (HV.out.below hb8)) | skip
        clear hb8
        refine hko hK (by exact ⟨(HK1.out.kept HBc.out).cell (i := 0) rfl, (HK1.out.kept HBc.out).cell (i := 1) rfl, (HK1.out.kept HBc.out).cell (i := 2) rfl, (HK1.out.kept HBc.out).cell (i := 3) rfl, (HK1.out.kept HBc.out).cell (i := 4) rfl, (HK1.out.kept HBc.out).cell (i := 5) rfl⟩) (fun _ => ?_)
        clear hK K
        refine tk 14 ?_
        refine wpAnyH_ready (rs := [15]) (by kernel_rfl) (by simp) ?_
        refine AllReadyH.cons (o := _) rfl (fun K hK => ?_) ?_
        ·go_simp
         refine (wsB _ _ _ _ (T4 ++ T5 ++ T6) HBl.out HLa.out HTb.out HBc.out.size).mono ?_
         rintro e9 w9 ⟨rfl, hbl9, hb9⟩
         (try go_wp2_with fail)
         have HBl := Lib.hid hbl9
         have HBc := Lib.hid (HBc.out.trans hb9)
         clear hb9 hbl9
         refine hko hK (by exact ⟨(HK1.out.kept HBc.out).cell (i := 0) rfl, (HK1.out.kept HBc.out).cell (i := 1) rfl, (HK1.out.kept HBc.out).cell (i := 2) rfl, (HK1.out.kept HBc.out).cell (i := 3) rfl, (HK1.out.kept HBc.out).cell (i := 4) rfl, (HK1.out.kept HBc.out).cell (i := 5) rfl⟩) (fun _ => ?_)
         clear hK K
         refine wpAnyH_done (by kernel_rfl) ?_ _
         go_wp2_with fail
         go_meet
         exact ⟨HBl.out, HBc.out⟩
        exact AllReadyH.nil
       exact AllReadyH.nil
      exact AllReadyH.nil
     exact AllReadyH.nil
    exact AllReadyH.nil
   refine AllReadyH.cons (o := _) rfl (fun K hK => ?_) ?_
   ·go_simp
    have HV := Lib.hid (str1 HBc.out st)
    have HBl := Lib.hid (HBl.out.alloc (.cells #[.string st] 9))
    have HBc := Lib.hid (HBc.out.alloc HBc.out.size (.cells #[.string st] 9))
    refine hko hK (by exact ⟨(HK1.out.kept HBc.out).cell (i := 0) rfl, (HK1.out.kept HBc.out).cell (i := 1) rfl, (HK1.out.kept HBc.out).cell (i := 2) rfl, (HK1.out.kept HBc.out).cell (i := 3) rfl, (HK1.out.kept HBc.out).cell (i := 4) rfl, (HK1.out.kept HBc.out).cell (i := 5) rfl⟩) (fun _ => ?_)
    clear hK K
    refine wpAnyH_ready (rs := [3]) (by kernel_rfl) (by simp) ?_
    refine AllReadyH.cons (o := _) rfl (fun K hK => ?_) ?_
    ·go_simp
     refine (show Calls _ _ _ _ fun e w' => e = .returned (.string T4) ∧ _ by rw [← H4.out]; exact HNu.out _ st.size HBc.out HZ4.out).mono ?_
     rintro e5 w5 ⟨rfl, hb5⟩
     (try go_wp2_with fail)
     have HBl := Lib.hid (HBl.out.below hb5)
     have HBc := Lib.hid (HBc.out.trans (hb5.mono HBc.out.size))
     first | (have HV := Lib.hid (HV.out.below hb5)) | skip
     clear hb5
     refine hko hK (by exact ⟨(HK1.out.kept HBc.out).cell (i := 0) rfl, (HK1.out.kept HBc.out).cell (i := 1) rfl, (HK1.out.kept HBc.out).cell (i := 2) rfl, (HK1.out.kept HBc.out).cell (i := 3) rfl, (HK1.out.kept HBc.out).cell (i := 4) rfl, (HK1.out.kept HBc.out).cell (i := 5) rfl⟩) (fun _ => ?_)
     clear hK K
     refine wpAnyH_ready (rs := [7]) (by kernel_rfl) (by simp) ?_
     refine AllReadyH.cons (o := _) rfl (fun K hK => ?_) ?_
     ·go_simp
      refine (show Calls _ _ _ _ fun e w' => e = .returned (.string D) ∧ _ by rw [← HD.out]; exact HSm.out _ _ HV.out).mono ?_
      rintro e6 w6 ⟨rfl, hb6⟩
      (try go_wp2_with fail)
      have HBl := Lib.hid (HBl.out.below hb6)
      have HBc := Lib.hid (HBc.out.trans (hb6.mono HBc.out.size))
      clear hb6
      refine hko hK (by exact ⟨(HK1.out.kept HBc.out).cell (i := 0) rfl, (HK1.out.kept HBc.out).cell (i := 1) rfl, (HK1.out.kept HBc.out).cell (i := 2) rfl, (HK1.out.kept HBc.out).cell (i := 3) rfl, (HK1.out.kept HBc.out).cell (i := 4) rfl, (HK1.out.kept HBc.out).cell (i := 5) rfl⟩) (fun _ => ?_)
      clear hK K
      refine wpAnyH_ready (rs := [8]) (by kernel_rfl) (by simp) ?_
      refine AllReadyH.cons (o := _) rfl (fun K hK => ?_) ?_
      ·go_simp
       refine (show Calls _ _ _ _ fun e w' => e = .returned (.string T5) ∧ _ by rw [← H5.out]; exact HSt.out _ D HBc.out HZ5.out).mono ?_
       rintro e7 w7 ⟨rfl, hb7⟩
       (try go_wp2_with fail)
       have HBl := Lib.hid (HBl.out.below hb7)
       have HBc := Lib.hid (HBc.out.trans (hb7.mono HBc.out.size))
       first | (have HV := Lib.hid (HV.out.below hb7)) | skip
       clear hb7
       refine hko hK (by exact ⟨(HK1.out.kept HBc.out).cell (i := 0) rfl, (HK1.out.kept HBc.out).cell (i := 1) rfl, (HK1.out.kept HBc.out).cell (i := 2) rfl, (HK1.out.kept HBc.out).cell (i := 3) rfl, (HK1.out.kept HBc.out).cell (i := 4) rfl, (HK1.out.kept HBc.out).cell (i := 5) rfl⟩) (fun _ => ?_)
       clear hK K
       refine tk 9 ?_
       refine wpAnyH_ready (rs := [13]) (by kernel_rfl) (by simp) ?_
       refine AllReadyH.cons (o := _) rfl (fun K hK => ?_) ?_
       ·go_simp
        refine (show Calls _ _ _ _ fun e w' => e = .returned (.string T6) ∧ _ by rw [← H6.out]; exact HNu.out _ ne HBc.out HZ6.out).mono ?_
        rintro e8 w8 ⟨rfl, hb8⟩
        (try go_wp2_with fail)
        have HBl := Lib.hid (HBl.out.below hb8)
        have HBc := Lib.hid (HBc.out.trans (hb8.mono HBc.out.size))
        first | (have HV := Lib.hid (HV.out.below hb8)) | skip
        clear hb8
        refine hko hK (by exact ⟨(HK1.out.kept HBc.out).cell (i := 0) rfl, (HK1.out.kept HBc.out).cell (i := 1) rfl, (HK1.out.kept HBc.out).cell (i := 2) rfl, (HK1.out.kept HBc.out).cell (i := 3) rfl, (HK1.out.kept HBc.out).cell (i := 4) rfl, (HK1.out.kept HBc.out).cell (i := 5) rfl⟩) (fun _ => ?_)
        clear hK K
        refine tk 14 ?_
        refine wpAnyH_ready (rs := [15]) (by kernel_rfl) (by simp) ?_
        refine AllReadyH.cons (o := _) rfl (fun K hK => ?_) ?_
        ·go_simp
         refine (wsB _ _ _ _ (T4 ++ T5 ++ T6) HBl.out HLa.out HTb.out HBc.out.size).mono ?_
         rintro e9 w9 ⟨rfl, hbl9, hb9⟩
         (try go_wp2_with fail)
         have HBl := Lib.hid hbl9
         have HBc := Lib.hid (HBc.out.trans hb9)
         clear hb9 hbl9
         refine hko hK (by exact ⟨(HK1.out.kept HBc.out).cell (i := 0) rfl, (HK1.out.kept HBc.out).cell (i := 1) rfl, (HK1.out.kept HBc.out).cell (i := 2) rfl, (HK1.out.kept HBc.out).cell (i := 3) rfl, (HK1.out.kept HBc.out).cell (i := 4) rfl, (HK1.out.kept HBc.out).cell (i := 5) rfl⟩) (fun _ => ?_)
         clear hK K
         refine wpAnyH_done (by kernel_rfl) ?_ _
         go_wp2_with fail
         go_meet
         exact ⟨HBl.out, HBc.out⟩
        exact AllReadyH.nil
       exact AllReadyH.nil
      exact AllReadyH.nil
     exact AllReadyH.nil
    exact AllReadyH.nil
   exact AllReadyH.nil
  case rest =>
   obtain ⟨hbl, hbc⟩ := hcut
   obtain ⟨A0, hA0⟩ : ∃ A0, [] ++ bs (T1 ++ T2 ++ T3) ++ bs (T4 ++ T5 ++ T6) = A0 := ⟨_, rfl⟩
   rw [hA0] at hbl HLb
   have HA0 : Hid (A0 = numL num ++ numL date ++ nstL (bs prev) ++ (numL st.size ++ nstL (bs D) ++ numL ne)) := Lib.hid (by rw [← hA0, List.nil_append, HTab.out, HTbb.out])
   have HBl3 := Lib.hid hbl
   have HBc3 := Lib.hid hbc
   have HK3 := Lib.hid (HK1.out.kept hbc)
   clear hbl hbc HBl HBc hA0 hc1 hc2 hc3 hc4 HTa HTb HTab HTbb HLa H1 H2 H3 H4 H5 H6 HZ1 HZ2 HZ3 HZ4 HZ5 HZ6
   have c3 := HK3.out.cell (i := 3) rfl
   have HAl : Hid (∀ i, (∀ e ∈ l.take i, EntOk e) → (entsL (l.take i)).length ≤ 51000000) := Lib.hid (fun i hq => by
    have h1 := entsL_len (l := l.take i) hq
    have h2 := Nat.mul_le_mul (show (l.take i).length ≤ 12 by rw [List.length_take]; have := Hne.out; omega) (Nat.le_refl 4200000)
    omega)
   obtain ⟨C, hC⟩ : ∃ C, entsE l = C := ⟨_, rfl⟩
   have HC := Lib.hid hC
   rw [hC] at HKE
   clear hC
   obtain ⟨wk, rfl⟩ : ∃ x, x = wc := ⟨_, rfl⟩
   go_wp2
   go_loopw [8, 9, 56] (fun _ _ x wr => ∃ i : Nat, i ≤ ne ∧ x = .int .i64 (i : Int) ∧ (∀ e ∈ l.take i, EntOk e) ∧ entsE (l.drop i) = C ∧ Bld wr w1.heap.size w1.heap.size (A0 ++ entsL (l.take i)) ∧ Below w1.heap.size w1 wr) (fun _ _ x _ => ne - (intOf x).toNat)
   case atStart => exact ⟨0, by omega, rfl, (fun e he => by rw [List.take_zero] at he; cases he), by rw [List.drop_zero]; exact HC.out, by rw [List.take_zero, show entsL [] = [] from rfl, List.append_nil]; exact HBl3.out, HBc3.out⟩
   case round =>
    obtain ⟨i, hi, rfl, hpre, hsuf, hbl, hB⟩ := hrel
    have HPre := Lib.hid hpre
    have HSuf := Lib.hid hsuf
    clear hpre hsuf
    have HBl := Lib.hid hbl
    have HB := Lib.hid hB
    clear hbl hB c3
    by_cases h : i < ne
    ·have hiI : (i : Int) < ne := by omega
     have hlt : i < l.length := by have := Hne.out; omega
     obtain ⟨x, hx'⟩ : ∃ x, l[i]? = some x := ⟨_, List.getElem?_eq_getElem hlt⟩
     have Hxz := Lib.hid (Hok.out x (List.mem_of_getElem? hx'))
     have hd : l.drop i = x :: l.drop (i + 1) := by
      obtain ⟨h1, h2⟩ := List.getElem?_eq_some_iff.1 hx'
      rw [List.drop_eq_getElem_cons h1, h2]
     have HSf : Hid ((if enE x ≠ 0 then enE x else entsE (l.drop (i + 1))) = C) := Lib.hid (by rw [← entsE_cons, ← hd]; exact HSuf.out)
     have HTk : Hid (l.take (i + 1) = l.take i ++ [x]) := Lib.hid (by rw [List.take_add_one, hx']; rfl)
     clear hd
     have HNx := Lib.hid (entsL_take hx')
     obtain ⟨_, _, e9, _, _, h4⟩ := Hve.out.below (HB1.out.trans (HB.out.mono HB1.out.size))
     rw [Hne.out] at e9
     cases e9
     obtain ⟨b, o, cs, rfl, hR9, hc⟩ := h4 i x hx'
     obtain ⟨va, vx, rfl, hva, hvx⟩ := hR9
     obtain ⟨Aa, ca, rfl, _, _⟩ := hva.slice
     obtain ⟨Ax, cx, rfl, _, _⟩ := hvx.slice
     have e0 : wr.cell? ⟨b, o + i * 7, none⟩ = some (.int .i64 x.k) := hc 0 _ rfl
     have e1 : wr.cell? ⟨b, o + i * 7 + 1, none⟩ = some (.string x.path) := hc 1 _ rfl
     have e2 : wr.cell? ⟨b, o + i * 7 + 2, none⟩ = some (.slice Aa x.attrs.length ca) := hc 2 _ rfl
     have e3 : wr.cell? ⟨b, o + i * 7 + 3, none⟩ = some (.string x.tgt) := hc 3 _ rfl
     have e4 : wr.cell? ⟨b, o + i * 7 + 4, none⟩ = some (.int .i64 x.size) := hc 4 _ rfl
     have e5 : wr.cell? ⟨b, o + i * 7 + 5, none⟩ = some (.string x.dig) := hc 5 _ rfl
     have e6 : wr.cell? ⟨b, o + i * 7 + 6, none⟩ = some (.slice Ax x.exts.length cx) := hc 6 _ rfl
     have hTm := Blk.new wr 48 [.int .i64 x.k, .string x.path, .slice Aa x.attrs.length ca, .string x.tgt, .int .i64 x.size, .string x.dig, .slice Ax x.exts.length cx]
     change Blk (wr.alloc (.cells #[.int .i64 x.k, .string x.path, .slice Aa x.attrs.length ca, .string x.tgt, .int .i64 x.size, .string x.dig, .slice Ax x.exts.length cx] 48)) _ _ _ at hTm
     have HTm := Lib.hid hTm
     have HBw := Lib.hid ((Below.refl wr.heap.size wr).alloc (Nat.le_refl _) (.cells #[.int .i64 x.k, .string x.path, .slice Aa x.attrs.length ca, .string x.tgt, .int .i64 x.size, .string x.dig, .slice Ax x.exts.length cx] 48))
     have HBt := Lib.hid (HB.out.alloc HB.out.size (.cells #[.int .i64 x.k, .string x.path, .slice Aa x.attrs.length ca, .string x.tgt, .int .i64 x.size, .string x.dig, .slice Ax x.exts.length cx] 48))
     have HBlt := Lib.hid (HBl.out.alloc (.cells #[.int .i64 x.k, .string x.path, .slice Aa x.attrs.length ca, .string x.tgt, .int .i64 x.size, .string x.dig, .slice Ax x.exts.length cx] 48))
     have Hva := Lib.hid (hva.below HBw.out)
     have Hvx := Lib.hid (hvx.below HBw.out)
     clear hc h4 hx' hTm hva hvx
     obtain ⟨X, hX⟩ : ∃ X, strB (encL x) = X := ⟨_, rfl⟩
     have HXb : Hid (bs X = encL x) := Lib.hid (by rw [← hX, bs_strB (encL_lt x)])
     go_upto_region 12 with fail
     generalize wr.alloc (.cells #[.int .i64 x.k, .string x.path, .slice Aa x.attrs.length ca, .string x.tgt, .int .i64 x.size, .string x.dig, .slice Ax x.exts.length cx] 48) = wt at *
     clear e0 e1 e2 e3 e4 e5 e6
     have t0 := HTm.out.cell (i := 0) rfl
     have t1 := HTm.out.cell (i := 1) rfl
     have t2 := HTm.out.cell (i := 2) rfl
     have t3 := HTm.out.cell (i := 3) rfl
     have t4 := HTm.out.cell (i := 4) rfl
     have t5 := HTm.out.cell (i := 5) rfl
     have t6 := HTm.out.cell (i := 6) rfl
     have HTt := Lib.hid (HT.out.below (HB1.out.trans (HBt.out.mono HB1.out.size)))
     by_cases hch : enE x = 0
     rotate_left
     ·have HEn := Lib.hid (enencode_no wt x _ _ Hva.out Hvx.out (by have := Hxz.out; omega) (by have := Hxz.out; omega) HTt.out hch)
      rw [entV] at HEn
      have hcc : enE x = C := by rw [← HSf.out, if_pos hch]
      rw [hcc] at HEn hch
      obtain rfl : C = KE := by rw [← HKE.out, if_pos hch]
      have g1 : (C != 0) = true := by rw [bne, beq_eq_false_iff_ne.2 hch]; rfl
      obtain rfl : TX = ⟨#[]⟩ := by rw [← HTX.out, if_neg hch]
      clear hX hcc hch
      go_wp2_with fail
      refine HEn.out.mono ?_
      rintro e4 w4 ⟨rfl, hb4⟩
      have HB4 := Lib.hid (HBt.out.trans (hb4.mono HBt.out.size))
      clear hb4 t0 t1 t2 t3 t4 t5 t6
      go_wp2_with fail
      go_ret2
      exact ⟨rfl, HB1.out.trans (HB4.out.mono HB1.out.size)⟩
     have Hxo := Lib.hid (enE_0.1 hch)
     have HSn : Hid (entsE (l.drop (i + 1)) = C) := Lib.hid (by rw [← HSf.out, if_neg (fun q => q hch)])
     have HPn : Hid (∀ e ∈ l.take (i + 1), EntOk e) := Lib.hid (fun e he => by
      rw [HTk.out] at he
      rcases List.mem_append.1 he with he | he
      ·exact HPre.out e he
      ·rw [List.mem_singleton.1 he]; exact Hxo.out)
     have HXz : Hid (X.size ≤ 4200000) := Lib.hid (by rw [← hX, strB_size]; have := encL_len Hxo.out; have := Hxo.out.z.exn; omega)
     have HEn := Lib.hid (enencode_ok wt x _ _ Hva.out Hvx.out Hxo.out HTt.out.tab)
     rw [entV, hX] at HEn
     clear hX hch
     go_wp2_with fail
     refine HEn.out.mono ?_
     rintro e4 w4 ⟨rfl, hb4⟩
     have HW := Lib.hid (wsB w4 w1.heap.size w1.heap.size _ X (HBlt.out.below hb4) (by rw [List.length_append]; have := HLb.out; have := HAl.out i HPre.out; omega) (by have := HXz.out; omega) (HBt.out.trans (hb4.mono HBt.out.size)).size)
     have HB4 := Lib.hid (HBt.out.trans (hb4.mono HBt.out.size))
     clear hb4 t0 t1 t2 t3 t4 t5 t6
     go_wp2_with fail
     refine HW.out.mono ?_
     rintro e5 w5 ⟨rfl, hbl5, hb5⟩
     have HBl5 := Lib.hid hbl5
     have HB5 := Lib.hid (HB4.out.trans hb5)
     clear hbl5 hb5
     go_wp2_with fail
     go_roundw
     case rel => exact ⟨i + 1, by omega, by go_num, HPn.out, HSn.out, by rw [HNx.out, ← HXb.out, ← List.append_assoc]; exact HBl5.out, HB5.out⟩
     case measure => simp [intOf]; omega
    ·obtain rfl : i = ne := by omega
     have hiI : ¬ ((i : Nat) : Int) < (i : Int) := by omega
     have HRl : Hid (A0 ++ entsL (l.take i) = R) := Lib.hid (by rw [← HR.out, HA0.out, List.take_of_length_le (by have := Hne.out; omega)])
     have HRz : Hid (R.length ≤ 52000000) := Lib.hid (by rw [← HRl.out, List.length_append]; have := HLb.out; have := HAl.out i HPre.out; omega)
     rw [HRl.out] at HBl
     have hC0 : C = 0 := by rw [← HSuf.out, List.drop_of_length_le (by have := Hne.out; omega)]; rfl
     have HKE := Lib.hid ((if_neg (fun q => q hC0)).symm.trans HKE.out)
     have HKr := Lib.hid (HK1.out.kept HB.out)
     have c5 := HKr.out.cell (i := 5) rfl
     have HLe := Lib.hid (lenB wr w1.heap.size w1.heap.size R HBl.out)
     have i4 : ¬ (90000000 : Int) < R.length := by have := HRz.out; omega
     by_cases hsg : 2000 < sg.size
     ·have i3 : (2000 : Int) < sg.size := by omega
      have hk : KE = 6 := by rw [← HKE.out, if_pos hsg]
      subst hk
      obtain rfl : TX = ⟨#[]⟩ := HTX.out.symm
      clear hsg
      go_wp2_with fail
      go_ret2
      exact ⟨rfl, HB1.out.trans (HB.out.mono HB1.out.size)⟩
     have i3 : ¬ (2000 : Int) < sg.size := by omega
     have hk : KE = 0 := by rw [← HKE.out, if_neg hsg]
     subst hk
     obtain rfl : strB R = TX := HTX.out
     clear hsg hC0
     go_wp2_with fail
     refine HLe.out.mono ?_
     rintro e4 w4 ⟨rfl, rfl⟩
     have HS := Lib.hid (str_any w4 w1.heap.size w1.heap.size R HLt.out HBl.out HB.out.size)
     go_wp2_with fail
     refine HS.out.mono ?_
     rintro e6 w6 ⟨rfl, _, hb6⟩
     have HB6 := Lib.hid (HB1.out.trans ((HB.out.trans hb6).mono HB1.out.size))
     clear hb6
     go_wp2_with fail
     go_ret2
     exact ⟨rfl, HB6.out⟩
theorem dirsigned_gen (w : World) (x : Ses) (ve : Value) (hve : SeqAt entS w ve x.ents) (h : SesS x) (hT : Tb w) : Calls Tryz.prog 53 #[.agg #[.int .i64 x.num, .int .i64 x.date, .string x.prev, ve, .string x.str, .string x.sig]] w fun r w' => r = .returned (.tuple #[.string (if sgnE x = 0 then strB (signL x) else ⟨#[]⟩), .int .i64 (sgnE x)]) ∧ Below w.heap.size w w' := by
 by_cases hf : fldE x = 0
 ·exact dirsigned_any w x ve hve h hf hT
 ·have e : sgnE x = fldE x := by rw [sgnE, if_pos hf]
  refine (dirsigned_fld w x ve hve hf).mono ?_
  rintro r w' ⟨rfl, hb⟩
  exact ⟨by rw [e, if_neg hf], hb⟩
end
end Go.Proofs.YtbccghbngaiceaaGreatDoor
