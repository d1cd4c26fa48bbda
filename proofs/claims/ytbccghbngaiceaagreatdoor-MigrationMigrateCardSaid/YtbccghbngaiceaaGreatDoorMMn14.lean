/-
  Joined: MbC.
-/
import Derived.Test.YtbccghbngaiceaaGreatDoorMMn09
import Derived.Test.YtbccghbngaiceaaGreatDoorMMn13
set_option linter.all false
set_option maxRecDepth 100000
set_option maxHeartbeats 64000000
namespace Go.Proofs.YtbccghbngaiceaaGreatDoor
section
open Go.RowKit
theorem dg_small {u : Nat} (h : u < 10) : valD (digD u) = u := by rw [digD_small h, valD]; simp
theorem dg_val : ∀ n : Nat, valD (digD n) = n := by
 intro n
 induction n using Nat.strongRecOn with
 | _ n ih =>
  by_cases h : n < 10
  ·exact dg_small h
  ·rw [digD_great h, digD_small (Nat.mod_lt n (by decide)), valD, List.foldl_append]
   have := ih (n / 10) (by omega)
   rw [valD] at this
   rw [this]
   simp
   omega
theorem dg_head : ∀ n : Nat, 0 < n → cf (digD n) 0 ≠ 48 := by
 intro n
 induction n using Nat.strongRecOn with
 | _ n ih =>
  intro h0
  by_cases h : n < 10
  ·rw [digD_small h]
   show 48 + n ≠ 48
   omega
  ·rw [digD_great h]
   have h1 := ih (n / 10) (by omega) (by omega)
   have hl : 0 < (digD (n / 10)).length := by
    cases e : digD (n / 10) with
    | nil => rw [e] at h1; exact absurd (dg_val (n / 10)) (by rw [e]; show 0 ≠ n / 10; omega)
    | cons a r => simp
   rwa [cf, List.getElem?_append_left hl, ← cf]
theorem dg_date {n : Nat} (h : n ≤ 1000000000) : dateB (digD n) = true := by
 have h1 : (digD n).length ≤ 10 := digD_len 9 n (by omega)
 have h0 : 0 < (digD n).length := by
  cases e : digD n with
  | nil =>
   have := digD_bytes n
   by_cases hn : n < 10
   ·rw [digD_small hn] at e; cases e
   ·rw [digD_great hn, digD_small (Nat.mod_lt n (by decide))] at e; simp at e
  | cons a r => simp
 have h2 : (digD n).all digB = true := List.all_eq_true.2 fun b hb => decide_eq_true (by have := digD_bytes n b hb; omega)
 rw [dateB, h2, dg_val, Bool.true_and, decide_eq_true h, Bool.and_true]
 refine decide_eq_true ⟨h0, h1, fun ⟨e1, e2⟩ => ?_⟩
 by_cases hn : n = 0
 ·subst hn
  rw [digD_small (by decide)] at e1
  exact absurd e1 (by decide)
 ·exact dg_head n (by omega) e2
structure Tb (w : World) : Prop where
 tab : Tab w
 syn : ∃ tp p, w.var? Tryz.prog "strconv.ErrSyntax" = some #[.iface tp p]
 rng : ∃ tp p, w.var? Tryz.prog "strconv.ErrRange" = some #[.iface tp p]
theorem Tb.below {w w' : World} (h : Tb w) (hb : Below w.heap.size w w') : Tb w' :=
 ⟨h.tab.below hb, h.syn.imp fun _ ⟨p, e⟩ => ⟨p, var_below e hb⟩, h.rng.imp fun _ ⟨p, e⟩ => ⟨p, var_below e hb⟩⟩
theorem atoi_gen (w : World) (s : ByteArray) (hs : s.size ≤ 1000000) (hT : Tb w) :
  (∃ v : Int, Calls Tryz.prog 196 #[.string s] w fun e w' => e = .returned (.tuple #[.int .i64 v, .nilIface]) ∧ Below w.heap.size w w') ∨
  (∃ v : Int, Calls Tryz.prog 196 #[.string s] w fun e w' => ∃ t p, e = .returned (.tuple #[.int .i64 v, .iface t p]) ∧ Below w.heap.size w w') := by
 rcases h : Lib.atoiAll s.data.toList with v | _ | _
 ·refine .inl ⟨v, (Tryz.strconv_Atoi_ok s (by omega) v h w).mono ?_⟩
  rintro e w' ⟨rfl, hw⟩
  refine ⟨rfl, ?_⟩
  rcases hw with rfl | ⟨t, rfl⟩
  ·exact Below.refl _ _
  ·exact Lib.bytesWorld_below _ _ _
 ·obtain ⟨tp, p, hv⟩ := hT.syn
  refine .inr ⟨0, (Tryz.strconv_Atoi_syn_var s (by omega) (h.trans rfl) tp p w hv).mono ?_⟩
  rintro e w' ⟨N, rfl, _, _, hb⟩
  exact ⟨_, _, rfl, hb⟩
 ·obtain ⟨tp, p, hv⟩ := hT.rng
  refine .inr ⟨Lib.atoiSat s.data.toList, (Tryz.strconv_Atoi_range_var s (by omega) h tp p w hv).mono ?_⟩
  rintro e w' ⟨N, rfl, _, _, hb⟩
  exact ⟨_, _, rfl, hb⟩
theorem isdate_gen (w : World) (s : ByteArray) (hs : s.size ≤ 1000000) (hT : Tb w) : Calls Tryz.prog 274 #[.string s] w fun e w' => e = .returned (.bool (dateB (bs s))) ∧ Below w.heap.size w w' := by
 cases hQ : dateB (bs s) with
 | true => exact isdate_ok w s hQ hT.tab
 | false =>
  rcases atoi_gen w s hs hT with ⟨v, hc⟩ | ⟨v, hc⟩
  ·have HC := Lib.hid hc
   clear hc
   by_cases h0 : v < 0
   ·have i1 : ¬ (0 : Int) ≤ v := by omega
    clear hQ
    go_enter Tryz.func274, Tryz.ntmps274
    go_wp2_with fail
    refine HC.out.mono ?_
    rintro e1 w1 ⟨rfl, hb1⟩
    have HB1 := Lib.hid hb1
    clear hb1
    go_wp2_with fail
    go_ret
    exact ⟨rfl, HB1.out⟩
   ·have i1 : (0 : Int) ≤ v := by omega
    by_cases h1 : 1000000000 < v
    ·have i2 : ¬ v ≤ (1000000000 : Int) := by omega
     clear hQ
     go_enter Tryz.func274, Tryz.ntmps274
     go_wp2_with fail
     refine HC.out.mono ?_
     rintro e1 w1 ⟨rfl, hb1⟩
     have HB1 := Lib.hid hb1
     clear hb1
     go_wp2_with fail
     go_ret
     exact ⟨rfl, HB1.out⟩
    ·have i2 : v ≤ (1000000000 : Int) := by omega
     obtain ⟨n, rfl⟩ : ∃ n : Nat, v = (n : Int) := ⟨v.toNat, by omega⟩
     have hn : strB (digD n) ≠ s := fun e => by
      rw [← e, bs_strB (fun b hb => by have := digD_bytes n b hb; omega), dg_date (by omega)] at hQ
      cases hQ
     have hnb : (strB (digD n)).toList ≠ s.toList := fun e => hn (by rw [ByteArray.toList_eq, ByteArray.toList_eq] at e; exact ByteArray.ext (Array.toList_inj.1 e))
     have HI : Hid (∀ W, Below w.heap.size w W → Calls Tryz.prog 91 #[.int .i64 (n : Int)] W fun e w' => e = .returned (.string (strB (digD n))) ∧ Below W.heap.size W w') := Lib.hid (fun W hb => itoa_any W n (by omega) (hT.tab.below hb))
     generalize strB (digD n) = X at *
     have q1 : (X == s) = false := beqV_false hn
     have q2 : (X.toList == s.toList) = false := beq_eq_false_iff_ne.2 hnb
     clear hQ hn hnb h0 h1
     go_enter Tryz.func274, Tryz.ntmps274
     go_wp2_with fail
     refine HC.out.mono ?_
     rintro e1 w1 ⟨rfl, hb1⟩
     have HB1 := Lib.hid hb1
     clear hb1
     go_wp2_with fail
     refine (HI.out _ HB1.out).mono ?_
     rintro e2 w2 ⟨rfl, hb2⟩
     have HB2 := Lib.hid (HB1.out.trans (hb2.mono HB1.out.size))
     clear hb2
     go_wp2_with fail
     go_ret
     first | exact ⟨rfl, HB2.out⟩ | exact ⟨ret_bool' (by simp [q1, q2]), HB2.out⟩ | exact ⟨ret_bool' (by first | exact q1 | exact q2), HB2.out⟩
  ·have HC := Lib.hid hc
   clear hc hQ
   go_enter Tryz.func274, Tryz.ntmps274
   go_wp2_with fail
   refine HC.out.mono ?_
   rintro e1 w1 ⟨t, p, rfl, hb1⟩
   have HB1 := Lib.hid hb1
   clear hb1
   go_wp2_with fail
   go_ret
   exact ⟨rfl, HB1.out⟩
theorem entarget_gen (w : World) (e : Ent) (va vx : Value) (hs : e.tgt.size ≤ 1000000) (hT : Tb w) : Calls Tryz.prog 179 #[entV e va vx] w fun r w' => r = .returned (.bool (tgtB e)) ∧ Below w.heap.size w w' := by
 cases hQ : tgtB e with
 | true => exact entarget_ok w e va vx hQ hT.tab
 | false =>
  obtain ⟨k, path, attrs, t, size, dig, exts⟩ := e
  rw [tgtB] at hQ
  dsimp only at hQ hs
  rw [entV]
  dsimp only
  have hK := Blk.new w 48 [.int .i64 k, .string path, va, .string t, .int .i64 size, .string dig, vx]
  change Blk (w.alloc (.cells #[.int .i64 k, .string path, va, .string t, .int .i64 size, .string dig, vx] 48)) _ _ _ at hK
  have c0 := hK.cell (i := 0) rfl
  have c3 := hK.cell (i := 3) rfl
  have HB := Lib.hid ((Below.refl w.heap.size w).alloc (Nat.le_refl _) (.cells #[.int .i64 k, .string path, va, .string t, .int .i64 size, .string dig, vx] 48))
  clear hK
  by_cases h3 : k = 3
  ·have i1 : (k == 3) = true := by rw [h3]; rfl
   rw [if_pos h3] at hQ
   clear h3
   have h := of_decide_eq_false hQ
   by_cases h0 : t.size = 0
   ·have e0 : t = ⟨#[]⟩ := by
     apply ByteArray.ext
     exact Array.eq_empty_of_size_eq_zero h0
    subst e0
    clear h hQ
    go_enter Tryz.func179, Tryz.ntmps179
    go_wp2
    go_ret
    exact ⟨rfl, HB.out⟩
   ·have i2 : t.toList.isEmpty = false := isEmptyV h0
    have i3 : ¬ (t.size : Int) ≤ 200 := by omega
    clear h hQ h0
    go_enter Tryz.func179, Tryz.ntmps179
    go_wp2
    go_ret
    exact ⟨rfl, HB.out⟩
  ·have i1 : (k == 3) = false := by rw [beq_eq_false_iff_ne]; exact h3
   rw [if_neg h3] at hQ
   clear h3
   by_cases h5 : k = 5
   ·have i2 : (k == 5) = true := by rw [h5]; rfl
    rw [if_pos h5] at hQ
    clear h5
    have HD := Lib.hid (isdate_gen _ t hs (hT.below HB.out))
    rw [hQ] at HD
    clear hQ
    go_enter Tryz.func179, Tryz.ntmps179
    go_wp2_with fail
    refine HD.out.mono ?_
    rintro e1 w1 ⟨rfl, hb⟩
    have HB1 := Lib.hid (HB.out.trans (hb.mono HB.out.size))
    clear hb
    go_wp2_with fail
    go_ret
    exact ⟨rfl, HB1.out⟩
   ·have i2 : (k == 5) = false := by rw [beq_eq_false_iff_ne]; exact h5
    rw [if_neg h5] at hQ
    clear h5
    have h0 := of_decide_eq_false hQ
    have i3 : t.toList.isEmpty = false := isEmptyV h0
    clear h0 hQ
    go_enter Tryz.func179, Tryz.ntmps179
    go_wp2
    go_ret
    exact ⟨rfl, HB.out⟩
def contE (e : Ent) : Int :=
 if e.size < 0 ∨ 65536 < e.size ∨ (e.k ≠ 1 ∧ e.size ≠ 0) then 2
 else if (e.k = 1 ∧ e.dig.size ≠ 32) ∨ (e.k ≠ 1 ∧ e.dig.size ≠ 0) then 1
 else if e.k ≠ 1 then (if e.exts = [] then 0 else 1)
 else if e.exts.all extB = false then 2 else if sumX e.exts = e.size then 0 else 1
theorem extB_no {x : Ext} (h : extB x = false) : x.s < 0 ∨ (¬ x.s < 0 ∧ 255 < x.s) ∨ (¬ x.s < 0 ∧ ¬ 255 < x.s ∧ x.l < 1) ∨ (¬ x.s < 0 ∧ ¬ 255 < x.s ∧ ¬ x.l < 1 ∧ 65536 < x.l) ∨ (¬ x.s < 0 ∧ ¬ 255 < x.s ∧ ¬ x.l < 1 ∧ ¬ 65536 < x.l ∧ x.o < 0) ∨ (¬ x.s < 0 ∧ ¬ 255 < x.s ∧ ¬ x.l < 1 ∧ ¬ 65536 < x.l ∧ ¬ x.o < 0 ∧ 2147483647 < x.o) ∨ (¬ x.s < 0 ∧ ¬ 255 < x.s ∧ ¬ x.l < 1 ∧ ¬ 65536 < x.l ∧ ¬ x.o < 0 ∧ ¬ 2147483647 < x.o ∧ (x.s == 0) = true ∧ (x.o != 0) = true) := by
 have h := of_decide_eq_false h
 by_cases a : x.s < 0
 ·exact .inl a
 refine .inr ?_
 by_cases b : 255 < x.s
 ·exact .inl ⟨a, b⟩
 refine .inr ?_
 by_cases c : x.l < 1
 ·exact .inl ⟨a, b, c⟩
 refine .inr ?_
 by_cases d : 65536 < x.l
 ·exact .inl ⟨a, b, c, d⟩
 refine .inr ?_
 by_cases e : x.o < 0
 ·exact .inl ⟨a, b, c, d, e⟩
 refine .inr ?_
 by_cases f : 2147483647 < x.o
 ·exact .inl ⟨a, b, c, d, e, f⟩
 refine .inr ⟨a, b, c, d, e, f, ?_⟩
 have h2 : x.s = 0 ∧ x.o ≠ 0 := Decidable.byContradiction fun q => h ⟨by omega, by omega, by omega, by omega, by omega, by omega, q⟩
 exact ⟨by rw [h2.1]; rfl, by rw [bne, beq_eq_false_iff_ne.2 h2.2]; rfl⟩
theorem all_split {l : List Ext} {i : Nat} {x : Ext} (hx : l[i]? = some x) (h : extB x = false) : l.all extB = false :=
 List.all_eq_false.2 ⟨x, List.mem_of_getElem? hx, by rw [h]; decide⟩
theorem encontent_gen (w : World) (e : Ent) (va vx : Value) (hvx : SeqAt extS w vx e.exts) : Calls Tryz.prog 180 #[entV e va vx] w fun r w' => r = .returned (.int .i64 (contE e)) ∧ Below w.heap.size w w' := by
 obtain ⟨k, path, attrs, t, size, dig, exts⟩ := e
 obtain ⟨R, hR⟩ : ∃ R, contE ⟨k, path, attrs, t, size, dig, exts⟩ = R := ⟨_, rfl⟩
 rw [hR]
 rw [contE] at hR
 dsimp only at hvx hR
 rw [entV]
 dsimp only
 have Hvx := Lib.hid hvx
 obtain ⟨Ax, cx, rfl, hx1, hx2⟩ := hvx.slice
 clear hvx
 have hK := Blk.new w 48 [.int .i64 k, .string path, va, .string t, .int .i64 size, .string dig, .slice Ax exts.length cx]
 change Blk (w.alloc (.cells #[.int .i64 k, .string path, va, .string t, .int .i64 size, .string dig, .slice Ax exts.length cx] 48)) _ _ _ at hK
 have HK := Lib.hid hK
 have HB := Lib.hid ((Below.refl w.heap.size w).alloc (Nat.le_refl _) (.cells #[.int .i64 k, .string path, va, .string t, .int .i64 size, .string dig, .slice Ax exts.length cx] 48))
 clear hK
 by_cases h1 : k = 1
 ·have i1 : (k == 1) = true := by rw [h1]; rfl
  have i1' : (k != 1) = false := by rw [h1]; rfl
  by_cases hz : size < 0
  ·rw [if_pos (.inl hz)] at hR
   subst hR
   clear h1
   go_enter Tryz.func180, Tryz.ntmps180
   go_upto_region 2 with fail
   generalize w.alloc (.cells #[.int .i64 k, .string path, va, .string t, .int .i64 size, .string dig, .slice Ax exts.length cx] 48) = wa at *
   have c0 := HK.out.cell (i := 0) rfl
   have c4 := HK.out.cell (i := 4) rfl
   have c5 := HK.out.cell (i := 5) rfl
   go_wp2
   go_ret
   exact ⟨rfl, HB.out⟩
  ·by_cases hz2 : 65536 < size
   ·rw [if_pos (.inr (.inl hz2))] at hR
    subst hR
    clear h1
    go_enter Tryz.func180, Tryz.ntmps180
    go_upto_region 2 with fail
    generalize w.alloc (.cells #[.int .i64 k, .string path, va, .string t, .int .i64 size, .string dig, .slice Ax exts.length cx] 48) = wa at *
    have c0 := HK.out.cell (i := 0) rfl
    have c4 := HK.out.cell (i := 4) rfl
    have c5 := HK.out.cell (i := 5) rfl
    go_wp2
    go_ret
    exact ⟨rfl, HB.out⟩
   ·rw [if_neg (by omega)] at hR
    by_cases hd : dig.size = 32
    ·have i2 : ((dig.size : Int) != 32) = false := by rw [hd]; rfl
     rw [if_neg (by omega), if_neg (by omega)] at hR
     have HR := Lib.hid hR
     clear h1 hR hd
     go_enter Tryz.func180, Tryz.ntmps180
     go_upto_region 2 with fail
     generalize w.alloc (.cells #[.int .i64 k, .string path, va, .string t, .int .i64 size, .string dig, .slice Ax exts.length cx] 48) = wa at *
     have c0 := HK.out.cell (i := 0) rfl
     have c4 := HK.out.cell (i := 4) rfl
     have c5 := HK.out.cell (i := 5) rfl
     have c6 := HK.out.cell (i := 6) rfl
     go_wp2
     go_loopw [32] (fun x wr => ∃ i : Nat, i ≤ exts.length ∧ x = .int .i64 (i : Int) ∧ (exts.take i).all extB = true ∧ Below wa.heap.size wa wr) (fun x _ => exts.length - (intOf x).toNat)
     case atStart => exact ⟨0, by omega, rfl, rfl, Below.refl _ _⟩
     case round =>
      obtain ⟨i, hi, rfl, hal, hB⟩ := hrel
      have HBr := Lib.hid hB
      have HKr := Lib.hid (HK.out.kept hB)
      have HAl := Lib.hid hal
      clear hB c0 c4 c5 c6 hal
      have c0 := HKr.out.cell (i := 0) rfl
      have c6 := HKr.out.cell (i := 6) rfl
      by_cases h : i < exts.length
      ·have hiI : (i : Int) < exts.length := by omega
       obtain ⟨x, hx'⟩ : ∃ x, exts[i]? = some x := ⟨_, List.getElem?_eq_getElem h⟩
       obtain ⟨_, _, e9, _, _, h4⟩ := Hvx.out.below (HB.out.trans (HBr.out.mono HB.out.size))
       cases e9
       obtain ⟨b, o, cs, rfl, rfl, hc⟩ := h4 i x hx'
       have HNx : Hid ((exts.take (i + 1)).all extB = extB x) := Lib.hid (by rw [List.take_add_one, hx', List.all_append, HAl.out, Bool.true_and]; simp)
       obtain ⟨x0, x1, x2⟩ := x
       have e0 : wr.cell? ⟨b, o + i * 3, none⟩ = some (.int .i64 x0) := hc 0 _ rfl
       have e1 : wr.cell? ⟨b, o + i * 3 + 1, none⟩ = some (.int .i64 x1) := hc 1 _ rfl
       have e2 : wr.cell? ⟨b, o + i * 3 + 2, none⟩ = some (.int .i64 x2) := hc 2 _ rfl
       have hT := Blk.new wr 80 [.int .i64 x0, .int .i64 x1, .int .i64 x2]
       change Blk (wr.alloc (.cells #[.int .i64 x0, .int .i64 x1, .int .i64 x2] 80)) _ _ _ at hT
       have HT := Lib.hid hT
       have HBt := Lib.hid (HBr.out.alloc HBr.out.size (.cells #[.int .i64 x0, .int .i64 x1, .int .i64 x2] 80))
       have HKt := Lib.hid (HKr.out.kept ((Below.refl wr.heap.size wr).alloc (Nat.le_refl _) (.cells #[.int .i64 x0, .int .i64 x1, .int .i64 x2] 80)))
       cases hxb : extB ⟨x0, x1, x2⟩ with
       | true =>
        have hxc := of_decide_eq_true hxb
        dsimp only at hxc
        have j1 : ¬ x0 < 0 := by omega
        have j2 : ¬ 255 < x0 := by omega
        have j3 : ¬ x2 < 1 := by omega
        have j4 : ¬ 65536 < x2 := by omega
        have j5 : ¬ x1 < 0 := by omega
        have j6 : ¬ 2147483647 < x1 := by omega
        have j7 : ((x0 == 0) = false) ∨ ((x0 == 0) = true ∧ (x1 != 0) = false) := by
         by_cases q : x0 = 0
         ·refine .inr ⟨by rw [q]; rfl, ?_⟩
          have : x1 = 0 := by
           by_cases q2 : x1 = 0
           ·exact q2
           ·exact absurd ⟨q, q2⟩ hxc.2.2.2.2.2.2
          rw [this]
          rfl
         ·exact .inl (beq_eq_false_iff_ne.2 q)
        have HNy : Hid ((exts.take (i + 1)).all extB = true) := Lib.hid (by rw [HNx.out, hxb])
        clear hc h4 hx' hxb hxc hT HNx
        go_upto_region 12 with fail
        generalize wr.alloc (.cells #[.int .i64 x0, .int .i64 x1, .int .i64 x2] 80) = wt at *
        clear c0 c6 e0 e1 e2
        have c0 := HKt.out.cell (i := 0) rfl
        have t0 := HT.out.cell (i := 0) rfl
        have t1 := HT.out.cell (i := 1) rfl
        have t2 := HT.out.cell (i := 2) rfl
        rcases j7 with j7 | ⟨j7, j8⟩
        ·go_wp2
         go_roundw
         case rel => exact ⟨i + 1, by omega, by go_num, HNy.out, HBt.out⟩
         case measure => simp [intOf]; omega
        ·go_wp2
         go_roundw
         case rel => exact ⟨i + 1, by omega, by go_num, HNy.out, HBt.out⟩
         case measure => simp [intOf]; omega
       | false =>
        have hr : R = 2 := by rw [← HR.out, if_pos (all_split hx' hxb)]
        subst hr
        have hn := extB_no hxb
        dsimp only at hn
        clear hc h4 hx' hxb hT HNx HR
        go_upto_region 12 with fail
        generalize wr.alloc (.cells #[.int .i64 x0, .int .i64 x1, .int .i64 x2] 80) = wt at *
        clear c0 c6 e0 e1 e2
        have c0 := HKt.out.cell (i := 0) rfl
        have t0 := HT.out.cell (i := 0) rfl
        have t1 := HT.out.cell (i := 1) rfl
        have t2 := HT.out.cell (i := 2) rfl
        rcases hn with f1 | ⟨f1, f2⟩ | ⟨f1, f2, f3⟩ | ⟨f1, f2, f3, f4⟩ | ⟨f1, f2, f3, f4, f5⟩ | ⟨f1, f2, f3, f4, f5, f6⟩ | ⟨f1, f2, f3, f4, f5, f6, f7, f8⟩
        all_goals
         go_wp2
         go_ret
         exact ⟨rfl, HB.out.trans (HBt.out.mono HB.out.size)⟩
      ·obtain rfl : i = exts.length := by omega
       have hiI : ¬ ((exts.length : Nat) : Int) < (exts.length : Int) := by omega
       have hall := HAl.out
       rw [List.take_length] at hall
       have HX := Lib.hid (List.all_eq_true.1 hall)
       have HS : Hid ((if sumX exts = size then (0 : Int) else 1) = R) := Lib.hid ((if_neg (by rw [hall]; decide)).symm.trans HR.out)
       clear hall
       obtain ⟨wy, rfl⟩ : ∃ x, x = wr := ⟨_, rfl⟩
       go_wp2
       go_loopw [5, 81] (fun y x wr => ∃ (i : Nat) (S : Int), i ≤ exts.length ∧ x = .int .i64 (i : Int) ∧ y = .int .i64 S ∧ (if sumX (exts.drop i) = S then (0 : Int) else 1) = R ∧ 0 ≤ S ∧ S ≤ 65536 ∧ Below wy.heap.size wy wr) (fun _ x _ => exts.length - (intOf x).toNat)
       case atStart => exact ⟨0, size, by omega, rfl, rfl, by rw [List.drop_zero]; exact HS.out, by omega, by omega, Below.refl _ _⟩
       case round =>
        obtain ⟨i, S, hi, rfl, rfl, hS, hS0, hS2, hB2⟩ := hrel
        have HSS := Lib.hid hS
        have HB2 := Lib.hid hB2
        clear hS hB2 c0 c6
        by_cases h : i < exts.length
        ·have hiI : (i : Int) < exts.length := by omega
         obtain ⟨x, hx'⟩ : ∃ x, exts[i]? = some x := ⟨_, List.getElem?_eq_getElem h⟩
         have hxb := of_decide_eq_true (HX.out x (List.mem_of_getElem? hx'))
         have hd : exts.drop i = x :: exts.drop (i + 1) := by
          obtain ⟨h1, h2⟩ := List.getElem?_eq_some_iff.1 hx'
          rw [List.drop_eq_getElem_cons h1, h2]
         have hn := sumX_nonneg (l := exts.drop (i + 1)) (fun y hy => HX.out y (List.mem_of_mem_drop hy))
         have hs2 : (if x.l + sumX (exts.drop (i + 1)) = S then (0 : Int) else 1) = R := by rw [← HSS.out, hd, sumX]
         obtain ⟨_, _, e9, _, _, h4⟩ := Hvx.out.below (HB.out.trans ((HBr.out.trans (HB2.out.mono HBr.out.size)).mono HB.out.size))
         cases e9
         obtain ⟨b, o, cs, rfl, rfl, hc⟩ := h4 i x hx'
         obtain ⟨x0, x1, x2⟩ := x
         dsimp only at hxb hs2
         have e0 : wr.cell? ⟨b, o + i * 3, none⟩ = some (.int .i64 x0) := hc 0 _ rfl
         have e1 : wr.cell? ⟨b, o + i * 3 + 1, none⟩ = some (.int .i64 x1) := hc 1 _ rfl
         have e2 : wr.cell? ⟨b, o + i * 3 + 2, none⟩ = some (.int .i64 x2) := hc 2 _ rfl
         have hT := Blk.new wr 80 [.int .i64 x0, .int .i64 x1, .int .i64 x2]
         change Blk (wr.alloc (.cells #[.int .i64 x0, .int .i64 x1, .int .i64 x2] 80)) _ _ _ at hT
         have HT := Lib.hid hT
         have HBt := Lib.hid (HB2.out.alloc HB2.out.size (.cells #[.int .i64 x0, .int .i64 x1, .int .i64 x2] 80))
         by_cases hl : S < x2
         ·have hr : R = 1 := by rw [← hs2, if_neg (by omega)]
          subst hr
          clear hc h4 hx' hxb hT hd hs2 hn HSS HS HR
          go_upto_region 20 with fail
          generalize wr.alloc (.cells #[.int .i64 x0, .int .i64 x1, .int .i64 x2] 80) = wt at *
          clear e0 e1 e2
          have t2 := HT.out.cell (i := 2) rfl
          go_wp2
          go_ret
          exact ⟨rfl, HB.out.trans ((HBr.out.trans (HBt.out.mono HBr.out.size)).mono HB.out.size)⟩
         ·have HN : Hid ((if sumX (exts.drop (i + 1)) = S - x2 then (0 : Int) else 1) = R) := Lib.hid (by
           rw [← hs2]
           by_cases q : sumX (exts.drop (i + 1)) = S - x2
           ·rw [if_pos q, if_pos (by omega)]
           ·rw [if_neg q, if_neg (by omega)])
          have j1 : S - x2 ≤ 65536 := by omega
          have j2 : 0 ≤ S - x2 := by omega
          have jw : IntKind.i64.wrap (S - x2) = S - x2 := IntWalk.i64_in _ (by omega)
          clear hc h4 hx' hxb hT hd hs2 hn
          go_upto_region 20 with fail
          generalize wr.alloc (.cells #[.int .i64 x0, .int .i64 x1, .int .i64 x2] 80) = wt at *
          clear e0 e1 e2
          have t2 := HT.out.cell (i := 2) rfl
          go_wp2
          go_roundw
          case rel => exact ⟨i + 1, _, by omega, by go_num, rfl, HN.out, j2, j1, HBt.out⟩
          case measure => simp [intOf]; omega
        ·obtain rfl : i = exts.length := by omega
         have hiI : ¬ ((exts.length : Nat) : Int) < (exts.length : Int) := by omega
         have hq := HSS.out
         rw [List.drop_length, sumX] at hq
         by_cases q : S = 0
         ·subst q
          have hr : R = 0 := by rw [← hq, if_pos rfl]
          subst hr
          clear hq HSS HS HR
          go_wp2
          go_ret
          exact ⟨rfl, HB.out.trans ((HBr.out.trans (HB2.out.mono HBr.out.size)).mono HB.out.size)⟩
         ·have hr : R = 1 := by rw [← hq, if_neg (fun e => q e.symm)]
          subst hr
          have q1 : (S != 0) = true := by rw [bne, beq_eq_false_iff_ne.2 q]; rfl
          clear hq HSS HS HR q
          go_wp2
          go_ret
          exact ⟨rfl, HB.out.trans ((HBr.out.trans (HB2.out.mono HBr.out.size)).mono HB.out.size)⟩
    ·have i2 : ((dig.size : Int) != 32) = true := by
      rw [bne, beq_eq_false_iff_ne.2 (by omega)]
      rfl
     rw [if_pos (.inl ⟨h1, hd⟩)] at hR
     subst hR
     clear h1 hd
     go_enter Tryz.func180, Tryz.ntmps180
     go_upto_region 2 with fail
     generalize w.alloc (.cells #[.int .i64 k, .string path, va, .string t, .int .i64 size, .string dig, .slice Ax exts.length cx] 48) = wa at *
     have c0 := HK.out.cell (i := 0) rfl
     have c4 := HK.out.cell (i := 4) rfl
     have c5 := HK.out.cell (i := 5) rfl
     go_wp2
     go_ret
     exact ⟨rfl, HB.out⟩
 ·have i1 : (k == 1) = false := by rw [beq_eq_false_iff_ne]; exact h1
  have i1' : (k != 1) = true := by rw [bne, i1]; rfl
  by_cases hz : size = 0
  ·subst hz
   rw [if_neg (by omega)] at hR
   by_cases hd : dig.size = 0
   ·have i2 : ((dig.size : Int) != 0) = false := by rw [hd]; rfl
    rw [if_neg (by omega), if_pos h1] at hR
    cases exts with
    | nil =>
     rw [if_pos rfl] at hR
     subst hR
     clear h1 hd hx1
     go_enter Tryz.func180, Tryz.ntmps180
     go_upto_region 2 with fail
     change Blk (w.alloc (.cells #[.int .i64 k, .string path, va, .string t, .int .i64 0, .string dig, .slice Ax 0 cx] 48)) _ _ [.int .i64 k, .string path, va, .string t, .int .i64 0, .string dig, .slice Ax 0 cx] at HK
     have HK := Lib.hid HK
     generalize w.alloc (.cells #[.int .i64 k, .string path, va, .string t, .int .i64 0, .string dig, .slice Ax 0 cx] 48) = wa at *
     have c0 := HK.out.cell (i := 0) rfl
     have c4 := HK.out.cell (i := 4) rfl
     have c5 := HK.out.cell (i := 5) rfl
     have c6 := HK.out.cell (i := 6) rfl
     go_wp2
     go_loopw [32] (fun x wr => x = .int .i64 0 ∧ wa = wr) (fun x _ => 0)
     case atStart => exact ⟨rfl, rfl⟩
     case round =>
      obtain ⟨rfl, rfl⟩ := hrel
      go_wp2
      go_loopw [5, 81] (fun y x wr => x = .int .i64 0 ∧ y = .int .i64 0 ∧ wa = wr) (fun x _ _ => 0)
      case atStart => exact ⟨rfl, rfl, rfl⟩
      case round =>
       obtain ⟨rfl, rfl, rfl⟩ := hrel
       go_wp2
       go_ret
       exact ⟨rfl, HB.out⟩
    | cons y r =>
     rw [if_neg (by simp)] at hR
     subst hR
     have i3 : (0 : Int) < ((y :: r).length : Nat) := by rw [List.length_cons]; omega
     obtain ⟨_, _, e9, _, _, h4⟩ := Hvx.out.below HB.out
     cases e9
     obtain ⟨b, o, cs, rfl, rfl, hc⟩ := h4 0 y rfl
     obtain ⟨x0, x1, x2⟩ := y
     have e0 : (w.alloc (.cells #[.int .i64 k, .string path, va, .string t, .int .i64 0, .string dig, .slice (some ⟨b, o, none⟩) ((⟨x0, x1, x2⟩ :: r : List Ext)).length cx] 48)).cell? ⟨b, o, none⟩ = some (.int .i64 x0) := by have := hc 0 _ rfl; rwa [Nat.zero_mul, Nat.add_zero] at this
     have e1 : (w.alloc (.cells #[.int .i64 k, .string path, va, .string t, .int .i64 0, .string dig, .slice (some ⟨b, o, none⟩) ((⟨x0, x1, x2⟩ :: r : List Ext)).length cx] 48)).cell? ⟨b, o + 1, none⟩ = some (.int .i64 x1) := by have := hc 1 _ rfl; rwa [Nat.zero_mul, Nat.add_zero] at this
     have e2 : (w.alloc (.cells #[.int .i64 k, .string path, va, .string t, .int .i64 0, .string dig, .slice (some ⟨b, o, none⟩) ((⟨x0, x1, x2⟩ :: r : List Ext)).length cx] 48)).cell? ⟨b, o + 2, none⟩ = some (.int .i64 x2) := by have := hc 2 _ rfl; rwa [Nat.zero_mul, Nat.add_zero] at this
     clear hc h4 Hvx
     generalize ((⟨x0, x1, x2⟩ :: r : List Ext)).length = n at *
     have HE0 := Lib.hid e0
     have HE1 := Lib.hid e1
     have HE2 := Lib.hid e2
     clear h1 hd e0 e1 e2
     go_enter Tryz.func180, Tryz.ntmps180
     go_upto_region 2 with fail
     generalize w.alloc (.cells #[.int .i64 k, .string path, va, .string t, .int .i64 0, .string dig, .slice (some ⟨b, o, none⟩) n cx] 48) = wa at *
     have c0 := HK.out.cell (i := 0) rfl
     have c4 := HK.out.cell (i := 4) rfl
     have c5 := HK.out.cell (i := 5) rfl
     have c6 := HK.out.cell (i := 6) rfl
     go_wp2
     go_loopw [32] (fun x wr => x = .int .i64 0 ∧ wa = wr) (fun x _ => 0)
     case atStart => exact ⟨rfl, rfl⟩
     case round =>
      obtain ⟨rfl, rfl⟩ := hrel
      have e0 := HE0.out
      have e1 := HE1.out
      have e2 := HE2.out
      have HBt := Lib.hid (HB.out.alloc HB.out.size (.cells #[.int .i64 x0, .int .i64 x1, .int .i64 x2] 80))
      have HKt := Lib.hid (HK.out.kept ((Below.refl wa.heap.size wa).alloc (Nat.le_refl _) (.cells #[.int .i64 x0, .int .i64 x1, .int .i64 x2] 80)))
      go_upto_region 12 with fail
      generalize wa.alloc (.cells #[.int .i64 x0, .int .i64 x1, .int .i64 x2] 80) = wt at *
      have c0 := HKt.out.cell (i := 0) rfl
      go_wp2
      go_ret
      exact ⟨rfl, HBt.out⟩
   ·have i2 : ((dig.size : Int) != 0) = true := by
     rw [bne, beq_eq_false_iff_ne.2 (by omega)]
     rfl
    rw [if_pos (.inr ⟨h1, hd⟩)] at hR
    subst hR
    clear h1 hd
    go_enter Tryz.func180, Tryz.ntmps180
    go_upto_region 2 with fail
    generalize w.alloc (.cells #[.int .i64 k, .string path, va, .string t, .int .i64 0, .string dig, .slice Ax exts.length cx] 48) = wa at *
    have c0 := HK.out.cell (i := 0) rfl
    have c4 := HK.out.cell (i := 4) rfl
    have c5 := HK.out.cell (i := 5) rfl
    go_wp2
    go_ret
    exact ⟨rfl, HB.out⟩
  ·rw [if_pos (.inr (.inr ⟨h1, hz⟩))] at hR
   subst hR
   clear h1
   rcases (by omega : size < 0 ∨ (¬ size < 0 ∧ 0 < size)) with f1 | ⟨f1, f2⟩
   all_goals
    clear hz
    go_enter Tryz.func180, Tryz.ntmps180
    go_upto_region 2 with fail
    generalize w.alloc (.cells #[.int .i64 k, .string path, va, .string t, .int .i64 size, .string dig, .slice Ax exts.length cx] 48) = wa at *
    have c0 := HK.out.cell (i := 0) rfl
    have c4 := HK.out.cell (i := 4) rfl
    have c5 := HK.out.cell (i := 5) rfl
    go_wp2
    go_ret
    exact ⟨rfl, HB.out⟩
end
end Go.Proofs.YtbccghbngaiceaaGreatDoor
