/-
  Joined: MbO.
-/
import Derived.Test.YtbccghbngaiceaaGreatDoorMMn34
set_option linter.all false
set_option maxRecDepth 100000
set_option maxHeartbeats 64000000
namespace Go.Proofs.YtbccghbngaiceaaGreatDoor
section
open Go.RowKit
def cutD : ByteArray := ⟨#[48, 49, 50, 51, 52, 53, 54, 55, 56, 57]⟩
theorem cutD_iff : ∀ b : Nat, b < 256 → (bs cutD).contains b = digB b := by decide
theorem all_dig {l : List Nat} (h : ∀ b ∈ l, b < 256) : allIn (bs cutD) l = l.all digB := by
 unfold allIn
 induction l with
 | nil => rfl
 | cons a r ih => rw [List.all_cons, List.all_cons, cutD_iff a (h a List.mem_cons_self), ih fun b hb => h b (List.mem_cons_of_mem _ hb)]
theorem rtdate_ok (w : World) (s : ByteArray) (h : dateB (bs s) = true) : Calls Tryz.prog 120 #[.string s] w fun e w' => e = .returned (.tuple #[.int .i64 ((valD (bs s) : Nat) : Int), .bool true]) ∧ Below w.heap.size w w' := by
 have hat := fun W => atoi_date W s h
 have h' := h
 rw [dateB, Bool.and_eq_true, Bool.and_eq_true] at h'
 obtain ⟨h1, h2, h3⟩ := h'
 have h1 := of_decide_eq_true h1
 have h3 := of_decide_eq_true h3
 rw [bs_len] at h1
 have hv : ∀ n : Nat, strB (digD n) = s → n = valD (bs s) := fun n e => by
  rw [← e, bs_strB (fun b hb => by have := digD_bytes n b hb; omega), dg_val]
 have HAt : Hid (∀ W, Calls Tryz.prog 196 #[.string s] W fun e w' => e = .returned (.tuple #[.int .i64 ((valD (bs s) : Nat) : Int), .nilIface]) ∧ Below W.heap.size W w') := Lib.hid (fun W => by
  obtain ⟨n, _, hn, hc⟩ := hat W
  rwa [hv n hn] at hc)
 have HT := Lib.hid (fun W => trim_any W s cutD (by omega) (by decide) (by decide))
 rw [all_dig (bs_lt s), h2] at HT
 unfold cutD at HT
 have hb0 : s.toList.isEmpty = false := isEmptyV (by omega)
 have i0 : (0 : Int) < s.size := by omega
 have hs0 : 0 < s.size := by omega
 have hc0 := bsc s 0 hs0
 obtain ⟨V, hV⟩ : ∃ V, valD (bs s) = V := ⟨_, rfl⟩
 rw [hV] at HAt h3 ⊢
 have i9 : (V : Int) ≤ 1000000000 := by omega
 by_cases h4 : (s[0]'hs0).toNat = 48
 ·have hs1 : s = ⟨#[48]⟩ := by
   have hl : s.size = 1 := by
    have : ¬ 1 < s.size := fun q => h1.2.2 ⟨q, by rw [hc0, h4]⟩
    omega
   have hb : bs s = [48] := by
    have hbl : (bs s).length = 1 := by rw [bs_len, hl]
    match hbs : bs s, hbl with
    | [c], _ =>
     have := hc0
     rw [cf, hbs] at this
     have : c = (s[0]'hs0).toNat := by simpa using this
     rw [this, h4]
   rw [← strB_bs s, hb]
   rfl
  have i4 : (((s[0]'hs0).toNat : Int) == 48) = true := by rw [h4]; rfl
  subst hs1
  clear h h1 h2 h3 hat hv hc0 h4 hV
  go_enter Tryz.func120, Tryz.ntmps120
  go_wp2_with fail
  refine (HT.out _).mono ?_
  rintro e1 w1 ⟨t, rfl, ht, hb⟩
  have HB := Lib.hid hb
  clear hb
  go_wp2_with fail
  refine (HAt.out _).mono ?_
  rintro e2 w2 ⟨rfl, hb2⟩
  have HB2 := Lib.hid (HB.out.trans (hb2.mono HB.out.size))
  clear hb2
  go_wp2_with fail
  go_ret2
  exact ⟨rfl, HB2.out⟩
 ·have i4 : (((s[0]'hs0).toNat : Int) == 48) = false := by rw [beq_eq_false_iff_ne]; omega
  clear h h1 h2 h3 hat hv hc0 h4 hV
  go_enter Tryz.func120, Tryz.ntmps120
  go_wp2_with fail
  refine (HT.out _).mono ?_
  rintro e1 w1 ⟨t, rfl, ht, hb⟩
  have HB := Lib.hid hb
  clear hb
  go_wp2_with fail
  refine (HAt.out _).mono ?_
  rintro e2 w2 ⟨rfl, hb2⟩
  have HB2 := Lib.hid (HB.out.trans (hb2.mono HB.out.size))
  clear hb2
  go_wp2_with fail
  go_ret2
  exact ⟨rfl, HB2.out⟩
theorem rtap1_any (w : World) (h : Hol) (g : Nat) (e : Ent) (ua ux : Value) (hg : Blk w g 48 [.int .i64 e.k, .string e.path, ua, .string e.tgt, .int .i64 e.size, .string e.dig, ux]) : Calls Tryz.prog 119 #[holV h, .pointer (some ⟨g, 0, none⟩)] w fun r w' => r = .returned (.bool (decide (h.p ≠ e.path))) ∧ Below w.heap.size w w' := by
 obtain ⟨p, u⟩ := h
 rw [holV]
 dsimp only
 have hK := Blk.new w 196 [.string p, .int .i64 u]
 change Blk (w.alloc (.cells #[.string p, .int .i64 u] 196)) _ _ _ at hK
 have HB := Lib.hid ((Below.refl w.heap.size w).alloc (Nat.le_refl _) (.cells #[.string p, .int .i64 u] 196))
 have c1 := hK.cell (i := 0) rfl
 have c2 := (hg.alloc (.cells #[.string p, .int .i64 u] 196)).cell (i := 1) rfl
 clear hK hg
 generalize e.path = q at *
 by_cases hp : p = q
 ·subst hp
  have q1 : (p == p) = true := beqV_true rfl
  have q2 : (p.toList == p.toList) = true := beq_iff_eq.2 rfl
  rw [decide_eq_false (fun q => q rfl)]
  go_enter Tryz.func119, Tryz.ntmps119
  go_wp2
  go_ret
  exact ⟨by first | rfl | exact ret_bool' (by simp), HB.out⟩
 ·have q1 : (p == q) = false := beqV_false hp
  have q2 : (p.toList == q.toList) = false := by
   rw [beq_eq_false_iff_ne]
   exact fun e => hp (by rw [ByteArray.toList_eq, ByteArray.toList_eq] at e; exact ByteArray.ext (Array.toList_inj.1 e))
  rw [decide_eq_true hp]
  clear hp
  go_enter Tryz.func119, Tryz.ntmps119
  go_wp2
  go_ret
  exact ⟨by first | rfl | exact ret_bool' (by simp [bne, q1, q2]) | exact ret_bool' (by rw [bne, q2]; rfl), HB.out⟩
theorem rtap2_any (w : World) (h : Hol) (g : Nat) (e : Ent) (ua ux : Value) (hg : Blk w g 48 [.int .i64 e.k, .string e.path, ua, .string e.tgt, .int .i64 e.size, .string e.dig, ux]) (hs : e.path.size ≤ 1000000) (hp : h.p.size ≤ 1000000) (hT : Tab w) : Calls Tryz.prog 122 #[holV h, .pointer (some ⟨g, 0, none⟩)] w fun r w' => r = .returned (.bool (decide (0 < pcmp h.p e.path))) ∧ Below w.heap.size w w' := by
 obtain ⟨p, u⟩ := h
 rw [holV]
 dsimp only at hp ⊢
 have hK := Blk.new w 196 [.string p, .int .i64 u]
 change Blk (w.alloc (.cells #[.string p, .int .i64 u] 196)) _ _ _ at hK
 have hB := (Below.refl w.heap.size w).alloc (Nat.le_refl _) (.cells #[.string p, .int .i64 u] 196)
 have HU := Lib.hid (pcompare_gen _ p e.path hp hs (hT.below hB))
 have c1 := hK.cell (i := 0) rfl
 have c2 := (hg.alloc (.cells #[.string p, .int .i64 u] 196)).cell (i := 1) rfl
 have HB := Lib.hid hB
 generalize pcmp p e.path = C at *
 clear hK hg hB hs hp hT
 go_enter Tryz.func122, Tryz.ntmps122
 go_wp2_with fail
 refine HU.out.mono ?_
 rintro e1 w1 ⟨rfl, hb1⟩
 have HB1 := Lib.hid (HB.out.trans (hb1.mono HB.out.size))
 clear hb1
 go_wp2_with fail
 go_ret
 exact ⟨by first | rfl | exact ret_bool' (by simp), HB1.out⟩
theorem untilH_take {l : List Hol} {i : Nat} {h : Hol} (hh : l[i]? = some h) (p : ByteArray) (u : Int) : untilH (l.take (i + 1)) p u = if h.p = p then max (untilH (l.take i) p u) h.u else untilH (l.take i) p u := by
 unfold untilH
 rw [List.take_add_one, hh, List.foldl_append]
 rfl
def RtR (o : Int × List Hol) (r : Ending) (w' : World) : Prop := ∃ v', r = .returned (.tuple #[v', .int .i64 o.1]) ∧ SeqAt holS w' v' o.2
theorem rtapply_any (w : World) (v : Value) (l : List Hol) (hv : SeqAt holS w v l) (hl : l.length ≤ 90000) (hz : ∀ h ∈ l, h.p.size ≤ 1000000) (e : Ent) (va vx : Value) (h1a : va.oneCell' = true) (h1x : vx.oneCell' = true) (hs : e.path.size ≤ 1000000) (hk : 1 ≤ e.k ∧ e.k ≤ 6) (hd5 : e.k = 5 → dateB (bs e.tgt) = true) (d : Int) (hT : Tab w) :
  Calls Tryz.prog 59 #[v, entV e va vx, .int .i64 d] w fun r w' => RtR (applyH l e d) r w' ∧ Below w.heap.size w w' := by
 have hB := (Below.refl w.heap.size w).alloc (Nat.le_refl _) (.cells #[.int .i64 e.k, .string e.path, va, .string e.tgt, .int .i64 e.size, .string e.dig, vx] 48)
 have HB := Lib.hid hB
 have hK := Blk.new w 48 [.int .i64 e.k, .string e.path, va, .string e.tgt, .int .i64 e.size, .string e.dig, vx]
 change Blk (w.alloc (.cells #[.int .i64 e.k, .string e.path, va, .string e.tgt, .int .i64 e.size, .string e.dig, vx] 48)) _ _ _ at hK
 have HK := Lib.hid hK
 have HA := Lib.hid (rtact_any _ v l (hv.below hB) (by omega) d)
 have hal : (actH l d).length ≤ l.length := List.length_filter_le _ _
 have HSel := Lib.hid (fun W v' (hW : Below (w.alloc (.cells #[.int .i64 e.k, .string e.path, va, .string e.tgt, .int .i64 e.size, .string e.dig, vx] 48)).heap.size (w.alloc (.cells #[.int .i64 e.k, .string e.path, va, .string e.tgt, .int .i64 e.size, .string e.dig, vx] 48)) W) (hS : SeqAt holS W v' (actH l d)) => selected_any W v' (actH l d) hS (by omega) 119 #[.pointer (some ⟨w.heap.size, 0, none⟩)] (enters_of Tryz.func119 (by kernel_rfl) rfl) (fun h => decide (h.p ≠ e.path)) (fun V x hV _ => rtap1_any V x w.heap.size e va vx ((hK.kept hW).kept hV)))
 have HZa : Hid (∀ h ∈ actH l d, h.p.size ≤ 1000000) := Lib.hid (fun h hh => hz h (actH_mem h hh))
 obtain ⟨A, c, rfl, _, _⟩ := hv.slice
 obtain ⟨R, hR⟩ : ∃ R, applyH l e d = R := ⟨_, rfl⟩
 rw [hR]
 unfold applyH at hR
 dsimp only at hR
 have HR := Lib.hid hR
 have Hal : Hid ((actH l d).length ≤ 90000) := Lib.hid (by omega)
 generalize actH l d = AC at *
 have HT := Lib.hid hT
 rw [entV]
 have c0 := hK.cell (i := 0) rfl
 clear hv hB hK hz hR hal hT
 go_enter Tryz.func59, Tryz.ntmps59
 go_upto_region 1 with fail
 generalize w.alloc (.cells #[.int .i64 e.k, .string e.path, va, .string e.tgt, .int .i64 e.size, .string e.dig, vx] 48) = wb at *
 go_wp2_with fail
 refine HA.out.mono ?_
 rintro e1 w1 ⟨v1, rfl, hs1, hb1⟩
 have HS1 := Lib.hid hs1
 have HBa := Lib.hid hb1
 have HK1 := Lib.hid (HK.out.kept hb1)
 have HB1 := Lib.hid (HB.out.trans (hb1.mono HB.out.size))
 clear hb1 hs1
 obtain ⟨A1, c1, rfl, _, _⟩ := HS1.out.slice
 go_wp2_with fail
 refine (HSel.out _ _ HBa.out HS1.out).mono ?_
 rintro e2 w2 ⟨v2, rfl, ho2, hb2⟩
 have HO2 := Lib.hid ho2
 have HBs := Lib.hid hb2
 have HS1 := Lib.hid (HS1.out.below hb2)
 have HK2 := Lib.hid (HK1.out.kept hb2)
 have HB2 := Lib.hid (HB1.out.trans (hb2.mono HB1.out.size))
 obtain ⟨A2, c2, hv2, _, _⟩ := (ho2.at hb2).slice
 have HRl : Hid ((AC.filter fun h => decide (h.p ≠ e.path)).length ≤ 90000) := Lib.hid (Nat.le_trans (List.length_filter_le _ _) Hal.out)
 have HZr : Hid (∀ h ∈ AC.filter (fun h => decide (h.p ≠ e.path)), h.p.size ≤ 1000000) := Lib.hid (fun h hh => HZa.out h (List.mem_filter.1 hh).1)
 generalize AC.filter (fun h => decide (h.p ≠ e.path)) = RS at *
 subst hv2
 clear hb2 ho2 c0
 have c0 := HK2.out.cell (i := 0) rfl
 by_cases h5 : e.k = 5
 ·have f5 : (e.k == 5) = true := by rw [h5]; rfl
  have HR := Lib.hid ((if_pos h5).symm.trans HR.out)
  have c3 := HK2.out.cell (i := 3) rfl
  have HD := Lib.hid (fun W => rtdate_ok W e.tgt (hd5 h5))
  generalize valD (bs e.tgt) = V at *
  clear h5 hd5
  go_wp2_with fail
  refine (HD.out _).mono ?_
  rintro e3 w3 ⟨rfl, hb3⟩
  have HS3 := Lib.hid (HS1.out.below hb3)
  have HO3 := Lib.hid (HO2.out.below hb3)
  have HBs3 := Lib.hid (HBs.out.trans (hb3.mono HBs.out.size))
  have HK3 := Lib.hid (HK2.out.kept hb3)
  have HB3 := Lib.hid (HB2.out.trans (hb3.mono HB2.out.size))
  clear hb3 c0 c3
  go_wp2
  go_loopw [10, 13, 35] (fun y _ x wr => ∃ i : Nat, i ≤ AC.length ∧ x = .int .i64 (i : Int) ∧ y = .int .i64 (untilH (AC.take i) e.path (V : Int)) ∧ Below w3.heap.size w3 wr) (fun _ _ x _ => AC.length - (intOf x).toNat)
  case atStart => exact ⟨0, by omega, rfl, rfl, Below.refl _ _⟩
  case round =>
   obtain ⟨i, hi, rfl, rfl, hB⟩ := hrel
   have HBr := Lib.hid hB
   have HKr := Lib.hid (HK3.out.kept hB)
   clear hB
   by_cases h : i < AC.length
   ·have hiI : (i : Int) < (AC.length : Int) := by omega
    obtain ⟨x, hx⟩ : ∃ x, AC[i]? = some x := ⟨_, List.getElem?_eq_getElem h⟩
    have HU := Lib.hid (untilH_take hx e.path (V : Int))
    obtain ⟨_, _, e9, _, _, h4⟩ := HS3.out.below HBr.out
    cases e9
    obtain ⟨b, o, cs, rfl, rfl, hc⟩ := h4 i x hx
    obtain ⟨p, u⟩ := x
    have b0 : wr.cell? ⟨b, o + i * 2, none⟩ = some (.string p) := hc 0 _ rfl
    have b1 : wr.cell? ⟨b, o + i * 2 + 1, none⟩ = some (.int .i64 u) := hc 1 _ rfl
    have hT2 := Blk.new wr 196 [.string p, .int .i64 u]
    change Blk (wr.alloc (.cells #[.string p, .int .i64 u] 196)) _ _ _ at hT2
    have HT2 := Lib.hid hT2
    have HBt := Lib.hid (HBr.out.alloc HBr.out.size (.cells #[.string p, .int .i64 u] 196))
    have HKt := Lib.hid (HKr.out.alloc (.cells #[.string p, .int .i64 u] 196))
    dsimp only at HU
    obtain ⟨U, hU⟩ : ∃ U, untilH (AC.take i) e.path (V : Int) = U := ⟨_, rfl⟩
    rw [hU] at HU ⊢
    clear hc h4 hx hT2 hU
    go_upto_region 11 with fail
    generalize wr.alloc (.cells #[.string p, .int .i64 u] 196) = wt at *
    clear b0 b1
    have t0 := HT2.out.cell (i := 0) rfl
    have t1 := HT2.out.cell (i := 1) rfl
    have k1 := HKt.out.cell (i := 1) rfl
    by_cases hp : p = e.path
    ·have q1 : (p == e.path) = true := beqV_true hp
     have q2 : (p.toList == e.path.toList) = true := beq_iff_eq.2 (by rw [hp])
     have HU2 : Hid (untilH (AC.take (i + 1)) e.path (V : Int) = max U u) := Lib.hid (by rw [HU.out, if_pos hp])
     clear hp
     go_wp2
     go_roundw
     case rel => exact ⟨i + 1, by omega, by go_num, by rw [HU2.out], HBt.out⟩
     case measure => simp [intOf]; omega
    ·have q1 : (p == e.path) = false := beqV_false hp
     have q2 : (p.toList == e.path.toList) = false := by
      rw [beq_eq_false_iff_ne]
      exact fun e => hp (by rw [ByteArray.toList_eq, ByteArray.toList_eq] at e; exact ByteArray.ext (Array.toList_inj.1 e))
     have HU2 : Hid (untilH (AC.take (i + 1)) e.path (V : Int) = U) := Lib.hid (by rw [HU.out, if_neg hp])
     clear hp
     go_wp2
     go_roundw
     case rel => exact ⟨i + 1, by omega, by go_num, by rw [HU2.out], HBt.out⟩
     case measure => simp [intOf]; omega
   ·obtain rfl : i = AC.length := by omega
    have hiI : ¬ ((AC.length : Nat) : Int) < (AC.length : Int) := by omega
    have hU : untilH (AC.take AC.length) e.path (V : Int) = untilH AC e.path (V : Int) := by rw [List.take_length]
    rw [hU]
    obtain ⟨U, hU2⟩ : ∃ U, untilH AC e.path (V : Int) = U := ⟨_, rfl⟩
    rw [hU2] at HR ⊢
    obtain ⟨pl, hpl⟩ : ∃ pl, (idxP (fun h : Hol => decide (0 < pcmp h.p e.path)) RS).getD RS.length = pl := ⟨_, rfl⟩
    rw [hpl] at HR
    have hr : R = (0, insAt RS pl ⟨e.path, U⟩) := HR.out.symm
    subst hr
    have HO4 := Lib.hid (HO3.out.below HBr.out)
    have HB4 := Lib.hid (HBs3.out.trans (HBr.out.mono HBs3.out.size))
    have HB4w := Lib.hid (HB3.out.trans (HBr.out.mono HB3.out.size))
    have HIx := Lib.hid (idxHol_any wr _ RS (HO4.out.at HB4.out) 122 #[.pointer (some ⟨w.heap.size, 0, none⟩)] (enters_of Tryz.func122 (by kernel_rfl) rfl) (fun h => decide (0 < pcmp h.p e.path)) (fun W x hW hx => rtap2_any W x w.heap.size e va vx (HKr.out.kept hW) hs (HZr.out x hx) (HT.out.below (HB4w.out.trans (hW.mono HB4w.out.size)))))
    have HPl : Hid (pl ≤ RS.length) := Lib.hid (by
     rw [← hpl]
     cases hI : idxP (fun h : Hol => decide (0 < pcmp h.p e.path)) RS with
     | none => exact Nat.le_refl _
     | some k =>
      obtain ⟨y, hy, _⟩ := idxP_at hI
      exact Nat.le_of_lt (List.getElem?_eq_some_iff.1 hy).1)
    clear hU hU2 HR
    cases hI : idxP (fun h : Hol => decide (0 < pcmp h.p e.path)) RS with
    | none =>
     rw [hI] at HIx hpl
     have hpl : RS.length = pl := hpl
     rw [show idxI none = -1 from rfl] at HIx
     subst hpl
     clear hI
     go_wp2_with fail
     refine HIx.out.mono ?_
     rintro e5 w5 ⟨rfl, hb5⟩
     have HO5 := Lib.hid (HO4.out.below hb5)
     have HB5 := Lib.hid (HB4.out.trans (hb5.mono HB4.out.size))
     have HB5w := Lib.hid (HB4w.out.trans (hb5.mono HB4w.out.size))
     have HK5 := Lib.hid (HKr.out.kept hb5)
     have HIn := Lib.hid (insHol_any w1 _ _ RS (HO5.out.below ((Below.refl w5.heap.size w5).alloc (Nat.le_refl _) (.cells #[.string e.path, .int .i64 U] 196))) (HB5.out.alloc HB5.out.size _) (by have := HRl.out; omega) RS.length (Nat.le_refl _) w5.heap.size [.string e.path, .int .i64 U] ⟨e.path, U⟩ rfl (Blk.new w5 196 _) (fun q => Nat.lt_irrefl _ (HO5.out.lt q)))
     clear hb5
     have k1 := HK5.out.cell (i := 1) rfl
     go_wp2_with fail
     refine HIn.out.mono ?_
     rintro e9 w9 ⟨v9, rfl, hO9, hb9⟩
     have HS9 := Lib.hid (hO9.at hb9)
     have HB9 := Lib.hid (HB1.out.trans (hb9.mono HB1.out.size))
     clear hO9 hb9
     go_wp2_with fail
     go_ret2
     exact ⟨⟨_, rfl, HS9.out⟩, HB9.out⟩
    | some k =>
     rw [hI] at HIx hpl
     have hpl : k = pl := hpl
     rw [show idxI (some k) = (k : Int) from rfl] at HIx
     subst hpl
     have hk0 : ¬ (k : Int) < 0 := by omega
     clear hI
     go_wp2_with fail
     refine HIx.out.mono ?_
     rintro e5 w5 ⟨rfl, hb5⟩
     have HO5 := Lib.hid (HO4.out.below hb5)
     have HB5 := Lib.hid (HB4.out.trans (hb5.mono HB4.out.size))
     have HB5w := Lib.hid (HB4w.out.trans (hb5.mono HB4w.out.size))
     have HK5 := Lib.hid (HKr.out.kept hb5)
     have HIn := Lib.hid (insHol_any w1 _ _ RS (HO5.out.below ((Below.refl w5.heap.size w5).alloc (Nat.le_refl _) (.cells #[.string e.path, .int .i64 U] 196))) (HB5.out.alloc HB5.out.size _) (by have := HRl.out; omega) k HPl.out w5.heap.size [.string e.path, .int .i64 U] ⟨e.path, U⟩ rfl (Blk.new w5 196 _) (fun q => Nat.lt_irrefl _ (HO5.out.lt q)))
     clear hb5
     have k1 := HK5.out.cell (i := 1) rfl
     go_wp2_with fail
     refine HIn.out.mono ?_
     rintro e9 w9 ⟨v9, rfl, hO9, hb9⟩
     have HS9 := Lib.hid (hO9.at hb9)
     have HB9 := Lib.hid (HB1.out.trans (hb9.mono HB1.out.size))
     clear hO9 hb9
     go_wp2_with fail
     go_ret2
     exact ⟨⟨_, rfl, HS9.out⟩, HB9.out⟩
 ·have f5 : (e.k == 5) = false := beq_eq_false_iff_ne.2 h5
  have HR := Lib.hid ((if_neg h5).symm.trans HR.out)
  by_cases h6 : e.k = 6
  ·have f6 : (e.k == 6) = true := by rw [h6]; rfl
   have HR := Lib.hid ((if_pos h6).symm.trans HR.out)
   by_cases hlen : RS.length = AC.length
   ·have fl : ((RS.length : Int) == (AC.length : Int)) = true := by rw [hlen]; simp
    have hr : R = (9, []) := by rw [← HR.out, if_pos hlen]
    subst hr
    clear h5 h6 hlen hd5 HR
    go_wp2_with fail
    go_ret2
    exact ⟨⟨_, rfl, SeqAt.nil _⟩, HB2.out⟩
   ·have fl : ((RS.length : Int) == (AC.length : Int)) = false := by rw [beq_eq_false_iff_ne]; omega
    have hr : R = (0, RS) := by rw [← HR.out, if_neg hlen]
    subst hr
    clear h5 h6 hlen hd5 HR
    go_wp2_with fail
    go_ret2
    exact ⟨⟨_, rfl, HO2.out.at HBs.out⟩, HB2.out⟩
  ·have f6 : (e.k == 6) = false := beq_eq_false_iff_ne.2 h6
   have hr : R = (0, AC) := by rw [← HR.out, if_neg h6]
   subst hr
   clear h5 h6 hd5 HR
   go_wp2_with fail
   go_ret2
   exact ⟨⟨_, rfl, HS1.out⟩, HB2.out⟩
end
end Go.Proofs.YtbccghbngaiceaaGreatDoor
