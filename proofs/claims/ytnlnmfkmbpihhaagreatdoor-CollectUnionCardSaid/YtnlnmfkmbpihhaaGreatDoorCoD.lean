/-
 WALKS: scan.Pieces and collect.Collect where there is no piece; stelelaw44.two, alive.
-/
import Derived.Test.YtnlnmfkmbpihhaaGreatDoorCoA
import Derived.Test.YtnlnmfkmbpihhaaGreatDoorCoC
import Derived.Test.YtnlnmfkmbpihhaaGreatDoorScPa
namespace Go.Proofs.YtnlnmfkmbpihhaaGreatDoor
open Go.RowKit

set_option maxRecDepth 100000 in
set_option maxHeartbeats 4000000 in
theorem scpieces_nil (w : World) : Calls Tryz.prog 19 #[.slice none 0 0] w fun e w' => e = .returned (.slice none 0 0) ∧ Below w.heap.size w w' := by
 have HB := Lib.hid ((Below.refl w.heap.size w).alloc (Nat.le_refl _) (.cells #[.slice none 0 0] 28))
 have hc := (Blk.new w 28 [.slice none 0 0]).cell (i := 0) rfl
 change (w.alloc (.cells #[.slice none 0 0] 28)).cell? _ = _ at hc
 go_enter Tryz.func19, Tryz.ntmps19
 go_wp2
 generalize w.alloc (.cells #[.slice none 0 0] 28) = wz at *
 go_loopw [9] (fun x wr => x = .int .i64 0 ∧ wr = wz) (fun _ _ => 0)
 case atStart => exact ⟨rfl, rfl⟩
 case round =>
  obtain ⟨rfl, rfl⟩ := hrel
  go_wp2
  go_ret
  exact ⟨rfl, HB.out⟩
theorem Tryz.sizeColl : (Tryz.prog.info? 55).map (·.size) = some 2 := by kernel_rfl
theorem coll_store {ops : Array Oper} {rest : List Oper} {op : Oper} {a : Act} {W : World} {Q : Exit → Act → World → Prop} (hgd : op.guard = none) (x y : Operand) (ho : op.op = .store 55 x y)
  (b : Nat) (cells : Array Value) (hx : a.eval x = .pointer (some ⟨b, 0, none⟩)) (hy : a.eval y = .agg cells)
  (ht : W.there b 0 cells.size) (h2 : cells.size = 2) (h1 : cells.all (·.oneCell') = true) (W1 : World) (hE : W.setCells b 0 cells.toList = W1)
  (h : wpList Tryz.prog ops Q rest (a.put op.dst undef) W1) : wpList Tryz.prog ops Q (op :: rest) a W :=
 wpList_store_mid hgd 55 x y ho b 0 cells hx hy ht (by rw [h2]; exact Tryz.sizeColl) h1 (by rw [hE]; exact h)
set_option maxRecDepth 100000 in
set_option maxHeartbeats 4000000 in
theorem coll_nil (w : World) : Calls Tryz.prog 26 #[.slice none 0 0, .int .u32 7] w fun e w' => e = .returned (.agg #[.int .u32 7, .slice none 0 0]) ∧ Below w.heap.size w w' := by
 have HP := Lib.hid (fun W => scpieces_nil W)
 have HS : Hid (∀ W : World, Calls Tryz.prog 58 #[.slice none 0 0, .func (.func 59) #[] #[]] W fun e w' => e = .returned (.tuple #[]) ∧ w' = W) := Lib.hid (fun W => AnyF.slices_SortFunc_none Tryz.sortFrm none 0 (.func (.func 59) #[] #[]) W)
 have hmm := @run_makeMap Tryz.prog
 have hb1 := (((Below.refl w.heap.size w).alloc (Nat.le_refl _) (.cells #[.int .u32 0, .slice none 0 0] 55)).alloc (by simp) (.map #[] 0)).alloc (by simp; omega) (.cells #[.int .u32 7, .slice none 0 0] 55)
 have HB1 := Lib.hid hb1
 have h1 := (((Blk.new w 55 [.int .u32 0, .slice none 0 0]).alloc (.map #[] 0)).alloc (.cells #[.int .u32 7, .slice none 0 0] 55))
 have H1 := Lib.hid h1
 have h2 := Blk.new ((w.alloc (.cells #[.int .u32 0, .slice none 0 0] 55)).alloc (.map #[] 0)) 55 [.int .u32 7, .slice none 0 0]
 rw [show ((w.alloc (.cells #[.int .u32 0, .slice none 0 0] 55)).alloc (.map #[] 0)).heap.size = w.heap.size + 1 + 1 by simp] at h2
 have H2 := Lib.hid h2
 change Hid (Blk (((w.alloc (.cells #[.int .u32 0, .slice none 0 0] 55)).alloc (.map #[] 0)).alloc (.cells #[.int .u32 7, .slice none 0 0] 55)) _ _ _) at H2
 change Hid (Blk (((w.alloc (.cells #[.int .u32 0, .slice none 0 0] 55)).alloc (.map #[] 0)).alloc (.cells #[.int .u32 7, .slice none 0 0] 55)) _ _ _) at H1
 clear hb1 h1 h2
 go_enter Tryz.func26, Tryz.ntmps26
 go_upto_region 3 with fail
 clear hmm
 generalize ((w.alloc (.cells #[.int .u32 0, .slice none 0 0] 55)).alloc (.map #[] 0)).alloc (.cells #[.int .u32 7, .slice none 0 0] 55) = wz at *
 go_wp2_with (go_at_call 19; refine (HP.out _).mono ?_; rintro e w1 ⟨rfl, hb1⟩; have H11 := Lib.hid (H1.out.kept hb1); have H21 := Lib.hid (H2.out.kept hb1); have HB2 := Lib.hid (HB1.out.trans (hb1.mono HB1.out.size)); clear hb1 H1 H2 HB1)
 go_loopw [15] (fun x wr => x = .int .i64 0 ∧ wr = w1) (fun _ _ => 0)
 case atStart => exact ⟨rfl, rfl⟩
 case round =>
  obtain ⟨rfl, rfl⟩ := hrel
  have c1 := H21.out.cell (i := 1) rfl
  have c0 := H21.out.cell (i := 0) rfl
  have d0 := H11.out.cell (i := 0) rfl
  have d1 := H11.out.cell (i := 1) rfl
  have HT := Lib.hid H11.out.there
  have HG := Lib.hid (setCells_below HB2.out (Nat.le_refl _) [.int .u32 7, .slice none 0 0] 0)
  have HFx := setCells_blk [.int .u32 7, .slice none 0 0] [] [.int .u32 0, .slice none 0 0] _ H11.out rfl
  rw [show ([] : List Value).length = 0 from rfl, List.nil_append] at HFx
  obtain ⟨W1, hE⟩ : ∃ W1, wr.setCells w.heap.size 0 [.int .u32 7, .slice none 0 0] = W1 := ⟨_, rfl⟩
  have HE := Lib.hid hE
  rw [hE] at HG HFx
  have HF2 := Lib.hid HFx
  clear hE HFx d0 d1
  go_wp2_with (first | (go_at_call 58; refine (HS.out _).mono ?_; rintro e w2 ⟨rfl, rfl⟩) | (refine coll_store rfl (.tmp 4) (.tmp 45) rfl _ _ rfl rfl HT.out rfl (by simp [Value.oneCell']) W1 HE.out ?_))
  have m0 := HF2.out.cell (i := 0) rfl
  have m1 := HF2.out.cell (i := 1) rfl
  exact bodyPost_ret (v := .agg #[.int .u32 7, .slice none 0 0]) (by simp [results, Tryz.results26, go_sem, m0, m1]) rfl ⟨rfl, HG.out⟩
/-- A frame whose payload is one byte. -/
def twoF (c : Nat) : Frm := ⟨66, 0, 1, 0, 1, 1, 1, 7, strB (chL c)⟩
theorem two_mk (c : Nat) (hc : c < 256) : mkFrm 0 1 0 1 1 7 (strB [c]) = twoF c := by
 have hz : (strB [c]).size = 1 := by rw [strB_size]; rfl
 have he : (strB [c]).extract 0 1 = strB [c] := by
  have h := ByteArray.extract_zero_size (b := strB [c])
  rwa [hz] at h
 have hp : padL (strB [c]) = chL c := by
  unfold padL
  rw [hz, bs_strB (fun y hy => by rw [List.mem_singleton.1 hy]; exact hc)]
  rfl
 unfold mkFrm twoF
 rw [hz, show min 28 1 = 1 from rfl, he, hp]
 rfl
theorem two_ne : frEq (twoF 97) (twoF 98) = false := by
 rw [Bool.eq_false_iff]
 intro h
 have e := frEq_iff.1 h
 have e2 : bs (strB (chL 97)) = bs (strB (chL 98)) := by rw [show strB (chL 97) = (twoF 97).t from rfl, e]; rfl
 rw [bs_strB (by decide), bs_strB (by decide)] at e2
 exact absurd e2 (by decide)

set_option maxRecDepth 100000 in
set_option maxHeartbeats 8000000 in
theorem two_any (w : World) : Calls Tryz.prog 56 #[] w fun e w' => ∃ g, e = .returned (.slice (some ⟨g, 0, none⟩) 2 2) ∧ FrmsAt w' (.slice (some ⟨g, 0, none⟩) 2 2) [twoF 97, twoF 98] ∧ Below w.heap.size w w' := by
 have HM0 : Hid (∀ W : World, Calls Tryz.prog 38 #[.int .i64 0, .int .i64 1, .int .i64 0, .agg #[.int .i64 1, .int .i64 1], .int .u32 7, .string ⟨#[97]⟩] W fun e w' => e = .returned (twoF 97).v ∧ Below W.heap.size W w') := Lib.hid (fun W => by
  have h := rmake_all W 0 1 0 1 1 7 (strB [97]) (by rw [strB_size]; decide)
  rwa [two_mk 97 (by decide)] at h)
 have HM1 : Hid (∀ W : World, Calls Tryz.prog 38 #[.int .i64 0, .int .i64 1, .int .i64 0, .agg #[.int .i64 1, .int .i64 1], .int .u32 7, .string ⟨#[98]⟩] W fun e w' => e = .returned (twoF 98).v ∧ Below W.heap.size W w') := Lib.hid (fun W => by
  have h := rmake_all W 0 1 0 1 1 7 (strB [98]) (by rw [strB_size]; decide)
  rwa [two_mk 98 (by decide)] at h)
 have HF : Hid (∀ W : World, FrmsAt (W.alloc (.cells ((twoF 97).cells ++ (twoF 98).cells).toArray 34)) (.slice (some ⟨W.heap.size, 0, none⟩) 2 2) [twoF 97, twoF 98]) := Lib.hid (fun W => FrmsAt.two (Blk.new W 34 _))
 unfold twoF at *
 unfold Frm.v frV at HM0 HM1
 dsimp only [Frm.cells, List.cons_append, List.nil_append] at HM0 HM1 HF
 generalize strB (chL 97) = Z0 at *
 generalize strB (chL 98) = Z1 at *
 have HL : Hid ((w.alloc (.cells #[.int .i64 1, .int .i64 1] 31)).cell? ⟨w.heap.size, 0, none⟩ = some (.int .i64 1) ∧ (w.alloc (.cells #[.int .i64 1, .int .i64 1] 31)).cell? ⟨w.heap.size, 1, none⟩ = some (.int .i64 1)) := Lib.hid (by
  have h := Blk.new w 31 [.int .i64 1, .int .i64 1]
  exact ⟨h.cell (i := 0) rfl, h.cell (i := 1) rfl⟩)
 have HBz := Lib.hid ((Below.refl w.heap.size w).alloc (Nat.le_refl _) (.cells #[.int .i64 1, .int .i64 1] 31))
 go_enter Tryz.func56, Tryz.ntmps56
 go_upto_region 2 with fail
 generalize w.alloc (.cells #[.int .i64 1, .int .i64 1] 31) = wz at *
 refine wp_region_held_drew (S := (fun W => W.cell? ⟨w.heap.size, 0, none⟩ = some (.int .i64 1) ∧ W.cell? ⟨w.heap.size, 1, none⟩ = some (.int .i64 1))) (by kernel_rfl) ?_ (fun hHeld => ?_)
 ·(refine ⟨?_, ?_⟩ <;> (repeat' (first | with_reducible (first | exact HL.out.1 | exact HL.out.2 | refine cell_below hb3 ?_ | refine cell_below hb1 ?_ | refine cell_below ((Below.refl _ _).alloc (Nat.le_refl _) _) ?_) | exact HL.out.1 | exact HL.out.2)))
 refine tk 0 ?_
 refine tk 2 ?_
 refine wpAnyH_ready (rs := [1]) (by kernel_rfl) (by simp) ?_
 refine AllReadyH.cons (o := _) rfl (fun K hK => ?_) ?_
 ·go_simp
  refine (HM0.out _).mono ?_
  rintro e w1 ⟨rfl, hb1⟩
  (try go_wp2_with fail)
  refine hko hK (by (refine ⟨?_, ?_⟩ <;> (repeat' (first | with_reducible (first | exact HL.out.1 | exact HL.out.2 | refine cell_below hb3 ?_ | refine cell_below hb1 ?_ | refine cell_below ((Below.refl _ _).alloc (Nat.le_refl _) _) ?_) | exact HL.out.1 | exact HL.out.2)))) (fun _ => ?_)
  clear hK K
  refine wpAnyH_ready (rs := [3]) (by kernel_rfl) (by simp) ?_
  refine AllReadyH.cons (o := _) rfl (fun K hK => ?_) ?_
  ·go_simp
   refine (HM1.out _).mono ?_
   rintro e w3 ⟨rfl, hb3⟩
   (try go_wp2_with fail)
   refine hko hK (by (refine ⟨?_, ?_⟩ <;> (repeat' (first | with_reducible (first | exact HL.out.1 | exact HL.out.2 | refine cell_below hb3 ?_ | refine cell_below hb1 ?_ | refine cell_below ((Below.refl _ _).alloc (Nat.le_refl _) _) ?_) | exact HL.out.1 | exact HL.out.2)))) (fun _ => ?_)
   clear hK K
   refine wpAnyH_ready (rs := [4]) (by kernel_rfl) (by simp) ?_
   refine AllReadyH.cons (o := _) rfl (fun K hK => ?_) ?_
   ·go_simp
    refine hko hK (by (refine ⟨?_, ?_⟩ <;> (repeat' (first | with_reducible (first | exact HL.out.1 | exact HL.out.2 | refine cell_below hb3 ?_ | refine cell_below hb1 ?_ | refine cell_below ((Below.refl _ _).alloc (Nat.le_refl _) _) ?_) | exact HL.out.1 | exact HL.out.2)))) (fun _ => ?_)
    clear hK K
    refine tk 5 ?_
    refine wpAnyH_done (by kernel_rfl) ?_ _
    have e1 : Below wz.heap.size wz w1 := (Below.refl _ _).drew.trans hb1
    have e3 := e1.trans (hb3.mono e1.size)
    have e4 := e3.alloc e3.size (.cells #[.int .i64 66, .int .i64 0, .int .i64 1, .int .i64 0, .int .i64 1, .int .i64 1, .int .i64 1, .int .u32 7, .string Z0, .int .i64 66, .int .i64 0, .int .i64 1, .int .i64 0, .int .i64 1, .int .i64 1, .int .i64 1, .int .u32 7, .string Z1] 34)
    have HB := Lib.hid (HBz.out.trans (e4.mono HBz.out.size))
    clear e1 e3 e4 hb1 hb3
    go_wp2_with fail
    go_ret
    exact ⟨_, rfl, HF.out w3, HB.out⟩
   exact AllReadyH.nil
  exact AllReadyH.nil
 exact AllReadyH.nil

theorem run_fieldColl (a v : Value) (W : World) : (Instr.field 55 (.agg #[a, v]) 1).run Tryz.prog W = .ok v W := by
 simp [Instr.field, part, asAgg, run_underlying Tryz.underlying55, Tryz.isAgg49]
theorem two_size : (strB (chL 97)).size = 28 := by
 rw [strB_size]
 rfl
theorem two_byte (h : 0 < (strB (chL 97)).size) : ((strB (chL 97))[0]'h).toNat = 97 := by rfl
set_option maxRecDepth 100000 in
set_option maxHeartbeats 8000000 in
theorem alive_any (w : World) : Calls Tryz.prog 22 #[] w fun e w' => e = .returned (.bool true) ∧ Below w.heap.size w w' := by
 have HT := Lib.hid (fun W => two_any W)
 have HC := Lib.hid (fun W => coll_nil W)
 have HP1 : Hid (∀ (W : World) (v : Value), FrmsAt W v [twoF 97, twoF 98] → Calls Tryz.prog 29 #[.agg #[.int .u32 7, v], .int .i64 66, .int .i64 1, .int .i64 0, .int .i64 0] W fun e w' => e = .returned (.tuple #[.string ⟨#[]⟩, .int .i64 0, .int .i64 20]) ∧ Below W.heap.size W w') := Lib.hid (fun W v hv => by
  have h := pay_any W 7 v _ 66 1 0 0 hv
  rwa [payF_first (show payAt 66 1 0 0 (twoF 97) = true by decide), payF_other (show payAt 66 1 0 0 (twoF 98) = true by decide) two_ne] at h)
 have HP2 : Hid (∀ W : World, Calls Tryz.prog 29 #[.agg #[.int .u32 0, .slice none 0 0], .int .i64 66, .int .i64 1, .int .i64 0, .int .i64 0] W fun e w' => e = .returned (.tuple #[.string ⟨#[]⟩, .int .i64 0, .int .i64 19]) ∧ Below W.heap.size W w') := Lib.hid (fun W => pay_any W 0 (.slice none 0 0) [] 66 1 0 0 ⟨none, 0, rfl, Nat.le_refl _, by omega, fun i f hf => by cases hf⟩)
 have HP3 : Hid (∀ (W : World) (v : Value), FrmsAt W v [twoF 97] → Calls Tryz.prog 29 #[.agg #[.int .u32 7, v], .int .i64 66, .int .i64 1, .int .i64 0, .int .i64 0] W fun e w' => e = .returned (.tuple #[.string (strB (chL 97)), .int .i64 1, .int .i64 0]) ∧ Below W.heap.size W w') := Lib.hid (fun W v hv => by
  have h := pay_any W 7 v _ 66 1 0 0 hv
  rwa [payF_first (show payAt 66 1 0 0 (twoF 97) = true by decide)] at h)
 obtain ⟨Z, HP3, hz28, hz0⟩ : ∃ Z : ByteArray, Hid (∀ (W : World) (v : Value), FrmsAt W v [twoF 97] → Calls Tryz.prog 29 #[.agg #[.int .u32 7, v], .int .i64 66, .int .i64 1, .int .i64 0, .int .i64 0] W fun e w' => e = .returned (.tuple #[.string Z, .int .i64 1, .int .i64 0]) ∧ Below W.heap.size W w') ∧ Z.size = 28 ∧ ∀ h : 0 < Z.size, (Z[0]'h).toNat = 97 := ⟨_, HP3, two_size, two_byte⟩
 have h0 : 0 < Z.size := by omega
 have hfl := fun W : World => run_fieldColl (.int .u32 7) (.slice none 0 0) W
 have hz97 := hz0 h0
 clear hz0
 go_enter Tryz.func22, Tryz.ntmps22
 go_wp2_with fail
 refine (HT.out _).mono ?_
 rintro e w1 ⟨g, rfl, hf1, hb1⟩
 have HF1 := Lib.hid hf1
 have HB1 := Lib.hid hb1
 clear hf1 hb1 HT
 go_wp2_with fail
 refine (HP1.out _ _ HF1.out).mono ?_
 rintro e w2 ⟨rfl, hb2⟩
 have HF2 := Lib.hid (HF1.out.below hb2)
 have HB2 := Lib.hid (HB1.out.trans (hb2.mono HB1.out.size))
 clear hb2 HP1 HF1 HB1
 go_wp2_with fail
 refine (HP2.out _).mono ?_
 rintro e w3 ⟨rfl, hb3⟩
 have HF3 := Lib.hid (HF2.out.below hb3)
 have HB3 := Lib.hid (HB2.out.trans (hb3.mono HB2.out.size))
 clear hb3 HP2 HF2 HB2
 have HF31 : Hid (FrmsAt w3 (.slice (some ⟨g, 0, none⟩) 1 2) [twoF 97]) := Lib.hid (by
  obtain ⟨A, c, e, h1, h2, h3⟩ := HF3.out
  cases e
  exact ⟨_, 2, rfl, by simp, by omega, fun i f hf => h3 i f (by
   match i, hf with
   | 0, hf => exact hf
   | i + 1, hf => cases hf)⟩)
 go_wp2_with fail
 refine (HP3.out _ _ HF31.out).mono ?_
 rintro e w4 ⟨rfl, hb4⟩
 have HB4 := Lib.hid (HB3.out.trans (hb4.mono HB3.out.size))
 clear hb4 HP3 HF3 HB3 HF31
 go_wp2_with (go_at_call 26; refine (HC.out _).mono ?_; rintro e w5 ⟨rfl, hb5⟩)
 go_ret
 exact ⟨rfl, HB4.out.trans (hb5.mono HB4.out.size)⟩
end Go.Proofs.YtnlnmfkmbpihhaaGreatDoor
