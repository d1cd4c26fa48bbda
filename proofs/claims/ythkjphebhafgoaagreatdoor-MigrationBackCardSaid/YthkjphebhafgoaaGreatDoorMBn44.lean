/-
  Joined: MbU MbV.
-/
import Derived.Test.YthkjphebhafgoaaGreatDoorMBn43
set_option linter.all false
set_option maxRecDepth 100000
set_option maxHeartbeats 64000000
namespace Go.Proofs.YthkjphebhafgoaaGreatDoor
section
open Go.RowKit
theorem when_any (w : World) (b : Bool) (e : Int) : Calls Tryz.prog 13 #[.bool b, .int .i64 e] w fun r w' => r = .returned (.func (.func 28) #[] #[.pointer (some ⟨w.heap.size, 0, none⟩), .pointer (some ⟨w.heap.size + 1, 0, none⟩)]) ∧ w' = (w.alloc (.cells #[.bool b] 4)).alloc (.cells #[.int .i64 e] 30) := by
 have hsz1 : (w.alloc (.cells #[.bool b] 4)).heap.size = w.heap.size + 1 := by simp
 go_enter Tryz.func13, Tryz.ntmps13
 go_wp2
 go_ret
 exact ⟨rfl, rfl⟩
theorem when1_any (w : World) (g h : Nat) (b : Bool) (e : Int) (hg : Blk w g 4 [.bool b]) (hh : Blk w h 30 [.int .i64 e]) : Calls Tryz.prog 28 #[.pointer (some ⟨g, 0, none⟩), .pointer (some ⟨h, 0, none⟩)] w fun r w' => r = .returned (.int .i64 (bif b then e else 0)) ∧ w' = w := by
 have c0 := hg.cell (i := 0) rfl
 have c1 := hh.cell (i := 0) rfl
 clear hg hh
 cases b with
 | true =>
  go_enter Tryz.func28, Tryz.ntmps28
  go_wp2
  go_ret
  exact ⟨rfl, rfl⟩
 | false =>
  go_enter Tryz.func28, Tryz.ntmps28
  go_wp2
  go_ret
  exact ⟨rfl, rfl⟩
structure Steps (b : Nat) (fs : List (Nat × Array Value × Int)) (I : Nat → World → Prop) (Z : Int → World → Prop) : Prop where
 at_ : ∀ i f W, fs[i]? = some f → I i W → W.cell? ⟨b, i, none⟩ = some (.func (.func f.1) #[] f.2.1)
 eg : ∀ f ∈ fs, ∀ args w, (callFunc f.1 args).run Tryz.prog w = .ok (.enter f.1 args) w
 run : ∀ i f W, fs[i]? = some f → I i W → Calls Tryz.prog f.1 f.2.1 W fun r w' => r = .returned (.int .i64 f.2.2) ∧ (f.2.2 = 0 → I (i + 1) w') ∧ (f.2.2 ≠ 0 → Z f.2.2 w')
 stop : ∀ W, I fs.length W → Z 0 W
def firstE : List Int → Int
 | [] => 0
 | e :: r => if e = 0 then firstE r else e
theorem all_any (w : World) (b : Nat) (fs : List (Nat × Array Value × Int)) (c : Nat) (hc : fs.length ≤ c) (hc2 : c ≤ 1000000) (I : Nat → World → Prop) (Z : Int → World → Prop) (hS : Steps b fs I Z) (h0 : I 0 w) :
  Calls Tryz.prog 12 #[.slice (some ⟨b, 0, none⟩) fs.length c] w fun r w' => r = .returned (.int .i64 (firstE (fs.map (·.2.2)))) ∧ Z (firstE (fs.map (·.2.2))) w' := by
 have HS := Lib.hid hS
 have H0 := Lib.hid h0
 obtain ⟨R, hR⟩ : ∃ R, firstE (fs.map (·.2.2)) = R := ⟨_, rfl⟩
 rw [hR]
 have HR := Lib.hid hR
 clear hS h0 hR
 go_enter Tryz.func12, Tryz.ntmps12
 go_wp2
 go_loopw [8] (fun i wr => ∃ k : Nat, k ≤ fs.length ∧ i = .int .i64 k ∧ firstE ((fs.drop k).map (·.2.2)) = R ∧ I k wr) (fun i _ => fs.length - (intOf i).toNat)
 case atStart => exact ⟨0, Nat.zero_le _, rfl, HR.out, H0.out⟩
 case round =>
  obtain ⟨k, hk, rfl, hr, hI⟩ := hrel
  have HI := Lib.hid hI
  have Hr := Lib.hid hr
  clear hI hr
  by_cases hlt : k < fs.length
  ·have hkI : (k : Int) < fs.length := by omega
   obtain ⟨f, hf⟩ : ∃ f, fs[k]? = some f := ⟨_, List.getElem?_eq_getElem hlt⟩
   have Hr := Lib.hid (show (if f.2.2 = 0 then firstE ((fs.drop (k + 1)).map (·.2.2)) else f.2.2) = R by rw [← Hr.out, List.drop_eq_getElem_cons hlt, List.map_cons, show fs[k] = f from Option.some.inj ((List.getElem?_eq_getElem hlt).symm.trans hf)]; rfl)
   have e0 := HS.out.at_ k f wr hf HI.out
   have HC := Lib.hid (HS.out.run k f wr hf HI.out)
   have eg := HS.out.eg f (List.mem_of_getElem? hf)
   clear hf
   obtain ⟨g, lb, e⟩ := f
   dsimp only at e0 HC eg Hr
   by_cases he : e = 0
   ·subst he
    have HNx : Hid (firstE ((fs.drop (k + 1)).map (·.2.2)) = R) := Lib.hid ((if_pos rfl).symm.trans Hr.out)
    clear Hr
    go_wp2_with fail
    refine HC.out.mono ?_
    rintro e1 w1 ⟨rfl, hI, -⟩
    have HI1 := Lib.hid (hI (by first | rfl | trivial))
    clear hI e0 eg
    go_wp2_with fail
    go_roundw
    case rel => exact ⟨k + 1, by omega, by go_num, HNx.out, HI1.out⟩
    case measure => simp [intOf]; omega
   ·have g1 : (e != 0) = true := by rw [bne, beq_eq_false_iff_ne.2 he]; rfl
    have hr : R = e := by rw [← Hr.out, if_neg he]
    subst hr
    go_wp2_with fail
    refine HC.out.mono ?_
    rintro e1 w1 ⟨rfl, -, hZ⟩
    have HZ1 := Lib.hid (hZ he)
    clear hZ e0 eg
    go_wp2_with fail
    go_ret
    exact ⟨rfl, HZ1.out⟩
  ·obtain rfl : k = fs.length := by omega
   have hkI : ¬ ((fs.length : Nat) : Int) < (fs.length : Int) := by omega
   have hr : R = 0 := by rw [← Hr.out, List.drop_length]; rfl
   subst hr
   have HZ1 := Lib.hid (HS.out.stop wr HI.out)
   go_wp2_with fail
   go_ret
   exact ⟨rfl, HZ1.out⟩
theorem migrate1_any (w : World) (g : Nat) (d s : Int) (hg : Blk w g 24 [.int .i64 d, .int .i64 s]) : Calls Tryz.prog 14 #[.pointer (some ⟨g, 0, none⟩)] w fun r w' => r = .returned (.int .i64 (layE d s)) ∧ Below w.heap.size w w' := by
 have c0 := hg.cell (i := 0) rfl
 have c1 := hg.cell (i := 1) rfl
 have HL := Lib.hid (laycheck_any w d s)
 generalize layE d s = E at *
 clear hg
 go_enter Tryz.func14, Tryz.ntmps14
 go_wp2_with fail
 refine HL.out.mono ?_
 rintro e1 w1 ⟨rfl, hb1⟩
 have HB := Lib.hid hb1
 clear hb1 c0 c1
 go_wp2_with fail
 go_ret
 exact ⟨rfl, HB.out⟩
theorem migrate2_any (w : World) (g : Nat) (a d s : Int) (v : Value) (l : List Ses) (hg : Blk w g 27 [.int .u32 a, .int .i64 d, .int .i64 s, v]) (hv : SeqAt sesS w v l) (hl : l.length ≤ 100) (hz : ∀ x ∈ l, SesS x) (hT : Tb w) : Calls Tryz.prog 16 #[.pointer (some ⟨g, 0, none⟩)] w fun r w' => r = .returned (.int .i64 (histC l)) ∧ Below w.heap.size w w' := by
 have c3 := hg.cell (i := 3) rfl
 have HL := Lib.hid (hcheck_any w v l hv hl hz hT)
 generalize histC l = E at *
 obtain ⟨A, c, rfl, _, _⟩ := hv.slice
 clear hg hv hz hT
 go_enter Tryz.func16, Tryz.ntmps16
 go_wp2_with fail
 refine HL.out.mono ?_
 rintro e1 w1 ⟨rfl, hb1⟩
 have HB := Lib.hid hb1
 clear hb1 c3
 go_wp2_with fail
 go_ret
 exact ⟨rfl, HB.out⟩
def migE (a id d s : Int) (l : List Ses) : Int := firstE [bif id == a then 8 else 0, layE d s, histC l]
theorem migrate_any (w : World) (a d s id d2 s2 : Int) (v : Value) (l : List Ses) (hv : SeqAt sesS w v l) (hl : l.length ≤ 100) (hz : ∀ x ∈ l, SesS x) (hT : Tb w) :
  Calls Tryz.prog 6 #[.agg #[.int .u32 a, .int .i64 d, .int .i64 s, v], .int .u32 id, .agg #[.int .i64 d2, .int .i64 s2]] w fun r w' =>
   (∃ u, r = .returned (.tuple #[u, .int .i64 (migE a id d2 s2 l)]) ∧ (migE a id d2 s2 l = 0 → u = .agg #[.int .u32 id, .int .i64 d2, .int .i64 s2, v]) ∧ (migE a id d2 s2 l ≠ 0 → u = .agg #[.int .u32 0, .int .i64 0, .int .i64 0, .slice none 0 0])) ∧ Below w.heap.size w w' := by
 have HV := Lib.hid hv
 obtain ⟨A, c, rfl, _, _⟩ := hv.slice
 obtain ⟨q, hq⟩ : ∃ q, (id == a) = q := ⟨_, rfl⟩
 obtain ⟨E, hE⟩ : ∃ E, migE a id d2 s2 l = E := ⟨_, rfl⟩
 rw [hE]
 unfold migE at hE
 rw [hq] at hE
 have HE := Lib.hid hE
 have HZ := Lib.hid hz
 have HT := Lib.hid hT
 clear hE hv hz hT
 obtain ⟨W1, hW1⟩ : ∃ W1, w.alloc (.cells #[.int .u32 a, .int .i64 d, .int .i64 s, .slice A l.length c] 27) = W1 := ⟨_, rfl⟩
 obtain ⟨W2, hW2⟩ : ∃ W2, W1.alloc (.cells #[.int .i64 d2, .int .i64 s2] 24) = W2 := ⟨_, rfl⟩
 obtain ⟨W3, hW3⟩ : ∃ W3, W2.alloc (.cells #[.int .u32 0, .int .i64 0, .int .i64 0, .slice none 0 0] 27) = W3 := ⟨_, rfl⟩
 have hn1 : W1.heap.size = w.heap.size + 1 := by rw [← hW1]; simp
 have hn2 : W2.heap.size = w.heap.size + 1 + 1 := by rw [← hW2, World.size_alloc, hn1]
 have hn3 : W3.heap.size = w.heap.size + 1 + 1 + 1 := by rw [← hW3, World.size_alloc, hn2]
 have hA : Blk W1 w.heap.size 27 [.int .u32 a, .int .i64 d, .int .i64 s, .slice A l.length c] := hW1 ▸ Blk.new w _ _
 have hL : Blk W2 (w.heap.size + 1) 24 [.int .i64 d2, .int .i64 s2] := by rw [← hn1, ← hW2]; exact Blk.new W1 _ _
 have hR : Blk W3 (w.heap.size + 1 + 1) 27 [.int .u32 0, .int .i64 0, .int .i64 0, .slice none 0 0] := by rw [← hn2, ← hW3]; exact Blk.new W2 _ _
 have hb1 : Below w.heap.size w W1 := hW1 ▸ (Below.refl _ w).alloc (Nat.le_refl _) _
 have hb2 : Below W1.heap.size W1 W2 := hW2 ▸ (Below.refl _ W1).alloc (Nat.le_refl _) _
 have hb3 : Below W2.heap.size W2 W3 := hW3 ▸ (Below.refl _ W2).alloc (Nat.le_refl _) _
 have HA := Lib.hid ((hA.kept hb2).kept hb3)
 have HL := Lib.hid (hL.kept hb3)
 have HR := Lib.hid hR
 have HB3 := Lib.hid ((hb1.trans (hb2.mono hb1.size)).trans (hb3.mono (Nat.le_trans hb1.size hb2.size)))
 have HN3 := Lib.hid hn3
 have hWW : ((w.alloc (.cells #[.int .u32 a, .int .i64 d, .int .i64 s, .slice A l.length c] 27)).alloc (.cells #[.int .i64 d2, .int .i64 s2] 24)).alloc (.cells #[.int .u32 0, .int .i64 0, .int .i64 0, .slice none 0 0] 27) = W3 := by rw [hW1, hW2, hW3]
 clear hA hL hR hb1 hb2 hb3 hW1 hW2 hW3 hn1 hn2 hn3
 go_enter Tryz.func6, Tryz.ntmps6
 go_upto_region 1 with fail
 clear hWW
 have a0 := HA.out.cell (i := 0) rfl
 go_wp2_with fail
 refine (when_any W3 q 8).mono ?_
 rintro e4 w4 ⟨rfl, h4⟩
 have hn5 : w4.heap.size = W3.heap.size + 1 + 1 := by rw [h4, World.size_alloc, World.size_alloc]
 have hq1 : Blk w4 W3.heap.size 4 [.bool q] := by rw [h4]; exact (Blk.new W3 _ _).alloc _
 have hq2 : Blk w4 (W3.heap.size + 1) 30 [.int .i64 8] := by
  rw [h4]
  have := Blk.new (W3.alloc (.cells #[.bool q] 4)) 30 [.int .i64 8]
  rw [World.size_alloc] at this
  exact this
 have hb4 : Below W3.heap.size W3 w4 := by rw [h4]; exact ((Below.refl _ W3).alloc (Nat.le_refl _) _).alloc ((Below.refl _ W3).alloc (Nat.le_refl _) _).size _
 clear h4
 have HF : Hid (Blk (w4.alloc (.cells #[.func (.func 28) #[] #[.pointer (some ⟨W3.heap.size, 0, none⟩), .pointer (some ⟨W3.heap.size + 1, 0, none⟩)], .func (.func 14) #[] #[.pointer (some ⟨w.heap.size + 1, 0, none⟩)], .func (.func 16) #[] #[.pointer (some ⟨w.heap.size, 0, none⟩)]] 51)) (W3.heap.size + 1 + 1) 51 [.func (.func 28) #[] #[.pointer (some ⟨W3.heap.size, 0, none⟩), .pointer (some ⟨W3.heap.size + 1, 0, none⟩)], .func (.func 14) #[] #[.pointer (some ⟨w.heap.size + 1, 0, none⟩)], .func (.func 16) #[] #[.pointer (some ⟨w.heap.size, 0, none⟩)]]) := Lib.hid (by rw [← hn5]; exact Blk.new w4 _ _)
 have hb5 := (Below.refl _ w4).alloc (Nat.le_refl _) (.cells #[.func (.func 28) #[] #[.pointer (some ⟨W3.heap.size, 0, none⟩), .pointer (some ⟨W3.heap.size + 1, 0, none⟩)], .func (.func 14) #[] #[.pointer (some ⟨w.heap.size + 1, 0, none⟩)], .func (.func 16) #[] #[.pointer (some ⟨w.heap.size, 0, none⟩)]] 51)
 obtain ⟨W5, hW5⟩ : ∃ W5, w4.alloc (.cells #[.func (.func 28) #[] #[.pointer (some ⟨W3.heap.size, 0, none⟩), .pointer (some ⟨W3.heap.size + 1, 0, none⟩)], .func (.func 14) #[] #[.pointer (some ⟨w.heap.size + 1, 0, none⟩)], .func (.func 16) #[] #[.pointer (some ⟨w.heap.size, 0, none⟩)]] 51) = W5 := ⟨_, rfl⟩
 rw [hW5] at HF hb5
 have HB35 := Lib.hid (hb4.trans (hb5.mono hb4.size))
 have HQ1 := Lib.hid (hq1.kept hb5)
 have HQ2 := Lib.hid (hq2.kept hb5)
 have HA5 := Lib.hid (HA.out.kept HB35.out)
 have HL5 := Lib.hid (HL.out.kept HB35.out)
 have HR5 := Lib.hid (HR.out.kept HB35.out)
 have HB5 := Lib.hid (HB3.out.trans (HB35.out.mono HB3.out.size))
 clear hq1 hq2 hb4 hb5 HA HL HR HB35 a0
 have HAll : Hid (Calls Tryz.prog 12 #[.slice (some ⟨W3.heap.size + 1 + 1, 0, none⟩) 3 3] W5 fun r w' => r = .returned (.int .i64 E) ∧ Below W5.heap.size W5 w') := Lib.hid (by
  have hS : Steps (W3.heap.size + 1 + 1) [(28, #[.pointer (some ⟨W3.heap.size, 0, none⟩), .pointer (some ⟨W3.heap.size + 1, 0, none⟩)], bif q then 8 else 0), (14, #[.pointer (some ⟨w.heap.size + 1, 0, none⟩)], layE d2 s2), (16, #[.pointer (some ⟨w.heap.size, 0, none⟩)], histC l)] (fun _ W => Below W5.heap.size W5 W) (fun _ W => Below W5.heap.size W5 W) := by
   refine ⟨fun i f W hf hW => ?_, fun f hf => ?_, fun i f W hf hW => ?_, fun W hW => hW⟩
   ·match i, hf with
    | 0, hf => cases hf; exact (HF.out.kept hW).cell (i := 0) rfl
    | 1, hf => cases hf; exact (HF.out.kept hW).cell (i := 1) rfl
    | 2, hf => cases hf; exact (HF.out.kept hW).cell (i := 2) rfl
   ·simp only [List.mem_cons, List.not_mem_nil, or_false] at hf
    rcases hf with rfl | rfl | rfl
    ·exact enters_of Tryz.func28 (by kernel_rfl) rfl
    ·exact enters_of Tryz.func14 (by kernel_rfl) rfl
    ·exact enters_of Tryz.func16 (by kernel_rfl) rfl
   ·match i, hf with
    | 0, hf =>
     cases hf
     refine (when1_any W _ _ q 8 (HQ1.out.kept hW) (HQ2.out.kept hW)).mono ?_
     rintro r w' ⟨rfl, rfl⟩
     exact ⟨rfl, fun _ => hW, fun _ => hW⟩
    | 1, hf =>
     cases hf
     refine (migrate1_any W _ d2 s2 (HL5.out.kept hW)).mono ?_
     rintro r w' ⟨rfl, hb⟩
     exact ⟨rfl, fun _ => hW.trans (hb.mono hW.size), fun _ => hW.trans (hb.mono hW.size)⟩
    | 2, hf =>
     cases hf
     have hB := HB5.out.trans (hW.mono HB5.out.size)
     refine (migrate2_any W _ a d s _ l (HA5.out.kept hW) (HV.out.below hB) hl HZ.out (HT.out.below hB)).mono ?_
     rintro r w' ⟨rfl, hb⟩
     exact ⟨rfl, fun _ => hW.trans (hb.mono hW.size), fun _ => hW.trans (hb.mono hW.size)⟩
  have := all_any W5 (W3.heap.size + 1 + 1) _ 3 (Nat.le_refl _) (by omega) _ _ hS (Below.refl _ _)
  rw [← HE.out]
  exact this)
 clear HF HQ1 HQ2 HT HZ HV hq
 go_wp2_with fail
 refine HAll.out.mono ?_
 rintro e6 w6 ⟨rfl, hb6⟩
 have HB6 := Lib.hid (HB5.out.trans (hb6.mono HB5.out.size))
 have HA6 := Lib.hid (HA5.out.kept hb6)
 have HL6 := Lib.hid (HL5.out.kept hb6)
 have HR6 := Lib.hid (HR5.out.kept hb6)
 clear hb6 HA5 HL5 HR5 HB5 HAll
 by_cases hE0 : E = 0
 ·subst hE0
  have a3 := HA6.out.cell (i := 3) rfl
  have l0 := HL6.out.cell (i := 0) rfl
  have l1 := HL6.out.cell (i := 1) rfl
  go_wp2_with (refine wpList_store_row rfl 27 (.tmp 6) (.tmp 26) rfl (w.heap.size + 1 + 1) #[.int .u32 id, .int .i64 d2, .int .i64 s2, .slice A l.length c] rfl rfl 27 _ HR6.out (by kernel_rfl) rfl (by simp [Value.oneCell']) ?_)
  refine bodyPost_ret (results_row_tmp rfl _ _ (w.heap.size + 1 + 1) 27 _ (0, 0) _ rfl (setRow_heap _ _ _ _ _ _ HR6.out) Tryz.underlying27 rfl (by kernel_rfl)) rfl ?_
  have hb9 := below_setRow HB6.out (show w.heap.size ≤ w.heap.size + 1 + 1 by omega) #[.int .u32 id, .int .i64 d2, .int .i64 s2, .slice A l.length c]
  first | exact ⟨rfl, hb9⟩ | exact ⟨⟨_, rfl, fun _ => rfl, fun h => absurd rfl h⟩, hb9⟩ | exact ⟨⟨_, rfl, rfl⟩, hb9⟩
 ·have g1 : (E != 0) = true := by rw [bne, beq_eq_false_iff_ne.2 hE0]; rfl
  go_wp2_with (refine wpList_store_row rfl 27 (.tmp 6) (.tmp 20) rfl (w.heap.size + 1 + 1) #[.int .u32 0, .int .i64 0, .int .i64 0, .slice none 0 0] rfl rfl 27 _ HR6.out (by kernel_rfl) rfl (by simp [Value.oneCell']) ?_)
  refine bodyPost_ret (results_row_tmp rfl _ _ (w.heap.size + 1 + 1) 27 _ (0, 0) _ rfl (setRow_heap _ _ _ _ _ _ HR6.out) Tryz.underlying27 rfl (by kernel_rfl)) rfl ?_
  exact ⟨⟨_, rfl, fun h => absurd h hE0, fun _ => rfl⟩, below_setRow HB6.out (by omega) _⟩
end
end Go.Proofs.YthkjphebhafgoaaGreatDoor
