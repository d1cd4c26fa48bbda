/-
  Joined: MbU MbV MbW.
-/
import Derived.Test.YtbccghbngaiceaaGreatDoorMMn42
set_option linter.all false
set_option maxRecDepth 100000
set_option maxHeartbeats 64000000
namespace Go.Proofs.YtbccghbngaiceaaGreatDoor
section
open Go.RowKit
theorem when_any (w : World) (b : Bool) (e : Int) : Calls Tryz.prog 14 #[.bool b, .int .i64 e] w fun r w' => r = .returned (.func (.func 31) #[] #[.pointer (some ⟨w.heap.size, 0, none⟩), .pointer (some ⟨w.heap.size + 1, 0, none⟩)]) ∧ w' = (w.alloc (.cells #[.bool b] 4)).alloc (.cells #[.int .i64 e] 30) := by
 have hsz1 : (w.alloc (.cells #[.bool b] 4)).heap.size = w.heap.size + 1 := by simp
 go_enter Tryz.func14, Tryz.ntmps14
 go_wp2
 go_ret
 exact ⟨rfl, rfl⟩
theorem when1_any (w : World) (g h : Nat) (b : Bool) (e : Int) (hg : Blk w g 4 [.bool b]) (hh : Blk w h 30 [.int .i64 e]) : Calls Tryz.prog 31 #[.pointer (some ⟨g, 0, none⟩), .pointer (some ⟨h, 0, none⟩)] w fun r w' => r = .returned (.int .i64 (bif b then e else 0)) ∧ w' = w := by
 have c0 := hg.cell (i := 0) rfl
 have c1 := hh.cell (i := 0) rfl
 clear hg hh
 cases b with
 | true =>
  go_enter Tryz.func31, Tryz.ntmps31
  go_wp2
  go_ret
  exact ⟨rfl, rfl⟩
 | false =>
  go_enter Tryz.func31, Tryz.ntmps31
  go_wp2
  go_ret
  exact ⟨rfl, rfl⟩
structure Steps (b : Nat) (fs : List (Nat × Array Value × Int)) (I : Nat → World → Prop) (Z : Int → World → Prop) : Prop where
 at_ : ∀ i f W, fs[i]? = some f → I i W → W.cell? ⟨b, i, none⟩ = some (.func (.func f.1) #[] f.2.1)
 eg : ∀ f ∈ fs, ∀ args w, (callFunc f.1 args).run Tryz.prog w = .ok (.enter f.1 args) w
 run : ∀ i f W, fs[i]? = some f → I i W → Calls Tryz.prog f.1 f.2.1 W fun r w' => r = .returned (.int .i64 f.2.2) ∧ (f.2.2 = 0 → I (i + 1) w') ∧ (f.2.2 ≠ 0 → Z f.2.2 w')
 stop : ∀ W, I fs.length W → Z 0 W
def firstE : List Int → Int
 | [] => 0
 | e :: r => if e = 0 then firstE r else e
theorem all_any (w : World) (b : Nat) (fs : List (Nat × Array Value × Int)) (c : Nat) (hc : fs.length ≤ c) (hc2 : c ≤ 1000000) (I : Nat → World → Prop) (Z : Int → World → Prop) (hS : Steps b fs I Z) (h0 : I 0 w) :
  Calls Tryz.prog 13 #[.slice (some ⟨b, 0, none⟩) fs.length c] w fun r w' => r = .returned (.int .i64 (firstE (fs.map (·.2.2)))) ∧ Z (firstE (fs.map (·.2.2))) w' := by
 have HS := Lib.hid hS
 have H0 := Lib.hid h0
 obtain ⟨R, hR⟩ : ∃ R, firstE (fs.map (·.2.2)) = R := ⟨_, rfl⟩
 rw [hR]
 have HR := Lib.hid hR
 clear hS h0 hR
 go_enter Tryz.func13, Tryz.ntmps13
 go_wp2
 go_loopw [8] (fun i wr => ∃ k : Nat, k ≤ fs.length ∧ i = .int .i64 k ∧ firstE ((fs.drop k).map (·.2.2)) = R ∧ I k wr) (fun i _ => fs.length - (intOf i).toNat)
 case atStart => exact ⟨0, Nat.zero_le _, rfl, HR.out, H0.out⟩
 case round =>
  obtain ⟨k, hk, rfl, hr, hI⟩ := hrel
  have HI := Lib.hid hI
  have Hr := Lib.hid hr
  clear hI hr
  by_cases hlt : k < fs.length
  ·have hkI : (k : Int) < fs.length := by omega
   obtain ⟨f, hf⟩ : ∃ f, fs[k]? = some f := ⟨_, List.getElem?_eq_getElem hlt⟩
   have Hr := Lib.hid (show (if f.2.2 = 0 then firstE ((fs.drop (k + 1)).map (·.2.2)) else f.2.2) = R by rw [← Hr.out, List.drop_eq_getElem_cons hlt, List.map_cons, show fs[k] = f from Option.some.inj ((List.getElem?_eq_getElem hlt).symm.trans hf)]; rfl)
   have e0 := HS.out.at_ k f wr hf HI.out
   have HC := Lib.hid (HS.out.run k f wr hf HI.out)
   have eg := HS.out.eg f (List.mem_of_getElem? hf)
   clear hf
   obtain ⟨g, lb, e⟩ := f
   dsimp only at e0 HC eg Hr
   by_cases he : e = 0
   ·subst he
    have HNx : Hid (firstE ((fs.drop (k + 1)).map (·.2.2)) = R) := Lib.hid ((if_pos rfl).symm.trans Hr.out)
    clear Hr
    go_wp2_with fail
    refine HC.out.mono ?_
    rintro e1 w1 ⟨rfl, hI, -⟩
    have HI1 := Lib.hid (hI (by first | rfl | trivial))
    clear hI e0 eg
    go_wp2_with fail
    go_roundw
    case rel => exact ⟨k + 1, by omega, by go_num, HNx.out, HI1.out⟩
    case measure => simp [intOf]; omega
   ·have g1 : (e != 0) = true := by rw [bne, beq_eq_false_iff_ne.2 he]; rfl
    have hr : R = e := by rw [← Hr.out, if_neg he]
    subst hr
    go_wp2_with fail
    refine HC.out.mono ?_
    rintro e1 w1 ⟨rfl, -, hZ⟩
    have HZ1 := Lib.hid (hZ he)
    clear hZ e0 eg
    go_wp2_with fail
    go_ret
    exact ⟨rfl, HZ1.out⟩
  ·obtain rfl : k = fs.length := by omega
   have hkI : ¬ ((fs.length : Nat) : Int) < (fs.length : Int) := by omega
   have hr : R = 0 := by rw [← Hr.out, List.drop_length]; rfl
   subst hr
   have HZ1 := Lib.hid (HS.out.stop wr HI.out)
   go_wp2_with fail
   go_ret
   exact ⟨rfl, HZ1.out⟩
theorem migrate1_any (w : World) (g : Nat) (d s : Int) (hg : Blk w g 25 [.int .i64 d, .int .i64 s]) : Calls Tryz.prog 15 #[.pointer (some ⟨g, 0, none⟩)] w fun r w' => r = .returned (.int .i64 (layE d s)) ∧ Below w.heap.size w w' := by
 have c0 := hg.cell (i := 0) rfl
 have c1 := hg.cell (i := 1) rfl
 have HL := Lib.hid (laycheck_any w d s)
 generalize layE d s = E at *
 clear hg
 go_enter Tryz.func15, Tryz.ntmps15
 go_wp2_with fail
 refine HL.out.mono ?_
 rintro e1 w1 ⟨rfl, hb1⟩
 have HB := Lib.hid hb1
 clear hb1 c0 c1
 go_wp2_with fail
 go_ret
 exact ⟨rfl, HB.out⟩
theorem migrate2_any (w : World) (g : Nat) (a d s : Int) (v : Value) (l : List Ses) (hg : Blk w g 29 [.int .u32 a, .int .i64 d, .int .i64 s, v]) (hv : SeqAt sesS w v l) (hl : l.length ≤ 100) (hz : ∀ x ∈ l, SesS x) (hT : Tb w) : Calls Tryz.prog 17 #[.pointer (some ⟨g, 0, none⟩)] w fun r w' => r = .returned (.int .i64 (histC l)) ∧ Below w.heap.size w w' := by
 have c3 := hg.cell (i := 3) rfl
 have HL := Lib.hid (hcheck_any w v l hv hl hz hT)
 generalize histC l = E at *
 obtain ⟨A, c, rfl, _, _⟩ := hv.slice
 clear hg hv hz hT
 go_enter Tryz.func17, Tryz.ntmps17
 go_wp2_with fail
 refine HL.out.mono ?_
 rintro e1 w1 ⟨rfl, hb1⟩
 have HB := Lib.hid hb1
 clear hb1 c3
 go_wp2_with fail
 go_ret
 exact ⟨rfl, HB.out⟩
def migE (a id d s : Int) (l : List Ses) : Int := firstE [bif id == a then 8 else 0, layE d s, histC l]
theorem migrate_any (w : World) (a d s id d2 s2 : Int) (v : Value) (l : List Ses) (hv : SeqAt sesS w v l) (hl : l.length ≤ 100) (hz : ∀ x ∈ l, SesS x) (hT : Tb w) :
  Calls Tryz.prog 6 #[.agg #[.int .u32 a, .int .i64 d, .int .i64 s, v], .int .u32 id, .agg #[.int .i64 d2, .int .i64 s2]] w fun r w' =>
   (∃ u, r = .returned (.tuple #[u, .int .i64 (migE a id d2 s2 l)]) ∧ (migE a id d2 s2 l = 0 → u = .agg #[.int .u32 id, .int .i64 d2, .int .i64 s2, v]) ∧ (migE a id d2 s2 l ≠ 0 → u = .agg #[.int .u32 0, .int .i64 0, .int .i64 0, .slice none 0 0])) ∧ Below w.heap.size w w' := by
 have HV := Lib.hid hv
 obtain ⟨A, c, rfl, _, _⟩ := hv.slice
 obtain ⟨q, hq⟩ : ∃ q, (id == a) = q := ⟨_, rfl⟩
 obtain ⟨E, hE⟩ : ∃ E, migE a id d2 s2 l = E := ⟨_, rfl⟩
 rw [hE]
 unfold migE at hE
 rw [hq] at hE
 have HE := Lib.hid hE
 have HZ := Lib.hid hz
 have HT := Lib.hid hT
 clear hE hv hz hT
 obtain ⟨W1, hW1⟩ : ∃ W1, w.alloc (.cells #[.int .u32 a, .int .i64 d, .int .i64 s, .slice A l.length c] 29) = W1 := ⟨_, rfl⟩
 obtain ⟨W2, hW2⟩ : ∃ W2, W1.alloc (.cells #[.int .i64 d2, .int .i64 s2] 25) = W2 := ⟨_, rfl⟩
 obtain ⟨W3, hW3⟩ : ∃ W3, W2.alloc (.cells #[.int .u32 0, .int .i64 0, .int .i64 0, .slice none 0 0] 29) = W3 := ⟨_, rfl⟩
 have hn1 : W1.heap.size = w.heap.size + 1 := by rw [← hW1]; simp
 have hn2 : W2.heap.size = w.heap.size + 1 + 1 := by rw [← hW2, World.size_alloc, hn1]
 have hn3 : W3.heap.size = w.heap.size + 1 + 1 + 1 := by rw [← hW3, World.size_alloc, hn2]
 have hA : Blk W1 w.heap.size 29 [.int .u32 a, .int .i64 d, .int .i64 s, .slice A l.length c] := hW1 ▸ Blk.new w _ _
 have hL : Blk W2 (w.heap.size + 1) 25 [.int .i64 d2, .int .i64 s2] := by rw [← hn1, ← hW2]; exact Blk.new W1 _ _
 have hR : Blk W3 (w.heap.size + 1 + 1) 29 [.int .u32 0, .int .i64 0, .int .i64 0, .slice none 0 0] := by rw [← hn2, ← hW3]; exact Blk.new W2 _ _
 have hb1 : Below w.heap.size w W1 := hW1 ▸ (Below.refl _ w).alloc (Nat.le_refl _) _
 have hb2 : Below W1.heap.size W1 W2 := hW2 ▸ (Below.refl _ W1).alloc (Nat.le_refl _) _
 have hb3 : Below W2.heap.size W2 W3 := hW3 ▸ (Below.refl _ W2).alloc (Nat.le_refl _) _
 have HA := Lib.hid ((hA.kept hb2).kept hb3)
 have HL := Lib.hid (hL.kept hb3)
 have HR := Lib.hid hR
 have HB3 := Lib.hid ((hb1.trans (hb2.mono hb1.size)).trans (hb3.mono (Nat.le_trans hb1.size hb2.size)))
 have HN3 := Lib.hid hn3
 have hWW : ((w.alloc (.cells #[.int .u32 a, .int .i64 d, .int .i64 s, .slice A l.length c] 29)).alloc (.cells #[.int .i64 d2, .int .i64 s2] 25)).alloc (.cells #[.int .u32 0, .int .i64 0, .int .i64 0, .slice none 0 0] 29) = W3 := by rw [hW1, hW2, hW3]
 clear hA hL hR hb1 hb2 hb3 hW1 hW2 hW3 hn1 hn2 hn3
 go_enter Tryz.func6, Tryz.ntmps6
 go_upto_region 1 with fail
 clear hWW
 have a0 := HA.out.cell (i := 0) rfl
 go_wp2_with fail
 refine (when_any W3 q 8).mono ?_
 rintro e4 w4 ⟨rfl, h4⟩
 have hn5 : w4.heap.size = W3.heap.size + 1 + 1 := by rw [h4, World.size_alloc, World.size_alloc]
 have hq1 : Blk w4 W3.heap.size 4 [.bool q] := by rw [h4]; exact (Blk.new W3 _ _).alloc _
 have hq2 : Blk w4 (W3.heap.size + 1) 30 [.int .i64 8] := by
  rw [h4]
  have := Blk.new (W3.alloc (.cells #[.bool q] 4)) 30 [.int .i64 8]
  rw [World.size_alloc] at this
  exact this
 have hb4 : Below W3.heap.size W3 w4 := by rw [h4]; exact ((Below.refl _ W3).alloc (Nat.le_refl _) _).alloc ((Below.refl _ W3).alloc (Nat.le_refl _) _).size _
 clear h4
 have HF : Hid (Blk (w4.alloc (.cells #[.func (.func 31) #[] #[.pointer (some ⟨W3.heap.size, 0, none⟩), .pointer (some ⟨W3.heap.size + 1, 0, none⟩)], .func (.func 15) #[] #[.pointer (some ⟨w.heap.size + 1, 0, none⟩)], .func (.func 17) #[] #[.pointer (some ⟨w.heap.size, 0, none⟩)]] 51)) (W3.heap.size + 1 + 1) 51 [.func (.func 31) #[] #[.pointer (some ⟨W3.heap.size, 0, none⟩), .pointer (some ⟨W3.heap.size + 1, 0, none⟩)], .func (.func 15) #[] #[.pointer (some ⟨w.heap.size + 1, 0, none⟩)], .func (.func 17) #[] #[.pointer (some ⟨w.heap.size, 0, none⟩)]]) := Lib.hid (by rw [← hn5]; exact Blk.new w4 _ _)
 have hb5 := (Below.refl _ w4).alloc (Nat.le_refl _) (.cells #[.func (.func 31) #[] #[.pointer (some ⟨W3.heap.size, 0, none⟩), .pointer (some ⟨W3.heap.size + 1, 0, none⟩)], .func (.func 15) #[] #[.pointer (some ⟨w.heap.size + 1, 0, none⟩)], .func (.func 17) #[] #[.pointer (some ⟨w.heap.size, 0, none⟩)]] 51)
 obtain ⟨W5, hW5⟩ : ∃ W5, w4.alloc (.cells #[.func (.func 31) #[] #[.pointer (some ⟨W3.heap.size, 0, none⟩), .pointer (some ⟨W3.heap.size + 1, 0, none⟩)], .func (.func 15) #[] #[.pointer (some ⟨w.heap.size + 1, 0, none⟩)], .func (.func 17) #[] #[.pointer (some ⟨w.heap.size, 0, none⟩)]] 51) = W5 := ⟨_, rfl⟩
 rw [hW5] at HF hb5
 have HB35 := Lib.hid (hb4.trans (hb5.mono hb4.size))
 have HQ1 := Lib.hid (hq1.kept hb5)
 have HQ2 := Lib.hid (hq2.kept hb5)
 have HA5 := Lib.hid (HA.out.kept HB35.out)
 have HL5 := Lib.hid (HL.out.kept HB35.out)
 have HR5 := Lib.hid (HR.out.kept HB35.out)
 have HB5 := Lib.hid (HB3.out.trans (HB35.out.mono HB3.out.size))
 clear hq1 hq2 hb4 hb5 HA HL HR HB35 a0
 have HAll : Hid (Calls Tryz.prog 13 #[.slice (some ⟨W3.heap.size + 1 + 1, 0, none⟩) 3 3] W5 fun r w' => r = .returned (.int .i64 E) ∧ Below W5.heap.size W5 w') := Lib.hid (by
  have hS : Steps (W3.heap.size + 1 + 1) [(31, #[.pointer (some ⟨W3.heap.size, 0, none⟩), .pointer (some ⟨W3.heap.size + 1, 0, none⟩)], bif q then 8 else 0), (15, #[.pointer (some ⟨w.heap.size + 1, 0, none⟩)], layE d2 s2), (17, #[.pointer (some ⟨w.heap.size, 0, none⟩)], histC l)] (fun _ W => Below W5.heap.size W5 W) (fun _ W => Below W5.heap.size W5 W) := by
   refine ⟨fun i f W hf hW => ?_, fun f hf => ?_, fun i f W hf hW => ?_, fun W hW => hW⟩
   ·match i, hf with
    | 0, hf => cases hf; exact (HF.out.kept hW).cell (i := 0) rfl
    | 1, hf => cases hf; exact (HF.out.kept hW).cell (i := 1) rfl
    | 2, hf => cases hf; exact (HF.out.kept hW).cell (i := 2) rfl
   ·simp only [List.mem_cons, List.not_mem_nil, or_false] at hf
    rcases hf with rfl | rfl | rfl
    ·exact enters_of Tryz.func31 (by kernel_rfl) rfl
    ·exact enters_of Tryz.func15 (by kernel_rfl) rfl
    ·exact enters_of Tryz.func17 (by kernel_rfl) rfl
   ·match i, hf with
    | 0, hf =>
     cases hf
     refine (when1_any W _ _ q 8 (HQ1.out.kept hW) (HQ2.out.kept hW)).mono ?_
     rintro r w' ⟨rfl, rfl⟩
     exact ⟨rfl, fun _ => hW, fun _ => hW⟩
    | 1, hf =>
     cases hf
     refine (migrate1_any W _ d2 s2 (HL5.out.kept hW)).mono ?_
     rintro r w' ⟨rfl, hb⟩
     exact ⟨rfl, fun _ => hW.trans (hb.mono hW.size), fun _ => hW.trans (hb.mono hW.size)⟩
    | 2, hf =>
     cases hf
     have hB := HB5.out.trans (hW.mono HB5.out.size)
     refine (migrate2_any W _ a d s _ l (HA5.out.kept hW) (HV.out.below hB) hl HZ.out (HT.out.below hB)).mono ?_
     rintro r w' ⟨rfl, hb⟩
     exact ⟨rfl, fun _ => hW.trans (hb.mono hW.size), fun _ => hW.trans (hb.mono hW.size)⟩
  have := all_any W5 (W3.heap.size + 1 + 1) _ 3 (Nat.le_refl _) (by omega) _ _ hS (Below.refl _ _)
  rw [← HE.out]
  exact this)
 clear HF HQ1 HQ2 HT HZ HV hq
 go_wp2_with fail
 refine HAll.out.mono ?_
 rintro e6 w6 ⟨rfl, hb6⟩
 have HB6 := Lib.hid (HB5.out.trans (hb6.mono HB5.out.size))
 have HA6 := Lib.hid (HA5.out.kept hb6)
 have HL6 := Lib.hid (HL5.out.kept hb6)
 have HR6 := Lib.hid (HR5.out.kept hb6)
 clear hb6 HA5 HL5 HR5 HB5 HAll
 by_cases hE0 : E = 0
 ·subst hE0
  have a3 := HA6.out.cell (i := 3) rfl
  have l0 := HL6.out.cell (i := 0) rfl
  have l1 := HL6.out.cell (i := 1) rfl
  go_wp2_with (refine wpList_store_row rfl 29 (.tmp 6) (.tmp 26) rfl (w.heap.size + 1 + 1) #[.int .u32 id, .int .i64 d2, .int .i64 s2, .slice A l.length c] rfl rfl 29 _ HR6.out (by kernel_rfl) rfl (by simp [Value.oneCell']) ?_)
  refine bodyPost_ret (results_row_tmp rfl _ _ (w.heap.size + 1 + 1) 29 _ (0, 0) _ rfl (setRow_heap _ _ _ _ _ _ HR6.out) Tryz.underlying29 rfl (by kernel_rfl)) rfl ?_
  have hb9 := below_setRow HB6.out (show w.heap.size ≤ w.heap.size + 1 + 1 by omega) #[.int .u32 id, .int .i64 d2, .int .i64 s2, .slice A l.length c]
  first | exact ⟨rfl, hb9⟩ | exact ⟨⟨_, rfl, fun _ => rfl, fun h => absurd rfl h⟩, hb9⟩ | exact ⟨⟨_, rfl, rfl⟩, hb9⟩
 ·have g1 : (E != 0) = true := by rw [bne, beq_eq_false_iff_ne.2 hE0]; rfl
  go_wp2_with (refine wpList_store_row rfl 29 (.tmp 6) (.tmp 20) rfl (w.heap.size + 1 + 1) #[.int .u32 0, .int .i64 0, .int .i64 0, .slice none 0 0] rfl rfl 29 _ HR6.out (by kernel_rfl) rfl (by simp [Value.oneCell']) ?_)
  refine bodyPost_ret (results_row_tmp rfl _ _ (w.heap.size + 1 + 1) 29 _ (0, 0) _ rfl (setRow_heap _ _ _ _ _ _ HR6.out) Tryz.underlying29 rfl (by kernel_rfl)) rfl ?_
  exact ⟨⟨_, rfl, fun h => absurd h hE0, fun _ => rfl⟩, below_setRow HB6.out (by omega) _⟩
theorem scpiecesN (w : World) : Calls Tryz.prog 70 #[.slice none 0 0] w fun e w' => e = .returned (.slice none 0 0) ∧ Below w.heap.size w w' := by
 have HB := Lib.hid ((Below.refl w.heap.size w).alloc (Nat.le_refl _) (.cells #[.slice none 0 0] 139))
 have hc := (Blk.new w 139 [.slice none 0 0]).cell (i := 0) rfl
 change (w.alloc (.cells #[.slice none 0 0] 139)).cell? _ = _ at hc
 go_enter Tryz.func70, Tryz.ntmps70
 go_wp2
 generalize w.alloc (.cells #[.slice none 0 0] 139) = wz at *
 go_loopw [9] (fun x wr => x = .int .i64 0 ∧ wr = wz) (fun _ _ => 0)
 case atStart => exact ⟨rfl, rfl⟩
 case round =>
  obtain ⟨rfl, rfl⟩ := hrel
  go_wp2
  go_ret
  exact ⟨rfl, HB.out⟩
theorem compN (w : World) : Calls Tryz.prog 74 #[.slice none 0 0] w fun e w' => e = .returned (.slice none 0 0) ∧ w = w' := by
 go_enter Tryz.func74, Tryz.ntmps74
 go_wp2
 go_ret
 exact ⟨rfl, rfl⟩
theorem len64N (w : World) : Calls Tryz.prog 224 #[.int .u64 0] w fun e w' => e = .returned (.int .i64 0) ∧ w = w' := by
 go_enter Tryz.func224, Tryz.ntmps224
 go_wp2
 go_ret
 exact ⟨ret_num (by kernel_rfl), rfl⟩
theorem lenN (w : World) : Calls Tryz.prog 144 #[.int .u64 0] w fun e w' => e = .returned (.int .i64 0) ∧ w = w' := by
 have H := Lib.hid (len64N w)
 go_enter Tryz.func144, Tryz.ntmps144
 go_wp2_with (go_at_call 224; refine H.out.mono ?_; rintro e w' ⟨rfl, rfl⟩)
 go_ret
 exact ⟨rfl, rfl⟩
theorem insN (w : World) : Calls Tryz.prog 227 #[.slice none 0 0, .int .i64 0, .int .i64 0] w fun e w' => e = .returned (.tuple #[]) ∧ w = w' := by
 go_enter Tryz.func227, Tryz.ntmps227
 go_wp2
 refine wp_loop_rounds 1 ?_
 rw [rounds_succ]
 go_wp2
 go_end0
 exact ⟨rfl, rfl⟩
theorem insFN (w : World) (f : Value) : Calls Tryz.prog 215 #[.slice none 0 0, .int .i64 0, .int .i64 0, f] w fun e w' => e = .returned (.tuple #[]) ∧ w = w' := by
 go_enter Tryz.func215, Tryz.ntmps215
 go_wp2
 refine wp_loop_rounds 1 ?_
 rw [rounds_succ]
 go_wp2
 go_end0
 exact ⟨rfl, rfl⟩
theorem pdqN (w : World) : Calls Tryz.prog 148 #[.slice none 0 0, .int .i64 0, .int .i64 0, .int .i64 0] w fun e w' => e = .returned (.tuple #[]) ∧ w = w' := by
 have H := Lib.hid (insN w)
 go_enter Tryz.func148, Tryz.ntmps148
 go_wp2
 refine wp_loop_rounds 1 ?_
 rw [rounds_succ]
 go_wp2_with (go_at_call 227; refine H.out.mono ?_; rintro e w' ⟨rfl, rfl⟩)
 refine bodyPost_ret (results_none rfl _ _ _) rfl ?_
 exact ⟨rfl, rfl⟩
theorem pdqFN (w : World) (f : Value) : Calls Tryz.prog 143 #[.slice none 0 0, .int .i64 0, .int .i64 0, .int .i64 0, f] w fun e w' => e = .returned (.tuple #[]) ∧ w = w' := by
 have H := Lib.hid (insFN w f)
 go_enter Tryz.func143, Tryz.ntmps143
 go_wp2
 refine wp_loop_rounds 1 ?_
 rw [rounds_succ]
 go_wp2_with (go_at_call 215; refine H.out.mono ?_; rintro e w' ⟨rfl, rfl⟩)
 refine bodyPost_ret (results_none rfl _ _ _) rfl ?_
 exact ⟨rfl, rfl⟩
theorem sortN (w : World) : Calls Tryz.prog 73 #[.slice none 0 0] w fun e w' => e = .returned (.tuple #[]) ∧ w = w' := by
 have H := Lib.hid (lenN w)
 have H2 := Lib.hid (pdqN w)
 go_enter Tryz.func73, Tryz.ntmps73
 go_wp2_with (first | (go_at_call 144; refine H.out.mono ?_; rintro e w' ⟨rfl, rfl⟩) | (go_at_call 148; refine H2.out.mono ?_; rintro e w' ⟨rfl, rfl⟩))
 go_end0
 exact ⟨rfl, rfl⟩
theorem sortFN (w : World) (f : Value) : Calls Tryz.prog 71 #[.slice none 0 0, f] w fun e w' => e = .returned (.tuple #[]) ∧ w = w' := by
 have H := Lib.hid (lenN w)
 have H2 := Lib.hid (pdqFN w f)
 go_enter Tryz.func71, Tryz.ntmps71
 go_wp2_with (first | (go_at_call 144; refine H.out.mono ?_; rintro e w' ⟨rfl, rfl⟩) | (go_at_call 143; refine H2.out.mono ?_; rintro e w' ⟨rfl, rfl⟩))
 go_end0
 exact ⟨rfl, rfl⟩
theorem collN (w : World) (a : Int) : Calls Tryz.prog 38 #[.slice none 0 0, .int .u32 a] w fun e w' => e = .returned (.agg #[.int .u32 a, .slice none 0 0]) ∧ Below w.heap.size w w' := by
 have HP := Lib.hid (fun W => scpiecesN W)
 have HS := Lib.hid (fun W f => sortFN W f)
 have hmm := @run_makeMap Tryz.prog
 have hb1 := (((Below.refl w.heap.size w).alloc (Nat.le_refl _) (.cells #[.int .u32 0, .slice none 0 0] 84)).alloc (by simp) (.map #[] 0)).alloc (by simp; omega) (.cells #[.int .u32 a, .slice none 0 0] 84)
 have HB1 := Lib.hid hb1
 have h1 := (((Blk.new w 84 [.int .u32 0, .slice none 0 0]).alloc (.map #[] 0)).alloc (.cells #[.int .u32 a, .slice none 0 0] 84))
 have H1 := Lib.hid h1
 have h2 := Blk.new ((w.alloc (.cells #[.int .u32 0, .slice none 0 0] 84)).alloc (.map #[] 0)) 84 [.int .u32 a, .slice none 0 0]
 rw [show ((w.alloc (.cells #[.int .u32 0, .slice none 0 0] 84)).alloc (.map #[] 0)).heap.size = w.heap.size + 1 + 1 by simp] at h2
 have H2 := Lib.hid h2
 change Hid (Blk (((w.alloc (.cells #[.int .u32 0, .slice none 0 0] 84)).alloc (.map #[] 0)).alloc (.cells #[.int .u32 a, .slice none 0 0] 84)) _ _ _) at H2
 change Hid (Blk (((w.alloc (.cells #[.int .u32 0, .slice none 0 0] 84)).alloc (.map #[] 0)).alloc (.cells #[.int .u32 a, .slice none 0 0] 84)) _ _ _) at H1
 clear hb1 h1 h2
 go_enter Tryz.func38, Tryz.ntmps38
 go_upto_region 3 with fail
 clear hmm
 generalize ((w.alloc (.cells #[.int .u32 0, .slice none 0 0] 84)).alloc (.map #[] 0)).alloc (.cells #[.int .u32 a, .slice none 0 0] 84) = wz at *
 go_wp2_with fail
 refine (HP.out _).mono ?_
 rintro e w1 ⟨rfl, hb1⟩
 have H11 := Lib.hid (H1.out.kept hb1)
 have H21 := Lib.hid (H2.out.kept hb1)
 have HB2 := Lib.hid (HB1.out.trans (hb1.mono HB1.out.size))
 clear hb1 H1 H2 HB1
 go_wp2_with fail
 go_loopw [15] (fun x wr => x = .int .i64 0 ∧ wr = w1) (fun _ _ => 0)
 case atStart => exact ⟨rfl, rfl⟩
 case round =>
  obtain ⟨rfl, rfl⟩ := hrel
  have c1 := H21.out.cell (i := 1) rfl
  have c0 := H21.out.cell (i := 0) rfl
  go_wp2_with fail
  refine (HS.out _ _).mono ?_
  rintro e w2 ⟨rfl, rfl⟩
  go_wp2_with (refine wpList_store_row rfl 84 (.tmp 4) (.tmp 45) rfl w.heap.size #[.int .u32 a, .slice none 0 0] rfl rfl 84 _ H11.out (by kernel_rfl) rfl (by simp [Value.oneCell']) ?_)
  refine bodyPost_ret (results_cell_row rfl _ _ w.heap.size 84 _ (0, 0) _ rfl (setRow_heap _ _ _ _ _ _ H11.out) Tryz.underlying84 rfl (by kernel_rfl)) rfl ?_
  exact ⟨rfl, below_setRow HB2.out (Nat.le_refl _) _⟩
theorem sessN (w : World) (a : Int) : Calls Tryz.prog 39 #[.agg #[.int .u32 a, .slice none 0 0]] w fun e w' => e = .returned (.slice none 0 0) ∧ Below w.heap.size w w' := by
 have HB := Lib.hid ((Below.refl w.heap.size w).alloc (Nat.le_refl _) (.cells #[.int .u32 a, .slice none 0 0] 84))
 have hc := (Blk.new w 84 [.int .u32 a, .slice none 0 0]).cell (i := 1) rfl
 change (w.alloc (.cells #[.int .u32 a, .slice none 0 0] 84)).cell? _ = _ at hc
 have H1 := Lib.hid (fun W => sortN W)
 have H2 := Lib.hid (fun W => compN W)
 go_enter Tryz.func39, Tryz.ntmps39
 go_wp2
 generalize w.alloc (.cells #[.int .u32 a, .slice none 0 0] 84) = wz at *
 go_loopw [3, 9] (fun y x wr => y = .slice none 0 0 ∧ x = .int .i64 0 ∧ wr = wz) (fun _ _ _ => 0)
 case atStart => exact ⟨rfl, rfl, rfl⟩
 case round =>
  obtain ⟨rfl, rfl, rfl⟩ := hrel
  go_wp2_with (first | (go_at_call 73; refine (H1.out _).mono ?_; rintro e w' ⟨rfl, rfl⟩) | (go_at_call 74; refine (H2.out _).mono ?_; rintro e w' ⟨rfl, rfl⟩))
  go_ret
  exact ⟨rfl, HB.out⟩
theorem readN (w : World) (a : Int) (r : ByteArray) : Calls Tryz.prog 23 #[.slice none 0 0, .agg #[.int .u32 a, .string r]] w fun e w' => e = .returned (.agg #[.slice none 0 0, .slice none 0 0]) ∧ Below w.heap.size w w' := by
 have HC := Lib.hid (fun W => collN W a)
 have HS := Lib.hid (fun W => sessN W a)
 have hb1 := (Below.refl w.heap.size w).alloc (Nat.le_refl _) (.cells #[.int .u32 a, .string r] 39)
 have HB := Lib.hid (hb1.alloc hb1.size (.cells #[.slice none 0 0, .slice none 0 0] 59))
 have hK := (Blk.new w 39 [.int .u32 a, .string r]).alloc (.cells #[.slice none 0 0, .slice none 0 0] 59)
 change Blk ((w.alloc (.cells #[.int .u32 a, .string r] 39)).alloc (.cells #[.slice none 0 0, .slice none 0 0] 59)) _ _ _ at hK
 have hR := Blk.new (w.alloc (.cells #[.int .u32 a, .string r] 39)) 59 [.slice none 0 0, .slice none 0 0]
 change Blk ((w.alloc (.cells #[.int .u32 a, .string r] 39)).alloc (.cells #[.slice none 0 0, .slice none 0 0] 59)) _ _ _ at hR
 rw [World.size_alloc] at hR
 have HR := Lib.hid hR
 have k0 := hK.cell (i := 0) rfl
 clear hb1 hK hR
 go_enter Tryz.func23, Tryz.ntmps23
 go_upto_region 1 with fail
 generalize (w.alloc (.cells #[.int .u32 a, .string r] 39)).alloc (.cells #[.slice none 0 0, .slice none 0 0] 59) = wa at *
 go_wp2_with fail
 refine (HC.out _).mono ?_
 rintro e w1 ⟨rfl, hb⟩
 have HR1 := Lib.hid (HR.out.kept hb)
 have HB1 := Lib.hid (HB.out.trans (hb.mono HB.out.size))
 clear hb k0 HR HB
 have hb1 := (Below.refl w1.heap.size w1).alloc (Nat.le_refl _) (.cells #[.int .u32 a, .slice none 0 0] 84)
 have hb2 := hb1.alloc hb1.size (.cells #[.slice none 0 0, .slice none 0 0] 59)
 have hC := (Blk.new w1 84 [.int .u32 a, .slice none 0 0]).alloc (.cells #[.slice none 0 0, .slice none 0 0] 59)
 change Blk ((w1.alloc (.cells #[.int .u32 a, .slice none 0 0] 84)).alloc (.cells #[.slice none 0 0, .slice none 0 0] 59)) _ _ _ at hC
 have hD := Blk.new (w1.alloc (.cells #[.int .u32 a, .slice none 0 0] 84)) 59 [.slice none 0 0, .slice none 0 0]
 change Blk ((w1.alloc (.cells #[.int .u32 a, .slice none 0 0] 84)).alloc (.cells #[.slice none 0 0, .slice none 0 0] 59)) _ _ _ at hD
 rw [World.size_alloc] at hD
 have HR2 := Lib.hid (HR1.out.kept hb2)
 have HB2 := Lib.hid (HB1.out.trans (hb2.mono HB1.out.size))
 have HD := Lib.hid hD
 have k0 := hC.cell (i := 0) rfl
 have k1 := hC.cell (i := 1) rfl
 clear hb1 hb2 hC hD HR1 HB1
 go_upto_region 3 with fail
 generalize (w1.alloc (.cells #[.int .u32 a, .slice none 0 0] 84)).alloc (.cells #[.slice none 0 0, .slice none 0 0] 59) = wb at *
 go_wp2_with fail
 refine (HS.out _).mono ?_
 rintro e w2 ⟨rfl, hb⟩
 have HR3 := Lib.hid (HR2.out.kept hb)
 have HB3 := Lib.hid (HB2.out.trans (hb.mono HB2.out.size))
 have HD3 := Lib.hid (HD.out.kept hb)
 clear hb k0 k1 HR2 HB2 HD
 go_wp2_with fail
 go_loopw [23] (fun x wr => x = .int .i64 0 ∧ wr = w2) (fun _ _ => 0)
 case atStart => exact ⟨rfl, rfl⟩
 case round =>
  obtain ⟨rfl, rfl⟩ := hrel
  have d0 := HD3.out.cell (i := 0) rfl
  have d1 := HD3.out.cell (i := 1) rfl
  go_wp2_with (refine wpList_store_row rfl 59 (.tmp 4) (.tmp 74) rfl (w.heap.size + 1) #[.slice none 0 0, .slice none 0 0] rfl rfl 59 _ HR3.out (by kernel_rfl) rfl (by simp [Value.oneCell']) ?_)
  refine bodyPost_ret (results_cell_row rfl _ _ (w.heap.size + 1) 59 _ (0, 0) _ rfl (setRow_heap _ _ _ _ _ _ HR3.out) Tryz.underlying59 rfl (by kernel_rfl)) rfl ?_
  exact ⟨rfl, below_setRow HB3.out (by omega) _⟩
theorem lostN (w : World) : Calls Tryz.prog 28 #[.agg #[.slice none 0 0, .slice none 0 0]] w fun e w' => e = .returned (.slice none 0 0) ∧ Below w.heap.size w w' := by
 have HB := Lib.hid ((Below.refl w.heap.size w).alloc (Nat.le_refl _) (.cells #[.slice none 0 0, .slice none 0 0] 59))
 have hc := (Blk.new w 59 [.slice none 0 0, .slice none 0 0]).cell (i := 1) rfl
 change (w.alloc (.cells #[.slice none 0 0, .slice none 0 0] 59)).cell? _ = _ at hc
 go_enter Tryz.func28, Tryz.ntmps28
 go_wp2
 generalize w.alloc (.cells #[.slice none 0 0, .slice none 0 0] 59) = wz at *
 go_loopw [3, 9] (fun y x wr => y = .slice none 0 0 ∧ x = .int .i64 0 ∧ wr = wz) (fun _ _ _ => 0)
 case atStart => exact ⟨rfl, rfl, rfl⟩
 case round =>
  obtain ⟨rfl, rfl, rfl⟩ := hrel
  go_wp2
  go_ret
  exact ⟨rfl, HB.out⟩
theorem resultsN (w : World) : Calls Tryz.prog 29 #[.agg #[.slice none 0 0, .slice none 0 0]] w fun e w' => e = .returned (.string (strB [])) ∧ Below w.heap.size w w' := by
 have hb1 := (Below.refl w.heap.size w).alloc (Nat.le_refl _) (.cells #[.slice none 0 0, .slice none 0 0] 59)
 have HB := Lib.hid (hb1.alloc hb1.size (.cells #[.pointer none, .slice none 0 0] 112))
 have hK := (Blk.new w 59 [.slice none 0 0, .slice none 0 0]).alloc (.cells #[.pointer none, .slice none 0 0] 112)
 change Blk ((w.alloc (.cells #[.slice none 0 0, .slice none 0 0] 59)).alloc (.cells #[.pointer none, .slice none 0 0] 112)) _ _ _ at hK
 have k0 := hK.cell (i := 0) rfl
 have hN := Bld.new (w.alloc (.cells #[.slice none 0 0, .slice none 0 0] 59))
 rw [World.size_alloc] at hN
 have HN := Lib.hid hN
 clear hb1 hK hN
 go_enter Tryz.func29, Tryz.ntmps29
 go_upto_region 2 with fail
 generalize (w.alloc (.cells #[.slice none 0 0, .slice none 0 0] 59)).alloc (.cells #[.pointer none, .slice none 0 0] 112) = wa at *
 have HSt := Lib.hid (str_any wa (w.heap.size + 1) (w.heap.size + 1) [] (fun _ h => nomatch h) HN.out (by have := HN.out.lt; omega))
 go_wp2_with fail
 go_loopw [15] (fun x wr => x = .int .i64 0 ∧ wr = wa) (fun _ _ => 0)
 case atStart => exact ⟨rfl, rfl⟩
 case round =>
  obtain ⟨rfl, rfl⟩ := hrel
  go_wp2_with fail
  refine HSt.out.mono ?_
  rintro e w2 ⟨rfl, _, hb⟩
  have HB2 := Lib.hid (HB.out.trans (hb.mono (by omega)))
  clear hb
  go_wp2_with fail
  go_ret
  exact ⟨rfl, HB2.out⟩
end
end Go.Proofs.YtbccghbngaiceaaGreatDoor
