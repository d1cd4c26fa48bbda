/-
  Joined: MgI.
-/
import Derived.Test.YtbccghbngaiceaaGreatDoorMMn42
import Derived.Test.YtbccghbngaiceaaGreatDoorMMn45
import Derived.Test.YtbccghbngaiceaaGreatDoorMMn46
set_option linter.all false
set_option maxRecDepth 100000
set_option maxHeartbeats 64000000
namespace Go.Proofs.YtbccghbngaiceaaGreatDoor
section
open Go.RowKit
def StAtR (W : World) (g : Nat) (s : Sta) : Prop := ∃ At ct Ah ch, Blk W g 76 [.slice At s.tree.length ct, .slice Ah s.holds.length ch] ∧ SeqAt entS W (.slice At s.tree.length ct) s.tree ∧ SeqAt holS W (.slice Ah s.holds.length ch) s.holds
theorem StAtR.below {W W' : World} {g : Nat} {s : Sta} (h : StAtR W g s) (hb : Below W.heap.size W W') : StAtR W' g s := by
 obtain ⟨At, ct, Ah, ch, h1, h2, h3⟩ := h
 exact ⟨At, ct, Ah, ch, h1.kept hb, h2.below hb, h3.below hb⟩
theorem StAtR.turn {W : World} {g : Nat} {s s' : Sta} {vt vh : Value} (h : StAtR W g s) (h2 : SeqAt entS W vt s'.tree) (h3 : SeqAt holS W vh s'.holds) : StAtR (W.setRow g #[vt, vh]) g s' := by
 obtain ⟨At, ct, Ah, ch, h1, _, _⟩ := h
 have hbx : Box W g [4, 4] := ⟨_, _, h1, rfl⟩
 obtain ⟨Bt, dt, rfl, _, _⟩ := h2.slice
 obtain ⟨Bh, dh, rfl, _, _⟩ := h3.slice
 exact ⟨Bt, dt, Bh, dh, setRow_heap _ _ _ _ _ _ h1, setRow_entK h2 hbx _, setRow_holK h3 hbx _⟩
def Prv (l : List Ses) (i : Nat) (pv : ByteArray) (dt : Int) : Prop := (i = 0 → pv = ⟨#[]⟩ ∧ dt = 0) ∧ ∀ y, 0 < i → l[i - 1]? = some y → sgnE y = 0 ∧ pv = dgS y ∧ dt = y.date
theorem extOut_1 {l : List Ses} {x : Ext} (h : x.s = 0) : extOut l x = false := by rw [extOut, if_pos h]
theorem extOut_2 {l : List Ses} {x : Ext} (h : x.s ≠ 0) (h2 : (l.length : Int) < x.s) : extOut l x = true := by rw [extOut, if_neg h, if_pos h2]
theorem extOut_3 {l : List Ses} {x : Ext} {y : Ses} (h : x.s ≠ 0) (h2 : ¬ (l.length : Int) < x.s) (hy : l[(x.s - 1).toNat]? = some y) : extOut l x = decide ((y.str.size : Int) < x.o + x.l) := by rw [extOut, if_neg h, if_neg h2, hy]
theorem check41_ex (w : World) (v : Value) (l : List Ses) (hv : SeqAt sesS w v l) (hl : l.length ≤ 8) (hz : ∀ x ∈ l, SesG x) : Calls Tryz.prog 20 #[v] w fun r w' => r = .returned (.int .i64 (histC l)) ∧ Below w.heap.size w w' := by
 obtain ⟨R, hR⟩ : ∃ R, histC l = R := ⟨_, rfl⟩
 rw [hR]
 unfold histC at hR
 have HR := Lib.hid hR
 have HV := Lib.hid hv
 have HZ := Lib.hid hz
 have Hl := Lib.hid hl
 obtain ⟨A, c, rfl, _, _⟩ := hv.slice
 have hK := Blk.new w 76 [.slice none 0 0, .slice none 0 0]
 change Blk (w.alloc (.cells #[.slice none 0 0, .slice none 0 0] 76)) _ _ _ at hK
 have HB0 := Lib.hid ((Below.refl w.heap.size w).alloc (Nat.le_refl _) (.cells #[.slice none 0 0, .slice none 0 0] 76))
 have HA0 : Hid (StAtR (w.alloc (.cells #[.slice none 0 0, .slice none 0 0] 76)) w.heap.size ⟨[], []⟩) := Lib.hid ⟨none, 0, none, 0, hK, SeqAt.nil _, SeqAt.nil _⟩
 clear hv hR hz hK
 go_enter Tryz.func20, Tryz.ntmps20
 go_upto_region 2 with fail
 generalize w.alloc (.cells #[.slice none 0 0, .slice none 0 0] 76) = wa at *
 go_wp2_with fail
 go_loopw [18] (fun z wr => ∃ (i : Nat) (s : Sta) (pv : ByteArray) (dt : Int), i ≤ l.length ∧ z = .int .i64 (i : Int) ∧ histE (l.take i) pv dt s (l.drop i) = R ∧ Prv l i pv dt ∧ StaN s (12 * i) ∧ StaO s ∧ StAtR wr w.heap.size s ∧ Below w.heap.size w wr) (fun z _ => l.length - (intOf z).toNat)
 case atStart => exact ⟨0, ⟨[], []⟩, ⟨#[]⟩, 0, Nat.zero_le _, rfl, HR.out, ⟨fun _ => ⟨rfl, rfl⟩, fun y h => absurd h (by omega)⟩, ⟨Nat.zero_le _, (fun x hx => nomatch hx), Nat.zero_le _, (fun x hx => nomatch hx)⟩, ⟨List.Pairwise.nil, List.Pairwise.nil, fun x hx => nomatch hx⟩, HA0.out, HB0.out⟩
 case round =>
  obtain ⟨i, s, pv, dt, hi, rfl, hE, hP, hN, hO, hA, hB⟩ := hrel
  have HP := Lib.hid hP
  have HN := Lib.hid hN
  have HO := Lib.hid hO
  have HA := Lib.hid hA
  have HB := Lib.hid hB
  clear hP hN hO hA hB HA0 HB0
  by_cases hil : i < l.length
  ·have hiI : (i : Int) < l.length := by omega
   obtain ⟨x, hx⟩ : ∃ x, l[i]? = some x := ⟨_, List.getElem?_eq_getElem hil⟩
   have HXi := Lib.hid hx
   have HSx := Lib.hid (HZ.out x (List.mem_of_getElem? hx))
   have htk : l.take (i + 1) = l.take i ++ [x] := by rw [List.take_add_one, hx]; rfl
   have HEq := Lib.hid (show (if sgnE x ≠ 0 then sgnE x else if x.num ≠ (i : Int) + 1 ∨ x.date < dt then 14 else if x.prev ≠ pv then 20 else if (entsS (l.take (i + 1)) x.date s x.ents).1 ≠ 0 then (entsS (l.take (i + 1)) x.date s x.ents).1 else histE (l.take (i + 1)) (dgS x) x.date (entsS (l.take (i + 1)) x.date s x.ents).2 (l.drop (i + 1))) = R by
    rw [← hE, List.drop_eq_getElem_cons hil, histE_cons, show l[i] = x from Option.some.inj ((List.getElem?_eq_getElem hil).symm.trans hx), List.length_take_of_le hi, htk])
   obtain ⟨_, _, e9, _, _, h4⟩ := HV.out
   cases e9
   obtain ⟨b, o, cs, rfl, hR9, hc⟩ := h4 i x hx
   obtain ⟨ve, rfl, hve⟩ := hR9
   obtain ⟨Ae, ce, rfl, _, _⟩ := hve.slice
   have e0 : wr.cell? ⟨b, o + i * 6, none⟩ = some (.int .i64 x.num) := cell_below HB.out (hc 0 _ rfl)
   have e1 : wr.cell? ⟨b, o + i * 6 + 1, none⟩ = some (.int .i64 x.date) := cell_below HB.out (hc 1 _ rfl)
   have e2 : wr.cell? ⟨b, o + i * 6 + 2, none⟩ = some (.string x.prev) := cell_below HB.out (hc 2 _ rfl)
   have e3 : wr.cell? ⟨b, o + i * 6 + 3, none⟩ = some (.slice Ae x.ents.length ce) := cell_below HB.out (hc 3 _ rfl)
   have e4 : wr.cell? ⟨b, o + i * 6 + 4, none⟩ = some (.string x.str) := cell_below HB.out (hc 4 _ rfl)
   have e5 : wr.cell? ⟨b, o + i * 6 + 5, none⟩ = some (.string x.sig) := cell_below HB.out (hc 5 _ rfl)
   -- the cells of any session
   have HCs : Hid (∀ (k : Nat) (y : Ses), l[k]? = some y → ∃ vy, SeqAt entS w vy y.ents ∧ ∀ (j : Nat) u, ([.int .i64 y.num, .int .i64 y.date, .string y.prev, vy, .string y.str, .string y.sig] : List Value)[j]? = some u → w.cell? ⟨b, o + k * 6 + j, none⟩ = some u) := Lib.hid (fun k y hy => by
    obtain ⟨b', o', cs', e', hR', hc'⟩ := h4 k y hy
    cases e'
    obtain ⟨vy, rfl, hvy⟩ := hR'
    exact ⟨vy, hvy, fun j u hu => hc' j u hu⟩)
   have hK := Blk.new wr 43 [.int .i64 x.num, .int .i64 x.date, .string x.prev, .slice Ae x.ents.length ce, .string x.str, .string x.sig]
   change Blk (wr.alloc (.cells #[.int .i64 x.num, .int .i64 x.date, .string x.prev, .slice Ae x.ents.length ce, .string x.str, .string x.sig] 43)) _ _ _ at hK
   have hBx := (Below.refl wr.heap.size wr).alloc (Nat.le_refl _) (.cells #[.int .i64 x.num, .int .i64 x.date, .string x.prev, .slice Ae x.ents.length ce, .string x.str, .string x.sig] 43)
   have HB1 := Lib.hid (HB.out.trans (hBx.mono HB.out.size))
   have HA1 := Lib.hid (HA.out.below hBx)
   have HVw := Lib.hid hve
   have HDg := Lib.hid (digest40_ex (wr.alloc (.cells #[.int .i64 x.num, .int .i64 x.date, .string x.prev, .slice Ae x.ents.length ce, .string x.str, .string x.sig] 43)) x _ (hve.below HB1.out) HSx.out)
   obtain ⟨TX, hTX⟩ : ∃ TX, (if sgnE x = 0 then dgS x else ⟨#[]⟩) = TX := ⟨_, rfl⟩
   rw [hTX] at HDg
   have HTX := Lib.hid hTX
   obtain ⟨gx, hgx⟩ : ∃ gx, wr.heap.size = gx := ⟨_, rfl⟩
   have HGx := Lib.hid (show w.heap.size < gx by obtain ⟨_, _, _, _, q, _, _⟩ := HA.out; rw [← hgx]; exact q.lt)
   rw [hgx] at hK
   have HK1 := Lib.hid hK
   obtain ⟨SG, hSG⟩ : ∃ SG, sgnE x = SG := ⟨_, rfl⟩
   have HSG := Lib.hid hSG
   rw [hSG] at HDg HEq HTX
   clear hSG hx htk hE hc h4 hve hK hBx hTX
   go_upto_region 5 with fail
   rw [hgx] at *
   clear hgx e0 e1 e2 e3 e4 e5
   generalize wr.alloc (.cells #[.int .i64 x.num, .int .i64 x.date, .string x.prev, .slice Ae x.ents.length ce, .string x.str, .string x.sig] 43) = wb at *
   have c0 := HK1.out.cell (i := 0) rfl
   have c1 := HK1.out.cell (i := 1) rfl
   have c2 := HK1.out.cell (i := 2) rfl
   have c3 := HK1.out.cell (i := 3) rfl
   have c4 := HK1.out.cell (i := 4) rfl
   have c5 := HK1.out.cell (i := 5) rfl
   go_wp2_with fail
   refine HDg.out.mono ?_
   rintro e2 w2 ⟨rfl, hb2⟩
   have HB2 := Lib.hid (HB1.out.trans (hb2.mono HB1.out.size))
   have HK2 := Lib.hid (HK1.out.kept hb2)
   have HA2 := Lib.hid (HA1.out.below hb2)
   clear hb2 HDg HK1 HB1 HA1 HA c0 c1 c2 c3 c4 c5
   by_cases hsg : SG = 0
   rotate_left
   ·have g1 : (SG != 0) = true := by rw [bne, beq_eq_false_iff_ne.2 hsg]; rfl
    have hr : R = SG := by rw [← HEq.out, if_pos hsg]
    subst hr
    clear HEq hsg HSG HTX
    go_wp2_with fail
    go_ret
    exact ⟨rfl, HB2.out⟩
   subst hsg
   have HTX := Lib.hid ((if_pos rfl).symm.trans HTX.out)
   have HEq := Lib.hid ((if_neg (fun q => q rfl)).symm.trans HEq.out)
   have HDt : Hid (0 ≤ x.date) := Lib.hid (fldE_0 (sgnE_0 HSG.out).1).2.1.1
   -- number and date
   obtain ⟨bad, hbad⟩ : ∃ q, decide (x.num ≠ (i : Int) + 1 ∨ x.date < dt) = q := ⟨_, rfl⟩
   have Hbad := Lib.hid hbad
   clear hbad
   have HL0 : Hid (∀ y, 0 < i → l[i - 1]? = some y → w2.cell? ⟨b, o + (i - 1) * 6 + 1, none⟩ = some (.int .i64 y.date)) := Lib.hid (fun y _ hy => by
    obtain ⟨vy, _, h6⟩ := HCs.out _ _ hy
    exact cell_below HB2.out (h6 1 _ rfl))
   have HBq := Lib.hid (Below.refl w2.heap.size w2)
   go_upto_region 8 with fail
   go_cut [50] (fun f wx => f = .bool bad ∧ Below w2.heap.size w2 wx)
   case first =>
    have c0 := HK2.out.cell (i := 0) rfl
    have c1 := HK2.out.cell (i := 1) rfl
    have hwr : IntKind.i64.wrap ((i : Int) + 1) = (i : Int) + 1 := IntWalk.i64_in _ (by have := Hl.out; omega)
    by_cases hn : x.num = (i : Int) + 1
    ·have g1 : (x.num != (i : Int) + 1) = false := by rw [hn]; simp
     have g1w : (x.num != IntKind.i64.wrap ((i : Int) + 1)) = false := by rw [hwr]; exact g1
     by_cases h0 : i = 0
     ·have HE : Hid (bad = false) := Lib.hid (by
       rw [← Hbad.out]
       refine decide_eq_false fun q => ?_
       rcases q with q | q
       ·exact q hn
       ·have := (HP.out.1 h0).2
        have := HDt.out
        omega)
      have g2 : decide ((0 : Int) < (i : Int)) = false := decide_eq_false (by omega)
      have g2n : decide (0 < i) = false := decide_eq_false (by omega)
      have g3 : ¬ (0 : Int) < (i : Int) := by omega
      clear hn h0
      go_quiet (fail)
      go_wp2_with fail
      go_meet
      exact ⟨by rw [HE.out] <;> rfl, by first | exact HBq.out | exact blwN HBq.out _⟩
     ·have hiI2 : (0 : Int) < (i : Int) := by omega
      obtain ⟨y, hy⟩ : ∃ y, l[i - 1]? = some y := ⟨_, List.getElem?_eq_getElem (show i - 1 < l.length by omega)⟩
      have d1 := HL0.out y (by omega) hy
      have hdt := ((HP.out.2 y (by omega) hy).2.2)
      have g2 : decide ((0 : Int) < (i : Int)) = true := decide_eq_true hiI2
      have g2n : decide (0 < i) = true := decide_eq_true (by omega)
      have hi1 : (i : Int) - 1 = ((i - 1 : Nat) : Int) := by omega
      have hi2 : ((i - 1 : Nat) : Int) < (l.length : Int) := by omega
      have hw1 : IntKind.i64.wrap ((i : Int) - 1) = ((i - 1 : Nat) : Int) := by rw [← hi1]; exact IntWalk.i64_in _ (by have := Hl.out; omega)
      by_cases hd : x.date < y.date
      ·have HE : Hid (bad = true) := Lib.hid (by rw [← Hbad.out]; exact decide_eq_true (.inr (by rw [hdt]; exact hd)))
       have g4 : decide (x.date < y.date) = true := decide_eq_true hd
       generalize i - 1 = i1 at *
       clear hn h0 hdt hy
       go_quiet (fail)
       go_wp2_with fail
       go_meet
       exact ⟨by rw [HE.out] <;> rfl, by first | exact HBq.out | exact blwN HBq.out _⟩
      ·have HE : Hid (bad = false) := Lib.hid (by
        rw [← Hbad.out]
        refine decide_eq_false fun q => ?_
        rcases q with q | q
        ·exact q hn
        ·rw [hdt] at q; exact hd q)
       have g4 : decide (x.date < y.date) = false := decide_eq_false hd
       generalize i - 1 = i1 at *
       clear hn h0 hdt hy
       go_quiet (fail)
       go_wp2_with fail
       go_meet
       exact ⟨by rw [HE.out] <;> rfl, by first | exact HBq.out | exact blwN HBq.out _⟩
    ·have g1 : (x.num != (i : Int) + 1) = true := by rw [bne, beq_eq_false_iff_ne.2 hn]; rfl
     have g1w : (x.num != IntKind.i64.wrap ((i : Int) + 1)) = true := by rw [hwr]; exact g1
     have HE : Hid (bad = true) := Lib.hid (by rw [← Hbad.out]; exact decide_eq_true (.inl hn))
     clear hn
     go_quiet (fail)
     go_wp2_with fail
     go_meet
     exact ⟨by rw [HE.out] <;> rfl, by first | exact HBq.out | exact blwN HBq.out _⟩
   case rest =>
    obtain ⟨rfl, hb⟩ := hcut
    obtain ⟨w3, hw3⟩ : ∃ x, x = wc := ⟨_, rfl⟩
    subst hw3
    have HB3 := Lib.hid (HB2.out.trans (hb.mono HB2.out.size))
    have HK3 := Lib.hid (HK2.out.kept hb)
    have HA3 := Lib.hid (HA2.out.below hb)
    clear hb HB2 HK2 HA2 HL0 HBq
    cases bad with
    | true =>
     have hr : R = 14 := by rw [← HEq.out, if_pos (of_decide_eq_true Hbad.out)]
     subst hr
     go_wp2_with fail
     go_ret
     exact ⟨rfl, HB3.out⟩
    | false =>
     have HEq := Lib.hid ((if_neg (of_decide_eq_false Hbad.out)).symm.trans HEq.out)
     clear Hbad
     have HBq := Lib.hid (Below.refl w3.heap.size w3)
     go_upto_if 52 with fail
     go_cut [8] (fun p wx => p = .string pv ∧ Below w3.heap.size w3 wx)
     case first =>
      by_cases h0 : i = 0
      ·have hpv := (HP.out.1 h0).1
       subst h0
       have HE := Lib.hid hpv
       clear hpv
       go_wp2_with fail
       go_meet
       exact ⟨by rw [HE.out] <;> rfl, HBq.out⟩
      ·have hiI2 : (0 : Int) < (i : Int) := by omega
       obtain ⟨y, hy⟩ : ∃ y, l[i - 1]? = some y := ⟨_, List.getElem?_eq_getElem (show i - 1 < l.length by omega)⟩
       obtain ⟨hs0, hpv, _⟩ := HP.out.2 y (by omega) hy
       obtain ⟨vy, hvy, h6⟩ := HCs.out _ _ hy
       have HDy := Lib.hid (fun (W : World) (hW : Below w.heap.size w W) => digest40_ex W y vy (hvy.below hW) (HZ.out y (List.mem_of_getElem? hy)))
       obtain ⟨Ay, cy, rfl, _, _⟩ := hvy.slice
       rw [if_pos hs0, ← hpv, hs0] at HDy
       have hi1 : (i : Int) - 1 = ((i - 1 : Nat) : Int) := by omega
       have hi2 : ((i - 1 : Nat) : Int) < (l.length : Int) := by omega
       have d0 := cell_below HB3.out (h6 0 _ rfl)
       have d1 := cell_below HB3.out (h6 1 _ rfl)
       have d2 := cell_below HB3.out (h6 2 _ rfl)
       have d3 := cell_below HB3.out (h6 3 _ rfl)
       have d4 := cell_below HB3.out (h6 4 _ rfl)
       have d5 := cell_below HB3.out (h6 5 _ rfl)
       rw [Nat.add_zero] at d0
       generalize i - 1 = i1 at *
       clear h0 hs0 hpv hy hvy h6
       go_wp2_with fail
       refine (HDy.out _ HB3.out).mono ?_
       rintro e4 w4 ⟨rfl, hb4⟩
       have HBr := Lib.hid hb4
       clear hb4 d0 d1 d2 d3 d4 d5
       go_wp2_with fail
       go_meet
       exact ⟨rfl, HBr.out⟩
     case rest =>
      obtain ⟨rfl, hb⟩ := hcut
      obtain ⟨w4, hw4⟩ : ∃ x, x = wc := ⟨_, rfl⟩
      subst hw4
      have HB4 := Lib.hid (HB3.out.trans (hb.mono HB3.out.size))
      have HK4 := Lib.hid (HK3.out.kept hb)
      have HA4 := Lib.hid (HA3.out.below hb)
      clear hb HB3 HK3 HA3 HBq
      have c2 := HK4.out.cell (i := 2) rfl
      have c3 := HK4.out.cell (i := 3) rfl
      by_cases hpv : x.prev = pv
      rotate_left
      ·have g3 : (x.prev.toList == pv.toList) = false := by rw [beq_eq_false_iff_ne]; exact fun e => hpv (by rw [ByteArray.toList_eq, ByteArray.toList_eq] at e; exact ByteArray.ext (Array.toList_inj.1 e))
       have g4 : ¬ x.prev.toList = pv.toList := fun e => hpv (by rw [ByteArray.toList_eq, ByteArray.toList_eq] at e; exact ByteArray.ext (Array.toList_inj.1 e))
       have g5 : (x.prev != pv) = true := bneV_true hpv
       have hr : R = 20 := by rw [← HEq.out, if_pos hpv]
       subst hr
       clear HEq hpv
       go_wp2_with fail
       go_ret
       exact ⟨rfl, HB4.out⟩
      have HEq := Lib.hid ((if_neg (fun q => q hpv)).symm.trans HEq.out)
      have g3 : (pv.toList == pv.toList) = true := by simp
      have g5 : (pv != pv) = false := bneV_false rfl
      rw [hpv] at c2
      obtain ⟨EA, hEA⟩ : ∃ EA, entsS (l.take (i + 1)) x.date s x.ents = EA := ⟨_, rfl⟩
      rw [hEA] at HEq
      have HEA := Lib.hid hEA
      clear hEA hpv
      go_wp2_with fail
      clear c2 c3 g3 g5
      go_loopw [69] (fun z wi => ∃ (j : Nat) (s' : Sta), j ≤ x.ents.length ∧ z = .int .i64 (j : Int) ∧ entsS (l.take (i + 1)) x.date s' (x.ents.drop j) = EA ∧ StaN s' (12 * i + j) ∧ StaO s' ∧ StAtR wi w.heap.size s' ∧ Blk wi gx 43 [.int .i64 x.num, .int .i64 x.date, .string x.prev, .slice Ae x.ents.length ce, .string x.str, .string x.sig] ∧ Below w.heap.size w wi) (fun z _ => x.ents.length - (intOf z).toNat)
      case atStart => exact ⟨0, s, Nat.zero_le _, rfl, HEA.out, HN.out, HO.out, HA4.out, HK4.out, HB4.out⟩
      case round =>
       obtain ⟨j, s2, hj, rfl, hE2, hN2, hO2, hA2, hX2, hB2⟩ := hrel
       have HX2 := Lib.hid hX2
       have HE2 := Lib.hid hE2
       have HN2 := Lib.hid hN2
       have HO2 := Lib.hid hO2
       have HA2 := Lib.hid hA2
       have HBj := Lib.hid hB2
       clear hE2 hN2 hO2 hA2 hX2 hB2 HA4 HK4 HB4 HEA
       by_cases hjl : j < x.ents.length
       ·have hjI : (j : Int) < x.ents.length := by omega
        obtain ⟨y, hy⟩ : ∃ y, x.ents[j]? = some y := ⟨_, List.getElem?_eq_getElem hjl⟩
        have hye := HSx.out.each y (List.mem_of_getElem? hy)
        have HYe := Lib.hid hye
        obtain ⟨_, _, e9, _, _, h4⟩ := HVw.out
        cases e9
        obtain ⟨b2, o2, cs, rfl, hR9, hc⟩ := h4 j y hy
        obtain ⟨va, vx, rfl, hva, hvx⟩ := hR9
        obtain ⟨Aa, ca, rfl, _, _⟩ := hva.slice
        obtain ⟨Ax, cx, rfl, _, _⟩ := hvx.slice
        have q0 : wr.cell? ⟨b2, o2 + j * 7, none⟩ = some (.int .i64 y.k) := cell_below HBj.out (hc 0 _ rfl)
        have q1 : wr.cell? ⟨b2, o2 + j * 7 + 1, none⟩ = some (.string y.path) := cell_below HBj.out (hc 1 _ rfl)
        have q2 : wr.cell? ⟨b2, o2 + j * 7 + 2, none⟩ = some (.slice Aa y.attrs.length ca) := cell_below HBj.out (hc 2 _ rfl)
        have q3 : wr.cell? ⟨b2, o2 + j * 7 + 3, none⟩ = some (.string y.tgt) := cell_below HBj.out (hc 3 _ rfl)
        have q4 : wr.cell? ⟨b2, o2 + j * 7 + 4, none⟩ = some (.int .i64 y.size) := cell_below HBj.out (hc 4 _ rfl)
        have q5 : wr.cell? ⟨b2, o2 + j * 7 + 5, none⟩ = some (.string y.dig) := cell_below HBj.out (hc 5 _ rfl)
        have q6 : wr.cell? ⟨b2, o2 + j * 7 + 6, none⟩ = some (.slice Ax y.exts.length cx) := cell_below HBj.out (hc 6 _ rfl)
        have HE2 := Lib.hid (show (if (stepS s2 y x.date).1 ≠ 0 then ((stepS s2 y x.date).1, s2) else if storedB (l.take (i + 1)) y then entsS (l.take (i + 1)) x.date (stepS s2 y x.date).2 (x.ents.drop (j + 1)) else (2, s2)) = EA by rw [← HE2.out, List.drop_eq_getElem_cons hjl, entsS_cons, show x.ents[j] = y from Option.some.inj ((List.getElem?_eq_getElem hjl).symm.trans hy)])
        clear hc h4 hy
        obtain ⟨At, ct, Ah, ch, hA2, hT2, hH2⟩ := HA2.out
        have hK := Blk.new wr 48 [.int .i64 y.k, .string y.path, .slice Aa y.attrs.length ca, .string y.tgt, .int .i64 y.size, .string y.dig, .slice Ax y.exts.length cx]
        change Blk (wr.alloc (.cells #[.int .i64 y.k, .string y.path, .slice Aa y.attrs.length ca, .string y.tgt, .int .i64 y.size, .string y.dig, .slice Ax y.exts.length cx] 48)) _ _ _ at hK
        have hBy := (Below.refl wr.heap.size wr).alloc (Nat.le_refl _) (.cells #[.int .i64 y.k, .string y.path, .slice Aa y.attrs.length ca, .string y.tgt, .int .i64 y.size, .string y.dig, .slice Ax y.exts.length cx] 48)
        have HBy := Lib.hid (HBj.out.trans (hBy.mono HBj.out.size))
        have HS3 := Lib.hid (hA2.kept hBy)
        have HKy := Lib.hid hK
        have HX3 := Lib.hid (HX2.out.kept hBy)
        have HVa := Lib.hid (hva.below HBy.out)
        have HVx := Lib.hid (hvx.below HBy.out)
        have hvx0 := Lib.hid hvx
        have HT3 := Lib.hid (hT2.below hBy)
        have HH3 := Lib.hid (hH2.below hBy)
        have hl8 := Hl.out
        have HAp := Lib.hid (step41_ex _ _ _ s2 (hT2.below hBy) (hH2.below hBy) ⟨by have := HN2.out.tn; have := HSx.out.ents; omega, HN2.out.tp, by have := HN2.out.hn; have := HSx.out.ents; omega, HN2.out.hp⟩ y _ _ HVa.out HVx.out hye.1 hye.2.1 x.date HO2.out ⟨by have := HN2.out.tn; have := HSx.out.ents; omega, by have := HN2.out.hn; have := HSx.out.ents; omega⟩ hye.2.2.1 hye.2.2.2)
        obtain ⟨gy, hgy⟩ : ∃ gy, wr.heap.size = gy := ⟨_, rfl⟩
        rw [hgy] at HKy
        clear hK hBy hA2 hT2 hH2 hva hvx hye hl8
        have HN4 := Lib.hid (stepS_n (d := x.date) HN2.out HYe.out.1)
        have HO4 := Lib.hid (stepS_ord (e := y) (d := x.date) HO2.out)
        have HOk := Lib.hid (fun h : (stepS s2 y x.date).1 = 0 => stepS_ok h)
        generalize stepS s2 y x.date = ST at *
        obtain ⟨sc, s3⟩ := ST
        dsimp only at HE2 HN4 HO4 HOk
        rw [entV] at HAp
        go_upto_region 18 with fail
        rw [hgy] at *
        clear q0 q1 q2 q3 q4 q5 q6 hgy
        generalize wr.alloc (.cells #[.int .i64 y.k, .string y.path, .slice Aa y.attrs.length ca, .string y.tgt, .int .i64 y.size, .string y.dig, .slice Ax y.exts.length cx] 48) = wj at *
        have s0 := HS3.out.cell (i := 0) rfl
        have s1 := HS3.out.cell (i := 1) rfl
        have y0 := HKy.out.cell (i := 0) rfl
        have y1 := HKy.out.cell (i := 1) rfl
        have y2 := HKy.out.cell (i := 2) rfl
        have y3 := HKy.out.cell (i := 3) rfl
        have y4 := HKy.out.cell (i := 4) rfl
        have y5 := HKy.out.cell (i := 5) rfl
        have y6 := HKy.out.cell (i := 6) rfl
        have c1 := HX3.out.cell (i := 1) rfl
        go_wp2_with fail
        refine HAp.out.mono ?_
        rintro e5 w5 ⟨⟨vt, vh, rfl, hvt, hvh⟩, hb5⟩
        obtain ⟨A5, c5, rfl, _, _⟩ := hvt.slice
        obtain ⟨B5, d5, rfl, _, _⟩ := hvh.slice
        have hKn := Blk.new w5 76 [.slice A5 s3.tree.length c5, .slice B5 s3.holds.length d5]
        change Blk (w5.alloc (.cells #[.slice A5 s3.tree.length c5, .slice B5 s3.holds.length d5] 76)) _ _ _ at hKn
        have HKn := Lib.hid hKn
        have hb5 := hb5.alloc hb5.size (.cells #[.slice A5 s3.tree.length c5, .slice B5 s3.holds.length d5] 76)
        have hbn := (Below.refl w5.heap.size w5).alloc (Nat.le_refl _) (.cells #[.slice A5 s3.tree.length c5, .slice B5 s3.holds.length d5] 76)
        have HVt5 := Lib.hid (hvt.below hbn)
        have HVh5 := Lib.hid (hvh.below hbn)
        clear s0 s1 y0 y1 y2 y3 y4 y5 y6 c1 hKn hvt hvh hbn
        go_upto_region 19 with fail
        generalize w5.alloc (.cells #[.slice A5 s3.tree.length c5, .slice B5 s3.holds.length d5] 76) = w6 at *
        generalize w5.heap.size = gn at *
        have HA6 := Lib.hid (show StAtR w6 w.heap.size s2 from ⟨At, ct, Ah, ch, HS3.out.kept hb5, HT3.out.below hb5, HH3.out.below hb5⟩)
        have HKy6 := Lib.hid (HKy.out.kept hb5)
        have HX6 := Lib.hid (HX3.out.kept hb5)
        have HB6 := Lib.hid (HBy.out.trans (hb5.mono HBy.out.size))
        clear hb5 HS3 HKy HX3 HBy HT3 HH3 HAp HA2 HX2 HBj HVa HVx
        by_cases hsc : sc ≠ 0
        ·have g1 : (sc != 0) = true := by rw [bne, beq_eq_false_iff_ne.2 hsc]; rfl
         have hea : (sc, s2) = EA := by rw [← HE2.out, if_pos hsc]
         have hr : R = sc := by rw [← HEq.out, ← hea, if_pos hsc]
         subst hr
         clear HEq HE2 hea hsc
         go_wp2_with fail
         go_ret
         exact ⟨rfl, HB6.out⟩
        replace hsc : sc = 0 := Decidable.not_not.1 hsc
        subst hsc
        have HE2 := Lib.hid ((if_neg (fun q => q rfl)).symm.trans HE2.out)
        have HEk := Lib.hid (by first | exact HOk.out rfl | exact HOk.out trivial)
        obtain ⟨q, hq⟩ : ∃ q, y.exts.any (extOut (l.take (i + 1))) = q := ⟨_, rfl⟩
        have Hq := Lib.hid hq
        have HE2 := Lib.hid (show (if (!q) = true then entsS (l.take (i + 1)) x.date s3 (x.ents.drop (j + 1)) else (2, s2)) = EA by rw [← hq]; exact HE2.out)
        have HLt : Hid ((l.take (i + 1)).length = i + 1) := Lib.hid (List.length_take_of_le hil)
        clear hq HOk
        have y6 := HKy6.out.cell (i := 6) rfl
        go_wp2_with fail
        clear y6
        go_loopw [87] (fun z wi => ∃ k : Nat, k ≤ y.exts.length ∧ z = .int .i64 (k : Int) ∧ (y.exts.drop k).any (extOut (l.take (i + 1))) = q ∧ Below w6.heap.size w6 wi) (fun z _ => y.exts.length - (intOf z).toNat)
        case atStart => exact ⟨0, Nat.zero_le _, rfl, Hq.out, Below.refl _ _⟩
        case round =>
         obtain ⟨k, hk, rfl, hqk, hB7⟩ := hrel
         have Hqk := Lib.hid hqk
         have HB7 := Lib.hid hB7
         clear hqk hB7
         by_cases hkl : k < y.exts.length
         ·have hkI : (k : Int) < y.exts.length := by omega
          obtain ⟨e, he⟩ : ∃ e, y.exts[k]? = some e := ⟨_, List.getElem?_eq_getElem hkl⟩
          have hxb := of_decide_eq_true (HEk.out.exts.2.1 e (List.mem_of_getElem? he))
          have HD : Hid (q = (extOut (l.take (i + 1)) e || (y.exts.drop (k + 1)).any (extOut (l.take (i + 1))))) := Lib.hid (by
           rw [← Hqk.out, List.drop_eq_getElem_cons hkl, List.any_cons, show y.exts[k] = e from Option.some.inj ((List.getElem?_eq_getElem hkl).symm.trans he)])
          obtain ⟨_, _, e9, _, _, h4⟩ := hvx0.out
          cases e9
          obtain ⟨b3, o3, cs, rfl, rfl, hc⟩ := h4 k e he
          have hBw := HB6.out.trans (HB7.out.mono HB6.out.size)
          have q0 : wr.cell? ⟨b3, o3 + k * 3, none⟩ = some (.int .i64 e.s) := cell_below hBw (hc 0 _ rfl)
          have q1 : wr.cell? ⟨b3, o3 + k * 3 + 1, none⟩ = some (.int .i64 e.o) := cell_below hBw (hc 1 _ rfl)
          have q2 : wr.cell? ⟨b3, o3 + k * 3 + 2, none⟩ = some (.int .i64 e.l) := cell_below hBw (hc 2 _ rfl)
          have hKz := Blk.new wr 80 [.int .i64 e.s, .int .i64 e.o, .int .i64 e.l]
          change Blk (wr.alloc (.cells #[.int .i64 e.s, .int .i64 e.o, .int .i64 e.l] 80)) _ _ _ at hKz
          have HKz := Lib.hid hKz
          have HB8 := Lib.hid (HB7.out.alloc HB7.out.size (.cells #[.int .i64 e.s, .int .i64 e.o, .int .i64 e.l] 80))
          have HBw8 := Lib.hid (HB6.out.trans (HB8.out.mono HB6.out.size))
          clear hc h4 he hKz hBw
          go_upto_region 24 with fail
          clear q0 q1 q2
          generalize wr.alloc (.cells #[.int .i64 e.s, .int .i64 e.o, .int .i64 e.l] 80) = w8 at *
          generalize wr.heap.size = gz at *
          obtain ⟨out, hout⟩ : ∃ q, extOut (l.take (i + 1)) e = q := ⟨_, rfl⟩
          have Hout := Lib.hid hout
          rw [hout] at HD
          clear hout
          have HBq := Lib.hid (Below.refl w8.heap.size w8)
          go_cut [129] (fun f wx => f = .bool out ∧ Below w8.heap.size w8 wx)
          case first =>
           have z0 := HKz.out.cell (i := 0) rfl
           have z1 := HKz.out.cell (i := 1) rfl
           have z2 := HKz.out.cell (i := 2) rfl
           by_cases h1 : e.s = 0
           ·have HE : Hid (out = false) := Lib.hid (by rw [← Hout.out, extOut_1 h1])
            have g1 : (e.s != 0) = false := by rw [h1]; rfl
            clear h1 hxb
            go_quiet (fail)
            go_wp2_with fail
            go_meet
            exact ⟨by rw [HE.out] <;> rfl, by first | exact HBq.out | exact blwN HBq.out _⟩
           have g1 : (e.s != 0) = true := by rw [bne_iff_ne]; exact h1
           have hwr : IntKind.i64.wrap ((i : Int) + 1) = (i : Int) + 1 := IntWalk.i64_in _ (by have := Hl.out; omega)
           by_cases h2 : (i : Int) + 1 < e.s
           ·have HE : Hid (out = true) := Lib.hid (by rw [← Hout.out, extOut_2 h1 (by rw [HLt.out]; omega)])
            have g2 : decide ((i : Int) + 1 < e.s) = true := decide_eq_true h2
            have g2w : decide (IntKind.i64.wrap ((i : Int) + 1) < e.s) = true := by rw [hwr]; exact g2
            clear h1 hxb
            go_quiet (fail)
            go_wp2_with fail
            go_meet
            exact ⟨by rw [HE.out] <;> rfl, by first | exact HBq.out | exact blwN HBq.out _⟩
           have g2 : decide ((i : Int) + 1 < e.s) = false := decide_eq_false h2
           have g2w : decide (IntKind.i64.wrap ((i : Int) + 1) < e.s) = false := by rw [hwr]; exact g2
           obtain ⟨t, ht⟩ : ∃ t : Nat, e.s = (t : Int) + 1 := ⟨(e.s - 1).toNat, by omega⟩
           have hti : t < i + 1 := by omega
           obtain ⟨u, hu⟩ : ∃ u, l[t]? = some u := ⟨_, List.getElem?_eq_getElem (show t < l.length by omega)⟩
           have hu2 : (l.take (i + 1))[(e.s - 1).toNat]? = some u := by
            rw [show (e.s - 1).toNat = t by omega, List.getElem?_take_of_lt hti]
            exact hu
           obtain ⟨vu, _, h6⟩ := HCs.out _ _ hu
           have d4 := cell_below HBw8.out (h6 4 _ rfl)
           have HO3 := Lib.hid (extOut_3 h1 (by rw [HLt.out]; omega) hu2)
           have hs1 : e.s - 1 = ((t : Nat) : Int) := by omega
           have hs1w : IntKind.i64.wrap (e.s - 1) = ((t : Nat) : Int) := by rw [hs1]; exact IntWalk.i64_in _ (by have := Hl.out; omega)
           have hs2 : ((t : Nat) : Int) < (l.length : Int) := by omega
           have huz := (HZ.out u (List.mem_of_getElem? hu)).str
           obtain ⟨es, eo, el⟩ := e
           dsimp only at *
           by_cases h3 : (u.str.size : Int) < eo
           ·have HE : Hid (out = true) := Lib.hid (by rw [← Hout.out, HO3.out]; exact decide_eq_true (by omega))
            have g3 : decide ((u.str.size : Int) < eo) = true := decide_eq_true h3
            clear h1 hxb hu hu2 h6 ht
            go_quiet (fail)
            go_wp2_with fail
            go_meet
            exact ⟨by rw [HE.out] <;> rfl, by first | exact HBq.out | exact blwN HBq.out _⟩
           have g3 : decide ((u.str.size : Int) < eo) = false := decide_eq_false h3
           have hw5 : IntKind.i64.wrap ((u.str.size : Int) - eo) = (u.str.size : Int) - eo := IntWalk.i64_in _ (by omega)
           by_cases h5 : (u.str.size : Int) - eo < el
           ·have HE : Hid (out = true) := Lib.hid (by rw [← Hout.out, HO3.out]; exact decide_eq_true (by omega))
            have g4 : decide ((u.str.size : Int) - eo < el) = true := decide_eq_true h5
            have g4w : decide (IntKind.i64.wrap ((u.str.size : Int) - eo) < el) = true := by rw [hw5]; exact g4
            clear h1 hu hu2 h6 ht
            go_quiet (fail)
            go_wp2_with fail
            go_meet
            exact ⟨by rw [HE.out] <;> rfl, by first | exact HBq.out | exact blwN HBq.out _⟩
           ·have HE : Hid (out = false) := Lib.hid (by rw [← Hout.out, HO3.out]; exact decide_eq_false (by omega))
            have g4 : decide ((u.str.size : Int) - eo < el) = false := decide_eq_false h5
            have g4w : decide (IntKind.i64.wrap ((u.str.size : Int) - eo) < el) = false := by rw [hw5]; exact g4
            clear h1 hu hu2 h6 ht
            go_quiet (fail)
            go_wp2_with fail
            go_meet
            exact ⟨by rw [HE.out] <;> rfl, by first | exact HBq.out | exact blwN HBq.out _⟩
          case rest =>
           obtain ⟨rfl, hb⟩ := hcut
           have HB9 := Lib.hid (HB8.out.trans (hb.mono HB8.out.size))
           clear hb HBq HKz
           cases out with
           | true =>
            have hq1 : q = true := HD.out
            subst hq1
            have hea : (2, s2) = EA := ((if_neg (by decide)).symm.trans HE2.out)
            have hr : R = 2 := by rw [← HEq.out, ← hea]; rfl
            subst hr
            clear HEq HE2 hea
            go_wp2_with fail
            go_ret
            exact ⟨rfl, HB6.out.trans (HB9.out.mono HB6.out.size)⟩
           | false =>
            have HDn : Hid ((y.exts.drop (k + 1)).any (extOut (l.take (i + 1))) = q) := Lib.hid (by rw [HD.out, Bool.false_or])
            go_wp2_with fail
            go_roundw
            case rel => exact ⟨k + 1, by omega, by go_num, HDn.out, HB9.out⟩
            case measure => simp [intOf]; omega
         ·obtain rfl : k = y.exts.length := by omega
          have hkI : ¬ ((y.exts.length : Nat) : Int) < (y.exts.length : Int) := by omega
          have hq0 : q = false := by rw [← Hqk.out, List.drop_length]; rfl
          subst hq0
          have HE2 := Lib.hid ((if_pos rfl).symm.trans HE2.out)
          have HA7 := Lib.hid (HA6.out.below HB7.out)
          have HX7 := Lib.hid (HX6.out.kept HB7.out)
          have HKn7 := Lib.hid (HKn.out.kept HB7.out)
          have HVt7 := Lib.hid (HVt5.out.below HB7.out)
          have HVh7 := Lib.hid (HVh5.out.below HB7.out)
          have HBw := Lib.hid (HB6.out.trans (HB7.out.mono HB6.out.size))
          obtain ⟨At7, ct7, Ah7, ch7, hS7, _, _⟩ := HA7.out
          have HS7 := Lib.hid hS7
          have HA8 := Lib.hid (HA7.out.turn HVt7.out HVh7.out)
          have HX8 := Lib.hid (HX7.out.setRowN (show gx ≠ w.heap.size by have := HGx.out; omega) #[.slice A5 s3.tree.length c5, .slice B5 s3.holds.length d5])
          have HB8 := Lib.hid (below_setRow HBw.out (Nat.le_refl _) #[.slice A5 s3.tree.length c5, .slice B5 s3.holds.length d5])
          have n0 := HKn7.out.cell (i := 0) rfl
          have n1 := HKn7.out.cell (i := 1) rfl
          clear hS7
          go_wp2_with (refine wpList_store_row rfl 76 (.tmp 3) (.tmp 131) rfl w.heap.size #[.slice A5 s3.tree.length c5, .slice B5 s3.holds.length d5] rfl rfl 76 _ HS7.out (by kernel_rfl) rfl (by simp [Value.oneCell']) ?_)
          go_roundw
          case rel => exact ⟨j + 1, s3, by omega, by go_num, HE2.out, HN4.out, HO4.out, HA8.out, HX8.out, HB8.out⟩
          case measure => simp [intOf]; omega
       ·obtain rfl : j = x.ents.length := by omega
        have hjI : ¬ ((x.ents.length : Nat) : Int) < (x.ents.length : Int) := by omega
        have hea : (0, s2) = EA := by rw [← HE2.out, List.drop_length]; rfl
        subst hea
        have HNx := Lib.hid (show histE (l.take (i + 1)) TX x.date s2 (l.drop (i + 1)) = R by rw [← HTX.out, ← HEq.out]; rfl)
        have HNn := Lib.hid (HN2.out.mono (show 12 * i + x.ents.length ≤ 12 * (i + 1) by have := HSx.out.ents; omega))
        have HPn : Hid (Prv l (i + 1) TX x.date) := Lib.hid ⟨fun h => absurd h (by omega), fun y _ hy => by
         rw [Nat.add_sub_cancel, HXi.out] at hy
         obtain rfl := Option.some.inj hy
         exact ⟨HSG.out, HTX.out.symm, rfl⟩⟩
        clear HEq HE2
        go_wp2_with fail
        go_roundw
        case rel => exact ⟨i + 1, s2, TX, x.date, by omega, by go_num, HNx.out, HPn.out, HNn.out, HO2.out, HA2.out, HBj.out⟩
        case measure => simp [intOf]; omega
  ·obtain rfl : i = l.length := by omega
   have hiI : ¬ ((l.length : Nat) : Int) < (l.length : Int) := by omega
   have hr : R = 0 := by rw [← hE, List.drop_length]; rfl
   subst hr
   go_wp2_with fail
   go_ret
   exact ⟨rfl, HB.out⟩
end
end Go.Proofs.YtbccghbngaiceaaGreatDoor
