/-
  Joined: MbS.
-/
import Derived.Test.YthkjphebhafgoaaGreatDoorMBn41
set_option linter.all false
set_option maxRecDepth 100000
set_option maxHeartbeats 64000000
namespace Go.Proofs.YthkjphebhafgoaaGreatDoor
section
open Go.RowKit
def extV (x : Ext) : Value := .agg #[.int .i64 x.s, .int .i64 x.o, .int .i64 x.l]
def JudgeX (g : Nat) (lb : Array Value) (p : Ext → Bool) (l : List Ext) (w : World) : Prop :=
 ∀ (W : World) (x : Ext), Below w.heap.size w W → x ∈ l → Calls Tryz.prog g (#[extV x] ++ lb) W fun e w' => e = .returned (.bool (p x)) ∧ Below W.heap.size W w'
theorem idxExt_any (w : World) (v : Value) (l : List Ext) (hl : SeqAt extS w v l) (g : Nat) (lb : Array Value) (eg : ∀ args w, (callFunc g args).run Tryz.prog w = .ok (.enter g args) w) (p : Ext → Bool) (hp : JudgeX g lb p l w) :
  Calls Tryz.prog 112 #[v, .func (.func g) #[] lb] w fun e w' => e = .returned (.int .i64 (idxI (idxP p l))) ∧ Below w.heap.size w w' := by
 have HL := Lib.hid hl
 obtain ⟨A, c, rfl, h1, h2⟩ := hl.slice
 have HP := Lib.hid hp
 obtain ⟨R, hR⟩ : ∃ R, idxP p l = R := ⟨_, rfl⟩
 rw [hR]
 have HR := Lib.hid hR
 clear hl hp hR
 go_enter Tryz.func112, Tryz.ntmps112
 go_wp2
 go_loopw [8] (fun i wr => ∃ k : Nat, k ≤ l.length ∧ i = .int .i64 k ∧ (∀ (j : Nat) (y : Ext), j < k → l[j]? = some y → p y = false) ∧ Below w.heap.size w wr) (fun i _ => l.length - (intOf i).toNat)
 case atStart => exact ⟨0, Nat.zero_le _, rfl, fun j r h => absurd h (Nat.not_lt_zero _), Below.refl _ _⟩
 case round =>
  obtain ⟨k, hk, rfl, hr, hB⟩ := hrel
  have Hr := Lib.hid hr
  have HB := Lib.hid hB
  clear hr hB
  by_cases hlt : k < l.length
  ·have hkI : (k : Int) < l.length := by omega
   obtain ⟨x, hx⟩ : ∃ x, l[k]? = some x := ⟨_, List.getElem?_eq_getElem hlt⟩
   have Hx := Lib.hid hx
   obtain ⟨_, _, e9, _, _, h4⟩ := HL.out.below HB.out
   cases e9
   obtain ⟨b, o, cs, rfl, rfl, hc⟩ := h4 k x hx
   have HC := Lib.hid (HP.out wr x HB.out (List.mem_of_getElem? hx))
   obtain ⟨q, hq⟩ : ∃ q, p x = q := ⟨_, rfl⟩
   have HQ := Lib.hid hq
   rw [hq, extV] at HC
   have e0 : wr.cell? ⟨b, o + k * 3, none⟩ = some (.int .i64 x.s) := hc 0 _ rfl
   have e1 : wr.cell? ⟨b, o + k * 3 + 1, none⟩ = some (.int .i64 x.o) := hc 1 _ rfl
   have e2 : wr.cell? ⟨b, o + k * 3 + 2, none⟩ = some (.int .i64 x.l) := hc 2 _ rfl
   clear hc h4 hx hq
   go_wp2_with fail
   refine HC.out.mono ?_
   rintro e w2 ⟨rfl, hb2⟩
   have HB2 := Lib.hid (HB.out.trans (hb2.mono HB.out.size))
   clear hb2 e0 e1 e2
   cases q with
   | true =>
    have hr : R = some k := by rw [← HR.out]; exact idxP_some Hr.out Hx.out HQ.out
    subst hr
    go_wp2
    go_ret
    exact ⟨rfl, HB2.out⟩
   | false =>
    go_wp2
    go_roundw
    case rel =>
     refine ⟨k + 1, by omega, by go_num, fun j r hj he => ?_, HB2.out⟩
     rcases Nat.lt_succ_iff_lt_or_eq.1 hj with h | rfl
     ·exact Hr.out j r h he
     ·rw [Hx.out] at he
      cases he
      exact HQ.out
    case measure => simp [intOf]; omega
  ·have hkI : ¬ (k : Int) < l.length := by omega
   have hr : R = none := by
    rw [← HR.out]
    refine idxP_none fun x hx => ?_
    obtain ⟨j, hj⟩ := List.mem_iff_getElem?.1 hx
    exact Hr.out j x (by have := (List.getElem?_eq_some_iff.1 hj).1; omega) hj
   subst hr
   go_wp2
   go_ret
   exact ⟨rfl, HB.out⟩
theorem contExt_any (w : World) (v : Value) (l : List Ext) (hl : SeqAt extS w v l) (g : Nat) (lb : Array Value) (eg : ∀ args w, (callFunc g args).run Tryz.prog w = .ok (.enter g args) w) (p : Ext → Bool) (hp : JudgeX g lb p l w) :
  Calls Tryz.prog 55 #[v, .func (.func g) #[] lb] w fun e w' => e = .returned (.bool (l.any p)) ∧ Below w.heap.size w w' := by
 have H := Lib.hid (idxExt_any w v l hl g lb eg p hp)
 have HI := Lib.hid (idxI_any (f := p) (l := l))
 generalize idxI (idxP p l) = n at *
 obtain ⟨A, c, rfl, h1, h2⟩ := hl.slice
 clear hl hp
 go_enter Tryz.func55, Tryz.ntmps55
 go_wp2_with (go_at_call 112; refine H.out.mono ?_; rintro e w' ⟨rfl, hb⟩; have HB := Lib.hid hb; clear hb)
 go_ret
 exact ⟨ret_bool' (by simp only [HI.out, Bool.decide_eq_true]), HB.out⟩
theorem hstored1_any (w : World) (x : Ext) (g : Nat) (v : Value) (l : List Ses) (hg : Blk w g 25 [v]) (hv : SeqAt sesS w v l) (hl : l.length ≤ 1000) (hs : ∀ y ∈ l, y.str.size ≤ 14680064) (hx : extB x = true) : Calls Tryz.prog 56 #[extV x, .pointer (some ⟨g, 0, none⟩)] w fun e w' => e = .returned (.bool (extOut l x)) ∧ Below w.heap.size w w' := by
 obtain ⟨s, o, n⟩ := x
 have hx := of_decide_eq_true hx
 dsimp only at hx
 rw [extV]
 dsimp only
 have hK := Blk.new w 128 [.int .i64 s, .int .i64 o, .int .i64 n]
 change Blk (w.alloc (.cells #[.int .i64 s, .int .i64 o, .int .i64 n] 128)) _ _ _ at hK
 have hB := (Below.refl w.heap.size w).alloc (Nat.le_refl _) (.cells #[.int .i64 s, .int .i64 o, .int .i64 n] 128)
 have hG := hg.alloc (.cells #[.int .i64 s, .int .i64 o, .int .i64 n] 128)
 have HS := Lib.hid (hv.below hB)
 obtain ⟨A, c, rfl, _, _⟩ := hv.slice
 have HB := Lib.hid hB
 have HK := Lib.hid hK
 have HG := Lib.hid hG
 obtain ⟨R, hR⟩ : ∃ R, extOut l ⟨s, o, n⟩ = R := ⟨_, rfl⟩
 rw [hR]
 unfold extOut at hR
 dsimp only at hR
 clear hv hK hB hG hg
 by_cases h0 : s = 0
 ·have i0 : (s == 0) = true := by rw [h0]; rfl
  rw [if_pos h0] at hR
  subst hR
  have c0 := HK.out.cell (i := 0) rfl
  clear h0
  go_enter Tryz.func56, Tryz.ntmps56
  go_wp2
  go_ret
  exact ⟨rfl, HB.out⟩
 ·have i0 : (s == 0) = false := beq_eq_false_iff_ne.2 h0
  rw [if_neg h0] at hR
  by_cases h1 : (l.length : Int) < s
  ·rw [if_pos h1] at hR
   subst hR
   have hd : decide ((l.length : Int) < s) = true := decide_eq_true h1
   go_enter Tryz.func56, Tryz.ntmps56
   go_upto_region 1 with fail
   generalize w.alloc (.cells #[.int .i64 s, .int .i64 o, .int .i64 n] 128) = wa at *
   have c0 := HK.out.cell (i := 0) rfl
   have c1 := HK.out.cell (i := 1) rfl
   have c2 := HK.out.cell (i := 2) rfl
   have g0 := HG.out.cell (i := 0) rfl
   go_upto_region 3 with fail
   go_quiet (fail)
   go_wp2
   go_ret
   exact ⟨by first | rfl | exact ret_bool' (by simp), by first | exact HB.out | exact blwN HB.out _⟩
  ·rw [if_neg h1] at hR
   obtain ⟨j, hj⟩ : ∃ j : Nat, s = (j : Int) + 1 := ⟨(s - 1).toNat, by omega⟩
   subst hj
   have hjl : j < l.length := by omega
   obtain ⟨y, hy⟩ : ∃ y, l[j]? = some y := ⟨_, List.getElem?_eq_getElem hjl⟩
   have hys := hs y (List.mem_of_getElem? hy)
   rw [show (((j : Int) + 1 - 1).toNat) = j by omega, hy] at hR
   have hR : decide ((y.str.size : Int) < o + n) = R := hR
   have hd : decide ((l.length : Int) < (j : Int) + 1) = false := decide_eq_false h1
   have hw1 : IntKind.i64.wrap (o + n) = o + n := IntWalk.i64_in _ (by omega)
   have hw2 : IntKind.i64.wrap ((j : Int) + 1 - 1) = (j : Int) := by rw [IntWalk.i64_in _ (by omega)]; omega
   have hw3 : (j : Int) + 1 - 1 = (j : Int) := by omega
   have hjI : (j : Int) < (l.length : Int) := by omega
   obtain ⟨_, _, e9, _, _, h4⟩ := HS.out
   cases e9
   obtain ⟨b, ob, cs, rfl, ⟨ve, rfl, _⟩, hc⟩ := h4 j y hy
   have e4 : (w.alloc (.cells #[.int .i64 ((j : Int) + 1), .int .i64 o, .int .i64 n] 128)).cell? ⟨b, ob + j * 6 + 4, none⟩ = some (.string y.str) := hc 4 _ rfl
   have HE4 := Lib.hid e4
   clear e4 hc h4 hy hs hjl
   go_enter Tryz.func56, Tryz.ntmps56
   go_upto_region 1 with fail
   generalize w.alloc (.cells #[.int .i64 ((j : Int) + 1), .int .i64 o, .int .i64 n] 128) = wa at *
   have c0 := HK.out.cell (i := 0) rfl
   have c1 := HK.out.cell (i := 1) rfl
   have c2 := HK.out.cell (i := 2) rfl
   have g0 := HG.out.cell (i := 0) rfl
   have e4 := HE4.out
   go_upto_region 3 with fail
   go_quiet (fail)
   go_wp2
   go_ret
   exact ⟨by first | exact ret_bool' hR | exact ret_bool' (by simp) | (rw [← hR]; rfl), by first | exact HB.out | exact blwN HB.out _⟩
theorem hstored_any (w : World) (v : Value) (l : List Ses) (hv : SeqAt sesS w v l) (hl : l.length ≤ 1000) (hs : ∀ y ∈ l, y.str.size ≤ 14680064) (e : Ent) (va vx : Value) (h1a : va.oneCell' = true) (hvx : SeqAt extS w vx e.exts) (hx : ∀ x ∈ e.exts, extB x = true) : Calls Tryz.prog 31 #[v, entV e va vx] w fun r w' => r = .returned (.bool (storedB l e)) ∧ Below w.heap.size w w' := by
 have hsz1 : (w.alloc (.cells #[v] 25)).heap.size = w.heap.size + 1 := by simp
 have hb1 := (Below.refl w.heap.size w).alloc (Nat.le_refl _) (.cells #[v] 25)
 have hb2 := hb1.alloc hb1.size (.cells #[.int .i64 e.k, .string e.path, va, .string e.tgt, .int .i64 e.size, .string e.dig, vx] 48)
 have hG := (Blk.new w 25 [v]).alloc (.cells #[.int .i64 e.k, .string e.path, va, .string e.tgt, .int .i64 e.size, .string e.dig, vx] 48)
 change Blk ((w.alloc (.cells #[v] 25)).alloc (.cells #[.int .i64 e.k, .string e.path, va, .string e.tgt, .int .i64 e.size, .string e.dig, vx] 48)) w.heap.size 25 [v] at hG
 have hK := Blk.new (w.alloc (.cells #[v] 25)) 48 [.int .i64 e.k, .string e.path, va, .string e.tgt, .int .i64 e.size, .string e.dig, vx]
 rw [hsz1] at hK
 change Blk ((w.alloc (.cells #[v] 25)).alloc (.cells #[.int .i64 e.k, .string e.path, va, .string e.tgt, .int .i64 e.size, .string e.dig, vx] 48)) (w.heap.size + 1) 48 _ at hK
 have c6 := hK.cell (i := 6) rfl
 have HX := Lib.hid (contExt_any _ vx e.exts (hvx.below hb2) 56 #[.pointer (some ⟨w.heap.size, 0, none⟩)] (enters_of Tryz.func56 (by kernel_rfl) rfl) (extOut l) (fun W x hW hxm => hstored1_any W x w.heap.size v l (hG.kept hW) (hv.below (hb2.trans (hW.mono hb2.size))) hl hs (hx x hxm)))
 have HB := Lib.hid hb2
 unfold storedB
 generalize e.exts.any (extOut l) = Q at *
 obtain ⟨A, c, rfl, _, _⟩ := hv.slice
 obtain ⟨Ax, cx, rfl, _, _⟩ := hvx.slice
 rw [entV]
 clear hv hvx hG hK hb1 hb2 hsz1 hs hx
 go_enter Tryz.func31, Tryz.ntmps31
 go_wp2_with fail
 refine HX.out.mono ?_
 rintro e1 w1 ⟨rfl, hb1⟩
 have HB1 := Lib.hid (HB.out.trans (hb1.mono HB.out.size))
 clear hb1
 go_wp2_with fail
 go_ret
 exact ⟨by first | rfl | exact ret_bool' (by cases Q <;> rfl), HB1.out⟩
end
end Go.Proofs.YthkjphebhafgoaaGreatDoor
