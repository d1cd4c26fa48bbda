/-
 WALKS: syncmark.Distance, within, first, Find.
 WALK: scan.at.
 WALKS: scan.sightings and its iterator.
 WALK: scan.Piece.
 WALK: scan.Join, over a slice of valid frames.
 WALK: steleref13.Make on a payload of one byte.
 WALK: stelelaw14.awake.
-/
import Derived.Test.YtnlnmfkmbpihhaaGreatDoorFrN
import Derived.Test.YtnlnmfkmbpihhaaGreatDoorPolW
import Derived.Test.YtnlnmfkmbpihhaaGreatDoorFrK
import Derived.Test.YtnlnmfkmbpihhaaGreatDoorEncC
import Derived.Test.YtnlnmfkmbpihhaaGreatDoorRangeOwn
import Derived.Test.YtnlnmfkmbpihhaaGreatDoorFrE
import Derived.Test.YtnlnmfkmbpihhaaGreatDoorShelf
import Derived.RangeFuncBox
import Derived.OwnWalkIn
import Derived.Deep.WholeRow
namespace Go.Proofs.YtnlnmfkmbpihhaaGreatDoor
open Go.RowKit

theorem vintS {k : IntKind} {a b : Int} (h : a = b) : Value.int k a = Value.int k b := by rw [h]
theorem mark_at (i : Nat) (h : i < 16) : ((⟨#[49, 49, 49, 49, 49, 48, 48, 49, 49, 48, 49, 48, 49, 48, 48, 48]⟩ : ByteArray)[i]'h).toNat = cf markL i := by
 rw [← bs_cf]
 rw [markL_eq]
 rfl
set_option maxRecDepth 100000 in
set_option maxHeartbeats 8000000 in
theorem mkdist_any (w : World) (s : ByteArray) (k : Nat) (hk : k + 16 ≤ s.size) (hs : s.size ≤ 1000000) :
  Calls Tryz.prog 47 #[.string s, .int .i64 (k : Int)] w fun e w' => e = .returned (.int .i64 ((16 - mt (bs s) k 16 : Nat) : Int)) ∧ Below w.heap.size w w' := by
 go_enter Tryz.func47, Tryz.ntmps47
 go_wp2
 go_loopw [5, 37] (fun n x wr => ∃ i : Nat, i ≤ 16 ∧ x = .int .i64 (i : Int) ∧ n = .int .i64 ((16 - mt (bs s) k i : Nat) : Int) ∧ Below w.heap.size w wr) (fun _ x _ => 16 - (intOf x).toNat)
 case atStart => exact ⟨0, by omega, rfl, rfl, Below.refl _ _⟩
 case round =>
  obtain ⟨i, hi, rfl, rfl, hB⟩ := hrel
  have HBr := Lib.hid hB
  clear hB
  have hm := mt_le (bs s) k i
  by_cases h : i < 16
  ·have hiI : (i : Int) < 16 := by omega
   have hki : k + i < s.size := by omega
   have hx := bs_cf s (k + i) hki
   have hy := mark_at i h
   have Hst : Hid (mt (bs s) k (i + 1) = mt (bs s) k i + if cf (bs s) (k + i) = cf markL i then 1 else 0) := Lib.hid rfl
   rw [hx, ← hy] at Hst
   obtain ⟨M, hM⟩ : ∃ M, mt (bs s) k i = M := ⟨_, rfl⟩
   rw [hM] at Hst hm ⊢
   have hmz : (⟨#[49, 49, 49, 49, 49, 48, 48, 49, 49, 48, 49, 48, 49, 48, 48, 48]⟩ : ByteArray).size = 16 := rfl
   have g1 : decide (k < s.size) = true := decide_eq_true (by omega)
   have g2 : decide ((i : Int) < (s.size : Int) - k) = true := decide_eq_true (by omega)
   have hs1 : IntKind.i64.wrap ((s.size : Int) - k) = (s.size : Int) - k := IntWalk.i64_in _ (by omega)
   have ht1 : IntKind.i64.wrap ((k : Int) + i) = (k : Int) + i := IntWalk.i64_in _ (by omega)
   have ht2 : ((k : Int) + i).toNat = k + i := by omega
   have ht3 : (0 : Int) ≤ (k : Int) + i := by omega
   have ht4 : (k : Int) + i < s.size := by omega
   clear hx hy hM hk
   by_cases he : (s[k + i]'hki).toNat = ((⟨#[49, 49, 49, 49, 49, 48, 48, 49, 49, 48, 49, 48, 49, 48, 48, 48]⟩ : ByteArray)[i]'h).toNat
   ·have hst := Hst.out
    rw [if_pos he] at hst
    have Hst := Lib.hid hst
    have hcmp : ((((s[k + i]'hki).toNat : Nat) : Int) == (((⟨#[49, 49, 49, 49, 49, 48, 48, 49, 49, 48, 49, 48, 49, 48, 48, 48]⟩ : ByteArray)[i]'h).toNat : Int)) = true := by rw [beq_iff_eq, he]
    clear hst he
    go_wp2
    go_quiet (fail)
    go_wp2
    clear hs1 ht1 ht2 ht3 ht4 hcmp g1 g2
    go_roundw
    case rel => exact ⟨i + 1, by omega, by go_num, vintS (by rw [Hst.out]; omega), below_drewN HBr.out nq⟩
    case measure => simp [intOf]; omega
   ·have hst := Hst.out
    rw [if_neg he, Nat.add_zero] at hst
    have Hst := Lib.hid hst
    have hcmp : ((((s[k + i]'hki).toNat : Nat) : Int) == (((⟨#[49, 49, 49, 49, 49, 48, 48, 49, 49, 48, 49, 48, 49, 48, 48, 48]⟩ : ByteArray)[i]'h).toNat : Int)) = false := by rw [beq_eq_false_iff_ne]; omega
    clear hst he
    go_wp2
    go_quiet (fail)
    go_wp2
    clear hs1 ht1 ht2 ht3 ht4 hcmp g1 g2
    go_roundw
    case rel => exact ⟨i + 1, by omega, by go_num, vintS (by rw [Hst.out]; omega), below_drewN HBr.out nq⟩
    case measure => simp [intOf]; omega
  ·obtain rfl : i = 16 := by omega
   go_wp2
   go_ret
   exact ⟨rfl, HBr.out⟩

/-- Is there room for a mark? -/
def roomB (n k : Nat) : Bool := decide (k + 16 ≤ n)
set_option maxHeartbeats 1000000 in
theorem mkwithin_any (w : World) (s : ByteArray) (k : Nat) (hk : k ≤ 10000000) (hs : s.size ≤ 1000000) :
  Calls Tryz.prog 88 #[.string s, .int .i64 (k : Int)] w fun e w' => e = .returned (.bool (roomB s.size k)) ∧ w = w' := by
 have h0 : (0 : Int) ≤ k := by omega
 by_cases h1 : k ≤ s.size
 ·have h1I : (k : Int) ≤ s.size := by omega
  have hs1 : IntKind.i64.wrap ((s.size : Int) - k) = (s.size : Int) - k := IntWalk.i64_in _ (by omega)
  by_cases h2 : k + 16 ≤ s.size
  ·have h2I : (16 : Int) ≤ (s.size : Int) - k := by omega
   have e : roomB s.size k = true := decide_eq_true h2
   rw [e]
   clear h1 h2 e
   go_enter Tryz.func88, Tryz.ntmps88
   go_wp2
   go_ret
   exact ⟨rfl, rfl⟩
  ·have h2I : ¬ (16 : Int) ≤ (s.size : Int) - k := by omega
   have e : roomB s.size k = false := decide_eq_false h2
   rw [e]
   clear h1 h2 e
   go_enter Tryz.func88, Tryz.ntmps88
   go_wp2
   go_ret
   exact ⟨rfl, rfl⟩
 ·have h1I : ¬ (k : Int) ≤ s.size := by omega
  have e : roomB s.size k = false := decide_eq_false (by omega)
  rw [e]
  clear h1 e
  go_enter Tryz.func88, Tryz.ntmps88
  go_wp2
  go_ret
  exact ⟨rfl, rfl⟩
set_option maxHeartbeats 1000000 in
theorem mkfind1_any (w : World) (s : ByteArray) (b k : Nat) (hk : k + 16 ≤ s.size) (hs : s.size ≤ 1000000) (hc : w.cell? ⟨b, 0, none⟩ = some (.string s)) :
  Calls Tryz.prog 46 #[.int .i64 (k : Int), .pointer (some ⟨b, 0, none⟩)] w fun e w' => e = .returned (.bool (hit (bs s) k)) ∧ Below w.heap.size w w' := by
 have HD := Lib.hid (mkdist_any w s k hk hs)
 have hm := mt_le (bs s) k 16
 have e : hit (bs s) k = decide (((16 - mt (bs s) k 16 : Nat) : Int) ≤ 2) := by
  unfold hit
  by_cases h : 14 ≤ mt (bs s) k 16
  ·rw [decide_eq_true h, decide_eq_true (by omega)]
  ·rw [decide_eq_false h, decide_eq_false (by omega)]
 obtain ⟨H, hH⟩ : ∃ H, hit (bs s) k = H := ⟨_, rfl⟩
 rw [hH] at e ⊢
 have He := Lib.hid e
 clear hk hm e hH
 generalize 16 - mt (bs s) k 16 = M at *
 go_enter Tryz.func46, Tryz.ntmps46
 go_wp2_with (go_at_call 47; refine HD.out.mono ?_; rintro e w' ⟨rfl, hb⟩)
 go_ret
 exact ⟨ret_bool (by rw [He.out]), hb⟩
def findR : Option Nat → Value
 | some k => .tuple #[.int .i64 (k : Int), .bool true]
 | none => .tuple #[.int .i64 0, .bool false]
set_option maxRecDepth 100000 in
set_option maxHeartbeats 4000000 in
theorem mkfirst_any (w : World) (s : ByteArray) (b i : Nat) (hi : i ≤ 5000000) (hs : s.size ≤ 1000000) (hc : w.cell? ⟨b, 0, none⟩ = some (.string s)) :
  Calls Tryz.prog 45 #[.string s, .int .i64 (i : Int), .func (.func 46) #[] #[.pointer (some ⟨b, 0, none⟩)]] w fun e w' => e = .returned (findR (findL (bs s) i)) ∧ Below w.heap.size w w' := by
 obtain ⟨R, hR⟩ : ∃ R, findL (bs s) i = R := ⟨_, rfl⟩
 rw [hR]
 have HR := Lib.hid hR
 have Hc := Lib.hid hc
 have hmx : max (i : Int) 0 = (i : Int) := by omega
 clear hR hc
 go_enter Tryz.func45, Tryz.ntmps45
 go_wp2
 go_loopw [8] (fun x wr => ∃ k : Nat, k ≤ 5000000 + s.size ∧ x = .int .i64 (k : Int) ∧ findL (bs s) k = R ∧ (i ≤ k ∧ (k = i ∨ k ≤ s.size)) ∧ Below w.heap.size w wr) (fun x _ => s.size + 1 - (intOf x).toNat)
 case atStart => exact ⟨i, by omega, vintS (by omega), HR.out, ⟨Nat.le_refl _, .inl rfl⟩, Below.refl _ _⟩
 case round =>
  obtain ⟨k, hk, rfl, hf, hik, hB⟩ := hrel
  have Hf := Lib.hid hf
  have HBr := Lib.hid hB
  have Hik := Lib.hid hik
  have Hw := Lib.hid (mkwithin_any wr s k (by omega) hs)
  clear hf hB hik
  by_cases h : k + 16 ≤ s.size
  ·have hroom : roomB s.size k = true := decide_eq_true h
   rw [hroom] at Hw
   have Hm := Lib.hid (mkfind1_any wr s b k h hs (cell_below HBr.out Hc.out))
   have hst := findL_step (bs s) k
   rw [Hf.out, if_pos (by rw [bs_len]; exact h)] at hst
   cases hh : hit (bs s) k with
   | true =>
    rw [hh] at Hm hst
    have Hst : Hid (R = some k) := Lib.hid hst
    clear hst hh hroom
    go_wp2_with (first | (go_at_call 88; refine Hw.out.mono ?_; rintro e w' ⟨rfl, rfl⟩) | (go_at_call 46; refine Hm.out.mono ?_; rintro e w1 ⟨rfl, hb1⟩))
    go_ret2
    exact ⟨by rw [Hst.out]; rfl, HBr.out.trans (hb1.mono HBr.out.size)⟩
   | false =>
    rw [hh] at Hm hst
    have Hst : Hid (R = findL (bs s) (k + 1)) := Lib.hid hst
    clear hst hh hroom
    go_wp2_with (first | (go_at_call 88; refine Hw.out.mono ?_; rintro e w' ⟨rfl, rfl⟩) | (go_at_call 46; refine Hm.out.mono ?_; rintro e w1 ⟨rfl, hb1⟩))
    go_roundw
    case rel => exact ⟨k + 1, by omega, by go_num, Hst.out.symm, ⟨by have := Hik.out; omega, .inr (by omega)⟩, HBr.out.trans (hb1.mono HBr.out.size)⟩
    case measure => simp [intOf]; omega
  ·have hroom : roomB s.size k = false := decide_eq_false h
   rw [hroom] at Hw
   have hn := findL_none (l := bs s) (i := k) (by rw [bs_len]; omega)
   rw [Hf.out] at hn
   have Hn := Lib.hid hn
   clear hn hroom
   go_wp2_with (go_at_call 88; refine Hw.out.mono ?_; rintro e w' ⟨rfl, rfl⟩)
   go_ret2
   exact ⟨by rw [Hn.out]; rfl, HBr.out⟩
set_option maxHeartbeats 1000000 in
theorem mkfind_any (w : World) (s : ByteArray) (i : Nat) (hi : i ≤ 5000000) (hs : s.size ≤ 1000000) :
  Calls Tryz.prog 16 #[.string s, .int .i64 (i : Int)] w fun e w' => e = .returned (findR (findL (bs s) i)) ∧ Below w.heap.size w w' := by
 have hn : (w.alloc (.cells #[.string s] 9)).cell? ⟨w.heap.size, 0, none⟩ = some (.string s) := Blk.cell (Blk.new w 9 [.string s]) (i := 0) rfl
 have HF := Lib.hid (mkfirst_any (w.alloc (.cells #[.string s] 9)) s w.heap.size i hi hs hn)
 have HA := Lib.hid ((Below.refl w.heap.size w).alloc (Nat.le_refl _) (.cells #[.string s] 9))
 obtain ⟨R, hR⟩ : ∃ R, findL (bs s) i = R := ⟨_, rfl⟩
 rw [hR] at HF ⊢
 clear hn hR
 cases R with
 | none =>
  unfold findR at HF ⊢
  go_enter Tryz.func16, Tryz.ntmps16
  go_wp2_with (go_at_call 45; refine HF.out.mono ?_; rintro e w1 ⟨rfl, hb1⟩)
  go_ret2
  exact ⟨rfl, HA.out.trans (hb1.mono HA.out.size)⟩
 | some k =>
  unfold findR at HF ⊢
  go_enter Tryz.func16, Tryz.ntmps16
  go_wp2_with (go_at_call 45; refine HF.out.mono ?_; rintro e w1 ⟨rfl, hb1⟩)
  go_ret2
  exact ⟨rfl, HA.out.trans (hb1.mono HA.out.size)⟩

end Go.Proofs.YtnlnmfkmbpihhaaGreatDoor

namespace Go.Proofs.YtnlnmfkmbpihhaaGreatDoor
open Go.RowKit

theorem Tryz.sizeSight : (Tryz.prog.info? 38).map (·.size) = some 14 := by kernel_rfl
theorem sgt_store {ops : Array Oper} {rest : List Oper} {op : Oper} {a : Act} {W : World} {Q : Exit → Act → World → Prop} (hgd : op.guard = none) (x y : Operand) (ho : op.op = .store 38 x y)
  (b : Nat) (cells : Array Value) (hx : a.eval x = .pointer (some ⟨b, 0, none⟩)) (hy : a.eval y = .agg cells)
  (ht : W.there b 0 cells.size) (h14 : cells.size = 14) (h1 : cells.all (·.oneCell') = true) (W1 : World) (hE : W.setCells b 0 cells.toList = W1)
  (h : wpList Tryz.prog ops Q rest (a.put op.dst undef) W1) : wpList Tryz.prog ops Q (op :: rest) a W :=
 wpList_store_mid hgd 38 x y ho b 0 cells hx hy ht (by rw [h14]; exact Tryz.sizeSight) h1 (by rw [hE]; exact h)
def sgt0 : Sgt := ⟨0, 0, frm0, qua0⟩
/-- What scan.at answers. -/
def tryP (s : ByteArray) (o : Nat) : Sgt × Bool :=
 if enoughAt s o then (⟨0, o, (decP (bodyAt s o)).1, (decP (bodyAt s o)).2.1⟩, (decP (bodyAt s o)).2.2 == 0) else (sgt0, false)
theorem tryP_try (s : ByteArray) (o : Nat) : tryAt s o = if (tryP s o).2 then some (tryP s o).1 else none := by
 unfold tryAt tryP
 split
 ·by_cases h : (decP (bodyAt s o)).2.2 = 0
  ·rw [if_pos h, if_pos (by rw [beq_iff_eq]; exact h)]
  ·rw [if_neg h, if_neg (by rw [beq_iff_eq]; exact h)]
 ·rfl
def zero14 : List Value := [.int .i64 0, .int .i64 0, .int .i64 0, .int .i64 0, .int .i64 0, .int .i64 0, .int .i64 0, .int .i64 0, .int .i64 0, .int .u32 0, .string ⟨#[]⟩, .int .i64 0, .int .i64 0, .int .i64 0]

set_option maxRecDepth 100000 in
set_option maxHeartbeats 8000000 in
theorem scat_any (w : World) (s : ByteArray) (o : Nat) (ho : o + 16 ≤ s.size) (hs : s.size ≤ 1000000) :
  Calls Tryz.prog 87 #[.string s, .int .i64 (o : Int)] w fun e w' => e = .returned (.tuple #[(tryP s o).1.v, .bool (tryP s o).2]) ∧ Below w.heap.size w w' := by
 obtain ⟨R, hR⟩ : ∃ R, Value.tuple #[(tryP s o).1.v, .bool (tryP s o).2] = R := ⟨_, rfl⟩
 rw [hR]
 have HZ := Lib.hid (Blk.new w 38 zero14)
 have HBz := Lib.hid ((Below.refl w.heap.size w).alloc (Nat.le_refl _) (.cells zero14.toArray 38))
 unfold zero14 at HZ HBz
 change Hid (Blk (w.alloc (.cells #[.int .i64 0, .int .i64 0, .int .i64 0, .int .i64 0, .int .i64 0, .int .i64 0, .int .i64 0, .int .i64 0, .int .i64 0, .int .u32 0, .string ⟨#[]⟩, .int .i64 0, .int .i64 0, .int .i64 0] 38)) _ _ _) at HZ
 change Hid (Below w.heap.size w (w.alloc (.cells #[.int .i64 0, .int .i64 0, .int .i64 0, .int .i64 0, .int .i64 0, .int .i64 0, .int .i64 0, .int .i64 0, .int .i64 0, .int .u32 0, .string ⟨#[]⟩, .int .i64 0, .int .i64 0, .int .i64 0] 38))) at HBz
 obtain ⟨E, hE⟩ : ∃ E, min (o + 852) s.size = E := ⟨_, rfl⟩
 have hEI : min ((o : Int) + 852) (s.size : Int) = (E : Int) := by omega
 have hE2 : E ≤ s.size := by omega
 have hE3 : o + 16 ≤ E := by omega
 have hE4 : (o : Int) + 16 ≤ E := by omega
 have hE5 : (E : Int) ≤ s.size := by omega
 have hw1 : IntKind.i64.wrap ((o : Int) + 16) = (o : Int) + 16 := IntWalk.i64_in _ (by omega)
 have hw2 : IntKind.i64.wrap ((o : Int) + 852) = (o : Int) + 852 := IntWalk.i64_in _ (by omega)
 have ht1 : ((o : Int) + 16).toNat = o + 16 := by omega
 have ht2 : (0 : Int) ≤ (o : Int) + 16 := by omega
 obtain ⟨Bd, hBd⟩ : ∃ Bd, s.extract (o + 16) E = Bd := ⟨_, rfl⟩
 have hBd2 : bodyAt s o = Bd := by unfold bodyAt; rw [hE, hBd]
 have hBz : Bd.size ≤ 836 := by rw [← hBd2, bodyAt_size ho]; omega
 have hcl : (bs Bd).count 63 ≤ Bd.size := by rw [← bs_len]; exact List.count_le_length
 have hen : enoughAt s o = decide (400 ≤ (Bd.size : Int) - ((bs Bd).count 63 : Nat)) := by unfold enoughAt; rw [hBd2]
 have hdec := decP_eq Bd
 have HU := Lib.hid (fun W => cunr_any W Bd)
 have HD := Lib.hid (fun W => fdec_any W Bd (by omega))
 rw [hdec] at HD
 unfold tryP at hR
 rw [hen, hBd2] at hR
 clear hen hBd2 hdec hE
 obtain ⟨C, hC⟩ : ∃ C, (bs Bd).count 63 = C := ⟨_, rfl⟩
 rw [hC] at HU hcl hR
 obtain ⟨⟨⟨k, r, q, i, l, d, p, a, t⟩, ⟨x, y, z⟩, e0⟩, hP⟩ : ∃ P, decP Bd = P := ⟨_, rfl⟩
 rw [hP] at HD hR
 have hsub : IntKind.i64.wrap ((Bd.size : Int) - C) = (Bd.size : Int) - C := IntWalk.i64_in _ (by omega)
 clear hC hP
 unfold Frm.v Qua.v frV qualV at HD
 have HR := Lib.hid hR
 clear hR
 by_cases h4 : 400 ≤ (Bd.size : Int) - C
 ·have h4I : ¬ (Bd.size : Int) - C < 400 := by omega
  have HR2 : Hid (R = .tuple #[.agg #[.int .i64 0, .int .i64 (o : Int), .int .i64 k, .int .i64 r, .int .i64 q, .int .i64 i, .int .i64 l, .int .i64 d, .int .i64 p, .int .u32 a, .string t, .int .i64 x, .int .i64 y, .int .i64 z], .bool (e0 == 0)]) := Lib.hid (by rw [← HR.out, if_pos (decide_eq_true h4)]; rfl)
  clear h4 HR
  go_enter Tryz.func87, Tryz.ntmps87
  go_upto_region 1 with fail
  generalize w.alloc (.cells #[.int .i64 0, .int .i64 0, .int .i64 0, .int .i64 0, .int .i64 0, .int .i64 0, .int .i64 0, .int .i64 0, .int .i64 0, .int .u32 0, .string ⟨#[]⟩, .int .i64 0, .int .i64 0, .int .i64 0] 38) = wz at *
  go_upto_region 4 with (go_at_call 49; refine (HU.out _).mono ?_; rintro e w' ⟨rfl, rfl⟩)
  clear hw1 hw2 ht1 ht2 hEI hBd hsub h4I
  go_upto_region 5 with (go_at_call 17; refine (HD.out _).mono ?_; rintro e w1 ⟨rfl, hb1⟩)
  obtain ⟨hA, hX⟩ := decd_new w1 k r q i l d p a t x y z
  have hb := hb1.trans (hA.mono hb1.size)
  have hZ2 := HZ.out.kept hb
  have hB2 := HBz.out.trans (hb.mono HBz.out.size)
  clear hb1 hA hb HZ HBz HD HU
  generalize (w1.alloc (.cells #[.int .i64 k, .int .i64 r, .int .i64 q, .int .i64 i, .int .i64 l, .int .i64 d, .int .i64 p, .int .u32 a, .string t] 34)).alloc (.cells #[.int .i64 x, .int .i64 y, .int .i64 z] 36) = v1 at *
  generalize w1.heap.size = g1 at *
  obtain ⟨⟨c0, c1, c2, c3, c4, c5, c6, c7, c8⟩, d0, d1, d2⟩ := hX
  have HF := Lib.hid (setCells_blk [.int .i64 0, .int .i64 (o : Int), .int .i64 k, .int .i64 r, .int .i64 q, .int .i64 i, .int .i64 l, .int .i64 d, .int .i64 p, .int .u32 a, .string t, .int .i64 x, .int .i64 y, .int .i64 z] [] _ v1 hZ2 rfl)
  have HG := Lib.hid (setCells_below hB2 (Nat.le_refl _) [.int .i64 0, .int .i64 (o : Int), .int .i64 k, .int .i64 r, .int .i64 q, .int .i64 i, .int .i64 l, .int .i64 d, .int .i64 p, .int .u32 a, .string t, .int .i64 x, .int .i64 y, .int .i64 z] 0)
  have HT := Lib.hid hZ2.there
  obtain ⟨W1, hE⟩ : ∃ W1, v1.setCells w.heap.size 0 [.int .i64 0, .int .i64 (o : Int), .int .i64 k, .int .i64 r, .int .i64 q, .int .i64 i, .int .i64 l, .int .i64 d, .int .i64 p, .int .u32 a, .string t, .int .i64 x, .int .i64 y, .int .i64 z] = W1 := ⟨_, rfl⟩
  have HE := Lib.hid hE
  have HO : Hid ((#[Value.int .i64 0, Value.int .i64 (o : Int), Value.int .i64 k, Value.int .i64 r, Value.int .i64 q, Value.int .i64 i, Value.int .i64 l, Value.int .i64 d, Value.int .i64 p, Value.int .u32 a, Value.string t, Value.int .i64 x, Value.int .i64 y, Value.int .i64 z] : Array Value).all (·.oneCell') = true) := Lib.hid (by simp [Value.oneCell'])
  rw [hE] at HG
  have HF2 : Hid (Blk W1 w.heap.size 38 _) := Lib.hid (hE ▸ HF.out)
  clear hZ2 hB2 hE HF
  go_wp2_with (refine sgt_store rfl (.tmp 4) (.tmp 35) rfl _ _ rfl rfl HT.out rfl HO.out W1 HE.out ?_)
  have hF := HF2.out
  clear c0 c1 c2 c3 c4 c5 c6 c7 c8 d0 d1 d2
  have m0 := hF.cell (i := 0) rfl
  have m1 := hF.cell (i := 1) rfl
  have m2 := hF.cell (i := 2) rfl
  have m3 := hF.cell (i := 3) rfl
  have m4 := hF.cell (i := 4) rfl
  have m5 := hF.cell (i := 5) rfl
  have m6 := hF.cell (i := 6) rfl
  have m7 := hF.cell (i := 7) rfl
  have m8 := hF.cell (i := 8) rfl
  have m9 := hF.cell (i := 9) rfl
  have m10 := hF.cell (i := 10) rfl
  have m11 := hF.cell (i := 11) rfl
  have m12 := hF.cell (i := 12) rfl
  have m13 := hF.cell (i := 13) rfl
  rw [HR2.out]
  exact bodyPost_ret (v := .tuple #[.agg #[.int .i64 0, .int .i64 (o : Int), .int .i64 k, .int .i64 r, .int .i64 q, .int .i64 i, .int .i64 l, .int .i64 d, .int .i64 p, .int .u32 a, .string t, .int .i64 x, .int .i64 y, .int .i64 z], .bool (e0 == 0)]) (by simp [results, Tryz.results87, go_sem, m0, m1, m2, m3, m4, m5, m6, m7, m8, m9, m10, m11, m12, m13]) rfl ⟨rfl, HG.out⟩
 ·have h4I : (Bd.size : Int) - C < 400 := by omega
  have HR2 : Hid (R = .tuple #[.agg #[.int .i64 0, .int .i64 0, .int .i64 0, .int .i64 0, .int .i64 0, .int .i64 0, .int .i64 0, .int .i64 0, .int .i64 0, .int .u32 0, .string ⟨#[]⟩, .int .i64 0, .int .i64 0, .int .i64 0], .bool false]) := Lib.hid (by rw [← HR.out, if_neg (by simpa using h4)]; rfl)
  clear h4 HR
  go_enter Tryz.func87, Tryz.ntmps87
  go_upto_region 1 with fail
  generalize w.alloc (.cells #[.int .i64 0, .int .i64 0, .int .i64 0, .int .i64 0, .int .i64 0, .int .i64 0, .int .i64 0, .int .i64 0, .int .i64 0, .int .u32 0, .string ⟨#[]⟩, .int .i64 0, .int .i64 0, .int .i64 0] 38) = wz at *
  go_upto_region 3 with (go_at_call 49; refine (HU.out _).mono ?_; rintro e w' ⟨rfl, rfl⟩)
  clear hw1 hw2 ht1 ht2 hEI hBd hsub h4I
  have hZ2 := HZ.out
  have hB2 := HBz.out
  clear HZ HBz HD HU
  have HF := Lib.hid (setCells_blk [.int .i64 0, .int .i64 0, .int .i64 0, .int .i64 0, .int .i64 0, .int .i64 0, .int .i64 0, .int .i64 0, .int .i64 0, .int .u32 0, .string ⟨#[]⟩, .int .i64 0, .int .i64 0, .int .i64 0] [] _ wz hZ2 rfl)
  have HG := Lib.hid (setCells_below hB2 (Nat.le_refl _) [.int .i64 0, .int .i64 0, .int .i64 0, .int .i64 0, .int .i64 0, .int .i64 0, .int .i64 0, .int .i64 0, .int .i64 0, .int .u32 0, .string ⟨#[]⟩, .int .i64 0, .int .i64 0, .int .i64 0] 0)
  have HT := Lib.hid hZ2.there
  obtain ⟨W1, hE⟩ : ∃ W1, wz.setCells w.heap.size 0 [.int .i64 0, .int .i64 0, .int .i64 0, .int .i64 0, .int .i64 0, .int .i64 0, .int .i64 0, .int .i64 0, .int .i64 0, .int .u32 0, .string ⟨#[]⟩, .int .i64 0, .int .i64 0, .int .i64 0] = W1 := ⟨_, rfl⟩
  have HE := Lib.hid hE
  have HO : Hid ((#[Value.int .i64 0, Value.int .i64 0, Value.int .i64 0, Value.int .i64 0, Value.int .i64 0, Value.int .i64 0, Value.int .i64 0, Value.int .i64 0, Value.int .i64 0, Value.int .u32 0, Value.string ⟨#[]⟩, Value.int .i64 0, Value.int .i64 0, Value.int .i64 0] : Array Value).all (·.oneCell') = true) := Lib.hid (by simp [Value.oneCell'])
  rw [hE] at HG
  have HF2 : Hid (Blk W1 w.heap.size 38 _) := Lib.hid (hE ▸ HF.out)
  clear hZ2 hB2 hE HF
  go_wp2_with (refine sgt_store rfl (.tmp 4) (.tmp 25) rfl _ _ rfl rfl HT.out rfl HO.out W1 HE.out ?_)
  have hF := HF2.out
  have m0 := hF.cell (i := 0) rfl
  have m1 := hF.cell (i := 1) rfl
  have m2 := hF.cell (i := 2) rfl
  have m3 := hF.cell (i := 3) rfl
  have m4 := hF.cell (i := 4) rfl
  have m5 := hF.cell (i := 5) rfl
  have m6 := hF.cell (i := 6) rfl
  have m7 := hF.cell (i := 7) rfl
  have m8 := hF.cell (i := 8) rfl
  have m9 := hF.cell (i := 9) rfl
  have m10 := hF.cell (i := 10) rfl
  have m11 := hF.cell (i := 11) rfl
  have m12 := hF.cell (i := 12) rfl
  have m13 := hF.cell (i := 13) rfl
  rw [HR2.out]
  exact bodyPost_ret (v := .tuple #[.agg #[.int .i64 0, .int .i64 0, .int .i64 0, .int .i64 0, .int .i64 0, .int .i64 0, .int .i64 0, .int .i64 0, .int .i64 0, .int .u32 0, .string ⟨#[]⟩, .int .i64 0, .int .i64 0, .int .i64 0], .bool false]) (by simp [results, Tryz.results87, go_sem, m0, m1, m2, m3, m4, m5, m6, m7, m8, m9, m10, m11, m12, m13]) rfl ⟨rfl, HG.out⟩

end Go.Proofs.YtnlnmfkmbpihhaaGreatDoor

namespace Go.Proofs.YtnlnmfkmbpihhaaGreatDoor
open Go.RowKit Go.Shelf
attribute [local go_sem] Oper.semAt_some

def RdS (x : Sgt) (args : Array Value) (_ : World) : Prop := args = #[x.v]
theorem tryP_parts (s : ByteArray) (o : Nat) : ∃ (pc : Int) (at_ : Nat) (k r q i l d p a : Int) (t : ByteArray) (x y z : Int) (b : Bool), tryP s o = (⟨pc, at_, ⟨k, r, q, i, l, d, p, a, t⟩, ⟨x, y, z⟩⟩, b) := by
 obtain ⟨⟨pc, at_, ⟨k, r, q, i, l, d, p, a, t⟩, ⟨x, y, z⟩⟩, b⟩ := tryP s o
 exact ⟨pc, at_, k, r, q, i, l, d, p, a, t, x, y, z, b, rfl⟩

set_option maxHeartbeats 1000000 in
theorem scsights_any (w : World) (s : ByteArray) : Calls Tryz.prog 44 #[.string s] w fun e w' => e = .returned (.func (.func 86) #[] #[.pointer (some ⟨w.heap.size, 0, none⟩)]) ∧ w.alloc (.cells #[.string s] 9) = w' := by
 go_enter Tryz.func44, Tryz.ntmps44
 go_wp2
 go_ret
 exact ⟨rfl, rfl⟩

set_option maxRecDepth 100000 in
set_option maxHeartbeats 8000000 in
theorem sights_all (s : ByteArray) (nb : Nat) (W0 : World) (hs : s.size ≤ 1000000) (hb0 : Boxed W0 nb 9 (.string s)) :
  rangeStr.IterStr Tryz.prog 86 #[.pointer (some ⟨nb, 0, none⟩)] RdS (fun k => k = nb) (scanL s 0) W0 := by
 intro l J W hb hJ hY h0
 have hbx : Boxed W nb 9 (.string s) := (hb.block nb hb0.lt).trans hb0
 have HJ := Lib.hid hJ
 have HY := Lib.hid hY
 have HF : Hid (∀ (V : World) (i : Nat), i ≤ 3000000 → Calls Tryz.prog 16 #[.string s, .int .i64 (i : Int)] V fun e w' => e = .returned (findR (findL (bs s) i)) ∧ Below V.heap.size V w') := Lib.hid (fun V i hi => mkfind_any V s i (by omega) hs)
 have HA : Hid (∀ (V : World) (o : Nat), o + 16 ≤ s.size → Calls Tryz.prog 87 #[.string s, .int .i64 (o : Int)] V fun e w' => e = .returned (.tuple #[(tryP s o).1.v, .bool (tryP s o).2]) ∧ Below V.heap.size V w') := Lib.hid (fun V o ho => scat_any V s o ho hs)
 have Hbx := Lib.hid hbx
 have H0 := Lib.hid h0
 clear hJ hY hbx h0 hb hb0
 refine callsIn_of_wp Tryz.func86 rfl trivial ?_ rfl
 simp only [Tryz.ntmps86, List.size_toArray, List.length_cons, List.length_nil, Nat.reduceAdd, Nat.reduceSub, Array.replicate_succ, Array.replicate_zero, List.push_toArray, List.append_toArray, List.nil_append, List.cons_append]
 gi_wp2
 gi_loopw [3] (fun x wr => ∃ (i : Nat) (pre : List Sgt), i ≤ 3000000 ∧ x = .int .i64 (i : Int) ∧ W.heap.size ≤ wr.heap.size ∧ Boxed wr nb 9 (.string s) ∧ pre ++ scanL s i = scanL s 0 ∧ J pre wr)
  (fun x _ => 3000000 - (intOf x).toNat)
 case atStart => exact ⟨0, [], by omega, rfl, Nat.le_refl _, Hbx.out, rfl, H0.out⟩
 case round =>
  obtain ⟨i, pre, hi, rfl, hsz, hbx, hpre, hj⟩ := hrel
  clear H0 Hbx
  have hcell := hbx.cell
  have Hbx := Lib.hid hbx
  have Hsz := Lib.hid hsz
  have Hpre := Lib.hid hpre
  have Hj := Lib.hid hj
  have HF1 := Lib.hid (HF.out wr i hi)
  obtain ⟨F, hF⟩ : ∃ F, findL (bs s) i = F := ⟨_, rfl⟩
  rw [hF] at HF1
  have HFe := Lib.hid hF
  clear hbx hsz hpre hj hF
  cases F with
  | none =>
   unfold findR at HF1
   have hn := scanL_none HFe.out
   have Hn := Lib.hid hn
   clear hn
   gi_wp2_with fail
   refine ⟨trivial, rfl, ?_⟩
   gi_at_call 16
   refine (callsIn_wide.2 HF1.out).mono ?_
   rintro e w1 ⟨rfl, hb1⟩
   have Hj1 := Lib.hid (HJ.out _ _ _ Hj.out Hsz.out (rangeOwn.Aside.of_below hb1 Hsz.out))
   have Hp2 : Hid (pre = scanL s 0) := Lib.hid (by rw [← Hpre.out, Hn.out, List.append_nil])
   clear hb1
   gi_wp2
   exact bodyPost_ret (results_none rfl _ _ _) rfl ⟨⟨_, rfl⟩, Hp2.out ▸ Hj1.out⟩
  | some o =>
   unfold findR at HF1
   obtain ⟨ho1, ho2⟩ := findL_le HFe.out
   rw [bs_len] at ho2
   have hos : o ≤ 1000000 := by omega
   obtain ⟨pc, at_, k, r, q, c, l1, d, p, a, t, x, y, z, ok, hP⟩ := tryP_parts s o
   have ht := tryP_try s o
   rw [hP] at ht
   have Ht := Lib.hid ht
   have HA1 : Hid (∀ V : World, Calls Tryz.prog 87 #[.string s, .int .i64 (o : Int)] V fun e w' => e = .returned (.tuple #[.agg #[.int .i64 pc, .int .i64 (at_ : Int), .int .i64 k, .int .i64 r, .int .i64 q, .int .i64 c, .int .i64 l1, .int .i64 d, .int .i64 p, .int .u32 a, .string t, .int .i64 x, .int .i64 y, .int .i64 z], .bool ok]) ∧ Below V.heap.size V w') := Lib.hid (fun V => by
    have h := HA.out V o ho2
    rw [hP] at h
    exact h)
   clear ht hP
   have hio : i ≤ o := ho1
   gi_wp2_with fail
   refine ⟨trivial, rfl, ?_⟩
   gi_at_call 16
   refine (callsIn_wide.2 HF1.out).mono ?_
   rintro e w1 ⟨rfl, hb1⟩
   have hbx1 : Boxed w1 nb 9 (.string s) := (hb1.block nb Hbx.out.lt).trans Hbx.out
   have hcell1 := hbx1.cell
   have Hbx1 := Lib.hid hbx1
   have Hj1 := Lib.hid (HJ.out _ _ _ Hj.out Hsz.out (rangeOwn.Aside.of_below hb1 Hsz.out))
   have Hsz1 := Lib.hid (Nat.le_trans Hsz.out hb1.size)
   clear hb1 hbx1 hcell Hbx Hj Hsz HF1
   gi_wp2_with fail
   refine ⟨trivial, rfl, ?_⟩
   gi_at_call 87
   refine (callsIn_wide.2 (HA1.out _)).mono ?_
   rintro e w2 ⟨rfl, hb2⟩
   have hA3 : Below w2.heap.size w2 (w2.alloc (.cells #[.int .i64 pc, .int .i64 (at_ : Int), .int .i64 k, .int .i64 r, .int .i64 q, .int .i64 c, .int .i64 l1, .int .i64 d, .int .i64 p, .int .u32 a, .string t, .int .i64 x, .int .i64 y, .int .i64 z] 38)) := (Below.refl _ _).alloc (Nat.le_refl _) _
   have hb3 := hb2.trans (hA3.mono hb2.size)
   have hbx3 : Boxed (w2.alloc (.cells #[.int .i64 pc, .int .i64 (at_ : Int), .int .i64 k, .int .i64 r, .int .i64 q, .int .i64 c, .int .i64 l1, .int .i64 d, .int .i64 p, .int .u32 a, .string t, .int .i64 x, .int .i64 y, .int .i64 z] 38)) nb 9 (.string s) := (hb3.block nb Hbx1.out.lt).trans Hbx1.out
   have Hbx3 := Lib.hid hbx3
   have Hj3 := Lib.hid (HJ.out _ _ _ Hj1.out Hsz1.out (rangeOwn.Aside.of_below hb3 Hsz1.out))
   have Hsz3 := Lib.hid (Nat.le_trans Hsz1.out hb3.size)
   have hk := Blk.new w2 38 [.int .i64 pc, .int .i64 (at_ : Int), .int .i64 k, .int .i64 r, .int .i64 q, .int .i64 c, .int .i64 l1, .int .i64 d, .int .i64 p, .int .u32 a, .string t, .int .i64 x, .int .i64 y, .int .i64 z]
   change Blk (w2.alloc (.cells #[.int .i64 pc, .int .i64 (at_ : Int), .int .i64 k, .int .i64 r, .int .i64 q, .int .i64 c, .int .i64 l1, .int .i64 d, .int .i64 p, .int .u32 a, .string t, .int .i64 x, .int .i64 y, .int .i64 z] 38)) _ _ _ at hk
   have e0 := hk.cell (i := 0) rfl
   have e1 := hk.cell (i := 1) rfl
   have e2 := hk.cell (i := 2) rfl
   have e3 := hk.cell (i := 3) rfl
   have e4 := hk.cell (i := 4) rfl
   have e5 := hk.cell (i := 5) rfl
   have e6 := hk.cell (i := 6) rfl
   have e7 := hk.cell (i := 7) rfl
   have e8 := hk.cell (i := 8) rfl
   have e9 := hk.cell (i := 9) rfl
   have e10 := hk.cell (i := 10) rfl
   have e11 := hk.cell (i := 11) rfl
   have e12 := hk.cell (i := 12) rfl
   have e13 := hk.cell (i := 13) rfl
   clear hb2 hA3 hb3 hbx3 hcell1 Hbx1 Hj1 Hsz1 HA1 hk
   cases ok with
   | false =>
    have hm := scanL_miss HFe.out Ht.out
    have Hm := Lib.hid hm
    clear hm
    gi_wp2
    go_roundw
    case rel => exact ⟨o + 1, pre, by omega, by go_num, Hsz3.out, Hbx3.out, by rw [← Hm.out]; exact Hpre.out, Hj3.out⟩
    case measure => simp [intOf]; omega
   | true =>
    have hm := scanL_some HFe.out Ht.out
    obtain ⟨X, hX⟩ : ∃ X : Sgt, (⟨pc, at_, ⟨k, r, q, c, l1, d, p, a, t⟩, ⟨x, y, z⟩⟩ : Sgt) = X := ⟨_, rfl⟩
    have hpre := Hpre.out
    rw [hm] at hpre
    have Hpre2 := Lib.hid hpre
    obtain ⟨fn, tmps, assign, body, hy, hR⟩ := HY.out pre ⟨pc, at_, ⟨k, r, q, c, l1, d, p, a, t⟩, ⟨x, y, z⟩⟩ #[.agg #[.int .i64 pc, .int .i64 (at_ : Int), .int .i64 k, .int .i64 r, .int .i64 q, .int .i64 c, .int .i64 l1, .int .i64 d, .int .i64 p, .int .u32 a, .string t, .int .i64 x, .int .i64 y, .int .i64 z]] (w2.alloc (.cells #[.int .i64 pc, .int .i64 (at_ : Int), .int .i64 k, .int .i64 r, .int .i64 q, .int .i64 c, .int .i64 l1, .int .i64 d, .int .i64 p, .int .u32 a, .string t, .int .i64 x, .int .i64 y, .int .i64 z] 38)) Hj3.out rfl ⟨scanL s (o + 852), by rw [← hpre]; simp⟩
    have HR := Lib.hid hR
    clear hR hm hX hpre
    gi_wp2
    refine ⟨rfl, HR.out.mono ?_⟩
    rintro e W1 ⟨rfl, hj1, hk1⟩
    have Hj4 := Lib.hid hj1
    have Hk1 := Lib.hid hk1
    clear hj1 hk1 e0 e1 e2 e3 e4 e5 e6 e7 e8 e9 e10 e11 e12 e13
    gi_wp2
    go_roundw
    case rel => exact ⟨o + 852, _, by omega, by go_num, Nat.le_trans Hsz3.out Hk1.out.1, Hk1.out.2 _ _ Hbx3.out (.inr rfl), by rw [← Hpre2.out]; simp, Hj4.out⟩
    case measure => simp [intOf]; omega

end Go.Proofs.YtnlnmfkmbpihhaaGreatDoor

namespace Go.Proofs.YtnlnmfkmbpihhaaGreatDoor
open Go.RowKit Go.Shelf
attribute [local go_sem] Oper.semAt_some

theorem Tryz.infoSight : (Tryz.prog.info? 38).map (fun i => (i.zero, i.size, i.bytes)) = some (some (.agg zero14.toArray), 14, 120) := by kernel_rfl
/-- A slice value that owns these sightings. -/
def SgtsAt (W : World) (v : Value) (xs : List Sgt) : Prop := W.ownsRow 0 38 14 v xs.length (xs.flatMap Sgt.cells)
/-- What the loop holds: the list so far, in a box; the string's box; nothing below them turned. -/
structure PieceI (w : World) (s : ByteArray) (pre : List Sgt) (W : World) : Prop where
 out : ∃ v, Boxed W w.heap.size 28 v ∧ W.ownsRow w.heap.size 38 14 v pre.length (pre.flatMap Sgt.cells)
 str : Boxed W (w.heap.size + 1) 9 (.string s)
 below : Below w.heap.size w W
theorem own_cells {A B : World} {b n size : Nat} {t : TypeId} {v : Value} {xs : List Value} (h : A.ownsRow b t size v n xs) (hc : ∀ (k : Nat) (o : Obj), A.heap[k]? = some o → o.isCells = true → B.heap[k]? = some o) : B.ownsRow b t size v n xs := by
 refine ⟨h.1, ?_⟩
 rcases h.2 with hn | ⟨g, cap, cur, hv, hbg, hg, rest⟩
 ·exact .inl hn
 ·exact .inr ⟨g, cap, cur, hv, hbg, hc _ _ hg rfl, rest⟩
theorem PieceI.moved {w A B : World} {s : ByteArray} {pre : List Sgt} {n : Nat} (h : PieceI w s pre A) (ha : rangeOwn.Aside rangeStr.No n A B) (hn : w.heap.size ≤ n) : PieceI w s pre B := by
 obtain ⟨⟨v, h1, h2⟩, h3, h4⟩ := h
 have hc : ∀ (k : Nat) (o : Obj), A.heap[k]? = some o → o.isCells = true → B.heap[k]? = some o := fun k o ho hoc => ha.cells k o (fun h => h) ho hoc
 exact ⟨⟨v, hc _ _ h1 rfl, own_cells h2 hc⟩, hc _ _ h3 rfl, ⟨ha.os.trans h4.os, ha.tape.trans h4.tape, ha.output.trans h4.output, Nat.le_trans h4.size ha.size, fun k hk => (ha.low k (by omega) (fun h => h)).trans (h4.block k hk)⟩⟩
/-- The frame at a round's beginning. -/
def pieceTmps (w : World) (s : ByteArray) (g : Nat) (x : Value) : Act :=
 { tmps := #[.string s, undef, .slice none 0 0, .pointer (some ⟨w.heap.size, 0, none⟩), .pointer (some ⟨g, 0, none⟩), .string s, .func (.func 86) #[] #[.pointer (some ⟨w.heap.size + 1, 0, none⟩)], x, undef, undef, undef, undef, undef], defers := [] }
def PieceBd (w : World) (s : ByteArray) (x : Sgt) (_ : Array Value) (a : Act) (W : World) : Prop := ∃ g, a = pieceTmps w s g x.v ∧ Blk W g 38 x.cells
def aggOf : Value → Array Value
 | .agg cs => cs
 | _ => #[]

set_option maxRecDepth 100000 in
set_option maxHeartbeats 8000000 in
theorem scpiece_any (w : World) (s : ByteArray) (hs : s.size ≤ 1000000) :
  Calls Tryz.prog 15 #[.string s] w fun e w' => ∃ v, e = .returned v ∧ SgtsAt w' v (scanL s 0) ∧ Below w.heap.size w w' := by
 have Hs := Lib.hid hs
 refine (callsIn_wide (n := 0)).1 ?_
 refine callsIn_of_wp_marks Tryz.func15 rfl trivial ?_ rfl
 simp only [Tryz.ntmps15, List.size_toArray, List.length_cons, List.length_nil, Nat.reduceAdd, Nat.reduceSub, Array.replicate_succ, Array.replicate_zero, List.push_toArray, List.append_toArray, List.nil_append, List.cons_append]
 gi_wp2_with (refine ⟨trivial, rfl, ?_⟩; gi_at_call 44; refine (callsIn_wide.2 (scsights_any _ _)).mono ?_; rintro e w' ⟨rfl, rfl⟩)
 obtain ⟨W0, hW0⟩ : ∃ W0, (w.alloc (.cells #[.slice none 0 0] 28)).alloc (.cells #[.string s] 9) = W0 := ⟨_, rfl⟩
 have hsz0 : W0.heap.size = w.heap.size + 1 + 1 := by rw [← hW0]; simp
 have hb0 : Below w.heap.size w W0 := by rw [← hW0]; exact (((Below.refl _ _).alloc (Nat.le_refl _) _).alloc (by simp) _)
 have hbx : Boxed W0 (w.heap.size + 1) 9 (.string s) := by
  rw [← hW0]
  have := Boxed.new (w.alloc (.cells #[.slice none 0 0] 28)) 9 (.string s)
  simpa using this
 have hbo : Boxed W0 w.heap.size 28 (.slice none 0 0) := by
  rw [← hW0]
  exact (Boxed.new w 28 (.slice none 0 0)).alloc _
 have hI0 : PieceI w s [] W0 := ⟨⟨_, hbo, World.ownsRow_nil _ _ _ _⟩, hbx, hb0⟩
 have hIt := sights_all s (w.heap.size + 1) W0 Hs.out hbx
 rw [hW0]
 clear hW0 hbx hbo
 refine rangeStr.wpIn_rangeFunc_box (gf := 86) (lb := #[.pointer (some ⟨w.heap.size + 1, 0, none⟩)]) rfl (enters_of Tryz.func86 (by kernel_rfl) rfl) hIt
  (fun x args W hr => by rw [show args = #[x.v] from hr]; rfl)
  (fun args W => pieceTmps w s W.heap.size (args.getD 0 undef)) (fun args W => W.alloc (.cells (aggOf (args.getD 0 undef)) 38)) (fun args W => (Below.refl _ _).alloc (Nat.le_refl _) _)
  (PieceBd w s) (fun x args W hr => ⟨W.heap.size, by rw [show args = #[x.v] from hr]; rfl, by rw [show args = #[x.v] from hr]; exact Blk.new W 38 x.cells⟩)
  (fun x args a A B hbd _ ha => by obtain ⟨g, h1, h2⟩ := hbd; exact ⟨g, h1, ha.cells _ _ (fun h => h) h2 rfl⟩)
  (PieceI w s) (fun q X Y hq _ ha => hq.moved ha (by omega)) hI0 ?assign ?body ?done
 case assign =>
  intro l x args W K hr hK
  obtain rfl : args = #[x.v] := hr
  obtain ⟨pc, at_, ⟨k, r, q, c, l1, d, p, a, t⟩, ⟨x, y, z⟩⟩ := x
  simp only [Sgt.v, pieceTmps, aggOf, Array.getD, List.size_toArray, List.length_cons, List.length_nil, Nat.zero_add, Nat.lt_add_one, dite_true, List.getElem_toArray, List.getElem_cons_zero, Array.getInternal_eq_getElem] at hK ⊢
  gi_wp2
  exact hK
 case body =>
  intro l pre x args a' W hsz hI hbd hpre
  obtain ⟨g, rfl, hblk⟩ := hbd
  obtain ⟨⟨v, hv, hown⟩, hstr, hbel⟩ := hI
  have hcell := hv.cell
  have hfr := hv.frozen
  obtain ⟨pc, at_, ⟨k, r, q, c, l1, d, p, a, t⟩, ⟨x, y, z⟩⟩ := x
  have e0 := hblk.cell (i := 0) rfl
  have e1 := hblk.cell (i := 1) rfl
  have e2 := hblk.cell (i := 2) rfl
  have e3 := hblk.cell (i := 3) rfl
  have e4 := hblk.cell (i := 4) rfl
  have e5 := hblk.cell (i := 5) rfl
  have e6 := hblk.cell (i := 6) rfl
  have e7 := hblk.cell (i := 7) rfl
  have e8 := hblk.cell (i := 8) rfl
  have e9 := hblk.cell (i := 9) rfl
  have e10 := hblk.cell (i := 10) rfl
  have e11 := hblk.cell (i := 11) rfl
  have e12 := hblk.cell (i := 12) rfl
  have e13 := hblk.cell (i := 13) rfl
  obtain ⟨X, hX⟩ : ∃ X : Sgt, X = ⟨pc, at_, ⟨k, r, q, c, l1, d, p, a, t⟩, ⟨x, y, z⟩⟩ := ⟨_, rfl⟩
  have hXc : [.int .i64 pc, .int .i64 (at_ : Int), .int .i64 k, .int .i64 r, .int .i64 q, .int .i64 c, .int .i64 l1, .int .i64 d, .int .i64 p, .int .u32 a, .string t, .int .i64 x, .int .i64 y, .int .i64 z] = X.cells := by rw [hX]; rfl
  have hpl : pre.length + 1 ≤ 1000000 := by
   have h1 := hpre.length_le
   have h2 := scanL_len s (s.size - 0) 0 rfl
   have := Hs.out
   rw [List.length_append, List.length_singleton] at h1
   omega
  have hpx : (pre ++ [X]).flatMap Sgt.cells = pre.flatMap Sgt.cells ++ [.int .i64 pc, .int .i64 (at_ : Int), .int .i64 k, .int .i64 r, .int .i64 q, .int .i64 c, .int .i64 l1, .int .i64 d, .int .i64 p, .int .u32 a, .string t, .int .i64 x, .int .i64 y, .int .i64 z] := by rw [List.flatMap_append, hXc]; simp
  have hpl2 : (pre ++ [X]).length = pre.length + 1 := by rw [List.length_append, List.length_singleton]
  rw [← hX]
  obtain ⟨i0, hi, hz0, hz1, hz2⟩ := info_parts Tryz.infoSight
  have hnew := Blk.new W 38 [.int .i64 pc, .int .i64 (at_ : Int), .int .i64 k, .int .i64 r, .int .i64 q, .int .i64 c, .int .i64 l1, .int .i64 d, .int .i64 p, .int .u32 a, .string t, .int .i64 x, .int .i64 y, .int .i64 z]
  change Blk (W.alloc (.cells #[.int .i64 pc, .int .i64 (at_ : Int), .int .i64 k, .int .i64 r, .int .i64 q, .int .i64 c, .int .i64 l1, .int .i64 d, .int .i64 p, .int .u32 a, .string t, .int .i64 x, .int .i64 y, .int .i64 z] 38)) _ _ _ at hnew
  have hnews : ∀ (j : Nat) (u : Value), [Value.int .i64 pc, Value.int .i64 (at_ : Int), Value.int .i64 k, Value.int .i64 r, Value.int .i64 q, Value.int .i64 c, Value.int .i64 l1, Value.int .i64 d, Value.int .i64 p, Value.int .u32 a, Value.string t, Value.int .i64 x, Value.int .i64 y, Value.int .i64 z][j]? = some u → (W.alloc (.cells #[.int .i64 pc, .int .i64 (at_ : Int), .int .i64 k, .int .i64 r, .int .i64 q, .int .i64 c, .int .i64 l1, .int .i64 d, .int .i64 p, .int .u32 a, .string t, .int .i64 x, .int .i64 y, .int .i64 z] 38)).cell? ((⟨W.heap.size, 0, none⟩ : Addr).add j) = some u := fun j u hj => by
   rw [Addr.add_lit, Nat.zero_add]
   exact hnew.cell hj
  have hone : ∀ u ∈ [Value.int .i64 pc, Value.int .i64 (at_ : Int), Value.int .i64 k, Value.int .i64 r, Value.int .i64 q, Value.int .i64 c, Value.int .i64 l1, Value.int .i64 d, Value.int .i64 p, Value.int .u32 a, Value.string t, Value.int .i64 x, Value.int .i64 y, Value.int .i64 z], u.oneCell' = true := by simp [Value.oneCell']
  have Hnews := Lib.hid hnews
  have Hone := Lib.hid hone
  have Hown := Lib.hid (hown.alloc (.cells #[.int .i64 pc, .int .i64 (at_ : Int), .int .i64 k, .int .i64 r, .int .i64 q, .int .i64 c, .int .i64 l1, .int .i64 d, .int .i64 p, .int .u32 a, .string t, .int .i64 x, .int .i64 y, .int .i64 z] 38))
  have Hown0 := Lib.hid hown
  have Hv := Lib.hid hv
  have Hstr := Lib.hid hstr
  have Hbel := Lib.hid hbel
  have Hpx := Lib.hid hpx
  have Hpl2 := Lib.hid hpl2
  have Hinfo : Hid (Tryz.prog.info? 38 = some i0 ∧ i0.zero = some (.agg zero14.toArray) ∧ i0.size = 14 ∧ i0.bytes = 120) := Lib.hid ⟨hi, hz0, hz1, hz2⟩
  have hWz := hbel.size
  clear hX hXc hpre hpx hpl2 hi hz0 hz1 hz2 hnew hnews hone hown hv hstr hbel hIt hb0 hI0 hblk
  unfold pieceTmps Sgt.v
  gi_wp2_with (gi_at_builtin; refine wpListIn_append_own _ rfl _ _ 28 rfl w.heap.size 38 i0 (.agg zero14.toArray) 14 120 Tryz.underlying28 Hinfo.out.1 Hinfo.out.2.1 Hinfo.out.2.2.1 Hinfo.out.2.2.2 rfl (by omega) v pre.length _ rfl Hown.out ⟨W.heap.size, 0, none⟩ 1 1 _ rfl rfl Hnews.out Hone.out (by unfold maxLen; omega) (by omega) (by simp; omega) ?_; intro v' w1 hown1 hgr1 _; obtain ⟨g', cap', rfl⟩ := ownsRow_succ hown1; obtain ⟨hv1, hv2, hr2, hk2, hb2⟩ := Boxed.appended Hv.out (by decide) Hown0.out hWz (Nat.le_refl _) hown1 hgr1; have hc1 := hv1.cell; have hf1 := hv1.frozen; have hs1 : Boxed w1 (w.heap.size + 1) 9 (.string s) := (Hstr.out.alloc _).kept hgr1 (Hstr.out.not_row (by decide) Hown0.out); have Hv2 := Lib.hid hv2; have Hr2 := Lib.hid hr2; have Hk2 := Lib.hid hk2; have Hb2 := Lib.hid hb2; have Hs1 := Lib.hid hs1; clear hown1 hgr1 hv1 hv2 hr2 hk2 hb2 hs1)
  refine ⟨⟨Hk2.out.size, fun k0 o0 hko hor => ?_⟩, ⟨_, Hv2.out, by rw [Hpl2.out, Hpx.out]; exact Hr2.out⟩, (Below.heap_setCell _ _ _ _ (by simp)).trans Hs1.out, Hbel.out.trans Hb2.out⟩
  rcases hor with h | rfl
  ·exact Hk2.out.same k0 o0 hko h
  ·rw [show W.heap[w.heap.size + 1]? = _ from Hstr.out] at hko
   cases hko
   exact (Below.heap_setCell _ _ _ _ (by simp)).trans Hs1.out
 case done =>
  intro D W hD hI hk
  obtain ⟨⟨v, hv, hown⟩, hstr, hbel⟩ := hI
  have hcell := hv.cell
  have Hown := Lib.hid hown
  have Hbel := Lib.hid hbel
  have Hk := Lib.hid hk
  have hfin : ∃ A n c, v = .slice A n c := by
   rcases hown.2 with ⟨rfl, _⟩ | ⟨g, cap, _, rfl, _⟩
   ·exact ⟨_, _, _, rfl⟩
   ·exact ⟨_, _, _, rfl⟩
  obtain ⟨A, n, c, rfl⟩ := hfin
  clear hv hown hstr hbel hk hI0 hIt hb0
  gi_wp2
  refine ⟨by simp, .inl ⟨_, _, rfl, run_takeDeferred Hk.out, _, results_tmp rfl _ _ _, ?_⟩⟩
  refine ⟨_, rfl, ?_, ?_⟩
  ·have h1 := ownsRow_putObj Hown.out (.deferred none) Hk.out rfl
   exact ⟨h1.1, h1.2.imp id fun ⟨g, cap, cur, e, _, r⟩ => ⟨g, cap, cur, e, Nat.zero_le _, r⟩⟩
  ·exact ⟨Hbel.out.os, Hbel.out.tape, Hbel.out.output, Nat.le_trans Hbel.out.size (by simp), fun k hk2 => (World.putObj_heap_other (by omega)).trans (Hbel.out.block k hk2)⟩

end Go.Proofs.YtnlnmfkmbpihhaaGreatDoor

namespace Go.Proofs.YtnlnmfkmbpihhaaGreatDoor
open Go.RowKit

/-- A slice value that reads as these frames. -/
def FrmsAt (W : World) (v : Value) (fs : List Frm) : Prop :=
 ∃ (A : Option Addr) (c : Nat), v = .slice A fs.length c ∧ fs.length ≤ c ∧ c ≤ 9223372036854775807 ∧
  ∀ i f, fs[i]? = some f → ∃ b o, A = some ⟨b, o, none⟩ ∧ ∀ j u, f.cells[j]? = some u → W.cell? ⟨b, o + i * 9 + j, none⟩ = some u
theorem FrmsAt.below {W W' : World} {v : Value} {fs : List Frm} (h : FrmsAt W v fs) (hb : Below W.heap.size W W') : FrmsAt W' v fs := by
 obtain ⟨A, c, e, h1, h2, h3⟩ := h
 refine ⟨A, c, e, h1, h2, fun i f hf => ?_⟩
 obtain ⟨b, o, e1, h4⟩ := h3 i f hf
 exact ⟨b, o, e1, fun j u hu => cell_below hb (h4 j u hu)⟩
def fE (f : Frm) : Int := frE f.k f.r f.s f.i f.l f.d f.p f.t
/-- A frame's message. -/
def msgOf (f : Frm) : List Nat := marL f.k.toNat f.r.toNat f.s.toNat f.i.toNat f.l.toNat f.d.toNat f.p.toNat f.a.toNat f.t
/-- The first error. -/
def joinE : List Frm → Int
 | [] => 0
 | f :: r => if fE f ≠ 0 then fE f else joinE r
def joinS (fs : List Frm) : ByteArray := if joinE fs = 0 then strB (flatC (fs.map msgOf)) else ⟨#[]⟩
def Frm.small (f : Frm) : Prop := 0 ≤ f.a ∧ f.a < 4294967296
theorem msgOf_msg {f : Frm} (h : fE f = 0) (ha : f.small) : Msg (msgOf f) f ∧ fencR f.k f.r f.s f.i f.l f.d f.p f.a f.t = .tuple #[.string (strB (markL ++ bodyL (msgOf f))), .int .i64 0] := by
 have h' : frE f.k f.r f.s f.i f.l f.d f.p f.t = 0 := h
 have h3 : fencR f.k f.r f.s f.i f.l f.d f.p f.a f.t = .tuple #[.string (markS ++ strB (bodyL (msgOf f))), .int .i64 0] := by
  unfold fencR msgOf
  rw [if_neg (by simpa using h')]
 have hm : Bytes (msgOf f) ∧ (msgOf f).length = 44 ∧ unmC (strB (msgOf f)) = 0 ∧ unmF (strB (msgOf f)) = f.v := by
  obtain ⟨k, r, s, i, l, d, p, a, t⟩ := f
  have h' : frE k r s i l d p t = 0 := h
  have ha' : 0 ≤ a ∧ a < 4294967296 := ha
  clear h ha
  obtain ⟨g1, g2, g3, g4, g5, g6, g7, g8⟩ := frE_ok h'
  obtain ⟨k, rfl⟩ : ∃ n : Nat, k = n := ⟨k.toNat, by omega⟩
  obtain ⟨r, rfl⟩ : ∃ n : Nat, r = n := ⟨r.toNat, by omega⟩
  obtain ⟨s, rfl⟩ : ∃ n : Nat, s = n := ⟨s.toNat, by omega⟩
  obtain ⟨i, rfl⟩ : ∃ n : Nat, i = n := ⟨i.toNat, by omega⟩
  obtain ⟨l, rfl⟩ : ∃ n : Nat, l = n := ⟨l.toNat, by omega⟩
  obtain ⟨d, rfl⟩ : ∃ n : Nat, d = n := ⟨d.toNat, by omega⟩
  obtain ⟨p, rfl⟩ : ∃ n : Nat, p = n := ⟨p.toNat, by omega⟩
  obtain ⟨a, rfl⟩ : ∃ n : Nat, a = n := ⟨a.toNat, by omega⟩
  have ha2 : a < 4294967296 := by omega
  obtain ⟨_, _, _, hb, hl, _, _⟩ := mar_ok h' ha2
  obtain ⟨hc, hf⟩ := unm_mar h' ha2
  exact ⟨hb, hl, hc, hf⟩
 rw [mark_cat] at h3
 exact ⟨⟨hm.1, hm.2.1, hm.2.2.1, hm.2.2.2⟩, h3⟩
theorem joinE_at : ∀ {fs : List Frm} {k : Nat} {f : Frm}, (∀ g ∈ fs.take k, fE g = 0) → fs[k]? = some f → fE f ≠ 0 → joinE fs = fE f
 | [], k, f, _, hf, _ => by cases hf
 | g :: r, 0, f, _, hf, h => by
  cases hf
  unfold joinE
  rw [if_pos h]
 | g :: r, k + 1, f, hp, hf, h => by
  unfold joinE
  have h0 : fE g = 0 := hp g (by simp)
  rw [if_neg (by simpa using h0)]
  exact joinE_at (fun x hx => hp x (by rw [List.take_succ_cons]; exact List.mem_cons_of_mem _ hx)) hf h
theorem joinE_all : ∀ {fs : List Frm}, (∀ g ∈ fs, fE g = 0) → joinE fs = 0
 | [], _ => rfl
 | g :: r, h => by
  unfold joinE
  rw [if_neg (by simpa using h g List.mem_cons_self)]
  exact joinE_all fun x hx => h x (List.mem_cons_of_mem _ hx)

end Go.Proofs.YtnlnmfkmbpihhaaGreatDoor

namespace Go.Proofs.YtnlnmfkmbpihhaaGreatDoor
open Go.RowKit

/-- One byte and 27 zeros. -/
def chL (c : Nat) : List Nat := [c, 0, 0, 0, 0, 0, 0, 0, 0, 0, 0, 0, 0, 0, 0, 0, 0, 0, 0, 0, 0, 0, 0, 0, 0, 0, 0, 0]
end Go.Proofs.YtnlnmfkmbpihhaaGreatDoor

namespace Go.Proofs.YtnlnmfkmbpihhaaGreatDoor
open Go.RowKit

/-- A sighting's cell. -/
theorem SgtsAt.at {W : World} {v : Value} {xs : List Sgt} (h : SgtsAt W v xs) (hn : xs ≠ []) : ∃ g c, v = .slice (some ⟨g, 0, none⟩) xs.length c ∧ ∀ i x, xs[i]? = some x → ∀ j u, x.cells[j]? = some u → W.cell? ⟨g, i * 14 + j, none⟩ = some u := by
 unfold SgtsAt at h
 have h2 := h.2
 rcases h2 with ⟨_, h0⟩ | ⟨g, c, cur, rfl, _⟩
 ·exact absurd (List.length_eq_zero_iff.1 h0) hn
 ·refine ⟨g, c, rfl, fun i x hx j u hu => ?_⟩
  have hi := (List.getElem?_eq_some_iff.1 hx).1
  have hj := (List.getElem?_eq_some_iff.1 hu).1
  rw [Sgt.cells_len] at hj
  rw [World.ownsRow.cellAt h (i * 14 + j) (by omega)]
  have hf : ∀ (ys : List Sgt) (k : Nat), ys[k]? = some x → (ys.flatMap Sgt.cells)[k * 14 + j]? = x.cells[j]? := by
   intro ys
   induction ys with
   | nil => intro k hk; cases hk
   | cons y r ih =>
    intro k hk
    rw [List.flatMap_cons]
    cases k with
    | zero => cases hk; rw [List.getElem?_append_left (by rw [Sgt.cells_len]; omega), Nat.zero_mul, Nat.zero_add]
    | succ k =>
     rw [List.getElem?_append_right (by rw [Sgt.cells_len]; omega), Sgt.cells_len, show (k + 1) * 14 + j - 14 = k * 14 + j by omega]
     exact ih k hk
  rw [hf xs i hx, hu]
theorem msgs_of : ∀ {fs : List Frm}, (∀ f ∈ fs, fE f = 0 ∧ f.small) → Msgs (fs.map msgOf) fs
 | [], _ => .nil
 | f :: _, h => .cons (msgOf_msg (h f List.mem_cons_self).1 (h f List.mem_cons_self).2).1 (msgs_of fun g hg => h g (List.mem_cons_of_mem _ hg))
/-- Two frames just laid. -/
theorem FrmsAt.two {W : World} {b : Nat} {f g : Frm} (h : Blk W b 34 (f.cells ++ g.cells)) : FrmsAt W (.slice (some ⟨b, 0, none⟩) 2 2) [f, g] := by
 refine ⟨_, 2, rfl, Nat.le_refl _, by omega, fun i x hx => ⟨b, 0, rfl, fun j u hu => ?_⟩⟩
 have hj : j < 9 := (List.getElem?_eq_some_iff.1 hu).1
 rw [Nat.zero_add]
 match i with
 | 0 =>
  cases hx
  refine h.cell ?_
  rw [Nat.zero_mul, Nat.zero_add, List.getElem?_append_left (show j < 9 from hj)]
  exact hu
 | 1 =>
  cases hx
  refine h.cell ?_
  rw [List.getElem?_append_right (show 9 ≤ 1 * 9 + j by omega), show 1 * 9 + j - f.cells.length = j from by show 1 * 9 + j - 9 = j; omega]
  exact hu
 | i + 2 => cases hx

/-- A list of sightings, read. -/
theorem SgtsAt.all {W : World} {v : Value} {xs : List Sgt} (h : SgtsAt W v xs) : ∃ A c, v = .slice A xs.length c ∧ ∀ i x, xs[i]? = some x → ∃ b o, A = some ⟨b, o, none⟩ ∧ ∀ j u, x.cells[j]? = some u → W.cell? ⟨b, o + i * 14 + j, none⟩ = some u := by
 by_cases hn : xs = []
 ·subst hn
  unfold SgtsAt at h
  rcases h.2 with ⟨rfl, _⟩ | ⟨g, c, cur, rfl, _⟩
  ·exact ⟨_, _, rfl, fun i x hx => by cases hx⟩
  ·exact ⟨_, _, rfl, fun i x hx => by cases hx⟩
 ·obtain ⟨g, c, rfl, hc⟩ := SgtsAt.at h hn
  exact ⟨_, _, rfl, fun i x hx => ⟨g, 0, rfl, fun j u hu => by rw [Nat.zero_add]; exact hc i x hx j u hu⟩⟩

theorem own_belowN {w w' : World} {B n size : Nat} {t : TypeId} {v : Value} {xs : List Value} (h : w.ownsRow B t size v n xs) (hb : Below w.heap.size w w') : w'.ownsRow B t size v n xs :=
 own_cells h fun k _ ho _ => (hb.block k (Array.getElem?_eq_some_iff.1 ho).1).trans ho
theorem own_geN {w : World} {B n size : Nat} {t : TypeId} {v : Value} {xs : List Value} (h : w.ownsRow B t size v n xs) : ∀ k, v.ownBlock = some k → B ≤ k := fun k hk => (h.lt k hk).1
theorem SgtsAt.below {w w' : World} {v : Value} {xs : List Sgt} (h : SgtsAt w v xs) (hb : Below w.heap.size w w') : SgtsAt w' v xs := own_belowN h hb
theorem SgtsAt.of_own {w : World} {B : Nat} {v : Value} {xs : List Sgt} (h : w.ownsRow B 38 14 v xs.length (xs.flatMap Sgt.cells)) : SgtsAt w v xs :=
 ⟨h.1, h.2.imp id fun ⟨g, cap, cur, e, _, r⟩ => ⟨g, cap, cur, e, Nat.zero_le _, r⟩⟩
/-- A slice of strings. -/
def StrvAt (W : World) (v : Value) (ss : List ByteArray) : Prop := ∃ A c, v = .slice A ss.length c ∧ ∀ i s, ss[i]? = some s → ∃ b o, A = some ⟨b, o, none⟩ ∧ W.cell? ⟨b, o + i, none⟩ = some (.string s)
theorem StrvAt.below {w w' : World} {v : Value} {ss : List ByteArray} (h : StrvAt w v ss) (hb : Below w.heap.size w w') : StrvAt w' v ss := by
 obtain ⟨A, c, rfl, h⟩ := h
 refine ⟨A, c, rfl, fun i s hi => ?_⟩
 obtain ⟨b, o, e, hc⟩ := h i s hi
 exact ⟨b, o, e, cell_below hb hc⟩
end Go.Proofs.YtnlnmfkmbpihhaaGreatDoor
