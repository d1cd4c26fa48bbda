/-
  WALKS: syncmark.Distance, within, first, Find.
  WALK: scan.at.
-/
import Derived.Test.YtjennpcadjdnlaaGreatDoorScM
import Derived.Test.YtjennpcadjdnlaaGreatDoorRsW
import Derived.Test.YtjennpcadjdnlaaGreatDoorFrK
import Derived.Test.YtjennpcadjdnlaaGreatDoorFrV
namespace Go.Proofs.YtjennpcadjdnlaaGreatDoor
open Go.RowKit

theorem vintS {k : IntKind} {a b : Int} (h : a = b) : Value.int k a = Value.int k b := by rw [h]
theorem mark_at (i : Nat) (h : i < 16) : ((⟨#[49, 49, 49, 49, 49, 48, 48, 49, 49, 48, 49, 48, 49, 48, 48, 48]⟩ : ByteArray)[i]'h).toNat = cf markL i := by
  rw [← bs_cf]
  rw [markL_eq]
  rfl
set_option maxRecDepth 100000 in
set_option maxHeartbeats 8000000 in
theorem mkdist_any (w : World) (s : ByteArray) (k : Nat) (hk : k + 16 ≤ s.size) (hs : s.size ≤ 1000000) :
    Calls Tryz.prog 66 #[.string s, .int .i64 (k : Int)] w fun e w' => e = .returned (.int .i64 ((16 - mt (bs s) k 16 : Nat) : Int)) ∧ Below w.heap.size w w' := by
  go_enter Tryz.func66, Tryz.ntmps66
  go_wp2
  go_loopw [5, 37] (fun n x wr => ∃ i : Nat, i ≤ 16 ∧ x = .int .i64 (i : Int) ∧ n = .int .i64 ((16 - mt (bs s) k i : Nat) : Int) ∧ Below w.heap.size w wr) (fun _ x _ => 16 - (intOf x).toNat)
  case atStart => exact ⟨0, by omega, rfl, rfl, Below.refl _ _⟩
  case round =>
    obtain ⟨i, hi, rfl, rfl, hB⟩ := hrel
    have HBr := Lib.hid hB
    clear hB
    have hm := mt_le (bs s) k i
    by_cases h : i < 16
    · have hiI : (i : Int) < 16 := by omega
      have hki : k + i < s.size := by omega
      have hx := bs_cf s (k + i) hki
      have hy := mark_at i h
      have Hst : Hid (mt (bs s) k (i + 1) = mt (bs s) k i + if cf (bs s) (k + i) = cf markL i then 1 else 0) := Lib.hid rfl
      rw [hx, ← hy] at Hst
      obtain ⟨M, hM⟩ : ∃ M, mt (bs s) k i = M := ⟨_, rfl⟩
      rw [hM] at Hst hm ⊢
      have hmz : (⟨#[49, 49, 49, 49, 49, 48, 48, 49, 49, 48, 49, 48, 49, 48, 48, 48]⟩ : ByteArray).size = 16 := rfl
      have g1 : decide (k < s.size) = true := decide_eq_true (by omega)
      have g2 : decide ((i : Int) < (s.size : Int) - k) = true := decide_eq_true (by omega)
      have hs1 : IntKind.i64.wrap ((s.size : Int) - k) = (s.size : Int) - k := IntWalk.i64_in _ (by omega)
      have ht1 : IntKind.i64.wrap ((k : Int) + i) = (k : Int) + i := IntWalk.i64_in _ (by omega)
      have ht2 : ((k : Int) + i).toNat = k + i := by omega
      have ht3 : (0 : Int) ≤ (k : Int) + i := by omega
      have ht4 : (k : Int) + i < s.size := by omega
      clear hx hy hM hk
      by_cases he : (s[k + i]'hki).toNat = ((⟨#[49, 49, 49, 49, 49, 48, 48, 49, 49, 48, 49, 48, 49, 48, 48, 48]⟩ : ByteArray)[i]'h).toNat
      · have hst := Hst.out
        rw [if_pos he] at hst
        have Hst := Lib.hid hst
        have hcmp : ((((s[k + i]'hki).toNat : Nat) : Int) == (((⟨#[49, 49, 49, 49, 49, 48, 48, 49, 49, 48, 49, 48, 49, 48, 48, 48]⟩ : ByteArray)[i]'h).toNat : Int)) = true := by rw [beq_iff_eq, he]
        clear hst he
        go_wp2
        go_quiet (fail)
        go_wp2
        clear hs1 ht1 ht2 ht3 ht4 hcmp g1 g2
        go_roundw
        case rel => exact ⟨i + 1, by omega, by go_num, vintS (by rw [Hst.out]; omega), below_drewN HBr.out nq⟩
        case measure => simp [intOf]; omega
      · have hst := Hst.out
        rw [if_neg he, Nat.add_zero] at hst
        have Hst := Lib.hid hst
        have hcmp : ((((s[k + i]'hki).toNat : Nat) : Int) == (((⟨#[49, 49, 49, 49, 49, 48, 48, 49, 49, 48, 49, 48, 49, 48, 48, 48]⟩ : ByteArray)[i]'h).toNat : Int)) = false := by rw [beq_eq_false_iff_ne]; omega
        clear hst he
        go_wp2
        go_quiet (fail)
        go_wp2
        clear hs1 ht1 ht2 ht3 ht4 hcmp g1 g2
        go_roundw
        case rel => exact ⟨i + 1, by omega, by go_num, vintS (by rw [Hst.out]; omega), below_drewN HBr.out nq⟩
        case measure => simp [intOf]; omega
    · obtain rfl : i = 16 := by omega
      go_wp2
      go_ret
      exact ⟨rfl, HBr.out⟩

/-- Is there room for a mark? -/
def roomB (n k : Nat) : Bool := decide (k + 16 ≤ n)
set_option maxHeartbeats 1000000 in
theorem mkwithin_any (w : World) (s : ByteArray) (k : Nat) (hk : k ≤ 10000000) (hs : s.size ≤ 1000000) :
    Calls Tryz.prog 133 #[.string s, .int .i64 (k : Int)] w fun e w' => e = .returned (.bool (roomB s.size k)) ∧ w = w' := by
  have h0 : (0 : Int) ≤ k := by omega
  by_cases h1 : k ≤ s.size
  · have h1I : (k : Int) ≤ s.size := by omega
    have hs1 : IntKind.i64.wrap ((s.size : Int) - k) = (s.size : Int) - k := IntWalk.i64_in _ (by omega)
    by_cases h2 : k + 16 ≤ s.size
    · have h2I : (16 : Int) ≤ (s.size : Int) - k := by omega
      have e : roomB s.size k = true := decide_eq_true h2
      rw [e]
      clear h1 h2 e
      go_enter Tryz.func133, Tryz.ntmps133
      go_wp2
      go_ret
      exact ⟨rfl, rfl⟩
    · have h2I : ¬ (16 : Int) ≤ (s.size : Int) - k := by omega
      have e : roomB s.size k = false := decide_eq_false h2
      rw [e]
      clear h1 h2 e
      go_enter Tryz.func133, Tryz.ntmps133
      go_wp2
      go_ret
      exact ⟨rfl, rfl⟩
  · have h1I : ¬ (k : Int) ≤ s.size := by omega
    have e : roomB s.size k = false := decide_eq_false (by omega)
    rw [e]
    clear h1 e
    go_enter Tryz.func133, Tryz.ntmps133
    go_wp2
    go_ret
    exact ⟨rfl, rfl⟩
set_option maxHeartbeats 1000000 in
theorem mkfind1_any (w : World) (s : ByteArray) (b k : Nat) (hk : k + 16 ≤ s.size) (hs : s.size ≤ 1000000) (hc : w.cell? ⟨b, 0, none⟩ = some (.string s)) :
    Calls Tryz.prog 65 #[.int .i64 (k : Int), .pointer (some ⟨b, 0, none⟩)] w fun e w' => e = .returned (.bool (hit (bs s) k)) ∧ Below w.heap.size w w' := by
  have HD := Lib.hid (mkdist_any w s k hk hs)
  have hm := mt_le (bs s) k 16
  have e : hit (bs s) k = decide (((16 - mt (bs s) k 16 : Nat) : Int) ≤ 2) := by
    unfold hit
    by_cases h : 14 ≤ mt (bs s) k 16
    · rw [decide_eq_true h, decide_eq_true (by omega)]
    · rw [decide_eq_false h, decide_eq_false (by omega)]
  obtain ⟨H, hH⟩ : ∃ H, hit (bs s) k = H := ⟨_, rfl⟩
  rw [hH] at e ⊢
  have He := Lib.hid e
  clear hk hm e hH
  generalize 16 - mt (bs s) k 16 = M at *
  go_enter Tryz.func65, Tryz.ntmps65
  go_wp2_with (go_at_call 66; refine HD.out.mono ?_; rintro e w' ⟨rfl, hb⟩)
  go_ret
  exact ⟨ret_bool (by rw [He.out]), hb⟩
def findR : Option Nat → Value
  | some k => .tuple #[.int .i64 (k : Int), .bool true]
  | none => .tuple #[.int .i64 0, .bool false]
set_option maxRecDepth 100000 in
set_option maxHeartbeats 4000000 in
theorem mkfirst_any (w : World) (s : ByteArray) (b i : Nat) (hi : i ≤ 5000000) (hs : s.size ≤ 1000000) (hc : w.cell? ⟨b, 0, none⟩ = some (.string s)) :
    Calls Tryz.prog 64 #[.string s, .int .i64 (i : Int), .func (.func 65) #[] #[.pointer (some ⟨b, 0, none⟩)]] w fun e w' => e = .returned (findR (findL (bs s) i)) ∧ Below w.heap.size w w' := by
  obtain ⟨R, hR⟩ : ∃ R, findL (bs s) i = R := ⟨_, rfl⟩
  rw [hR]
  have HR := Lib.hid hR
  have Hc := Lib.hid hc
  have hmx : max (i : Int) 0 = (i : Int) := by omega
  clear hR hc
  go_enter Tryz.func64, Tryz.ntmps64
  go_wp2
  go_loopw [8] (fun x wr => ∃ k : Nat, k ≤ 5000000 + s.size ∧ x = .int .i64 (k : Int) ∧ findL (bs s) k = R ∧ (i ≤ k ∧ (k = i ∨ k ≤ s.size)) ∧ Below w.heap.size w wr) (fun x _ => s.size + 1 - (intOf x).toNat)
  case atStart => exact ⟨i, by omega, vintS (by omega), HR.out, ⟨Nat.le_refl _, .inl rfl⟩, Below.refl _ _⟩
  case round =>
    obtain ⟨k, hk, rfl, hf, hik, hB⟩ := hrel
    have Hf := Lib.hid hf
    have HBr := Lib.hid hB
    have Hik := Lib.hid hik
    have Hw := Lib.hid (mkwithin_any wr s k (by omega) hs)
    clear hf hB hik
    by_cases h : k + 16 ≤ s.size
    · have hroom : roomB s.size k = true := decide_eq_true h
      rw [hroom] at Hw
      have Hm := Lib.hid (mkfind1_any wr s b k h hs (cell_below HBr.out Hc.out))
      have hst := findL_step (bs s) k
      rw [Hf.out, if_pos (by rw [bs_len]; exact h)] at hst
      cases hh : hit (bs s) k with
      | true =>
        rw [hh] at Hm hst
        have Hst : Hid (R = some k) := Lib.hid hst
        clear hst hh hroom
        go_wp2_with (first | (go_at_call 133; refine Hw.out.mono ?_; rintro e w' ⟨rfl, rfl⟩) | (go_at_call 65; refine Hm.out.mono ?_; rintro e w1 ⟨rfl, hb1⟩))
        go_ret2
        exact ⟨by rw [Hst.out]; rfl, HBr.out.trans (hb1.mono HBr.out.size)⟩
      | false =>
        rw [hh] at Hm hst
        have Hst : Hid (R = findL (bs s) (k + 1)) := Lib.hid hst
        clear hst hh hroom
        go_wp2_with (first | (go_at_call 133; refine Hw.out.mono ?_; rintro e w' ⟨rfl, rfl⟩) | (go_at_call 65; refine Hm.out.mono ?_; rintro e w1 ⟨rfl, hb1⟩))
        go_roundw
        case rel => exact ⟨k + 1, by omega, by go_num, Hst.out.symm, ⟨by have := Hik.out; omega, .inr (by omega)⟩, HBr.out.trans (hb1.mono HBr.out.size)⟩
        case measure => simp [intOf]; omega
    · have hroom : roomB s.size k = false := decide_eq_false h
      rw [hroom] at Hw
      have hn := findL_none (l := bs s) (i := k) (by rw [bs_len]; omega)
      rw [Hf.out] at hn
      have Hn := Lib.hid hn
      clear hn hroom
      go_wp2_with (go_at_call 133; refine Hw.out.mono ?_; rintro e w' ⟨rfl, rfl⟩)
      go_ret2
      exact ⟨by rw [Hn.out]; rfl, HBr.out⟩
set_option maxHeartbeats 1000000 in
theorem mkfind_any (w : World) (s : ByteArray) (i : Nat) (hi : i ≤ 5000000) (hs : s.size ≤ 1000000) :
    Calls Tryz.prog 28 #[.string s, .int .i64 (i : Int)] w fun e w' => e = .returned (findR (findL (bs s) i)) ∧ Below w.heap.size w w' := by
  have hn : (w.alloc (.cells #[.string s] 9)).cell? ⟨w.heap.size, 0, none⟩ = some (.string s) := Blk.cell (Blk.new w 9 [.string s]) (i := 0) rfl
  have HF := Lib.hid (mkfirst_any (w.alloc (.cells #[.string s] 9)) s w.heap.size i hi hs hn)
  have HA := Lib.hid ((Below.refl w.heap.size w).alloc (Nat.le_refl _) (.cells #[.string s] 9))
  obtain ⟨R, hR⟩ : ∃ R, findL (bs s) i = R := ⟨_, rfl⟩
  rw [hR] at HF ⊢
  clear hn hR
  cases R with
  | none =>
    unfold findR at HF ⊢
    go_enter Tryz.func28, Tryz.ntmps28
    go_wp2_with (go_at_call 64; refine HF.out.mono ?_; rintro e w1 ⟨rfl, hb1⟩)
    go_ret2
    exact ⟨rfl, HA.out.trans (hb1.mono HA.out.size)⟩
  | some k =>
    unfold findR at HF ⊢
    go_enter Tryz.func28, Tryz.ntmps28
    go_wp2_with (go_at_call 64; refine HF.out.mono ?_; rintro e w1 ⟨rfl, hb1⟩)
    go_ret2
    exact ⟨rfl, HA.out.trans (hb1.mono HA.out.size)⟩

end Go.Proofs.YtjennpcadjdnlaaGreatDoor

namespace Go.Proofs.YtjennpcadjdnlaaGreatDoor
open Go.RowKit

theorem Tryz.sizeSight : (Tryz.prog.info? 53).map (·.size) = some 14 := by kernel_rfl
theorem sgt_store {ops : Array Oper} {rest : List Oper} {op : Oper} {a : Act} {W : World} {Q : Exit → Act → World → Prop} (hgd : op.guard = none) (x y : Operand) (ho : op.op = .store 53 x y)
    (b : Nat) (cells : Array Value) (hx : a.eval x = .pointer (some ⟨b, 0, none⟩)) (hy : a.eval y = .agg cells)
    (ht : W.there b 0 cells.size) (h14 : cells.size = 14) (h1 : cells.all (·.oneCell') = true) (W1 : World) (hE : W.setCells b 0 cells.toList = W1)
    (h : wpList Tryz.prog ops Q rest (a.put op.dst undef) W1) : wpList Tryz.prog ops Q (op :: rest) a W :=
  wpList_store_mid hgd 53 x y ho b 0 cells hx hy ht (by rw [h14]; exact Tryz.sizeSight) h1 (by rw [hE]; exact h)
def sgt0 : Sgt := ⟨0, 0, frm0, qua0⟩
/-- What scan.at answers. -/
def tryP (s : ByteArray) (o : Nat) : Sgt × Bool :=
  if enoughAt s o then (⟨0, o, (decP (bodyAt s o)).1, (decP (bodyAt s o)).2.1⟩, (decP (bodyAt s o)).2.2 == 0) else (sgt0, false)
theorem tryP_try (s : ByteArray) (o : Nat) : tryAt s o = if (tryP s o).2 then some (tryP s o).1 else none := by
  unfold tryAt tryP
  split
  · by_cases h : (decP (bodyAt s o)).2.2 = 0
    · rw [if_pos h, if_pos (by rw [beq_iff_eq]; exact h)]
    · rw [if_neg h, if_neg (by rw [beq_iff_eq]; exact h)]
  · rfl
def zero14 : List Value := [.int .i64 0, .int .i64 0, .int .i64 0, .int .i64 0, .int .i64 0, .int .i64 0, .int .i64 0, .int .i64 0, .int .i64 0, .int .u32 0, .string ⟨#[]⟩, .int .i64 0, .int .i64 0, .int .i64 0]

set_option maxRecDepth 100000 in
set_option maxHeartbeats 8000000 in
theorem scat_any (w : World) (s : ByteArray) (o : Nat) (ho : o + 16 ≤ s.size) (hs : s.size ≤ 1000000) :
    Calls Tryz.prog 124 #[.string s, .int .i64 (o : Int)] w fun e w' => e = .returned (.tuple #[(tryP s o).1.v, .bool (tryP s o).2]) ∧ Below w.heap.size w w' := by
  obtain ⟨R, hR⟩ : ∃ R, Value.tuple #[(tryP s o).1.v, .bool (tryP s o).2] = R := ⟨_, rfl⟩
  rw [hR]
  have HZ := Lib.hid (Blk.new w 53 zero14)
  have HBz := Lib.hid ((Below.refl w.heap.size w).alloc (Nat.le_refl _) (.cells zero14.toArray 53))
  unfold zero14 at HZ HBz
  change Hid (Blk (w.alloc (.cells #[.int .i64 0, .int .i64 0, .int .i64 0, .int .i64 0, .int .i64 0, .int .i64 0, .int .i64 0, .int .i64 0, .int .i64 0, .int .u32 0, .string ⟨#[]⟩, .int .i64 0, .int .i64 0, .int .i64 0] 53)) _ _ _) at HZ
  change Hid (Below w.heap.size w (w.alloc (.cells #[.int .i64 0, .int .i64 0, .int .i64 0, .int .i64 0, .int .i64 0, .int .i64 0, .int .i64 0, .int .i64 0, .int .i64 0, .int .u32 0, .string ⟨#[]⟩, .int .i64 0, .int .i64 0, .int .i64 0] 53))) at HBz
  obtain ⟨E, hE⟩ : ∃ E, min (o + 852) s.size = E := ⟨_, rfl⟩
  have hEI : min ((o : Int) + 852) (s.size : Int) = (E : Int) := by omega
  have hE2 : E ≤ s.size := by omega
  have hE3 : o + 16 ≤ E := by omega
  have hE4 : (o : Int) + 16 ≤ E := by omega
  have hE5 : (E : Int) ≤ s.size := by omega
  have hw1 : IntKind.i64.wrap ((o : Int) + 16) = (o : Int) + 16 := IntWalk.i64_in _ (by omega)
  have hw2 : IntKind.i64.wrap ((o : Int) + 852) = (o : Int) + 852 := IntWalk.i64_in _ (by omega)
  have ht1 : ((o : Int) + 16).toNat = o + 16 := by omega
  have ht2 : (0 : Int) ≤ (o : Int) + 16 := by omega
  obtain ⟨Bd, hBd⟩ : ∃ Bd, s.extract (o + 16) E = Bd := ⟨_, rfl⟩
  have hBd2 : bodyAt s o = Bd := by unfold bodyAt; rw [hE, hBd]
  have hBz : Bd.size ≤ 836 := by rw [← hBd2, bodyAt_size ho]; omega
  have hcl : (bs Bd).count 63 ≤ Bd.size := by rw [← bs_len]; exact List.count_le_length
  have hen : enoughAt s o = decide (400 ≤ (Bd.size : Int) - ((bs Bd).count 63 : Nat)) := by unfold enoughAt; rw [hBd2]
  have hdec := decP_eq Bd
  have HU := Lib.hid (fun W => cunr_any W Bd)
  have HD := Lib.hid (fun W => fdec_any W Bd (by omega))
  rw [hdec] at HD
  unfold tryP at hR
  rw [hen, hBd2] at hR
  clear hen hBd2 hdec hE
  obtain ⟨C, hC⟩ : ∃ C, (bs Bd).count 63 = C := ⟨_, rfl⟩
  rw [hC] at HU hcl hR
  obtain ⟨⟨⟨k, r, q, i, l, d, p, a, t⟩, ⟨x, y, z⟩, e0⟩, hP⟩ : ∃ P, decP Bd = P := ⟨_, rfl⟩
  rw [hP] at HD hR
  have hsub : IntKind.i64.wrap ((Bd.size : Int) - C) = (Bd.size : Int) - C := IntWalk.i64_in _ (by omega)
  clear hC hP
  unfold Frm.v Qua.v frV qualV at HD
  have HR := Lib.hid hR
  clear hR
  by_cases h4 : 400 ≤ (Bd.size : Int) - C
  · have h4I : ¬ (Bd.size : Int) - C < 400 := by omega
    have HR2 : Hid (R = .tuple #[.agg #[.int .i64 0, .int .i64 (o : Int), .int .i64 k, .int .i64 r, .int .i64 q, .int .i64 i, .int .i64 l, .int .i64 d, .int .i64 p, .int .u32 a, .string t, .int .i64 x, .int .i64 y, .int .i64 z], .bool (e0 == 0)]) := Lib.hid (by rw [← HR.out, if_pos (decide_eq_true h4)]; rfl)
    clear h4 HR
    go_enter Tryz.func124, Tryz.ntmps124
    go_upto_region 1 with fail
    generalize w.alloc (.cells #[.int .i64 0, .int .i64 0, .int .i64 0, .int .i64 0, .int .i64 0, .int .i64 0, .int .i64 0, .int .i64 0, .int .i64 0, .int .u32 0, .string ⟨#[]⟩, .int .i64 0, .int .i64 0, .int .i64 0] 53) = wz at *
    go_upto_region 4 with (go_at_call 36; refine (HU.out _).mono ?_; rintro e w' ⟨rfl, rfl⟩)
    clear hw1 hw2 ht1 ht2 hEI hBd hsub h4I
    go_upto_region 5 with (go_at_call 14; refine (HD.out _).mono ?_; rintro e w1 ⟨rfl, hb1⟩)
    obtain ⟨hA, hX⟩ := decd_new w1 k r q i l d p a t x y z
    have hb := hb1.trans (hA.mono hb1.size)
    have hZ2 := HZ.out.kept hb
    have hB2 := HBz.out.trans (hb.mono HBz.out.size)
    clear hb1 hA hb HZ HBz HD HU
    generalize (w1.alloc (.cells #[.int .i64 k, .int .i64 r, .int .i64 q, .int .i64 i, .int .i64 l, .int .i64 d, .int .i64 p, .int .u32 a, .string t] 26)).alloc (.cells #[.int .i64 x, .int .i64 y, .int .i64 z] 35) = v1 at *
    generalize w1.heap.size = g1 at *
    obtain ⟨⟨c0, c1, c2, c3, c4, c5, c6, c7, c8⟩, d0, d1, d2⟩ := hX
    have HF := Lib.hid (setCells_blk [.int .i64 0, .int .i64 (o : Int), .int .i64 k, .int .i64 r, .int .i64 q, .int .i64 i, .int .i64 l, .int .i64 d, .int .i64 p, .int .u32 a, .string t, .int .i64 x, .int .i64 y, .int .i64 z] [] _ v1 hZ2 rfl)
    have HG := Lib.hid (setCells_below hB2 (Nat.le_refl _) [.int .i64 0, .int .i64 (o : Int), .int .i64 k, .int .i64 r, .int .i64 q, .int .i64 i, .int .i64 l, .int .i64 d, .int .i64 p, .int .u32 a, .string t, .int .i64 x, .int .i64 y, .int .i64 z] 0)
    have HT := Lib.hid hZ2.there
    obtain ⟨W1, hE⟩ : ∃ W1, v1.setCells w.heap.size 0 [.int .i64 0, .int .i64 (o : Int), .int .i64 k, .int .i64 r, .int .i64 q, .int .i64 i, .int .i64 l, .int .i64 d, .int .i64 p, .int .u32 a, .string t, .int .i64 x, .int .i64 y, .int .i64 z] = W1 := ⟨_, rfl⟩
    have HE := Lib.hid hE
    have HO : Hid ((#[Value.int .i64 0, Value.int .i64 (o : Int), Value.int .i64 k, Value.int .i64 r, Value.int .i64 q, Value.int .i64 i, Value.int .i64 l, Value.int .i64 d, Value.int .i64 p, Value.int .u32 a, Value.string t, Value.int .i64 x, Value.int .i64 y, Value.int .i64 z] : Array Value).all (·.oneCell') = true) := Lib.hid (by simp [Value.oneCell'])
    rw [hE] at HG
    have HF2 : Hid (Blk W1 w.heap.size 53 _) := Lib.hid (hE ▸ HF.out)
    clear hZ2 hB2 hE HF
    go_wp2_with (refine sgt_store rfl (.tmp 4) (.tmp 35) rfl _ _ rfl rfl HT.out rfl HO.out W1 HE.out ?_)
    have hF := HF2.out
    clear c0 c1 c2 c3 c4 c5 c6 c7 c8 d0 d1 d2
    have m0 := hF.cell (i := 0) rfl
    have m1 := hF.cell (i := 1) rfl
    have m2 := hF.cell (i := 2) rfl
    have m3 := hF.cell (i := 3) rfl
    have m4 := hF.cell (i := 4) rfl
    have m5 := hF.cell (i := 5) rfl
    have m6 := hF.cell (i := 6) rfl
    have m7 := hF.cell (i := 7) rfl
    have m8 := hF.cell (i := 8) rfl
    have m9 := hF.cell (i := 9) rfl
    have m10 := hF.cell (i := 10) rfl
    have m11 := hF.cell (i := 11) rfl
    have m12 := hF.cell (i := 12) rfl
    have m13 := hF.cell (i := 13) rfl
    rw [HR2.out]
    exact bodyPost_ret (v := .tuple #[.agg #[.int .i64 0, .int .i64 (o : Int), .int .i64 k, .int .i64 r, .int .i64 q, .int .i64 i, .int .i64 l, .int .i64 d, .int .i64 p, .int .u32 a, .string t, .int .i64 x, .int .i64 y, .int .i64 z], .bool (e0 == 0)]) (by simp [results, Tryz.results124, go_sem, m0, m1, m2, m3, m4, m5, m6, m7, m8, m9, m10, m11, m12, m13]) rfl ⟨rfl, HG.out⟩
  · have h4I : (Bd.size : Int) - C < 400 := by omega
    have HR2 : Hid (R = .tuple #[.agg #[.int .i64 0, .int .i64 0, .int .i64 0, .int .i64 0, .int .i64 0, .int .i64 0, .int .i64 0, .int .i64 0, .int .i64 0, .int .u32 0, .string ⟨#[]⟩, .int .i64 0, .int .i64 0, .int .i64 0], .bool false]) := Lib.hid (by rw [← HR.out, if_neg (by simpa using h4)]; rfl)
    clear h4 HR
    go_enter Tryz.func124, Tryz.ntmps124
    go_upto_region 1 with fail
    generalize w.alloc (.cells #[.int .i64 0, .int .i64 0, .int .i64 0, .int .i64 0, .int .i64 0, .int .i64 0, .int .i64 0, .int .i64 0, .int .i64 0, .int .u32 0, .string ⟨#[]⟩, .int .i64 0, .int .i64 0, .int .i64 0] 53) = wz at *
    go_upto_region 3 with (go_at_call 36; refine (HU.out _).mono ?_; rintro e w' ⟨rfl, rfl⟩)
    clear hw1 hw2 ht1 ht2 hEI hBd hsub h4I
    have hZ2 := HZ.out
    have hB2 := HBz.out
    clear HZ HBz HD HU
    have HF := Lib.hid (setCells_blk [.int .i64 0, .int .i64 0, .int .i64 0, .int .i64 0, .int .i64 0, .int .i64 0, .int .i64 0, .int .i64 0, .int .i64 0, .int .u32 0, .string ⟨#[]⟩, .int .i64 0, .int .i64 0, .int .i64 0] [] _ wz hZ2 rfl)
    have HG := Lib.hid (setCells_below hB2 (Nat.le_refl _) [.int .i64 0, .int .i64 0, .int .i64 0, .int .i64 0, .int .i64 0, .int .i64 0, .int .i64 0, .int .i64 0, .int .i64 0, .int .u32 0, .string ⟨#[]⟩, .int .i64 0, .int .i64 0, .int .i64 0] 0)
    have HT := Lib.hid hZ2.there
    obtain ⟨W1, hE⟩ : ∃ W1, wz.setCells w.heap.size 0 [.int .i64 0, .int .i64 0, .int .i64 0, .int .i64 0, .int .i64 0, .int .i64 0, .int .i64 0, .int .i64 0, .int .i64 0, .int .u32 0, .string ⟨#[]⟩, .int .i64 0, .int .i64 0, .int .i64 0] = W1 := ⟨_, rfl⟩
    have HE := Lib.hid hE
    have HO : Hid ((#[Value.int .i64 0, Value.int .i64 0, Value.int .i64 0, Value.int .i64 0, Value.int .i64 0, Value.int .i64 0, Value.int .i64 0, Value.int .i64 0, Value.int .i64 0, Value.int .u32 0, Value.string ⟨#[]⟩, Value.int .i64 0, Value.int .i64 0, Value.int .i64 0] : Array Value).all (·.oneCell') = true) := Lib.hid (by simp [Value.oneCell'])
    rw [hE] at HG
    have HF2 : Hid (Blk W1 w.heap.size 53 _) := Lib.hid (hE ▸ HF.out)
    clear hZ2 hB2 hE HF
    go_wp2_with (refine sgt_store rfl (.tmp 4) (.tmp 25) rfl _ _ rfl rfl HT.out rfl HO.out W1 HE.out ?_)
    have hF := HF2.out
    have m0 := hF.cell (i := 0) rfl
    have m1 := hF.cell (i := 1) rfl
    have m2 := hF.cell (i := 2) rfl
    have m3 := hF.cell (i := 3) rfl
    have m4 := hF.cell (i := 4) rfl
    have m5 := hF.cell (i := 5) rfl
    have m6 := hF.cell (i := 6) rfl
    have m7 := hF.cell (i := 7) rfl
    have m8 := hF.cell (i := 8) rfl
    have m9 := hF.cell (i := 9) rfl
    have m10 := hF.cell (i := 10) rfl
    have m11 := hF.cell (i := 11) rfl
    have m12 := hF.cell (i := 12) rfl
    have m13 := hF.cell (i := 13) rfl
    rw [HR2.out]
    exact bodyPost_ret (v := .tuple #[.agg #[.int .i64 0, .int .i64 0, .int .i64 0, .int .i64 0, .int .i64 0, .int .i64 0, .int .i64 0, .int .i64 0, .int .i64 0, .int .u32 0, .string ⟨#[]⟩, .int .i64 0, .int .i64 0, .int .i64 0], .bool false]) (by simp [results, Tryz.results124, go_sem, m0, m1, m2, m3, m4, m5, m6, m7, m8, m9, m10, m11, m12, m13]) rfl ⟨rfl, HG.out⟩

end Go.Proofs.YtjennpcadjdnlaaGreatDoor
