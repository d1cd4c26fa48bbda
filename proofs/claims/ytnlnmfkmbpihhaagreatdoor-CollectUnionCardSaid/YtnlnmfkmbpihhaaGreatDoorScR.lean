/-
 PLAIN: the reference's scanner yields the same sightings.
 WALKS: steleref12.far, cell, Distance; steleref14.body, readable, candidate.
 WALKS: steleref14.Piece, Busy, Same; stelelaw14.ScanStrings.
 WALK: stelelaw14.ScanStrings.
-/
import Derived.Test.YtnlnmfkmbpihhaaGreatDoorFrN
import Derived.Test.YtnlnmfkmbpihhaaGreatDoorRfA
import Derived.Test.YtnlnmfkmbpihhaaGreatDoorScC
import Derived.Test.YtnlnmfkmbpihhaaGreatDoorRdQ
import Derived.BigQuiet
namespace Go.Proofs.YtnlnmfkmbpihhaaGreatDoor
open Go.RowKit

/-- How many of the first k cells can be read. -/
def rdL (l : List Nat) : Nat → Nat
 | 0 => 0
 | k + 1 => rdL l k + if cf l k = 48 ∨ cf l k = 49 then 1 else 0
theorem rdL_le (l : List Nat) : ∀ k, rdL l k ≤ k
 | 0 => Nat.le_refl _
 | k + 1 => by
  have := rdL_le l k
  unfold rdL
  split <;> omega
theorem rdL_count {l : List Nat} (h : cellsOK l = true) : ∀ k, k ≤ l.length → rdL l k + (l.take k).count 63 = k
 | 0, _ => rfl
 | k + 1, hk => by
  have ih := rdL_count h k (by omega)
  have hc := cellsOK_iff.1 h (cf l k) (by rw [cf_get (List.getElem?_eq_getElem (by omega : k < l.length))]; exact List.getElem_mem _)
  rw [take_snoc_cf (by omega), List.count_append, List.count_cons, List.count_nil]
  unfold rdL
  rcases hc with e | e | e
  ·rw [if_pos (.inl e), e]; simp; omega
  ·rw [if_pos (.inr e), e]; simp; omega
  ·rw [if_neg (by rw [e]; decide), e]; simp; omega
def rdAll (s : ByteArray) : Nat := rdL (bs s) s.size
def candAt (s : ByteArray) (i : Nat) : Bool := hit (bs s) i && decide (400 ≤ rdAll (bodyAt s i))
def tryR (s : ByteArray) (i : Nat) : Option Sgt :=
 if candAt s i then (if (decP (bodyAt s i)).2.2 = 0 then some ⟨0, i, (decP (bodyAt s i)).1, (decP (bodyAt s i)).2.1⟩ else none) else none
theorem dec_cells {s : ByteArray} (h : (decP s).2.2 = 0) : cellsOK (bs s) = true := by
 unfold decP at h
 split at h
 ·next h1 => exact absurd h h1
 ·next h1 => exact chkE_ok (Decidable.not_not.1 h1)
theorem rd_enough {s : ByteArray} {o : Nat} (h : (decP (bodyAt s o)).2.2 = 0) : enoughAt s o = decide (400 ≤ rdAll (bodyAt s o)) := by
 have h1 := rdL_count (dec_cells h) (bs (bodyAt s o)).length (Nat.le_refl _)
 rw [List.take_length, bs_len] at h1
 unfold enoughAt rdAll
 rw [Bool.eq_iff_iff, decide_eq_true_eq, decide_eq_true_eq]
 omega
theorem tryR_hit {s : ByteArray} {o : Nat} (h : hit (bs s) o = true) : tryR s o = tryAt s o := by
 unfold tryR tryAt candAt
 rw [h, Bool.true_and]
 by_cases h0 : (decP (bodyAt s o)).2.2 = 0
 ·rw [rd_enough h0]
 ·rw [if_neg h0]
  split <;> split <;> rfl
theorem tryR_miss {s : ByteArray} {o : Nat} (h : hit (bs s) o = false) : tryR s o = none := by
 unfold tryR candAt
 rw [h]
 rfl
/-- The reference's sightings, from place i on. -/
def refL (s : ByteArray) (i : Nat) : List Sgt :=
 if _h : i + 16 ≤ s.size then
  (match tryR s i with
  | none => refL s (i + 1)
  | some x => x :: refL s (i + 852))
 else []
termination_by s.size - i
decreasing_by
 all_goals omega
theorem refL_end {s : ByteArray} {i : Nat} (h : s.size < i + 16) : refL s i = [] := by rw [refL, dif_neg (by omega)]
theorem refL_none {s : ByteArray} {i : Nat} (h : i + 16 ≤ s.size) (ht : tryR s i = none) : refL s i = refL s (i + 1) := by rw [refL, dif_pos h, ht]
theorem refL_some {s : ByteArray} {i : Nat} {x : Sgt} (h : i + 16 ≤ s.size) (ht : tryR s i = some x) : refL s i = x :: refL s (i + 852) := by rw [refL, dif_pos h, ht]
theorem scanL_skip {s : ByteArray} {i j : Nat} (h : findL (bs s) i = findL (bs s) j) : scanL s i = scanL s j := by
 cases hj : findL (bs s) j with
 | none => rw [scanL_none hj, scanL_none (h.trans hj)]
 | some o =>
  cases ht : tryAt s o with
  | none => rw [scanL_miss hj ht, scanL_miss (h.trans hj) ht]
  | some x => rw [scanL_some hj ht, scanL_some (h.trans hj) ht]
theorem refL_eq (s : ByteArray) : ∀ (n i : Nat), s.size - i = n → refL s i = scanL s i := by
 intro n
 induction n using Nat.strongRecOn with
 | _ n ih =>
  intro i hn
  by_cases h : i + 16 ≤ s.size
  ·have hl : i + 16 ≤ (bs s).length := by rw [bs_len]; exact h
   cases hh : hit (bs s) i with
   | true =>
    have hf := findL_hit hl hh
    cases ht : tryAt s i with
    | none => rw [refL_none h (by rw [tryR_hit hh, ht]), scanL_miss hf ht, ih (s.size - (i + 1)) (by omega) (i + 1) rfl]
    | some x => rw [refL_some h (by rw [tryR_hit hh, ht]), scanL_some hf ht, ih (s.size - (i + 852)) (by omega) (i + 852) rfl]
   | false =>
    have hf : findL (bs s) i = findL (bs s) (i + 1) := by
     conv => lhs; rw [findL_step]
     rw [if_pos hl, hh]
     rfl
    rw [refL_none h (tryR_miss hh), scanL_skip hf, ih (s.size - (i + 1)) (by omega) (i + 1) rfl]
  ·rw [refL_end (by omega), scanL_end (by omega)]
end Go.Proofs.YtnlnmfkmbpihhaaGreatDoor

namespace Go.Proofs.YtnlnmfkmbpihhaaGreatDoor
open Go.RowKit

theorem rfar_any (w : World) (s : ByteArray) (k : Nat) (hk : k < s.size) (_hs : s.size ≤ 1000000) : Calls Tryz.prog 136 #[.string s, .int .i64 (k : Int)] w fun e w' => e = .returned (.bool false) ∧ w = w' := by
 have h1 : decide ((k : Int) < -16) = false := decide_eq_false (by omega)
 have h2 : ¬ ((s.size : Int) ≤ k) := by omega
 go_enter Tryz.func136, Tryz.ntmps136
 go_wp2
 go_ret
 exact ⟨rfl, rfl⟩
theorem rcell_any (w : World) (s : ByteArray) (k : Nat) (hk : k < s.size) (_hs : s.size ≤ 1000000) : Calls Tryz.prog 137 #[.string s, .int .i64 (k : Int)] w fun e w' => e = .returned (.int .u8 ((s[k]'hk).toNat : Nat)) ∧ w = w' := by
 have h1 : decide ((k : Int) < 0) = false := decide_eq_false (by omega)
 have h2 : ¬ ((s.size : Int) ≤ k) := by omega
 have h3 : (k : Int) < s.size := by omega
 go_enter Tryz.func137, Tryz.ntmps137
 go_wp2
 go_ret
 exact ⟨rfl, rfl⟩

set_option maxRecDepth 100000 in
set_option maxHeartbeats 8000000 in
theorem rdist_any (w : World) (s : ByteArray) (k : Nat) (hk : k + 16 ≤ s.size) (hs : s.size ≤ 1000000) :
  Calls Tryz.prog 75 #[.string s, .int .i64 (k : Int)] w fun e w' => e = .returned (.int .i64 ((16 - mt (bs s) k 16 : Nat) : Int)) ∧ w = w' := by
 have HF := Lib.hid (fun W => rfar_any W s k (by omega) hs)
 have HM : Hid (∀ W : World, Calls Tryz.prog 74 #[] W fun e w' => e = .returned (.string markS) ∧ W = w') := Lib.hid (fun W => rmark_any W)
 change Hid (∀ W : World, Calls Tryz.prog 74 #[] W fun e w' => e = .returned (.string ⟨#[49, 49, 49, 49, 49, 48, 48, 49, 49, 48, 49, 48, 49, 48, 48, 48]⟩) ∧ W = w') at HM
 go_enter Tryz.func75, Tryz.ntmps75
 go_wp2_with (go_at_call 136; refine (HF.out _).mono ?_; rintro e w1 ⟨rfl, rfl⟩)
 go_loop [5, 6] (fun n x => ∃ i : Nat, i ≤ 16 ∧ x = .int .i64 (i : Int) ∧ n = .int .i64 ((i - mt (bs s) k i : Nat) : Int)) (fun _ x => 16 - (intOf x).toNat)
 case atStart => exact ⟨0, by omega, rfl, rfl⟩
 case round =>
  obtain ⟨i, hi, rfl, rfl⟩ := hrel
  have hm := mt_le (bs s) k i
  by_cases h : i < 16
  ·have hiI : (i : Int) < 16 := by omega
   have hki : k + i < s.size := by omega
   have hx := bs_cf s (k + i) hki
   have hy := mark_at i h
   have Hst : Hid (mt (bs s) k (i + 1) = mt (bs s) k i + if cf (bs s) (k + i) = cf markL i then 1 else 0) := Lib.hid rfl
   rw [hx, ← hy] at Hst
   have HC : Hid (∀ W : World, Calls Tryz.prog 137 #[.string s, .int .i64 ((k : Int) + i)] W fun e w' => e = .returned (.int .u8 ((s[k + i]'hki).toNat : Nat)) ∧ W = w') := Lib.hid (fun W => by
    have h := rcell_any W s (k + i) hki hs
    rw [show (((k + i : Nat) : Int)) = (k : Int) + i by omega] at h
    exact h)
   obtain ⟨M, hM⟩ : ∃ M, mt (bs s) k i = M := ⟨_, rfl⟩
   rw [hM] at Hst hm ⊢
   have hmz : (⟨#[49, 49, 49, 49, 49, 48, 48, 49, 49, 48, 49, 48, 49, 48, 48, 48]⟩ : ByteArray).size = 16 := rfl
   have ht1 : IntKind.i64.wrap ((k : Int) + i) = (k : Int) + i := IntWalk.i64_in _ (by omega)
   have hwr : IntKind.i64.wrap (((i - M : Nat) : Int) + 1) = ((i - M + 1 : Nat) : Int) := by rw [IntKind.wrap_i64]; omega
   clear hx hy hM hk
   by_cases he : (s[k + i]'hki).toNat = ((⟨#[49, 49, 49, 49, 49, 48, 48, 49, 49, 48, 49, 48, 49, 48, 48, 48]⟩ : ByteArray)[i]'h).toNat
   ·have hst := Hst.out
    rw [if_pos he] at hst
    have Hst := Lib.hid hst
    have hcmp : ((((s[k + i]'hki).toNat : Nat) : Int) != (((⟨#[49, 49, 49, 49, 49, 48, 48, 49, 49, 48, 49, 48, 49, 48, 48, 48]⟩ : ByteArray)[i]'h).toNat : Int)) = false := by rw [bne_eq_false_iff_eq, he]
    clear hst he
    go_wp2_with (first | (go_at_call 137; refine (HC.out _).mono ?_; rintro e w1 ⟨rfl, rfl⟩) | (go_at_call 74; refine (HM.out _).mono ?_; rintro e w1 ⟨rfl, rfl⟩))
    go_round
    case rel => exact ⟨i + 1, by omega, by go_num, vintS (by rw [Hst.out]; omega)⟩
    case measure => simp [intOf]; omega
   ·have hst := Hst.out
    rw [if_neg he, Nat.add_zero] at hst
    have Hst := Lib.hid hst
    have hcmp : ((((s[k + i]'hki).toNat : Nat) : Int) != (((⟨#[49, 49, 49, 49, 49, 48, 48, 49, 49, 48, 49, 48, 49, 48, 48, 48]⟩ : ByteArray)[i]'h).toNat : Int)) = true := by rw [bne_iff_ne]; omega
    clear hst he
    go_wp2_with (first | (go_at_call 137; refine (HC.out _).mono ?_; rintro e w1 ⟨rfl, rfl⟩) | (go_at_call 74; refine (HM.out _).mono ?_; rintro e w1 ⟨rfl, rfl⟩))
    go_round
    case rel => exact ⟨i + 1, by omega, by go_num, vintS (by rw [Hst.out]; omega)⟩
    case measure => simp [intOf]; omega
  ·obtain rfl : i = 16 := by omega
   go_wp2
   go_ret
   exact ⟨rfl, rfl⟩

set_option maxRecDepth 100000 in
set_option maxHeartbeats 8000000 in
theorem rbody_any (w : World) (s : ByteArray) (o : Nat) (ho : o + 16 ≤ s.size) (hs : s.size ≤ 1000000) : Calls Tryz.prog 42 #[.string s, .int .i64 (o : Int)] w fun e w' => e = .returned (.string (bodyAt s o)) ∧ w = w' := by
 have ho9 : o ≤ 1000000 := by omega
 have e1 : ((o : Int) + 852).toNat = o + 852 := by omega
 have e2 : ((o : Int) + 16).toNat = o + 16 := by omega
 have b1 : (0 : Int) ≤ (o : Int) + 16 := by omega
 by_cases h : s.size < o + 852
 ·have hI : (s.size : Int) < (o : Int) + 852 := by omega
  have hI2 : (o : Int) + 16 ≤ s.size := by omega
  have hb : s.extract (o + 16) s.size = bodyAt s o := by unfold bodyAt; rw [show min (o + 852) s.size = s.size by omega]
  generalize bodyAt s o = B at *
  go_enter Tryz.func42, Tryz.ntmps42
  go_wp2
  go_ret
  exact ⟨rfl, rfl⟩
 ·have hI : ¬ ((s.size : Int) < (o : Int) + 852) := by omega
  have hI2 : (o : Int) + 852 ≤ s.size := by omega
  have hI3 : (o : Int) + 16 ≤ (o : Int) + 852 := by omega
  have hI4 : (0 : Int) ≤ (o : Int) + 852 := by omega
  have hb : s.extract (o + 16) (o + 852) = bodyAt s o := by unfold bodyAt; rw [show min (o + 852) s.size = o + 852 by omega]
  generalize bodyAt s o = B at *
  go_enter Tryz.func42, Tryz.ntmps42
  go_wp2
  go_ret
  exact ⟨rfl, rfl⟩

set_option maxRecDepth 100000 in
set_option maxHeartbeats 8000000 in
theorem rread_any (w : World) (s : ByteArray) (hs : s.size ≤ 1000000) : Calls Tryz.prog 76 #[.string s] w fun e w' => e = .returned (.int .i64 ((rdAll s : Nat) : Int)) ∧ w = w' := by
 unfold rdAll
 go_enter Tryz.func76, Tryz.ntmps76
 go_wp2
 go_loop [3, 4] (fun n x => ∃ i : Nat, i ≤ s.size ∧ x = .int .i64 (i : Int) ∧ n = .int .i64 ((rdL (bs s) i : Nat) : Int)) (fun _ x => s.size - (intOf x).toNat)
 case atStart => exact ⟨0, by omega, rfl, rfl⟩
 case round =>
  obtain ⟨i, hi, rfl, rfl⟩ := hrel
  have hm := rdL_le (bs s) i
  by_cases h : i < s.size
  ·have hiI : (i : Int) < s.size := by omega
   have Hst : Hid (rdL (bs s) (i + 1) = rdL (bs s) i + if cf (bs s) i = 48 ∨ cf (bs s) i = 49 then 1 else 0) := Lib.hid rfl
   rw [bsc s i h] at Hst
   generalize rdL (bs s) i = M at *
   by_cases h48 : (s[i]'h).toNat = 48
   ·have e1 : (((s[i]'h).toNat : Int) == 48) = true := by rw [h48]; rfl
    have Hx : Hid (rdL (bs s) (i + 1) = M + 1) := Lib.hid (by rw [Hst.out, if_pos (.inl h48)])
    clear h48
    go_wp2
    go_round
    case rel => exact ⟨i + 1, by omega, by go_num, by rw [Hx.out]; go_num⟩
    case measure => simp [intOf]; omega
   ·have e1 : (((s[i]'h).toNat : Int) == 48) = false := by simpa using fun e : ((s[i]'h).toNat : Int) = 48 => h48 (by omega)
    by_cases h49 : (s[i]'h).toNat = 49
    ·have e2 : (((s[i]'h).toNat : Int) == 49) = true := by rw [h49]; rfl
     have Hx : Hid (rdL (bs s) (i + 1) = M + 1) := Lib.hid (by rw [Hst.out, if_pos (.inr h49)])
     clear h48 h49
     go_wp2
     go_round
     case rel => exact ⟨i + 1, by omega, by go_num, by rw [Hx.out]; go_num⟩
     case measure => simp [intOf]; omega
    ·have e2 : (((s[i]'h).toNat : Int) == 49) = false := by simpa using fun e : ((s[i]'h).toNat : Int) = 49 => h49 (by omega)
     have Hx : Hid (rdL (bs s) (i + 1) = M) := Lib.hid (by rw [Hst.out, if_neg (by rintro (e | e); exact h48 e; exact h49 e)]; rfl)
     clear h48 h49
     go_wp2
     go_round
     case rel => exact ⟨i + 1, by omega, by go_num, by rw [Hx.out]⟩
     case measure => simp [intOf]; omega
  ·obtain rfl : i = s.size := by omega
   go_wp2
   go_ret
   exact ⟨rfl, rfl⟩

set_option maxRecDepth 100000 in
set_option maxHeartbeats 8000000 in
theorem rcand_any (w : World) (s : ByteArray) (k : Nat) (hk : k + 16 ≤ s.size) (hs : s.size ≤ 1000000) : Calls Tryz.prog 40 #[.string s, .int .i64 (k : Int)] w fun e w' => e = .returned (.bool (candAt s k)) ∧ w = w' := by
 have HD := Lib.hid (fun W => rdist_any W s k hk hs)
 have HB := Lib.hid (fun W => rbody_any W s k hk hs)
 have hbz := bodyAt_size hk
 have HR := Lib.hid (fun W => rread_any W (bodyAt s k) (by omega))
 have hm := mt_le (bs s) k 16
 have Hc : Hid (candAt s k = (decide (14 ≤ mt (bs s) k 16) && decide (400 ≤ rdAll (bodyAt s k)))) := Lib.hid rfl
 obtain ⟨M, hM⟩ : ∃ M, mt (bs s) k 16 = M := ⟨_, rfl⟩
 obtain ⟨r, hr⟩ : ∃ r, rdAll (bodyAt s k) = r := ⟨_, rfl⟩
 obtain ⟨c, hc⟩ : ∃ c, candAt s k = c := ⟨_, rfl⟩
 rw [hM] at HD hm
 rw [hr] at HR
 rw [hM, hr, hc] at Hc
 rw [hc]
 clear hM hr hc hbz
 generalize bodyAt s k = B at *
 by_cases h : 14 ≤ M
 ·have h1 : ((16 - M : Nat) : Int) ≤ 2 := by omega
  by_cases h4 : 400 ≤ r
  ·have h2 : decide ((400 : Int) ≤ (r : Int)) = true := by simp; omega
   have HX : Hid (c = true) := Lib.hid (by rw [Hc.out]; simp [h, h4])
   clear h h4
   go_enter Tryz.func40, Tryz.ntmps40
   go_wp2_with (first | (go_at_call 75; refine (HD.out _).mono ?_; rintro e w1 ⟨rfl, rfl⟩) | (go_at_call 42; refine (HB.out _).mono ?_; rintro e w1 ⟨rfl, rfl⟩) | (go_at_call 76; refine (HR.out _).mono ?_; rintro e w1 ⟨rfl, rfl⟩))
   go_ret
   exact ⟨by rw [HX.out]; rfl, rfl⟩
  ·have h2 : decide ((400 : Int) ≤ (r : Int)) = false := by simp; omega
   have HX : Hid (c = false) := Lib.hid (by rw [Hc.out]; simp [h4])
   clear h h4
   go_enter Tryz.func40, Tryz.ntmps40
   go_wp2_with (first | (go_at_call 75; refine (HD.out _).mono ?_; rintro e w1 ⟨rfl, rfl⟩) | (go_at_call 42; refine (HB.out _).mono ?_; rintro e w1 ⟨rfl, rfl⟩) | (go_at_call 76; refine (HR.out _).mono ?_; rintro e w1 ⟨rfl, rfl⟩))
   go_ret
   exact ⟨by rw [HX.out]; rfl, rfl⟩
 ·have h1 : ¬ (((16 - M : Nat) : Int) ≤ 2) := by omega
  have h1D : decide (((16 - M : Nat) : Int) ≤ 2) = false := decide_eq_false h1
  have HX : Hid (c = false) := Lib.hid (by rw [Hc.out]; simp [h])
  clear h
  go_enter Tryz.func40, Tryz.ntmps40
  go_wp2_with (go_at_call 75; refine (HD.out _).mono ?_; rintro e w1 ⟨rfl, rfl⟩)
  go_ret
  exact ⟨by rw [HX.out]; rfl, rfl⟩
end Go.Proofs.YtnlnmfkmbpihhaaGreatDoor

namespace Go.Proofs.YtnlnmfkmbpihhaaGreatDoor
open Go.RowKit

theorem pair_mk (W : World) (fs qs : List Value) : Blk ((W.alloc (.cells fs.toArray 34)).alloc (.cells qs.toArray 36)) W.heap.size 34 fs ∧ Blk ((W.alloc (.cells fs.toArray 34)).alloc (.cells qs.toArray 36)) (W.heap.size + 1) 36 qs ∧ Below W.heap.size W ((W.alloc (.cells fs.toArray 34)).alloc (.cells qs.toArray 36)) := by
 refine ⟨(Blk.new W 34 fs).kept ((Below.refl _ _).alloc (Nat.le_refl _) _), ?_, ((Below.refl _ _).alloc (Nat.le_refl _) _).alloc (by simp) _⟩
 have h := Blk.new (W.alloc (.cells fs.toArray 34)) 36 qs
 rw [show (W.alloc (.cells fs.toArray 34)).heap.size = W.heap.size + 1 by simp] at h
 exact h
theorem rdec_parts (B : ByteArray) : ∃ (k r q i l d p a : Int) (t : ByteArray) (x y z E : Int), decR B = .tuple #[frV k r q i l d p a t, qualV x y z, .int .i64 E] ∧ decP B = (⟨k, r, q, i, l, d, p, a, t⟩, ⟨x, y, z⟩, E) := by
 obtain ⟨P, hP⟩ : ∃ P, decP B = P := ⟨_, rfl⟩
 have h := decP_eq B
 rw [hP] at h
 obtain ⟨⟨k, r, q, i, l, d, p, a, t⟩, ⟨x, y, z⟩, E⟩ := P
 exact ⟨k, r, q, i, l, d, p, a, t, x, y, z, E, h, hP⟩
theorem tryR_parts {s : ByteArray} {o : Nat} {f : Frm} {q : Qua} {E : Int} (hP : decP (bodyAt s o) = (f, q, E)) (hc : candAt s o = true) : tryR s o = if E = 0 then some ⟨0, o, f, q⟩ else none := by
 unfold tryR
 rw [hc, hP]
 rfl
theorem tryR_cand {s : ByteArray} {o : Nat} (hc : candAt s o = false) : tryR s o = none := by
 unfold tryR
 rw [hc]
 rfl

set_option maxRecDepth 100000 in
set_option maxHeartbeats 16000000 in
theorem rpiece_own (w : World) (s : ByteArray) (hs : s.size ≤ 900000) : Calls Tryz.prog 21 #[.string s] w fun e w' => ∃ v, e = .returned v ∧ w'.ownsRow w.heap.size 38 14 v (scanL s 0).length ((scanL s 0).flatMap Sgt.cells) ∧ Below w.heap.size w w' := by
 rw [← refL_eq s _ 0 rfl]
 have HK0 : Hid ((w.alloc (.cells #[] 38)).ownsRow w.heap.size 38 14 (.slice (some ⟨w.heap.size, 0, none⟩) 0 0) 0 []) := Lib.hid (own_empty w 38 14)
 have HA0 := Lib.hid ((Below.refl w.heap.size w).alloc (Nat.le_refl _) (.cells #[] 38))
 obtain ⟨i0, hi, hz0, hz1, hz2⟩ := info_parts Tryz.infoSight
 have Hinfo : Hid (Tryz.prog.info? 38 = some i0 ∧ i0.zero = some (.agg zero14.toArray) ∧ i0.size = 14 ∧ i0.bytes = 120) := Lib.hid ⟨hi, hz0, hz1, hz2⟩
 clear hi hz0 hz1 hz2
 go_enter Tryz.func21, Tryz.ntmps21
 go_wp2
 go_loopw [3, 4] (fun v x wr => ∃ (i : Nat) (pre : List Sgt), i ≤ s.size + 852 ∧ x = .int .i64 (i : Int) ∧ refL s 0 = pre ++ refL s i ∧ pre.length ≤ i ∧ wr.ownsRow w.heap.size 38 14 v pre.length (pre.flatMap Sgt.cells) ∧ Below w.heap.size w wr) (fun _ x _ => s.size + 900 - (intOf x).toNat)
 case atStart => exact ⟨0, [], by omega, rfl, rfl, Nat.le_refl _, HK0.out, HA0.out⟩
 case round =>
  obtain ⟨i, pre, hi, rfl, hpre, hpl, ho, hB⟩ := hrel
  clear HK0 HA0
  have Hpre := Lib.hid hpre
  have Ho := Lib.hid ho
  have HBr := Lib.hid hB
  clear hpre ho hB
  by_cases h : i + 16 ≤ s.size
  ·have hiI : (i : Int) + 16 ≤ s.size := by omega
   have HC := Lib.hid (fun W => rcand_any W s i h (by omega))
   have Hn : Hid (tryR s i = none → refL s 0 = pre ++ refL s (i + 1)) := Lib.hid (fun ht => by rw [Hpre.out, refL_none h ht])
   have Hy : Hid (∀ x, tryR s i = some x → refL s 0 = (pre ++ [x]) ++ refL s (i + 852)) := Lib.hid (fun x ht => by rw [Hpre.out, refL_some h ht, List.append_assoc]; rfl)
   clear Hpre
   cases hc : candAt s i with
   | false =>
    have HX := Lib.hid (Hn.out (tryR_cand hc))
    rw [hc] at HC
    clear hc Hn Hy
    go_wp2_with (go_at_call 40; refine (HC.out _).mono ?_; rintro e w1 ⟨rfl, rfl⟩)
    go_roundw
    case rel => exact ⟨i + 1, pre, by omega, by go_num, HX.out, by omega, Ho.out, HBr.out⟩
    case measure => simp [intOf]; omega
   | true =>
    have HBd := Lib.hid (fun W => rbody_any W s i h (by omega))
    have hbz := bodyAt_size h
    have HD := Lib.hid (fun W => rdec_any W (bodyAt s i) (by omega))
    obtain ⟨k, r, q, ix, l, d, p, a, t, x, y, z, E, hd1, hd2⟩ := rdec_parts (bodyAt s i)
    have htr := tryR_parts hd2 hc
    rw [hd1] at HD
    rw [hc] at HC
    unfold frV qualV at HD
    clear hd1 hd2 hc hbz
    generalize bodyAt s i = B at *
    go_upto_region 6 with (first | (go_at_call 40; refine (HC.out _).mono ?_; rintro e w1 ⟨rfl, rfl⟩) | (go_at_call 42; refine (HBd.out _).mono ?_; rintro e w1 ⟨rfl, rfl⟩) | (go_at_call 41; refine (HD.out _).mono ?_; rintro e w3 ⟨rfl, hb3⟩))
    obtain ⟨h7, h8, hA⟩ := pair_mk w3 [.int .i64 k, .int .i64 r, .int .i64 q, .int .i64 ix, .int .i64 l, .int .i64 d, .int .i64 p, .int .u32 a, .string t] [.int .i64 x, .int .i64 y, .int .i64 z]
    have eA := hb3.trans (hA.mono hb3.size)
    have Ho3 := Lib.hid (own_belowN Ho.out eA)
    have HB3 := Lib.hid (HBr.out.trans (eA.mono HBr.out.size))
    have H7 := Lib.hid h7
    have H8 := Lib.hid h8
    clear hb3 hA eA h7 h8 Ho HBr HD HBd HC
    change Hid (Blk ((w3.alloc (.cells #[.int .i64 k, .int .i64 r, .int .i64 q, .int .i64 ix, .int .i64 l, .int .i64 d, .int .i64 p, .int .u32 a, .string t] 34)).alloc (.cells #[.int .i64 x, .int .i64 y, .int .i64 z] 36)) _ _ _) at H7
    change Hid (Blk ((w3.alloc (.cells #[.int .i64 k, .int .i64 r, .int .i64 q, .int .i64 ix, .int .i64 l, .int .i64 d, .int .i64 p, .int .u32 a, .string t] 34)).alloc (.cells #[.int .i64 x, .int .i64 y, .int .i64 z] 36)) _ _ _) at H8
    change Hid (World.ownsRow ((w3.alloc (.cells #[.int .i64 k, .int .i64 r, .int .i64 q, .int .i64 ix, .int .i64 l, .int .i64 d, .int .i64 p, .int .u32 a, .string t] 34)).alloc (.cells #[.int .i64 x, .int .i64 y, .int .i64 z] 36)) _ _ _ _ _ _) at Ho3
    change Hid (Below _ _ ((w3.alloc (.cells #[.int .i64 k, .int .i64 r, .int .i64 q, .int .i64 ix, .int .i64 l, .int .i64 d, .int .i64 p, .int .u32 a, .string t] 34)).alloc (.cells #[.int .i64 x, .int .i64 y, .int .i64 z] 36))) at HB3
    generalize (w3.alloc (.cells #[.int .i64 k, .int .i64 r, .int .i64 q, .int .i64 ix, .int .i64 l, .int .i64 d, .int .i64 p, .int .u32 a, .string t] 34)).alloc (.cells #[.int .i64 x, .int .i64 y, .int .i64 z] 36) = w4 at *
    generalize w3.heap.size = g7 at *
    by_cases hE : E = 0
    ·have hEI : (E == 0) = true := by rw [hE]; rfl
     rw [if_pos hE] at htr
     have HX := Lib.hid (Hy.out _ htr)
     have hn1 : pre.length ≤ 950000 := by omega
     have hBz := HB3.out.size
     have c0 := H7.out.cell (i := 0) rfl; have c1 := H7.out.cell (i := 1) rfl; have c2 := H7.out.cell (i := 2) rfl; have c3 := H7.out.cell (i := 3) rfl; have c4 := H7.out.cell (i := 4) rfl; have c5 := H7.out.cell (i := 5) rfl; have c6 := H7.out.cell (i := 6) rfl; have c7 := H7.out.cell (i := 7) rfl; have c8 := H7.out.cell (i := 8) rfl
     have d0 := H8.out.cell (i := 0) rfl; have d1 := H8.out.cell (i := 1) rfl; have d2 := H8.out.cell (i := 2) rfl
     have hnew := Blk.new w4 38 [.int .i64 0, .int .i64 (i : Int), .int .i64 k, .int .i64 r, .int .i64 q, .int .i64 ix, .int .i64 l, .int .i64 d, .int .i64 p, .int .u32 a, .string t, .int .i64 x, .int .i64 y, .int .i64 z]
     have Hnews : Hid (∀ (j : Nat) (u : Value), [Value.int .i64 0, .int .i64 (i : Int), .int .i64 k, .int .i64 r, .int .i64 q, .int .i64 ix, .int .i64 l, .int .i64 d, .int .i64 p, .int .u32 a, .string t, .int .i64 x, .int .i64 y, .int .i64 z][j]? = some u → (w4.alloc (.cells #[.int .i64 0, .int .i64 (i : Int), .int .i64 k, .int .i64 r, .int .i64 q, .int .i64 ix, .int .i64 l, .int .i64 d, .int .i64 p, .int .u32 a, .string t, .int .i64 x, .int .i64 y, .int .i64 z] 38)).cell? ((⟨w4.heap.size, 0, none⟩ : Addr).add j) = some u) := Lib.hid (fun j u hj => by
      rw [Addr.add_lit, Nat.zero_add]
      exact hnew.cell hj)
     have Hone : Hid (∀ u ∈ [Value.int .i64 0, .int .i64 (i : Int), .int .i64 k, .int .i64 r, .int .i64 q, .int .i64 ix, .int .i64 l, .int .i64 d, .int .i64 p, .int .u32 a, .string t, .int .i64 x, .int .i64 y, .int .i64 z], u.oneCell' = true) := Lib.hid (by simp [Value.oneCell'])
     have Ho4 := Lib.hid (Ho3.out.alloc (.cells #[.int .i64 0, .int .i64 (i : Int), .int .i64 k, .int .i64 r, .int .i64 q, .int .i64 ix, .int .i64 l, .int .i64 d, .int .i64 p, .int .u32 a, .string t, .int .i64 x, .int .i64 y, .int .i64 z] 38))
     have HB4 := Lib.hid (HB3.out.alloc hBz (.cells #[.int .i64 0, .int .i64 (i : Int), .int .i64 k, .int .i64 r, .int .i64 q, .int .i64 ix, .int .i64 l, .int .i64 d, .int .i64 p, .int .u32 a, .string t, .int .i64 x, .int .i64 y, .int .i64 z] 38))
     clear hE htr Hn Hy H7 H8 hnew
     go_wp2_with (at_builtin; refine wpList_append_own _ rfl _ _ 28 rfl w.heap.size 38 i0 (.agg zero14.toArray) 14 120 Tryz.underlying28 Hinfo.out.1 Hinfo.out.2.1 Hinfo.out.2.2.1 Hinfo.out.2.2.2 rfl (by omega) _ pre.length _ rfl Ho4.out ⟨w4.heap.size, 0, none⟩ 1 1 _ rfl rfl Hnews.out Hone.out (by unfold maxLen; omega) (by omega) HB4.out.size ?_; intro v' w6 hown6 hgr6 _; have Ho6 := Lib.hid hown6; have HB6 := Lib.hid (HB4.out.grown hgr6 HB4.out.size (own_geN Ho4.out)); clear hown6 hgr6)
     go_roundw
     case rel =>
      refine ⟨i + 852, pre ++ [⟨0, i, ⟨k, r, q, ix, l, d, p, a, t⟩, ⟨x, y, z⟩⟩], by omega, by go_num, HX.out, by rw [List.length_append, List.length_singleton]; omega, ?_, HB6.out⟩
      rw [List.length_append, List.length_singleton, List.flatMap_append]
      simpa [Sgt.cells, Frm.cells] using Ho6.out
     case measure => simp [intOf]; omega
    ·have hEI : (E == 0) = false := by simpa using hE
     rw [if_neg hE] at htr
     have HX := Lib.hid (Hn.out htr)
     clear hE htr Hn Hy H7 H8
     go_wp2
     go_roundw
     case rel => exact ⟨i + 1, pre, by omega, by go_num, HX.out, by omega, Ho3.out, HB3.out⟩
     case measure => simp [intOf]; omega
  ·have hiI : ¬ ((i : Int) + 16 ≤ s.size) := by omega
   have hp : refL s 0 = pre := by rw [Hpre.out, refL_end (by omega), List.append_nil]
   have HS := Lib.hid Ho.out
   rw [← hp] at HS
   clear hp Hpre
   go_wp2
   go_ret
   exact ⟨_, rfl, HS.out, HBr.out⟩
set_option maxRecDepth 100000 in
set_option maxHeartbeats 16000000 in
theorem rbusy_any (w : World) (v : Value) (ss : List ByteArray) (most : Int) (hv : StrvAt w v ss) (hl : ss.length ≤ 1000000) (hs : ∀ s ∈ ss, s.size ≤ 900000) : Calls Tryz.prog 13 #[v, .int .i64 most] w fun e w' => ∃ n : Int, e = .returned (.int .i64 n) ∧ (n = 0 ∨ n = 1) ∧ Below w.heap.size w w' := by
 have Hv := Lib.hid hv
 have Hs := Lib.hid hs
 obtain ⟨A, c, rfl, h1⟩ := hv
 clear h1 hs
 go_enter Tryz.func13, Tryz.ntmps13
 go_wp2
 go_loopw [5, 6] (fun y x wr => ∃ (z : Int) (j : Nat), j ≤ ss.length ∧ y = .int .i64 z ∧ x = .int .i64 (j : Int) ∧ Below w.heap.size w wr) (fun _ x _ => ss.length - (intOf x).toNat)
 case atStart => exact ⟨0, 0, by omega, rfl, rfl, Below.refl _ _⟩
 case round =>
  obtain ⟨z0, j, hj, rfl, rfl, hB⟩ := hrel
  have HB := Lib.hid hB
  clear hB
  by_cases h : j < ss.length
  ·have hjI : (j : Int) < ss.length := by omega
   obtain ⟨s, hjs⟩ : ∃ s, ss[j]? = some s := ⟨_, List.getElem?_eq_getElem h⟩
   have hs := Hs.out s (List.mem_of_getElem? hjs)
   obtain ⟨_, _, e9, hg⟩ := Hv.out.below HB.out
   cases e9
   obtain ⟨b, o, rfl, hc⟩ := hg j s hjs
   clear hg hjs Hs
   go_wp2
   clear hc
   go_loopw [5, 8] (fun y x wx => ∃ (z : Int) (i : Nat), i ≤ s.size + 852 ∧ y = .int .i64 z ∧ x = .int .i64 (i : Int) ∧ Below w.heap.size w wx) (fun _ x _ => s.size + 900 - (intOf x).toNat)
   case atStart => exact ⟨z0, 0, by omega, rfl, rfl, HB.out⟩
   case round =>
    obtain ⟨z, i, hi, rfl, rfl, hB⟩ := hrel
    clear HB Hv
    have HBr := Lib.hid hB
    clear hB
    by_cases hi16 : i + 16 ≤ s.size
    ·have hiI : (i : Int) + 16 ≤ s.size := by omega
     have HC := Lib.hid (fun W => rcand_any W s i hi16 (by omega))
     cases hcd : candAt s i with
     | false =>
      rw [hcd] at HC
      clear hcd
      go_wp2_with (go_at_call 40; refine (HC.out _).mono ?_; rintro e w1 ⟨rfl, rfl⟩)
      go_roundw
      case rel => exact ⟨z, i + 1, by omega, rfl, by go_num, HBr.out⟩
      case measure => simp [intOf]; omega
     | true =>
      have HBd := Lib.hid (fun W => rbody_any W s i hi16 (by omega))
      have hbz := bodyAt_size hi16
      have HD := Lib.hid (fun W => rdec_any W (bodyAt s i) (by omega))
      obtain ⟨k, r, q, ix, l, d, p, a, t, x, y, zz, E, hd1, hd2⟩ := rdec_parts (bodyAt s i)
      rw [hd1] at HD
      rw [hcd] at HC
      unfold frV qualV at HD
      clear hd1 hd2 hcd hbz
      generalize bodyAt s i = B at *
      go_upto_region 11 with (first | (go_at_call 40; refine (HC.out _).mono ?_; rintro e w1 ⟨rfl, rfl⟩) | (go_at_call 42; refine (HBd.out _).mono ?_; rintro e w1 ⟨rfl, rfl⟩) | (go_at_call 41; refine (HD.out _).mono ?_; rintro e w3 ⟨rfl, hb3⟩))
      have hA := (pair_mk w3 [.int .i64 k, .int .i64 r, .int .i64 q, .int .i64 ix, .int .i64 l, .int .i64 d, .int .i64 p, .int .u32 a, .string t] [.int .i64 x, .int .i64 y, .int .i64 zz]).2.2
      have eA := hb3.trans (hA.mono hb3.size)
      have HB3 := Lib.hid (HBr.out.trans (eA.mono HBr.out.size))
      clear hb3 hA eA HBr HD HBd HC
      change Hid (Below _ _ ((w3.alloc (.cells #[.int .i64 k, .int .i64 r, .int .i64 q, .int .i64 ix, .int .i64 l, .int .i64 d, .int .i64 p, .int .u32 a, .string t] 34)).alloc (.cells #[.int .i64 x, .int .i64 y, .int .i64 zz] 36))) at HB3
      generalize (w3.alloc (.cells #[.int .i64 k, .int .i64 r, .int .i64 q, .int .i64 ix, .int .i64 l, .int .i64 d, .int .i64 p, .int .u32 a, .string t] 34)).alloc (.cells #[.int .i64 x, .int .i64 y, .int .i64 zz] 36) = w4 at *
      generalize w3.heap.size = g7 at *
      obtain ⟨z1, hz1⟩ : ∃ z1, IntKind.i64.wrap (z + 1) = z1 := ⟨_, rfl⟩
      by_cases hE : E = 0
      ·have hEI : (E == 0) = true := by rw [hE]; rfl
       clear hE hz1
       go_wp2
       go_roundw
       case rel => exact ⟨z, i + 852, by omega, rfl, by go_num, HB3.out⟩
       case measure => simp [intOf]; omega
      ·have hEI : (E == 0) = false := by simpa using hE
       clear hE
       by_cases hm : most < z1
       ·go_wp2
        go_ret
        exact ⟨1, rfl, .inr rfl, HB3.out⟩
       ·go_wp2
        go_roundw
        case rel => exact ⟨z1, i + 1, by omega, rfl, by go_num, HB3.out⟩
        case measure => simp [intOf]; omega
    ·have hiI : ¬ ((i : Int) + 16 ≤ s.size) := by omega
     go_wp2
     go_roundw
     case rel => exact ⟨z, j + 1, by omega, rfl, by go_num, HBr.out⟩
     case measure => simp [intOf]; omega
  ·have hjI : ¬ (j : Int) < ss.length := by omega
   go_wp2
   go_ret
   exact ⟨0, rfl, .inl rfl, HB.out⟩

end Go.Proofs.YtnlnmfkmbpihhaaGreatDoor

namespace Go.Proofs.YtnlnmfkmbpihhaaGreatDoor
open Go.RowKit

theorem strs_one (W : World) (s : ByteArray) : StrvAt (W.alloc (.cells #[.string s] 9)) (.slice (some ⟨W.heap.size, 0, none⟩) 1 1) [s] :=
 ⟨_, 1, rfl, fun i u hi => by
  match i, hi with
  | 0, hi => cases hi; exact ⟨_, 0, rfl, (Blk.new W 9 [.string s]).cell (i := 0) rfl⟩
  | i + 1, hi => cases hi⟩
end Go.Proofs.YtnlnmfkmbpihhaaGreatDoor
