/-
  Joined: VqJ VqK VqL.
-/
import Derived.Test.YtbccghbngaiceaaGreatDoorMMn05
set_option linter.all false
set_option maxRecDepth 100000
set_option maxHeartbeats 64000000
namespace Go.Proofs.YtbccghbngaiceaaGreatDoor
section
open Go.RowKit
theorem any_yesS {α : Type} {l : List α} {p : α → Bool} (k : Nat) (y : α) (h : l[k]? = some y) (hy : p y = true) : l.any p = true :=
 List.any_eq_true.2 ⟨y, List.mem_of_getElem? h, hy⟩
theorem any_noS {α : Type} {l : List α} {p : α → Bool} (h : ∀ (k : Nat) (y : α), l[k]? = some y → p y = false) : l.any p = false := by
 rw [List.any_eq_false]
 intro y hy
 obtain ⟨k, hk⟩ := List.mem_iff_getElem?.1 hy
 simpa using h k y hk
def JudgeS (g : Nat) (lb : Array Value) (p : ByteArray → Bool) (l : List ByteArray) (w : World) : Prop :=
 ∀ (W : World) (x : ByteArray), Below w.heap.size w W → x ∈ l → Calls Tryz.prog g (#[.string x] ++ lb) W fun e w' => e = .returned (.bool (p x)) ∧ Below W.heap.size W w'
theorem idxStr_any (w : World) (v : Value) (l : List ByteArray) (hl : SeqAt strS w v l) (g : Nat) (lb : Array Value) (eg : ∀ args w, (callFunc g args).run Tryz.prog w = .ok (.enter g args) w) (p : ByteArray → Bool) (hp : JudgeS g lb p l w) :
  Calls Tryz.prog 326 #[v, .func (.func g) #[] lb] w fun e w' => (∃ n : Int, e = .returned (.int .i64 n) ∧ (l.any p = true ↔ 0 ≤ n)) ∧ Below w.heap.size w w' := by
 have HL := Lib.hid hl
 obtain ⟨A, c, rfl, h1, h2⟩ := hl.slice
 have HP := Lib.hid hp
 obtain ⟨R, hR⟩ : ∃ R, l.any p = R := ⟨_, rfl⟩
 rw [hR]
 have HR := Lib.hid hR
 clear hl hp hR
 go_enter Tryz.func326, Tryz.ntmps326
 go_wp2
 go_loopw [8] (fun i wr => ∃ k : Nat, k ≤ l.length ∧ i = .int .i64 k ∧ (∀ (j : Nat) (y : ByteArray), j < k → l[j]? = some y → p y = false) ∧ Below w.heap.size w wr) (fun i _ => l.length - (intOf i).toNat)
 case atStart => exact ⟨0, Nat.zero_le _, rfl, fun j r h => absurd h (Nat.not_lt_zero _), Below.refl _ _⟩
 case round =>
  obtain ⟨k, hk, rfl, hr, hB⟩ := hrel
  have Hr := Lib.hid hr
  have HB := Lib.hid hB
  clear hr hB
  by_cases hlt : k < l.length
  ·have hkI : (k : Int) < l.length := by omega
   obtain ⟨x, hx⟩ : ∃ x, l[k]? = some x := ⟨_, List.getElem?_eq_getElem hlt⟩
   have Hx := Lib.hid hx
   obtain ⟨_, _, e9, _, _, h4⟩ := HL.out.below HB.out
   cases e9
   obtain ⟨b, o, cs, rfl, rfl, hc⟩ := h4 k x hx
   have e0 : wr.cell? ⟨b, o + k * 1, none⟩ = some (.string x) := hc 0 _ rfl
   rw [Nat.mul_one] at e0
   have HC := Lib.hid (HP.out wr x HB.out (List.mem_of_getElem? hx))
   have HPx : Hid (Below w.heap.size w wr) := Lib.hid HB.out
   clear hc h4 hx
   obtain ⟨q, hq⟩ : ∃ q, p x = q := ⟨_, rfl⟩
   have HQ := Lib.hid hq
   rw [hq] at HC
   clear hq
   go_wp2_with fail
   refine HC.out.mono ?_
   rintro e w2 ⟨rfl, hb2⟩
   have HB2 := Lib.hid (HPx.out.trans (hb2.mono HPx.out.size))
   clear hb2
   cases q with
   | true =>
    go_wp2
    go_ret
    exact ⟨⟨k, rfl, by rw [← HR.out, any_yesS k x Hx.out HQ.out]; simp⟩, HB2.out⟩
   | false =>
    go_wp2
    go_roundw
    case rel =>
     refine ⟨k + 1, by omega, by go_num, fun j r hj he => ?_, HB2.out⟩
     rcases Nat.lt_succ_iff_lt_or_eq.1 hj with h | rfl
     ·exact Hr.out j r h he
     ·rw [Hx.out] at he
      cases he
      exact HQ.out
    case measure => simp [intOf]; omega
  ·have hkI : ¬ (k : Int) < l.length := by omega
   go_wp2
   go_ret
   exact ⟨⟨-1, rfl, by rw [← HR.out, any_noS fun j r he => Hr.out j r (by have := (List.getElem?_eq_some_iff.1 he).1; omega) he]; simp⟩, HB.out⟩
theorem contStr_any (w : World) (v : Value) (l : List ByteArray) (hl : SeqAt strS w v l) (g : Nat) (lb : Array Value) (eg : ∀ args w, (callFunc g args).run Tryz.prog w = .ok (.enter g args) w) (p : ByteArray → Bool) (hp : JudgeS g lb p l w) :
  Calls Tryz.prog 257 #[v, .func (.func g) #[] lb] w fun e w' => e = .returned (.bool (l.any p)) ∧ Below w.heap.size w w' := by
 have H := Lib.hid (idxStr_any w v l hl g lb eg p hp)
 obtain ⟨A, c, rfl, h1, h2⟩ := hl.slice
 clear hl hp
 go_enter Tryz.func257, Tryz.ntmps257
 go_wp2_with (go_at_call 326; refine H.out.mono ?_; rintro e w' ⟨⟨n, rfl, hn⟩, hb⟩; have HB := Lib.hid hb; have HN := Lib.hid hn; clear hb hn)
 go_ret
 refine ⟨ret_bool' ?_, HB.out⟩
 have hn := HN.out
 cases hb : l.any p with
 | false => rw [hb] at hn; exact decide_eq_false (fun h => by have := hn.2 h; cases this)
 | true => rw [hb] at hn; exact decide_eq_true (hn.1 rfl)
theorem allowed_any (w : World) (c : Nat) : Calls Tryz.prog 343 #[.int .i32 (c : Int)] w fun e w' => e = .returned (.bool (okC c)) ∧ w = w' := by
 obtain ⟨R, hR⟩ : ∃ R, okC c = R := ⟨_, rfl⟩
 rw [hR]
 unfold okC at hR
 have HR := Lib.hid hR
 clear hR
 by_cases a : 97 ≤ c
 ·have ai : (97 : Int) ≤ c := by omega
  by_cases b : c ≤ 122
  ·have bi : (c : Int) ≤ 122 := by omega
   have HT : Hid (R = true) := Lib.hid (by rw [← HR.out]; exact decide_eq_true (by omega))
   go_enter Tryz.func343, Tryz.ntmps343
   go_wp2
   go_ret
   exact ⟨by rw [HT.out] <;> rfl, rfl⟩
  ·have bi : ¬ (c : Int) ≤ 122 := by omega
   have e1 : (48 : Int) ≤ c := by omega
   have e2 : ¬ (c : Int) ≤ 57 := by omega
   have e3 : ((c : Int) == 46) = false := by rw [beq_eq_false_iff_ne]; omega
   have e4 : ((c : Int) == 95) = false := by rw [beq_eq_false_iff_ne]; omega
   have e5 : ((c : Int) == 45) = false := by rw [beq_eq_false_iff_ne]; omega
   have HT : Hid (R = false) := Lib.hid (by rw [← HR.out]; exact decide_eq_false (by omega))
   go_enter Tryz.func343, Tryz.ntmps343
   go_wp2
   go_ret
   exact ⟨by rw [HT.out] <;> rfl, rfl⟩
 ·have ai : ¬ (97 : Int) ≤ c := by omega
  by_cases d : 48 ≤ c ∧ c ≤ 57
  ·have e1 : (48 : Int) ≤ c := by omega
   have e2 : (c : Int) ≤ 57 := by omega
   have HT : Hid (R = true) := Lib.hid (by rw [← HR.out]; exact decide_eq_true (by omega))
   go_enter Tryz.func343, Tryz.ntmps343
   go_wp2
   go_ret
   exact ⟨by rw [HT.out] <;> rfl, rfl⟩
  ·obtain ⟨q1, h1⟩ : ∃ q, ((c : Int) == 46) = q := ⟨_, rfl⟩
   obtain ⟨q2, h2⟩ : ∃ q, ((c : Int) == 95) = q := ⟨_, rfl⟩
   obtain ⟨q3, h3⟩ : ∃ q, ((c : Int) == 45) = q := ⟨_, rfl⟩
   have HT : Hid (R = (q1 || (q2 || q3))) := Lib.hid (by
    rw [← HR.out, ← h1, ← h2, ← h3, Bool.eq_iff_iff]
    simp only [decide_eq_true_eq, Bool.or_eq_true, beq_iff_eq]
    omega)
   have hz : (¬ (48 : Int) ≤ c) ∨ ((48 : Int) ≤ c ∧ ¬ (c : Int) ≤ 57) := by omega
   clear d HR
   rcases hz with f1 | ⟨f1, f2⟩ <;> cases q1 <;> cases q2 <;> cases q3 <;>
   ·go_enter Tryz.func343, Tryz.ntmps343
    go_wp2
    go_ret
    exact ⟨by rw [HT.out] <;> rfl, rfl⟩
theorem comp1_any (w : World) (c : Nat) : Calls Tryz.prog 342 #[.int .i32 (c : Int)] w fun e w' => e = .returned (.bool (!okC c)) ∧ w = w' := by
 have H := Lib.hid (fun W => allowed_any W c)
 obtain ⟨q, hq⟩ : ∃ q, okC c = q := ⟨_, rfl⟩
 rw [hq] at H ⊢
 go_enter Tryz.func342, Tryz.ntmps342
 go_wp2_with fail
 refine (H.out _).mono ?_
 rintro e1 w1 ⟨rfl, rfl⟩
 go_wp2_with fail
 go_ret
 exact ⟨rfl, rfl⟩
theorem okC_lt {c : Nat} (h : okC c = true) : c < 128 := by
 have := of_decide_eq_true h
 omega
theorem pcomp_any (w : World) (s : ByteArray) (h : compB (bs s) = true) : Calls Tryz.prog 272 #[.string s] w fun e w' => e = .returned (.bool true) ∧ Below w.heap.size w w' := by
 rw [compB, Bool.and_eq_true, bs_len] at h
 obtain ⟨h1, h2⟩ := h
 obtain ⟨a1, a2, a3, a4⟩ := of_decide_eq_true h1
 have hx : ∀ W, Calls Tryz.prog 341 #[.string s, .func (.func 342) #[] #[]] W fun e w' => e = .returned (.bool false) ∧ Below W.heap.size W w' := fun W => by
  refine (Tryz.strings_ContainsFunc 342 #[] (enters_of Tryz.func342 (by kernel_rfl) rfl) (fun c => !okC c) s W (fun W' x _ => (comp1_any W' x).mono fun e w' ⟨he, hw⟩ => ⟨he, 0, hw.symm⟩)).mono ?_
  rintro e w' ⟨rfl, hb⟩
  refine ⟨?_, hb⟩
  rw [show Lib.idxFunc (fun c => !okC c) true s = -1 from idx_none (fun b hb => ?_) _ _]
  ·rfl
  ·have := List.all_eq_true.1 h2 b hb
   exact ⟨okC_lt this, by rw [this]; rfl⟩
 have HX := Lib.hid hx
 have i1 : (1 : Int) ≤ s.size := by omega
 have i2 : (s.size : Int) ≤ 32 := by omega
 have n1 : s ≠ ⟨#[46]⟩ := fun e => a3 (by rw [e]; rfl)
 have n2 : s ≠ ⟨#[46, 46]⟩ := fun e => a4 (by rw [e]; rfl)
 have F1 : Hid ((s.toList == [46]) = false) := Lib.hid (beq_eq_false_iff_ne.2 fun e => n1 (toListV.1 e))
 have F2 : Hid ((s.toList == [46, 46]) = false) := Lib.hid (beq_eq_false_iff_ne.2 fun e => n2 (toListV.1 e))
 have e1 : s.toList ≠ [46] := fun e => n1 (toListV.1 e)
 have e2 : s.toList ≠ [46, 46] := fun e => n2 (toListV.1 e)
 clear h1 h2 a1 a2 a3 a4 hx n1 n2
 go_enter Tryz.func272, Tryz.ntmps272
 go_wp2_with fail
 refine (HX.out _).mono ?_
 rintro e1 w1 ⟨rfl, hb⟩
 have HB := Lib.hid hb
 clear hb
 go_wp2_with fail
 go_ret
 exact ⟨ret_bool' (by rw [F1.out, F2.out]; rfl), HB.out⟩
theorem pcheck1_any (w : World) (s : ByteArray) (h : compB (bs s) = true) : Calls Tryz.prog 271 #[.string s] w fun e w' => e = .returned (.bool false) ∧ Below w.heap.size w w' := by
 have H := Lib.hid (fun W => pcomp_any W s h)
 clear h
 go_enter Tryz.func271, Tryz.ntmps271
 go_wp2_with fail
 refine (H.out _).mono ?_
 rintro e1 w1 ⟨rfl, hb⟩
 have HB := Lib.hid hb
 clear hb
 go_wp2_with fail
 go_ret
 exact ⟨rfl, HB.out⟩
theorem SeqAt.strs (W : World) (L : List ByteArray) (c : Nat) (hc : L.length ≤ c) (h63 : c ≤ 9223372036854775807) : SeqAt strS (W.alloc (.cells (L.map Value.string).toArray 9)) (.slice (some ⟨W.heap.size, 0, none⟩) L.length c) L := by
 refine ⟨_, _, rfl, hc, h63, fun i x hx => ⟨W.heap.size, 0, [.string x], rfl, rfl, fun j u hu => ?_⟩⟩
 cases j with
 | zero =>
  obtain rfl : Value.string x = u := by simpa using hu
  show (W.alloc _).cell? ⟨W.heap.size, 0 + i * 1 + 0, none⟩ = _
  rw [Nat.zero_add, Nat.mul_one, Nat.add_zero]
  exact (Blk.new W 9 (L.map Value.string)).cell (by rw [List.getElem?_map, hx]; rfl)
 | succ j => simp at hu
theorem pelems_any (w : World) (s : ByteArray) (hs : s.size ≤ 1000000) (hT : Tab w) : Calls Tryz.prog 189 #[.string s] w fun e w' => (∃ v, e = .returned v ∧ SeqAt strS w' v ((elemsL (bs s)).map strB)) ∧ Below w.heap.size w w' := by
 by_cases h0 : s.size = 0
 ·have e0 : s = ⟨#[]⟩ := by
   apply ByteArray.ext
   exact Array.eq_empty_of_size_eq_zero h0
  subst e0
  clear h0
  go_enter Tryz.func189, Tryz.ntmps189
  go_wp2
  go_ret
  first | exact ⟨⟨_, rfl, SeqAt.nil _⟩, Below.refl _ _⟩ | exact ⟨_, rfl, SeqAt.nil _, Below.refl _ _⟩
 ·have hb0 : s.toList.isEmpty = false := isEmptyV h0
  obtain ⟨m, hm⟩ := hT.most
  have HC := Lib.hid (Tryz.strings_Split s ⟨#[47]⟩ m w (by omega) hm (by decide))
  have HE : Hid ((elemsL (bs s)).map strB = Lib.splitB ⟨#[47]⟩ 0 (Lib.countB s ⟨#[47]⟩) s) := Lib.hid (by
   rw [splits_elems, elemsL, if_neg]
   intro e
   have := congrArg List.length e
   rw [bs_len] at this
   exact h0 (by simpa using this))
  have HN : Hid (Lib.countB s ⟨#[47]⟩ + 1 = (Lib.splitB ⟨#[47]⟩ 0 (Lib.countB s ⟨#[47]⟩) s).length ∧ Lib.countB s ⟨#[47]⟩ ≤ s.size) := Lib.hid ⟨(Lib.splitB_all ⟨#[47]⟩ (by decide) 0 _ s rfl).symm, Lib.countB_le ⟨#[47]⟩ (by decide) s.size s (Nat.le_refl _)⟩
  clear hm h0
  go_enter Tryz.func189, Tryz.ntmps189
  go_wp2_with fail
  refine HC.out.mono ?_
  rintro e1 w1 ⟨rfl, rfl⟩
  go_wp2_with fail
  go_ret
  have key : SeqAt strS (w.alloc (.cells ((Lib.splitB ⟨#[47]⟩ 0 (Lib.countB s ⟨#[47]⟩) s).map Value.string).toArray 9)) (.slice (some ⟨w.heap.size, 0, none⟩) (Lib.countB s ⟨#[47]⟩ + 1 : Nat) (Lib.countB s ⟨#[47]⟩ + 1 : Nat)) ((elemsL (bs s)).map strB) := by
   rw [HE.out, HN.out.1]
   exact SeqAt.strs w _ _ (Nat.le_refl _) (by have := HN.out; omega)
  first | exact ⟨⟨_, rfl, key⟩, (Below.refl _ _).alloc (Nat.le_refl _) _⟩ | exact ⟨_, rfl, key, (Below.refl _ _).alloc (Nat.le_refl _) _⟩
theorem pcheck_ok (w : World) (s : ByteArray) (h : pathE (bs s) = 0) (hT : Tab w) : Calls Tryz.prog 177 #[.string s] w fun e w' => e = .returned (.int .i64 0) ∧ Below w.heap.size w w' := by
 unfold pathE at h
 split at h
 ·cases h
 rename_i h1
 split at h
 ·cases h
 rename_i h2
 split at h
 ·rename_i h3
  rw [bs_len] at h1
  have HE := Lib.hid (pelems_any w s (by omega) hT)
  have HA : Hid (∀ x ∈ (elemsL (bs s)).map strB, compB (bs x) = true) := Lib.hid (fun x hx => by
   obtain ⟨l, hl, rfl⟩ := List.mem_map.1 hx
   rw [bs_strB (elemsL_bytes (bs_lt s) l hl)]
   exact List.all_eq_true.1 h3 l hl)
  obtain ⟨L, hL⟩ : ∃ L, (elemsL (bs s)).map strB = L := ⟨_, rfl⟩
  have hl : L.length ≤ 8 := by rw [← hL, List.length_map]; omega
  rw [hL] at HE HA
  have HF : Hid (L.any (fun _ => false) = false) := Lib.hid (by rw [List.any_eq_false]; intro x _; decide)
  have i1 : ¬ (200 : Int) < s.size := by omega
  clear h h1 h2 h3 hL
  have i2 : ¬ (8 : Int) < L.length := by omega
  go_enter Tryz.func177, Tryz.ntmps177
  go_wp2_with fail
  refine HE.out.mono ?_
  rintro e1 w1 ⟨⟨v, rfl, hv⟩, hb⟩
  have HB := Lib.hid hb
  have HC := Lib.hid (contStr_any w1 v L hv 271 #[] (enters_of Tryz.func271 (by kernel_rfl) rfl) (fun _ => false) (fun W x _ hx => pcheck1_any W x (HA.out x hx)))
  rw [HF.out] at HC
  obtain ⟨A, c, rfl, _, _⟩ := hv.slice
  clear hb hv
  go_wp2_with fail
  refine HC.out.mono ?_
  rintro e2 w2 ⟨rfl, hb2⟩
  have HB2 := Lib.hid (HB.out.trans (hb2.mono HB.out.size))
  clear hb2
  go_wp2_with fail
  go_ret
  exact ⟨rfl, HB2.out⟩
 ·cases h
theorem cmp_less : ∀ {p q : List UInt8}, p ≠ q → Op.bytesLess q p = false → Lib.compareBytes p q = -1
 | [], [], h, _ => absurd rfl h
 | [], _ :: _, _, _ => rfl
 | _ :: _, [], _, h => by cases h
 | a :: x, b :: y, h, hl => by
  simp only [Op.bytesLess, Bool.or_eq_false_iff, decide_eq_false_iff_not, Bool.and_eq_false_iff, beq_eq_false_iff_ne] at hl
  rw [Lib.compareBytes]
  by_cases h1 : a < b
  ·rw [if_pos h1]
  ·have e : b = a := by
    have h2 := hl.1
    rw [UInt8.lt_iff_toNat_lt] at h1 h2
    exact UInt8.toNat_inj.1 (by omega)
   subst e
   rw [if_neg h1, if_neg h1]
   refine cmp_less (fun e => h (by rw [e])) ?_
   rcases hl.2 with h3 | h3
   ·exact absurd rfl h3
   ·exact h3
def cutK : ByteArray := ⟨#[97, 98, 99, 100, 101, 102, 103, 104, 105, 106, 107, 108, 109, 110, 111, 112, 113, 114, 115, 116, 117, 118, 119, 120, 121, 122, 48, 49, 50, 51, 52, 53, 54, 55, 56, 57, 46, 95, 45]⟩
theorem cutK_all : ∀ b : Nat, b < 128 → okC b = true → (bs cutK).contains b = true := by decide
theorem keyB_in {l : List Nat} (h : l.all okC = true) : allIn (bs cutK) l = true :=
 List.all_eq_true.2 fun b hb => cutK_all b (okC_lt (List.all_eq_true.1 h b hb)) (List.all_eq_true.1 h b hb)
theorem atkey_ok (w : World) (s : ByteArray) (h : keyB (bs s) = true) : Calls Tryz.prog 344 #[.string s] w fun e w' => e = .returned (.int .i64 0) ∧ Below w.heap.size w w' := by
 rw [keyB, Bool.and_eq_true, bs_len] at h
 obtain ⟨h1, h2⟩ := h
 have h1 := of_decide_eq_true h1
 have hb0 : s.toList.isEmpty = false := isEmptyV (by omega)
 have i1 : ¬ (32 : Int) < s.size := by omega
 have HT := Lib.hid (trim_any w s cutK (by omega) (by decide) (by decide))
 rw [keyB_in h2] at HT
 clear h1 h2
 unfold cutK at HT
 go_enter Tryz.func344, Tryz.ntmps344
 go_wp2_with fail
 refine HT.out.mono ?_
 rintro e1 w1 ⟨t, rfl, ht, hb⟩
 have HB := Lib.hid hb
 clear hb
 go_wp2_with fail
 go_ret
 exact ⟨rfl, HB.out⟩
theorem atattr_ok (w : World) (a : Atr) (h : keyB (bs a.k) = true) (h64 : ¬ 64 < a.v.size) : Calls Tryz.prog 273 #[.agg #[.string a.k, .string a.v]] w fun e w' => e = .returned (.int .i64 0) ∧ Below w.heap.size w w' := by
 obtain ⟨k, v⟩ := a
 dsimp only at h h64
 have i2 : ¬ (64 : Int) < v.size := by omega
 have hK := Blk.new w 123 [.string k, .string v]
 change Blk (w.alloc (.cells #[.string k, .string v] 123)) _ _ _ at hK
 have HK := Lib.hid hK
 have HB := Lib.hid ((Below.refl w.heap.size w).alloc (Nat.le_refl _) (.cells #[.string k, .string v] 123))
 have HX := Lib.hid (fun W => atkey_ok W k h)
 clear hK h h64
 go_enter Tryz.func273, Tryz.ntmps273
 go_upto_region 1 with fail
 generalize w.alloc (.cells #[.string k, .string v] 123) = wa at *
 have c0 := HK.out.cell (i := 0) rfl
 go_wp2_with fail
 refine (HX.out _).mono ?_
 rintro e1 w1 ⟨rfl, hb⟩
 have HK1 := Lib.hid (HK.out.kept hb)
 have HB1 := Lib.hid (HB.out.trans (hb.mono HB.out.size))
 clear hb c0
 have c1 := HK1.out.cell (i := 1) rfl
 go_wp2_with fail
 go_ret
 exact ⟨rfl, HB1.out⟩
structure AtrsOk (l : List Atr) : Prop where
 len : l.length ≤ 16
 key : ∀ a ∈ l, keyB (bs a.k) = true ∧ ¬ 64 < a.v.size
 ord : ∀ i p a, l[i]? = some p → l[i + 1]? = some a → Lib.compareBytes p.k.data.toList a.k.data.toList = -1
theorem attrsG_ok : ∀ {l : List Atr} {q : Option ByteArray}, attrsG q l = 0 → (∀ a ∈ l, keyB (bs a.k) = true ∧ ¬ 64 < a.v.size) ∧ (∀ i p a, l[i]? = some p → l[i + 1]? = some a → Lib.compareBytes p.k.data.toList a.k.data.toList = -1) ∧ (∀ p a, q = some p → l[0]? = some a → Lib.compareBytes p.data.toList a.k.data.toList = -1)
 | [], q, _ => ⟨fun a h => (nomatch h), fun i p a h => by simp at h, fun p a _ h => by simp at h⟩
 | a :: r, q, h => by
  have hk : keyB (bs a.k) = true := by
   cases e : keyB (bs a.k) with
   | true => rfl
   | false => rw [attrsG_key e] at h; cases h
  have h64 : ¬ 64 < a.v.size := fun e => by rw [attrsG_val hk e] at h; cases h
  have hr : attrsG (some a.k) r = 0 ∧ ∀ p, q = some p → Lib.compareBytes p.data.toList a.k.data.toList = -1 := by
   cases q with
   | none => rw [attrsG_first hk h64] at h; exact ⟨h, fun p e => by cases e⟩
   | some q =>
    rw [attrsG_next hk h64] at h
    split at h
    ·cases h
    ·rename_i hne
     split at h
     ·cases h
     ·rename_i hlt
      refine ⟨h, fun p e => ?_⟩
      cases e
      refine cmp_less (fun e => hne (ByteArray.ext (Array.toList_inj.1 e.symm))) ?_
      rw [ByteArray.toList_eq, ByteArray.toList_eq] at hlt
      exact Bool.eq_false_iff.2 hlt
  obtain ⟨h1, h2, h3⟩ := attrsG_ok hr.1
  refine ⟨fun x hx => ?_, fun i p x hp hx => ?_, fun p x hp hx => ?_⟩
  ·rcases List.mem_cons.1 hx with rfl | hx
   ·exact ⟨hk, h64⟩
   ·exact h1 x hx
  ·cases i with
   | zero =>
    obtain rfl : a = p := by simpa using hp
    exact h3 _ x rfl (by simpa using hx)
   | succ i => exact h2 i p x (by simpa using hp) (by simpa using hx)
  ·obtain rfl : a = x := by simpa using hx
   exact hr.2 p hp
theorem attrsE_ok {l : List Atr} (h : attrsE l = 0) : AtrsOk l := by
 unfold attrsE at h
 split at h
 ·cases h
 ·rename_i h16
  obtain ⟨h1, h2, _⟩ := attrsG_ok h
  exact ⟨by omega, h1, h2⟩
theorem atcheck_ok (w : World) (v : Value) (l : List Atr) (hv : SeqAt atrS w v l) (h : attrsE l = 0) : Calls Tryz.prog 178 #[v] w fun e w' => e = .returned (.int .i64 0) ∧ Below w.heap.size w w' := by
 have Hv := Lib.hid hv
 obtain ⟨A, c, rfl, h1, h2⟩ := hv.slice
 have HO := Lib.hid (attrsE_ok h)
 clear hv h
 have i1 : ¬ (16 : Int) < l.length := by have := HO.out.len; omega
 go_enter Tryz.func178, Tryz.ntmps178
 go_wp2
 go_loopw [11] (fun x wr => ∃ i : Nat, i ≤ l.length ∧ x = .int .i64 (i : Int) ∧ Below w.heap.size w wr) (fun x _ => l.length - (intOf x).toNat)
 case atStart => exact ⟨0, by omega, rfl, Below.refl _ _⟩
 case round =>
  obtain ⟨i, hi, rfl, hB⟩ := hrel
  have HB := Lib.hid hB
  clear hB
  by_cases h : i < l.length
  ·have hiI : (i : Int) < l.length := by omega
   obtain ⟨a, ha⟩ : ∃ a, l[i]? = some a := ⟨_, List.getElem?_eq_getElem h⟩
   obtain ⟨_, _, e9, _, _, h4⟩ := Hv.out.below HB.out
   cases e9
   obtain ⟨b, o, cs, rfl, rfl, hc⟩ := h4 i a ha
   have c0 : wr.cell? ⟨b, o + i * 2, none⟩ = some (.string a.k) := hc 0 _ rfl
   have c1 : wr.cell? ⟨b, o + i * 2 + 1, none⟩ = some (.string a.v) := hc 1 _ rfl
   have hka := HO.out.key a (List.mem_of_getElem? ha)
   have HX := Lib.hid (fun W => atattr_ok W a hka.1 hka.2)
   have hT := Blk.new wr 123 [.string a.k, .string a.v]
   change Blk (wr.alloc (.cells #[.string a.k, .string a.v] 123)) _ _ _ at hT
   have HT := Lib.hid hT
   have HBt := Lib.hid (HB.out.alloc HB.out.size (.cells #[.string a.k, .string a.v] 123))
   clear hc hT hka
   by_cases h0 : i = 0
   ·subst h0
    rw [show ((0 : Nat) : Int) = 0 from rfl]
    rw [Nat.zero_mul, Nat.add_zero] at c0 c1
    clear h4
    go_upto_region 6 with fail
    generalize wr.alloc (.cells #[.string a.k, .string a.v] 123) = wt at *
    have d0 := HT.out.cell (i := 0) rfl
    have d1 := HT.out.cell (i := 1) rfl
    go_wp2_with fail
    refine (HX.out _).mono ?_
    rintro e2 w2 ⟨rfl, hb2⟩
    have HB2 := Lib.hid (HBt.out.trans (hb2.mono HBt.out.size))
    clear hb2
    go_wp2
    go_roundw
    case rel => exact ⟨1, by omega, by go_num, HB2.out⟩
    case measure => simp [intOf]; omega
   ·obtain ⟨j, hj⟩ : ∃ j, i = j + 1 := ⟨i - 1, by omega⟩
    have hjl : j < l.length := by omega
    obtain ⟨p, hp⟩ : ∃ p, l[j]? = some p := ⟨_, List.getElem?_eq_getElem hjl⟩
    have HC : Hid (Lib.compareBytes p.k.data.toList a.k.data.toList = -1) := Lib.hid (HO.out.ord j p a hp (by rw [← hj]; exact ha))
    have hwr : IntKind.i64.wrap ((i : Int) - 1) = (j : Int) := by rw [IntWalk.i64_in _ (by omega)]; omega
    have hwr2 : (i : Int) - 1 = j := by omega
    have hjI : (j : Int) < l.length := by omega
    have i0 : ((i : Int) == 0) = false := by rw [beq_eq_false_iff_ne]; omega
    obtain ⟨b', o', cs, e8, rfl, hd⟩ := h4 j p hp
    cases e8
    have d0 : wr.cell? ⟨b, o + j * 2, none⟩ = some (.string p.k) := hd 0 _ rfl
    have HD : Hid (∀ W, Below wr.heap.size wr W → W.cell? ⟨b, o + j * 2, none⟩ = some (.string p.k)) := Lib.hid (fun W hb => cell_below hb d0)
    have HCm := Lib.hid (fun W => Tryz.strings_Compare p.k a.k W)
    clear hd h4 hp h0 d0 hj hjl
    go_upto_region 6 with fail
    have HBw := Lib.hid ((Below.refl wr.heap.size wr).alloc (Nat.le_refl _) (.cells #[.string a.k, .string a.v] 123))
    generalize wr.alloc (.cells #[.string a.k, .string a.v] 123) = wt at *
    have d1 := HT.out.cell (i := 0) rfl
    have d2 := HT.out.cell (i := 1) rfl
    go_wp2_with fail
    refine (HX.out _).mono ?_
    rintro e2 w2 ⟨rfl, hb2⟩
    have HT2 := Lib.hid (HT.out.kept hb2)
    have HB2 := Lib.hid (HBt.out.trans (hb2.mono HBt.out.size))
    have d3 := HD.out w2 (HBw.out.trans (hb2.mono HBw.out.size))
    clear hb2 d1 d2
    have d1 := HT2.out.cell (i := 0) rfl
    rw [HC.out] at HCm
    go_upto_region 10 with fail
    go_quiet (first | (go_at_call 147; refine Calls.quiet_of_same (HCm.out _)))
    go_wp2
    go_roundw
    case rel => exact ⟨i + 1, by omega, by go_num, blwN HB2.out _⟩
    case measure => simp [intOf]; omega
  ·obtain rfl : i = l.length := by omega
   have hiI : ¬ ((l.length : Nat) : Int) < (l.length : Int) := by omega
   go_wp2
   go_ret
   exact ⟨rfl, HB.out⟩
theorem digD_val : ∀ {p : List Nat}, p ≠ [] → p.all digB = true → (1 < p.length → cf p 0 ≠ 48) → digD (valD p) = p := by
 intro p
 induction hn : p.length generalizing p with
 | zero => intro h; exact absurd (List.length_eq_zero_iff.1 hn) h
 | succ n ih =>
  intro h hd h0
  obtain ⟨q, c, rfl⟩ : ∃ q c, p = q ++ [c] := ⟨p.dropLast, p.getLast h, (List.dropLast_concat_getLast h).symm⟩
  have hql : q.length = n := by simpa using hn
  rw [List.all_append, Bool.and_eq_true] at hd
  have hc' : digB c = true := by simpa using hd.2
  have hc : 48 ≤ c ∧ c ≤ 57 := of_decide_eq_true hc'
  have hv : valD (q ++ [c]) = 10 * valD q + (c - 48) := by rw [valD, List.foldl_append]; rfl
  rw [hv]
  by_cases hq : q = []
  ·subst hq
   have : valD [] = 0 := rfl
   rw [this, Nat.mul_zero, Nat.zero_add, digD_small (by omega), List.nil_append]
   congr 1
   omega
  ·have hq0 : cf q 0 ≠ 48 := by
    have hl : 0 < q.length := List.length_pos_iff.2 hq
    have := h0 (by simp; omega)
    rwa [cf, List.getElem?_append_left hl] at this
   have e := ih hql hq hd.1 (fun _ => hq0)
   have h1 : valD q ≠ 0 := fun e0 => by
    rw [e0, digD_small (by decide)] at e
    rw [← e] at hq0
    exact hq0 rfl
   rw [digD_great (by omega), show (10 * valD q + (c - 48)) / 10 = valD q by omega, show (10 * valD q + (c - 48)) % 10 = c - 48 by omega, e, digD_small (by omega)]
   congr 1
   simp
   omega
theorem atoi_val {l : List UInt8} (h : natL l ≠ []) (hd : (natL l).all digB = true) : Lib.atoi l = some ((valD (natL l) : Nat) : Int) := by
 have key : ∀ (l : List UInt8) (a : Nat), (natL l).all digB = true → Lib.decFrom a l = some ((natL l).foldl (fun n c => 10 * n + (c - 48)) a) := by
  intro l
  induction l with
  | nil => intro a _; rfl
  | cons b r ih =>
   intro a hd
   have hd' : digB b.toNat = true ∧ (natL r).all digB = true := by
    have : ((b.toNat :: natL r).all digB) = true := hd
    rwa [List.all_cons, Bool.and_eq_true] at this
   have hb : 48 ≤ b.toNat ∧ b.toNat ≤ 57 := of_decide_eq_true hd'.1
   have e : Lib.digitVal b = some (b.toNat - 48) := by rw [Lib.digitVal, if_pos hb]
   rw [Lib.decFrom, e]
   show Lib.decFrom (a * 10 + (b.toNat - 48)) r = _
   rw [ih _ hd'.2, Nat.mul_comm]
   rfl
 cases l with
 | nil => exact absurd rfl h
 | cons b r =>
  have hd' : digB b.toNat = true := by
   have : ((b.toNat :: natL r).all digB) = true := hd
   rw [List.all_cons, Bool.and_eq_true] at this
   exact this.1
  have hb : 48 ≤ b.toNat ∧ b.toNat ≤ 57 := of_decide_eq_true hd'
  have n1 : ¬ (b == 45) = true := fun e => by rw [beq_iff_eq.1 e] at hb; exact absurd hb.1 (by decide)
  have n2 : ¬ (b == 43) = true := fun e => by rw [beq_iff_eq.1 e] at hb; exact absurd hb.1 (by decide)
  rw [Lib.atoi, if_neg n1, if_neg n2, Lib.decNat, if_neg (by simp), key _ 0 hd]
  rfl
theorem below_bytes (w : World) (e : TypeId) (t : ByteArray) : Below w.heap.size w (Lib.bytesWorld w e t) :=
 ⟨rfl, rfl, rfl, by rw [Lib.bytesWorld_size]; omega, fun k hk => Lib.bytesWorld_at_old w e t k hk⟩
theorem atoi_date (w : World) (s : ByteArray) (h : dateB (bs s) = true) : ∃ n : Nat, n ≤ 1000000000 ∧ strB (digD n) = s ∧ Calls Tryz.prog 196 #[.string s] w fun e w' => e = .returned (.tuple #[.int .i64 (n : Int), .nilIface]) ∧ Below w.heap.size w w' := by
 rw [dateB, Bool.and_eq_true, Bool.and_eq_true] at h
 obtain ⟨h1, h2, h3⟩ := h
 have h1 := of_decide_eq_true h1
 have h3 := of_decide_eq_true h3
 have hne : bs s ≠ [] := fun e => by rw [e] at h1; exact absurd h1.1 (by decide)
 refine ⟨valD (bs s), h3, ?_, ?_⟩
 ·rw [digD_val hne h2 (fun h => fun e => h1.2.2 ⟨h, e⟩), strB_bs]
 ·refine (Tryz.strconv_Atoi s _ ?_ (atoi_val (l := s.data.toList) hne h2) w).mono ?_
  ·have := h1.2.1
   rw [bs_len] at this
   omega
  ·rintro e w' ⟨rfl, t, rfl⟩
   exact ⟨rfl, below_bytes _ _ _⟩
theorem isdate_ok (w : World) (s : ByteArray) (h : dateB (bs s) = true) (hT : Tab w) : Calls Tryz.prog 274 #[.string s] w fun e w' => e = .returned (.bool true) ∧ Below w.heap.size w w' := by
 obtain ⟨n, hn, hd, hc⟩ := atoi_date w s h
 have HC := Lib.hid hc
 have HI : Hid (∀ W, Below w.heap.size w W → Calls Tryz.prog 91 #[.int .i64 (n : Int)] W fun e w' => e = .returned (.string s) ∧ Below W.heap.size W w') := Lib.hid (fun W hb => by
  have := itoa_any W n (by omega) (hT.below hb)
  rwa [hd] at this)
 have i1 : (0 : Int) ≤ n := by omega
 have i2 : (n : Int) ≤ 1000000000 := by omega
 clear hc hd h hn
 go_enter Tryz.func274, Tryz.ntmps274
 go_wp2_with fail
 refine HC.out.mono ?_
 rintro e1 w1 ⟨rfl, hb1⟩
 have HB1 := Lib.hid hb1
 clear hb1
 go_wp2_with fail
 refine (HI.out _ HB1.out).mono ?_
 rintro e2 w2 ⟨rfl, hb2⟩
 have HB2 := Lib.hid (HB1.out.trans (hb2.mono HB1.out.size))
 clear hb2
 go_wp2_with fail
 go_ret
 first | exact ⟨rfl, HB2.out⟩ | exact ⟨ret_bool' (by simp), HB2.out⟩
theorem entarget_ok (w : World) (e : Ent) (va vx : Value) (h : tgtB e = true) (hT : Tab w) : Calls Tryz.prog 179 #[entV e va vx] w fun r w' => r = .returned (.bool true) ∧ Below w.heap.size w w' := by
 obtain ⟨k, path, attrs, t, size, dig, exts⟩ := e
 rw [tgtB] at h
 dsimp only at h
 rw [entV]
 dsimp only
 have hK := Blk.new w 48 [.int .i64 k, .string path, va, .string t, .int .i64 size, .string dig, vx]
 change Blk (w.alloc (.cells #[.int .i64 k, .string path, va, .string t, .int .i64 size, .string dig, vx] 48)) _ _ _ at hK
 have c0 := hK.cell (i := 0) rfl
 have c3 := hK.cell (i := 3) rfl
 have HB := Lib.hid ((Below.refl w.heap.size w).alloc (Nat.le_refl _) (.cells #[.int .i64 k, .string path, va, .string t, .int .i64 size, .string dig, vx] 48))
 clear hK
 by_cases h3 : k = 3
 ·have i1 : (k == 3) = true := by rw [h3]; rfl
  rw [if_pos h3] at h
  clear h3
  have h := of_decide_eq_true h
  have i2 : t.toList.isEmpty = false := isEmptyV (by omega)
  have i3 : (t.size : Int) ≤ 200 := by omega
  clear h
  go_enter Tryz.func179, Tryz.ntmps179
  go_wp2
  go_ret
  exact ⟨rfl, HB.out⟩
 ·have i1 : (k == 3) = false := by rw [beq_eq_false_iff_ne]; exact h3
  rw [if_neg h3] at h
  clear h3
  by_cases h5 : k = 5
  ·have i2 : (k == 5) = true := by rw [h5]; rfl
   rw [if_pos h5] at h
   clear h5
   have HD := Lib.hid (isdate_ok _ t h (hT.below HB.out))
   clear h
   go_enter Tryz.func179, Tryz.ntmps179
   go_wp2_with fail
   refine HD.out.mono ?_
   rintro e1 w1 ⟨rfl, hb⟩
   have HB1 := Lib.hid (HB.out.trans (hb.mono HB.out.size))
   clear hb
   go_wp2_with fail
   go_ret
   exact ⟨rfl, HB1.out⟩
  ·have i2 : (k == 5) = false := by rw [beq_eq_false_iff_ne]; exact h5
   rw [if_neg h5] at h
   clear h5
   have e0 : t = ⟨#[]⟩ := by
    apply ByteArray.ext
    exact Array.eq_empty_of_size_eq_zero (of_decide_eq_true h)
   subst e0
   clear h
   go_enter Tryz.func179, Tryz.ntmps179
   go_wp2
   go_ret
   exact ⟨rfl, HB.out⟩
end
end Go.Proofs.YtbccghbngaiceaaGreatDoor
