/-
  Joined: VqI VqJ.
-/
import Derived.Test.YthkjphebhafgoaaGreatDoorMBn09
set_option linter.all false
set_option maxRecDepth 100000
set_option maxHeartbeats 64000000
namespace Go.Proofs.YthkjphebhafgoaaGreatDoor
section
open Go.RowKit
structure Tab (w : World) : Prop where
 pow : Lib.TabIs Tryz.prog w "internal/strconv.uint64pow10" .u64 Lib.pow10Tab
 most : ∃ m : Int, w.cell? ⟨0, 0, none⟩ = some (.int .i64 m)
theorem var_below {w w' : World} {n : String} {cs : Array Value} (h : w.var? Tryz.prog n = some cs) (hb : Below w.heap.size w w') : w'.var? Tryz.prog n = some cs := by
 unfold World.var? at h ⊢
 cases hg : Tryz.prog.globalNamed n with
 | none => rw [hg] at h; cases h
 | some g =>
  rw [hg] at h
  simp only [Option.bind_some] at h ⊢
  have hlt : g < w.heap.size := by
   rcases Nat.lt_or_ge g w.heap.size with h' | h'
   ·exact h'
   ·rw [Array.getElem?_eq_none h'] at h; cases h
  rw [hb.block g hlt]
  exact h
theorem Tab.below {w w' : World} (h : Tab w) (hb : Below w.heap.size w w') : Tab w' := ⟨var_below h.pow hb, h.most.imp fun _ hm => cell_below hb hm⟩
theorem blwN {B : Nat} {a w : World} (h : Below B a w) (n : Nat) : Below B a (w.drewN n) := h.trans ⟨rfl, rfl, rfl, Nat.le_refl _, fun _ _ => rfl⟩
theorem itoa_any (w : World) (n : Nat) (hn : n < 9223372036854775808) (hT : Tab w) : Calls Tryz.prog 79 #[.int .i64 (n : Int)] w fun e w' => e = .returned (.string (strB (digD n))) ∧ Below w.heap.size w w' := by
 refine (Tryz.strconv_Itoa (n : Int) (by omega) (by omega) w hT.pow).mono ?_
 rintro e w' ⟨rfl, k, os, rfl⟩
 refine ⟨by rw [itoaB], rfl, rfl, rfl, ?_, fun j hj => ?_⟩
 ·show w.heap.size ≤ (w.heap ++ os).size
  rw [Array.size_append]
  omega
 ·show (w.heap ++ os)[j]? = _
  rw [Array.getElem?_append_left hj]
theorem nnumber_any (w : World) (n : Nat) (hn : n < 9223372036854775808) (hT : Tab w) : Calls Tryz.prog 43 #[.int .i64 (n : Int)] w fun e w' => e = .returned (.string (strB (numL n))) ∧ Below w.heap.size w w' := by
 have H1 := Lib.hid (itoa_any w n hn hT)
 have hs1 : (strB (digD n)).size ≤ 20 := by rw [strB_size]; exact digD_len20 (by omega)
 have Hc : Hid (strB (digD n) ++ ⟨#[32]⟩ = strB (numL n)) := Lib.hid (strB_cat (digD n) [32])
 generalize strB (digD n) = Q at *
 have hcc : ¬ 9223372036854775807 < Q.size + 1 := by omega
 go_enter Tryz.func43, Tryz.ntmps43
 go_wp2_with fail
 refine H1.out.mono ?_
 rintro e1 w1 ⟨rfl, hb1⟩
 have HB1 := Lib.hid hb1
 clear hb1
 go_wp2_with fail
 go_ret
 exact ⟨by rw [← Hc.out] <;> rfl, HB1.out⟩
theorem nnstring_any (w : World) (s : ByteArray) (hs : s.size ≤ 100000000) (hT : Tab w) : Calls Tryz.prog 46 #[.string s] w fun e w' => e = .returned (.string (strB (nstL (bs s)))) ∧ Below w.heap.size w w' := by
 have H1 := Lib.hid (itoa_any w s.size (by omega) hT)
 have hs1 : (strB (digD s.size)).size ≤ 20 := by rw [strB_size]; exact digD_len20 (by omega)
 have hc : strB (digD s.size) ++ ⟨#[58]⟩ ++ s ++ ⟨#[44]⟩ = strB (nstL (bs s)) := by
  have e1 := strB_cat (digD s.size) [58]
  have e2 := strB_cat (digD s.size ++ [58]) (bs s)
  have e3 := strB_cat (digD s.size ++ [58] ++ bs s) [44]
  rw [strB_bs] at e2
  rw [← e1] at e2
  rw [← e2] at e3
  rw [nstL, bs_len]
  exact e3
 have Hc := Lib.hid hc
 clear hc
 generalize strB (digD s.size) = Q at *
 have hcc : ¬ 9223372036854775807 < Q.size + 1 := by omega
 have hcd : ¬ 9223372036854775807 < Q.size + 1 + s.size := by omega
 have hce : ¬ 9223372036854775807 < Q.size + 1 + s.size + 1 := by omega
 go_enter Tryz.func46, Tryz.ntmps46
 go_wp2_with fail
 refine H1.out.mono ?_
 rintro e1 w1 ⟨rfl, hb1⟩
 have HB1 := Lib.hid hb1
 clear hb1
 go_wp2_with fail
 go_ret
 exact ⟨by rw [← Hc.out] <;> rfl, HB1.out⟩
theorem any_yesS {α : Type} {l : List α} {p : α → Bool} (k : Nat) (y : α) (h : l[k]? = some y) (hy : p y = true) : l.any p = true :=
 List.any_eq_true.2 ⟨y, List.mem_of_getElem? h, hy⟩
theorem any_noS {α : Type} {l : List α} {p : α → Bool} (h : ∀ (k : Nat) (y : α), l[k]? = some y → p y = false) : l.any p = false := by
 rw [List.any_eq_false]
 intro y hy
 obtain ⟨k, hk⟩ := List.mem_iff_getElem?.1 hy
 simpa using h k y hk
def JudgeS (g : Nat) (lb : Array Value) (p : ByteArray → Bool) (l : List ByteArray) (w : World) : Prop :=
 ∀ (W : World) (x : ByteArray), Below w.heap.size w W → x ∈ l → Calls Tryz.prog g (#[.string x] ++ lb) W fun e w' => e = .returned (.bool (p x)) ∧ Below W.heap.size W w'
theorem idxStr_any (w : World) (v : Value) (l : List ByteArray) (hl : SeqAt strS w v l) (g : Nat) (lb : Array Value) (eg : ∀ args w, (callFunc g args).run Tryz.prog w = .ok (.enter g args) w) (p : ByteArray → Bool) (hp : JudgeS g lb p l w) :
  Calls Tryz.prog 279 #[v, .func (.func g) #[] lb] w fun e w' => (∃ n : Int, e = .returned (.int .i64 n) ∧ (l.any p = true ↔ 0 ≤ n)) ∧ Below w.heap.size w w' := by
 have HL := Lib.hid hl
 obtain ⟨A, c, rfl, h1, h2⟩ := hl.slice
 have HP := Lib.hid hp
 obtain ⟨R, hR⟩ : ∃ R, l.any p = R := ⟨_, rfl⟩
 rw [hR]
 have HR := Lib.hid hR
 clear hl hp hR
 go_enter Tryz.func279, Tryz.ntmps279
 go_wp2
 go_loopw [8] (fun i wr => ∃ k : Nat, k ≤ l.length ∧ i = .int .i64 k ∧ (∀ (j : Nat) (y : ByteArray), j < k → l[j]? = some y → p y = false) ∧ Below w.heap.size w wr) (fun i _ => l.length - (intOf i).toNat)
 case atStart => exact ⟨0, Nat.zero_le _, rfl, fun j r h => absurd h (Nat.not_lt_zero _), Below.refl _ _⟩
 case round =>
  obtain ⟨k, hk, rfl, hr, hB⟩ := hrel
  have Hr := Lib.hid hr
  have HB := Lib.hid hB
  clear hr hB
  by_cases hlt : k < l.length
  ·have hkI : (k : Int) < l.length := by omega
   obtain ⟨x, hx⟩ : ∃ x, l[k]? = some x := ⟨_, List.getElem?_eq_getElem hlt⟩
   have Hx := Lib.hid hx
   obtain ⟨_, _, e9, _, _, h4⟩ := HL.out.below HB.out
   cases e9
   obtain ⟨b, o, cs, rfl, rfl, hc⟩ := h4 k x hx
   have e0 : wr.cell? ⟨b, o + k * 1, none⟩ = some (.string x) := hc 0 _ rfl
   rw [Nat.mul_one] at e0
   have HC := Lib.hid (HP.out wr x HB.out (List.mem_of_getElem? hx))
   have HPx : Hid (Below w.heap.size w wr) := Lib.hid HB.out
   clear hc h4 hx
   obtain ⟨q, hq⟩ : ∃ q, p x = q := ⟨_, rfl⟩
   have HQ := Lib.hid hq
   rw [hq] at HC
   clear hq
   go_wp2_with fail
   refine HC.out.mono ?_
   rintro e w2 ⟨rfl, hb2⟩
   have HB2 := Lib.hid (HPx.out.trans (hb2.mono HPx.out.size))
   clear hb2
   cases q with
   | true =>
    go_wp2
    go_ret
    exact ⟨⟨k, rfl, by rw [← HR.out, any_yesS k x Hx.out HQ.out]; simp⟩, HB2.out⟩
   | false =>
    go_wp2
    go_roundw
    case rel =>
     refine ⟨k + 1, by omega, by go_num, fun j r hj he => ?_, HB2.out⟩
     rcases Nat.lt_succ_iff_lt_or_eq.1 hj with h | rfl
     ·exact Hr.out j r h he
     ·rw [Hx.out] at he
      cases he
      exact HQ.out
    case measure => simp [intOf]; omega
  ·have hkI : ¬ (k : Int) < l.length := by omega
   go_wp2
   go_ret
   exact ⟨⟨-1, rfl, by rw [← HR.out, any_noS fun j r he => Hr.out j r (by have := (List.getElem?_eq_some_iff.1 he).1; omega) he]; simp⟩, HB.out⟩
theorem contStr_any (w : World) (v : Value) (l : List ByteArray) (hl : SeqAt strS w v l) (g : Nat) (lb : Array Value) (eg : ∀ args w, (callFunc g args).run Tryz.prog w = .ok (.enter g args) w) (p : ByteArray → Bool) (hp : JudgeS g lb p l w) :
  Calls Tryz.prog 215 #[v, .func (.func g) #[] lb] w fun e w' => e = .returned (.bool (l.any p)) ∧ Below w.heap.size w w' := by
 have H := Lib.hid (idxStr_any w v l hl g lb eg p hp)
 obtain ⟨A, c, rfl, h1, h2⟩ := hl.slice
 clear hl hp
 go_enter Tryz.func215, Tryz.ntmps215
 go_wp2_with (go_at_call 279; refine H.out.mono ?_; rintro e w' ⟨⟨n, rfl, hn⟩, hb⟩; have HB := Lib.hid hb; have HN := Lib.hid hn; clear hb hn)
 go_ret
 refine ⟨ret_bool' ?_, HB.out⟩
 have hn := HN.out
 cases hb : l.any p with
 | false => rw [hb] at hn; exact decide_eq_false (fun h => by have := hn.2 h; cases this)
 | true => rw [hb] at hn; exact decide_eq_true (hn.1 rfl)
theorem allowed_any (w : World) (c : Nat) : Calls Tryz.prog 296 #[.int .i32 (c : Int)] w fun e w' => e = .returned (.bool (okC c)) ∧ w = w' := by
 obtain ⟨R, hR⟩ : ∃ R, okC c = R := ⟨_, rfl⟩
 rw [hR]
 unfold okC at hR
 have HR := Lib.hid hR
 clear hR
 by_cases a : 97 ≤ c
 ·have ai : (97 : Int) ≤ c := by omega
  by_cases b : c ≤ 122
  ·have bi : (c : Int) ≤ 122 := by omega
   have HT : Hid (R = true) := Lib.hid (by rw [← HR.out]; exact decide_eq_true (by omega))
   go_enter Tryz.func296, Tryz.ntmps296
   go_wp2
   go_ret
   exact ⟨by rw [HT.out] <;> rfl, rfl⟩
  ·have bi : ¬ (c : Int) ≤ 122 := by omega
   have e1 : (48 : Int) ≤ c := by omega
   have e2 : ¬ (c : Int) ≤ 57 := by omega
   have e3 : ((c : Int) == 46) = false := by rw [beq_eq_false_iff_ne]; omega
   have e4 : ((c : Int) == 95) = false := by rw [beq_eq_false_iff_ne]; omega
   have e5 : ((c : Int) == 45) = false := by rw [beq_eq_false_iff_ne]; omega
   have HT : Hid (R = false) := Lib.hid (by rw [← HR.out]; exact decide_eq_false (by omega))
   go_enter Tryz.func296, Tryz.ntmps296
   go_wp2
   go_ret
   exact ⟨by rw [HT.out] <;> rfl, rfl⟩
 ·have ai : ¬ (97 : Int) ≤ c := by omega
  by_cases d : 48 ≤ c ∧ c ≤ 57
  ·have e1 : (48 : Int) ≤ c := by omega
   have e2 : (c : Int) ≤ 57 := by omega
   have HT : Hid (R = true) := Lib.hid (by rw [← HR.out]; exact decide_eq_true (by omega))
   go_enter Tryz.func296, Tryz.ntmps296
   go_wp2
   go_ret
   exact ⟨by rw [HT.out] <;> rfl, rfl⟩
  ·obtain ⟨q1, h1⟩ : ∃ q, ((c : Int) == 46) = q := ⟨_, rfl⟩
   obtain ⟨q2, h2⟩ : ∃ q, ((c : Int) == 95) = q := ⟨_, rfl⟩
   obtain ⟨q3, h3⟩ : ∃ q, ((c : Int) == 45) = q := ⟨_, rfl⟩
   have HT : Hid (R = (q1 || (q2 || q3))) := Lib.hid (by
    rw [← HR.out, ← h1, ← h2, ← h3, Bool.eq_iff_iff]
    simp only [decide_eq_true_eq, Bool.or_eq_true, beq_iff_eq]
    omega)
   have hz : (¬ (48 : Int) ≤ c) ∨ ((48 : Int) ≤ c ∧ ¬ (c : Int) ≤ 57) := by omega
   clear d HR
   rcases hz with f1 | ⟨f1, f2⟩ <;> cases q1 <;> cases q2 <;> cases q3 <;>
   ·go_enter Tryz.func296, Tryz.ntmps296
    go_wp2
    go_ret
    exact ⟨by rw [HT.out] <;> rfl, rfl⟩
theorem comp1_any (w : World) (c : Nat) : Calls Tryz.prog 295 #[.int .i32 (c : Int)] w fun e w' => e = .returned (.bool (!okC c)) ∧ w = w' := by
 have H := Lib.hid (fun W => allowed_any W c)
 obtain ⟨q, hq⟩ : ∃ q, okC c = q := ⟨_, rfl⟩
 rw [hq] at H ⊢
 go_enter Tryz.func295, Tryz.ntmps295
 go_wp2_with fail
 refine (H.out _).mono ?_
 rintro e1 w1 ⟨rfl, rfl⟩
 go_wp2_with fail
 go_ret
 exact ⟨rfl, rfl⟩
theorem okC_lt {c : Nat} (h : okC c = true) : c < 128 := by
 have := of_decide_eq_true h
 omega
theorem pcomp_any (w : World) (s : ByteArray) (h : compB (bs s) = true) : Calls Tryz.prog 230 #[.string s] w fun e w' => e = .returned (.bool true) ∧ Below w.heap.size w w' := by
 rw [compB, Bool.and_eq_true, bs_len] at h
 obtain ⟨h1, h2⟩ := h
 obtain ⟨a1, a2, a3, a4⟩ := of_decide_eq_true h1
 have hx : ∀ W, Calls Tryz.prog 294 #[.string s, .func (.func 295) #[] #[]] W fun e w' => e = .returned (.bool false) ∧ Below W.heap.size W w' := fun W => by
  refine (Tryz.strings_ContainsFunc 295 #[] (enters_of Tryz.func295 (by kernel_rfl) rfl) (fun c => !okC c) s W (fun W' x _ => (comp1_any W' x).mono fun e w' ⟨he, hw⟩ => ⟨he, 0, hw.symm⟩)).mono ?_
  rintro e w' ⟨rfl, hb⟩
  refine ⟨?_, hb⟩
  rw [show Lib.idxFunc (fun c => !okC c) true s = -1 from idx_none (fun b hb => ?_) _ _]
  ·rfl
  ·have := List.all_eq_true.1 h2 b hb
   exact ⟨okC_lt this, by rw [this]; rfl⟩
 have HX := Lib.hid hx
 have i1 : (1 : Int) ≤ s.size := by omega
 have i2 : (s.size : Int) ≤ 32 := by omega
 have n1 : s ≠ ⟨#[46]⟩ := fun e => a3 (by rw [e]; rfl)
 have n2 : s ≠ ⟨#[46, 46]⟩ := fun e => a4 (by rw [e]; rfl)
 have F1 : Hid ((s.toList == [46]) = false) := Lib.hid (beq_eq_false_iff_ne.2 fun e => n1 (toListV.1 e))
 have F2 : Hid ((s.toList == [46, 46]) = false) := Lib.hid (beq_eq_false_iff_ne.2 fun e => n2 (toListV.1 e))
 have e1 : s.toList ≠ [46] := fun e => n1 (toListV.1 e)
 have e2 : s.toList ≠ [46, 46] := fun e => n2 (toListV.1 e)
 clear h1 h2 a1 a2 a3 a4 hx n1 n2
 go_enter Tryz.func230, Tryz.ntmps230
 go_wp2_with fail
 refine (HX.out _).mono ?_
 rintro e1 w1 ⟨rfl, hb⟩
 have HB := Lib.hid hb
 clear hb
 go_wp2_with fail
 go_ret
 exact ⟨ret_bool' (by rw [F1.out, F2.out]; rfl), HB.out⟩
theorem pcheck1_any (w : World) (s : ByteArray) (h : compB (bs s) = true) : Calls Tryz.prog 229 #[.string s] w fun e w' => e = .returned (.bool false) ∧ Below w.heap.size w w' := by
 have H := Lib.hid (fun W => pcomp_any W s h)
 clear h
 go_enter Tryz.func229, Tryz.ntmps229
 go_wp2_with fail
 refine (H.out _).mono ?_
 rintro e1 w1 ⟨rfl, hb⟩
 have HB := Lib.hid hb
 clear hb
 go_wp2_with fail
 go_ret
 exact ⟨rfl, HB.out⟩
theorem SeqAt.strs (W : World) (L : List ByteArray) (c : Nat) (hc : L.length ≤ c) (h63 : c ≤ 9223372036854775807) : SeqAt strS (W.alloc (.cells (L.map Value.string).toArray 9)) (.slice (some ⟨W.heap.size, 0, none⟩) L.length c) L := by
 refine ⟨_, _, rfl, hc, h63, fun i x hx => ⟨W.heap.size, 0, [.string x], rfl, rfl, fun j u hu => ?_⟩⟩
 cases j with
 | zero =>
  obtain rfl : Value.string x = u := by simpa using hu
  show (W.alloc _).cell? ⟨W.heap.size, 0 + i * 1 + 0, none⟩ = _
  rw [Nat.zero_add, Nat.mul_one, Nat.add_zero]
  exact (Blk.new W 9 (L.map Value.string)).cell (by rw [List.getElem?_map, hx]; rfl)
 | succ j => simp at hu
theorem pelems_any (w : World) (s : ByteArray) (hs : s.size ≤ 1000000) (hT : Tab w) : Calls Tryz.prog 160 #[.string s] w fun e w' => (∃ v, e = .returned v ∧ SeqAt strS w' v ((elemsL (bs s)).map strB)) ∧ Below w.heap.size w w' := by
 by_cases h0 : s.size = 0
 ·have e0 : s = ⟨#[]⟩ := by
   apply ByteArray.ext
   exact Array.eq_empty_of_size_eq_zero h0
  subst e0
  clear h0
  go_enter Tryz.func160, Tryz.ntmps160
  go_wp2
  go_ret
  first | exact ⟨⟨_, rfl, SeqAt.nil _⟩, Below.refl _ _⟩ | exact ⟨_, rfl, SeqAt.nil _, Below.refl _ _⟩
 ·have hb0 : s.toList.isEmpty = false := isEmptyV h0
  obtain ⟨m, hm⟩ := hT.most
  have HC := Lib.hid (Tryz.strings_Split s ⟨#[47]⟩ m w (by omega) hm (by decide))
  have HE : Hid ((elemsL (bs s)).map strB = Lib.splitB ⟨#[47]⟩ 0 (Lib.countB s ⟨#[47]⟩) s) := Lib.hid (by
   rw [splits_elems, elemsL, if_neg]
   intro e
   have := congrArg List.length e
   rw [bs_len] at this
   exact h0 (by simpa using this))
  have HN : Hid (Lib.countB s ⟨#[47]⟩ + 1 = (Lib.splitB ⟨#[47]⟩ 0 (Lib.countB s ⟨#[47]⟩) s).length ∧ Lib.countB s ⟨#[47]⟩ ≤ s.size) := Lib.hid ⟨(Lib.splitB_all ⟨#[47]⟩ (by decide) 0 _ s rfl).symm, Lib.countB_le ⟨#[47]⟩ (by decide) s.size s (Nat.le_refl _)⟩
  clear hm h0
  go_enter Tryz.func160, Tryz.ntmps160
  go_wp2_with fail
  refine HC.out.mono ?_
  rintro e1 w1 ⟨rfl, rfl⟩
  go_wp2_with fail
  go_ret
  have key : SeqAt strS (w.alloc (.cells ((Lib.splitB ⟨#[47]⟩ 0 (Lib.countB s ⟨#[47]⟩) s).map Value.string).toArray 9)) (.slice (some ⟨w.heap.size, 0, none⟩) (Lib.countB s ⟨#[47]⟩ + 1 : Nat) (Lib.countB s ⟨#[47]⟩ + 1 : Nat)) ((elemsL (bs s)).map strB) := by
   rw [HE.out, HN.out.1]
   exact SeqAt.strs w _ _ (Nat.le_refl _) (by have := HN.out; omega)
  first | exact ⟨⟨_, rfl, key⟩, (Below.refl _ _).alloc (Nat.le_refl _) _⟩ | exact ⟨_, rfl, key, (Below.refl _ _).alloc (Nat.le_refl _) _⟩
theorem pcheck_ok (w : World) (s : ByteArray) (h : pathE (bs s) = 0) (hT : Tab w) : Calls Tryz.prog 148 #[.string s] w fun e w' => e = .returned (.int .i64 0) ∧ Below w.heap.size w w' := by
 unfold pathE at h
 split at h
 ·cases h
 rename_i h1
 split at h
 ·cases h
 rename_i h2
 split at h
 ·rename_i h3
  rw [bs_len] at h1
  have HE := Lib.hid (pelems_any w s (by omega) hT)
  have HA : Hid (∀ x ∈ (elemsL (bs s)).map strB, compB (bs x) = true) := Lib.hid (fun x hx => by
   obtain ⟨l, hl, rfl⟩ := List.mem_map.1 hx
   rw [bs_strB (elemsL_bytes (bs_lt s) l hl)]
   exact List.all_eq_true.1 h3 l hl)
  obtain ⟨L, hL⟩ : ∃ L, (elemsL (bs s)).map strB = L := ⟨_, rfl⟩
  have hl : L.length ≤ 8 := by rw [← hL, List.length_map]; omega
  rw [hL] at HE HA
  have HF : Hid (L.any (fun _ => false) = false) := Lib.hid (by rw [List.any_eq_false]; intro x _; decide)
  have i1 : ¬ (200 : Int) < s.size := by omega
  clear h h1 h2 h3 hL
  have i2 : ¬ (8 : Int) < L.length := by omega
  go_enter Tryz.func148, Tryz.ntmps148
  go_wp2_with fail
  refine HE.out.mono ?_
  rintro e1 w1 ⟨⟨v, rfl, hv⟩, hb⟩
  have HB := Lib.hid hb
  have HC := Lib.hid (contStr_any w1 v L hv 229 #[] (enters_of Tryz.func229 (by kernel_rfl) rfl) (fun _ => false) (fun W x _ hx => pcheck1_any W x (HA.out x hx)))
  rw [HF.out] at HC
  obtain ⟨A, c, rfl, _, _⟩ := hv.slice
  clear hb hv
  go_wp2_with fail
  refine HC.out.mono ?_
  rintro e2 w2 ⟨rfl, hb2⟩
  have HB2 := Lib.hid (HB.out.trans (hb2.mono HB.out.size))
  clear hb2
  go_wp2_with fail
  go_ret
  exact ⟨rfl, HB2.out⟩
 ·cases h
end
end Go.Proofs.YthkjphebhafgoaaGreatDoor
