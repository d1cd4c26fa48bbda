/-
  Joined: VqK VqL.
-/
import Derived.Test.YthkjphebhafgoaaGreatDoorMBn13
set_option linter.all false
set_option maxRecDepth 100000
set_option maxHeartbeats 64000000
namespace Go.Proofs.YthkjphebhafgoaaGreatDoor
section
open Go.RowKit
theorem cmp_less : ∀ {p q : List UInt8}, p ≠ q → Op.bytesLess q p = false → Lib.compareBytes p q = -1
 | [], [], h, _ => absurd rfl h
 | [], _ :: _, _, _ => rfl
 | _ :: _, [], _, h => by cases h
 | a :: x, b :: y, h, hl => by
  simp only [Op.bytesLess, Bool.or_eq_false_iff, decide_eq_false_iff_not, Bool.and_eq_false_iff, beq_eq_false_iff_ne] at hl
  rw [Lib.compareBytes]
  by_cases h1 : a < b
  ·rw [if_pos h1]
  ·have e : b = a := by
    have h2 := hl.1
    rw [UInt8.lt_iff_toNat_lt] at h1 h2
    exact UInt8.toNat_inj.1 (by omega)
   subst e
   rw [if_neg h1, if_neg h1]
   refine cmp_less (fun e => h (by rw [e])) ?_
   rcases hl.2 with h3 | h3
   ·exact absurd rfl h3
   ·exact h3
def cutK : ByteArray := ⟨#[97, 98, 99, 100, 101, 102, 103, 104, 105, 106, 107, 108, 109, 110, 111, 112, 113, 114, 115, 116, 117, 118, 119, 120, 121, 122, 48, 49, 50, 51, 52, 53, 54, 55, 56, 57, 46, 95, 45]⟩
theorem cutK_all : ∀ b : Nat, b < 128 → okC b = true → (bs cutK).contains b = true := by decide
theorem keyB_in {l : List Nat} (h : l.all okC = true) : allIn (bs cutK) l = true :=
 List.all_eq_true.2 fun b hb => cutK_all b (okC_lt (List.all_eq_true.1 h b hb)) (List.all_eq_true.1 h b hb)
theorem atkey_ok (w : World) (s : ByteArray) (h : keyB (bs s) = true) : Calls Tryz.prog 297 #[.string s] w fun e w' => e = .returned (.int .i64 0) ∧ Below w.heap.size w w' := by
 rw [keyB, Bool.and_eq_true, bs_len] at h
 obtain ⟨h1, h2⟩ := h
 have h1 := of_decide_eq_true h1
 have hb0 : s.toList.isEmpty = false := isEmptyV (by omega)
 have i1 : ¬ (32 : Int) < s.size := by omega
 have HT := Lib.hid (trim_any w s cutK (by omega) (by decide) (by decide))
 rw [keyB_in h2] at HT
 clear h1 h2
 unfold cutK at HT
 go_enter Tryz.func297, Tryz.ntmps297
 go_wp2_with fail
 refine HT.out.mono ?_
 rintro e1 w1 ⟨t, rfl, ht, hb⟩
 have HB := Lib.hid hb
 clear hb
 go_wp2_with fail
 go_ret
 exact ⟨rfl, HB.out⟩
theorem atattr_ok (w : World) (a : Atr) (h : keyB (bs a.k) = true) (h64 : ¬ 64 < a.v.size) : Calls Tryz.prog 231 #[.agg #[.string a.k, .string a.v]] w fun e w' => e = .returned (.int .i64 0) ∧ Below w.heap.size w w' := by
 obtain ⟨k, v⟩ := a
 dsimp only at h h64
 have i2 : ¬ (64 : Int) < v.size := by omega
 have hK := Blk.new w 117 [.string k, .string v]
 change Blk (w.alloc (.cells #[.string k, .string v] 117)) _ _ _ at hK
 have HK := Lib.hid hK
 have HB := Lib.hid ((Below.refl w.heap.size w).alloc (Nat.le_refl _) (.cells #[.string k, .string v] 117))
 have HX := Lib.hid (fun W => atkey_ok W k h)
 clear hK h h64
 go_enter Tryz.func231, Tryz.ntmps231
 go_upto_region 1 with fail
 generalize w.alloc (.cells #[.string k, .string v] 117) = wa at *
 have c0 := HK.out.cell (i := 0) rfl
 go_wp2_with fail
 refine (HX.out _).mono ?_
 rintro e1 w1 ⟨rfl, hb⟩
 have HK1 := Lib.hid (HK.out.kept hb)
 have HB1 := Lib.hid (HB.out.trans (hb.mono HB.out.size))
 clear hb c0
 have c1 := HK1.out.cell (i := 1) rfl
 go_wp2_with fail
 go_ret
 exact ⟨rfl, HB1.out⟩
structure AtrsOk (l : List Atr) : Prop where
 len : l.length ≤ 16
 key : ∀ a ∈ l, keyB (bs a.k) = true ∧ ¬ 64 < a.v.size
 ord : ∀ i p a, l[i]? = some p → l[i + 1]? = some a → Lib.compareBytes p.k.data.toList a.k.data.toList = -1
theorem attrsG_ok : ∀ {l : List Atr} {q : Option ByteArray}, attrsG q l = 0 → (∀ a ∈ l, keyB (bs a.k) = true ∧ ¬ 64 < a.v.size) ∧ (∀ i p a, l[i]? = some p → l[i + 1]? = some a → Lib.compareBytes p.k.data.toList a.k.data.toList = -1) ∧ (∀ p a, q = some p → l[0]? = some a → Lib.compareBytes p.data.toList a.k.data.toList = -1)
 | [], q, _ => ⟨fun a h => (nomatch h), fun i p a h => by simp at h, fun p a _ h => by simp at h⟩
 | a :: r, q, h => by
  have hk : keyB (bs a.k) = true := by
   cases e : keyB (bs a.k) with
   | true => rfl
   | false => rw [attrsG_key e] at h; cases h
  have h64 : ¬ 64 < a.v.size := fun e => by rw [attrsG_val hk e] at h; cases h
  have hr : attrsG (some a.k) r = 0 ∧ ∀ p, q = some p → Lib.compareBytes p.data.toList a.k.data.toList = -1 := by
   cases q with
   | none => rw [attrsG_first hk h64] at h; exact ⟨h, fun p e => by cases e⟩
   | some q =>
    rw [attrsG_next hk h64] at h
    split at h
    ·cases h
    ·rename_i hne
     split at h
     ·cases h
     ·rename_i hlt
      refine ⟨h, fun p e => ?_⟩
      cases e
      refine cmp_less (fun e => hne (ByteArray.ext (Array.toList_inj.1 e.symm))) ?_
      rw [ByteArray.toList_eq, ByteArray.toList_eq] at hlt
      exact Bool.eq_false_iff.2 hlt
  obtain ⟨h1, h2, h3⟩ := attrsG_ok hr.1
  refine ⟨fun x hx => ?_, fun i p x hp hx => ?_, fun p x hp hx => ?_⟩
  ·rcases List.mem_cons.1 hx with rfl | hx
   ·exact ⟨hk, h64⟩
   ·exact h1 x hx
  ·cases i with
   | zero =>
    obtain rfl : a = p := by simpa using hp
    exact h3 _ x rfl (by simpa using hx)
   | succ i => exact h2 i p x (by simpa using hp) (by simpa using hx)
  ·obtain rfl : a = x := by simpa using hx
   exact hr.2 p hp
theorem attrsE_ok {l : List Atr} (h : attrsE l = 0) : AtrsOk l := by
 unfold attrsE at h
 split at h
 ·cases h
 ·rename_i h16
  obtain ⟨h1, h2, _⟩ := attrsG_ok h
  exact ⟨by omega, h1, h2⟩
theorem atcheck_ok (w : World) (v : Value) (l : List Atr) (hv : SeqAt atrS w v l) (h : attrsE l = 0) : Calls Tryz.prog 149 #[v] w fun e w' => e = .returned (.int .i64 0) ∧ Below w.heap.size w w' := by
 have Hv := Lib.hid hv
 obtain ⟨A, c, rfl, h1, h2⟩ := hv.slice
 have HO := Lib.hid (attrsE_ok h)
 clear hv h
 have i1 : ¬ (16 : Int) < l.length := by have := HO.out.len; omega
 go_enter Tryz.func149, Tryz.ntmps149
 go_wp2
 go_loopw [11] (fun x wr => ∃ i : Nat, i ≤ l.length ∧ x = .int .i64 (i : Int) ∧ Below w.heap.size w wr) (fun x _ => l.length - (intOf x).toNat)
 case atStart => exact ⟨0, by omega, rfl, Below.refl _ _⟩
 case round =>
  obtain ⟨i, hi, rfl, hB⟩ := hrel
  have HB := Lib.hid hB
  clear hB
  by_cases h : i < l.length
  ·have hiI : (i : Int) < l.length := by omega
   obtain ⟨a, ha⟩ : ∃ a, l[i]? = some a := ⟨_, List.getElem?_eq_getElem h⟩
   obtain ⟨_, _, e9, _, _, h4⟩ := Hv.out.below HB.out
   cases e9
   obtain ⟨b, o, cs, rfl, rfl, hc⟩ := h4 i a ha
   have c0 : wr.cell? ⟨b, o + i * 2, none⟩ = some (.string a.k) := hc 0 _ rfl
   have c1 : wr.cell? ⟨b, o + i * 2 + 1, none⟩ = some (.string a.v) := hc 1 _ rfl
   have hka := HO.out.key a (List.mem_of_getElem? ha)
   have HX := Lib.hid (fun W => atattr_ok W a hka.1 hka.2)
   have hT := Blk.new wr 117 [.string a.k, .string a.v]
   change Blk (wr.alloc (.cells #[.string a.k, .string a.v] 117)) _ _ _ at hT
   have HT := Lib.hid hT
   have HBt := Lib.hid (HB.out.alloc HB.out.size (.cells #[.string a.k, .string a.v] 117))
   clear hc hT hka
   by_cases h0 : i = 0
   ·subst h0
    rw [show ((0 : Nat) : Int) = 0 from rfl]
    rw [Nat.zero_mul, Nat.add_zero] at c0 c1
    clear h4
    go_upto_region 6 with fail
    generalize wr.alloc (.cells #[.string a.k, .string a.v] 117) = wt at *
    have d0 := HT.out.cell (i := 0) rfl
    have d1 := HT.out.cell (i := 1) rfl
    go_wp2_with fail
    refine (HX.out _).mono ?_
    rintro e2 w2 ⟨rfl, hb2⟩
    have HB2 := Lib.hid (HBt.out.trans (hb2.mono HBt.out.size))
    clear hb2
    go_wp2
    go_roundw
    case rel => exact ⟨1, by omega, by go_num, HB2.out⟩
    case measure => simp [intOf]; omega
   ·obtain ⟨j, hj⟩ : ∃ j, i = j + 1 := ⟨i - 1, by omega⟩
    have hjl : j < l.length := by omega
    obtain ⟨p, hp⟩ : ∃ p, l[j]? = some p := ⟨_, List.getElem?_eq_getElem hjl⟩
    have HC : Hid (Lib.compareBytes p.k.data.toList a.k.data.toList = -1) := Lib.hid (HO.out.ord j p a hp (by rw [← hj]; exact ha))
    have hwr : IntKind.i64.wrap ((i : Int) - 1) = (j : Int) := by rw [IntWalk.i64_in _ (by omega)]; omega
    have hwr2 : (i : Int) - 1 = j := by omega
    have hjI : (j : Int) < l.length := by omega
    have i0 : ((i : Int) == 0) = false := by rw [beq_eq_false_iff_ne]; omega
    obtain ⟨b', o', cs, e8, rfl, hd⟩ := h4 j p hp
    cases e8
    have d0 : wr.cell? ⟨b, o + j * 2, none⟩ = some (.string p.k) := hd 0 _ rfl
    have HD : Hid (∀ W, Below wr.heap.size wr W → W.cell? ⟨b, o + j * 2, none⟩ = some (.string p.k)) := Lib.hid (fun W hb => cell_below hb d0)
    have HCm := Lib.hid (fun W => Tryz.strings_Compare p.k a.k W)
    clear hd h4 hp h0 d0 hj hjl
    go_upto_region 6 with fail
    have HBw := Lib.hid ((Below.refl wr.heap.size wr).alloc (Nat.le_refl _) (.cells #[.string a.k, .string a.v] 117))
    generalize wr.alloc (.cells #[.string a.k, .string a.v] 117) = wt at *
    have d1 := HT.out.cell (i := 0) rfl
    have d2 := HT.out.cell (i := 1) rfl
    go_wp2_with fail
    refine (HX.out _).mono ?_
    rintro e2 w2 ⟨rfl, hb2⟩
    have HT2 := Lib.hid (HT.out.kept hb2)
    have HB2 := Lib.hid (HBt.out.trans (hb2.mono HBt.out.size))
    have d3 := HD.out w2 (HBw.out.trans (hb2.mono HBw.out.size))
    clear hb2 d1 d2
    have d1 := HT2.out.cell (i := 0) rfl
    rw [HC.out] at HCm
    go_upto_region 10 with fail
    go_quiet (first | (go_at_call 118; refine Calls.quiet_of_same (HCm.out _)))
    go_wp2
    go_roundw
    case rel => exact ⟨i + 1, by omega, by go_num, blwN HB2.out _⟩
    case measure => simp [intOf]; omega
  ·obtain rfl : i = l.length := by omega
   have hiI : ¬ ((l.length : Nat) : Int) < (l.length : Int) := by omega
   go_wp2
   go_ret
   exact ⟨rfl, HB.out⟩
theorem digD_val : ∀ {p : List Nat}, p ≠ [] → p.all digB = true → (1 < p.length → cf p 0 ≠ 48) → digD (valD p) = p := by
 intro p
 induction hn : p.length generalizing p with
 | zero => intro h; exact absurd (List.length_eq_zero_iff.1 hn) h
 | succ n ih =>
  intro h hd h0
  obtain ⟨q, c, rfl⟩ : ∃ q c, p = q ++ [c] := ⟨p.dropLast, p.getLast h, (List.dropLast_concat_getLast h).symm⟩
  have hql : q.length = n := by simpa using hn
  rw [List.all_append, Bool.and_eq_true] at hd
  have hc' : digB c = true := by simpa using hd.2
  have hc : 48 ≤ c ∧ c ≤ 57 := of_decide_eq_true hc'
  have hv : valD (q ++ [c]) = 10 * valD q + (c - 48) := by rw [valD, List.foldl_append]; rfl
  rw [hv]
  by_cases hq : q = []
  ·subst hq
   have : valD [] = 0 := rfl
   rw [this, Nat.mul_zero, Nat.zero_add, digD_small (by omega), List.nil_append]
   congr 1
   omega
  ·have hq0 : cf q 0 ≠ 48 := by
    have hl : 0 < q.length := List.length_pos_iff.2 hq
    have := h0 (by simp; omega)
    rwa [cf, List.getElem?_append_left hl] at this
   have e := ih hql hq hd.1 (fun _ => hq0)
   have h1 : valD q ≠ 0 := fun e0 => by
    rw [e0, digD_small (by decide)] at e
    rw [← e] at hq0
    exact hq0 rfl
   rw [digD_great (by omega), show (10 * valD q + (c - 48)) / 10 = valD q by omega, show (10 * valD q + (c - 48)) % 10 = c - 48 by omega, e, digD_small (by omega)]
   congr 1
   simp
   omega
theorem atoi_val {l : List UInt8} (h : natL l ≠ []) (hd : (natL l).all digB = true) : Lib.atoi l = some ((valD (natL l) : Nat) : Int) := by
 have key : ∀ (l : List UInt8) (a : Nat), (natL l).all digB = true → Lib.decFrom a l = some ((natL l).foldl (fun n c => 10 * n + (c - 48)) a) := by
  intro l
  induction l with
  | nil => intro a _; rfl
  | cons b r ih =>
   intro a hd
   have hd' : digB b.toNat = true ∧ (natL r).all digB = true := by
    have : ((b.toNat :: natL r).all digB) = true := hd
    rwa [List.all_cons, Bool.and_eq_true] at this
   have hb : 48 ≤ b.toNat ∧ b.toNat ≤ 57 := of_decide_eq_true hd'.1
   have e : Lib.digitVal b = some (b.toNat - 48) := by rw [Lib.digitVal, if_pos hb]
   rw [Lib.decFrom, e]
   show Lib.decFrom (a * 10 + (b.toNat - 48)) r = _
   rw [ih _ hd'.2, Nat.mul_comm]
   rfl
 cases l with
 | nil => exact absurd rfl h
 | cons b r =>
  have hd' : digB b.toNat = true := by
   have : ((b.toNat :: natL r).all digB) = true := hd
   rw [List.all_cons, Bool.and_eq_true] at this
   exact this.1
  have hb : 48 ≤ b.toNat ∧ b.toNat ≤ 57 := of_decide_eq_true hd'
  have n1 : ¬ (b == 45) = true := fun e => by rw [beq_iff_eq.1 e] at hb; exact absurd hb.1 (by decide)
  have n2 : ¬ (b == 43) = true := fun e => by rw [beq_iff_eq.1 e] at hb; exact absurd hb.1 (by decide)
  rw [Lib.atoi, if_neg n1, if_neg n2, Lib.decNat, if_neg (by simp), key _ 0 hd]
  rfl
theorem below_bytes (w : World) (e : TypeId) (t : ByteArray) : Below w.heap.size w (Lib.bytesWorld w e t) :=
 ⟨rfl, rfl, rfl, by rw [Lib.bytesWorld_size]; omega, fun k hk => Lib.bytesWorld_at_old w e t k hk⟩
theorem atoi_date (w : World) (s : ByteArray) (h : dateB (bs s) = true) : ∃ n : Nat, n ≤ 1000000000 ∧ strB (digD n) = s ∧ Calls Tryz.prog 167 #[.string s] w fun e w' => e = .returned (.tuple #[.int .i64 (n : Int), .nilIface]) ∧ Below w.heap.size w w' := by
 rw [dateB, Bool.and_eq_true, Bool.and_eq_true] at h
 obtain ⟨h1, h2, h3⟩ := h
 have h1 := of_decide_eq_true h1
 have h3 := of_decide_eq_true h3
 have hne : bs s ≠ [] := fun e => by rw [e] at h1; exact absurd h1.1 (by decide)
 refine ⟨valD (bs s), h3, ?_, ?_⟩
 ·rw [digD_val hne h2 (fun h => fun e => h1.2.2 ⟨h, e⟩), strB_bs]
 ·refine (Tryz.strconv_Atoi s _ ?_ (atoi_val (l := s.data.toList) hne h2) w).mono ?_
  ·have := h1.2.1
   rw [bs_len] at this
   omega
  ·rintro e w' ⟨rfl, t, rfl⟩
   exact ⟨rfl, below_bytes _ _ _⟩
theorem isdate_ok (w : World) (s : ByteArray) (h : dateB (bs s) = true) (hT : Tab w) : Calls Tryz.prog 232 #[.string s] w fun e w' => e = .returned (.bool true) ∧ Below w.heap.size w w' := by
 obtain ⟨n, hn, hd, hc⟩ := atoi_date w s h
 have HC := Lib.hid hc
 have HI : Hid (∀ W, Below w.heap.size w W → Calls Tryz.prog 79 #[.int .i64 (n : Int)] W fun e w' => e = .returned (.string s) ∧ Below W.heap.size W w') := Lib.hid (fun W hb => by
  have := itoa_any W n (by omega) (hT.below hb)
  rwa [hd] at this)
 have i1 : (0 : Int) ≤ n := by omega
 have i2 : (n : Int) ≤ 1000000000 := by omega
 clear hc hd h hn
 go_enter Tryz.func232, Tryz.ntmps232
 go_wp2_with fail
 refine HC.out.mono ?_
 rintro e1 w1 ⟨rfl, hb1⟩
 have HB1 := Lib.hid hb1
 clear hb1
 go_wp2_with fail
 refine (HI.out _ HB1.out).mono ?_
 rintro e2 w2 ⟨rfl, hb2⟩
 have HB2 := Lib.hid (HB1.out.trans (hb2.mono HB1.out.size))
 clear hb2
 go_wp2_with fail
 go_ret
 first | exact ⟨rfl, HB2.out⟩ | exact ⟨ret_bool' (by simp), HB2.out⟩
theorem entarget_ok (w : World) (e : Ent) (va vx : Value) (h : tgtB e = true) (hT : Tab w) : Calls Tryz.prog 150 #[entV e va vx] w fun r w' => r = .returned (.bool true) ∧ Below w.heap.size w w' := by
 obtain ⟨k, path, attrs, t, size, dig, exts⟩ := e
 rw [tgtB] at h
 dsimp only at h
 rw [entV]
 dsimp only
 have hK := Blk.new w 48 [.int .i64 k, .string path, va, .string t, .int .i64 size, .string dig, vx]
 change Blk (w.alloc (.cells #[.int .i64 k, .string path, va, .string t, .int .i64 size, .string dig, vx] 48)) _ _ _ at hK
 have c0 := hK.cell (i := 0) rfl
 have c3 := hK.cell (i := 3) rfl
 have HB := Lib.hid ((Below.refl w.heap.size w).alloc (Nat.le_refl _) (.cells #[.int .i64 k, .string path, va, .string t, .int .i64 size, .string dig, vx] 48))
 clear hK
 by_cases h3 : k = 3
 ·have i1 : (k == 3) = true := by rw [h3]; rfl
  rw [if_pos h3] at h
  clear h3
  have h := of_decide_eq_true h
  have i2 : t.toList.isEmpty = false := isEmptyV (by omega)
  have i3 : (t.size : Int) ≤ 200 := by omega
  clear h
  go_enter Tryz.func150, Tryz.ntmps150
  go_wp2
  go_ret
  exact ⟨rfl, HB.out⟩
 ·have i1 : (k == 3) = false := by rw [beq_eq_false_iff_ne]; exact h3
  rw [if_neg h3] at h
  clear h3
  by_cases h5 : k = 5
  ·have i2 : (k == 5) = true := by rw [h5]; rfl
   rw [if_pos h5] at h
   clear h5
   have HD := Lib.hid (isdate_ok _ t h (hT.below HB.out))
   clear h
   go_enter Tryz.func150, Tryz.ntmps150
   go_wp2_with fail
   refine HD.out.mono ?_
   rintro e1 w1 ⟨rfl, hb⟩
   have HB1 := Lib.hid (HB.out.trans (hb.mono HB.out.size))
   clear hb
   go_wp2_with fail
   go_ret
   exact ⟨rfl, HB1.out⟩
  ·have i2 : (k == 5) = false := by rw [beq_eq_false_iff_ne]; exact h5
   rw [if_neg h5] at h
   clear h5
   have e0 : t = ⟨#[]⟩ := by
    apply ByteArray.ext
    exact Array.eq_empty_of_size_eq_zero (of_decide_eq_true h)
   subst e0
   clear h
   go_enter Tryz.func150, Tryz.ntmps150
   go_wp2
   go_ret
   exact ⟨rfl, HB.out⟩
end
end Go.Proofs.YthkjphebhafgoaaGreatDoor
