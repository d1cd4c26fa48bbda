/-
  The library's contracts on strings, restated over lists of numbers; cells.Check, Unreadable.
  WALKS: strings.Builder's words over lists of numbers; cells.ToBytes at strings of zeros and ones.
-/
import Derived.Test.YtjennpcadjdnlaaGreatDoorShelf
import Derived.Test.YtjennpcadjdnlaaGreatDoorByM
import Derived.Test.YtjennpcadjdnlaaGreatDoorPolA
import Derived.StillTailTactics
import Derived.Lib.Hide
namespace Go.Proofs.YtjennpcadjdnlaaGreatDoor
open Go.RowKit

theorem bs_data (s : ByteArray) : bs s = s.data.toList.map (·.toNat) := rfl
theorem strB_eq (l : List Nat) : strB l = ⟨(l.map UInt8.ofNat).toArray⟩ := rfl
theorem mem_bs {s : ByteArray} {b : Nat} : b ∈ bs s ↔ ∃ c ∈ s.data.toList, c.toNat = b := by unfold bs; rw [List.mem_map]
/-- All of it lies in the cutset, or trimming leaves something. -/
theorem trimS_nil (l cs : List UInt8) : Lib.trimS l cs = [] ↔ ∀ b ∈ l, b ∈ cs := by
  have hdw : ∀ (p : UInt8 → Bool) (l : List UInt8), l.dropWhile p = [] ↔ ∀ b ∈ l, p b = true := by
    intro p l
    induction l with
    | nil => simp
    | cons a l ih =>
      by_cases h : p a = true
      · rw [List.dropWhile_cons_of_pos h, ih]
        simp [h]
      · rw [List.dropWhile_cons_of_neg h]
        simp [h]
  constructor
  · intro h b hb
    unfold Lib.trimS Lib.trimLeftS at h
    have h1 := (hdw _ _).1 h
    unfold Lib.trimRightS at h1
    by_cases h2 : (l.reverse.dropWhile (cs.contains ·)) = []
    · have h3 := (hdw _ _).1 h2 b (by simpa using hb)
      simpa using h3
    · exfalso
      cases h4 : l.reverse.dropWhile (cs.contains ·) with
      | nil => exact h2 h4
      | cons a r =>
        have h5 := List.head?_dropWhile_not (cs.contains ·) l.reverse
        rw [h4] at h5
        have h6 := h1 a (by rw [h4]; simp)
        simp only [List.head?_cons] at h5
        rw [h6] at h5
        cases h5
  · intro h
    have h2 : l.reverse.dropWhile (cs.contains ·) = [] := (hdw _ _).2 fun b hb => by
      have := h b (by simpa using hb)
      simpa using this
    unfold Lib.trimS Lib.trimRightS
    rw [h2]
    rfl
/-- Does it hold only bytes of the cutset? -/
def allIn (cut : List Nat) (l : List Nat) : Bool := l.all fun b => cut.contains b
theorem trim_any (w : World) (s cut : ByteArray) (hs : s.size ≤ 1000000) (hc : cut.size < 1000000) (ha : cut.data.toList.all (fun b => decide (b.toNat < 128)) = true) :
    Calls Tryz.prog 75 #[.string s, .string cut] w fun e w' => ∃ t, e = .returned (.string t) ∧ t.toList.isEmpty = allIn (bs cut) (bs s) ∧ Below w.heap.size w w' := by
  refine (Tryz.strings_Trim_laid s cut w (by omega) (by omega) (ascii_of_all ha)).mono fun e w' ⟨he, hb⟩ => ⟨_, he, ?_, hb⟩
  have h1 : ((⟨(Lib.trimS s.data.toList cut.data.toList).toArray⟩ : ByteArray).toList.isEmpty = true) ↔ Lib.trimS s.data.toList cut.data.toList = [] := by
    rw [Lib.toList_data, List.isEmpty_iff]
  rw [Bool.eq_iff_iff, h1, trimS_nil]
  unfold allIn
  rw [List.all_eq_true]
  constructor
  · intro h b hb
    obtain ⟨c, hc, rfl⟩ := mem_bs.1 hb
    rw [List.contains_iff_mem]
    exact mem_bs.2 ⟨c, h c hc, rfl⟩
  · intro h b hb
    have := h b.toNat (mem_bs.2 ⟨b, hb, rfl⟩)
    rw [List.contains_iff_mem] at this
    obtain ⟨c, hc, e⟩ := mem_bs.1 this
    rwa [UInt8.toNat_inj.1 e] at hc
theorem count_any (w : World) (s : ByteArray) (c : UInt8) : Calls Tryz.prog 76 #[.string s, .string ⟨#[c]⟩] w fun e w' => e = .returned (.int .i64 ((bs s).count c.toNat : Nat)) ∧ w = w' := by
  refine (Tryz.strings_Count_one s c w).mono fun e w' ⟨he, hw⟩ => ⟨?_, hw.symm⟩
  rw [he]
  unfold Lib.countByte bs
  have : ∀ l : List UInt8, (l.map (·.toNat)).count c.toNat = l.count c := by
    intro l
    induction l with
    | nil => rfl
    | cons a l ih =>
      rw [List.map_cons, List.count_cons, List.count_cons, ih]
      by_cases h : a = c
      · subst h; simp
      · have h2 : a.toNat ≠ c.toNat := fun e => h (UInt8.toNat_inj.1 e)
        simp [h, h2]
  rw [this]
theorem indexByte_neg (l : List UInt8) (c : UInt8) : (0 ≤ Lib.indexByte l c) ↔ c ∈ l := by
  induction l with
  | nil => simp [Lib.indexByte]
  | cons b l ih =>
    unfold Lib.indexByte
    have hge := Lib.indexByte_ge l c
    by_cases h : b = c
    · subst h; simp
    · have h1 : (b == c) = false := by simpa using h
      rw [h1]
      simp only [Bool.false_eq_true, if_false, List.mem_cons]
      split
      · rename_i h2
        have h2 : Lib.indexByte l c = -1 := by simpa using h2
        have h3 : ¬ c ∈ l := fun h3 => by have := ih.2 h3; omega
        simp [h3, Ne.symm h]
      · rename_i h2
        have h2 : Lib.indexByte l c ≠ -1 := by simpa using h2
        have h3 : c ∈ l := ih.1 (by omega)
        constructor
        · exact fun _ => .inr h3
        · exact fun _ => by omega
theorem contains_any (w : World) (s : ByteArray) (c : UInt8) : Calls Tryz.prog 79 #[.string s, .string ⟨#[c]⟩] w fun e w' => e = .returned (.bool ((bs s).contains c.toNat)) ∧ w = w' := by
  refine (Tryz.strings_Contains_one s c w).mono fun e w' ⟨he, hw⟩ => ⟨?_, hw.symm⟩
  rw [he]
  congr 2
  rw [Bool.eq_iff_iff, decide_eq_true_eq, List.contains_iff_mem, indexByte_neg, mem_bs]
  constructor
  · exact fun h => ⟨c, h, rfl⟩
  · rintro ⟨d, h, e⟩
    rwa [UInt8.toNat_inj.1 e] at h
theorem repeat_any (w : World) (c : UInt8) (n : Nat) (hn : n ≤ 1000000) : Calls Tryz.prog 33 #[.string ⟨#[c]⟩, .int .i64 (n : Int)] w fun e w' => e = .returned (.string (strB (List.replicate n c.toNat))) ∧ Below w.heap.size w w' := by
  refine (Tryz.strings_Repeat ⟨#[c]⟩ n w (by omega) (by show 1 * n ≤ _; omega)).mono fun e w' ⟨he, hb⟩ => ⟨?_, hb⟩
  rw [he, strB_eq]
  congr 3
  have : ∀ n, Lib.repeatL [c] n = List.replicate n c := by
    intro n
    induction n with
    | zero => rfl
    | succ n ih => rw [Lib.repeatL, ih]; rfl
  show (Lib.repeatL [c] n).toArray = _
  rw [this, List.map_replicate]
  simp

def cellSet : List Nat := [48, 49, 63]
def cellsOK (l : List Nat) : Bool := allIn cellSet l
def chkE (l : List Nat) : Int := if cellsOK l then 0 else 3
set_option maxHeartbeats 400000 in
theorem ccheck_any (w : World) (s : ByteArray) (hs : s.size ≤ 1000000) : Calls Tryz.prog 35 #[.string s] w fun e w' => e = .returned (.int .i64 (chkE (bs s))) ∧ Below w.heap.size w w' := by
  have Ht := Lib.hid (trim_any w s ⟨#[48, 49, 63]⟩ hs (by decide) (by decide))
  cases h : cellsOK (bs s) with
  | true =>
    have He : Hid (chkE (bs s) = 0) := Lib.hid (by unfold chkE; rw [h]; rfl)
    have Hh := Lib.hid h
    clear h
    go_enter Tryz.func35, Tryz.ntmps35
    go_wp2_with fail
    refine Ht.out.mono ?_
    rintro e w1 ⟨t, rfl, ht, hb⟩
    have ht1 : t.toList.isEmpty = true := ht.trans Hh.out
    have ht2 : (!t.toList.isEmpty) = false := by rw [ht1]; rfl
    have Hb := Lib.hid hb
    clear ht hb
    go_wp2
    go_ret
    exact ⟨ret_num (by rw [He.out]), Hb.out⟩
  | false =>
    have He : Hid (chkE (bs s) = 3) := Lib.hid (by unfold chkE; rw [h]; rfl)
    have Hh := Lib.hid h
    clear h
    go_enter Tryz.func35, Tryz.ntmps35
    go_wp2_with fail
    refine Ht.out.mono ?_
    rintro e w1 ⟨t, rfl, ht, hb⟩
    have ht1 : t.toList.isEmpty = false := ht.trans Hh.out
    have ht2 : (!t.toList.isEmpty) = true := by rw [ht1]; rfl
    have Hb := Lib.hid hb
    clear ht hb
    go_wp2
    go_ret
    exact ⟨ret_num (by rw [He.out]), Hb.out⟩
set_option maxHeartbeats 400000 in
theorem cunr_any (w : World) (s : ByteArray) : Calls Tryz.prog 36 #[.string s] w fun e w' => e = .returned (.int .i64 ((bs s).count 63 : Nat)) ∧ w = w' := by
  have Ht := Lib.hid (count_any w s 63)
  go_enter Tryz.func36, Tryz.ntmps36
  go_wp2_with (go_at_call 76; refine Ht.out.mono ?_; rintro e w' ⟨rfl, rfl⟩)
  go_ret
  exact ⟨rfl, rfl⟩

end Go.Proofs.YtjennpcadjdnlaaGreatDoor

namespace Go.Proofs.YtjennpcadjdnlaaGreatDoor
open Go.RowKit

abbrev Bld (w : World) (B b : Nat) (l : List Nat) : Prop := Lib.IsBuilderF 94 5 B b (l.map u8V) w
theorem Bld.new (w : World) : Bld (w.alloc (.cells #[.pointer none, .slice none 0 0] 94)) w.heap.size w.heap.size [] := Lib.IsBuilderF.of (Lib.fresh_isBuilder 94 5 w)
theorem wb_any (w : World) (B b : Nat) (l : List Nat) (c : Nat) (h : Bld w B b l) (hl : l.length ≤ 1000000) (hB : B ≤ w.heap.size) :
    Calls Tryz.prog 85 #[.pointer (some ⟨b, 0, none⟩), .int .u8 (c : Int)] w fun e w' => e = .returned .nilIface ∧ Bld w' B b (l ++ [c]) ∧ Below B w w' := by
  refine (Tryz.Builder_WriteByte_k B b _ (c : Int) w h (by rw [List.length_map]; omega) hB).mono fun e w' ⟨he, h1, hb, _⟩ => ⟨he, ?_, hb⟩
  have := Or.inr (a := Lib.BuilderAtF 94 5 B b (.pointer none) (l.map u8V ++ [.int .u8 (c : Int)]) w') h1
  show Lib.IsBuilderF _ _ _ _ ((l ++ [c]).map u8V) _
  rw [List.map_append]
  exact this
theorem ws_any (w : World) (B b : Nat) (l : List Nat) (s : ByteArray) (h : Bld w B b l) (hl : l.length ≤ 1000000) (hs : s.size ≤ 1000000) (hB : B ≤ w.heap.size) :
    Calls Tryz.prog 60 #[.pointer (some ⟨b, 0, none⟩), .string s] w fun e w' => e = .returned (.tuple #[.int .i64 s.size, .nilIface]) ∧ Bld w' B b (l ++ bs s) ∧ Below B w w' := by
  refine (Tryz.Builder_WriteString_k B b _ s w h (by rw [List.length_map]; omega) hB).mono fun e w' ⟨he, h1, hb, _⟩ => ⟨he, ?_, hb⟩
  have := Or.inr (a := Lib.BuilderAtF 94 5 B b (.pointer none) (l.map u8V ++ Lib.strCells s) w') h1
  have e1 : (l ++ bs s).map u8V = l.map u8V ++ Lib.strCells s := by
    rw [List.map_append]
    unfold Lib.strCells bs
    rw [List.map_map]
    rfl
  show Lib.IsBuilderF _ _ _ _ _ _
  rw [e1]
  exact this
theorem str_any (w : World) (B b : Nat) (l : List Nat) (hl : Bytes l) (h : Bld w B b l) (hB : B ≤ w.heap.size) :
    Calls Tryz.prog 61 #[.pointer (some ⟨b, 0, none⟩)] w fun e w' => e = .returned (.string (strB l)) ∧ Bld w' B b l ∧ Below B w w' := by
  have e1 : Lib.byteCells (l.map UInt8.ofNat) = l.map u8V := by
    unfold Lib.byteCells
    rw [List.map_map]
    refine List.map_congr_left fun x hx => ?_
    have := hl x hx
    simp [Nat.mod_eq_of_lt this]
  refine (Tryz.Builder_String_any_k B b (l.map UInt8.ofNat) w (by rw [e1]; exact h) hB).mono fun e w' ⟨he, h1, hb, _⟩ => ⟨he, ?_, hb⟩
  rw [e1] at h1
  exact h1

/-- The first k characters as a number. -/
def pk (l : List Nat) : Nat → Nat
  | 0 => 0
  | k + 1 => 2 * pk l k + (if cf l k = 49 then 1 else 0)
theorem pk_lt (l : List Nat) : ∀ k, pk l k < 2 ^ k
  | 0 => by unfold pk; omega
  | k + 1 => by
    have := pk_lt l k
    unfold pk
    rw [Nat.pow_succ]
    split <;> omega
theorem pk_congr {l r : List Nat} : ∀ k, (∀ j, j < k → cf l j = cf r j) → pk l k = pk r k
  | 0, _ => rfl
  | k + 1, h => by
    unfold pk
    rw [pk_congr k fun j hj => h j (by omega), h k (by omega)]
def byteOf (l : List Nat) (i : Nat) : Nat := pk (l.drop (8 * i)) 8
def toB (l : List Nat) : List Nat := (List.range (l.length / 8)).map (byteOf l)
theorem bsc (s : ByteArray) (k : Nat) (h : k < s.size) : cf (bs s) k = (s[k]'h).toNat := cf_get (bs_get s k h)
abbrev B01 (l : List Nat) : Prop := ∀ c ∈ l, c = 48 ∨ c = 49
theorem u8_or1 {a : Nat} (h : a < 128) : bits .or .u8 ((2 * a : Nat) : Int) 1 = ((2 * a + 1 : Nat) : Int) := by
  have : allB 128 (fun a => bits .or .u8 ((2 * a : Nat) : Int) 1 == ((2 * a + 1 : Nat) : Int)) = true := by decide +kernel
  simpa using allB_out this a h
theorem cells_01 {l : List Nat} (h : B01 l) : cellsOK l = true := by
  unfold cellsOK allIn cellSet
  rw [List.all_eq_true]
  intro b hb
  rcases h b hb with rfl | rfl <;> rfl

set_option maxHeartbeats 2000000 in
theorem cto_any (w : World) (s : ByteArray) (hs : s.size ≤ 100000) (h8 : s.size % 8 = 0) (h01 : B01 (bs s)) : Calls Tryz.prog 40 #[.string s] w fun e w' => e = .returned (.tuple #[.string (strB (toB (bs s))), .slice none 0 0, .int .i64 0]) ∧ Below w.heap.size w w' := by
  have hck := ccheck_any w s (by omega)
  have e0 : chkE (bs s) = 0 := by unfold chkE; rw [cells_01 h01]; rfl
  rw [e0] at hck
  have Hck := Lib.hid hck
  obtain ⟨n, hn⟩ : ∃ n, s.size = 8 * n := ⟨s.size / 8, by omega⟩
  have hI8 : ((s.size : Int) % 8 != 0) = false := by rw [bne_eq_false_iff_eq]; omega
  have hd : (s.size : Int) / 8 = n := by omega
  have Hn := Lib.hid hn
  have H01 := Lib.hid h01
  have H8 := Lib.hid h8
  have hn1 : n ≤ 20000 := by omega
  have hn2 : 8 * n ≤ s.size := by omega
  clear hck e0 hn h8 h01
  go_enter Tryz.func40, Tryz.ntmps40
  go_wp2_with fail
  refine Hck.out.mono ?_
  rintro e w1 ⟨rfl, hb⟩
  have Hb := Lib.hid hb
  clear hb Hck
  go_wp2
  go_loopw [7, 24] (fun op x wr => ∃ i : Nat, i ≤ n ∧ x = .int .i64 i ∧ op = .slice none 0 0 ∧ Bld wr w1.heap.size w1.heap.size ((List.range i).map (byteOf (bs s))) ∧ Below w1.heap.size w1 wr) (fun _ x _ => n - (intOf x).toNat)
  case atStart => exact ⟨0, by omega, rfl, rfl, Bld.new w1, (Below.refl _ _).alloc (Nat.le_refl _) _⟩
  case round =>
    obtain ⟨i, hi, rfl, rfl, hbl, hB⟩ := hrel
    have Hbl := Lib.hid hbl
    have HBr := Lib.hid hB
    clear hbl hB
    by_cases h : i < n
    · have hiI : (i : Int) < n := by omega
      have hix : i * 8 + 8 ≤ s.size := by omega
      obtain ⟨t, ht⟩ : ∃ t, s.extract (i * 8) ((i + 1) * 8) = t := ⟨_, rfl⟩
      have htb : bs t = ((bs s).take ((i + 1) * 8)).drop (i * 8) := by rw [← ht, bs_extract]
      have hts : t.size = 8 := by rw [← bs_len, htb, List.length_drop, List.length_take, bs_len]; omega
      have htc : ∀ k, k < 8 → cf (bs t) k = cf ((bs s).drop (8 * i)) k := by
        intro k hk
        rw [htb]
        unfold cf
        rw [List.getElem?_drop, List.getElem?_drop, List.getElem?_take, if_pos (by omega), Nat.mul_comm]
      have hpk : pk (bs t) 8 = byteOf (bs s) i := pk_congr 8 htc
      have ht01 : B01 (bs t) := fun c hc => by
        rw [htb] at hc
        exact H01.out c (List.mem_of_mem_take (List.mem_of_mem_drop hc))
      have hcon : (bs t).contains 63 = false := by
        rw [← Bool.not_eq_true, List.contains_iff_mem]
        intro hm
        rcases ht01 63 hm with h | h <;> cases h
      have Hts := Lib.hid hts
      have Hpk := Lib.hid hpk
      have Hcon := Lib.hid hcon
      have Ht := Lib.hid ht
      have ht8 : 8 ≤ t.size := by omega
      have ht9 : t.size ≤ 8 := by omega
      clear htb hts htc hpk hcon ht ht01
      go_wp2
      rw [Ht.out]
      go_loop [10, 34] (fun b x => ∃ k : Nat, k ≤ 8 ∧ x = .int .i64 k ∧ b = .int .u8 (pk (bs t) k : Nat)) (fun _ x => 8 - (intOf x).toNat)
      case atStart => exact ⟨0, by omega, rfl, rfl⟩
      case round =>
        obtain ⟨k, hk, rfl, rfl⟩ := hrel
        by_cases h' : k < 8
        · have hkI : (k : Int) < 8 := by omega
          have hkt : k < t.size := by omega
          have hkT : (k : Int) < t.size := by omega
          have hp1 := pk_lt (bs t) k
          have hp2 : 2 ^ k ≤ 2 ^ 7 := Nat.pow_le_pow_right (by omega) (by omega)
          have hp3 : pk (bs t) k < 128 := by omega
          have hst : pk (bs t) (k + 1) = 2 * pk (bs t) k + (if (t[k]'hkt).toNat = 49 then 1 else 0) := by
            rw [← bsc t k hkt]
            rfl
          have Hst := Lib.hid hst
          have hor := u8_or1 hp3
          clear hst hp1 hp2
          generalize pk (bs t) k = a at *
          by_cases h49 : (t[k]'hkt).toNat = 49
          · have hI : ((((t[k]'hkt).toNat : Nat) : Int) == 49) = true := by rw [beq_iff_eq]; omega
            have H49 := Lib.hid h49
            have Hor : Hid (bits .or .u8 ((a : Int) * 2) 1 = ((2 * a + 1 : Nat) : Int)) := Lib.hid (by
              rw [← hor]
              congr 1
              omega)
            clear h49 hor
            go_wp2
            go_round
            case rel => exact ⟨k + 1, by omega, by go_num, by rw [Hst.out, if_pos H49.out]; exact congrArg (Value.int .u8) Hor.out⟩
            case measure => simp [intOf]; omega
          · have hI : ((((t[k]'hkt).toNat : Nat) : Int) == 49) = false := by rw [beq_eq_false_iff_ne]; omega
            have H49 := Lib.hid h49
            clear h49 hor
            go_wp2
            go_round
            case rel => exact ⟨k + 1, by omega, by go_num, by rw [Hst.out, if_neg H49.out]; exact congrArg (Value.int .u8) (by omega)⟩
            case measure => simp [intOf]; omega
        · have hk8 : k = 8 := by omega
          subst hk8
          rw [Hpk.out]
          have hsn : (List.range i).map (byteOf (bs s)) ++ [byteOf (bs s) i] = (List.range (i + 1)).map (byteOf (bs s)) := by rw [List.range_succ, List.map_append]; rfl
          have Hsn := Lib.hid hsn
          have Hwb := Lib.hid (wb_any wr w1.heap.size w1.heap.size _ (byteOf (bs s) i) Hbl.out (by simp; omega) HBr.out.size)
          clear hsn
          generalize byteOf (bs s) i = B at *
          go_wp2_with fail
          refine Hwb.out.mono ?_
          rintro e w2 ⟨rfl, hbl, hb⟩
          have Hbl2 := Lib.hid hbl
          have HB2 := Lib.hid (HBr.out.trans hb)
          clear hbl hb Hwb Hbl HBr
          go_wp2_with fail
          refine (contains_any _ t 63).mono ?_
          rintro e w' ⟨rfl, rfl⟩
          rw [show (63 : UInt8).toNat = 63 from rfl, Hcon.out]
          go_wp2
          go_roundw
          case rel => exact ⟨i + 1, by omega, by go_num, rfl, by rw [← Hsn.out]; exact Hbl2.out, HB2.out⟩
          case measure => simp [intOf]; omega
    · have hin : i = n := by omega
      subst hin
      have hby : Bytes ((List.range i).map (byteOf (bs s))) := bytes_map fun j _ => by
        have := pk_lt ((bs s).drop (8 * j)) 8
        unfold byteOf
        omega
      have e : (List.range i).map (byteOf (bs s)) = toB (bs s) := by
        unfold toB
        rw [bs_len, Hn.out, Nat.mul_div_cancel_left _ (by omega)]
      rw [e] at hby
      have hbl := Hbl.out
      rw [e] at hbl
      have Hs := Lib.hid (str_any wr w1.heap.size w1.heap.size _ hby hbl HBr.out.size)
      clear hby e hbl
      go_wp2_with fail
      refine Hs.out.mono ?_
      rintro e w2 ⟨rfl, hbl, hb⟩
      have HB2 := Lib.hid (HBr.out.trans hb)
      clear hbl hb Hs Hbl HBr
      go_wp2
      go_ret3
      exact ⟨rfl, Hb.out.trans (HB2.out.mono Hb.out.size)⟩

end Go.Proofs.YtjennpcadjdnlaaGreatDoor
