/-
  Joined: StrW.
-/
import Derived.Test.YtbccghbngaiceaaGreatDoorMMn01
import Derived.StillTailTactics
set_option linter.all false
set_option maxRecDepth 100000
set_option maxHeartbeats 64000000
namespace Go.Proofs.YtbccghbngaiceaaGreatDoor
section
open Go.RowKit
theorem strB_eq (l : List Nat) : strB l = ⟨(l.map UInt8.ofNat).toArray⟩ := rfl
theorem mem_bs {s : ByteArray} {b : Nat} : b ∈ bs s ↔ ∃ c ∈ s.data.toList, c.toNat = b := by unfold bs; rw [List.mem_map]
theorem trimS_nil (l cs : List UInt8) : Lib.trimS l cs = [] ↔ ∀ b ∈ l, b ∈ cs := by
 have hdw : ∀ (p : UInt8 → Bool) (l : List UInt8), l.dropWhile p = [] ↔ ∀ b ∈ l, p b = true := by
  intro p l
  induction l with
  | nil => simp
  | cons a l ih =>
   by_cases h : p a = true
   ·rw [List.dropWhile_cons_of_pos h, ih]
    simp [h]
   ·rw [List.dropWhile_cons_of_neg h]
    simp [h]
 constructor
 ·intro h b hb
  unfold Lib.trimS Lib.trimLeftS at h
  have h1 := (hdw _ _).1 h
  unfold Lib.trimRightS at h1
  by_cases h2 : (l.reverse.dropWhile (cs.contains ·)) = []
  ·have h3 := (hdw _ _).1 h2 b (by simpa using hb)
   simpa using h3
  ·exfalso
   cases h4 : l.reverse.dropWhile (cs.contains ·) with
   | nil => exact h2 h4
   | cons a r =>
    have h5 := List.head?_dropWhile_not (cs.contains ·) l.reverse
    rw [h4] at h5
    have h6 := h1 a (by rw [h4]; simp)
    simp only [List.head?_cons] at h5
    rw [h6] at h5
    cases h5
 ·intro h
  have h2 : l.reverse.dropWhile (cs.contains ·) = [] := (hdw _ _).2 fun b hb => by
   have := h b (by simpa using hb)
   simpa using this
  unfold Lib.trimS Lib.trimRightS
  rw [h2]
  rfl
def allIn (cut : List Nat) (l : List Nat) : Bool := l.all fun b => cut.contains b
theorem trim_any (w : World) (s cut : ByteArray) (hs : s.size ≤ 1000000) (hc : cut.size < 1000000) (ha : cut.data.toList.all (fun b => decide (b.toNat < 128)) = true) :
  Calls Tryz.prog 195 #[.string s, .string cut] w fun e w' => ∃ t, e = .returned (.string t) ∧ t.toList.isEmpty = allIn (bs cut) (bs s) ∧ Below w.heap.size w w' := by
 refine (Tryz.strings_Trim_laid s cut w (by omega) (by omega) (ascii_of_all ha)).mono fun e w' ⟨he, hb⟩ => ⟨_, he, ?_, hb⟩
 have h1 : ((⟨(Lib.trimS s.data.toList cut.data.toList).toArray⟩ : ByteArray).toList.isEmpty = true) ↔ Lib.trimS s.data.toList cut.data.toList = [] := by
  rw [Lib.toList_data, List.isEmpty_iff]
 rw [Bool.eq_iff_iff, h1, trimS_nil]
 unfold allIn
 rw [List.all_eq_true]
 constructor
 ·intro h b hb
  obtain ⟨c, hc, rfl⟩ := mem_bs.1 hb
  rw [List.contains_iff_mem]
  exact mem_bs.2 ⟨c, h c hc, rfl⟩
 ·intro h b hb
  have := h b.toNat (mem_bs.2 ⟨b, hb, rfl⟩)
  rw [List.contains_iff_mem] at this
  obtain ⟨c, hc, e⟩ := mem_bs.1 this
  rwa [UInt8.toNat_inj.1 e] at hc
theorem repeat_any (w : World) (c : UInt8) (n : Nat) (hn : n ≤ 1000000) : Calls Tryz.prog 79 #[.string ⟨#[c]⟩, .int .i64 (n : Int)] w fun e w' => e = .returned (.string (strB (List.replicate n c.toNat))) ∧ Below w.heap.size w w' := by
 refine (Tryz.strings_Repeat ⟨#[c]⟩ n w (by omega) (by show 1 * n ≤ _; omega)).mono fun e w' ⟨he, hb⟩ => ⟨?_, hb⟩
 rw [he, strB_eq]
 congr 3
 have : ∀ n, Lib.repeatL [c] n = List.replicate n c := by
  intro n
  induction n with
  | zero => rfl
  | succ n ih => rw [Lib.repeatL, ih]; rfl
 show (Lib.repeatL [c] n).toArray = _
 rw [this, List.map_replicate]
 simp
abbrev Bld (w : World) (B b : Nat) (l : List Nat) : Prop := Lib.IsBuilderF 112 5 B b (l.map u8V) w
theorem Bld.new (w : World) : Bld (w.alloc (.cells #[.pointer none, .slice none 0 0] 112)) w.heap.size w.heap.size [] := Lib.IsBuilderF.of (Lib.fresh_isBuilder 112 5 w)
theorem str_any (w : World) (B b : Nat) (l : List Nat) (hl : Bytes l) (h : Bld w B b l) (hB : B ≤ w.heap.size) :
  Calls Tryz.prog 52 #[.pointer (some ⟨b, 0, none⟩)] w fun e w' => e = .returned (.string (strB l)) ∧ Bld w' B b l ∧ Below B w w' := by
 have e1 : Lib.byteCells (l.map UInt8.ofNat) = l.map u8V := by
  unfold Lib.byteCells
  rw [List.map_map]
  refine List.map_congr_left fun x hx => ?_
  have := hl x hx
  simp [Nat.mod_eq_of_lt this]
 refine (Tryz.Builder_String_any_k B b (l.map UInt8.ofNat) w (by rw [e1]; exact h) hB).mono fun e w' ⟨he, h1, hb, _⟩ => ⟨he, ?_, hb⟩
 rw [e1] at h1
 exact h1
def pk (l : List Nat) : Nat → Nat
 | 0 => 0
 | k + 1 => 2 * pk l k + (if cf l k = 49 then 1 else 0)
theorem bsc (s : ByteArray) (k : Nat) (h : k < s.size) : cf (bs s) k = (s[k]'h).toNat := cf_get (bs_get s k h)
theorem strB_cat (l r : List Nat) : strB l ++ strB r = strB (l ++ r) := by
 unfold strB
 apply ByteArray.ext
 simp
end
end Go.Proofs.YtbccghbngaiceaaGreatDoor
