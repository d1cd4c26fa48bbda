/-
  WALKS: frame.value, frame.number.
-/
import Derived.Test.YtjennpcadjdnlaaGreatDoorCrcA
import Derived.Test.YtjennpcadjdnlaaGreatDoorVitE
namespace Go.Proofs.YtjennpcadjdnlaaGreatDoor
open Go.RowKit

/-- The number whose bytes stand in l, the most significant one first. -/
def valL (l : List Nat) : Nat := l.foldl (fun n c => n * 256 + c) 0
theorem valL_snoc (l : List Nat) (c : Nat) : valL (l ++ [c]) = valL l * 256 + c := by simp [valL]

theorem u32_or {a c : Nat} (ha : a < 16777216) (hc : c < 256) : bits .or .u32 ((a * 256 : Nat) : Int) (c : Int) = ((a * 256 + c : Nat) : Int) := by
  have ha' : (a * 256) % 2 ^ IntKind.u32.bits = a * 256 := Nat.mod_eq_of_lt (by show a * 256 < 4294967296; omega)
  have hc' : c % 2 ^ IntKind.u32.bits = c := Nat.mod_eq_of_lt (by show c < 4294967296; omega)
  have ho : a * 256 ||| c = a * 256 + c := by
    have h := Nat.shiftLeft_add_eq_or_of_lt (i := 8) (b := c) (by omega) a
    rw [Nat.shiftLeft_eq] at h
    exact h.symm
  simp only [bits, BitVec.ofInt_natCast, BitVec.toNat_or, BitVec.toNat_ofNat, ha', hc', ho]
  rw [IntKind.wrap_u32]
  omega
theorem valL_lt : ∀ (l : List Nat), Bytes l → valL l < 256 ^ l.length := by
  intro l
  induction l using snoc_ind with
  | h0 => intro _; exact Nat.lt_of_lt_of_le (by decide : valL [] < 1) (by simp)
  | h1 l c ih =>
    intro hb
    have h1 := ih (fun x hx => hb x (List.mem_append_left _ hx))
    have h2 := hb c (by simp)
    rw [valL_snoc, List.length_append, List.length_singleton, Nat.pow_succ]
    omega

set_option maxRecDepth 100000 in
set_option maxHeartbeats 8000000 in
theorem fvalue_any (w : World) (s : ByteArray) (hs : s.size ≤ 4) : Calls Tryz.prog 102 #[.string s] w fun e w' => e = .returned (.int .u32 (valL (bs s))) ∧ w = w' := by
  go_enter Tryz.func102, Tryz.ntmps102
  go_wp2
  go_loopw [3, 7] (fun v c wr => ∃ k : Nat, k ≤ s.size ∧ v = .int .u32 (valL ((bs s).take k) : Nat) ∧ c = .int .i64 (k : Int) ∧ w = wr) (fun _ c _ => s.size - (intOf c).toNat)
  case atStart => exact ⟨0, by omega, rfl, rfl, rfl⟩
  case round =>
    obtain ⟨k, hk, rfl, rfl, rfl⟩ := hrel
    by_cases h : k < s.size
    · have hkI : (k : Int) < s.size := by omega
      have hkl : k < (bs s).length := by rw [bs_len]; exact h
      have htk : (bs s).take (k + 1) = (bs s).take k ++ [(s[k]'h).toNat] := by
        rw [List.take_succ_eq_append_getElem hkl]
        have := bs_get s k h
        rw [List.getElem?_eq_getElem hkl] at this
        rw [Option.some.inj this]
      have hlt := valL_lt ((bs s).take k) (fun x hx => bs_lt s x (List.mem_of_mem_take hx))
      rw [List.length_take, bs_len, Nat.min_eq_left hk] at hlt
      have hlt2 : valL ((bs s).take k) < 16777216 := Nat.lt_of_lt_of_le hlt (by
        rcases (by omega : k = 0 ∨ k = 1 ∨ k = 2 ∨ k = 3) with rfl | rfl | rfl | rfl <;> decide)
      have hc : (s[k]'h).toNat < 256 := UInt8.toNat_lt _
      have hv : bits .or .u32 ((valL ((bs s).take k) : Int) * 256 % 4294967296) (((s[k]'h).toNat : Int) % 4294967296) = ((valL ((bs s).take (k + 1)) : Nat) : Int) := by
        rw [htk, valL_snoc, ← u32_or hlt2 hc]
        congr 1 <;> omega
      have Hv := Lib.hid hv
      clear hlt hlt2 hc hv htk hkl
      go_wp2
      go_roundw
      case rel => exact ⟨k + 1, by omega, by rw [Hv.out], by go_num, trivial⟩
      case measure => simp [intOf]; omega
    · have hn : k = s.size := by omega
      subst hn
      rw [List.take_of_length_le (by rw [bs_len]; exact Nat.le_refl _)]
      go_wp2
      go_ret
      exact ⟨rfl, rfl⟩

/-- The last k bytes of n, the most significant one first. -/
def numL (n : Nat) : Nat → List Nat
  | 0 => []
  | k + 1 => n / 256 ^ k % 256 :: numL n k
theorem numL_len (n : Nat) : ∀ k, (numL n k).length = k
  | 0 => rfl
  | k + 1 => by rw [numL, List.length_cons, numL_len n k]
theorem numL_bytes (n : Nat) : ∀ k, Bytes (numL n k)
  | 0 => fun _ h => (by cases h)
  | k + 1 => fun x hx => by
    rw [numL] at hx
    rcases List.mem_cons.1 hx with rfl | hx
    · exact Nat.mod_lt _ (by decide)
    · exact numL_bytes n k x hx
def numK (n m k : Nat) : List Nat := List.replicate (m - k) 0 ++ numL n k
theorem numK_len {n m k : Nat} (h : k ≤ m) : (numK n m k).length = m := by
  unfold numK
  rw [List.length_append, List.length_replicate, numL_len]
  omega
theorem numK_set {n m k : Nat} (h : k < m) : (numK n m k).set (m - 1 - k) (n / 256 ^ k % 256) = numK n m (k + 1) := by
  unfold numK
  rw [numL, show m - k = (m - (k + 1)) + 1 by omega, List.replicate_succ', List.append_assoc, List.set_append_right _ _ (by rw [List.length_replicate]; omega), List.length_replicate, show m - 1 - k - (m - (k + 1)) = 0 by omega]
  rfl
theorem numK_get {n m k : Nat} (h : k < m) : (numK n m k)[m - 1 - k]? = some 0 := by
  unfold numK
  rw [List.getElem?_append_left (by rw [List.length_replicate]; omega), List.getElem?_replicate, if_pos (by omega)]

set_option maxRecDepth 100000 in
set_option maxHeartbeats 8000000 in
theorem fnumber_any (w : World) (n m : Nat) (_hn : n < 4294967296) (hm : m ≤ 8) : Calls Tryz.prog 68 #[.int .u32 (n : Int), .int .i64 (m : Int)] w fun e w' => e = .returned (.string (strB (numL n m))) ∧ Below w.heap.size w w' := by
  have hmk := make_u8 m m (Nat.le_refl _) (by omega)
  have hmJ : (m : Int) ≤ 8 := by omega
  go_enter Tryz.func68, Tryz.ntmps68
  go_wp2
  go_loopw [0, 11] (fun v c wr => ∃ k : Nat, k ≤ m ∧ v = .int .u32 ((n / 256 ^ k : Nat) : Int) ∧ c = .int .i64 (k : Int) ∧ U8B wr w.heap.size (numK n m k) ∧ Below w.heap.size w wr) (fun _ c _ => m - (intOf c).toNat)
  case atStart => exact ⟨0, by omega, by simp, rfl, by have := U8B.new w (List.replicate m 0); unfold numK numL; simpa using this, (Below.refl _ _).alloc (Nat.le_refl _) _⟩
  case round =>
    obtain ⟨k, hk, rfl, rfl, hb, hB⟩ := hrel
    have Hb := Lib.hid hb
    have HB := Lib.hid hB
    by_cases h : k < m
    · have hkI : (k : Int) < m := by omega
      have hc := hb.cell (numK_get (n := n) h)
      have hf := hb.frozen (m - 1 - k)
      have hi : ((m : Int) - 1 - k).toNat = m - 1 - k := by omega
      have hw : IntKind.i64.wrap ((m : Int) - 1 - k) = m - 1 - k := by rw [IntKind.wrap_i64]; omega
      have hw1 : IntKind.i64.wrap ((m : Int) - 1) = m - 1 := by rw [IntKind.wrap_i64]; omega
      have h0 : (0 : Int) ≤ m - 1 - k := by omega
      have h2 : (m : Int) - 1 - k < m := by omega
      have HS := Lib.hid (hb.set (m - 1 - k) (n / 256 ^ k % 256))
      have Hset := Lib.hid (numK_set (n := n) h)
      clear hb hB
      go_wp2
      go_roundw
      case rel =>
        have e1 : ((n : Int) / 256 ^ k / 256) = ((n / 256 ^ (k + 1) : Nat) : Int) := by rw [Nat.pow_succ, ← Nat.div_div_eq_div_mul]; push_cast; rfl
        have e2 : ((n : Int) / 256 ^ k % 256) = ((n / 256 ^ k % 256 : Nat) : Int) := by push_cast; rfl
        rw [e1, e2]
        exact ⟨k + 1, by omega, rfl, by go_num, by rw [← Hset.out]; exact HS.out, HB.out.setCell (p := ⟨w.heap.size, m - 1 - k, none⟩) (Nat.le_refl _) _⟩
      case measure => simp [intOf]; omega
    · have hkm : k = m := by omega
      subst hkm
      have hcs := run_toStr (hb.bytes (n := k) (c := k) (numK_len (Nat.le_refl _)).symm (Nat.le_refl _) (by omega)) (numK_len (Nat.le_refl _)).symm
      have e : numK n k k = numL n k := by unfold numK; simp
      rw [e] at hcs
      clear hb hB
      go_wp2
      go_ret
      exact ⟨rfl, HB.out⟩

end Go.Proofs.YtjennpcadjdnlaaGreatDoor
