/-
  WALKS: crc32's register step, on both sides.
  WALKS: crc32's Update, on both sides.
  WALKS: crc32's Sum, on both sides.
  WALKS: crc32's Bytes, on both sides.
  WALKS: frame.within, the marks of both sides.
  WALKS: strings.trimLeftByte, trimRightByte.
  WALKS: strings' asciiSet: contains, trimLeftASCII, trimRightASCII.
-/
import Derived.Test.YtjennpcadjdnlaaGreatDoorGfW
import Derived.Laws.BytesArg
namespace Go.Proofs.YtjennpcadjdnlaaGreatDoor
open Go.RowKit

theorem u32_xor {a b : Nat} (ha : a < 4294967296) (hb : b < 4294967296) : bits .xor .u32 (a : Int) (b : Int) = ((a ^^^ b : Nat) : Int) := by
  have ha' : a % 2 ^ IntKind.u32.bits = a := Nat.mod_eq_of_lt ha
  have hb' : b % 2 ^ IntKind.u32.bits = b := Nat.mod_eq_of_lt hb
  simp only [bits, BitVec.ofInt_natCast, BitVec.toNat_xor, BitVec.toNat_ofNat, ha', hb']
  have := Nat.xor_lt_two_pow (n := 32) ha hb
  rw [IntKind.wrap_u32]
  omega
/-- The register times x. -/
def cdbl (a : Nat) : Nat := if 2147483648 ≤ a then (2 * a) % 4294967296 ^^^ 79764919 else 2 * a
theorem cdbl_lt {a : Nat} (ha : a < 4294967296) : cdbl a < 4294967296 := by
  unfold cdbl
  split
  · exact Nat.xor_lt_two_pow (n := 32) (Nat.mod_lt _ (by omega)) (by omega)
  · omega
theorem cdbl_hi {a : Nat} (h : 2147483648 ≤ a) : bits .xor .u32 ((a : Int) * 2 % 4294967296) 79764919 = ((cdbl a : Nat) : Int) := by
  unfold cdbl
  rw [if_pos h, ← u32_xor (by omega) (by omega), Nat.mul_comm]
  rfl
set_option maxHeartbeats 400000 in
theorem cdouble_any (w : World) (a : Nat) (ha : a < 4294967296) : Calls Tryz.prog 182 #[.int .u32 a] w fun e w' => e = .returned (.int .u32 (cdbl a : Nat)) ∧ w = w' := by
  by_cases h : 2147483648 ≤ a
  · have hq : ((a : Int) / 2147483648 == 1) = true := by rw [beq_iff_eq]; omega
    have H := Lib.hid (cdbl_hi h)
    go_enter Tryz.func182, Tryz.ntmps182
    go_wp2
    go_ret
    exact ⟨ret_num H.out, rfl⟩
  · have hq : ((a : Int) / 2147483648 == 1) = false := by rw [beq_eq_false_iff_ne]; omega
    have H := Lib.hid h
    go_enter Tryz.func182, Tryz.ntmps182
    go_wp2
    go_ret
    refine ⟨ret_num ?_, rfl⟩
    unfold cdbl
    rw [if_neg h]
    omega
set_option maxHeartbeats 400000 in
theorem rstep_any (w : World) (a : Nat) (ha : a < 4294967296) : Calls Tryz.prog 202 #[.int .u32 a] w fun e w' => e = .returned (.int .u32 (cdbl a : Nat)) ∧ w = w' := by
  by_cases h : 2147483648 ≤ a
  · have hI : (2147483648 : Int) ≤ a := by omega
    have H := Lib.hid (cdbl_hi h)
    go_enter Tryz.func202, Tryz.ntmps202
    go_wp2
    go_ret
    exact ⟨ret_num H.out, rfl⟩
  · have hI : ¬ (2147483648 : Int) ≤ a := by omega
    go_enter Tryz.func202, Tryz.ntmps202
    go_wp2
    go_ret
    refine ⟨ret_num ?_, rfl⟩
    unfold cdbl
    rw [if_neg h]
    omega

end Go.Proofs.YtjennpcadjdnlaaGreatDoor

namespace Go.Proofs.YtjennpcadjdnlaaGreatDoor
open Go.RowKit

def cdblN : Nat → Nat → Nat
  | 0, a => a
  | k + 1, a => cdbl (cdblN k a)
theorem cdblN_lt {a : Nat} (ha : a < 4294967296) : ∀ k, cdblN k a < 4294967296
  | 0 => ha
  | k + 1 => cdbl_lt (cdblN_lt ha k)
/-- The bytes of a string, as numbers. -/
def bs (s : ByteArray) : List Nat := s.data.toList.map (·.toNat)
theorem bs_len (s : ByteArray) : (bs s).length = s.size := by unfold bs; rw [List.length_map]; rfl
theorem bs_lt (s : ByteArray) : ∀ b ∈ bs s, b < 256 := by
  intro b hb
  obtain ⟨x, _, rfl⟩ := List.mem_map.1 hb
  exact UInt8.toNat_lt x
@[irreducible] def crcByte (c b : Nat) : Nat := cdblN 8 (c ^^^ (b * 16777216))
def crcL (c : Nat) (l : List Nat) : Nat := l.foldl crcByte c
theorem crcByte_lt {c b : Nat} (hc : c < 4294967296) (hb : b < 256) : crcByte c b < 4294967296 := by
  unfold crcByte
  exact cdblN_lt (Nat.xor_lt_two_pow (n := 32) hc (by omega)) 8
theorem crcL_lt (l : List Nat) : ∀ {c : Nat}, c < 4294967296 → (∀ b ∈ l, b < 256) → crcL c l < 4294967296 := by
  induction l with
  | nil => exact fun hc _ => hc
  | cons b l ih =>
    intro c hc h
    have := ih (crcByte_lt hc (h b List.mem_cons_self)) fun x hx => h x (List.mem_cons_of_mem _ hx)
    unfold crcL at this ⊢
    rw [List.foldl_cons]
    exact this
theorem crcL_snoc (c : Nat) (l : List Nat) (b : Nat) : crcL c (l ++ [b]) = crcByte (crcL c l) b := by
  unfold crcL
  rw [List.foldl_append]
  rfl
theorem bs_take (s : ByteArray) (k : Nat) (h : k < s.size) : (bs s).take (k + 1) = (bs s).take k ++ [(s[k]'h).toNat] := by
  have hl : k < s.data.toList.length := h
  unfold bs
  rw [List.take_add_one, List.getElem?_map, List.getElem?_eq_getElem hl]
  rfl

set_option maxHeartbeats 1000000 in
theorem cupdate_any (w : World) (c : Nat) (s : ByteArray) (hc : c < 4294967296) (hs : s.size ≤ 1000000) : Calls Tryz.prog 135 #[.int .u32 c, .string s] w fun e w' => e = .returned (.int .u32 (crcL c (bs s) : Nat)) ∧ w = w' := by
  go_enter Tryz.func135, Tryz.ntmps135
  go_wp2
  go_loop [0, 8] (fun r i => ∃ k : Nat, k ≤ s.size ∧ i = .int .i64 k ∧ r = .int .u32 (crcL c ((bs s).take k) : Nat)) (fun _ i => s.size - (intOf i).toNat)
  case atStart => exact ⟨0, by omega, rfl, rfl⟩
  case round =>
    obtain ⟨k, hk, rfl, rfl⟩ := hrel
    have hrl : crcL c ((bs s).take k) < 4294967296 := crcL_lt _ hc fun b hb => bs_lt s b (List.mem_of_mem_take hb)
    by_cases h : k < s.size
    · have hI : (k : Int) < s.size := by omega
      have hkb : k < (bs s).length := by rw [bs_len]; exact h
      obtain ⟨b, hb⟩ : ∃ b : Nat, b = (s[k]'h).toNat := ⟨_, rfl⟩
      have hbl : b < 256 := by rw [hb]; exact UInt8.toNat_lt _
      have htk := bs_take s k h
      rw [← hb] at htk
      have hx : bits .xor .u32 ((crcL c ((bs s).take k) : Nat) : Int) (((s[k]'h).toNat : Int) % 4294967296 * 16777216 % 4294967296) = ((crcL c ((bs s).take k) ^^^ b * 16777216 : Nat) : Int) := by
        rw [← u32_xor hrl (by omega), hb]
        congr 1
        rw [hb] at hbl
        omega
      have hst : crcL c ((bs s).take (k + 1)) = cdblN 8 (crcL c ((bs s).take k) ^^^ b * 16777216) := by
        rw [htk, crcL_snoc]
        unfold crcByte
        rfl
      have hxl : crcL c ((bs s).take k) ^^^ b * 16777216 < 4294967296 := Nat.xor_lt_two_pow (n := 32) hrl (by omega)
      have Hst := Lib.hid hst
      have Hx := Lib.hid hx
      clear hst htk hx hb
      generalize crcL c ((bs s).take k) ^^^ b * 16777216 = x at *
      go_wp2
      go_loop [0, 18] (fun r i => ∃ j : Nat, j ≤ 8 ∧ i = .int .i64 j ∧ r = .int .u32 (cdblN j x : Nat)) (fun _ i => 8 - (intOf i).toNat)
      case atStart => exact ⟨0, by omega, rfl, congrArg (Value.int .u32) Hx.out⟩
      case round =>
        obtain ⟨j, hj, rfl, rfl⟩ := hrel
        by_cases h8 : j < 8
        · have hI8 : (j : Int) < 8 := by omega
          have Hc := Lib.hid (cdouble_any w (cdblN j x) (cdblN_lt hxl j))
          go_wp2_with (go_at_call 182; refine Hc.out.mono ?_; rintro e w' ⟨rfl, rfl⟩)
          go_round
          case rel => exact ⟨j + 1, by omega, by go_num, rfl⟩
          case measure => simp [intOf]; omega
        · have hj8 : j = 8 := by omega
          subst hj8
          go_wp2
          go_round
          case rel => exact ⟨k + 1, by omega, by go_num, by rw [Hst.out]⟩
          case measure => simp [intOf]; omega
    · have hkn : k = s.size := by omega
      subst hkn
      have e : (bs s).take s.size = bs s := by rw [← bs_len, List.take_length]
      have He := Lib.hid e
      clear e
      go_wp2
      go_ret
      refine ⟨ret_num ?_, rfl⟩
      rw [He.out]

set_option maxHeartbeats 1000000 in
theorem rupdate_any (w : World) (c : Nat) (s : ByteArray) (hc : c < 4294967296) (hs : s.size ≤ 1000000) : Calls Tryz.prog 174 #[.int .u32 c, .string s] w fun e w' => e = .returned (.int .u32 (crcL c (bs s) : Nat)) ∧ w = w' := by
  go_enter Tryz.func174, Tryz.ntmps174
  go_wp2
  go_loop [0, 5] (fun r i => ∃ k : Nat, k ≤ s.size ∧ i = .int .i64 k ∧ r = .int .u32 (crcL c ((bs s).take k) : Nat)) (fun _ i => s.size - (intOf i).toNat)
  case atStart => exact ⟨0, by omega, rfl, rfl⟩
  case round =>
    obtain ⟨k, hk, rfl, rfl⟩ := hrel
    have hrl : crcL c ((bs s).take k) < 4294967296 := crcL_lt _ hc fun b hb => bs_lt s b (List.mem_of_mem_take hb)
    by_cases h : k < s.size
    · have hI : (k : Int) < s.size := by omega
      have hkb : k < (bs s).length := by rw [bs_len]; exact h
      obtain ⟨b, hb⟩ : ∃ b : Nat, b = (s[k]'h).toNat := ⟨_, rfl⟩
      have hbl : b < 256 := by rw [hb]; exact UInt8.toNat_lt _
      have htk := bs_take s k h
      rw [← hb] at htk
      have hx : bits .xor .u32 ((crcL c ((bs s).take k) : Nat) : Int) (((s[k]'h).toNat : Int) % 4294967296 * 16777216 % 4294967296) = ((crcL c ((bs s).take k) ^^^ b * 16777216 : Nat) : Int) := by
        rw [← u32_xor hrl (by omega), hb]
        congr 1
        rw [hb] at hbl
        omega
      have hst : crcL c ((bs s).take (k + 1)) = cdblN 8 (crcL c ((bs s).take k) ^^^ b * 16777216) := by
        rw [htk, crcL_snoc]
        unfold crcByte
        rfl
      have hxl : crcL c ((bs s).take k) ^^^ b * 16777216 < 4294967296 := Nat.xor_lt_two_pow (n := 32) hrl (by omega)
      have Hst := Lib.hid hst
      have Hx := Lib.hid hx
      clear hst htk hx hb
      generalize crcL c ((bs s).take k) ^^^ b * 16777216 = x at *
      go_wp2
      go_loop [0, 6] (fun r i => ∃ j : Nat, j ≤ 8 ∧ i = .int .i64 j ∧ r = .int .u32 (cdblN j x : Nat)) (fun _ i => 8 - (intOf i).toNat)
      case atStart => exact ⟨0, by omega, rfl, congrArg (Value.int .u32) Hx.out⟩
      case round =>
        obtain ⟨j, hj, rfl, rfl⟩ := hrel
        by_cases h8 : j < 8
        · have hI8 : (j : Int) < 8 := by omega
          have Hc := Lib.hid (rstep_any w (cdblN j x) (cdblN_lt hxl j))
          go_wp2_with (go_at_call 202; refine Hc.out.mono ?_; rintro e w' ⟨rfl, rfl⟩)
          go_round
          case rel => exact ⟨j + 1, by omega, by go_num, rfl⟩
          case measure => simp [intOf]; omega
        · have hj8 : j = 8 := by omega
          subst hj8
          go_wp2
          go_round
          case rel => exact ⟨k + 1, by omega, by go_num, by rw [Hst.out]⟩
          case measure => simp [intOf]; omega
    · have hkn : k = s.size := by omega
      subst hkn
      have e : (bs s).take s.size = bs s := by rw [← bs_len, List.take_length]
      have He := Lib.hid e
      clear e
      go_wp2
      go_ret
      refine ⟨ret_num ?_, rfl⟩
      rw [He.out]

end Go.Proofs.YtjennpcadjdnlaaGreatDoor

namespace Go.Proofs.YtjennpcadjdnlaaGreatDoor
open Go.RowKit

abbrev strV (s : ByteArray) : Value := .string s
abbrev StrsAt (w : World) (v : Value) (xs : List ByteArray) : Prop := SlAt (PlainR strV) w v xs
def sumL (l : List ByteArray) : Nat := l.foldl (fun c s => crcL c (bs s)) 4294967295
theorem sumL_snoc (l : List ByteArray) (s : ByteArray) : sumL (l ++ [s]) = crcL (sumL l) (bs s) := by
  unfold sumL
  rw [List.foldl_append]
  rfl
theorem foldS_lt (l : List ByteArray) : ∀ c, c < 4294967296 → l.foldl (fun c s => crcL c (bs s)) c < 4294967296 := by
  induction l with
  | nil => exact fun c h => h
  | cons s l ih => exact fun c h => ih _ (crcL_lt _ h (bs_lt s))
theorem sumL_lt (l : List ByteArray) : sumL l < 4294967296 := foldS_lt l _ (by omega)

set_option maxHeartbeats 1000000 in
theorem csum_any (w : World) (v : Value) (xs : List ByteArray) (hv : StrsAt w v xs) (hs : ∀ s ∈ xs, s.size ≤ 1000000) (hl : xs.length ≤ 1000000) : Calls Tryz.prog 70 #[v] w fun e w' => e = .returned (.int .u32 (sumL xs : Nat)) ∧ w = w' := by
  obtain ⟨A, d, rfl, h1, h2, h3⟩ := hv
  have H3 := Lib.hid h3
  clear h3
  go_enter Tryz.func70, Tryz.ntmps70
  go_wp2
  go_loop [3, 8] (fun r i => ∃ k : Nat, k ≤ xs.length ∧ i = .int .i64 k ∧ r = .int .u32 (sumL (xs.take k) : Nat)) (fun _ i => xs.length - (intOf i).toNat)
  case atStart => exact ⟨0, by omega, rfl, rfl⟩
  case round =>
    obtain ⟨k, hk, rfl, rfl⟩ := hrel
    by_cases h : k < xs.length
    · have hI : (k : Int) < xs.length := by omega
      obtain ⟨b, o, u, rfl, hck, rfl⟩ := H3.out k xs[k] (List.getElem?_eq_getElem h)
      have hst : sumL (xs.take (k + 1)) = crcL (sumL (xs.take k)) (bs xs[k]) := by
        rw [List.take_add_one, List.getElem?_eq_getElem h]
        exact sumL_snoc _ _
      have Hst := Lib.hid hst
      have Hc := Lib.hid (cupdate_any w (sumL (xs.take k)) xs[k] (sumL_lt _) (hs _ (List.getElem_mem h)))
      clear hst
      go_wp2_with (go_at_call 135; refine Hc.out.mono ?_; rintro e w' ⟨rfl, rfl⟩)
      go_round
      case rel => exact ⟨k + 1, by omega, by go_num, by rw [Hst.out]⟩
      case measure => simp [intOf]; omega
    · have hkn : k = xs.length := by omega
      subst hkn
      go_wp2
      go_ret
      exact ⟨rfl, rfl⟩

set_option maxHeartbeats 1000000 in
theorem rsum_any (w : World) (v : Value) (xs : List ByteArray) (hv : StrsAt w v xs) (hs : ∀ s ∈ xs, s.size ≤ 1000000) (hl : xs.length ≤ 1000000) : Calls Tryz.prog 116 #[v] w fun e w' => e = .returned (.int .u32 (sumL xs : Nat)) ∧ w = w' := by
  obtain ⟨A, d, rfl, h1, h2, h3⟩ := hv
  have H3 := Lib.hid h3
  clear h3
  go_enter Tryz.func116, Tryz.ntmps116
  go_wp2
  go_loop [3, 4] (fun r i => ∃ k : Nat, k ≤ xs.length ∧ i = .int .i64 k ∧ r = .int .u32 (sumL (xs.take k) : Nat)) (fun _ i => xs.length - (intOf i).toNat)
  case atStart => exact ⟨0, by omega, rfl, rfl⟩
  case round =>
    obtain ⟨k, hk, rfl, rfl⟩ := hrel
    by_cases h : k < xs.length
    · have hI : (k : Int) < xs.length := by omega
      obtain ⟨b, o, u, rfl, hck, rfl⟩ := H3.out k xs[k] (List.getElem?_eq_getElem h)
      have hst : sumL (xs.take (k + 1)) = crcL (sumL (xs.take k)) (bs xs[k]) := by
        rw [List.take_add_one, List.getElem?_eq_getElem h]
        exact sumL_snoc _ _
      have Hst := Lib.hid hst
      have Hc := Lib.hid (rupdate_any w (sumL (xs.take k)) xs[k] (sumL_lt _) (hs _ (List.getElem_mem h)))
      clear hst
      go_wp2_with (go_at_call 174; refine Hc.out.mono ?_; rintro e w' ⟨rfl, rfl⟩)
      go_round
      case rel => exact ⟨k + 1, by omega, by go_num, by rw [Hst.out]⟩
      case measure => simp [intOf]; omega
    · have hkn : k = xs.length := by omega
      subst hkn
      go_wp2
      go_ret
      exact ⟨rfl, rfl⟩

end Go.Proofs.YtjennpcadjdnlaaGreatDoor

namespace Go.Proofs.YtjennpcadjdnlaaGreatDoor
open Go.RowKit

/-- The string of bytes. -/
def strB (l : List Nat) : ByteArray := ⟨(l.map UInt8.ofNat).toArray⟩
def be4 (c : Nat) : List Nat := [c / 16777216, c / 65536 % 256, c / 256 % 256, c % 256]

theorem be4_conv (w : World) (c : Nat) : (convert 28 9 (.slice (some ⟨w.heap.size, 0, none⟩) 4 4)).run Tryz.prog (w.alloc (.cells #[.int .u8 ((c : Int) / 16777216), .int .u8 ((c : Int) / 65536 % 256), .int .u8 ((c : Int) / 256 % 256), .int .u8 ((c : Int) % 256)] 5)) =
    .ok (.string (strB (be4 c))) (w.alloc (.cells #[.int .u8 ((c : Int) / 16777216), .int .u8 ((c : Int) / 65536 % 256), .int .u8 ((c : Int) / 256 % 256), .int .u8 ((c : Int) % 256)] 5)) := by
  have h := run_convert_bytes_arg (P := Tryz.prog) (w.alloc (.cells #[.int .u8 ((c : Int) / 16777216), .int .u8 ((c : Int) / 65536 % 256), .int .u8 ((c : Int) / 256 % 256), .int .u8 ((c : Int) % 256)] 5)) 28 5 Tryz.underlying28 Tryz.underlying5 w.heap.size 0 4 4
    [(c : Int) / 16777216, (c : Int) / 65536 % 256, (c : Int) / 256 % 256, (c : Int) % 256] rfl (fun i hi => ?_) 9 Tryz.underlying9
  · rw [h]
    rfl
  · rw [World.cell?_alloc_at _ _ _ _ (by simp)]
    match i, hi with
    | 0, _ => rfl
    | 1, _ => rfl
    | 2, _ => rfl
    | 3, _ => rfl
set_option maxRecDepth 100000 in
set_option maxHeartbeats 1000000 in
theorem cbytes_any (w : World) (c : Nat) (hc : c < 4294967296) : Calls Tryz.prog 69 #[.int .u32 c] w fun e w' => e = .returned (.string (strB (be4 c))) ∧ Below w.heap.size w w' := by
  have hcv := be4_conv w c
  go_enter Tryz.func69, Tryz.ntmps69
  go_wp2
  go_ret
  exact ⟨rfl, (Below.refl _ _).alloc (Nat.le_refl _) _⟩
set_option maxRecDepth 100000 in
set_option maxHeartbeats 1000000 in
theorem rbytes_any (w : World) (c : Nat) (hc : c < 4294967296) : Calls Tryz.prog 115 #[.int .u32 c] w fun e w' => e = .returned (.string (strB (be4 c))) ∧ Below w.heap.size w w' := by
  have hcv := be4_conv w c
  go_enter Tryz.func115, Tryz.ntmps115
  go_wp2
  go_ret
  exact ⟨rfl, (Below.refl _ _).alloc (Nat.le_refl _) _⟩

end Go.Proofs.YtjennpcadjdnlaaGreatDoor

namespace Go.Proofs.YtjennpcadjdnlaaGreatDoor
open Go.RowKit

theorem ret_bool' {a b : Bool} (h : a = b) : Ending.returned (.bool a) = .returned (.bool b) := by rw [h]
theorem within_any (w : World) (n lo hi : Int) (b : Bool) (hb : b = (decide (lo ≤ n) && decide (n ≤ hi))) : Calls Tryz.prog 134 #[.int .i64 n, .int .i64 lo, .int .i64 hi] w fun e w' => e = .returned (.bool b) ∧ w = w' := by
  have Hb := Lib.hid hb
  clear hb
  by_cases h1 : lo ≤ n
  · by_cases h2 : n ≤ hi
    · have hd : decide (n ≤ hi) = true := decide_eq_true h2
      go_enter Tryz.func134, Tryz.ntmps134
      go_wp2
      go_ret
      exact ⟨ret_bool' (by rw [Hb.out]; simp [h1, h2]), rfl⟩
    · have hd : decide (n ≤ hi) = false := decide_eq_false h2
      go_enter Tryz.func134, Tryz.ntmps134
      go_wp2
      go_ret
      exact ⟨ret_bool' (by rw [Hb.out]; simp; omega), rfl⟩
  · go_enter Tryz.func134, Tryz.ntmps134
    go_wp2
    go_ret
    exact ⟨ret_bool' (by rw [Hb.out]; simp; omega), rfl⟩
def markS : ByteArray := strB [49, 49, 49, 49, 49, 48, 48, 49, 49, 48, 49, 48, 49, 48, 48, 48]
theorem mark_any (w : World) : Calls Tryz.prog 63 #[] w fun e w' => e = .returned (.string markS) ∧ w = w' := by
  go_enter Tryz.func63, Tryz.ntmps63
  go_wp2
  go_ret
  exact ⟨rfl, rfl⟩
theorem rmark_any (w : World) : Calls Tryz.prog 56 #[] w fun e w' => e = .returned (.string markS) ∧ w = w' := by
  go_enter Tryz.func56, Tryz.ntmps56
  go_wp2
  go_ret
  exact ⟨rfl, rfl⟩

end Go.Proofs.YtjennpcadjdnlaaGreatDoor

namespace Go.Proofs.YtjennpcadjdnlaaGreatDoor
open Go.RowKit

theorem bs_strB {l : List Nat} (h : ∀ b ∈ l, b < 256) : bs (strB l) = l := by
  unfold bs strB
  rw [List.toList_toArray, List.map_map]
  conv => rhs; rw [← List.map_id l]
  refine List.map_congr_left fun b hb => ?_
  simp only [Function.comp_apply, id_eq]
  exact Nat.mod_eq_of_lt (h b hb)
theorem strB_bs (s : ByteArray) : strB (bs s) = s := by
  unfold bs strB
  rw [List.map_map]
  have : (s.data.toList.map ((fun x => UInt8.ofNat x) ∘ fun x => x.toNat)) = s.data.toList := by
    conv => rhs; rw [← List.map_id s.data.toList]
    refine List.map_congr_left fun b _ => ?_
    simp
  have e : (s.data.toList.map (UInt8.ofNat ∘ fun x => x.toNat)) = s.data.toList := this
  rw [e]
theorem bs_inj {s t : ByteArray} (h : bs s = bs t) : s = t := by rw [← strB_bs s, ← strB_bs t, h]
theorem bs_extract (s : ByteArray) (i j : Nat) : bs (s.extract i j) = ((bs s).take j).drop i := by
  unfold bs
  rw [ByteArray.data_extract, Array.toList_extract, List.extract_eq_take_drop, ← List.map_take, ← List.map_drop, List.drop_take]
theorem strB_size (l : List Nat) : (strB l).size = l.length := by
  unfold strB
  show (List.toArray _).size = _
  simp
theorem bs_get (s : ByteArray) (i : Nat) (h : i < s.size) : (bs s)[i]? = some (s[i]'h).toNat := by
  have hl : i < s.data.toList.length := h
  unfold bs
  rw [List.getElem?_map, List.getElem?_eq_getElem hl]
  rfl
def strSize : Value → Nat
  | .string s => s.size
  | _ => 0

set_option maxHeartbeats 1000000 in
theorem trimLB_any (w : World) (s : ByteArray) (c : Nat) (hs : s.size ≤ 1000000) : Calls Tryz.prog 139 #[.string s, .int .u8 c] w fun e w' => e = .returned (.string (strB ((bs s).dropWhile (· == c)))) ∧ w = w' := by
  go_enter Tryz.func139, Tryz.ntmps139
  go_wp2
  go_loop [0] (fun x => ∃ t : ByteArray, x = .string t ∧ t.size ≤ 1000000 ∧ (bs t).dropWhile (· == c) = (bs s).dropWhile (· == c)) (fun x => strSize x)
  case atStart => exact ⟨s, rfl, hs, rfl⟩
  case round =>
    obtain ⟨t, rfl, ht, hd⟩ := hrel
    have Hd := Lib.hid hd
    clear hd
    by_cases h0 : t.size = 0
    · have e : (bs s).dropWhile (· == c) = bs t := by
        rw [← Hd.out, List.eq_nil_of_length_eq_zero ((bs_len t).trans h0)]
        rfl
      have He := Lib.hid e
      clear e
      go_wp2
      go_ret
      refine ⟨?_, rfl⟩
      rw [He.out, strB_bs]
      rfl
    · have hp : 0 < t.size := by omega
      have hpI : (0 : Int) < t.size := by omega
      by_cases hc : (t[0]'hp).toNat = c
      · have hcI : (((t[0]'hp).toNat : Int) == (c : Int)) = true := by rw [beq_iff_eq, hc]
        have hbt : bs t = c :: (bs t).drop 1 := by
          have hg := bs_get t 0 hp
          rw [hc] at hg
          cases hl : bs t with
          | nil => rw [hl] at hg; cases hg
          | cons x r => rw [hl] at hg; cases hg; rfl
        have hst : (bs (t.extract 1 t.size)).dropWhile (· == c) = (bs s).dropWhile (· == c) := by
          rw [← Hd.out, bs_extract, ← bs_len, List.take_length, hbt]
          simp
        have Hst := Lib.hid hst
        clear hbt hst hc
        go_wp2
        go_round
        case rel => exact ⟨_, rfl, by simp; omega, Hst.out⟩
        case measure => simp [strSize]; omega
      · have hcI : (((t[0]'hp).toNat : Int) == (c : Int)) = false := by rw [beq_eq_false_iff_ne]; omega
        have e : (bs s).dropWhile (· == c) = bs t := by
          have hg := bs_get t 0 hp
          rw [← Hd.out]
          cases hl : bs t with
          | nil => rfl
          | cons x r =>
            rw [hl] at hg
            cases hg
            rw [List.dropWhile_cons_of_neg (by simpa using hc)]
        have He := Lib.hid e
        clear e hc
        go_wp2
        go_ret
        refine ⟨?_, rfl⟩
        rw [He.out, strB_bs]
        rfl
/-- Without the last bytes that are c. -/
def rtrim (p : Nat → Bool) (l : List Nat) : List Nat := (l.reverse.dropWhile p).reverse
theorem rtrim_snoc_yes {p : Nat → Bool} (l : List Nat) {x : Nat} (h : p x = true) : rtrim p (l ++ [x]) = rtrim p l := by
  unfold rtrim
  rw [List.reverse_append, List.reverse_singleton, List.singleton_append, List.dropWhile_cons_of_pos h]
theorem rtrim_snoc_no {p : Nat → Bool} (l : List Nat) {x : Nat} (h : ¬ p x = true) : rtrim p (l ++ [x]) = l ++ [x] := by
  unfold rtrim
  rw [List.reverse_append, List.reverse_singleton, List.singleton_append, List.dropWhile_cons_of_neg h]
  simp
theorem bs_last (t : ByteArray) (h : 0 < t.size) : bs t = (bs t).take (t.size - 1) ++ [(t[t.size - 1]'(by omega)).toNat] := by
  have hg := bs_get t (t.size - 1) (by omega)
  have := List.take_add_one (l := bs t) (i := t.size - 1)
  have e : (bs t).take (t.size - 1 + 1) = bs t := List.take_of_length_le (by rw [bs_len]; omega)
  rw [hg, e] at this
  exact this
set_option maxHeartbeats 1000000 in
theorem trimRB_any (w : World) (s : ByteArray) (c : Nat) (hs : s.size ≤ 1000000) : Calls Tryz.prog 140 #[.string s, .int .u8 c] w fun e w' => e = .returned (.string (strB (rtrim (· == c) (bs s)))) ∧ w = w' := by
  go_enter Tryz.func140, Tryz.ntmps140
  go_wp2
  go_loop [0] (fun x => ∃ t : ByteArray, x = .string t ∧ t.size ≤ 1000000 ∧ rtrim (· == c) (bs t) = rtrim (· == c) (bs s)) (fun x => strSize x)
  case atStart => exact ⟨s, rfl, hs, rfl⟩
  case round =>
    obtain ⟨t, rfl, ht, hd⟩ := hrel
    have Hd := Lib.hid hd
    clear hd
    by_cases h0 : t.size = 0
    · have e : rtrim (· == c) (bs s) = bs t := by
        rw [← Hd.out, List.eq_nil_of_length_eq_zero ((bs_len t).trans h0)]
        rfl
      have He := Lib.hid e
      clear e
      go_wp2
      go_ret
      refine ⟨?_, rfl⟩
      rw [He.out, strB_bs]
      rfl
    · have hp : t.size - 1 < t.size := by omega
      have hpI : (0 : Int) < t.size := by omega
      have hs1 : IntKind.i64.wrap ((t.size : Int) - 1) = ((t.size - 1 : Nat) : Int) := by rw [IntWalk.i64_in _ (by omega)]; omega
      have hpJ : ((t.size - 1 : Nat) : Int) < t.size := by omega
      have hl := bs_last t (by omega)
      by_cases hc : (t[t.size - 1]'hp).toNat = c
      · have hcI : (((t[t.size - 1]'hp).toNat : Int) == (c : Int)) = true := by rw [beq_iff_eq, hc]
        have hst : rtrim (· == c) (bs (t.extract 0 (t.size - 1))) = rtrim (· == c) (bs s) := by
          rw [← Hd.out, bs_extract, List.drop_zero]
          conv => rhs; rw [hl, hc]
          rw [rtrim_snoc_yes _ (by simp)]
        have Hst := Lib.hid hst
        clear hl hst hc
        go_wp2
        go_round
        case rel => exact ⟨_, rfl, by simp; omega, Hst.out⟩
        case measure => simp [strSize]; omega
      · have hcI : (((t[t.size - 1]'hp).toNat : Int) == (c : Int)) = false := by rw [beq_eq_false_iff_ne]; omega
        have e : rtrim (· == c) (bs s) = bs t := by
          rw [← Hd.out, hl, rtrim_snoc_no _ (by simpa using hc)]
        have He := Lib.hid e
        clear e hc hl
        go_wp2
        go_ret
        refine ⟨?_, rfl⟩
        rw [He.out, strB_bs]
        rfl

end Go.Proofs.YtjennpcadjdnlaaGreatDoor

namespace Go.Proofs.YtjennpcadjdnlaaGreatDoor
open Go.RowKit

/-- The 256 cells from block b's beginning on say which bytes belong. -/
def SetAt (w : World) (b : Nat) (f : Nat → Bool) : Prop := ∀ k, k < 256 → w.cell? ⟨b, k, none⟩ = some (.bool (f k))

set_option maxHeartbeats 400000 in
theorem has_any (w : World) (b : Nat) (f : Nat → Bool) (c : Nat) (hc : c < 256) (h : SetAt w b f) : Calls Tryz.prog 184 #[.pointer (some ⟨b, 0, none⟩), .int .u8 c] w fun e w' => e = .returned (.bool (f c)) ∧ w = w' := by
  have hcell := h c hc
  have hcI : (c : Int) < 256 := by omega
  have H := Lib.hid h
  clear h
  go_enter Tryz.func184, Tryz.ntmps184
  go_wp2
  go_ret
  exact ⟨rfl, rfl⟩
set_option maxHeartbeats 1000000 in
theorem trimLA_any (w : World) (s : ByteArray) (q : Nat) (f : Nat → Bool) (hs : s.size ≤ 1000000) (h : SetAt w q f) : Calls Tryz.prog 142 #[.string s, .pointer (some ⟨q, 0, none⟩)] w fun e w' => e = .returned (.string (strB ((bs s).dropWhile f))) ∧ w = w' := by
  have H := Lib.hid h
  clear h
  go_enter Tryz.func142, Tryz.ntmps142
  go_wp2
  go_loop [0] (fun x => ∃ t : ByteArray, x = .string t ∧ t.size ≤ 1000000 ∧ (bs t).dropWhile f = (bs s).dropWhile f) (fun x => strSize x)
  case atStart => exact ⟨s, rfl, hs, rfl⟩
  case round =>
    obtain ⟨t, rfl, ht, hd⟩ := hrel
    have Hd := Lib.hid hd
    clear hd
    by_cases h0 : t.size = 0
    · have e : (bs s).dropWhile f = bs t := by
        rw [← Hd.out, List.eq_nil_of_length_eq_zero ((bs_len t).trans h0)]
        rfl
      have He := Lib.hid e
      clear e
      go_wp2
      go_ret
      refine ⟨?_, rfl⟩
      rw [He.out, strB_bs]
      rfl
    · have hp : 0 < t.size := by omega
      have hpI : (0 : Int) < t.size := by omega
      have hc := has_any w q f (t[0]'hp).toNat (UInt8.toNat_lt _) H.out
      have hg := bs_get t 0 hp
      have hbt : bs t = (t[0]'hp).toNat :: (bs t).drop 1 := by
        cases hl : bs t with
        | nil => rw [hl] at hg; cases hg
        | cons x r => rw [hl] at hg; cases hg; rfl
      cases hf : f (t[0]'hp).toNat with
      | true =>
        have hst : (bs (t.extract 1 t.size)).dropWhile f = (bs s).dropWhile f := by
          rw [← Hd.out, bs_extract, ← bs_len, List.take_length, hbt, List.dropWhile_cons_of_pos hf]
          rfl
        rw [hf] at hc
        have Hc := Lib.hid hc
        have Hst := Lib.hid hst
        clear hbt hst hc hf hg
        go_wp2_with (go_at_call 184; refine Hc.out.mono ?_; rintro e w' ⟨rfl, rfl⟩)
        go_round
        case rel => exact ⟨_, rfl, by simp; omega, Hst.out⟩
        case measure => simp [strSize]; omega
      | false =>
        have e : (bs s).dropWhile f = bs t := by
          rw [← Hd.out, hbt, List.dropWhile_cons_of_neg (by rw [hf]; decide)]
        rw [hf] at hc
        have Hc := Lib.hid hc
        have He := Lib.hid e
        clear e hc hbt hf hg
        go_wp2_with (go_at_call 184; refine Hc.out.mono ?_; rintro e w' ⟨rfl, rfl⟩)
        go_ret
        refine ⟨?_, rfl⟩
        rw [He.out, strB_bs]
        rfl
set_option maxHeartbeats 1000000 in
theorem trimRA_any (w : World) (s : ByteArray) (q : Nat) (f : Nat → Bool) (hs : s.size ≤ 1000000) (h : SetAt w q f) : Calls Tryz.prog 143 #[.string s, .pointer (some ⟨q, 0, none⟩)] w fun e w' => e = .returned (.string (strB (rtrim f (bs s)))) ∧ w = w' := by
  have H := Lib.hid h
  clear h
  go_enter Tryz.func143, Tryz.ntmps143
  go_wp2
  go_loop [0] (fun x => ∃ t : ByteArray, x = .string t ∧ t.size ≤ 1000000 ∧ rtrim f (bs t) = rtrim f (bs s)) (fun x => strSize x)
  case atStart => exact ⟨s, rfl, hs, rfl⟩
  case round =>
    obtain ⟨t, rfl, ht, hd⟩ := hrel
    have Hd := Lib.hid hd
    clear hd
    by_cases h0 : t.size = 0
    · have e : rtrim f (bs s) = bs t := by
        rw [← Hd.out, List.eq_nil_of_length_eq_zero ((bs_len t).trans h0)]
        rfl
      have He := Lib.hid e
      clear e
      go_wp2
      go_ret
      refine ⟨?_, rfl⟩
      rw [He.out, strB_bs]
      rfl
    · have hp : t.size - 1 < t.size := by omega
      have hpI : (0 : Int) < t.size := by omega
      have hs1 : IntKind.i64.wrap ((t.size : Int) - 1) = ((t.size - 1 : Nat) : Int) := by rw [IntWalk.i64_in _ (by omega)]; omega
      have hpJ : ((t.size - 1 : Nat) : Int) < t.size := by omega
      have hl := bs_last t (by omega)
      have hc := has_any w q f (t[t.size - 1]'hp).toNat (UInt8.toNat_lt _) H.out
      cases hf : f (t[t.size - 1]'hp).toNat with
      | true =>
        have hst : rtrim f (bs (t.extract 0 (t.size - 1))) = rtrim f (bs s) := by
          rw [← Hd.out, bs_extract, List.drop_zero]
          conv => rhs; rw [hl]
          rw [rtrim_snoc_yes _ hf]
        rw [hf] at hc
        have Hc := Lib.hid hc
        have Hst := Lib.hid hst
        clear hl hst hc hf
        go_wp2_with (go_at_call 184; refine Hc.out.mono ?_; rintro e w' ⟨rfl, rfl⟩)
        go_round
        case rel => exact ⟨_, rfl, by simp; omega, Hst.out⟩
        case measure => simp [strSize]; omega
      | false =>
        have e : rtrim f (bs s) = bs t := by
          rw [← Hd.out, hl, rtrim_snoc_no _ (by rw [hf]; decide)]
        rw [hf] at hc
        have Hc := Lib.hid hc
        have He := Lib.hid e
        clear e hc hl hf
        go_wp2_with (go_at_call 184; refine Hc.out.mono ?_; rintro e w' ⟨rfl, rfl⟩)
        go_ret
        refine ⟨?_, rfl⟩
        rw [He.out, strB_bs]
        rfl

end Go.Proofs.YtjennpcadjdnlaaGreatDoor
