/-
 WALKS: crc32's register step, on both sides.
 WALKS: crc32's Update, on both sides.
 WALKS: crc32's Sum, on both sides.
 WALKS: crc32's Bytes, on both sides.
 WALKS: frame.within, the marks of both sides.
 WALKS: strings.trimLeftByte, trimRightByte.
 WALKS: strings' asciiSet: contains, trimLeftASCII, trimRightASCII.
 Plain words for bytes in memory: a slice of bytes that reads as a list; a block that is known whole.
 append, whatever the slice's one-cell element: at the operation, at a plain region's list, at a step of a region that draws.
 Conversions between strings and slices of bytes; a block whose first cells are known and may be written.
-/
import Derived.Test.YtnlnmfkmbpihhaaGreatDoorGfA
import Derived.Laws.BytesArg
import Derived.Maps.AppendAt
import Derived.Laws.Rows
import Derived.Laws.MakeOwn
import Derived.OwnWalk
import Derived.Laws.CopyOwn
import Derived.Laws.IdiomStrings
namespace Go.Proofs.YtnlnmfkmbpihhaaGreatDoor
open Go.RowKit

theorem u32_xor {a b : Nat} (ha : a < 4294967296) (hb : b < 4294967296) : bits .xor .u32 (a : Int) (b : Int) = ((a ^^^ b : Nat) : Int) := by
 have ha' : a % 2 ^ IntKind.u32.bits = a := Nat.mod_eq_of_lt ha
 have hb' : b % 2 ^ IntKind.u32.bits = b := Nat.mod_eq_of_lt hb
 simp only [bits, BitVec.ofInt_natCast, BitVec.toNat_xor, BitVec.toNat_ofNat, ha', hb']
 have := Nat.xor_lt_two_pow (n := 32) ha hb
 rw [IntKind.wrap_u32]
 omega
/-- The register times x. -/
def cdbl (a : Nat) : Nat := if 2147483648 ≤ a then (2 * a) % 4294967296 ^^^ 79764919 else 2 * a
theorem cdbl_lt {a : Nat} (ha : a < 4294967296) : cdbl a < 4294967296 := by
 unfold cdbl
 split
 ·exact Nat.xor_lt_two_pow (n := 32) (Nat.mod_lt _ (by omega)) (by omega)
 ·omega
theorem cdbl_hi {a : Nat} (h : 2147483648 ≤ a) : bits .xor .u32 ((a : Int) * 2 % 4294967296) 79764919 = ((cdbl a : Nat) : Int) := by
 unfold cdbl
 rw [if_pos h, ← u32_xor (by omega) (by omega), Nat.mul_comm]
 rfl
set_option maxHeartbeats 400000 in
theorem cdouble_any (w : World) (a : Nat) (ha : a < 4294967296) : Calls Tryz.prog 224 #[.int .u32 a] w fun e w' => e = .returned (.int .u32 (cdbl a : Nat)) ∧ w = w' := by
 by_cases h : 2147483648 ≤ a
 ·have hq : ((a : Int) / 2147483648 == 1) = true := by rw [beq_iff_eq]; omega
  have H := Lib.hid (cdbl_hi h)
  go_enter Tryz.func224, Tryz.ntmps224
  go_wp2
  go_ret
  exact ⟨ret_num H.out, rfl⟩
 ·have hq : ((a : Int) / 2147483648 == 1) = false := by rw [beq_eq_false_iff_ne]; omega
  have H := Lib.hid h
  go_enter Tryz.func224, Tryz.ntmps224
  go_wp2
  go_ret
  refine ⟨ret_num ?_, rfl⟩
  unfold cdbl
  rw [if_neg h]
  omega
set_option maxHeartbeats 400000 in
theorem rstep_any (w : World) (a : Nat) (ha : a < 4294967296) : Calls Tryz.prog 234 #[.int .u32 a] w fun e w' => e = .returned (.int .u32 (cdbl a : Nat)) ∧ w = w' := by
 by_cases h : 2147483648 ≤ a
 ·have hI : (2147483648 : Int) ≤ a := by omega
  have H := Lib.hid (cdbl_hi h)
  go_enter Tryz.func234, Tryz.ntmps234
  go_wp2
  go_ret
  exact ⟨ret_num H.out, rfl⟩
 ·have hI : ¬ (2147483648 : Int) ≤ a := by omega
  go_enter Tryz.func234, Tryz.ntmps234
  go_wp2
  go_ret
  refine ⟨ret_num ?_, rfl⟩
  unfold cdbl
  rw [if_neg h]
  omega

end Go.Proofs.YtnlnmfkmbpihhaaGreatDoor

namespace Go.Proofs.YtnlnmfkmbpihhaaGreatDoor
open Go.RowKit

def cdblN : Nat → Nat → Nat
 | 0, a => a
 | k + 1, a => cdbl (cdblN k a)
theorem cdblN_lt {a : Nat} (ha : a < 4294967296) : ∀ k, cdblN k a < 4294967296
 | 0 => ha
 | k + 1 => cdbl_lt (cdblN_lt ha k)
/-- The bytes of a string, as numbers. -/
def bs (s : ByteArray) : List Nat := s.data.toList.map (·.toNat)
theorem bs_len (s : ByteArray) : (bs s).length = s.size := by unfold bs; rw [List.length_map]; rfl
theorem bs_lt (s : ByteArray) : ∀ b ∈ bs s, b < 256 := by
 intro b hb
 obtain ⟨x, _, rfl⟩ := List.mem_map.1 hb
 exact UInt8.toNat_lt x
@[irreducible] def crcByte (c b : Nat) : Nat := cdblN 8 (c ^^^ (b * 16777216))
def crcL (c : Nat) (l : List Nat) : Nat := l.foldl crcByte c
theorem crcByte_lt {c b : Nat} (hc : c < 4294967296) (hb : b < 256) : crcByte c b < 4294967296 := by
 unfold crcByte
 exact cdblN_lt (Nat.xor_lt_two_pow (n := 32) hc (by omega)) 8
theorem crcL_lt (l : List Nat) : ∀ {c : Nat}, c < 4294967296 → (∀ b ∈ l, b < 256) → crcL c l < 4294967296 := by
 induction l with
 | nil => exact fun hc _ => hc
 | cons b l ih =>
  intro c hc h
  have := ih (crcByte_lt hc (h b List.mem_cons_self)) fun x hx => h x (List.mem_cons_of_mem _ hx)
  unfold crcL at this ⊢
  rw [List.foldl_cons]
  exact this
theorem crcL_snoc (c : Nat) (l : List Nat) (b : Nat) : crcL c (l ++ [b]) = crcByte (crcL c l) b := by
 unfold crcL
 rw [List.foldl_append]
 rfl
theorem bs_take (s : ByteArray) (k : Nat) (h : k < s.size) : (bs s).take (k + 1) = (bs s).take k ++ [(s[k]'h).toNat] := by
 have hl : k < s.data.toList.length := h
 unfold bs
 rw [List.take_add_one, List.getElem?_map, List.getElem?_eq_getElem hl]
 rfl

set_option maxHeartbeats 1000000 in
theorem cupdate_any (w : World) (c : Nat) (s : ByteArray) (hc : c < 4294967296) (hs : s.size ≤ 1000000) : Calls Tryz.prog 176 #[.int .u32 c, .string s] w fun e w' => e = .returned (.int .u32 (crcL c (bs s) : Nat)) ∧ w = w' := by
 go_enter Tryz.func176, Tryz.ntmps176
 go_wp2
 go_loop [0, 8] (fun r i => ∃ k : Nat, k ≤ s.size ∧ i = .int .i64 k ∧ r = .int .u32 (crcL c ((bs s).take k) : Nat)) (fun _ i => s.size - (intOf i).toNat)
 case atStart => exact ⟨0, by omega, rfl, rfl⟩
 case round =>
  obtain ⟨k, hk, rfl, rfl⟩ := hrel
  have hrl : crcL c ((bs s).take k) < 4294967296 := crcL_lt _ hc fun b hb => bs_lt s b (List.mem_of_mem_take hb)
  by_cases h : k < s.size
  ·have hI : (k : Int) < s.size := by omega
   have hkb : k < (bs s).length := by rw [bs_len]; exact h
   obtain ⟨b, hb⟩ : ∃ b : Nat, b = (s[k]'h).toNat := ⟨_, rfl⟩
   have hbl : b < 256 := by rw [hb]; exact UInt8.toNat_lt _
   have htk := bs_take s k h
   rw [← hb] at htk
   have hx : bits .xor .u32 ((crcL c ((bs s).take k) : Nat) : Int) (((s[k]'h).toNat : Int) % 4294967296 * 16777216 % 4294967296) = ((crcL c ((bs s).take k) ^^^ b * 16777216 : Nat) : Int) := by
    rw [← u32_xor hrl (by omega), hb]
    congr 1
    rw [hb] at hbl
    omega
   have hst : crcL c ((bs s).take (k + 1)) = cdblN 8 (crcL c ((bs s).take k) ^^^ b * 16777216) := by
    rw [htk, crcL_snoc]
    unfold crcByte
    rfl
   have hxl : crcL c ((bs s).take k) ^^^ b * 16777216 < 4294967296 := Nat.xor_lt_two_pow (n := 32) hrl (by omega)
   have Hst := Lib.hid hst
   have Hx := Lib.hid hx
   clear hst htk hx hb
   generalize crcL c ((bs s).take k) ^^^ b * 16777216 = x at *
   go_wp2
   go_loop [0, 18] (fun r i => ∃ j : Nat, j ≤ 8 ∧ i = .int .i64 j ∧ r = .int .u32 (cdblN j x : Nat)) (fun _ i => 8 - (intOf i).toNat)
   case atStart => exact ⟨0, by omega, rfl, congrArg (Value.int .u32) Hx.out⟩
   case round =>
    obtain ⟨j, hj, rfl, rfl⟩ := hrel
    by_cases h8 : j < 8
    ·have hI8 : (j : Int) < 8 := by omega
     have Hc := Lib.hid (cdouble_any w (cdblN j x) (cdblN_lt hxl j))
     go_wp2_with (go_at_call 224; refine Hc.out.mono ?_; rintro e w' ⟨rfl, rfl⟩)
     go_round
     case rel => exact ⟨j + 1, by omega, by go_num, rfl⟩
     case measure => simp [intOf]; omega
    ·have hj8 : j = 8 := by omega
     subst hj8
     go_wp2
     go_round
     case rel => exact ⟨k + 1, by omega, by go_num, by rw [Hst.out]⟩
     case measure => simp [intOf]; omega
  ·have hkn : k = s.size := by omega
   subst hkn
   have e : (bs s).take s.size = bs s := by rw [← bs_len, List.take_length]
   have He := Lib.hid e
   clear e
   go_wp2
   go_ret
   refine ⟨ret_num ?_, rfl⟩
   rw [He.out]

set_option maxHeartbeats 1000000 in
theorem rupdate_any (w : World) (c : Nat) (s : ByteArray) (hc : c < 4294967296) (hs : s.size ≤ 1000000) : Calls Tryz.prog 200 #[.int .u32 c, .string s] w fun e w' => e = .returned (.int .u32 (crcL c (bs s) : Nat)) ∧ w = w' := by
 go_enter Tryz.func200, Tryz.ntmps200
 go_wp2
 go_loop [0, 5] (fun r i => ∃ k : Nat, k ≤ s.size ∧ i = .int .i64 k ∧ r = .int .u32 (crcL c ((bs s).take k) : Nat)) (fun _ i => s.size - (intOf i).toNat)
 case atStart => exact ⟨0, by omega, rfl, rfl⟩
 case round =>
  obtain ⟨k, hk, rfl, rfl⟩ := hrel
  have hrl : crcL c ((bs s).take k) < 4294967296 := crcL_lt _ hc fun b hb => bs_lt s b (List.mem_of_mem_take hb)
  by_cases h : k < s.size
  ·have hI : (k : Int) < s.size := by omega
   have hkb : k < (bs s).length := by rw [bs_len]; exact h
   obtain ⟨b, hb⟩ : ∃ b : Nat, b = (s[k]'h).toNat := ⟨_, rfl⟩
   have hbl : b < 256 := by rw [hb]; exact UInt8.toNat_lt _
   have htk := bs_take s k h
   rw [← hb] at htk
   have hx : bits .xor .u32 ((crcL c ((bs s).take k) : Nat) : Int) (((s[k]'h).toNat : Int) % 4294967296 * 16777216 % 4294967296) = ((crcL c ((bs s).take k) ^^^ b * 16777216 : Nat) : Int) := by
    rw [← u32_xor hrl (by omega), hb]
    congr 1
    rw [hb] at hbl
    omega
   have hst : crcL c ((bs s).take (k + 1)) = cdblN 8 (crcL c ((bs s).take k) ^^^ b * 16777216) := by
    rw [htk, crcL_snoc]
    unfold crcByte
    rfl
   have hxl : crcL c ((bs s).take k) ^^^ b * 16777216 < 4294967296 := Nat.xor_lt_two_pow (n := 32) hrl (by omega)
   have Hst := Lib.hid hst
   have Hx := Lib.hid hx
   clear hst htk hx hb
   generalize crcL c ((bs s).take k) ^^^ b * 16777216 = x at *
   go_wp2
   go_loop [0, 6] (fun r i => ∃ j : Nat, j ≤ 8 ∧ i = .int .i64 j ∧ r = .int .u32 (cdblN j x : Nat)) (fun _ i => 8 - (intOf i).toNat)
   case atStart => exact ⟨0, by omega, rfl, congrArg (Value.int .u32) Hx.out⟩
   case round =>
    obtain ⟨j, hj, rfl, rfl⟩ := hrel
    by_cases h8 : j < 8
    ·have hI8 : (j : Int) < 8 := by omega
     have Hc := Lib.hid (rstep_any w (cdblN j x) (cdblN_lt hxl j))
     go_wp2_with (go_at_call 234; refine Hc.out.mono ?_; rintro e w' ⟨rfl, rfl⟩)
     go_round
     case rel => exact ⟨j + 1, by omega, by go_num, rfl⟩
     case measure => simp [intOf]; omega
    ·have hj8 : j = 8 := by omega
     subst hj8
     go_wp2
     go_round
     case rel => exact ⟨k + 1, by omega, by go_num, by rw [Hst.out]⟩
     case measure => simp [intOf]; omega
  ·have hkn : k = s.size := by omega
   subst hkn
   have e : (bs s).take s.size = bs s := by rw [← bs_len, List.take_length]
   have He := Lib.hid e
   clear e
   go_wp2
   go_ret
   refine ⟨ret_num ?_, rfl⟩
   rw [He.out]

end Go.Proofs.YtnlnmfkmbpihhaaGreatDoor

namespace Go.Proofs.YtnlnmfkmbpihhaaGreatDoor
open Go.RowKit

abbrev strV (s : ByteArray) : Value := .string s
abbrev StrsAt (w : World) (v : Value) (xs : List ByteArray) : Prop := SlAt (PlainR strV) w v xs
def sumL (l : List ByteArray) : Nat := l.foldl (fun c s => crcL c (bs s)) 4294967295
theorem sumL_snoc (l : List ByteArray) (s : ByteArray) : sumL (l ++ [s]) = crcL (sumL l) (bs s) := by
 unfold sumL
 rw [List.foldl_append]
 rfl
theorem foldS_lt (l : List ByteArray) : ∀ c, c < 4294967296 → l.foldl (fun c s => crcL c (bs s)) c < 4294967296 := by
 induction l with
 | nil => exact fun c h => h
 | cons s l ih => exact fun c h => ih _ (crcL_lt _ h (bs_lt s))
theorem sumL_lt (l : List ByteArray) : sumL l < 4294967296 := foldS_lt l _ (by omega)

set_option maxHeartbeats 1000000 in
theorem csum_any (w : World) (v : Value) (xs : List ByteArray) (hv : StrsAt w v xs) (hs : ∀ s ∈ xs, s.size ≤ 1000000) (hl : xs.length ≤ 1000000) : Calls Tryz.prog 115 #[v] w fun e w' => e = .returned (.int .u32 (sumL xs : Nat)) ∧ w = w' := by
 obtain ⟨A, d, rfl, h1, h2, h3⟩ := hv
 have H3 := Lib.hid h3
 clear h3
 go_enter Tryz.func115, Tryz.ntmps115
 go_wp2
 go_loop [3, 8] (fun r i => ∃ k : Nat, k ≤ xs.length ∧ i = .int .i64 k ∧ r = .int .u32 (sumL (xs.take k) : Nat)) (fun _ i => xs.length - (intOf i).toNat)
 case atStart => exact ⟨0, by omega, rfl, rfl⟩
 case round =>
  obtain ⟨k, hk, rfl, rfl⟩ := hrel
  by_cases h : k < xs.length
  ·have hI : (k : Int) < xs.length := by omega
   obtain ⟨b, o, u, rfl, hck, rfl⟩ := H3.out k xs[k] (List.getElem?_eq_getElem h)
   have hst : sumL (xs.take (k + 1)) = crcL (sumL (xs.take k)) (bs xs[k]) := by
    rw [List.take_add_one, List.getElem?_eq_getElem h]
    exact sumL_snoc _ _
   have Hst := Lib.hid hst
   have Hc := Lib.hid (cupdate_any w (sumL (xs.take k)) xs[k] (sumL_lt _) (hs _ (List.getElem_mem h)))
   clear hst
   go_wp2_with (go_at_call 176; refine Hc.out.mono ?_; rintro e w' ⟨rfl, rfl⟩)
   go_round
   case rel => exact ⟨k + 1, by omega, by go_num, by rw [Hst.out]⟩
   case measure => simp [intOf]; omega
  ·have hkn : k = xs.length := by omega
   subst hkn
   go_wp2
   go_ret
   exact ⟨rfl, rfl⟩

set_option maxHeartbeats 1000000 in
theorem rsum_any (w : World) (v : Value) (xs : List ByteArray) (hv : StrsAt w v xs) (hs : ∀ s ∈ xs, s.size ≤ 1000000) (hl : xs.length ≤ 1000000) : Calls Tryz.prog 132 #[v] w fun e w' => e = .returned (.int .u32 (sumL xs : Nat)) ∧ w = w' := by
 obtain ⟨A, d, rfl, h1, h2, h3⟩ := hv
 have H3 := Lib.hid h3
 clear h3
 go_enter Tryz.func132, Tryz.ntmps132
 go_wp2
 go_loop [3, 4] (fun r i => ∃ k : Nat, k ≤ xs.length ∧ i = .int .i64 k ∧ r = .int .u32 (sumL (xs.take k) : Nat)) (fun _ i => xs.length - (intOf i).toNat)
 case atStart => exact ⟨0, by omega, rfl, rfl⟩
 case round =>
  obtain ⟨k, hk, rfl, rfl⟩ := hrel
  by_cases h : k < xs.length
  ·have hI : (k : Int) < xs.length := by omega
   obtain ⟨b, o, u, rfl, hck, rfl⟩ := H3.out k xs[k] (List.getElem?_eq_getElem h)
   have hst : sumL (xs.take (k + 1)) = crcL (sumL (xs.take k)) (bs xs[k]) := by
    rw [List.take_add_one, List.getElem?_eq_getElem h]
    exact sumL_snoc _ _
   have Hst := Lib.hid hst
   have Hc := Lib.hid (rupdate_any w (sumL (xs.take k)) xs[k] (sumL_lt _) (hs _ (List.getElem_mem h)))
   clear hst
   go_wp2_with (go_at_call 200; refine Hc.out.mono ?_; rintro e w' ⟨rfl, rfl⟩)
   go_round
   case rel => exact ⟨k + 1, by omega, by go_num, by rw [Hst.out]⟩
   case measure => simp [intOf]; omega
  ·have hkn : k = xs.length := by omega
   subst hkn
   go_wp2
   go_ret
   exact ⟨rfl, rfl⟩

end Go.Proofs.YtnlnmfkmbpihhaaGreatDoor

namespace Go.Proofs.YtnlnmfkmbpihhaaGreatDoor
open Go.RowKit

/-- The string of bytes. -/
def strB (l : List Nat) : ByteArray := ⟨(l.map UInt8.ofNat).toArray⟩
def be4 (c : Nat) : List Nat := [c / 16777216, c / 65536 % 256, c / 256 % 256, c % 256]

theorem be4_conv (w : World) (c : Nat) : (convert 100 9 (.slice (some ⟨w.heap.size, 0, none⟩) 4 4)).run Tryz.prog (w.alloc (.cells #[.int .u8 ((c : Int) / 16777216), .int .u8 ((c : Int) / 65536 % 256), .int .u8 ((c : Int) / 256 % 256), .int .u8 ((c : Int) % 256)] 5)) =
  .ok (.string (strB (be4 c))) (w.alloc (.cells #[.int .u8 ((c : Int) / 16777216), .int .u8 ((c : Int) / 65536 % 256), .int .u8 ((c : Int) / 256 % 256), .int .u8 ((c : Int) % 256)] 5)) := by
 have h := run_convert_bytes_arg (P := Tryz.prog) (w.alloc (.cells #[.int .u8 ((c : Int) / 16777216), .int .u8 ((c : Int) / 65536 % 256), .int .u8 ((c : Int) / 256 % 256), .int .u8 ((c : Int) % 256)] 5)) 100 5 Tryz.underlying100 Tryz.underlying5 w.heap.size 0 4 4
  [(c : Int) / 16777216, (c : Int) / 65536 % 256, (c : Int) / 256 % 256, (c : Int) % 256] rfl (fun i hi => ?_) 9 Tryz.underlying9
 ·rw [h]
  rfl
 ·rw [World.cell?_alloc_at _ _ _ _ (by simp)]
  match i, hi with
  | 0, _ => rfl
  | 1, _ => rfl
  | 2, _ => rfl
  | 3, _ => rfl
set_option maxRecDepth 100000 in
set_option maxHeartbeats 1000000 in
theorem cbytes_any (w : World) (c : Nat) (hc : c < 4294967296) : Calls Tryz.prog 114 #[.int .u32 c] w fun e w' => e = .returned (.string (strB (be4 c))) ∧ Below w.heap.size w w' := by
 have hcv := be4_conv w c
 go_enter Tryz.func114, Tryz.ntmps114
 go_wp2
 go_ret
 exact ⟨rfl, (Below.refl _ _).alloc (Nat.le_refl _) _⟩
set_option maxRecDepth 100000 in
set_option maxHeartbeats 1000000 in
theorem rbytes_any (w : World) (c : Nat) (hc : c < 4294967296) : Calls Tryz.prog 131 #[.int .u32 c] w fun e w' => e = .returned (.string (strB (be4 c))) ∧ Below w.heap.size w w' := by
 have hcv := be4_conv w c
 go_enter Tryz.func131, Tryz.ntmps131
 go_wp2
 go_ret
 exact ⟨rfl, (Below.refl _ _).alloc (Nat.le_refl _) _⟩

end Go.Proofs.YtnlnmfkmbpihhaaGreatDoor

namespace Go.Proofs.YtnlnmfkmbpihhaaGreatDoor
open Go.RowKit

theorem ret_bool' {a b : Bool} (h : a = b) : Ending.returned (.bool a) = .returned (.bool b) := by rw [h]
theorem within_any (w : World) (n lo hi : Int) (b : Bool) (hb : b = (decide (lo ≤ n) && decide (n ≤ hi))) : Calls Tryz.prog 177 #[.int .i64 n, .int .i64 lo, .int .i64 hi] w fun e w' => e = .returned (.bool b) ∧ w = w' := by
 have Hb := Lib.hid hb
 clear hb
 by_cases h1 : lo ≤ n
 ·by_cases h2 : n ≤ hi
  ·have hd : decide (n ≤ hi) = true := decide_eq_true h2
   go_enter Tryz.func177, Tryz.ntmps177
   go_wp2
   go_ret
   exact ⟨ret_bool' (by rw [Hb.out]; simp [h1, h2]), rfl⟩
  ·have hd : decide (n ≤ hi) = false := decide_eq_false h2
   go_enter Tryz.func177, Tryz.ntmps177
   go_wp2
   go_ret
   exact ⟨ret_bool' (by rw [Hb.out]; simp; omega), rfl⟩
 ·go_enter Tryz.func177, Tryz.ntmps177
  go_wp2
  go_ret
  exact ⟨ret_bool' (by rw [Hb.out]; simp; omega), rfl⟩
def markS : ByteArray := strB [49, 49, 49, 49, 49, 48, 48, 49, 49, 48, 49, 48, 49, 48, 48, 48]
theorem rmark_any (w : World) : Calls Tryz.prog 74 #[] w fun e w' => e = .returned (.string markS) ∧ w = w' := by
 go_enter Tryz.func74, Tryz.ntmps74
 go_wp2
 go_ret
 exact ⟨rfl, rfl⟩

end Go.Proofs.YtnlnmfkmbpihhaaGreatDoor

namespace Go.Proofs.YtnlnmfkmbpihhaaGreatDoor
open Go.RowKit

theorem bs_strB {l : List Nat} (h : ∀ b ∈ l, b < 256) : bs (strB l) = l := by
 unfold bs strB
 rw [List.toList_toArray, List.map_map]
 conv => rhs; rw [← List.map_id l]
 refine List.map_congr_left fun b hb => ?_
 simp only [Function.comp_apply, id_eq]
 exact Nat.mod_eq_of_lt (h b hb)
theorem strB_bs (s : ByteArray) : strB (bs s) = s := by
 unfold bs strB
 rw [List.map_map]
 have : (s.data.toList.map ((fun x => UInt8.ofNat x) ∘ fun x => x.toNat)) = s.data.toList := by
  conv => rhs; rw [← List.map_id s.data.toList]
  refine List.map_congr_left fun b _ => ?_
  simp
 have e : (s.data.toList.map (UInt8.ofNat ∘ fun x => x.toNat)) = s.data.toList := this
 rw [e]
theorem bs_inj {s t : ByteArray} (h : bs s = bs t) : s = t := by rw [← strB_bs s, ← strB_bs t, h]
theorem bs_extract (s : ByteArray) (i j : Nat) : bs (s.extract i j) = ((bs s).take j).drop i := by
 unfold bs
 rw [ByteArray.data_extract, Array.toList_extract, List.extract_eq_take_drop, ← List.map_take, ← List.map_drop, List.drop_take]
theorem strB_size (l : List Nat) : (strB l).size = l.length := by
 unfold strB
 show (List.toArray _).size = _
 simp
theorem bs_get (s : ByteArray) (i : Nat) (h : i < s.size) : (bs s)[i]? = some (s[i]'h).toNat := by
 have hl : i < s.data.toList.length := h
 unfold bs
 rw [List.getElem?_map, List.getElem?_eq_getElem hl]
 rfl
end Go.Proofs.YtnlnmfkmbpihhaaGreatDoor

namespace Go.Proofs.YtnlnmfkmbpihhaaGreatDoor
open Go.RowKit

end Go.Proofs.YtnlnmfkmbpihhaaGreatDoor

namespace Go.Proofs.YtnlnmfkmbpihhaaGreatDoor
open Go.RowKit

abbrev u8V (x : Nat) : Value := .int .u8 (x : Int)
abbrev BytesAt (w : World) (v : Value) (xs : List Nat) : Prop := SlAt (PlainR u8V) w v xs
theorem BytesAt.below {w w' : World} {v : Value} {xs : List Nat} (h : BytesAt w v xs) (hb : Below w.heap.size w w') : BytesAt w' v xs :=
 SlAt.keep h (fun _ _ => cell_below hb) plainR_keep
theorem SlAt.nil {α : Type} {R : World → Value → α → Prop} (w : World) : SlAt R w (.slice none 0 0) [] :=
 ⟨none, 0, rfl, Nat.le_refl _, by omega, fun i x h => by cases h⟩
/-- A slice's cell. -/
theorem SlAt.cell {α : Type} {f : α → Value} {w : World} {A : Option Addr} {n c : Nat} {xs : List α} (h : SlAt (PlainR f) w (.slice A n c) xs) {i : Nat} {x : α} (hi : xs[i]? = some x) : ∃ b o, A = some ⟨b, o, none⟩ ∧ w.cell? ⟨b, o + i, none⟩ = some (f x) := by
 obtain ⟨A', c', e, _, _, h3⟩ := h
 cases e
 obtain ⟨b, o, u, rfl, hc, rfl⟩ := h3 i x hi
 exact ⟨b, o, rfl, hc⟩
/-- The front of a slice. -/
theorem SlAt.take {α : Type} {f : α → Value} {w : World} {A : Option Addr} {n c : Nat} {xs : List α} (h : SlAt (PlainR f) w (.slice A n c) xs) {k : Nat} (hk : k ≤ xs.length) : SlAt (PlainR f) w (.slice A k c) (xs.take k) := by
 obtain ⟨A', c', e, h1, h2, h3⟩ := h
 cases e
 refine ⟨_, _, by rw [List.length_take, Nat.min_eq_left hk], by rw [List.length_take]; omega, h2, fun i x hi => h3 i x ?_⟩
 rw [List.getElem?_take] at hi
 split at hi
 ·exact hi
 ·cases hi

/-- Block g is just these cells, none frozen. -/
def Blk (w : World) (g : Nat) (t : TypeId) (us : List Value) : Prop := w.heap[g]? = some (.cells us.toArray t (0, 0))
section
variable {w w' : World} {g : Nat} {t : TypeId} {us : List Value}
theorem Blk.lt (h : Blk w g t us) : g < w.heap.size := (Array.getElem?_eq_some_iff.1 h).1
theorem Blk.cell (h : Blk w g t us) {i : Nat} {u : Value} (hi : us[i]? = some u) : w.cell? ⟨g, i, none⟩ = some u := by
 unfold Blk at h
 simp only [World.cell?, h]
 simpa using hi
theorem Blk.frozen (h : Blk w g t us) (i : Nat) : w.frozen? ⟨g, i, none⟩ = false := by
 unfold Blk at h
 simp [World.frozen?, h]
theorem Blk.new (w : World) (t : TypeId) (us : List Value) : Blk (w.alloc (.cells us.toArray t)) w.heap.size t us := by
 show (w.heap.push _)[w.heap.size]? = _
 simp
theorem Blk.of_heap (h : w'.heap[g]? = w.heap[g]?) (hb : Blk w g t us) : Blk w' g t us := h.trans hb
theorem Blk.below {B : Nat} (h : Blk w g t us) (hb : Below B w w') (hg : g < B) : Blk w' g t us := (hb.block g hg).trans h
theorem Blk.kept (h : Blk w g t us) (hb : Below w.heap.size w w') : Blk w' g t us := (hb.block g h.lt).trans h
theorem Blk.alloc (h : Blk w g t us) (o : Obj) : Blk (w.alloc o) g t us := h.kept ((Below.refl _ _).alloc (Nat.le_refl _) _)
theorem Blk.set (h : Blk w g t us) (i : Nat) (u : Value) : Blk (w.setCell ⟨g, i, none⟩ u) g t (us.set i u) := by
 unfold Blk at h ⊢
 simp [World.setCell, Array.getElem?_modify, h]
theorem Blk.far (h : Blk w g t us) {p : Addr} (hp : g ≠ p.block) (u : Value) : Blk (w.setCell p u) g t us := (Below.heap_setCell w p u g hp).trans h
theorem Blk.slAt {α : Type} {f : α → Value} {xs : List α} (h : Blk w g t (xs.map f)) {c : Nat} (h1 : xs.length ≤ c) (h2 : c ≤ 9223372036854775807) : SlAt (PlainR f) w (.slice (some ⟨g, 0, none⟩) xs.length c) xs :=
 ⟨_, c, rfl, h1, h2, fun i x hi => ⟨g, 0, f x, rfl, by rw [Nat.zero_add]; exact h.cell (by rw [List.getElem?_map, hi]; rfl), rfl⟩⟩
end
/-- Bytes as cells. -/
def arrB (xs : List Nat) : Array Value := (xs.map u8V).toArray
abbrev U8B (w : World) (g : Nat) (xs : List Nat) : Prop := Blk w g 5 (xs.map u8V)
theorem U8B.new (w : World) (xs : List Nat) : U8B (w.alloc (.cells (arrB xs) 5)) w.heap.size xs := Blk.new w _ _
theorem U8B.cell {w : World} {g : Nat} {xs : List Nat} (h : U8B w g xs) {i x : Nat} (hi : xs[i]? = some x) : w.cell? ⟨g, i, none⟩ = some (.int .u8 (x : Int)) :=
 Blk.cell h (by rw [List.getElem?_map, hi]; rfl)
theorem U8B.set {w : World} {g : Nat} {xs : List Nat} (h : U8B w g xs) (i x : Nat) : U8B (w.setCell ⟨g, i, none⟩ (.int .u8 (x : Int))) g (xs.set i x) := by
 unfold U8B
 rw [List.map_set]
 exact Blk.set h i (u8V x)
theorem U8B.bytes {w : World} {g : Nat} {xs : List Nat} (h : U8B w g xs) {n c : Nat} (hn : n = xs.length) (h1 : n ≤ c) (h2 : c ≤ 9223372036854775807) : BytesAt w (.slice (some ⟨g, 0, none⟩) n c) xs := by
 subst hn
 exact Blk.slAt h h1 h2
theorem Tryz.infoU8 : (Tryz.prog.info? 5).map (fun i => (i.zero, i.size, i.bytes)) = some (some (.int .u8 0), 1, 1) := by kernel_rfl
/-- make([]byte, n). -/
theorem make_u8 (n c : Nat) (hnc : n ≤ c) (hc : c ≤ 1000000) (w : World) : (Instr.makeSlice 100 (.int .i64 (n : Int)) (.int .i64 (c : Int))).run Tryz.prog w = .ok (.slice (some ⟨w.heap.size, 0, none⟩) n c) (w.alloc (.cells (arrB (List.replicate c 0)) 5)) := by
 obtain ⟨i0, hi, hz0, hz1, hz2⟩ := info_parts Tryz.infoU8
 have hr := run_make (P := Tryz.prog) w 100 5 i0 (.int .u8 0) Tryz.underlying100 hi hz0 .i64 .i64 n c (by omega) (by omega) (by rw [hz2]; omega) (by omega)
 rw [hr, hz1]
 have e : madeCells (Value.int .u8 0).cells ((c : Int).toNat * 1) = arrB (List.replicate c 0) := by
  show madeCells #[Value.int .u8 0] _ = _
  unfold madeCells arrB
  rw [Nat.mul_one, Int.toNat_natCast, List.map_replicate]
  refine Array.ext (by simp) fun i h1 h2 => ?_
  simp [Nat.mod_one]
 rw [e]
 rfl

end Go.Proofs.YtnlnmfkmbpihhaaGreatDoor

namespace Go.Proofs.YtnlnmfkmbpihhaaGreatDoor
open Go.RowKit

theorem own_ge {w : World} {base n : Nat} {t : TypeId} {v : Value} {xs : List Value} (h : w.ownsRow base t 1 v n xs) : ∀ k, v.ownBlock = some k → base ≤ k := by
 rcases h.2 with ⟨rfl, _⟩ | ⟨g, cap, cur, rfl, hb, _⟩
 ·intro k hk; cases hk
 ·intro k hk; cases hk; exact hb

theorem own_mono {w : World} {base base' n : Nat} {t : TypeId} {v : Value} {xs : List Value} (h : w.ownsRow base t 1 v n xs) (hb : base' ≤ base) : w.ownsRow base' t 1 v n xs :=
 ⟨h.1, h.2.imp id fun ⟨g, cap, cur, a, b, c⟩ => ⟨g, cap, cur, a, Nat.le_trans hb b, c⟩⟩

theorem cell_one_new (w : World) (x : Value) (t : TypeId) (j : Nat) (u : Value) (hu : [x][j]? = some u) : (w.alloc (.cells #[x] t)).cell? (Addr.add ⟨w.heap.size, 0, none⟩ j) = some u := by
 cases j with
 | zero =>
  cases hu
  rw [Addr.add_lit, World.cell?_alloc_at _ _ _ _ (by simp)]
  rfl
 | succ j => cases hu
/-- Slice value v reads as these cells. -/
def VAt (w : World) (v : Value) (us : List Value) : Prop :=
 ∃ A c, v = .slice A us.length c ∧ us.length ≤ c ∧ c ≤ 9223372036854775807 ∧ ∀ j u, us[j]? = some u → ∃ ad, A = some ad ∧ w.cell? (ad.add j) = some u
theorem SlAt.vAt {α : Type} {f : α → Value} {w : World} {v : Value} {xs : List α} (h : SlAt (PlainR f) w v xs) : VAt w v (xs.map f) := by
 obtain ⟨A, c, rfl, h1, h2, h3⟩ := h
 refine ⟨A, c, by rw [List.length_map], by simpa using h1, h2, fun j u hu => ?_⟩
 rw [List.getElem?_map] at hu
 obtain ⟨x, hx, rfl⟩ := Option.map_eq_some_iff.1 hu
 obtain ⟨b, o, u, rfl, hc, rfl⟩ := h3 j x hx
 exact ⟨_, rfl, by rw [Addr.add_lit]; exact hc⟩
theorem VAt.one (w : World) (x : Value) (t : TypeId) : VAt (w.alloc (.cells #[x] t)) (.slice (some ⟨w.heap.size, 0, none⟩) 1 1) [x] :=
 ⟨_, 1, rfl, Nat.le_refl _, by omega, fun j u hu => ⟨_, rfl, cell_one_new w x t j u hu⟩⟩
section
variable (w : World) {TS T : TypeId} {z : Value} {b : Nat} (hT : Tryz.prog.underlying TS = some (.slice T)) (hinfo : (Tryz.prog.info? T).map (fun i => (i.zero, i.size, i.bytes)) = some (some z, 1, b)) (hz : z.cells.size = 1) (hb : b ≤ 24)
include hT hinfo

theorem run_append_nilV (B : Nat) (ty : TypeId) (v : Value) (n c : Nat) (xs : List Value) (hown : w.ownsRow B T 1 v n xs) : (Builtin.append_ #[TS, TS] ty #[v, .slice none 0 c]).run Tryz.prog w = .ok v w := by
 obtain ⟨i0, hi, hz0, hz1, hz2⟩ := info_parts hinfo
 rcases hown.2 with ⟨rfl, rfl⟩ | ⟨g, cap, cur, rfl, _, _, hnc, _⟩
 ·simp [Builtin.append_, run_underlying hT, sizeOf, typeInfo, hi, Builtin.lenOf, Builtin.firstCells]
 ·simp [Builtin.append_, run_underlying hT, sizeOf, typeInfo, hi, Builtin.lenOf, Builtin.firstCells, hnc, storeCells]

include hz hb in
theorem run_appendV (B : Nat) (ty : TypeId) (v : Value) (n : Nat) (xs : List Value) (hown : w.ownsRow B T 1 v n xs) (vx : Value) (us : List Value) (hv : VAt w vx us) (h1 : ∀ u ∈ us, u.oneCell' = true) (hn : n + us.length ≤ 1000000) (hB : B ≤ w.heap.size) :
  ∃ v' w', (Builtin.append_ #[TS, TS] ty #[v, vx]).run Tryz.prog w = .ok v' w' ∧ w'.ownsRow B T 1 v' (n + us.length) (xs ++ us) ∧ w.grownBy w' v.ownBlock ∧ (v'.ownBlock = v.ownBlock ∨ v'.ownBlock = some w.heap.size) := by
 obtain ⟨A, c, rfl, g1, g2, g3⟩ := hv
 cases A with
 | none =>
  have hy : us = [] := by
   cases us with
   | nil => rfl
   | cons y r => obtain ⟨_, e, _⟩ := g3 0 y rfl; cases e
  subst hy
  exact ⟨v, w, run_append_nilV w hT hinfo B ty v n c _ hown, by simpa using hown, World.grownBy.refl w _, .inl rfl⟩
 | some ad =>
  obtain ⟨i0, hi, hz0, hz1, hz2⟩ := info_parts hinfo
  obtain ⟨v', w', hr, k1, k2, _, k3⟩ := run_append_own_at (P := Tryz.prog) w B TS ty T i0 z 1 b hT hi hz0 hz1 hz2 hz (by decide) v n xs hown ad us.length c us (by simp)
   (fun j u hu => by obtain ⟨_, e, h⟩ := g3 j u hu; cases e; exact h) h1 (by unfold maxLen; omega) (Nat.le_trans (Nat.mul_le_mul hn hb) (by omega)) hB
  exact ⟨v', w', hr, k1, k2, k3⟩

include hz hb in
theorem wp_appendV {o : Oper} {a : Act} {K : Act → World → Prop} {Q : Exit → Act → World → Prop} (s x : Operand) (ho : o.op = .call { callee := .builtin .append, args := #[s, x], argTypes := #[TS, TS] })
  (B : Nat) (v : Value) (n : Nat) (xs : List Value) (hs : a.eval s = v) (vx : Value) (hx : a.eval x = vx) (hown : w.ownsRow B T 1 v n xs) (us : List Value) (hv : VAt w vx us) (h1 : ∀ u ∈ us, u.oneCell' = true) (hn : n + us.length ≤ 1000000) (hB : B ≤ w.heap.size)
  (h : ∀ v' w', w'.ownsRow B T 1 v' (n + us.length) (xs ++ us) → w.grownBy w' v.ownBlock → (v'.ownBlock = v.ownBlock ∨ v'.ownBlock = some w.heap.size) → Below B w w' → K (a.put o.dst v') w') : o.wp Tryz.prog a w K Q := by
 obtain ⟨v', w', hr, g1, g2, g3⟩ := run_appendV w hT hinfo hz hb B o.type v n xs hown vx us hv h1 hn hB
 unfold Oper.wp execOp
 simp only [ho, resolve, invoke, builtin, Sem.run_bind, Sem.run_pure, Result.andThen_ok, List.map_toArray, List.map_cons, List.map_nil, hs, hx, hr]
 exact h v' w' g1 g2 g3 ((Below.refl _ _).grown g2 hB (own_ge hown))

include hz hb in
theorem wpList_appendV {ops : Array Oper} {rest : List Oper} {o : Oper} {a : Act} {Q : Exit → Act → World → Prop} (hw : Region.wanted o (yielded ops a.tmps) = true) (s x : Operand) (ho : o.op = .call { callee := .builtin .append, args := #[s, x], argTypes := #[TS, TS] })
  (B : Nat) (v : Value) (n : Nat) (xs : List Value) (hs : a.eval s = v) (vx : Value) (hx : a.eval x = vx) (hown : w.ownsRow B T 1 v n xs) (us : List Value) (hv : VAt w vx us) (h1 : ∀ u ∈ us, u.oneCell' = true) (hn : n + us.length ≤ 1000000) (hB : B ≤ w.heap.size)
  (h : ∀ v' w', w'.ownsRow B T 1 v' (n + us.length) (xs ++ us) → w.grownBy w' v.ownBlock → (v'.ownBlock = v.ownBlock ∨ v'.ownBlock = some w.heap.size) → Below B w w' → wpList Tryz.prog ops Q rest (a.put o.dst v') w') : wpList Tryz.prog ops Q (o :: rest) a w :=
 wpList_step fun K hK => by
  simp only [hw, if_true]
  exact wp_appendV w hT hinfo hz hb s x ho B v n xs hs vx hx hown us hv h1 hn hB fun v' w' g1 g2 g3 g4 => hK _ _ (h v' w' g1 g2 g3 g4)

include hz hb in
end

theorem one_u8s (xs : List Nat) : ∀ u ∈ xs.map u8V, u.oneCell' = true := by
 intro u hu
 obtain ⟨x, _, rfl⟩ := List.mem_map.1 hu
 rfl
/-- A row of bytes of the call's own reads as a slice. -/
theorem BytesAt.of_own {w : World} {base n : Nat} {v : Value} {xs : List Nat} (h : w.ownsRow base 5 1 v n (xs.map u8V)) : BytesAt w v xs := by
 obtain ⟨hl, h⟩ := h
 have hn : xs.length = n := by simpa using hl
 rcases h with ⟨rfl, h0⟩ | ⟨g, cap, cur, rfl, hb, hh, hnc, hm, hsz, htk⟩
 ·have : xs = [] := List.eq_nil_of_length_eq_zero (by omega)
  subst this
  exact SlAt.nil w
 ·refine ⟨some ⟨g, 0, none⟩, cap, by rw [hn], by omega, hm, fun i x hx => ⟨g, 0, u8V x, rfl, ?_, rfl⟩⟩
  have h2 : (xs.map u8V)[i]? = some (u8V x) := by rw [List.getElem?_map, hx]; rfl
  rw [← htk, List.getElem?_take] at h2
  split at h2
  ·simp only [World.cell?, hh, Nat.zero_add]
   simpa using h2
  ·cases h2
theorem own_empty (w : World) (t : TypeId) (size : Nat) : (w.alloc (.cells #[] t)).ownsRow w.heap.size t size (.slice (some ⟨w.heap.size, 0, none⟩) 0 0) 0 [] :=
 ⟨by simp, .inr ⟨w.heap.size, 0, #[], rfl, Nat.le_refl _, by show (w.heap.push _)[w.heap.size]? = _; simp, Nat.le_refl _, Nat.zero_le _, by simp, by simp⟩⟩
/-- A new block is a row of the call's own. -/
theorem own_blk {w : World} {g : Nat} {t : TypeId} {us : List Value} {base n : Nat} (h : Blk w g t us) (hb : base ≤ g) (hn : n = us.length) (hm : us.length ≤ 9223372036854775807) : w.ownsRow base t 1 (.slice (some ⟨g, 0, none⟩) n n) n us := by
 subst hn
 exact ⟨by simp, .inr ⟨g, us.length, us.toArray, rfl, hb, h, Nat.le_refl _, hm, by simp, by simp⟩⟩

theorem cells_of {w : World} {A : Option Addr} {n c : Nat} {p : List Nat} (h : BytesAt w (.slice A n c) p) : (p = [] ∨ ∃ ad, A = some ad) ∧ ∀ ad, A = some ad → ∀ (j : Nat) (u : Value), (p.map u8V)[j]? = some u → w.cell? (ad.add j) = some u := by
 refine ⟨?_, fun ad e j u hu => ?_⟩
 ·cases p with
  | nil => exact .inl rfl
  | cons x r =>
   obtain ⟨b, o, e, _⟩ := h.cell (i := 0) rfl
   exact .inr ⟨_, e⟩
 ·subst e
  rw [List.getElem?_map] at hu
  obtain ⟨x, hx, rfl⟩ := Option.map_eq_some_iff.1 hu
  obtain ⟨b, o, e, hc⟩ := h.cell hx
  cases e
  rw [Addr.add_lit]
  exact hc
/-- copy to the head of a block of the call's own. -/
theorem run_copyB {W : World} {g n c : Nat} {A : Option Addr} {m k : Nat} {cur p : List Nat} (ty : TypeId) (hg : U8B W g cur) (hp : BytesAt W (.slice A m c) p) (hm : m = p.length) (hpn : p.length ≤ n) (hn : n = cur.length) :
  ∃ w2, (Builtin.copy_ #[100, 100] ty #[.slice (some ⟨g, 0, none⟩) n k, .slice A m c]).run Tryz.prog W = .ok (.int .i64 (m : Int)) w2 ∧ U8B w2 g (p ++ cur.drop p.length) ∧ ∀ B w0, Below B w0 W → B ≤ g → Below B w0 w2 := by
 subst hm hn
 obtain ⟨h1, h2⟩ := cells_of hp
 have hmin : Nat.min p.length cur.length = p.length := Nat.min_eq_left hpn
 rcases h1 with rfl | ⟨ad, rfl⟩
 ·refine ⟨W, ?_, by simpa using hg, fun B w0 hb _ => hb⟩
  exact run_copy_none (P := Tryz.prog) W 100 100 ty 5 _ _ _ _ _ _ Tryz.underlying100 (by kernel_rfl) (Nat.zero_min _)
 ·have hr := run_copy_row (P := Tryz.prog) W 100 100 ty 5 g 0 cur.length k ad p.length c _ 5 (p.map u8V) Tryz.underlying100 (by kernel_rfl) hg (by rw [List.length_map]; exact hmin.symm) (h2 ad rfl) (by simpa using hpn) (one_u8s p)
  rw [List.length_map] at hr
  have hs := setRow_heap W g (cur.map u8V).toArray (List.take 0 ((cur.map u8V).toArray.toList) ++ p.map u8V ++ List.drop (0 + p.length) ((cur.map u8V).toArray.toList)).toArray 5 _ hg
  refine ⟨_, hr, hs.trans ?_, fun B w0 hb hB => below_setRow hb hB _⟩
  simp
/-- append of one byte to a row of the call's own. -/
theorem run_app1 {W : World} {B n : Nat} {v : Value} {xs : List Nat} (ty : TypeId) (x : Nat) (hown : W.ownsRow B 5 1 v n (xs.map u8V)) (hn : n ≤ 900000) (hB : B ≤ W.heap.size) :
  ∃ v' w', (Builtin.append_ #[100, 100] ty #[v, .slice (some ⟨W.heap.size, 0, none⟩) 1 1]).run Tryz.prog (W.alloc (.cells #[.int .u8 (x : Int)] 5)) = .ok v' w' ∧ w'.ownsRow B 5 1 v' (n + 1) ((xs ++ [x]).map u8V) ∧ Below B W w' := by
 obtain ⟨v', w', hr, h1, h2, _⟩ := run_appendV (W.alloc (.cells #[u8V x] 5)) Tryz.underlying100 Tryz.infoU8 rfl (by omega) B ty v n _ (hown.alloc _) _ [u8V x] (VAt.one W _ _) (by simp [Value.oneCell']) (by simp; omega) (by simp; omega)
 refine ⟨v', w', hr, by simpa using h1, ?_⟩
 exact ((Below.refl _ _).alloc hB _).grown h2 (by simp; omega) (own_ge hown)

theorem wpList_app1 {ops : Array Oper} {rest : List Oper} {o : Oper} {a : Act} {Q : Exit → Act → World → Prop} {W : World} {B n : Nat} {v : Value} {xs : List Nat} {x : Nat} (hw : Region.wanted o (yielded ops a.tmps) = true) (s y : Operand) (ho : o.op = .call { callee := .builtin .append, args := #[s, y], argTypes := #[100, 100] })
  (hs : a.eval s = v) (hy : a.eval y = .slice (some ⟨W.heap.size, 0, none⟩) 1 1) (hown : W.ownsRow B 5 1 v n (xs.map u8V)) (hn : n ≤ 900000) (hB : B ≤ W.heap.size)
  (h : ∀ v' w', w'.ownsRow B 5 1 v' (n + 1) ((xs ++ [x]).map u8V) → Below B W w' → wpList Tryz.prog ops Q rest (a.put o.dst v') w') : wpList Tryz.prog ops Q (o :: rest) a (W.alloc (.cells #[.int .u8 (x : Int)] 5)) :=
 wpList_step fun K hK => by
  simp only [hw, if_true]
  obtain ⟨v', w', hr, g1, g2⟩ := run_app1 o.type x hown hn hB
  unfold Oper.wp execOp
  simp only [ho, resolve, invoke, builtin, Sem.run_bind, Sem.run_pure, Result.andThen_ok, List.map_toArray, List.map_cons, List.map_nil, hs, hy, hr]
  exact hK _ _ (h v' w' g1 g2)
theorem step_app1 {ops : Array Oper} {o : Oper} {a : Act} {K : Act → World → Prop} {Q : Exit → Act → World → Prop} {E : Prop} {W : World} {B n : Nat} {v : Value} {xs : List Nat} {x : Nat} (hw : Region.wanted o (yielded ops a.tmps) = true) (s y : Operand) (ho : o.op = .call { callee := .builtin .append, args := #[s, y], argTypes := #[100, 100] })
  (hs : a.eval s = v) (hy : a.eval y = .slice (some ⟨W.heap.size, 0, none⟩) 1 1) (hown : W.ownsRow B 5 1 v n (xs.map u8V)) (hn : n ≤ 900000) (hB : B ≤ W.heap.size)
  (h : ∀ v' w', w'.ownsRow B 5 1 v' (n + 1) ((xs ++ [x]).map u8V) → Below B W w' → K (a.put o.dst v') w') :
  if Region.wanted o (yielded ops a.tmps) = true then Oper.wp Tryz.prog o a (W.alloc (.cells #[.int .u8 (x : Int)] 5)) K Q else E := by
 rw [if_pos hw]
 obtain ⟨v', w', hr, g1, g2⟩ := run_app1 o.type x hown hn hB
 unfold Oper.wp execOp
 simp only [ho, resolve, invoke, builtin, Sem.run_bind, Sem.run_pure, Result.andThen_ok, List.map_toArray, List.map_cons, List.map_nil, hs, hy, hr]
 exact h v' w' g1 g2
/-- A slice's byte. -/
theorem BytesAt.cell {w : World} {A : Option Addr} {n c : Nat} {xs : List Nat} (h : BytesAt w (.slice A n c) xs) {i x : Nat} (hi : xs[i]? = some x) : ∃ b o, A = some ⟨b, o, none⟩ ∧ w.cell? ⟨b, o + i, none⟩ = some (.int .u8 (x : Int)) := SlAt.cell h hi
section
variable {TS T : TypeId} {z : Value} {b : Nat} (hT : Tryz.prog.underlying TS = some (.slice T)) (hinfo : (Tryz.prog.info? T).map (fun i => (i.zero, i.size, i.bytes)) = some (some z, 1, b)) (hz : z.cells.size = 1) (hb : b ≤ 24)
include hT hinfo hz hb
/-- append of one cell to a row of the call's own. -/
theorem run_appOne {W : World} {B n : Nat} {v x : Value} {xs : List Value} (ty : TypeId) (h1 : x.oneCell' = true) (hown : W.ownsRow B T 1 v n xs) (hn : n ≤ 900000) (hB : B ≤ W.heap.size) :
  ∃ v' w', (Builtin.append_ #[TS, TS] ty #[v, .slice (some ⟨W.heap.size, 0, none⟩) 1 1]).run Tryz.prog (W.alloc (.cells #[x] T)) = .ok v' w' ∧ w'.ownsRow B T 1 v' (n + 1) (xs ++ [x]) ∧ Below B W w' := by
 obtain ⟨v', w', hr, h1, h2, _⟩ := run_appendV (W.alloc (.cells #[x] T)) hT hinfo hz hb B ty v n _ (hown.alloc _) _ [x] (VAt.one W _ _) (by simpa using h1) (by simp; omega) (by simp; omega)
 exact ⟨v', w', hr, by simpa using h1, ((Below.refl _ _).alloc hB _).grown h2 (by simp; omega) (own_ge hown)⟩
theorem wpList_appOne {ops : Array Oper} {rest : List Oper} {o : Oper} {a : Act} {Q : Exit → Act → World → Prop} {W : World} {B n : Nat} {v x : Value} {xs : List Value} (hw : Region.wanted o (yielded ops a.tmps) = true) (s y : Operand) (ho : o.op = .call { callee := .builtin .append, args := #[s, y], argTypes := #[TS, TS] })
  (hs : a.eval s = v) (hy : a.eval y = .slice (some ⟨W.heap.size, 0, none⟩) 1 1) (h1 : x.oneCell' = true) (hown : W.ownsRow B T 1 v n xs) (hn : n ≤ 900000) (hB : B ≤ W.heap.size)
  (h : ∀ v' w', w'.ownsRow B T 1 v' (n + 1) (xs ++ [x]) → Below B W w' → wpList Tryz.prog ops Q rest (a.put o.dst v') w') : wpList Tryz.prog ops Q (o :: rest) a (W.alloc (.cells #[x] T)) :=
 wpList_step fun K hK => by
  simp only [hw, if_true]
  obtain ⟨v', w', hr, g1, g2⟩ := run_appOne hT hinfo hz hb o.type h1 hown hn hB
  unfold Oper.wp execOp
  simp only [ho, resolve, invoke, builtin, Sem.run_bind, Sem.run_pure, Result.andThen_ok, List.map_toArray, List.map_cons, List.map_nil, hs, hy, hr]
  exact hK _ _ (h v' w' g1 g2)
end
/-- A row of ints of the call's own reads as a slice. -/
theorem SlAt.of_own {α : Type} {f : α → Value} {w : World} {base n : Nat} {t : TypeId} {v : Value} {xs : List α} (h : w.ownsRow base t 1 v n (xs.map f)) : SlAt (PlainR f) w v xs := by
 obtain ⟨hl, h⟩ := h
 have hn : xs.length = n := by simpa using hl
 rcases h with ⟨rfl, h0⟩ | ⟨g, cap, cur, rfl, hb, hh, hnc, hm, hsz, htk⟩
 ·have : xs = [] := List.eq_nil_of_length_eq_zero (by omega)
  subst this
  exact SlAt.nil w
 ·refine ⟨some ⟨g, 0, none⟩, cap, by rw [hn], by omega, hm, fun i x hx => ⟨g, 0, f x, rfl, ?_, rfl⟩⟩
  have h2 : (xs.map f)[i]? = some (f x) := by rw [List.getElem?_map, hx]; rfl
  rw [← htk, List.getElem?_take] at h2
  split at h2
  ·simp only [World.cell?, hh, Nat.zero_add]
   simpa using h2
  ·cases h2
theorem Tryz.infoInt : (Tryz.prog.info? 3).map (fun i => (i.zero, i.size, i.bytes)) = some (some (.int .i64 0), 1, 8) := by kernel_rfl
/-- A slice of one byte that was just laid. -/
theorem BytesAt.one (w : World) (x : Nat) : BytesAt (w.alloc (.cells #[.int .u8 (x : Int)] 5)) (.slice (some ⟨w.heap.size, 0, none⟩) 1 1) [x] :=
 U8B.bytes (U8B.new w [x]) rfl (Nat.le_refl _) (by omega)
/-- A callee that only reckons, in a region that draws, ahead of its last write. -/
theorem still_of {P : Program} {f : FuncId} {args : Array Value} {w : World} {v : Value} (h : Calls P f args w fun e w' => e = .returned v ∧ w = w') : Calls P f args w fun e w' => e = .returned v ∧ w' = w :=
 h.mono fun _ _ ⟨he, hw⟩ => ⟨he, hw.symm⟩
theorem U8B.drew {w : World} {g : Nat} {xs : List Nat} (h : U8B w g xs) : U8B w.drew g xs := h

end Go.Proofs.YtnlnmfkmbpihhaaGreatDoor

namespace Go.Proofs.YtnlnmfkmbpihhaaGreatDoor
open Go.RowKit

/-- Block g begins with these bytes, and they may be written. -/
structure RowB (w : World) (g : Nat) (xs : List Nat) : Prop where
 lt : g < w.heap.size
 cell : ∀ i x : Nat, xs[i]? = some x → w.cell? ⟨g, i, none⟩ = some (.int .u8 (x : Int))
 free : ∀ i, i < xs.length → w.frozen? ⟨g, i, none⟩ = false
section
variable {w w' : World} {g : Nat} {xs : List Nat}
theorem RowB.of_heap (h : RowB w g xs) (hw : w'.heap[g]? = w.heap[g]?) : RowB w' g xs := by
 refine ⟨?_, fun i x hx => (World.cell?_of_block (a := ⟨g, i, none⟩) hw).trans (h.cell i x hx), fun i hi => ?_⟩
 ·have hl := h.lt
  rcases Nat.lt_or_ge g w'.heap.size with h1 | h1
  ·exact h1
  ·rw [Array.getElem?_eq_none h1, Array.getElem?_eq_getElem hl] at hw
   cases hw
 ·have := h.free i hi
  simp only [World.frozen?] at this ⊢
  rw [hw]
  exact this
theorem RowB.kept (h : RowB w g xs) (hb : Below w.heap.size w w') : RowB w' g xs := h.of_heap (hb.block g h.lt)
theorem RowB.below {B : Nat} (h : RowB w g xs) (hb : Below B w w') (hg : g < B) : RowB w' g xs := h.of_heap (hb.block g hg)
theorem RowB.set (h : RowB w g xs) (i x : Nat) : RowB (w.setCell ⟨g, i, none⟩ (.int .u8 (x : Int))) g (xs.set i x) := by
 refine ⟨by have := h.lt; simpa using this, fun j y hy => ?_, fun j hj => ?_⟩
 ·rw [List.getElem?_set] at hy
  by_cases hij : i = j
  ·subst hij
   rw [if_pos rfl] at hy
   split at hy
   ·rename_i hl
    cases hy
    have hc := h.cell i _ (List.getElem?_eq_getElem hl)
    exact World.cell?_setCell_same' _ _ _ (by rw [hc]; rfl)
   ·cases hy
  ·rw [if_neg hij] at hy
   rw [World.cell?_setCell_other _ _ _ _ (fun e => hij (by injection e))]
   exact h.cell j y hy
 ·rw [World.frozen?_setCell]
  exact h.free j (by simpa using hj)
theorem RowB.bytes (h : RowB w g xs) {n c : Nat} (hn : n = xs.length) (h1 : n ≤ c) (h2 : c ≤ 9223372036854775807) : BytesAt w (.slice (some ⟨g, 0, none⟩) n c) xs := by
 subst hn
 exact ⟨_, c, rfl, h1, h2, fun i x hi => ⟨g, 0, u8V x, rfl, by rw [Nat.zero_add]; exact h.cell i x hi, rfl⟩⟩
end
/-- []byte(s). -/
theorem run_toBytes (W : World) (s : ByteArray) (hs : s.size ≤ 1000000) :
  ∃ c w1, (convert 9 100 (.string s)).run Tryz.prog W = .ok (.slice (some ⟨W.heap.size, 0, none⟩) s.size c) w1 ∧ s.size ≤ c ∧ c ≤ 9223372036854775807 ∧ RowB w1 W.heap.size (bs s) ∧ Below W.heap.size W w1 ∧ w1.heap.size = W.heap.size + 1 := by
 have hr := run_bytes_of_string (P := Tryz.prog) W 9 100 5 s Tryz.underlying9 Tryz.underlying100 Tryz.underlying5
 have hge := grownCap_ge W s.size 0 5
 have hle := grownCap_le_maxLen W s.size 0 5 (by unfold maxLen; omega)
 generalize grownCap W s.size 0 5 = c at *
 refine ⟨c, _, hr, hge, hle, ?_, ?_, by simp⟩
 ·have hh : (W.drew.alloc (.cells (bytesRow s c) 5 ((bytesRow s c).size, (bytesRow s c).size + 1))).heap[W.heap.size]? = some (.cells (bytesRow s c) 5 ((bytesRow s c).size, (bytesRow s c).size + 1)) := by
   show (W.heap.push _)[W.heap.size]? = _
   simp
  refine ⟨by simp, fun i x hx => ?_, fun i hi => ?_⟩
  ·simp only [World.cell?, hh]
   have hil := (List.getElem?_eq_some_iff.1 hx).1
   rw [bs_len] at hil
   rw [bs_get s i hil] at hx
   have hi2 : i < (s.data.map (fun b => Value.int .u8 (b.toNat : Int))).size := by simpa using hil
   unfold bytesRow
   rw [Array.getElem?_append_left hi2, Array.getElem?_eq_getElem hi2]
   cases hx
   simp
   rfl
  ·rw [bs_len] at hi
   have hsz : i < (bytesRow s c).size := by unfold bytesRow; simp; omega
   simp only [World.frozen?, hh]
   simp
   omega
 ·exact ((Below.refl W.heap.size W).drew).alloc (Nat.le_refl _) _
/-- string(b). -/
theorem run_toStr {W : World} {A : Option Addr} {n c : Nat} {p : List Nat} (h : BytesAt W (.slice A n c) p) (hn : n = p.length) : (convert 100 9 (.slice A n c)).run Tryz.prog W = .ok (.string (strB p)) W := by
 subst hn
 cases A with
 | none =>
  have hp : p = [] := by
   cases p with
   | nil => rfl
   | cons x r => obtain ⟨_, _, e, _⟩ := BytesAt.cell h (i := 0) rfl; cases e
  subst hp
  exact run_convert_bytes_nil (P := Tryz.prog) W 100 5 Tryz.underlying100 Tryz.underlying5 _ _ 9 Tryz.underlying9
 | some ad =>
  obtain ⟨b, o, f⟩ := ad
  by_cases hp : p = []
  ·subst hp
   have hl : (loadCells ⟨b, o, f⟩ 0).run Tryz.prog W = .ok #[] W := by simpa using run_loadCells_list (P := Tryz.prog) W ⟨b, o, f⟩ [] (by simp)
   show (convert 100 9 (.slice (some ⟨b, o, f⟩) 0 c)).run Tryz.prog W = _
   rw [run_convert_bytes_string W 100 9 5 _ 0 c Tryz.underlying100 Tryz.underlying5 Tryz.underlying9, run_bytesToString W _ 0 c [] hl]
   rfl
  ·obtain ⟨x, hx⟩ : ∃ x, p[0]? = some x := by
    cases p with
    | nil => exact absurd rfl hp
    | cons x r => exact ⟨x, rfl⟩
   obtain ⟨b', o', e, _⟩ := BytesAt.cell h hx
   cases e
   have hr := run_convert_bytes_arg (P := Tryz.prog) W 100 5 Tryz.underlying100 Tryz.underlying5 b o p.length c (p.map fun x : Nat => (x : Int)) (by simp) (fun i hi => by
    obtain ⟨b1, o1, e1, hc⟩ := BytesAt.cell h (List.getElem?_eq_getElem hi)
    cases e1
    rw [hc]
    simp [List.getD, List.getElem?_eq_getElem hi]) 9 Tryz.underlying9
   have e : strOfNums (p.map fun x : Nat => (x : Int)) = strB p := by
    unfold strOfNums strB
    rw [List.map_map]
    rfl
   rw [hr, e]

end Go.Proofs.YtnlnmfkmbpihhaaGreatDoor
