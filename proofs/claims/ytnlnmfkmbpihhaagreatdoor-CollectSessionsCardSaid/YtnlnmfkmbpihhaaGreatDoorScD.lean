/-
 WALK: stelelaw14.damaged.
-/
import Derived.Test.YtnlnmfkmbpihhaaGreatDoorScC
namespace Go.Proofs.YtnlnmfkmbpihhaaGreatDoor
open Go.RowKit

/-- n cells from f on made c. -/
def dmgL (L : List Nat) (f c : Nat) : Nat → List Nat
 | 0 => L
 | n + 1 => (dmgL L f c n).set (f + n) c
theorem dmgL_len (L : List Nat) (f c : Nat) : ∀ n, (dmgL L f c n).length = L.length
 | 0 => rfl
 | n + 1 => by rw [dmgL, List.length_set, dmgL_len L f c n]
theorem dmgL_burst {L : List Nat} (h1 : L.length = 836) (h2 : B01 L) (f : Nat) {c : Nat} (hc : c = 48 ∨ c = 49 ∨ c = 63) : ∀ n, Burst L f n (dmgL L f c n)
 | 0 => burst_zero f h1 h2
 | n + 1 => by
  have h := dmgL_burst h1 h2 f hc n
  by_cases hf : f + n < 836
  ·exact burst_step h hc hf
  ·rw [dmgL, List.set_eq_of_length_le (by rw [dmgL_len, h1]; omega)]
   exact burst_more h
/-- What a damaged cell reads. -/
def dmgC (b : Nat) : Nat := if b % 3 = 0 then 48 else if b % 3 = 1 then 49 else 63
theorem dmgC_ok (b : Nat) : dmgC b = 48 ∨ dmgC b = 49 ∨ dmgC b = 63 := by
 unfold dmgC
 by_cases h : b % 3 = 0
 ·rw [if_pos h]; exact .inl rfl
 ·by_cases h1 : b % 3 = 1
  ·rw [if_neg h, if_pos h1]; exact .inr (.inl rfl)
  ·rw [if_neg h, if_neg h1]; exact .inr (.inr rfl)

set_option maxRecDepth 100000 in
set_option maxHeartbeats 8000000 in
theorem dmg_any (w : World) (s : ByteArray) (x n b : Nat) (hs0 : 0 < s.size) (hs : s.size ≤ 1000000) (hx : x < 65536) (hn : n ≤ 1000) (hb : b < 256) :
  Calls Tryz.prog 39 #[.string s, .int .i64 (x : Int), .int .i64 (n : Int), .int .u8 (b : Int)] w fun e w' => e = .returned (.string (strB (dmgL (bs s) (x % s.size) (dmgC b) n))) ∧ Below w.heap.size w w' := by
 obtain ⟨cc, w1, hcv, hc1, hc2, hrow, hbb, hsz1⟩ := run_toBytes w s hs
 obtain ⟨f, hf⟩ : ∃ f, x % s.size = f := ⟨_, rfl⟩
 have hfT : Int.tmod (x : Int) (s.size : Int) = (f : Int) := by rw [Int.tmod_eq_emod_of_nonneg (by omega)]; omega
 have hfs : f < s.size := by rw [← hf]; exact Nat.mod_lt _ hs0
 obtain ⟨r, hr⟩ : ∃ r, b % 3 = r := ⟨_, rfl⟩
 have hrT : Int.tmod (b : Int) 3 = (r : Int) := by rw [Int.tmod_eq_emod_of_nonneg (by omega)]; omega
 have hr3 : r < 3 := by omega
 have hs1 : (s.size : Int) ≠ 0 := by omega
 rw [hf]
 have hbl : (bs s).length = s.size := bs_len s
 have HR0 := Lib.hid hrow
 have HB0 := Lib.hid hbb
 obtain ⟨c, hc⟩ : ∃ c, dmgC b = c := ⟨_, rfl⟩
 rw [hc]
 unfold dmgC at hc
 rw [hr] at hc
 generalize bs s = L0 at *
 clear hrow hbb hsz1 hf hr
 go_enter Tryz.func39, Tryz.ntmps39
 go_wp2
 clear hcv
 go_loopw [15] (fun y wr => ∃ i : Nat, i ≤ n ∧ y = .int .i64 (i : Int) ∧ RowB wr w.heap.size (dmgL L0 f c i) ∧ Below w.heap.size w wr) (fun y _ => n - (intOf y).toNat)
 case atStart => exact ⟨0, by omega, rfl, HR0.out, HB0.out⟩
 case round =>
  obtain ⟨i, hi, rfl, hR, hB⟩ := hrel
  clear HR0 HB0
  have HR := Lib.hid hR
  have HB := Lib.hid hB
  have hlen := dmgL_len L0 f c i
  clear hR hB
  by_cases h : i < n
  ·have hI : (i : Int) < n := by omega
   obtain ⟨y, hy⟩ : ∃ y, f + i = y := ⟨_, rfl⟩
   have hyX : (f : Int) + (i : Int) = (y : Int) := by omega
   by_cases h2 : y < s.size
   ·have hyI : (y : Int) < s.size := by omega
    have hLy : (dmgL L0 f c i)[y]? = some ((dmgL L0 f c i)[y]'(by omega)) := List.getElem?_eq_getElem _
    have hcl := HR.out.cell y _ hLy
    have hfr := HR.out.free y (by omega)
    have HX : Hid (RowB (wr.setCell ⟨w.heap.size, y, none⟩ (.int .u8 (c : Int))) w.heap.size (dmgL L0 f c (i + 1))) := Lib.hid (by
     rw [dmgL, hy]
     exact HR.out.set y c)
    have HY := Lib.hid (HB.out.setCell (p := ⟨w.heap.size, y, none⟩) (Nat.le_refl _) (.int .u8 (c : Int)))
    clear hy hLy
    rcases (by omega : r = 0 ∨ r = 1 ∨ r = 2) with rfl | rfl | rfl
    all_goals
     obtain rfl := hc
     go_wp2
     go_roundw
     case rel => exact ⟨i + 1, by omega, by go_num, HX.out, HY.out⟩
     case measure => simp [intOf]; omega
   ·have hyI : ¬ (y : Int) < s.size := by omega
    have HX : Hid (RowB wr w.heap.size (dmgL L0 f c (i + 1))) := Lib.hid (by
     rw [dmgL, List.set_eq_of_length_le (by omega)]
     exact HR.out)
    go_wp2
    go_roundw
    case rel => exact ⟨i + 1, by omega, by go_num, HX.out, HB.out⟩
    case measure => simp [intOf]; omega
  ·obtain rfl : i = n := by omega
   have hcs := run_toStr (HR.out.bytes (n := s.size) (c := cc) (by omega) hc1 hc2) (by omega)
   go_wp2
   go_ret
   exact ⟨rfl, HB.out⟩
end Go.Proofs.YtnlnmfkmbpihhaaGreatDoor
