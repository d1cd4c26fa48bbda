/-
 WALK: frame.Marshal.
 WALK: steleref13.Check.
 WALKS: steleref13.header, Make.
 PLAIN: what is encoded decodes to what it was.
-/
import Derived.Test.YtnlnmfkmbpihhaaGreatDoorFrD
import Derived.Test.YtnlnmfkmbpihhaaGreatDoorStrW
import Derived.Lib.BufferWrite
namespace Go.Proofs.YtnlnmfkmbpihhaaGreatDoor
open Go.RowKit

/-- A block of nine cells that is read. -/
abbrev Box9 (W : World) (H : Nat) (c0 c1 c2 c3 c4 c5 c6 c7 c8 : Value) : Prop := W.cell? ⟨H, 0, none⟩ = some c0 ∧ W.cell? ⟨H, 1, none⟩ = some c1 ∧ W.cell? ⟨H, 2, none⟩ = some c2 ∧ W.cell? ⟨H, 3, none⟩ = some c3 ∧ W.cell? ⟨H, 4, none⟩ = some c4 ∧ W.cell? ⟨H, 5, none⟩ = some c5 ∧ W.cell? ⟨H, 6, none⟩ = some c6 ∧ W.cell? ⟨H, 7, none⟩ = some c7 ∧ W.cell? ⟨H, 8, none⟩ = some c8
theorem Box9.keep {A B : World} {H : Nat} {c0 c1 c2 c3 c4 c5 c6 c7 c8 : Value} (h : Box9 A H c0 c1 c2 c3 c4 c5 c6 c7 c8) (hb : Below A.heap.size A B) : Box9 B H c0 c1 c2 c3 c4 c5 c6 c7 c8 := by
 obtain ⟨h0, h1, h2, h3, h4, h5, h6, h7, h8⟩ := h
 exact ⟨cell_below hb h0, cell_below hb h1, cell_below hb h2, cell_below hb h3, cell_below hb h4, cell_below hb h5, cell_below hb h6, cell_below hb h7, cell_below hb h8⟩
theorem Box9.drw {A : World} {H : Nat} {c0 c1 c2 c3 c4 c5 c6 c7 c8 : Value} (h : Box9 A H c0 c1 c2 c3 c4 c5 c6 c7 c8) : Box9 A.drew H c0 c1 c2 c3 c4 c5 c6 c7 c8 := h
theorem Box9.blk {W : World} {g : Nat} {t : TypeId} {c0 c1 c2 c3 c4 c5 c6 c7 c8 : Value} (h : Blk W g t [c0, c1, c2, c3, c4, c5, c6, c7, c8]) : Box9 W g c0 c1 c2 c3 c4 c5 c6 c7 c8 :=
 ⟨h.cell (i := 0) rfl, h.cell (i := 1) rfl, h.cell (i := 2) rfl, h.cell (i := 3) rfl, h.cell (i := 4) rfl, h.cell (i := 5) rfl, h.cell (i := 6) rfl, h.cell (i := 7) rfl, h.cell (i := 8) rfl⟩

/-- The message ahead of its checksum. -/
def msgL (k r s i l d p a : Nat) (t : ByteArray) : List Nat := numL k 1 ++ numL r 1 ++ numL s 2 ++ numL i 2 ++ numL l 1 ++ numL (16 * d + p) 1 ++ numL a 4 ++ bs t
def marL (k r s i l d p a : Nat) (t : ByteArray) : List Nat := msgL k r s i l d p a t ++ be4 (sumL [strB (msgL k r s i l d p a t)])
def marR (k r s i l d p a : Int) (t : ByteArray) : Value :=
 if frE k r s i l d p t ≠ 0 then .tuple #[.string ⟨#[]⟩, .int .i64 (frE k r s i l d p t)] else .tuple #[.string (strB (marL k.toNat r.toNat s.toNat i.toNat l.toNat d.toNat p.toNat a.toNat t)), .int .i64 0]
theorem frE_ok {k r s i l d p : Int} {t : ByteArray} (h : frE k r s i l d p t = 0) :
  (k = 66 ∨ k = 68) ∧ (1 ≤ d ∧ d ≤ 8) ∧ (0 ≤ p ∧ p ≤ 7) ∧ (0 ≤ r ∧ r ≤ d + p - 1) ∧ (1 ≤ s ∧ s ≤ 255) ∧ (0 ≤ i ∧ i ≤ 65535) ∧ (0 ≤ l ∧ l ≤ 28) ∧ t.size = 28 := by
 unfold frE inR at h
 split at h
 ·cases h
 ·split at h
  ·cases h
  ·split at h
   ·cases h
   ·split at h
    ·cases h
    ·next h1 h2 h3 h4 =>
     simp only [Bool.and_eq_true, Bool.or_eq_true, bne_iff_ne, ne_eq, Bool.not_eq_true', Bool.and_eq_false_imp, decide_eq_true_eq, decide_eq_false_iff_not, not_and, not_or, Decidable.not_not] at h1 h2 h3 h4
     refine ⟨by omega, by omega, by omega, by omega, by omega, by omega, by omega, by omega⟩

end Go.Proofs.YtnlnmfkmbpihhaaGreatDoor

namespace Go.Proofs.YtnlnmfkmbpihhaaGreatDoor
open Go.RowKit

theorem frE_kind {k r s i l d p : Int} {t : ByteArray} (h : k ≠ 66 ∧ k ≠ 68) : frE k r s i l d p t = 10 := by
 unfold frE
 rw [if_pos (by simp [h.1, h.2])]
theorem frE_bad {k r s i l d p : Int} {t : ByteArray} (hk : k = 66 ∨ k = 68) (h : d < 1 ∨ 8 < d ∨ p < 0 ∨ 7 < p ∨ r < 0 ∨ d + p ≤ r ∨ s < 1 ∨ 255 < s ∨ i < 0 ∨ 65535 < i ∨ l < 0 ∨ 28 < l) : frE k r s i l d p t = 2 := by
 unfold frE
 rw [if_neg (by simp only [Bool.and_eq_true, bne_iff_ne, ne_eq]; omega)]
 split
 ·rfl
 ·next h1 =>
  rw [if_pos]
  simp only [inR, Bool.or_eq_true, Bool.not_eq_true', Bool.and_eq_false_iff, decide_eq_false_iff_not] at h1 ⊢
  omega
theorem frE_rest {k r s i l d p : Int} {t : ByteArray} (hk : k = 66 ∨ k = 68) (h : ¬ (d < 1 ∨ 8 < d ∨ p < 0 ∨ 7 < p ∨ r < 0 ∨ d + p ≤ r ∨ s < 1 ∨ 255 < s ∨ i < 0 ∨ 65535 < i ∨ l < 0 ∨ 28 < l)) :
  frE k r s i l d p t = if (t.size : Int) != 28 || !padOK l t then 1 else 0 := by
 unfold frE
 rw [if_neg (by simp only [Bool.and_eq_true, bne_iff_ne, ne_eq]; omega), if_neg, if_neg]
 ·simp only [inR, Bool.or_eq_true, Bool.not_eq_true', Bool.and_eq_false_iff, decide_eq_false_iff_not]
  omega
 ·simp only [inR, Bool.or_eq_true, Bool.not_eq_true', Bool.and_eq_false_iff, decide_eq_false_iff_not]
  omega
/-- The bytes from l to j are zero. -/
def ZeroTo (t : ByteArray) (l j : Nat) : Prop := ∀ n, l ≤ n → n < j → (bs t)[n]? = some 0
theorem ZeroTo.pad {t : ByteArray} {l : Nat} (h : ZeroTo t l 28) (ht : t.size = 28) : padOK l t = true := by
 unfold padOK allIn
 rw [List.all_eq_true]
 intro x hx
 obtain ⟨n, hn⟩ := List.mem_iff_getElem?.1 hx
 rw [List.getElem?_drop, Int.toNat_natCast] at hn
 have hlt : l + n < (bs t).length := (List.getElem?_eq_some_iff.1 hn).1
 rw [bs_len, ht] at hlt
 rw [h (l + n) (by omega) hlt] at hn
 cases hn
 decide
theorem pad_not {t : ByteArray} {l j : Nat} (hl : l ≤ j) (hj : j < t.size) (h : (t[j]'hj).toNat ≠ 0) : padOK l t = false := by
 unfold padOK allIn
 rw [List.all_eq_false]
 refine ⟨(t[j]'hj).toNat, ?_, ?_⟩
 ·refine List.mem_iff_getElem?.2 ⟨j - l, ?_⟩
  rw [List.getElem?_drop, Int.toNat_natCast, show l + (j - l) = j by omega]
  exact bs_get t j hj
 ·simpa using h

set_option maxRecDepth 100000 in
set_option maxHeartbeats 16000000 in
theorem rcheck_all (w : World) (k r s i l d p a : Int) (t : ByteArray) :
  Calls Tryz.prog 28 #[frV k r s i l d p a t] w fun e w' => e = .returned (.int .i64 (frE k r s i l d p t)) ∧ Below w.heap.size w w' := by
 obtain ⟨X, hX⟩ : ∃ X, frE k r s i l d p t = X := ⟨_, rfl⟩
 rw [hX]
 unfold frV
 cases h1 : ((k != 66) && (k != 68)) with
 | true =>
  rw [Bool.and_eq_true] at h1
  obtain ⟨h1, h2⟩ := h1
  rw [frE_kind (by simpa using And.intro h1 h2)] at hX
  subst hX
  go_enter Tryz.func28, Tryz.ntmps28
  go_wp2
  go_ret
  exact ⟨rfl, (Below.refl _ _).alloc (Nat.le_refl _) _⟩
 | false =>
  have hk : (k != 66) = false ∨ ((k != 66) = true ∧ (k != 68) = false) := by
   cases h2 : (k != 66) with
   | false => exact .inl rfl
   | true => rw [h2] at h1; exact .inr ⟨rfl, by simpa using h1⟩
  have hK : k = 66 ∨ k = 68 := by simpa [Decidable.or_iff_not_imp_left] using h1
  have HB := Lib.hid (((Below.refl _ w).alloc (Nat.le_refl _) (.cells #[.int .i64 k, .int .i64 r, .int .i64 s, .int .i64 i, .int .i64 l, .int .i64 d, .int .i64 p, .int .u32 a, .string t] 34)).alloc (by simp) (.cells #[.int .i64 d, .int .i64 p] 31))
  clear h1
  by_cases hbad : d < 1 ∨ 8 < d ∨ p < 0 ∨ 7 < p ∨ r < 0 ∨ d + p ≤ r ∨ s < 1 ∨ 255 < s ∨ i < 0 ∨ 65535 < i ∨ l < 0 ∨ 28 < l
  ·rw [frE_bad hK hbad] at hX
   subst hX
   clear hK
   cases g0 : decide (d < 1) with
   | true =>
    clear hbad
    rcases hk with hk | ⟨hk, hk2⟩
    all_goals
     go_enter Tryz.func28, Tryz.ntmps28
     go_wp2
     go_ret
     exact ⟨rfl, HB.out⟩
   | false =>
   cases g1 : decide (8 < d) with
   | true =>
    clear hbad
    rcases hk with hk | ⟨hk, hk2⟩
    all_goals
     go_enter Tryz.func28, Tryz.ntmps28
     go_wp2
     go_ret
     exact ⟨rfl, HB.out⟩
   | false =>
   cases g2 : decide (p < 0) with
   | true =>
    clear hbad
    rcases hk with hk | ⟨hk, hk2⟩
    all_goals
     go_enter Tryz.func28, Tryz.ntmps28
     go_wp2
     go_ret
     exact ⟨rfl, HB.out⟩
   | false =>
   cases g3 : decide (7 < p) with
   | true =>
    clear hbad
    rcases hk with hk | ⟨hk, hk2⟩
    all_goals
     go_enter Tryz.func28, Tryz.ntmps28
     go_wp2
     go_ret
     exact ⟨rfl, HB.out⟩
   | false =>
   cases g4 : decide (r < 0) with
   | true =>
    clear hbad
    rcases hk with hk | ⟨hk, hk2⟩
    all_goals
     go_enter Tryz.func28, Tryz.ntmps28
     go_wp2
     go_ret
     exact ⟨rfl, HB.out⟩
   | false =>
   have ew1 : IntKind.i64.wrap (d + p) = d + p := by (have e1 := of_decide_eq_false g0; have e2 := of_decide_eq_false g1; have e3 := of_decide_eq_false g2; have e4 := of_decide_eq_false g3; rw [IntKind.wrap_i64]; omega)
   cases g5 : decide (d + p ≤ r) with
   | true =>
    clear hbad
    rcases hk with hk | ⟨hk, hk2⟩
    all_goals
     go_enter Tryz.func28, Tryz.ntmps28
     go_wp2
     go_ret
     exact ⟨rfl, HB.out⟩
   | false =>
   cases g6 : decide (s < 1) with
   | true =>
    clear hbad
    rcases hk with hk | ⟨hk, hk2⟩
    all_goals
     go_enter Tryz.func28, Tryz.ntmps28
     go_wp2
     go_ret
     exact ⟨rfl, HB.out⟩
   | false =>
   cases g7 : decide (255 < s) with
   | true =>
    clear hbad
    rcases hk with hk | ⟨hk, hk2⟩
    all_goals
     go_enter Tryz.func28, Tryz.ntmps28
     go_wp2
     go_ret
     exact ⟨rfl, HB.out⟩
   | false =>
   cases g8 : decide (i < 0) with
   | true =>
    clear hbad
    rcases hk with hk | ⟨hk, hk2⟩
    all_goals
     go_enter Tryz.func28, Tryz.ntmps28
     go_wp2
     go_ret
     exact ⟨rfl, HB.out⟩
   | false =>
   cases g9 : decide (65535 < i) with
   | true =>
    clear hbad
    rcases hk with hk | ⟨hk, hk2⟩
    all_goals
     go_enter Tryz.func28, Tryz.ntmps28
     go_wp2
     go_ret
     exact ⟨rfl, HB.out⟩
   | false =>
   cases g10 : decide (l < 0) with
   | true =>
    clear hbad
    rcases hk with hk | ⟨hk, hk2⟩
    all_goals
     go_enter Tryz.func28, Tryz.ntmps28
     go_wp2
     go_ret
     exact ⟨rfl, HB.out⟩
   | false =>
   cases g11 : decide (28 < l) with
   | true =>
    clear hbad
    rcases hk with hk | ⟨hk, hk2⟩
    all_goals
     go_enter Tryz.func28, Tryz.ntmps28
     go_wp2
     go_ret
     exact ⟨rfl, HB.out⟩
   | false =>
   exfalso
   have e0 := of_decide_eq_false g0; have e1 := of_decide_eq_false g1; have e2 := of_decide_eq_false g2; have e3 := of_decide_eq_false g3; have e4 := of_decide_eq_false g4; have e5 := of_decide_eq_false g5; have e6 := of_decide_eq_false g6; have e7 := of_decide_eq_false g7; have e8 := of_decide_eq_false g8; have e9 := of_decide_eq_false g9; have e10 := of_decide_eq_false g10; have e11 := of_decide_eq_false g11
   omega
  ·rw [frE_rest hK hbad] at hX
   obtain ⟨l, rfl⟩ : ∃ n : Nat, l = n := ⟨l.toNat, by omega⟩
   have g0 : decide (d < 1) = false := decide_eq_false (by omega)
   have g1 : decide (8 < d) = false := decide_eq_false (by omega)
   have g2 : decide (p < 0) = false := decide_eq_false (by omega)
   have g3 : decide (7 < p) = false := decide_eq_false (by omega)
   have g4 : decide (r < 0) = false := decide_eq_false (by omega)
   have g5 : decide (d + p ≤ r) = false := decide_eq_false (by omega)
   have g6 : decide (s < 1) = false := decide_eq_false (by omega)
   have g7 : decide (255 < s) = false := decide_eq_false (by omega)
   have g8 : decide (i < 0) = false := decide_eq_false (by omega)
   have g9 : decide (65535 < i) = false := decide_eq_false (by omega)
   have g10 : decide ((l : Int) < 0) = false := decide_eq_false (by omega)
   have g11 : decide (28 < (l : Int)) = false := decide_eq_false (by omega)
   have ew1 : IntKind.i64.wrap (d + p) = d + p := by rw [IntKind.wrap_i64]; omega
   have hlN : l ≤ 28 := by omega
   clear hK hbad
   by_cases hn : (t.size : Int) = 28
   ·have hn2 : t.size = 28 := by omega
    have HX := Lib.hid hX
    clear hX
    rcases hk with hk | ⟨hk, hk2⟩
    all_goals
     go_enter Tryz.func28, Tryz.ntmps28
     go_wp2
     have HZ := Lib.hid (Box9.blk (Blk.new w 34 [.int .i64 k, .int .i64 r, .int .i64 s, .int .i64 i, .int .i64 (l : Int), .int .i64 d, .int .i64 p, .int .u32 a, .string t]))
     change Hid (Box9 (w.alloc (.cells #[.int .i64 k, .int .i64 r, .int .i64 s, .int .i64 i, .int .i64 (l : Int), .int .i64 d, .int .i64 p, .int .u32 a, .string t] 34)) _ _ _ _ _ _ _ _ _ _) at HZ
     have HZ2 := Lib.hid (HZ.out.keep ((Below.refl _ _).alloc (Nat.le_refl _) (.cells #[.int .i64 d, .int .i64 p] 31)))
     generalize (w.alloc (.cells #[.int .i64 k, .int .i64 r, .int .i64 s, .int .i64 i, .int .i64 (l : Int), .int .i64 d, .int .i64 p, .int .u32 a, .string t] 34)).alloc (.cells #[.int .i64 d, .int .i64 p] 31) = wz at *
     clear HZ
     go_loopw [4] (fun v wr => ∃ j : Nat, l ≤ j ∧ j ≤ 28 ∧ v = .int .i64 j ∧ ZeroTo t l j ∧ wr = wz) (fun v _ => 28 - (intOf v).toNat)
     case atStart => exact ⟨l, Nat.le_refl _, hlN, rfl, fun n h1 h2 => absurd h2 (by omega), rfl⟩
     case round =>
      obtain ⟨j, hlj, hj, rfl, hz, rfl⟩ := hrel
      have Hz := Lib.hid hz
      clear hz
      obtain ⟨c0, c1, c2, c3, c4, c5, c6, c7, c8⟩ := HZ2.out
      by_cases h : j < 28
      ·have hjI : (j : Int) < 28 := by omega
       have hjs : j < t.size := by omega
       by_cases hb : (t[j]'hjs).toNat = 0
       ·have hbe : (((t[j]'hjs).toNat : Int) != 0) = false := by rw [hb]; rfl
        have HN : Hid (ZeroTo t l (j + 1)) := Lib.hid (fun n h1 h2 => by
         by_cases e : n = j
         ·subst e
          rw [bs_get t n hjs, hb]
         ·exact Hz.out n h1 (by omega))
        go_wp2
        go_roundw
        case rel => exact ⟨j + 1, by omega, by omega, by go_num, HN.out, trivial⟩
        case measure => simp [intOf]; omega
       ·have hbe : (((t[j]'hjs).toNat : Int) != 0) = true := by simpa using hb
        have HX1 : Hid (X = 1) := Lib.hid (by rw [← HX.out, pad_not hlj hjs hb]; simp)
        clear hb
        go_wp2
        go_ret
        exact ⟨by rw [HX1.out]; rfl, HB.out⟩
      ·obtain rfl : j = 28 := by omega
       have HX1 : Hid (X = 0) := Lib.hid (by rw [← HX.out, Hz.out.pad hn2, hn]; rfl)
       go_wp2
       go_ret
       exact ⟨by rw [HX1.out]; rfl, HB.out⟩
   ·have hn2 : ((t.size : Int) != 28) = true := by simpa using hn
    rw [hn2, if_pos (by simp)] at hX
    subst hX
    rcases hk with hk | ⟨hk, hk2⟩
    all_goals
     go_enter Tryz.func28, Tryz.ntmps28
     go_wp2
     go_ret
     exact ⟨rfl, HB.out⟩

theorem rcheck_any (w : World) (k r s i l d p a : Int) (t : ByteArray) (_ : t.size ≤ 1000) :
  Calls Tryz.prog 28 #[frV k r s i l d p a t] w fun e w' => e = .returned (.int .i64 (frE k r s i l d p t)) ∧ Below w.heap.size w w' := rcheck_all w k r s i l d p a t

end Go.Proofs.YtnlnmfkmbpihhaaGreatDoor

namespace Go.Proofs.YtnlnmfkmbpihhaaGreatDoor
open Go.RowKit

def hdrL (k r s i l d p a : Nat) : List Nat := [k, r, s / 256, s % 256, i / 256, i % 256, l, 16 * d + p, a / 16777216, a / 65536 % 256, a / 256 % 256, a % 256]
theorem hdr_msg (k r s i l d p a : Nat) (t : ByteArray) (hk : k < 256) (hr : r < 256) (hs : s < 256) (hi : i < 65536) (hl : l < 256) (hd : 16 * d + p < 256) (ha : a < 4294967296) :
  hdrL k r s i l d p a ++ bs t = msgL k r s i l d p a t := by
 have e1 : ∀ n, n < 256 → numL n 1 = [n] := fun n hn => by simp [numL]; omega
 have e2 : ∀ n, n < 65536 → numL n 2 = [n / 256, n % 256] := fun n hn => by simp [numL]; omega
 have e4 : numL a 4 = [a / 16777216, a / 65536 % 256, a / 256 % 256, a % 256] := by simp [numL]; omega
 unfold msgL hdrL
 rw [e1 k hk, e1 r hr, e2 s (by omega), e2 i hi, e1 l hl, e1 _ hd, e4]
 simp
theorem hdr_bytes (k r s i l d p a : Nat) (hk : k < 256) (hr : r < 256) (hs : s < 256) (hi : i < 65536) (hl : l < 256) (hd : 16 * d + p < 256) (ha : a < 4294967296) : Bytes (hdrL k r s i l d p a) := by
 intro x hx
 unfold hdrL at hx
 simp only [List.mem_cons, List.not_mem_nil, or_false] at hx
 omega

set_option maxRecDepth 100000 in
set_option maxHeartbeats 8000000 in
theorem rheader_any (w : World) (k r s i l d p a : Nat) (t : ByteArray) (hk : k < 256) (hr : r < 256) (hs : s < 256) (hi : i < 65536) (hl : l < 256) (hd : 16 * d + p < 256) (ha : a < 4294967296) :
  Calls Tryz.prog 130 #[frV k r s i l d p a t] w fun e w' => e = .returned (.string (strB (hdrL k r s i l d p a))) ∧ Below w.heap.size w w' := by
 have HL : ∀ W : World, (convert 100 9 (.slice (some ⟨W.heap.size, 0, none⟩) 12 12)).run Tryz.prog (W.alloc (.cells (arrB (hdrL k r s i l d p a)) 5)) = .ok (.string (strB (hdrL k r s i l d p a))) (W.alloc (.cells (arrB (hdrL k r s i l d p a)) 5)) := fun W =>
  run_toStr ((U8B.new W (hdrL k r s i l d p a)).bytes (n := 12) (c := 12) rfl (Nat.le_refl _) (by omega)) rfl
 have e : arrB (hdrL k r s i l d p a) = #[.int .u8 (k : Int), .int .u8 (r : Int), .int .u8 ((s : Int) / 256), .int .u8 ((s : Int) % 256), .int .u8 ((i : Int) / 256), .int .u8 ((i : Int) % 256), .int .u8 (l : Int), .int .u8 (16 * (d : Int) + p),
  .int .u8 ((a : Int) / 16777216), .int .u8 ((a : Int) / 65536 % 256), .int .u8 ((a : Int) / 256 % 256), .int .u8 ((a : Int) % 256)] := rfl
 rw [e] at HL
 have HL2 := HL (w.alloc (.cells #[.int .i64 k, .int .i64 r, .int .i64 s, .int .i64 i, .int .i64 l, .int .i64 d, .int .i64 p, .int .u32 a, .string t] 34))
 rw [show (w.alloc (.cells #[.int .i64 k, .int .i64 r, .int .i64 s, .int .i64 i, .int .i64 l, .int .i64 d, .int .i64 p, .int .u32 a, .string t] 34)).heap.size = w.heap.size + 1 by simp] at HL2
 clear HL e
 have mk : (k : Int) % 256 = k := by omega
 have mr : (r : Int) % 256 = r := by omega
 have ml : (l : Int) % 256 = l := by omega
 have md : IntKind.i64.wrap (16 * (d : Int)) = 16 * d := by rw [IntKind.wrap_i64]; omega
 have mp : IntKind.i64.wrap (16 * (d : Int) + p) = 16 * d + p := by rw [IntKind.wrap_i64]; omega
 have mq : (16 * (d : Int) + p) % 256 = 16 * d + p := by omega
 have q1 : wrap64 ((s : Int) / 256) = s / 256 := by
  unfold wrap64
  omega
 have q2 : (s : Int) / 256 % 256 = s / 256 := by omega
 have q3 : wrap64 ((i : Int) / 256) = i / 256 := by unfold wrap64; omega
 have q4 : (i : Int) / 256 % 256 = i / 256 := by omega
 have q5 : (a : Int) / 16777216 % 4294967296 = a / 16777216 := by omega
 have q6 : (a : Int) / 16777216 % 256 = a / 16777216 := by omega
 have q7 : (a : Int) / 65536 % 4294967296 = a / 65536 := by omega
 have q8 : (a : Int) / 256 % 4294967296 = a / 256 := by omega
 clear hk hr hs hi hl hd ha
 unfold frV
 go_enter Tryz.func130, Tryz.ntmps130
 go_wp2
 go_ret
 exact ⟨rfl, ((Below.refl _ _).alloc (Nat.le_refl _) _).alloc (by simp) _⟩

end Go.Proofs.YtnlnmfkmbpihhaaGreatDoor

namespace Go.Proofs.YtnlnmfkmbpihhaaGreatDoor
open Go.RowKit

/-! bytes and their cells -/
theorem pk_byCs : allB 256 (fun b => pk (byCs b) 8 == b) = true := by decide +kernel
theorem frmB_drop : ∀ (l : List Nat) (i : Nat), i < l.length → ∃ r, (frmB l).drop (8 * i) = byCs (cf l i) ++ r
 | [], i, h => absurd h (by simp)
 | b :: l, 0, _ => ⟨frmB l, by unfold frmB; rw [List.flatMap_cons]; rfl⟩
 | b :: l, i + 1, h => by
  obtain ⟨r, hr⟩ := frmB_drop l i (by simpa using h)
  refine ⟨r, ?_⟩
  have e : frmB (b :: l) = byCs b ++ frmB l := by unfold frmB; rw [List.flatMap_cons]
  rw [e, show 8 * (i + 1) = 8 + 8 * i by omega, ← List.drop_drop, List.drop_left' (byCs_len b), hr]
  rfl
theorem toB_frmB {l : List Nat} (hl : Bytes l) : toB (frmB l) = l := by
 refine List.ext_getElem? fun i => ?_
 unfold toB
 rw [List.getElem?_map]
 by_cases h2 : i < l.length
 ·have hb : cf l i = l[i] := cf_get (List.getElem?_eq_getElem h2)
  have h3 : l[i] < 256 := hl _ (List.getElem_mem h2)
  rw [List.getElem?_range (by rw [frmB_len]; omega), List.getElem?_eq_getElem h2, Option.map_some]
  unfold byteOf
  obtain ⟨r, hr⟩ := frmB_drop l i h2
  rw [hr, pk_congr (r := byCs (cf l i)) 8 (fun j hj => by unfold cf; rw [List.getElem?_append_left (by rw [byCs_len]; exact hj)]), hb]
  have h4 := allB_out pk_byCs _ h3
  rw [beq_iff_eq] at h4
  rw [h4]
 ·rw [List.getElem?_eq_none (l := l) (by omega), List.getElem?_eq_none (by rw [List.length_range, frmB_len]; omega)]
  rfl
/-- The bits of some bytes. -/
def bitU (l : List Nat) : List Nat := (frmB l).map (· - 48)
theorem bitU_bits (l : List Nat) : Bits (bitU l) := by
 intro x hx
 obtain ⟨c, hc, rfl⟩ := List.mem_map.1 hx
 rcases frmB_01 l c hc with rfl | rfl <;> decide
theorem bitsS_bitU (l : List Nat) : bitsS (bitU l) = frmB l := by
 unfold bitsS bitU
 rw [List.map_map]
 conv => rhs; rw [← List.map_id (frmB l)]
 refine List.map_congr_left fun c hc => ?_
 rcases frmB_01 l c hc with rfl | rfl <;> rfl
theorem bitU_len (l : List Nat) : (bitU l).length = 8 * l.length := by unfold bitU; rw [List.length_map, frmB_len]

/-! the cells of a message -/
def cellL (m : List Nat) : List Nat := cenc 0 (bitU (rsEnc m) ++ [0, 0])
def bodyL (m : List Nat) : List Nat := interL (cellL m)
theorem rsEnc_ok {m : List Nat} (hm : Bytes m) (hl : m.length = 44) : (rsEnc m).length = 52 ∧ Bytes (rsEnc m) := by
 obtain ⟨h1, h2, _⟩ := rsPar_inv m hm
 unfold rsEnc
 refine ⟨by rw [List.length_append, h1, hl], fun x hx => ?_⟩
 rcases List.mem_append.1 hx with hx | hx
 ·exact hm x hx
 ·exact h2 x hx
theorem cenc_01 : ∀ (u : List Nat) (s : Nat), B01 (cenc s u)
 | [], _ => fun c hc => by cases hc
 | b :: r, s => fun c hc => by
  simp only [cenc, List.mem_cons] at hc
  rcases hc with rfl | rfl | hc
  ·unfold co1; omega
  ·unfold co2; omega
  ·exact cenc_01 r _ c hc
theorem cellL_len {m : List Nat} (hm : Bytes m) (hl : m.length = 44) : (cellL m).length = 836 := by
 unfold cellL
 rw [cenc_len, List.length_append, bitU_len, (rsEnc_ok hm hl).1]
 rfl
theorem cellL_01 (m : List Nat) : B01 (cellL m) := cenc_01 _ _
theorem inter_mem {l : List Nat} (hl : l.length = 836) {x : Nat} (h : x ∈ interL l) : x ∈ l := by
 unfold interL at h
 obtain ⟨j, hj, rfl⟩ := List.mem_map.1 h
 have hj' := (ilv_uil (List.mem_range.1 hj)).2
 have hlt : uil j < l.length := by omega
 rw [cf_get (List.getElem?_eq_getElem hlt)]
 exact List.getElem_mem hlt
theorem bodyL_01 {m : List Nat} (hm : Bytes m) (hl : m.length = 44) : B01 (bodyL m) := fun c hc => cellL_01 m c (inter_mem (cellL_len hm hl) hc)
theorem bodyL_bytes {m : List Nat} (hm : Bytes m) (hl : m.length = 44) : Bytes (bodyL m) := fun c hc => by rcases bodyL_01 hm hl c hc with rfl | rfl <;> decide
theorem bodyL_len (m : List Nat) : (bodyL m).length = 836 := interL_len _
theorem extP_cell {m : List Nat} (_hm : Bytes m) (_hl : m.length = 44) : extP (cellL m) = some (bitU (rsEnc m)) := by
 have hb : Bits (bitU (rsEnc m) ++ [0, 0]) := fun x hx => by
  rcases List.mem_append.1 hx with hx | hx
  ·exact bitU_bits _ x hx
  ·simp at hx; omega
 have h63 : ¬ (cellL m).contains 63 = true := by
  rw [List.contains_iff_mem]
  intro h
  rcases cellL_01 m _ h with h | h <;> cases h
 unfold extP
 rw [if_neg h63, show cext 0 (cellL m) = some (bitU (rsEnc m) ++ [0, 0]) from cext_enc _ 0 hb]
 dsimp only
 rw [List.length_append, show (bitU (rsEnc m)).length + [0, 0].length - 2 = (bitU (rsEnc m)).length from rfl, List.drop_left, List.take_left, if_pos rfl]
/-- The body of an encoded message, decoded. -/
theorem dec_body {m : List Nat} (hm : Bytes m) (hl : m.length = 44) (hc : unmC (strB m) = 0) :
  decR (strB (bodyL m)) = .tuple #[unmF (strB m), zeroQ, .int .i64 0] := by
 obtain ⟨hw, hwb⟩ := rsEnc_ok hm hl
 have hb : bs (strB (bodyL m)) = bodyL m := bs_strB (bodyL_bytes hm hl)
 have hz : (strB (bodyL m)).size = 836 := by rw [strB_size, bodyL_len]
 have hck : chkE (bs (strB (bodyL m))) = 0 := by rw [hb]; unfold chkE; rw [cells_01 (bodyL_01 hm hl)]; rfl
 have hf : fullL (strB (bodyL m)) = bodyL m := by unfold fullL; rw [hb, hz]; exact List.append_nil _
 have hwd : wordL (strB (bodyL m)) = cellL m := by unfold wordL; rw [hf]; exact dein_inter (cellL_len hm hl)
 have hi : inner (cellL m) = (bitU (rsEnc m), 0) := by unfold inner; rw [extP_cell hm hl]
 have hr : recL (strB (bodyL m)) = rsEnc m := by unfold recL; rw [hwd, hi, bitsS_bitU, toB_frmB hwb]
 have hd : rsDec (rsEnc m) = some (rsEnc m, 0) := rsDec_word (synd_enc hm)
 have ht : (rsEnc m).take 44 = m := by unfold rsEnc; rw [← hl, List.take_left]
 have hcnt : (bodyL m).count 63 = 0 := List.count_eq_zero.2 fun h => by rcases bodyL_01 hm hl _ h with h | h <;> cases h
 unfold decR
 rw [hck, hz, hr, hd, if_neg (by simp), if_neg (by omega)]
 dsimp only
 rw [ht, if_pos hc, hwd, hi, hf, hcnt]
 rfl

/-! a frame's message -/
theorem valL_one {x : Nat} : valL [x] = x := by simp [valL]
theorem valL_two {x y : Nat} : valL [x, y] = x * 256 + y := by simp [valL]
theorem valL_four {x y z q : Nat} : valL [x, y, z, q] = ((x * 256 + y) * 256 + z) * 256 + q := by simp [valL]
theorem be4_bytes {c : Nat} (h : c < 4294967296) : Bytes (be4 c) := by
 intro x hx
 unfold be4 at hx
 simp only [List.mem_cons, List.not_mem_nil, or_false] at hx
 omega
theorem two_back (x : Nat) : x / 256 * 256 + x % 256 = x := by omega
theorem four_back (a : Nat) : ((a / 16777216 * 256 + a / 65536 % 256) * 256 + a / 256 % 256) * 256 + a % 256 = a := by omega
theorem nib_back (d p : Nat) (h : p < 16) : (16 * d + p) / 16 = d ∧ (16 * d + p) % 16 = p := by omega
/-- What a valid frame's message holds. -/
theorem mar_ok {k r s i l d p a : Nat} {t : ByteArray} (he : frE k r s i l d p t = 0) (ha : a < 4294967296) :
  ∃ c, c < 4294967296 ∧ marL k r s i l d p a t = hdrL k r s i l d p a ++ bs t ++ be4 c ∧ Bytes (marL k r s i l d p a t) ∧ (marL k r s i l d p a t).length = 44 ∧ c = sumL [strB (hdrL k r s i l d p a ++ bs t)] ∧ Bytes (hdrL k r s i l d p a ++ bs t) := by
 obtain ⟨h1, h2, h3, h4, h5, h6, h7, h8⟩ := frE_ok he
 have hm := hdr_msg k r s i l d p a t (by omega) (by omega) (by omega) (by omega) (by omega) (by omega) ha
 have hb := hdr_bytes k r s i l d p a (by omega) (by omega) (by omega) (by omega) (by omega) (by omega) ha
 have hb2 : Bytes (hdrL k r s i l d p a ++ bs t) := fun x hx => by
  rcases List.mem_append.1 hx with hx | hx
  ·exact hb x hx
  ·exact bs_lt t x hx
 have e : marL k r s i l d p a t = hdrL k r s i l d p a ++ bs t ++ be4 (sumL [strB (hdrL k r s i l d p a ++ bs t)]) := by unfold marL; rw [← hm]
 refine ⟨_, sumL_lt _, e, ?_, ?_, rfl, hb2⟩
 ·rw [e]
  intro x hx
  rcases List.mem_append.1 hx with hx | hx
  ·exact hb2 x hx
  ·exact be4_bytes (sumL_lt _) x hx
 ·rw [e, List.length_append, List.length_append, bs_len, h8]
  rfl
theorem unm_mar {k r s i l d p a : Nat} {t : ByteArray} (he : frE k r s i l d p t = 0) (ha : a < 4294967296) :
  unmC (strB (marL k r s i l d p a t)) = 0 ∧ unmF (strB (marL k r s i l d p a t)) = frV k r s i l d p a t := by
 obtain ⟨c, hc, e, hb, hl, hcs, hb2⟩ := mar_ok he ha
 obtain ⟨h1, h2, h3, h4, h5, h6, h7, h8⟩ := frE_ok he
 have hM : bs (strB (marL k r s i l d p a t)) = hdrL k r s i l d p a ++ (bs t ++ be4 c) := by rw [bs_strB hb, e, List.append_assoc]
 have h40 : (hdrL k r s i l d p a ++ bs t).length = 40 := by rw [List.length_append, bs_len, h8]; rfl
 generalize strB (marL k r s i l d p a t) = M at *
 have hz : M.size = 44 := by rw [← bs_len, hM, List.length_append, List.length_append, bs_len, h8]; rfl
 have x40 : bs (M.extract 0 40) = hdrL k r s i l d p a ++ bs t := by
  rw [bs_extract, hM, ← List.append_assoc, List.drop_zero, ← h40, List.take_left]
 have x44 : bs (M.extract 40 44) = be4 c := by
  rw [bs_extract, hM, ← List.append_assoc, List.take_of_length_le (by rw [List.length_append, h40]; exact Nat.le_refl _), ← h40, List.drop_left]
 have xp : M.extract 12 40 = t := by
  refine bs_inj ?_
  rw [bs_extract, hM, ← List.append_assoc, ← h40, List.take_left, show (12 : Nat) = (hdrL k r s i l d p a).length from rfl, List.drop_left]
 have x0 : bs (M.extract 0 1) = [k] := by rw [bs_extract, hM]; rfl
 have x1 : bs (M.extract 1 2) = [r] := by rw [bs_extract, hM]; rfl
 have x2 : bs (M.extract 2 4) = [s / 256, s % 256] := by rw [bs_extract, hM]; rfl
 have x4 : bs (M.extract 4 6) = [i / 256, i % 256] := by rw [bs_extract, hM]; rfl
 have x6 : bs (M.extract 6 7) = [l] := by rw [bs_extract, hM]; rfl
 have x7 : cf (bs M) 7 = 16 * d + p := by rw [hM]; rfl
 have x8 : bs (M.extract 8 12) = [a / 16777216, a / 65536 % 256, a / 256 % 256, a % 256] := by rw [bs_extract, hM]; rfl
 have hsum : sumOK M = true := by
  unfold sumOK
  have e1 : M.extract 0 40 = strB (hdrL k r s i l d p a ++ bs t) := by rw [← x40, strB_bs]
  have e2 : M.extract 40 44 = strB (be4 c) := by rw [← x44, strB_bs]
  rw [e1, ← hcs, e2]
  exact beq_self_eq_true _
 have v2 := two_back s
 have v4 := two_back i
 have v8 := four_back a
 obtain ⟨d7, p7⟩ := nib_back d p (by omega)
 constructor
 ·unfold unmC
  rw [if_neg (by omega), hsum, if_neg (by simp)]
  unfold unmE
  rw [x0, x1, x2, x4, x6, x7, xp, valL_one, valL_one, valL_two, valL_two, valL_one, v2, v4, d7, p7]
  exact he
 ·unfold unmF
  rw [x0, x1, x2, x4, x6, x7, x8, xp, valL_one, valL_one, valL_two, valL_two, valL_one, valL_four, v2, v4, v8, d7, p7]

end Go.Proofs.YtnlnmfkmbpihhaaGreatDoor
