/-
 WALKS: frame.encoding and its steps, frame.Encode.
 PLAIN: what a valid frame is encoded as.
 WALKS: frame.Check, Marshal, Encode at any payload.
 PLAIN: the decoder at a frame's cells of which some that lie far apart are touched; cells that are inverted, or made unreadable.
 PLAIN: marks in a strip of cells.
 PLAIN: frames as data; what scanning a piece yields.
 PLAIN: what scanning yields at the cells of valid frames, touched or not.
-/
import Derived.Test.YtnlnmfkmbpihhaaGreatDoorFrE
import Derived.Test.YtnlnmfkmbpihhaaGreatDoorStrW
import Derived.Test.YtnlnmfkmbpihhaaGreatDoorPolW
import Derived.Test.YtnlnmfkmbpihhaaGreatDoorFrB
import Derived.Test.YtnlnmfkmbpihhaaGreatDoorEncC
import Derived.Test.YtnlnmfkmbpihhaaGreatDoorPolA
import Derived.Test.YtnlnmfkmbpihhaaGreatDoorCrcA
namespace Go.Proofs.YtnlnmfkmbpihhaaGreatDoor
open Go.RowKit

def fencR (k r s i l d p a : Int) (t : ByteArray) : Value :=
 if frE k r s i l d p t ≠ 0 then .tuple #[.string ⟨#[]⟩, .int .i64 (frE k r s i l d p t)]
 else .tuple #[.string (markS ++ strB (bodyL (marL k.toNat r.toNat s.toNat i.toNat l.toNat d.toNat p.toNat a.toNat t))), .int .i64 0]
/-- The message behind i steps. -/
def stepS (m : List Nat) : Nat → ByteArray
 | 0 => strB m
 | 1 => strB (rsEnc m)
 | 2 => strB (frmB (rsEnc m))
 | 3 => strB (cellL m)
 | _ => strB (bodyL m)

end Go.Proofs.YtnlnmfkmbpihhaaGreatDoor

namespace Go.Proofs.YtnlnmfkmbpihhaaGreatDoor
open Go.RowKit

abbrev Box3 (W : World) (H : Nat) (c0 c1 c2 : Value) : Prop := W.cell? ⟨H, 0, none⟩ = some c0 ∧ W.cell? ⟨H, 1, none⟩ = some c1 ∧ W.cell? ⟨H, 2, none⟩ = some c2
theorem Box3.keep {A B : World} {H : Nat} {c0 c1 c2 : Value} (h : Box3 A H c0 c1 c2) (hb : Below A.heap.size A B) : Box3 B H c0 c1 c2 := by
 obtain ⟨h0, h1, h2⟩ := h
 exact ⟨cell_below hb h0, cell_below hb h1, cell_below hb h2⟩
/-- A decoded frame and its quality, laid. -/
def FQ (V : World) (g : Nat) (k r s i l d p a : Int) (t : ByteArray) (x y z : Int) : Prop :=
 Box9 V g (.int .i64 k) (.int .i64 r) (.int .i64 s) (.int .i64 i) (.int .i64 l) (.int .i64 d) (.int .i64 p) (.int .u32 a) (.string t) ∧ Box3 V (g + 1) (.int .i64 x) (.int .i64 y) (.int .i64 z)
theorem FQ.keep {A B : World} {g : Nat} {k r s i l d p a : Int} {t : ByteArray} {x y z : Int} (h : FQ A g k r s i l d p a t x y z) (hb : Below A.heap.size A B) : FQ B g k r s i l d p a t x y z :=
 ⟨h.1.keep hb, h.2.keep hb⟩
theorem decd_new (W : World) (k r s i l d p a : Int) (t : ByteArray) (x y z : Int) :
  Below W.heap.size W ((W.alloc (.cells #[.int .i64 k, .int .i64 r, .int .i64 s, .int .i64 i, .int .i64 l, .int .i64 d, .int .i64 p, .int .u32 a, .string t] 34)).alloc (.cells #[.int .i64 x, .int .i64 y, .int .i64 z] 36)) ∧
   FQ ((W.alloc (.cells #[.int .i64 k, .int .i64 r, .int .i64 s, .int .i64 i, .int .i64 l, .int .i64 d, .int .i64 p, .int .u32 a, .string t] 34)).alloc (.cells #[.int .i64 x, .int .i64 y, .int .i64 z] 36)) W.heap.size k r s i l d p a t x y z := by
 refine ⟨((Below.refl _ _).alloc (Nat.le_refl _) _).alloc (by simp) _, ?_, ?_⟩
 ·exact (Box9.blk (Blk.new W 34 [.int .i64 k, .int .i64 r, .int .i64 s, .int .i64 i, .int .i64 l, .int .i64 d, .int .i64 p, .int .u32 a, .string t])).keep ((Below.refl _ _).alloc (Nat.le_refl _) _)
 ·have hq := Blk.new (W.alloc (.cells #[.int .i64 k, .int .i64 r, .int .i64 s, .int .i64 i, .int .i64 l, .int .i64 d, .int .i64 p, .int .u32 a, .string t] 34)) 36 [.int .i64 x, .int .i64 y, .int .i64 z]
  rw [show (W.alloc (.cells #[.int .i64 k, .int .i64 r, .int .i64 s, .int .i64 i, .int .i64 l, .int .i64 d, .int .i64 p, .int .u32 a, .string t] 34)).heap.size = W.heap.size + 1 by simp] at hq
  exact ⟨hq.cell (i := 0) rfl, hq.cell (i := 1) rfl, hq.cell (i := 2) rfl⟩


end Go.Proofs.YtnlnmfkmbpihhaaGreatDoor

namespace Go.Proofs.YtnlnmfkmbpihhaaGreatDoor
open Go.RowKit

end Go.Proofs.YtnlnmfkmbpihhaaGreatDoor

namespace Go.Proofs.YtnlnmfkmbpihhaaGreatDoor
open Go.RowKit

/-! every eighth cell unreadable -/
/-! inverted cells, at least eight apart -/
/-! a burst -/
/-! ends that are missing -/
end Go.Proofs.YtnlnmfkmbpihhaaGreatDoor

namespace Go.Proofs.YtnlnmfkmbpihhaaGreatDoor
open Go.RowKit

def markL : List Nat := bs markS
theorem markL_eq : markL = [49, 49, 49, 49, 49, 48, 48, 49, 49, 48, 49, 48, 49, 48, 48, 48] := by decide
/-- How many of the first i cells from place k on are the mark's. -/
def mt (l : List Nat) (k : Nat) : Nat → Nat
 | 0 => 0
 | i + 1 => mt l k i + if cf l (k + i) = cf markL i then 1 else 0
theorem mt_le (l : List Nat) (k : Nat) : ∀ i, mt l k i ≤ i
 | 0 => Nat.le_refl _
 | i + 1 => by
  have := mt_le l k i
  unfold mt
  split <;> omega
theorem mt_all {l : List Nat} {k : Nat} : ∀ i, (∀ j, j < i → cf l (k + j) = cf markL j) → mt l k i = i
 | 0, _ => rfl
 | i + 1, h => by
  unfold mt
  rw [mt_all i fun j hj => h j (by omega), if_pos (h i (by omega))]
theorem mt_congr {l r : List Nat} {k k' : Nat} : ∀ i, (∀ j, j < i → cf l (k + j) = cf r (k' + j)) → mt l k i = mt r k' i
 | 0, _ => rfl
 | i + 1, h => by
  unfold mt
  rw [mt_congr i fun j hj => h j (by omega), h i (by omega)]
/-- A mark is found at place k: at most two of its cells differ. -/
def hit (l : List Nat) (k : Nat) : Bool := decide (14 ≤ mt l k 16)
/-- The first place from i on at which a mark is found. -/
def findL (l : List Nat) (i : Nat) : Option Nat :=
 if i + 16 ≤ l.length then (if hit l i then some i else findL l (i + 1)) else none
termination_by l.length - i
theorem findL_step (l : List Nat) (i : Nat) : findL l i = if i + 16 ≤ l.length then (if hit l i then some i else findL l (i + 1)) else none := by rw [findL]
theorem findL_some {l : List Nat} : ∀ (n i : Nat) {o : Nat}, l.length - i = n → findL l i = some o → i ≤ o ∧ o + 16 ≤ l.length ∧ hit l o = true ∧ ∀ j, i ≤ j → j < o → hit l j = false := by
 intro n
 induction n with
 | zero =>
  intro i o hn h
  rw [findL_step, if_neg (by omega)] at h
  cases h
 | succ n ih =>
  intro i o hn h
  rw [findL_step] at h
  split at h
  ·next h1 =>
   split at h
   ·next h2 =>
    cases h
    exact ⟨Nat.le_refl _, h1, h2, fun j hj hj' => by omega⟩
   ·next h2 =>
    obtain ⟨k1, k2, k3, k4⟩ := ih (i + 1) (by omega) h
    refine ⟨by omega, k2, k3, fun j hj hj' => ?_⟩
    by_cases e : i = j
    ·subst e
     simpa using h2
    ·exact k4 j (by omega) hj'
  ·cases h
theorem findL_le {l : List Nat} {i o : Nat} (h : findL l i = some o) : i ≤ o ∧ o + 16 ≤ l.length := by
 obtain ⟨h1, h2, _, _⟩ := findL_some _ i rfl h
 exact ⟨h1, h2⟩
theorem findL_none {l : List Nat} {i : Nat} (h : l.length < i + 16) : findL l i = none := by rw [findL_step, if_neg (by omega)]
theorem findL_hit {l : List Nat} {i : Nat} (h : i + 16 ≤ l.length) (hh : hit l i = true) : findL l i = some i := by rw [findL_step, if_pos h, if_pos hh]

end Go.Proofs.YtnlnmfkmbpihhaaGreatDoor

namespace Go.Proofs.YtnlnmfkmbpihhaaGreatDoor
open Go.RowKit

/-! frames as data -/
structure Frm where
 k : Int
 r : Int
 s : Int
 i : Int
 l : Int
 d : Int
 p : Int
 a : Int
 t : ByteArray
structure Qua where
 d : Int
 u : Int
 c : Int
def Frm.v (f : Frm) : Value := frV f.k f.r f.s f.i f.l f.d f.p f.a f.t
def Frm.cells (f : Frm) : List Value := [.int .i64 f.k, .int .i64 f.r, .int .i64 f.s, .int .i64 f.i, .int .i64 f.l, .int .i64 f.d, .int .i64 f.p, .int .u32 f.a, .string f.t]
def Qua.v (q : Qua) : Value := qualV q.d q.u q.c
def frm0 : Frm := ⟨0, 0, 0, 0, 0, 0, 0, 0, ⟨#[]⟩⟩
def qua0 : Qua := ⟨0, 0, 0⟩
def unmS (s : ByteArray) : Frm :=
 ⟨valL (bs (s.extract 0 1)), valL (bs (s.extract 1 2)), valL (bs (s.extract 2 4)), valL (bs (s.extract 4 6)), valL (bs (s.extract 6 7)), (cf (bs s) 7 / 16 : Nat), (cf (bs s) 7 % 16 : Nat), valL (bs (s.extract 8 12)), s.extract 12 40⟩
theorem unmS_v (s : ByteArray) : (unmS s).v = unmF s := rfl
/-- What Decode answers, taken apart. -/
def decP (s : ByteArray) : Frm × Qua × Int :=
 if chkE (bs s) ≠ 0 then (frm0, qua0, chkE (bs s))
 else if 836 < s.size then (frm0, qua0, 6)
 else match rsDec (recL s) with
 | none => (frm0, qua0, 11)
 | some (o, n) => if unmC (strB (o.take 44)) = 0 then (unmS (strB (o.take 44)), ⟨(inner (wordL s)).2, ((fullL s).count 63 : Nat), n⟩, 0) else (frm0, qua0, unmC (strB (o.take 44)))
theorem decP_eq (s : ByteArray) : decR s = .tuple #[(decP s).1.v, (decP s).2.1.v, .int .i64 (decP s).2.2] := by
 unfold decR decP
 split
 ·rfl
 ·split
  ·rfl
  ·cases rsDec (recL s) with
   | none => rfl
   | some p =>
    obtain ⟨o, n⟩ := p
    dsimp only
    by_cases h : unmC (strB (o.take 44)) = 0
    ·rw [if_pos h, if_pos h]
     simp only [unmS_v, Qua.v]
    ·rw [if_neg h, if_neg h]
     rfl
theorem frm_inj {f g : Frm} (h : f.v = g.v) : f = g := by
 obtain ⟨k, r, s, i, l, d, p, a, t⟩ := f
 obtain ⟨k2, r2, s2, i2, l2, d2, p2, a2, t2⟩ := g
 unfold Frm.v frV at h
 injection h with h
 injection h with h
 simp only [List.cons.injEq, Value.int.injEq, Value.string.injEq, true_and, and_true] at h
 obtain ⟨rfl, rfl, rfl, rfl, rfl, rfl, rfl, rfl, rfl⟩ := h
 rfl
theorem qua_inj {f g : Qua} (h : f.v = g.v) : f = g := by
 obtain ⟨d, u, c⟩ := f
 obtain ⟨d2, u2, c2⟩ := g
 unfold Qua.v qualV at h
 injection h with h
 injection h with h
 simp only [List.cons.injEq, Value.int.injEq, true_and, and_true] at h
 obtain ⟨rfl, rfl, rfl⟩ := h
 rfl
/-- A decoder's answer, known. -/
theorem decP_of {s : ByteArray} {f : Frm} {q : Qua} {e : Int} (h : decR s = .tuple #[f.v, q.v, .int .i64 e]) : decP s = (f, q, e) := by
 rw [decP_eq] at h
 injection h with h
 injection h with h
 simp only [List.cons.injEq, Value.int.injEq, true_and, and_true] at h
 obtain ⟨h1, h2, h3⟩ := h
 rw [← frm_inj h1, ← qua_inj h2, ← h3]

/-! sightings -/
structure Sgt where
 piece : Int
 at_ : Nat
 f : Frm
 q : Qua
def Sgt.cells (x : Sgt) : List Value := .int .i64 x.piece :: .int .i64 (x.at_ : Int) :: (x.f.cells ++ [.int .i64 x.q.d, .int .i64 x.q.u, .int .i64 x.q.c])
def Sgt.v (x : Sgt) : Value := .agg #[.int .i64 x.piece, .int .i64 (x.at_ : Int), .int .i64 x.f.k, .int .i64 x.f.r, .int .i64 x.f.s, .int .i64 x.f.i, .int .i64 x.f.l, .int .i64 x.f.d, .int .i64 x.f.p, .int .u32 x.f.a, .string x.f.t, .int .i64 x.q.d, .int .i64 x.q.u, .int .i64 x.q.c]
theorem Sgt.cells_len (x : Sgt) : x.cells.length = 14 := rfl
/-- The cells behind a mark. -/
def bodyAt (s : ByteArray) (o : Nat) : ByteArray := s.extract (o + 16) (min (o + 852) s.size)
theorem bodyAt_size {s : ByteArray} {o : Nat} (h : o + 16 ≤ s.size) : (bodyAt s o).size = min 836 (s.size - (o + 16)) := by
 unfold bodyAt
 rw [ByteArray.size_extract]
 omega
def enoughAt (s : ByteArray) (o : Nat) : Bool := decide (400 ≤ ((bodyAt s o).size : Int) - ((bs (bodyAt s o)).count 63 : Nat))
def tryAt (s : ByteArray) (o : Nat) : Option Sgt :=
 if enoughAt s o then (if (decP (bodyAt s o)).2.2 = 0 then some ⟨0, o, (decP (bodyAt s o)).1, (decP (bodyAt s o)).2.1⟩ else none) else none
/-- The sightings of a piece, from place i on. -/
def scanL (s : ByteArray) (i : Nat) : List Sgt :=
 match _h : findL (bs s) i with
 | none => []
 | some o => match tryAt s o with
  | none => scanL s (o + 1)
  | some x => x :: scanL s (o + 852)
termination_by s.size - i
decreasing_by
 all_goals
  have h1 := findL_le _h
  rw [bs_len] at h1
  omega
theorem scanL_none {s : ByteArray} {i : Nat} (h : findL (bs s) i = none) : scanL s i = [] := by
 rw [scanL]
 split
 ·rfl
 ·next o ho => rw [h] at ho; cases ho
theorem scanL_miss {s : ByteArray} {i o : Nat} (h : findL (bs s) i = some o) (ht : tryAt s o = none) : scanL s i = scanL s (o + 1) := by
 rw [scanL]
 split
 ·next ho => rw [h] at ho; cases ho
 ·next o' ho =>
  rw [h] at ho
  cases ho
  rw [ht]
theorem scanL_some {s : ByteArray} {i o : Nat} {x : Sgt} (h : findL (bs s) i = some o) (ht : tryAt s o = some x) : scanL s i = x :: scanL s (o + 852) := by
 rw [scanL]
 split
 ·next ho => rw [h] at ho; cases ho
 ·next o' ho =>
  rw [h] at ho
  cases ho
  rw [ht]
theorem scanL_end {s : ByteArray} {i : Nat} (h : s.size < i + 16) : scanL s i = [] := scanL_none (findL_none (by rw [bs_len]; exact h))
theorem scanL_len (s : ByteArray) : ∀ (n i : Nat), s.size - i = n → (scanL s i).length ≤ n := by
 intro n
 induction n using Nat.strongRecOn with
 | _ n ih =>
  intro i hn
  cases hf : findL (bs s) i with
  | none => rw [scanL_none hf]; exact Nat.zero_le _
  | some o =>
   obtain ⟨h1, h2⟩ := findL_le hf
   rw [bs_len] at h2
   cases ht : tryAt s o with
   | none =>
    rw [scanL_miss hf ht]
    have := ih (s.size - (o + 1)) (by omega) (o + 1) rfl
    omega
   | some y =>
    rw [scanL_some hf ht, List.length_cons]
    have := ih (s.size - (o + 852)) (by omega) (o + 852) rfl
    omega

end Go.Proofs.YtnlnmfkmbpihhaaGreatDoor

namespace Go.Proofs.YtnlnmfkmbpihhaaGreatDoor
open Go.RowKit

/-- A message and its frame. -/
structure Msg (m : List Nat) (f : Frm) : Prop where
 bytes : Bytes m
 len : m.length = 44
 ok : unmC (strB m) = 0
 frame : unmF (strB m) = f.v
/-- Messages and their frames. -/
inductive Msgs : List (List Nat) → List Frm → Prop
 | nil : Msgs [] []
 | cons {m : List Nat} {f : Frm} {ms : List (List Nat)} {fs : List Frm} (h : Msg m f) (r : Msgs ms fs) : Msgs (m :: ms) (f :: fs)
theorem markL_len : markL.length = 16 := by rw [markL_eq]; rfl
theorem markL_01 : B01 markL := by rw [markL_eq]; decide
theorem b01_bytes {l : List Nat} (h : B01 l) : Bytes l := fun x hx => by rcases h x hx with rfl | rfl <;> decide
theorem bytes_app {l r : List Nat} (h : Bytes l) (k : Bytes r) : Bytes (l ++ r) := fun x hx => by
 rcases List.mem_append.1 hx with hx | hx
 ·exact h x hx
 ·exact k x hx
theorem mark_cat (m : List Nat) : markS ++ strB (bodyL m) = strB (markL ++ bodyL m) := by
 conv => lhs; rw [← strB_bs markS, strB_cat]
 rfl
/-- The cells of some messages, one after the other. -/
def flatC (ms : List (List Nat)) : List Nat := ms.flatMap fun m => markL ++ bodyL m
theorem flatC_len (ms : List (List Nat)) : (flatC ms).length = 852 * ms.length := by
 induction ms with
 | nil => rfl
 | cons m r ih =>
  unfold flatC at ih ⊢
  rw [List.flatMap_cons, List.length_append, ih, List.length_append, markL_len, bodyL_len, List.length_cons]
  omega
theorem cf_app_left {l r : List Nat} {j : Nat} (h : j < l.length) : cf (l ++ r) j = cf l j := by unfold cf; rw [List.getElem?_append_left h]
theorem cf_app_right (l r : List Nat) (j : Nat) : cf (l ++ r) (l.length + j) = cf r j := by
 unfold cf
 rw [List.getElem?_append_right (by omega), show l.length + j - l.length = j by omega]
theorem body_dec {m : List Nat} {f : Frm} (h : Msg m f) : decP (strB (bodyL m)) = (f, qua0, 0) := by
 refine decP_of ?_
 rw [dec_body h.bytes h.len h.ok, h.frame]
 rfl
theorem b01_no63 {l : List Nat} (h : B01 l) : l.count 63 = 0 := List.count_eq_zero.2 fun hm => by rcases h 63 hm with h | h <;> cases h
/-- A mark and a body, alone at the end of a strip. -/
theorem scan_at {P M B R : List Nat} {f : Frm} {q : Qua} (hb : Bytes (P ++ (M ++ B) ++ R)) (hM : M.length = 16) (hB : B.length ≤ 836) (hR : B.length = 836 ∨ R = []) (hh : 14 ≤ mt M 0 16) (he : 400 ≤ (B.length : Int) - (B.count 63 : Nat)) (hd : decP (strB B) = (f, q, 0)) :
  scanL (strB (P ++ (M ++ B) ++ R)) P.length = ⟨0, P.length, f, q⟩ :: scanL (strB (P ++ (M ++ B) ++ R)) (P.length + 852) := by
 obtain ⟨s, hs⟩ : ∃ s, strB (P ++ (M ++ B) ++ R) = s := ⟨_, rfl⟩
 have hbs : bs s = P ++ (M ++ B) ++ R := by rw [← hs, bs_strB hb]
 have hsz : s.size = P.length + (16 + B.length) + R.length := by rw [← bs_len, hbs, List.length_append, List.length_append, List.length_append, hM]
 rw [hs]
 have hbB : Bytes B := fun x hx => hb x (List.mem_append_left _ (List.mem_append_right _ (List.mem_append_right _ hx)))
 have hhit : hit (bs s) P.length = true := by
  unfold hit
  rw [hbs, mt_congr (r := M) (k' := 0) 16 fun j hj => ?_]
  ·exact decide_eq_true hh
  ·rw [Nat.zero_add, cf_app_left (by rw [List.length_append, List.length_append]; omega), cf_app_right, cf_app_left (by omega)]
 have hf : findL (bs s) P.length = some P.length := findL_hit (by rw [bs_len]; omega) hhit
 have hmin : min (P.length + 852) s.size = P.length + 16 + B.length := by
  rcases hR with h | rfl
  ·omega
  ·simp only [List.length_nil] at hsz
   omega
 have hbody : bodyAt s P.length = strB B := by
  refine bs_inj ?_
  unfold bodyAt
  rw [bs_extract, hmin, bs_strB hbB, hbs]
  rw [List.take_append_of_le_length (by rw [List.length_append, List.length_append]; omega), List.take_of_length_le (by rw [List.length_append, List.length_append]; omega), ← List.append_assoc, show P.length + 16 = (P ++ M).length by rw [List.length_append, hM], List.drop_left]
 have hen : enoughAt s P.length = true := by
  unfold enoughAt
  rw [hbody, strB_size, bs_strB hbB]
  exact decide_eq_true he
 have ht : tryAt s P.length = some ⟨0, P.length, f, q⟩ := by
  unfold tryAt
  rw [hen, hbody, hd]
  rfl
 exact scanL_some hf ht
/-- The sightings of whole frames, from the j-th on. -/
def sightsL : Nat → List Frm → List Sgt
 | _, [] => []
 | j, f :: r => ⟨0, 852 * j, f, qua0⟩ :: sightsL (j + 1) r
theorem flatC_app (a b : List (List Nat)) : flatC (a ++ b) = flatC a ++ flatC b := by unfold flatC; rw [List.flatMap_append]
theorem flatC_bytes {ms : List (List Nat)} (h : ∀ m ∈ ms, Bytes m ∧ m.length = 44) : Bytes (flatC ms) := fun x hx => by
 unfold flatC at hx
 obtain ⟨m, hm, hx⟩ := List.mem_flatMap.1 hx
 obtain ⟨h1, h2⟩ := h m hm
 exact bytes_app (b01_bytes markL_01) (bodyL_bytes h1 h2) x hx
theorem mt_mark : 14 ≤ mt markL 0 16 := by
 rw [mt_all 16 fun j _ => by rw [Nat.zero_add]]
 decide
theorem scan_cat : ∀ (suf pre : List (List Nat)) (fs : List Frm), (∀ m ∈ pre ++ suf, Bytes m ∧ m.length = 44) → Msgs suf fs → scanL (strB (flatC (pre ++ suf))) (852 * pre.length) = sightsL pre.length fs
 | [], pre, fs, _, h => by
  cases h
  rw [scanL_end (by rw [strB_size, flatC_len, List.append_nil]; omega)]
  rfl
 | m :: suf, pre, fs, hb, h => by
  cases h with
  | @cons _ f _ fs h1 h2 =>
   have e : flatC (pre ++ m :: suf) = flatC pre ++ (markL ++ bodyL m) ++ flatC suf := by
    rw [flatC_app]
    unfold flatC
    rw [List.flatMap_cons]
    simp only [List.append_assoc]
   have hl := flatC_len pre
   have hby := flatC_bytes hb
   rw [e] at hby
   have h3 := scan_at hby markL_len (by rw [bodyL_len]; exact Nat.le_refl _) (.inl (bodyL_len m)) mt_mark (by rw [bodyL_len, b01_no63 (bodyL_01 h1.bytes h1.len)]; decide) (body_dec h1)
   rw [← e, hl] at h3
   rw [h3]
   have h4 := scan_cat suf (pre ++ [m]) fs (by rw [List.append_assoc]; exact hb) h2
   rw [List.append_assoc, List.length_append, List.length_singleton, Nat.mul_add] at h4
   show _ = ⟨0, 852 * pre.length, f, qua0⟩ :: sightsL (pre.length + 1) fs
   rw [← h4]
   rfl
/-- The cells of valid frames. -/
theorem scan_frames {ms : List (List Nat)} {fs : List Frm} (h : Msgs ms fs) : scanL (strB (flatC ms)) 0 = sightsL 0 fs := by
 refine scan_cat ms [] fs (fun m hm => ?_) h
 rw [List.nil_append] at hm
 induction h with
 | nil => cases hm
 | cons h1 h2 ih =>
  rcases List.mem_cons.1 hm with rfl | hm
  ·exact ⟨h1.bytes, h1.len⟩
  ·exact ih hm

/-! damage -/
end Go.Proofs.YtnlnmfkmbpihhaaGreatDoor
