/-
 PLAIN: the decoder at a frame's cells of which some that lie far apart are touched; cells that are inverted, or made unreadable.
 PLAIN: marks in a strip of cells.
 PLAIN: frames as data; what scanning a piece yields.
 PLAIN: what scanning yields at the cells of valid frames, touched or not.
-/
import Derived.Test.YtnlnmfkmbpihhaaGreatDoorEncA
import Derived.Test.YtnlnmfkmbpihhaaGreatDoorFrE
import Derived.Test.YtnlnmfkmbpihhaaGreatDoorPolA
import Derived.Test.YtnlnmfkmbpihhaaGreatDoorCrcA
import Derived.Test.YtnlnmfkmbpihhaaGreatDoorFrN
namespace Go.Proofs.YtnlnmfkmbpihhaaGreatDoor
open Go.RowKit

theorem cell_conv (m : List Nat) : cellL m = convE (bitU (rsEnc m)) := rfl
theorem inner_apart {m : List Nat} (hm : Bytes m) (hl : m.length = 44) {r : List Nat} (hr : r.length = 836) (hA : Apart (parts r (cellL m))) : inner r = (bitU (rsEnc m), wrongs r (cellL m)) := by
 have hul : (bitU (rsEnc m)).length = 416 := by rw [bitU_len, (rsEnc_ok hm hl).1]
 rw [cell_conv] at hA ⊢
 obtain ⟨h1, h2, h3⟩ := inner_path (bitU_bits _) hul hr hA
 unfold inner
 split
 ·next v hv =>
  obtain ⟨e1, e2⟩ := h1 v hv
  rw [e1, e2]
 ·rw [h2, h3]
theorem dec_apart {m : List Nat} (hm : Bytes m) (hl : m.length = 44) (hc : unmC (strB m) = 0) {s : ByteArray} (hz : s.size ≤ 836) (hok : cellsOK (bs s) = true) (hA : Apart (parts (wordL s) (cellL m))) :
  decR s = .tuple #[unmF (strB m), qualV (wrongs (wordL s) (cellL m)) ((fullL s).count 63 : Nat) 0, .int .i64 0] := by
 obtain ⟨hw, hwb⟩ := rsEnc_ok hm hl
 have hck : chkE (bs s) = 0 := by unfold chkE; rw [hok]; rfl
 have hi := inner_apart hm hl (word_len s) hA
 have hr : recL s = rsEnc m := by unfold recL; rw [hi, bitsS_bitU, toB_frmB hwb]
 have hd : rsDec (rsEnc m) = some (rsEnc m, 0) := rsDec_word (synd_enc hm)
 have ht : (rsEnc m).take 44 = m := by unfold rsEnc; rw [← hl, List.take_left]
 have hi2 : (inner (wordL s)).2 = wrongs (wordL s) (cellL m) := by rw [hi]
 unfold decR
 rw [hck, hr, hd, if_neg (by simp), if_neg (by omega)]
 dsimp only
 rw [ht, if_pos hc, hi2, show ((0 : Nat) : Int) = 0 from rfl]
/-- Cells and their changes, some 836 of them. -/
theorem full_836 {l : List Nat} (hl : l.length = 836) (hb : Bytes l) : fullL (strB l) = l := by
 unfold fullL
 rw [bs_strB hb, strB_size, hl]
 exact List.append_nil _
theorem cells_bytes {l : List Nat} (h : cellsOK l = true) : Bytes l := fun x hx => by
 rcases cellsOK_iff.1 h x hx with h | h | h <;> omega
theorem cellsOK_inter {l : List Nat} (hl : l.length = 836) (h : cellsOK l = true) : cellsOK (interL l) = true := by
 rw [cellsOK_iff] at h ⊢
 exact fun c hc => h c (inter_mem hl hc)
theorem cellsOK_set {l : List Nat} (h : cellsOK l = true) (i : Nat) {x : Nat} (hx : x = 48 ∨ x = 49 ∨ x = 63) : cellsOK (l.set i x) = true := by
 rw [cellsOK_iff] at h ⊢
 intro c hc
 rcases List.mem_or_eq_of_mem_set hc with hc | rfl
 ·exact h c hc
 ·exact hx
/-- The decoder at interleaved cells that are touched far apart. -/
theorem dec_inter {m : List Nat} (hm : Bytes m) (hl : m.length = 44) (hc : unmC (strB m) = 0) {L : List Nat} (hL : L.length = 836) (hok : cellsOK L = true) (hA : Apart (parts L (cellL m))) :
  decR (strB (interL L)) = .tuple #[unmF (strB m), qualV (wrongs L (cellL m)) (L.count 63 : Nat) 0, .int .i64 0] := by
 have hb : Bytes (interL L) := cells_bytes (cellsOK_inter hL hok)
 have hf : fullL (strB (interL L)) = interL L := full_836 (interL_len _) hb
 have hw : wordL (strB (interL L)) = L := by unfold wordL; rw [hf, dein_inter hL]
 have h := dec_apart hm hl hc (s := strB (interL L)) (by rw [strB_size, interL_len]; omega) (by rw [bs_strB hb]; exact cellsOK_inter hL hok) (by rw [hw]; exact hA)
 rw [hw, hf, inter_count hL] at h
 exact h
/-- The decoder at a body of which a window of 90 cells is touched. -/
theorem dec_window {m : List Nat} (hm : Bytes m) (hl : m.length = 44) (hc : unmC (strB m) = 0) {s : ByteArray} (hz : s.size ≤ 836) (hok : cellsOK (bs s) = true) (f : Nat) (h : ∀ k, k < 836 → (k < f ∨ f + 90 ≤ k) → cf (fullL s) k = cf (bodyL m) k) :
  ∃ d u : Int, decR s = .tuple #[unmF (strB m), qualV d u 0, .int .i64 0] :=
 ⟨_, _, dec_apart hm hl hc hz hok (apart_window f (cellL_len hm hl) h)⟩

/-! every eighth cell unreadable -/
/-- Behind k rounds from cell a on. -/
structure Open8 (w : List Nat) (a k : Nat) (l : List Nat) : Prop where
 len : l.length = 836
 at_ : ∀ i, i < 836 → cf l i = if i % 8 = a ∧ i < a + 8 * k then 63 else cf w i
 cnt : l.count 63 = k
theorem open8_zero {w : List Nat} (a : Nat) (hw : w.length = 836) (h : B01 w) : Open8 w a 0 w := by
 refine ⟨hw, fun i _ => by rw [if_neg (by omega)], List.count_eq_zero.2 fun hm => ?_⟩
 rcases h 63 hm with h | h <;> cases h
theorem cf_b01 {w : List Nat} (h : B01 w) {i : Nat} (hi : i < w.length) : cf w i = 48 ∨ cf w i = 49 := by
 rw [cf_get (List.getElem?_eq_getElem hi)]
 exact h _ (List.getElem_mem hi)
theorem open8_step {w l : List Nat} {a k : Nat} (ha : a < 8) (hw : w.length = 836) (h01 : B01 w) (h : Open8 w a k l) (hk : a + 8 * k < 836) : Open8 w a (k + 1) (l.set (a + 8 * k) 63) := by
 obtain ⟨h1, h2, h3⟩ := h
 have hc := h2 (a + 8 * k) hk
 rw [if_neg (by omega)] at hc
 have hb := cf_b01 h01 (by omega : a + 8 * k < w.length)
 have hg : l[a + 8 * k]'(by omega) = cf l (a + 8 * k) := (cf_get (List.getElem?_eq_getElem (by omega))).symm
 refine ⟨by rw [List.length_set]; exact h1, fun i hi => ?_, ?_⟩
 ·rw [cf_set _ _ _ _ (by omega), h2 i hi]
  by_cases e : a + 8 * k = i
  ·subst e
   rw [if_pos rfl, if_pos (by omega)]
  ·rw [if_neg e]
   by_cases h4 : i % 8 = a ∧ i < a + 8 * k
   ·rw [if_pos h4, if_pos (by omega)]
   ·rw [if_neg h4, if_neg (by omega)]
 ·rw [List.count_set (by omega), hg, hc, h3]
  rcases hb with e | e <;> rw [e] <;> rfl
theorem open8_ok {w l : List Nat} {a k : Nat} (hw : w.length = 836) (h01 : B01 w) (h : Open8 w a k l) : cellsOK l = true ∧ Apart (parts l w) ∧ wrongs l w = 0 := by
 obtain ⟨h1, h2, h3⟩ := h
 refine ⟨cellsOK_iff.2 fun c hc => ?_, apart_mod a fun i hi => ?_, wrongs_open l w (by omega) fun i hi => ?_⟩
 ·obtain ⟨i, hi, rfl⟩ := List.getElem_of_mem hc
  have h4 := h2 i (by omega)
  rw [cf_get (List.getElem?_eq_getElem hi)] at h4
  rw [h4]
  split
  ·exact .inr (.inr rfl)
  ·rcases cf_b01 h01 (by omega : i < w.length) with e | e
   ·exact .inl e
   ·exact .inr (.inl e)
 ·by_cases hlt : i < 836
  ·rw [h2 i hlt] at hi
   by_cases h4 : i % 8 = a ∧ i < a + 8 * k
   ·exact h4.1
   ·rw [if_neg h4] at hi
    exact (hi rfl).elim
  ·rw [cf_big (by omega), cf_big (by omega)] at hi
   exact (hi rfl).elim
 ·rw [h2 i (by omega)]
  split
  ·exact .inl rfl
  ·exact .inr rfl

/-! inverted cells, at least eight apart -/
/-- Behind some inversions, n of them, the last one 8 places below nx or further down. -/
structure Flip8 (w : List Nat) (nx n : Nat) (l : List Nat) : Prop where
 len : l.length = 836
 b01 : B01 l
 low : ∀ i, cf l i ≠ cf w i → i + 8 ≤ nx
 far : Apart (parts l w)
 cnt : wrongs l w = n
theorem flip8_zero {w : List Nat} (hw : w.length = 836) (h : B01 w) : Flip8 w 0 0 w :=
 ⟨hw, h, fun _ hi => (hi rfl).elim, fun i _ _ hi => by unfold parts at hi; rw [bne_iff_ne] at hi; exact (hi rfl).elim, wrongs_self w⟩
theorem flip8_far {w l : List Nat} {nx n g : Nat} (h : Flip8 w nx n l) : Flip8 w (nx + 8 + g) n l :=
 ⟨h.len, h.b01, fun i hi => by have := h.low i hi; omega, h.far, h.cnt⟩
theorem flip8_same {w l : List Nat} {nx n g : Nat} (h : Flip8 w nx n l) : cf l (nx + g) = cf w (nx + g) := by
 rcases Nat.decEq (cf l (nx + g)) (cf w (nx + g)) with e | e
 ·have := h.low _ e
  omega
 ·exact e
theorem xor1_cell {x : Nat} (h : x = 48 ∨ x = 49) : (x ^^^ 1 = 48 ∨ x ^^^ 1 = 49) ∧ x ^^^ 1 ≠ x := by
 rcases h with rfl | rfl <;> decide
theorem flip8_step {w l : List Nat} {nx n g : Nat} (hw : w.length = 836) (h : Flip8 w nx n l) (hg : nx + g < 836) : Flip8 w (nx + 8 + g) (n + 1) (l.set (nx + g) (cf l (nx + g) ^^^ 1)) := by
 have hs := flip8_same (g := g) h
 obtain ⟨h1, h2, h3, h4, h5⟩ := h
 have hb := cf_b01 h2 (by omega : nx + g < l.length)
 obtain ⟨x1, x2⟩ := xor1_cell hb
 have hcf : ∀ i, cf (l.set (nx + g) (cf l (nx + g) ^^^ 1)) i = if nx + g = i then cf l (nx + g) ^^^ 1 else cf l i := fun i => cf_set _ _ _ _ (by omega)
 refine ⟨by rw [List.length_set]; exact h1, fun c hc => ?_, fun i hi => ?_, fun i j hij hi hj => ?_, ?_⟩
 ·rcases List.mem_or_eq_of_mem_set hc with hc | rfl
  ·exact h2 c hc
  ·exact x1
 ·rw [hcf] at hi
  by_cases e : nx + g = i
  ·omega
  ·rw [if_neg e] at hi
   have := h3 i hi
   omega
 ·unfold parts at hi hj
  rw [bne_iff_ne, hcf] at hi hj
  by_cases e1 : nx + g = i
  ·by_cases e2 : nx + g = j
   ·omega
   ·rw [if_neg e2] at hj
    have := h3 j hj
    omega
  ·rw [if_neg e1] at hi
   by_cases e2 : nx + g = j
   ·have := h3 i hi
    omega
   ·rw [if_neg e2] at hj
    exact h4 i j hij (bne_iff_ne.2 hi) (bne_iff_ne.2 hj)
 ·rw [wrongs_set l w _ _ (by omega) (by omega) hs (by rcases x1 with e | e <;> rw [e] <;> decide) (by rw [← hs]; exact x2), h5]
  omega
theorem flip8_ok {w l : List Nat} {nx n : Nat} (h : Flip8 w nx n l) : cellsOK l = true ∧ l.count 63 = 0 :=
 ⟨cells_01 h.b01, List.count_eq_zero.2 fun hm => by rcases h.b01 63 hm with h | h <;> cases h⟩

/-! a burst -/
/-- The k cells from f on may be touched. -/
structure Burst (w : List Nat) (f k : Nat) (l : List Nat) : Prop where
 len : l.length = 836
 ok : cellsOK l = true
 out : ∀ j, j < 836 → (j < f ∨ f + k ≤ j) → cf l j = cf w j
theorem burst_zero {w : List Nat} (f : Nat) (hw : w.length = 836) (h : B01 w) : Burst w f 0 w := ⟨hw, cells_01 h, fun _ _ _ => rfl⟩
theorem burst_more {w l : List Nat} {f k : Nat} (h : Burst w f k l) : Burst w f (k + 1) l := ⟨h.len, h.ok, fun j hj hk => h.out j hj (by omega)⟩
theorem burst_step {w l : List Nat} {f k x : Nat} (h : Burst w f k l) (hx : x = 48 ∨ x = 49 ∨ x = 63) (hf : f + k < 836) : Burst w f (k + 1) (l.set (f + k) x) :=
 ⟨by rw [List.length_set]; exact h.len, cellsOK_set h.ok _ hx, fun j hj hk => by rw [cf_set _ _ _ _ (by rw [h.len]; exact hf), if_neg (by omega)]; exact h.out j hj (by omega)⟩
theorem burst_dec {m : List Nat} (hm : Bytes m) (hl : m.length = 44) (hc : unmC (strB m) = 0) {f k : Nat} {l : List Nat} (h : Burst (bodyL m) f k l) (hk : k ≤ 90) :
  ∃ d u : Int, decR (strB l) = .tuple #[unmF (strB m), qualV d u 0, .int .i64 0] := by
 have hb := cells_bytes h.ok
 refine dec_window hm hl hc (by rw [strB_size, h.len]; omega) (by rw [bs_strB hb]; exact h.ok) f fun j hj hk2 => ?_
 rw [full_836 h.len hb]
 exact h.out j hj (by omega)

/-! ends that are missing -/
theorem dec_front {m : List Nat} (hm : Bytes m) (hl : m.length = 44) (hc : unmC (strB m) = 0) :
  ∃ d u : Int, decR (strB (List.replicate 90 63) ++ (strB (bodyL m)).extract 90 836) = .tuple #[unmF (strB m), qualV d u 0, .int .i64 0] := by
 have hb := bodyL_bytes hm hl
 have e1 : (strB (bodyL m)).extract 90 836 = strB ((bodyL m).drop 90) := by
  refine bs_inj ?_
  rw [bs_extract, bs_strB hb, bs_strB (fun x hx => hb x (List.mem_of_mem_drop hx)), List.take_of_length_le (by rw [bodyL_len]; omega)]
 rw [e1, strB_cat]
 have hB : Burst (bodyL m) 0 90 (List.replicate 90 63 ++ (bodyL m).drop 90) := by
  refine ⟨by rw [List.length_append, List.length_replicate, List.length_drop, bodyL_len], cellsOK_iff.2 fun c hc => ?_, fun j hj hk => ?_⟩
  ·rcases List.mem_append.1 hc with hc | hc
   ·exact .inr (.inr (List.mem_replicate.1 hc).2)
   ·rcases bodyL_01 hm hl c (List.mem_of_mem_drop hc) with e | e
    ·exact .inl e
    ·exact .inr (.inl e)
  ·unfold cf
   rw [List.getElem?_append_right (by rw [List.length_replicate]; omega), List.length_replicate, List.getElem?_drop, show 90 + (j - 90) = j by omega]
 exact burst_dec hm hl hc hB (Nat.le_refl _)
theorem dec_back {m : List Nat} (hm : Bytes m) (hl : m.length = 44) (hc : unmC (strB m) = 0) :
  ∃ d u : Int, decR ((strB (bodyL m)).extract 0 746) = .tuple #[unmF (strB m), qualV d u 0, .int .i64 0] := by
 have hb := bodyL_bytes hm hl
 have e1 : bs ((strB (bodyL m)).extract 0 746) = (bodyL m).take 746 := by
  rw [bs_extract, bs_strB hb, List.drop_zero]
 have hz : ((strB (bodyL m)).extract 0 746).size = 746 := by rw [← bs_len, e1, List.length_take, bodyL_len]; rfl
 have hok : cellsOK ((bodyL m).take 746) = true := cellsOK_iff.2 fun c hc => by
  rcases bodyL_01 hm hl c (List.mem_of_mem_take hc) with e | e
  ·exact .inl e
  ·exact .inr (.inl e)
 refine dec_window hm hl hc (by omega) (by rw [e1]; exact hok) 746 fun j hj hk => ?_
 ·unfold fullL cf
  rw [e1, hz, List.getElem?_append_left (by rw [List.length_take, bodyL_len]; omega), List.getElem?_take, if_pos (by omega)]

end Go.Proofs.YtnlnmfkmbpihhaaGreatDoor

namespace Go.Proofs.YtnlnmfkmbpihhaaGreatDoor
open Go.RowKit

def markL : List Nat := bs markS
theorem markL_eq : markL = [49, 49, 49, 49, 49, 48, 48, 49, 49, 48, 49, 48, 49, 48, 48, 48] := by decide
/-- How many of the first i cells from place k on are the mark's. -/
def mt (l : List Nat) (k : Nat) : Nat → Nat
 | 0 => 0
 | i + 1 => mt l k i + if cf l (k + i) = cf markL i then 1 else 0
theorem mt_le (l : List Nat) (k : Nat) : ∀ i, mt l k i ≤ i
 | 0 => Nat.le_refl _
 | i + 1 => by
  have := mt_le l k i
  unfold mt
  split <;> omega
theorem mt_all {l : List Nat} {k : Nat} : ∀ i, (∀ j, j < i → cf l (k + j) = cf markL j) → mt l k i = i
 | 0, _ => rfl
 | i + 1, h => by
  unfold mt
  rw [mt_all i fun j hj => h j (by omega), if_pos (h i (by omega))]
theorem mt_congr {l r : List Nat} {k k' : Nat} : ∀ i, (∀ j, j < i → cf l (k + j) = cf r (k' + j)) → mt l k i = mt r k' i
 | 0, _ => rfl
 | i + 1, h => by
  unfold mt
  rw [mt_congr i fun j hj => h j (by omega), h i (by omega)]
/-- A mark is found at place k: at most two of its cells differ. -/
def hit (l : List Nat) (k : Nat) : Bool := decide (14 ≤ mt l k 16)
theorem hit_all {l : List Nat} {k : Nat} (h : ∀ j, j < 16 → cf l (k + j) = cf markL j) : hit l k = true := by
 unfold hit
 rw [mt_all 16 h]
 rfl
/-- The first place from i on at which a mark is found. -/
def findL (l : List Nat) (i : Nat) : Option Nat :=
 if i + 16 ≤ l.length then (if hit l i then some i else findL l (i + 1)) else none
termination_by l.length - i
theorem findL_step (l : List Nat) (i : Nat) : findL l i = if i + 16 ≤ l.length then (if hit l i then some i else findL l (i + 1)) else none := by rw [findL]
theorem findL_some {l : List Nat} : ∀ (n i : Nat) {o : Nat}, l.length - i = n → findL l i = some o → i ≤ o ∧ o + 16 ≤ l.length ∧ hit l o = true ∧ ∀ j, i ≤ j → j < o → hit l j = false := by
 intro n
 induction n with
 | zero =>
  intro i o hn h
  rw [findL_step, if_neg (by omega)] at h
  cases h
 | succ n ih =>
  intro i o hn h
  rw [findL_step] at h
  split at h
  ·next h1 =>
   split at h
   ·next h2 =>
    cases h
    exact ⟨Nat.le_refl _, h1, h2, fun j hj hj' => by omega⟩
   ·next h2 =>
    obtain ⟨k1, k2, k3, k4⟩ := ih (i + 1) (by omega) h
    refine ⟨by omega, k2, k3, fun j hj hj' => ?_⟩
    by_cases e : i = j
    ·subst e
     simpa using h2
    ·exact k4 j (by omega) hj'
  ·cases h
theorem findL_le {l : List Nat} {i o : Nat} (h : findL l i = some o) : i ≤ o ∧ o + 16 ≤ l.length := by
 obtain ⟨h1, h2, _, _⟩ := findL_some _ i rfl h
 exact ⟨h1, h2⟩
theorem findL_none {l : List Nat} {i : Nat} (h : l.length < i + 16) : findL l i = none := by rw [findL_step, if_neg (by omega)]
theorem findL_hit {l : List Nat} {i : Nat} (h : i + 16 ≤ l.length) (hh : hit l i = true) : findL l i = some i := by rw [findL_step, if_pos h, if_pos hh]

end Go.Proofs.YtnlnmfkmbpihhaaGreatDoor

namespace Go.Proofs.YtnlnmfkmbpihhaaGreatDoor
open Go.RowKit

/-! frames as data -/
structure Frm where
 k : Int
 r : Int
 s : Int
 i : Int
 l : Int
 d : Int
 p : Int
 a : Int
 t : ByteArray
structure Qua where
 d : Int
 u : Int
 c : Int
def Frm.v (f : Frm) : Value := frV f.k f.r f.s f.i f.l f.d f.p f.a f.t
def Frm.cells (f : Frm) : List Value := [.int .i64 f.k, .int .i64 f.r, .int .i64 f.s, .int .i64 f.i, .int .i64 f.l, .int .i64 f.d, .int .i64 f.p, .int .u32 f.a, .string f.t]
def Qua.v (q : Qua) : Value := qualV q.d q.u q.c
def frm0 : Frm := ⟨0, 0, 0, 0, 0, 0, 0, 0, ⟨#[]⟩⟩
def qua0 : Qua := ⟨0, 0, 0⟩
def unmS (s : ByteArray) : Frm :=
 ⟨valL (bs (s.extract 0 1)), valL (bs (s.extract 1 2)), valL (bs (s.extract 2 4)), valL (bs (s.extract 4 6)), valL (bs (s.extract 6 7)), (cf (bs s) 7 / 16 : Nat), (cf (bs s) 7 % 16 : Nat), valL (bs (s.extract 8 12)), s.extract 12 40⟩
theorem unmS_v (s : ByteArray) : (unmS s).v = unmF s := rfl
/-- What Decode answers, taken apart. -/
def decP (s : ByteArray) : Frm × Qua × Int :=
 if chkE (bs s) ≠ 0 then (frm0, qua0, chkE (bs s))
 else if 836 < s.size then (frm0, qua0, 6)
 else match rsDec (recL s) with
 | none => (frm0, qua0, 11)
 | some (o, n) => if unmC (strB (o.take 44)) = 0 then (unmS (strB (o.take 44)), ⟨(inner (wordL s)).2, ((fullL s).count 63 : Nat), n⟩, 0) else (frm0, qua0, unmC (strB (o.take 44)))
theorem decP_eq (s : ByteArray) : decR s = .tuple #[(decP s).1.v, (decP s).2.1.v, .int .i64 (decP s).2.2] := by
 unfold decR decP
 split
 ·rfl
 ·split
  ·rfl
  ·cases rsDec (recL s) with
   | none => rfl
   | some p =>
    obtain ⟨o, n⟩ := p
    dsimp only
    by_cases h : unmC (strB (o.take 44)) = 0
    ·rw [if_pos h, if_pos h]
     simp only [unmS_v, Qua.v]
    ·rw [if_neg h, if_neg h]
     rfl
theorem frm_inj {f g : Frm} (h : f.v = g.v) : f = g := by
 obtain ⟨k, r, s, i, l, d, p, a, t⟩ := f
 obtain ⟨k2, r2, s2, i2, l2, d2, p2, a2, t2⟩ := g
 unfold Frm.v frV at h
 injection h with h
 injection h with h
 simp only [List.cons.injEq, Value.int.injEq, Value.string.injEq, true_and, and_true] at h
 obtain ⟨rfl, rfl, rfl, rfl, rfl, rfl, rfl, rfl, rfl⟩ := h
 rfl
theorem qua_inj {f g : Qua} (h : f.v = g.v) : f = g := by
 obtain ⟨d, u, c⟩ := f
 obtain ⟨d2, u2, c2⟩ := g
 unfold Qua.v qualV at h
 injection h with h
 injection h with h
 simp only [List.cons.injEq, Value.int.injEq, true_and, and_true] at h
 obtain ⟨rfl, rfl, rfl⟩ := h
 rfl
/-- A decoder's answer, known. -/
theorem decP_of {s : ByteArray} {f : Frm} {q : Qua} {e : Int} (h : decR s = .tuple #[f.v, q.v, .int .i64 e]) : decP s = (f, q, e) := by
 rw [decP_eq] at h
 injection h with h
 injection h with h
 simp only [List.cons.injEq, Value.int.injEq, true_and, and_true] at h
 obtain ⟨h1, h2, h3⟩ := h
 rw [← frm_inj h1, ← qua_inj h2, ← h3]

/-! sightings -/
structure Sgt where
 piece : Int
 at_ : Nat
 f : Frm
 q : Qua
def Sgt.cells (x : Sgt) : List Value := .int .i64 x.piece :: .int .i64 (x.at_ : Int) :: (x.f.cells ++ [.int .i64 x.q.d, .int .i64 x.q.u, .int .i64 x.q.c])
def Sgt.v (x : Sgt) : Value := .agg #[.int .i64 x.piece, .int .i64 (x.at_ : Int), .int .i64 x.f.k, .int .i64 x.f.r, .int .i64 x.f.s, .int .i64 x.f.i, .int .i64 x.f.l, .int .i64 x.f.d, .int .i64 x.f.p, .int .u32 x.f.a, .string x.f.t, .int .i64 x.q.d, .int .i64 x.q.u, .int .i64 x.q.c]
theorem Sgt.v_cells (x : Sgt) : x.v = .agg x.cells.toArray := rfl
theorem Sgt.cells_len (x : Sgt) : x.cells.length = 14 := rfl
/-- The cells behind a mark. -/
def bodyAt (s : ByteArray) (o : Nat) : ByteArray := s.extract (o + 16) (min (o + 852) s.size)
theorem bodyAt_size {s : ByteArray} {o : Nat} (h : o + 16 ≤ s.size) : (bodyAt s o).size = min 836 (s.size - (o + 16)) := by
 unfold bodyAt
 rw [ByteArray.size_extract]
 omega
def enoughAt (s : ByteArray) (o : Nat) : Bool := decide (400 ≤ ((bodyAt s o).size : Int) - ((bs (bodyAt s o)).count 63 : Nat))
def tryAt (s : ByteArray) (o : Nat) : Option Sgt :=
 if enoughAt s o then (if (decP (bodyAt s o)).2.2 = 0 then some ⟨0, o, (decP (bodyAt s o)).1, (decP (bodyAt s o)).2.1⟩ else none) else none
theorem tryAt_at {s : ByteArray} {o : Nat} {x : Sgt} (h : tryAt s o = some x) : x.at_ = o ∧ x.piece = 0 := by
 unfold tryAt at h
 split at h
 ·split at h
  ·cases h
   exact ⟨rfl, rfl⟩
  ·cases h
 ·cases h
/-- The sightings of a piece, from place i on. -/
def scanL (s : ByteArray) (i : Nat) : List Sgt :=
 match _h : findL (bs s) i with
 | none => []
 | some o => match tryAt s o with
  | none => scanL s (o + 1)
  | some x => x :: scanL s (o + 852)
termination_by s.size - i
decreasing_by
 all_goals
  have h1 := findL_le _h
  rw [bs_len] at h1
  omega
theorem scanL_none {s : ByteArray} {i : Nat} (h : findL (bs s) i = none) : scanL s i = [] := by
 rw [scanL]
 split
 ·rfl
 ·next o ho => rw [h] at ho; cases ho
theorem scanL_miss {s : ByteArray} {i o : Nat} (h : findL (bs s) i = some o) (ht : tryAt s o = none) : scanL s i = scanL s (o + 1) := by
 rw [scanL]
 split
 ·next ho => rw [h] at ho; cases ho
 ·next o' ho =>
  rw [h] at ho
  cases ho
  rw [ht]
theorem scanL_some {s : ByteArray} {i o : Nat} {x : Sgt} (h : findL (bs s) i = some o) (ht : tryAt s o = some x) : scanL s i = x :: scanL s (o + 852) := by
 rw [scanL]
 split
 ·next ho => rw [h] at ho; cases ho
 ·next o' ho =>
  rw [h] at ho
  cases ho
  rw [ht]
theorem scanL_end {s : ByteArray} {i : Nat} (h : s.size < i + 16) : scanL s i = [] := scanL_none (findL_none (by rw [bs_len]; exact h))
/-- Each sighting lies at a mark. -/
theorem scanL_mem (s : ByteArray) : ∀ (n i : Nat), s.size - i = n → ∀ x ∈ scanL s i, i ≤ x.at_ ∧ hit (bs s) x.at_ = true := by
 intro n
 induction n using Nat.strongRecOn with
 | _ n ih =>
  intro i hn x hx
  cases hf : findL (bs s) i with
  | none => rw [scanL_none hf] at hx; cases hx
  | some o =>
   obtain ⟨h1, h2, h3, _⟩ := findL_some _ i rfl hf
   rw [bs_len] at h2
   cases ht : tryAt s o with
   | none =>
    rw [scanL_miss hf ht] at hx
    have := ih (s.size - (o + 1)) (by omega) (o + 1) rfl x hx
    exact ⟨by omega, this.2⟩
   | some y =>
    rw [scanL_some hf ht] at hx
    rcases List.mem_cons.1 hx with rfl | hx
    ·rw [(tryAt_at ht).1]
     exact ⟨h1, h3⟩
    ·by_cases hle : s.size < o + 852 + 16
     ·rw [scanL_end hle] at hx; cases hx
     ·have := ih (s.size - (o + 852)) (by omega) (o + 852) rfl x hx
      exact ⟨by omega, this.2⟩
theorem scanL_len (s : ByteArray) : ∀ (n i : Nat), s.size - i = n → (scanL s i).length ≤ n := by
 intro n
 induction n using Nat.strongRecOn with
 | _ n ih =>
  intro i hn
  cases hf : findL (bs s) i with
  | none => rw [scanL_none hf]; exact Nat.zero_le _
  | some o =>
   obtain ⟨h1, h2⟩ := findL_le hf
   rw [bs_len] at h2
   cases ht : tryAt s o with
   | none =>
    rw [scanL_miss hf ht]
    have := ih (s.size - (o + 1)) (by omega) (o + 1) rfl
    omega
   | some y =>
    rw [scanL_some hf ht, List.length_cons]
    have := ih (s.size - (o + 852)) (by omega) (o + 852) rfl
    omega

end Go.Proofs.YtnlnmfkmbpihhaaGreatDoor

namespace Go.Proofs.YtnlnmfkmbpihhaaGreatDoor
open Go.RowKit

/-- A message and its frame. -/
structure Msg (m : List Nat) (f : Frm) : Prop where
 bytes : Bytes m
 len : m.length = 44
 ok : unmC (strB m) = 0
 frame : unmF (strB m) = f.v
/-- Messages and their frames. -/
inductive Msgs : List (List Nat) → List Frm → Prop
 | nil : Msgs [] []
 | cons {m : List Nat} {f : Frm} {ms : List (List Nat)} {fs : List Frm} (h : Msg m f) (r : Msgs ms fs) : Msgs (m :: ms) (f :: fs)
theorem valid_msg {f : Frm} (h : frE f.k f.r f.s f.i f.l f.d f.p f.t = 0) (ha : 0 ≤ f.a ∧ f.a < 4294967296) :
  ∃ m, Msg m f ∧ fencR f.k f.r f.s f.i f.l f.d f.p f.a f.t = .tuple #[.string (markS ++ strB (bodyL m)), .int .i64 0] := by
 obtain ⟨m, h1, h2, _, _, h5, _, h7, h8⟩ := valid_parts h ha
 exact ⟨m, ⟨h1, h2, h7, h8⟩, h5⟩
theorem markL_len : markL.length = 16 := by rw [markL_eq]; rfl
theorem markL_01 : B01 markL := by rw [markL_eq]; decide
theorem b01_bytes {l : List Nat} (h : B01 l) : Bytes l := fun x hx => by rcases h x hx with rfl | rfl <;> decide
theorem bytes_app {l r : List Nat} (h : Bytes l) (k : Bytes r) : Bytes (l ++ r) := fun x hx => by
 rcases List.mem_append.1 hx with hx | hx
 ·exact h x hx
 ·exact k x hx
theorem mark_cat (m : List Nat) : markS ++ strB (bodyL m) = strB (markL ++ bodyL m) := by
 conv => lhs; rw [← strB_bs markS, strB_cat]
 rfl
/-- The cells of some messages, one after the other. -/
def flatC (ms : List (List Nat)) : List Nat := ms.flatMap fun m => markL ++ bodyL m
theorem flatC_len (ms : List (List Nat)) : (flatC ms).length = 852 * ms.length := by
 induction ms with
 | nil => rfl
 | cons m r ih =>
  unfold flatC at ih ⊢
  rw [List.flatMap_cons, List.length_append, ih, List.length_append, markL_len, bodyL_len, List.length_cons]
  omega
theorem cf_app_left {l r : List Nat} {j : Nat} (h : j < l.length) : cf (l ++ r) j = cf l j := by unfold cf; rw [List.getElem?_append_left h]
theorem cf_app_right (l r : List Nat) (j : Nat) : cf (l ++ r) (l.length + j) = cf r j := by
 unfold cf
 rw [List.getElem?_append_right (by omega), show l.length + j - l.length = j by omega]
theorem body_dec {m : List Nat} {f : Frm} (h : Msg m f) : decP (strB (bodyL m)) = (f, qua0, 0) := by
 refine decP_of ?_
 rw [dec_body h.bytes h.len h.ok, h.frame]
 rfl
theorem b01_no63 {l : List Nat} (h : B01 l) : l.count 63 = 0 := List.count_eq_zero.2 fun hm => by rcases h 63 hm with h | h <;> cases h
/-- A mark and a body, alone at the end of a strip. -/
theorem scan_at {P M B R : List Nat} {f : Frm} {q : Qua} (hb : Bytes (P ++ (M ++ B) ++ R)) (hM : M.length = 16) (hB : B.length ≤ 836) (hR : B.length = 836 ∨ R = []) (hh : 14 ≤ mt M 0 16) (he : 400 ≤ (B.length : Int) - (B.count 63 : Nat)) (hd : decP (strB B) = (f, q, 0)) :
  scanL (strB (P ++ (M ++ B) ++ R)) P.length = ⟨0, P.length, f, q⟩ :: scanL (strB (P ++ (M ++ B) ++ R)) (P.length + 852) := by
 obtain ⟨s, hs⟩ : ∃ s, strB (P ++ (M ++ B) ++ R) = s := ⟨_, rfl⟩
 have hbs : bs s = P ++ (M ++ B) ++ R := by rw [← hs, bs_strB hb]
 have hsz : s.size = P.length + (16 + B.length) + R.length := by rw [← bs_len, hbs, List.length_append, List.length_append, List.length_append, hM]
 rw [hs]
 have hbB : Bytes B := fun x hx => hb x (List.mem_append_left _ (List.mem_append_right _ (List.mem_append_right _ hx)))
 have hhit : hit (bs s) P.length = true := by
  unfold hit
  rw [hbs, mt_congr (r := M) (k' := 0) 16 fun j hj => ?_]
  ·exact decide_eq_true hh
  ·rw [Nat.zero_add, cf_app_left (by rw [List.length_append, List.length_append]; omega), cf_app_right, cf_app_left (by omega)]
 have hf : findL (bs s) P.length = some P.length := findL_hit (by rw [bs_len]; omega) hhit
 have hmin : min (P.length + 852) s.size = P.length + 16 + B.length := by
  rcases hR with h | rfl
  ·omega
  ·simp only [List.length_nil] at hsz
   omega
 have hbody : bodyAt s P.length = strB B := by
  refine bs_inj ?_
  unfold bodyAt
  rw [bs_extract, hmin, bs_strB hbB, hbs]
  rw [List.take_append_of_le_length (by rw [List.length_append, List.length_append]; omega), List.take_of_length_le (by rw [List.length_append, List.length_append]; omega), ← List.append_assoc, show P.length + 16 = (P ++ M).length by rw [List.length_append, hM], List.drop_left]
 have hen : enoughAt s P.length = true := by
  unfold enoughAt
  rw [hbody, strB_size, bs_strB hbB]
  exact decide_eq_true he
 have ht : tryAt s P.length = some ⟨0, P.length, f, q⟩ := by
  unfold tryAt
  rw [hen, hbody, hd]
  rfl
 exact scanL_some hf ht
theorem scan_one {M B : List Nat} {f : Frm} {q : Qua} (hb : Bytes (M ++ B)) (hM : M.length = 16) (hB : B.length ≤ 836) (hh : 14 ≤ mt M 0 16) (he : 400 ≤ (B.length : Int) - (B.count 63 : Nat)) (hd : decP (strB B) = (f, q, 0)) :
  scanL (strB (M ++ B)) 0 = [⟨0, 0, f, q⟩] := by
 have h := scan_at (P := []) (R := []) (by simpa using hb) hM hB (.inr rfl) hh he hd
 simp only [List.nil_append, List.append_nil, List.length_nil] at h
 rw [h, scanL_end (by rw [strB_size, List.length_append]; omega)]
/-- The sightings of whole frames, from the j-th on. -/
def sightsL : Nat → List Frm → List Sgt
 | _, [] => []
 | j, f :: r => ⟨0, 852 * j, f, qua0⟩ :: sightsL (j + 1) r
theorem flatC_app (a b : List (List Nat)) : flatC (a ++ b) = flatC a ++ flatC b := by unfold flatC; rw [List.flatMap_append]
theorem flatC_bytes {ms : List (List Nat)} (h : ∀ m ∈ ms, Bytes m ∧ m.length = 44) : Bytes (flatC ms) := fun x hx => by
 unfold flatC at hx
 obtain ⟨m, hm, hx⟩ := List.mem_flatMap.1 hx
 obtain ⟨h1, h2⟩ := h m hm
 exact bytes_app (b01_bytes markL_01) (bodyL_bytes h1 h2) x hx
theorem mt_mark : 14 ≤ mt markL 0 16 := by
 rw [mt_all 16 fun j _ => by rw [Nat.zero_add]]
 decide
theorem scan_cat : ∀ (suf pre : List (List Nat)) (fs : List Frm), (∀ m ∈ pre ++ suf, Bytes m ∧ m.length = 44) → Msgs suf fs → scanL (strB (flatC (pre ++ suf))) (852 * pre.length) = sightsL pre.length fs
 | [], pre, fs, _, h => by
  cases h
  rw [scanL_end (by rw [strB_size, flatC_len, List.append_nil]; omega)]
  rfl
 | m :: suf, pre, fs, hb, h => by
  cases h with
  | @cons _ f _ fs h1 h2 =>
   have e : flatC (pre ++ m :: suf) = flatC pre ++ (markL ++ bodyL m) ++ flatC suf := by
    rw [flatC_app]
    unfold flatC
    rw [List.flatMap_cons]
    simp only [List.append_assoc]
   have hl := flatC_len pre
   have hby := flatC_bytes hb
   rw [e] at hby
   have h3 := scan_at hby markL_len (by rw [bodyL_len]; exact Nat.le_refl _) (.inl (bodyL_len m)) mt_mark (by rw [bodyL_len, b01_no63 (bodyL_01 h1.bytes h1.len)]; decide) (body_dec h1)
   rw [← e, hl] at h3
   rw [h3]
   have h4 := scan_cat suf (pre ++ [m]) fs (by rw [List.append_assoc]; exact hb) h2
   rw [List.append_assoc, List.length_append, List.length_singleton, Nat.mul_add] at h4
   show _ = ⟨0, 852 * pre.length, f, qua0⟩ :: sightsL (pre.length + 1) fs
   rw [← h4]
   rfl
/-- The cells of valid frames. -/
theorem scan_frames {ms : List (List Nat)} {fs : List Frm} (h : Msgs ms fs) : scanL (strB (flatC ms)) 0 = sightsL 0 fs := by
 refine scan_cat ms [] fs (fun m hm => ?_) h
 rw [List.nil_append] at hm
 induction h with
 | nil => cases hm
 | cons h1 h2 ih =>
  rcases List.mem_cons.1 hm with rfl | hm
  ·exact ⟨h1.bytes, h1.len⟩
  ·exact ih hm

/-! damage -/
theorem count_window {l : List Nat} {f k : Nat} (h : ∀ j, (j < f ∨ f + k ≤ j) → cf l j ≠ 63) : l.count 63 ≤ k := by
 have e : l = l.take f ++ ((l.drop f).take k ++ (l.drop f).drop k) := by rw [List.take_append_drop, List.take_append_drop]
 have h0 : ∀ r : List Nat, (∀ j, j < r.length → cf r j ≠ 63) → r.count 63 = 0 := fun r hr => List.count_eq_zero.2 fun hm => by
  obtain ⟨j, hj, e⟩ := List.getElem_of_mem hm
  exact hr j hj (by rw [cf_get (List.getElem?_eq_getElem hj), e])
 have h1 : (l.take f).count 63 = 0 := h0 _ fun j hj => by
  rw [List.length_take] at hj
  have := h j (.inl (by omega))
  unfold cf at this ⊢
  rw [List.getElem?_take, if_pos (by omega)]
  exact this
 have h2 : ((l.drop f).drop k).count 63 = 0 := h0 _ fun j hj => by
  have := h (f + (k + j)) (.inr (by omega))
  unfold cf at this ⊢
  rw [List.getElem?_drop, List.getElem?_drop]
  exact this
 have h3 : ((l.drop f).take k).count 63 ≤ k := Nat.le_trans List.count_le_length (List.length_take_le _ _)
 rw [e, List.count_append, List.count_append, h1, h2]
 omega
theorem burst_count {m l : List Nat} {f k : Nat} (hm : Bytes m) (hl : m.length = 44) (h : Burst (bodyL m) f k l) : l.count 63 ≤ k := by
 refine count_window (f := f) fun j hj => ?_
 by_cases hlt : j < 836
 ·rw [h.out j hlt hj]
  rcases cf_b01 (bodyL_01 hm hl) (i := j) (by rw [bodyL_len]; exact hlt) with e | e <;> rw [e] <;> decide
 ·rw [cf_big (by rw [h.len]; omega)]
  decide
/-- A mark of which at most two cells differ, and a body with a burst. -/
theorem scan_burst {m M l : List Nat} {f : Frm} {g k : Nat} (h : Msg m f) (hM : M.length = 16) (hMb : Bytes M) (hh : 14 ≤ mt M 0 16) (hB : Burst (bodyL m) g k l) (hk : k ≤ 90) : ∃ q, scanL (strB (M ++ l)) 0 = [⟨0, 0, f, q⟩] := by
 obtain ⟨d, u, hd⟩ := burst_dec h.bytes h.len h.ok hB hk
 rw [h.frame] at hd
 have hc := burst_count h.bytes h.len hB
 exact ⟨⟨d, u, 0⟩, scan_one (bytes_app hMb (cells_bytes hB.ok)) hM (by rw [hB.len]; exact Nat.le_refl _) hh (by rw [hB.len]; omega) (decP_of (q := ⟨d, u, 0⟩) hd)⟩
/-- A frame whose last cells are missing. -/
theorem scan_torn {m : List Nat} {f : Frm} (h : Msg m f) {n : Nat} (hn : n ≤ 90) : ∃ d : Int, scanL (strB ((markL ++ bodyL m).take (852 - n))) 0 = [⟨0, 0, f, ⟨d, (n : Int), 0⟩⟩] := by
 have hb := bodyL_bytes h.bytes h.len
 have e : (markL ++ bodyL m).take (852 - n) = markL ++ (bodyL m).take (836 - n) := by
  rw [List.take_append, markL_len, List.take_of_length_le (by rw [markL_len]; omega), show 852 - n - 16 = 836 - n by omega]
 obtain ⟨T, hT⟩ : ∃ T, (bodyL m).take (836 - n) = T := ⟨_, rfl⟩
 have hTl : T.length = 836 - n := by rw [← hT, List.length_take, bodyL_len]; omega
 have hT01 : B01 T := fun c hc => by rw [← hT] at hc; exact bodyL_01 h.bytes h.len c (List.mem_of_mem_take hc)
 have hTb := b01_bytes hT01
 have hfull : fullL (strB T) = T ++ List.replicate n 63 := by
  unfold fullL
  rw [bs_strB hTb, strB_size, hTl, show 836 - (836 - n) = n by omega]
 have hA : Apart (parts (wordL (strB T)) (cellL m)) := by
  unfold wordL
  refine apart_window (836 - n) (cellL_len h.bytes h.len) fun k hk hk2 => ?_
  have hk3 : k < 836 - n := by omega
  rw [hfull, cf_app_left (by omega), ← hT]
  show cf _ k = cf (bodyL m) k
  unfold cf
  rw [List.getElem?_take, if_pos hk3]
 have hd := dec_apart h.bytes h.len h.ok (s := strB T) (by rw [strB_size]; omega) (by rw [bs_strB hTb]; exact cells_01 hT01) hA
 rw [hfull, List.count_append, b01_no63 hT01, List.count_replicate_self, Nat.zero_add, h.frame] at hd
 generalize wrongs (wordL (strB T)) (cellL m) = d at hd
 rw [e, hT]
 exact ⟨d, scan_one (bytes_app (b01_bytes markL_01) hTb) markL_len (by omega) mt_mark (by rw [hTl, b01_no63 hT01]; omega) (decP_of (q := ⟨d, (n : Int), 0⟩) hd)⟩

end Go.Proofs.YtnlnmfkmbpihhaaGreatDoor
