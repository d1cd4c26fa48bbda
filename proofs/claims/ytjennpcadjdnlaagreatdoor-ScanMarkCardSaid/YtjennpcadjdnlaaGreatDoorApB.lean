/-
  PLAIN: the decoder at a frame's cells of which some that lie far apart are touched; cells that are inverted, or made unreadable.
-/
import Derived.Test.YtjennpcadjdnlaaGreatDoorApA
import Derived.Test.YtjennpcadjdnlaaGreatDoorRtA
namespace Go.Proofs.YtjennpcadjdnlaaGreatDoor
open Go.RowKit

theorem cell_conv (m : List Nat) : cellL m = convE (bitU (rsEnc m)) := rfl
theorem inner_apart {m : List Nat} (hm : Bytes m) (hl : m.length = 44) {r : List Nat} (hr : r.length = 836) (hA : Apart (parts r (cellL m))) : inner r = (bitU (rsEnc m), wrongs r (cellL m)) := by
  have hul : (bitU (rsEnc m)).length = 416 := by rw [bitU_len, (rsEnc_ok hm hl).1]
  rw [cell_conv] at hA ⊢
  obtain ⟨h1, h2, h3⟩ := inner_path (bitU_bits _) hul hr hA
  unfold inner
  split
  · next v hv =>
    obtain ⟨e1, e2⟩ := h1 v hv
    rw [e1, e2]
  · rw [h2, h3]
theorem dec_apart {m : List Nat} (hm : Bytes m) (hl : m.length = 44) (hc : unmC (strB m) = 0) {s : ByteArray} (hz : s.size ≤ 836) (hok : cellsOK (bs s) = true) (hA : Apart (parts (wordL s) (cellL m))) :
    decR s = .tuple #[unmF (strB m), qualV (wrongs (wordL s) (cellL m)) ((fullL s).count 63 : Nat) 0, .int .i64 0] := by
  obtain ⟨hw, hwb⟩ := rsEnc_ok hm hl
  have hck : chkE (bs s) = 0 := by unfold chkE; rw [hok]; rfl
  have hi := inner_apart hm hl (word_len s) hA
  have hr : recL s = rsEnc m := by unfold recL; rw [hi, bitsS_bitU, toB_frmB hwb]
  have hd : rsDec (rsEnc m) = some (rsEnc m, 0) := rsDec_word (synd_enc hm)
  have ht : (rsEnc m).take 44 = m := by unfold rsEnc; rw [← hl, List.take_left]
  have hi2 : (inner (wordL s)).2 = wrongs (wordL s) (cellL m) := by rw [hi]
  unfold decR
  rw [hck, hr, hd, if_neg (by simp), if_neg (by omega)]
  dsimp only
  rw [ht, if_pos hc, hi2, show ((0 : Nat) : Int) = 0 from rfl]
/-- Cells and their changes, some 836 of them. -/
theorem full_836 {l : List Nat} (hl : l.length = 836) (hb : Bytes l) : fullL (strB l) = l := by
  unfold fullL
  rw [bs_strB hb, strB_size, hl]
  exact List.append_nil _
theorem cells_bytes {l : List Nat} (h : cellsOK l = true) : Bytes l := fun x hx => by
  rcases cellsOK_iff.1 h x hx with h | h | h <;> omega
theorem cellsOK_inter {l : List Nat} (hl : l.length = 836) (h : cellsOK l = true) : cellsOK (interL l) = true := by
  rw [cellsOK_iff] at h ⊢
  exact fun c hc => h c (inter_mem hl hc)
theorem cellsOK_set {l : List Nat} (h : cellsOK l = true) (i : Nat) {x : Nat} (hx : x = 48 ∨ x = 49 ∨ x = 63) : cellsOK (l.set i x) = true := by
  rw [cellsOK_iff] at h ⊢
  intro c hc
  rcases List.mem_or_eq_of_mem_set hc with hc | rfl
  · exact h c hc
  · exact hx
/-- The decoder at interleaved cells that are touched far apart. -/
theorem dec_inter {m : List Nat} (hm : Bytes m) (hl : m.length = 44) (hc : unmC (strB m) = 0) {L : List Nat} (hL : L.length = 836) (hok : cellsOK L = true) (hA : Apart (parts L (cellL m))) :
    decR (strB (interL L)) = .tuple #[unmF (strB m), qualV (wrongs L (cellL m)) (L.count 63 : Nat) 0, .int .i64 0] := by
  have hb : Bytes (interL L) := cells_bytes (cellsOK_inter hL hok)
  have hf : fullL (strB (interL L)) = interL L := full_836 (interL_len _) hb
  have hw : wordL (strB (interL L)) = L := by unfold wordL; rw [hf, dein_inter hL]
  have h := dec_apart hm hl hc (s := strB (interL L)) (by rw [strB_size, interL_len]; omega) (by rw [bs_strB hb]; exact cellsOK_inter hL hok) (by rw [hw]; exact hA)
  rw [hw, hf, inter_count hL] at h
  exact h
/-- The decoder at a body of which a window of 90 cells is touched. -/
theorem dec_window {m : List Nat} (hm : Bytes m) (hl : m.length = 44) (hc : unmC (strB m) = 0) {s : ByteArray} (hz : s.size ≤ 836) (hok : cellsOK (bs s) = true) (f : Nat) (h : ∀ k, k < 836 → (k < f ∨ f + 90 ≤ k) → cf (fullL s) k = cf (bodyL m) k) :
    ∃ d u : Int, decR s = .tuple #[unmF (strB m), qualV d u 0, .int .i64 0] :=
  ⟨_, _, dec_apart hm hl hc hz hok (apart_window f (cellL_len hm hl) h)⟩

/-! every eighth cell unreadable -/
/-- Behind k rounds from cell a on. -/
structure Open8 (w : List Nat) (a k : Nat) (l : List Nat) : Prop where
  len : l.length = 836
  at_ : ∀ i, i < 836 → cf l i = if i % 8 = a ∧ i < a + 8 * k then 63 else cf w i
  cnt : l.count 63 = k
theorem open8_zero {w : List Nat} (a : Nat) (hw : w.length = 836) (h : B01 w) : Open8 w a 0 w := by
  refine ⟨hw, fun i _ => by rw [if_neg (by omega)], List.count_eq_zero.2 fun hm => ?_⟩
  rcases h 63 hm with h | h <;> cases h
theorem cf_b01 {w : List Nat} (h : B01 w) {i : Nat} (hi : i < w.length) : cf w i = 48 ∨ cf w i = 49 := by
  rw [cf_get (List.getElem?_eq_getElem hi)]
  exact h _ (List.getElem_mem hi)
theorem open8_step {w l : List Nat} {a k : Nat} (ha : a < 8) (hw : w.length = 836) (h01 : B01 w) (h : Open8 w a k l) (hk : a + 8 * k < 836) : Open8 w a (k + 1) (l.set (a + 8 * k) 63) := by
  obtain ⟨h1, h2, h3⟩ := h
  have hc := h2 (a + 8 * k) hk
  rw [if_neg (by omega)] at hc
  have hb := cf_b01 h01 (by omega : a + 8 * k < w.length)
  have hg : l[a + 8 * k]'(by omega) = cf l (a + 8 * k) := (cf_get (List.getElem?_eq_getElem (by omega))).symm
  refine ⟨by rw [List.length_set]; exact h1, fun i hi => ?_, ?_⟩
  · rw [cf_set _ _ _ _ (by omega), h2 i hi]
    by_cases e : a + 8 * k = i
    · subst e
      rw [if_pos rfl, if_pos (by omega)]
    · rw [if_neg e]
      by_cases h4 : i % 8 = a ∧ i < a + 8 * k
      · rw [if_pos h4, if_pos (by omega)]
      · rw [if_neg h4, if_neg (by omega)]
  · rw [List.count_set (by omega), hg, hc, h3]
    rcases hb with e | e <;> rw [e] <;> rfl
theorem open8_ok {w l : List Nat} {a k : Nat} (hw : w.length = 836) (h01 : B01 w) (h : Open8 w a k l) : cellsOK l = true ∧ Apart (parts l w) ∧ wrongs l w = 0 := by
  obtain ⟨h1, h2, h3⟩ := h
  refine ⟨cellsOK_iff.2 fun c hc => ?_, apart_mod a fun i hi => ?_, wrongs_open l w (by omega) fun i hi => ?_⟩
  · obtain ⟨i, hi, rfl⟩ := List.getElem_of_mem hc
    have h4 := h2 i (by omega)
    rw [cf_get (List.getElem?_eq_getElem hi)] at h4
    rw [h4]
    split
    · exact .inr (.inr rfl)
    · rcases cf_b01 h01 (by omega : i < w.length) with e | e
      · exact .inl e
      · exact .inr (.inl e)
  · by_cases hlt : i < 836
    · rw [h2 i hlt] at hi
      by_cases h4 : i % 8 = a ∧ i < a + 8 * k
      · exact h4.1
      · rw [if_neg h4] at hi
        exact (hi rfl).elim
    · rw [cf_big (by omega), cf_big (by omega)] at hi
      exact (hi rfl).elim
  · rw [h2 i (by omega)]
    split
    · exact .inl rfl
    · exact .inr rfl

/-! inverted cells, at least eight apart -/
/-- Behind some inversions, n of them, the last one 8 places below nx or further down. -/
structure Flip8 (w : List Nat) (nx n : Nat) (l : List Nat) : Prop where
  len : l.length = 836
  b01 : B01 l
  low : ∀ i, cf l i ≠ cf w i → i + 8 ≤ nx
  far : Apart (parts l w)
  cnt : wrongs l w = n
theorem flip8_zero {w : List Nat} (hw : w.length = 836) (h : B01 w) : Flip8 w 0 0 w :=
  ⟨hw, h, fun _ hi => (hi rfl).elim, fun i _ _ hi => by unfold parts at hi; rw [bne_iff_ne] at hi; exact (hi rfl).elim, wrongs_self w⟩
theorem flip8_far {w l : List Nat} {nx n g : Nat} (h : Flip8 w nx n l) : Flip8 w (nx + 8 + g) n l :=
  ⟨h.len, h.b01, fun i hi => by have := h.low i hi; omega, h.far, h.cnt⟩
theorem flip8_same {w l : List Nat} {nx n g : Nat} (h : Flip8 w nx n l) : cf l (nx + g) = cf w (nx + g) := by
  rcases Nat.decEq (cf l (nx + g)) (cf w (nx + g)) with e | e
  · have := h.low _ e
    omega
  · exact e
theorem xor1_cell {x : Nat} (h : x = 48 ∨ x = 49) : (x ^^^ 1 = 48 ∨ x ^^^ 1 = 49) ∧ x ^^^ 1 ≠ x := by
  rcases h with rfl | rfl <;> decide
theorem flip8_step {w l : List Nat} {nx n g : Nat} (hw : w.length = 836) (h : Flip8 w nx n l) (hg : nx + g < 836) : Flip8 w (nx + 8 + g) (n + 1) (l.set (nx + g) (cf l (nx + g) ^^^ 1)) := by
  have hs := flip8_same (g := g) h
  obtain ⟨h1, h2, h3, h4, h5⟩ := h
  have hb := cf_b01 h2 (by omega : nx + g < l.length)
  obtain ⟨x1, x2⟩ := xor1_cell hb
  have hcf : ∀ i, cf (l.set (nx + g) (cf l (nx + g) ^^^ 1)) i = if nx + g = i then cf l (nx + g) ^^^ 1 else cf l i := fun i => cf_set _ _ _ _ (by omega)
  refine ⟨by rw [List.length_set]; exact h1, fun c hc => ?_, fun i hi => ?_, fun i j hij hi hj => ?_, ?_⟩
  · rcases List.mem_or_eq_of_mem_set hc with hc | rfl
    · exact h2 c hc
    · exact x1
  · rw [hcf] at hi
    by_cases e : nx + g = i
    · omega
    · rw [if_neg e] at hi
      have := h3 i hi
      omega
  · unfold parts at hi hj
    rw [bne_iff_ne, hcf] at hi hj
    by_cases e1 : nx + g = i
    · by_cases e2 : nx + g = j
      · omega
      · rw [if_neg e2] at hj
        have := h3 j hj
        omega
    · rw [if_neg e1] at hi
      by_cases e2 : nx + g = j
      · have := h3 i hi
        omega
      · rw [if_neg e2] at hj
        exact h4 i j hij (bne_iff_ne.2 hi) (bne_iff_ne.2 hj)
  · rw [wrongs_set l w _ _ (by omega) (by omega) hs (by rcases x1 with e | e <;> rw [e] <;> decide) (by rw [← hs]; exact x2), h5]
    omega
theorem flip8_ok {w l : List Nat} {nx n : Nat} (h : Flip8 w nx n l) : cellsOK l = true ∧ l.count 63 = 0 :=
  ⟨cells_01 h.b01, List.count_eq_zero.2 fun hm => by rcases h.b01 63 hm with h | h <;> cases h⟩

/-! a burst -/
/-- The k cells from f on may be touched. -/
structure Burst (w : List Nat) (f k : Nat) (l : List Nat) : Prop where
  len : l.length = 836
  ok : cellsOK l = true
  out : ∀ j, j < 836 → (j < f ∨ f + k ≤ j) → cf l j = cf w j
theorem burst_zero {w : List Nat} (f : Nat) (hw : w.length = 836) (h : B01 w) : Burst w f 0 w := ⟨hw, cells_01 h, fun _ _ _ => rfl⟩
theorem burst_more {w l : List Nat} {f k : Nat} (h : Burst w f k l) : Burst w f (k + 1) l := ⟨h.len, h.ok, fun j hj hk => h.out j hj (by omega)⟩
theorem burst_step {w l : List Nat} {f k x : Nat} (h : Burst w f k l) (hx : x = 48 ∨ x = 49 ∨ x = 63) (hf : f + k < 836) : Burst w f (k + 1) (l.set (f + k) x) :=
  ⟨by rw [List.length_set]; exact h.len, cellsOK_set h.ok _ hx, fun j hj hk => by rw [cf_set _ _ _ _ (by rw [h.len]; exact hf), if_neg (by omega)]; exact h.out j hj (by omega)⟩
theorem burst_dec {m : List Nat} (hm : Bytes m) (hl : m.length = 44) (hc : unmC (strB m) = 0) {f k : Nat} {l : List Nat} (h : Burst (bodyL m) f k l) (hk : k ≤ 90) :
    ∃ d u : Int, decR (strB l) = .tuple #[unmF (strB m), qualV d u 0, .int .i64 0] := by
  have hb := cells_bytes h.ok
  refine dec_window hm hl hc (by rw [strB_size, h.len]; omega) (by rw [bs_strB hb]; exact h.ok) f fun j hj hk2 => ?_
  rw [full_836 h.len hb]
  exact h.out j hj (by omega)

/-! ends that are missing -/
theorem dec_front {m : List Nat} (hm : Bytes m) (hl : m.length = 44) (hc : unmC (strB m) = 0) :
    ∃ d u : Int, decR (strB (List.replicate 90 63) ++ (strB (bodyL m)).extract 90 836) = .tuple #[unmF (strB m), qualV d u 0, .int .i64 0] := by
  have hb := bodyL_bytes hm hl
  have e1 : (strB (bodyL m)).extract 90 836 = strB ((bodyL m).drop 90) := by
    refine bs_inj ?_
    rw [bs_extract, bs_strB hb, bs_strB (fun x hx => hb x (List.mem_of_mem_drop hx)), List.take_of_length_le (by rw [bodyL_len]; omega)]
  rw [e1, strB_cat]
  have hB : Burst (bodyL m) 0 90 (List.replicate 90 63 ++ (bodyL m).drop 90) := by
    refine ⟨by rw [List.length_append, List.length_replicate, List.length_drop, bodyL_len], cellsOK_iff.2 fun c hc => ?_, fun j hj hk => ?_⟩
    · rcases List.mem_append.1 hc with hc | hc
      · exact .inr (.inr (List.mem_replicate.1 hc).2)
      · rcases bodyL_01 hm hl c (List.mem_of_mem_drop hc) with e | e
        · exact .inl e
        · exact .inr (.inl e)
    · unfold cf
      rw [List.getElem?_append_right (by rw [List.length_replicate]; omega), List.length_replicate, List.getElem?_drop, show 90 + (j - 90) = j by omega]
  exact burst_dec hm hl hc hB (Nat.le_refl _)
theorem dec_back {m : List Nat} (hm : Bytes m) (hl : m.length = 44) (hc : unmC (strB m) = 0) :
    ∃ d u : Int, decR ((strB (bodyL m)).extract 0 746) = .tuple #[unmF (strB m), qualV d u 0, .int .i64 0] := by
  have hb := bodyL_bytes hm hl
  have e1 : bs ((strB (bodyL m)).extract 0 746) = (bodyL m).take 746 := by
    rw [bs_extract, bs_strB hb, List.drop_zero]
  have hz : ((strB (bodyL m)).extract 0 746).size = 746 := by rw [← bs_len, e1, List.length_take, bodyL_len]; rfl
  have hok : cellsOK ((bodyL m).take 746) = true := cellsOK_iff.2 fun c hc => by
    rcases bodyL_01 hm hl c (List.mem_of_mem_take hc) with e | e
    · exact .inl e
    · exact .inr (.inl e)
  refine dec_window hm hl hc (by omega) (by rw [e1]; exact hok) 746 fun j hj hk => ?_
  · unfold fullL cf
    rw [e1, hz, List.getElem?_append_left (by rw [List.length_take, bodyL_len]; omega), List.getElem?_take, if_pos (by omega)]

end Go.Proofs.YtjennpcadjdnlaaGreatDoor
