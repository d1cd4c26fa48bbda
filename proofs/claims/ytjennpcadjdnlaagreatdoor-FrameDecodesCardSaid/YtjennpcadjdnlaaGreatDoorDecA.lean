/-
  PLAIN: what frame.Decode answers; unreadable cells alone decode to zeros.
  PLAIN: sizes of what the decoder makes.
-/
import Derived.Test.YtjennpcadjdnlaaGreatDoorFrD
import Derived.Test.YtjennpcadjdnlaaGreatDoorCnvA
namespace Go.Proofs.YtjennpcadjdnlaaGreatDoor
open Go.RowKit

def qualV (d u c : Int) : Value := .agg #[.int .i64 d, .int .i64 u, .int .i64 c]
def zeroQ : Value := qualV 0 0 0
def unmC (s : ByteArray) : Int := if s.size ≠ 44 then 4 else if !sumOK s then 5 else unmE s
theorem unmR_eq (s : ByteArray) : unmR s = .tuple #[if unmC s = 0 then unmF s else zeroF, .int .i64 (unmC s)] := by
  unfold unmR unmC
  split
  · rfl
  · split
    · rfl
    · split
      · rfl
      · next h => simp only [ne_eq, Decidable.not_not] at h; rw [h]; rfl
/-- The bits of the cells, and their distance. -/
def inner (l : List Nat) : List Nat × Int := match extP l with
  | some u => (u, 0)
  | none => (vdec 416 l 0, vst l 0)
def fullL (s : ByteArray) : List Nat := bs s ++ List.replicate (836 - s.size) 63
def wordL (s : ByteArray) : List Nat := deinL (fullL s)
def recL (s : ByteArray) : List Nat := toB (bitsS (inner (wordL s)).1)
def decR (s : ByteArray) : Value :=
  if chkE (bs s) ≠ 0 then .tuple #[zeroF, zeroQ, .int .i64 (chkE (bs s))]
  else if 836 < s.size then .tuple #[zeroF, zeroQ, .int .i64 6]
  else match rsDec (recL s) with
  | none => .tuple #[zeroF, zeroQ, .int .i64 11]
  | some (o, n) => if unmC (strB (o.take 44)) = 0 then .tuple #[unmF (strB (o.take 44)), qualV (inner (wordL s)).2 ((fullL s).count 63 : Nat) n, .int .i64 0] else .tuple #[zeroF, zeroQ, .int .i64 (unmC (strB (o.take 44)))]

theorem rep2 (x : Nat) (k : Nat) : List.replicate (2 * (k + 1)) x = x :: x :: List.replicate (2 * k) x := by
  rw [show 2 * (k + 1) = 2 * k + 1 + 1 by omega, List.replicate_succ, List.replicate_succ]
theorem vst63 : ∀ (k s : Nat), s < 4 → vst (List.replicate (2 * (k + 2)) 63) s = 0
  | 0, s, h => by
    rcases (by omega : s = 0 ∨ s = 1 ∨ s = 2 ∨ s = 3) with rfl | rfl | rfl | rfl <;> decide
  | k + 1, s, h => by
    have h0 := vst63 k (cnx s 0) (cnx_lt h (by omega))
    have h1 := vst63 k (cnx s 1) (cnx_lt h (by omega))
    rw [show 2 * (k + 1 + 2) = 2 * (k + 2 + 1) by omega, rep2]
    simp only [vst, vbit, brc, h0, h1, msm]
    simp [pick1, h0]
theorem vdec63 : ∀ (n s : Nat), s < 4 → vdec n (List.replicate (2 * (n + 2)) 63) s = List.replicate n 0
  | 0, s, h => by unfold vdec; rfl
  | n + 1, s, h => by
    have h0 := vst63 n (cnx s 0) (cnx_lt h (by omega))
    have h1 := vst63 n (cnx s 1) (cnx_lt h (by omega))
    rw [show 2 * (n + 1 + 2) = 2 * (n + 2 + 1) by omega, rep2]
    have hb : vbit 63 63 (vst (List.replicate (2 * (n + 2)) 63)) s = 0 := by
      simp only [vbit, brc, h0, h1, msm]
      simp [pick1]
    rw [vdec, hb, vdec63 n _ (cnx_lt h (by omega)), List.replicate_succ]
theorem dein63 : deinL (List.replicate 836 63) = List.replicate 836 63 := by decide +kernel
def openS : ByteArray := strB (List.replicate 836 63)
theorem dec_open : decR openS = .tuple #[zeroF, zeroQ, .int .i64 5] := by
  have hb : bs openS = List.replicate 836 63 := bs_strB (fun b h => by rw [(List.mem_replicate.1 h).2]; omega)
  have hz : openS.size = 836 := by unfold openS; rw [strB_size, List.length_replicate]
  have hc : chkE (bs openS) = 0 := by rw [hb]; decide +kernel
  have hf : fullL openS = List.replicate 836 63 := by unfold fullL; rw [hb, hz]; exact List.append_nil _
  have hw : wordL openS = List.replicate 836 63 := by unfold wordL; rw [hf, dein63]
  have hx : extP (List.replicate 836 63) = none := by unfold extP; rw [if_pos (by decide +kernel)]
  have hv : vdec 416 (List.replicate 836 63) 0 = List.replicate 416 0 := vdec63 416 0 (by omega)
  have hi : (inner (wordL openS)).1 = List.replicate 416 0 := by rw [hw]; unfold inner; rw [hx]; exact hv
  have hr : recL openS = List.replicate 52 0 := by unfold recL; rw [hi]; decide +kernel
  have hd : rsDec (List.replicate 52 0) = some (List.replicate 52 0, 0) := rsDec_word (by decide +kernel)
  have hu : unmC (strB ((List.replicate 52 0).take 44)) = 5 := by
    unfold unmC
    rw [if_neg (by decide +kernel), if_pos (by decide +kernel)]
  unfold decR
  rw [hr, hd, hc, hz]
  simp only [hu]
  rfl

end Go.Proofs.YtjennpcadjdnlaaGreatDoor

namespace Go.Proofs.YtjennpcadjdnlaaGreatDoor
open Go.RowKit

theorem chkE_ok {l : List Nat} (h : chkE l = 0) : cellsOK l = true := by
  unfold chkE at h
  cases hc : cellsOK l with
  | true => rfl
  | false => rw [hc] at h; simp at h
theorem cellsOK_iff {l : List Nat} : cellsOK l = true ↔ ∀ c ∈ l, c = 48 ∨ c = 49 ∨ c = 63 := by
  unfold cellsOK allIn cellSet
  rw [List.all_eq_true]
  simp
theorem full_len {s : ByteArray} (h : s.size ≤ 836) : (fullL s).length = 836 := by
  unfold fullL
  rw [List.length_append, bs_len, List.length_replicate]
  omega
theorem full_bytes (s : ByteArray) : Bytes (fullL s) := by
  intro x hx
  unfold fullL at hx
  rcases List.mem_append.1 hx with hx | hx
  · exact bs_lt s x hx
  · rw [(List.mem_replicate.1 hx).2]; omega
theorem full_ok {s : ByteArray} (h : cellsOK (bs s) = true) : cellsOK (fullL s) = true := by
  rw [cellsOK_iff] at h ⊢
  intro c hc
  unfold fullL at hc
  rcases List.mem_append.1 hc with hc | hc
  · exact h c hc
  · exact .inr (.inr (List.mem_replicate.1 hc).2)
theorem dein_mem {l : List Nat} (hl : l.length = 836) {x : Nat} (h : x ∈ deinL l) : x ∈ l := by
  unfold deinL at h
  obtain ⟨i, hi, rfl⟩ := List.mem_map.1 h
  have hi' := ilv_lt (List.mem_range.1 hi)
  have hlt : ilv i < l.length := by omega
  rw [cf_get (List.getElem?_eq_getElem hlt)]
  exact List.getElem_mem hlt
theorem word_len (s : ByteArray) : (wordL s).length = 836 := deinL_len _
theorem word_ok {s : ByteArray} (h : cellsOK (bs s) = true) (hs : s.size ≤ 836) : cellsOK (wordL s) = true := by
  have h1 := full_ok h
  rw [cellsOK_iff] at h1 ⊢
  exact fun c hc => h1 c (dein_mem (full_len hs) hc)
theorem word_bytes {s : ByteArray} (hs : s.size ≤ 836) : Bytes (wordL s) := fun x hx => full_bytes s x (dein_mem (full_len hs) hx)
theorem extP_some {l u : List Nat} (hl : l.length = 836) (h : extP l = some u) : u.length = 416 ∧ Bits u := by
  unfold extP at h
  split at h
  · cases h
  · split at h
    · cases h
    · next v hv =>
      obtain ⟨h1, h2⟩ := cext_some l 0 hv
      have h3 := cenc_len v 0
      rw [h2, hl] at h3
      split at h
      · cases h
        rw [List.length_take]
        exact ⟨by omega, fun b hb => h1 b (List.mem_of_mem_take hb)⟩
      · cases h
theorem inner_len {l : List Nat} (hl : l.length = 836) : (inner l).1.length = 416 ∧ Bits (inner l).1 := by
  unfold inner
  split
  · next u hu => exact extP_some hl hu
  · exact ⟨vdec_len 416 l 0 (by omega), vdec_bits 416 l 0⟩
theorem bitsS_01 {u : List Nat} (h : Bits u) : B01 (bitsS u) := fun c hc => by
  obtain ⟨x, hx, rfl⟩ := List.mem_map.1 hc
  have := h x hx
  omega
theorem toB_len (l : List Nat) : (toB l).length = l.length / 8 := by unfold toB; rw [List.length_map, List.length_range]
theorem toB_bytes (l : List Nat) : Bytes (toB l) := fun x hx => by
  unfold toB at hx
  obtain ⟨i, _, rfl⟩ := List.mem_map.1 hx
  exact Nat.lt_of_lt_of_le (pk_lt _ 8) (by decide)
theorem rec_len (s : ByteArray) : (recL s).length = 52 := by
  unfold recL
  rw [toB_len, bitsS_len, (inner_len (word_len s)).1]
theorem rec_bytes (s : ByteArray) : Bytes (recL s) := toB_bytes _
theorem rsDec_len {w o : List Nat} {n : Nat} (hw : Bytes w) (h : rsDec w = some (o, n)) : o.length = w.length ∧ Bytes o := by
  unfold rsDec at h
  dsimp only at h
  split at h
  · cases h
  · next out roots hf =>
    split at h
    · cases h
      have := fixP_ok hw _ hf
      exact ⟨this.1, this.2.1⟩
    · cases h
theorem take44 {o : List Nat} (ho : Bytes o) : (strB o).extract 0 44 = strB (o.take 44) := by
  refine bs_inj ?_
  rw [bs_extract, bs_strB ho, bs_strB (fun x hx => ho x (List.mem_of_mem_take hx)), List.drop_zero]
/-- A frame, cell by cell. -/
theorem frame_parts (s : ByteArray) : ∃ (k r q i l d p a : Int) (t : ByteArray), (if unmC s = 0 then unmF s else zeroF) = frV k r q i l d p a t := by
  by_cases h : unmC s = 0
  · rw [if_pos h]; exact ⟨_, _, _, _, _, _, _, _, _, rfl⟩
  · rw [if_neg h]; exact ⟨0, 0, 0, 0, 0, 0, 0, 0, ⟨#[]⟩, rfl⟩

end Go.Proofs.YtjennpcadjdnlaaGreatDoor
