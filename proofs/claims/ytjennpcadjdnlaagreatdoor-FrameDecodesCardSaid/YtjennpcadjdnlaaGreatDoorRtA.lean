/-
  PLAIN: what is encoded decodes to what it was.
-/
import Derived.Test.YtjennpcadjdnlaaGreatDoorEncB
import Derived.Test.YtjennpcadjdnlaaGreatDoorFrH
namespace Go.Proofs.YtjennpcadjdnlaaGreatDoor
open Go.RowKit

/-! bytes and their cells -/
theorem pk_byCs : allB 256 (fun b => pk (byCs b) 8 == b) = true := by decide +kernel
theorem frmB_drop : ∀ (l : List Nat) (i : Nat), i < l.length → ∃ r, (frmB l).drop (8 * i) = byCs (cf l i) ++ r
  | [], i, h => absurd h (by simp)
  | b :: l, 0, _ => ⟨frmB l, by unfold frmB; rw [List.flatMap_cons]; rfl⟩
  | b :: l, i + 1, h => by
    obtain ⟨r, hr⟩ := frmB_drop l i (by simpa using h)
    refine ⟨r, ?_⟩
    have e : frmB (b :: l) = byCs b ++ frmB l := by unfold frmB; rw [List.flatMap_cons]
    rw [e, show 8 * (i + 1) = 8 + 8 * i by omega, ← List.drop_drop, List.drop_left' (byCs_len b), hr]
    rfl
theorem toB_frmB {l : List Nat} (hl : Bytes l) : toB (frmB l) = l := by
  refine List.ext_getElem? fun i => ?_
  unfold toB
  rw [List.getElem?_map]
  by_cases h2 : i < l.length
  · have hb : cf l i = l[i] := cf_get (List.getElem?_eq_getElem h2)
    have h3 : l[i] < 256 := hl _ (List.getElem_mem h2)
    rw [List.getElem?_range (by rw [frmB_len]; omega), List.getElem?_eq_getElem h2, Option.map_some]
    unfold byteOf
    obtain ⟨r, hr⟩ := frmB_drop l i h2
    rw [hr, pk_congr (r := byCs (cf l i)) 8 (fun j hj => by unfold cf; rw [List.getElem?_append_left (by rw [byCs_len]; exact hj)]), hb]
    have h4 := allB_out pk_byCs _ h3
    rw [beq_iff_eq] at h4
    rw [h4]
  · rw [List.getElem?_eq_none (l := l) (by omega), List.getElem?_eq_none (by rw [List.length_range, frmB_len]; omega)]
    rfl
/-- The bits of some bytes. -/
def bitU (l : List Nat) : List Nat := (frmB l).map (· - 48)
theorem bitU_bits (l : List Nat) : Bits (bitU l) := by
  intro x hx
  obtain ⟨c, hc, rfl⟩ := List.mem_map.1 hx
  rcases frmB_01 l c hc with rfl | rfl <;> decide
theorem bitsS_bitU (l : List Nat) : bitsS (bitU l) = frmB l := by
  unfold bitsS bitU
  rw [List.map_map]
  conv => rhs; rw [← List.map_id (frmB l)]
  refine List.map_congr_left fun c hc => ?_
  rcases frmB_01 l c hc with rfl | rfl <;> rfl
theorem bitU_len (l : List Nat) : (bitU l).length = 8 * l.length := by unfold bitU; rw [List.length_map, frmB_len]

/-! the cells of a message -/
def cellL (m : List Nat) : List Nat := cenc 0 (bitU (rsEnc m) ++ [0, 0])
def bodyL (m : List Nat) : List Nat := interL (cellL m)
theorem rsEnc_ok {m : List Nat} (hm : Bytes m) (hl : m.length = 44) : (rsEnc m).length = 52 ∧ Bytes (rsEnc m) := by
  obtain ⟨h1, h2, _⟩ := rsPar_inv m hm
  unfold rsEnc
  refine ⟨by rw [List.length_append, h1, hl], fun x hx => ?_⟩
  rcases List.mem_append.1 hx with hx | hx
  · exact hm x hx
  · exact h2 x hx
theorem cenc_01 : ∀ (u : List Nat) (s : Nat), B01 (cenc s u)
  | [], _ => fun c hc => by cases hc
  | b :: r, s => fun c hc => by
    simp only [cenc, List.mem_cons] at hc
    rcases hc with rfl | rfl | hc
    · unfold co1; omega
    · unfold co2; omega
    · exact cenc_01 r _ c hc
theorem cellL_len {m : List Nat} (hm : Bytes m) (hl : m.length = 44) : (cellL m).length = 836 := by
  unfold cellL
  rw [cenc_len, List.length_append, bitU_len, (rsEnc_ok hm hl).1]
  rfl
theorem cellL_01 (m : List Nat) : B01 (cellL m) := cenc_01 _ _
theorem inter_mem {l : List Nat} (hl : l.length = 836) {x : Nat} (h : x ∈ interL l) : x ∈ l := by
  unfold interL at h
  obtain ⟨j, hj, rfl⟩ := List.mem_map.1 h
  have hj' := (ilv_uil (List.mem_range.1 hj)).2
  have hlt : uil j < l.length := by omega
  rw [cf_get (List.getElem?_eq_getElem hlt)]
  exact List.getElem_mem hlt
theorem bodyL_01 {m : List Nat} (hm : Bytes m) (hl : m.length = 44) : B01 (bodyL m) := fun c hc => cellL_01 m c (inter_mem (cellL_len hm hl) hc)
theorem bodyL_bytes {m : List Nat} (hm : Bytes m) (hl : m.length = 44) : Bytes (bodyL m) := fun c hc => by rcases bodyL_01 hm hl c hc with rfl | rfl <;> decide
theorem bodyL_len (m : List Nat) : (bodyL m).length = 836 := interL_len _
theorem extP_cell {m : List Nat} (_hm : Bytes m) (_hl : m.length = 44) : extP (cellL m) = some (bitU (rsEnc m)) := by
  have hb : Bits (bitU (rsEnc m) ++ [0, 0]) := fun x hx => by
    rcases List.mem_append.1 hx with hx | hx
    · exact bitU_bits _ x hx
    · simp at hx; omega
  have h63 : ¬ (cellL m).contains 63 = true := by
    rw [List.contains_iff_mem]
    intro h
    rcases cellL_01 m _ h with h | h <;> cases h
  unfold extP
  rw [if_neg h63, show cext 0 (cellL m) = some (bitU (rsEnc m) ++ [0, 0]) from cext_enc _ 0 hb]
  dsimp only
  rw [List.length_append, show (bitU (rsEnc m)).length + [0, 0].length - 2 = (bitU (rsEnc m)).length from rfl, List.drop_left, List.take_left, if_pos rfl]
/-- The body of an encoded message, decoded. -/
theorem dec_body {m : List Nat} (hm : Bytes m) (hl : m.length = 44) (hc : unmC (strB m) = 0) :
    decR (strB (bodyL m)) = .tuple #[unmF (strB m), zeroQ, .int .i64 0] := by
  obtain ⟨hw, hwb⟩ := rsEnc_ok hm hl
  have hb : bs (strB (bodyL m)) = bodyL m := bs_strB (bodyL_bytes hm hl)
  have hz : (strB (bodyL m)).size = 836 := by rw [strB_size, bodyL_len]
  have hck : chkE (bs (strB (bodyL m))) = 0 := by rw [hb]; unfold chkE; rw [cells_01 (bodyL_01 hm hl)]; rfl
  have hf : fullL (strB (bodyL m)) = bodyL m := by unfold fullL; rw [hb, hz]; exact List.append_nil _
  have hwd : wordL (strB (bodyL m)) = cellL m := by unfold wordL; rw [hf]; exact dein_inter (cellL_len hm hl)
  have hi : inner (cellL m) = (bitU (rsEnc m), 0) := by unfold inner; rw [extP_cell hm hl]
  have hr : recL (strB (bodyL m)) = rsEnc m := by unfold recL; rw [hwd, hi, bitsS_bitU, toB_frmB hwb]
  have hd : rsDec (rsEnc m) = some (rsEnc m, 0) := rsDec_word (synd_enc hm)
  have ht : (rsEnc m).take 44 = m := by unfold rsEnc; rw [← hl, List.take_left]
  have hcnt : (bodyL m).count 63 = 0 := List.count_eq_zero.2 fun h => by rcases bodyL_01 hm hl _ h with h | h <;> cases h
  unfold decR
  rw [hck, hz, hr, hd, if_neg (by simp), if_neg (by omega)]
  dsimp only
  rw [ht, if_pos hc, hwd, hi, hf, hcnt]
  rfl

/-! a frame's message -/
theorem valL_one {x : Nat} : valL [x] = x := by simp [valL]
theorem valL_two {x y : Nat} : valL [x, y] = x * 256 + y := by simp [valL]
theorem valL_four {x y z q : Nat} : valL [x, y, z, q] = ((x * 256 + y) * 256 + z) * 256 + q := by simp [valL]
theorem be4_bytes {c : Nat} (h : c < 4294967296) : Bytes (be4 c) := by
  intro x hx
  unfold be4 at hx
  simp only [List.mem_cons, List.not_mem_nil, or_false] at hx
  omega
theorem two_back (x : Nat) : x / 256 * 256 + x % 256 = x := by omega
theorem four_back (a : Nat) : ((a / 16777216 * 256 + a / 65536 % 256) * 256 + a / 256 % 256) * 256 + a % 256 = a := by omega
theorem nib_back (d p : Nat) (h : p < 16) : (16 * d + p) / 16 = d ∧ (16 * d + p) % 16 = p := by omega
/-- What a valid frame's message holds. -/
theorem mar_ok {k r s i l d p a : Nat} {t : ByteArray} (he : frE k r s i l d p t = 0) (ha : a < 4294967296) :
    ∃ c, c < 4294967296 ∧ marL k r s i l d p a t = hdrL k r s i l d p a ++ bs t ++ be4 c ∧ Bytes (marL k r s i l d p a t) ∧ (marL k r s i l d p a t).length = 44 ∧ c = sumL [strB (hdrL k r s i l d p a ++ bs t)] ∧ Bytes (hdrL k r s i l d p a ++ bs t) := by
  obtain ⟨h1, h2, h3, h4, h5, h6, h7, h8⟩ := frE_ok he
  have hm := hdr_msg k r s i l d p a t (by omega) (by omega) (by omega) (by omega) (by omega) (by omega) ha
  have hb := hdr_bytes k r s i l d p a (by omega) (by omega) (by omega) (by omega) (by omega) (by omega) ha
  have hb2 : Bytes (hdrL k r s i l d p a ++ bs t) := fun x hx => by
    rcases List.mem_append.1 hx with hx | hx
    · exact hb x hx
    · exact bs_lt t x hx
  have e : marL k r s i l d p a t = hdrL k r s i l d p a ++ bs t ++ be4 (sumL [strB (hdrL k r s i l d p a ++ bs t)]) := by unfold marL; rw [← hm]
  refine ⟨_, sumL_lt _, e, ?_, ?_, rfl, hb2⟩
  · rw [e]
    intro x hx
    rcases List.mem_append.1 hx with hx | hx
    · exact hb2 x hx
    · exact be4_bytes (sumL_lt _) x hx
  · rw [e, List.length_append, List.length_append, bs_len, h8]
    rfl
theorem unm_mar {k r s i l d p a : Nat} {t : ByteArray} (he : frE k r s i l d p t = 0) (ha : a < 4294967296) :
    unmC (strB (marL k r s i l d p a t)) = 0 ∧ unmF (strB (marL k r s i l d p a t)) = frV k r s i l d p a t := by
  obtain ⟨c, hc, e, hb, hl, hcs, hb2⟩ := mar_ok he ha
  obtain ⟨h1, h2, h3, h4, h5, h6, h7, h8⟩ := frE_ok he
  have hM : bs (strB (marL k r s i l d p a t)) = hdrL k r s i l d p a ++ (bs t ++ be4 c) := by rw [bs_strB hb, e, List.append_assoc]
  have h40 : (hdrL k r s i l d p a ++ bs t).length = 40 := by rw [List.length_append, bs_len, h8]; rfl
  generalize strB (marL k r s i l d p a t) = M at *
  have hz : M.size = 44 := by rw [← bs_len, hM, List.length_append, List.length_append, bs_len, h8]; rfl
  have x40 : bs (M.extract 0 40) = hdrL k r s i l d p a ++ bs t := by
    rw [bs_extract, hM, ← List.append_assoc, List.drop_zero, ← h40, List.take_left]
  have x44 : bs (M.extract 40 44) = be4 c := by
    rw [bs_extract, hM, ← List.append_assoc, List.take_of_length_le (by rw [List.length_append, h40]; exact Nat.le_refl _), ← h40, List.drop_left]
  have xp : M.extract 12 40 = t := by
    refine bs_inj ?_
    rw [bs_extract, hM, ← List.append_assoc, ← h40, List.take_left, show (12 : Nat) = (hdrL k r s i l d p a).length from rfl, List.drop_left]
  have x0 : bs (M.extract 0 1) = [k] := by rw [bs_extract, hM]; rfl
  have x1 : bs (M.extract 1 2) = [r] := by rw [bs_extract, hM]; rfl
  have x2 : bs (M.extract 2 4) = [s / 256, s % 256] := by rw [bs_extract, hM]; rfl
  have x4 : bs (M.extract 4 6) = [i / 256, i % 256] := by rw [bs_extract, hM]; rfl
  have x6 : bs (M.extract 6 7) = [l] := by rw [bs_extract, hM]; rfl
  have x7 : cf (bs M) 7 = 16 * d + p := by rw [hM]; rfl
  have x8 : bs (M.extract 8 12) = [a / 16777216, a / 65536 % 256, a / 256 % 256, a % 256] := by rw [bs_extract, hM]; rfl
  have hsum : sumOK M = true := by
    unfold sumOK
    have e1 : M.extract 0 40 = strB (hdrL k r s i l d p a ++ bs t) := by rw [← x40, strB_bs]
    have e2 : M.extract 40 44 = strB (be4 c) := by rw [← x44, strB_bs]
    rw [e1, ← hcs, e2]
    exact beq_self_eq_true _
  have v2 := two_back s
  have v4 := two_back i
  have v8 := four_back a
  obtain ⟨d7, p7⟩ := nib_back d p (by omega)
  constructor
  · unfold unmC
    rw [if_neg (by omega), hsum, if_neg (by simp)]
    unfold unmE
    rw [x0, x1, x2, x4, x6, x7, xp, valL_one, valL_one, valL_two, valL_two, valL_one, v2, v4, d7, p7]
    exact he
  · unfold unmF
    rw [x0, x1, x2, x4, x6, x7, x8, xp, valL_one, valL_one, valL_two, valL_two, valL_one, valL_four, v2, v4, v8, d7, p7]

end Go.Proofs.YtjennpcadjdnlaaGreatDoor
