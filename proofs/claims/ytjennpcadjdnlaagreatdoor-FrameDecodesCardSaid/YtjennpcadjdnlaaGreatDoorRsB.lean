/-
  PLAIN: Berlekamp and Massey's rounds: the sizes of what they hold.
-/
import Derived.Test.YtjennpcadjdnlaaGreatDoorPolA
namespace Go.Proofs.YtjennpcadjdnlaaGreatDoor

structure BMok (t : BM) (n : Nat) : Prop where
  bl : Bytes t.l
  bp : Bytes t.prev
  ll : t.l.length ≤ 1 + 20 * n
  lp : t.prev.length ≤ 1 + 20 * n
  len : t.length ≤ n
  gap : t.gap ≤ n + 1
  last : t.last < 256
theorem gdv_lt {a b : Nat} (ha : a < 256) : gdv a b < 256 := by
  unfold gdv
  split
  · omega
  · exact gmul_lt _ ha
theorem disc_lt {l s : List Nat} (hl : Bytes l) (m : Nat) : ∀ i, disc l s m i < 256
  | 0 => by unfold disc; omega
  | i + 1 => xor_lt (disc_lt hl m i) (gmul_lt _ (cf_lt hl i))
theorem bytes_rep {l : List Nat} (h : Bytes l) (k : Nat) : Bytes (List.replicate k 0 ++ l) := by
  intro b hb
  rcases List.mem_append.1 hb with hb | hb
  · have := List.eq_of_mem_replicate hb
    omega
  · exact h b hb
theorem bytes_one {x : Nat} (h : x < 256) : Bytes [x] := fun b hb => by
  obtain rfl : b = x := by simpa using hb
  exact h
theorem bm_ok (s : List Nat) : ∀ n, n ≤ 8 → BMok (bmRun s n) n
  | 0, _ => ⟨bytes_one (by omega), bytes_one (by omega), Nat.le_refl 1, Nat.le_refl 1, Nat.le_refl 0, Nat.le_refl 1, (by omega : (1 : Nat) < 256)⟩
  | n + 1, h => by
    obtain ⟨h1, h2, h3, h4, h5, h6, h7⟩ := bm_ok s n (by omega)
    show BMok (bmStep s n (bmRun s n)) (n + 1)
    generalize bmRun s n = t at *
    unfold bmStep
    simp only
    split
    · exact ⟨h1, h2, by show t.l.length ≤ _; omega, by show t.prev.length ≤ _; omega, by show t.length ≤ _; omega, by show t.gap + 1 ≤ _; omega, h7⟩
    · have hd := disc_lt h1 (s := s) n (n + 1)
      have hq : Bytes (List.replicate t.gap 0 ++ pmul t.prev [gdv (disc t.l s n (n + 1)) t.last]) := bytes_rep (pmul_bytes h2) _
      have hq2 := padd_bytes h1 hq
      have hq3 := padd_len t.l (List.replicate t.gap 0 ++ pmul t.prev [gdv (disc t.l s n (n + 1)) t.last])
      have hq4 := pmul_len t.prev [gdv (disc t.l s n (n + 1)) t.last]
      rw [List.length_append, List.length_replicate] at hq3
      rw [List.length_singleton] at hq4
      split
      · exact ⟨hq2, h1, by show (padd _ _).length ≤ _; omega, by show t.l.length ≤ _; omega, by show n + 1 - t.length ≤ _; omega, by show (1 : Nat) ≤ _; omega, hd⟩
      · exact ⟨hq2, h2, by show (padd _ _).length ≤ _; omega, by show t.prev.length ≤ _; omega, by show t.length ≤ _; omega, by show t.gap + 1 ≤ _; omega, h7⟩
theorem bmRun_succ (s : List Nat) (n : Nat) : bmRun s (n + 1) = bmStep s n (bmRun s n) := by rw [bmRun]
theorem bmStep_zero {s : List Nat} {n : Nat} {t : BM} (h : disc t.l s n (n + 1) = 0) : bmStep s n t = { t with gap := t.gap + 1 } := by
  unfold bmStep
  simp only
  rw [if_pos h]
def bmNext (s : List Nat) (n : Nat) (t : BM) : List Nat := padd t.l (List.replicate t.gap 0 ++ pmul t.prev [gdv (disc t.l s n (n + 1)) t.last])
theorem bmStep_far {s : List Nat} {n : Nat} {t : BM} (h : disc t.l s n (n + 1) ≠ 0) (h2 : 2 * t.length ≤ n) : bmStep s n t = ⟨bmNext s n t, t.l, n + 1 - t.length, 1, disc t.l s n (n + 1)⟩ := by
  unfold bmStep
  simp only
  rw [if_neg h, if_pos h2]
  rfl
theorem bmStep_near {s : List Nat} {n : Nat} {t : BM} (h : disc t.l s n (n + 1) ≠ 0) (h2 : ¬ 2 * t.length ≤ n) : bmStep s n t = ⟨bmNext s n t, t.prev, t.length, t.gap + 1, t.last⟩ := by
  unfold bmStep
  simp only
  rw [if_neg h, if_neg h2]
  rfl
theorem locP_bytes (s : List Nat) : Bytes (locP s) := ptrim_bytes (bm_ok s 8 (Nat.le_refl _)).bl
theorem locP_len (s : List Nat) : (locP s).length ≤ 161 := Nat.le_trans (ptrim_len _) (bm_ok s 8 (Nat.le_refl _)).ll

/-! the corrections, place by place -/
def xAt (w : List Nat) (i : Nat) : Nat := pw ((255 - (w.length - 1 - i)) % 255)
theorem fixP_skip {l om sl w out : List Nat} {i r : Nat} (h : fixP l om sl w i = some (out, r)) (h0 : hev (xAt w i) l ≠ 0) : fixP l om sl w (i + 1) = some (out, r) := by
  unfold fixP
  rw [h]
  unfold xAt at h0
  simp only [h0, ne_eq, not_false_eq_true, if_true]
theorem fixP_fail {l om sl w out : List Nat} {i r : Nat} (h : fixP l om sl w i = some (out, r)) (h0 : hev (xAt w i) l = 0) (h1 : hev (xAt w i) sl = 0) : fixP l om sl w (i + 1) = none := by
  unfold fixP
  rw [h]
  unfold xAt at h0 h1
  simp only [h0, h1, ne_eq, not_true_eq_false, if_false, if_true]
theorem fixP_fix {l om sl w out : List Nat} {i r : Nat} (h : fixP l om sl w i = some (out, r)) (h0 : hev (xAt w i) l = 0) (h1 : hev (xAt w i) sl ≠ 0) :
    fixP l om sl w (i + 1) = some (out.set i (cf out i ^^^ gdv (gmul (pw (w.length - 1 - i)) (hev (xAt w i) om)) (hev (xAt w i) sl)), r + 1) := by
  unfold gdv
  rw [if_neg h1]
  unfold fixP
  rw [h]
  unfold xAt at h0 h1 ⊢
  simp only [h0, h1, ne_eq, not_true_eq_false, if_false]
theorem fixP_none {l om sl w : List Nat} {i : Nat} (h : fixP l om sl w i = none) : ∀ k, fixP l om sl w (i + k) = none
  | 0 => h
  | k + 1 => by
    show fixP l om sl w (i + k + 1) = none
    unfold fixP
    rw [fixP_none h k]
theorem fixP_ok {l om sl w : List Nat} (hw : Bytes w) : ∀ (i : Nat) {out : List Nat} {r : Nat}, fixP l om sl w i = some (out, r) → out.length = w.length ∧ Bytes out ∧ r ≤ i
  | 0, out, r, h => by
    unfold fixP at h
    cases h
    exact ⟨rfl, hw, Nat.le_refl _⟩
  | i + 1, out, r, h => by
    cases hi : fixP l om sl w i with
    | none => rw [fixP_none hi 1] at h; cases h
    | some p =>
      obtain ⟨o, q⟩ := p
      obtain ⟨k1, k2, k3⟩ := fixP_ok hw i hi
      by_cases h0 : hev (xAt w i) l = 0
      · by_cases h1 : hev (xAt w i) sl = 0
        · rw [fixP_fail hi h0 h1] at h; cases h
        · rw [fixP_fix hi h0 h1] at h
          cases h
          refine ⟨by rw [List.length_set]; exact k1, fun b hb => ?_, by omega⟩
          rcases List.mem_or_eq_of_mem_set hb with hb | rfl
          · exact k2 b hb
          · exact xor_lt (cf_lt k2 i) (gdv_lt (gmul_lt _ (pw_lt _)))
      · rw [fixP_skip hi h0] at h
        cases h
        exact ⟨k1, k2, by omega⟩

def rsFin (l w : List Nat) : Option (List Nat × Nat) → Option (List Nat × Nat)
  | none => none
  | some (out, roots) => if roots + 1 = l.length ∧ synd out = List.replicate 8 0 ∧ (differ w out).length ≤ 4 then some (out, (differ w out).length) else none
theorem rsDec_eq {w S l O : List Nat} (hS : synd w = S) (hl : locP S = l) (hO : pmul S l = O) : rsDec w = rsFin l w (fixP l (O.take 8) (pder l) w w.length) := by
  subst hS hl hO
  rfl

end Go.Proofs.YtjennpcadjdnlaaGreatDoor
