/-
 PLAIN: polynomials over the field, as lists of coefficients, low ones first; the words of the program's gfpoly.
 PLAIN: the outer code's encoder: what it writes is a code word; a word all of whose syndromes are zero is left as it is.
 PLAIN: the inner code: encoding, extracting, the dynamic programme; a received word whose touched cells lie eight apart is decoded.
-/
import Derived.Test.YtnlnmfkmbpihhaaGreatDoorGfA
namespace Go.Proofs.YtnlnmfkmbpihhaaGreatDoor

abbrev Bytes (l : List Nat) : Prop := ∀ b ∈ l, b < 256
/-- A coefficient. -/
def cf (p : List Nat) (i : Nat) : Nat := (p[i]?).getD 0
theorem cf_lt {p : List Nat} (h : Bytes p) (i : Nat) : cf p i < 256 := by
 unfold cf
 cases e : p[i]? with
 | none => exact (by omega : (0 : Nat) < 256)
 | some x => exact h x (List.mem_of_getElem? e)
theorem cf_get {p : List Nat} {i x : Nat} (h : p[i]? = some x) : cf p i = x := by unfold cf; rw [h]; rfl
theorem cf_big {p : List Nat} {i : Nat} (h : p.length ≤ i) : cf p i = 0 := by unfold cf; rw [List.getElem?_eq_none h]; rfl
theorem cf_map (f : Nat → Nat) (n i : Nat) : cf ((List.range n).map f) i = if i < n then f i else 0 := by
 unfold cf
 rw [List.getElem?_map]
 split
 ·rename_i h
  rw [List.getElem?_range h]
  rfl
 ·rename_i h
  rw [List.getElem?_eq_none (by simpa using h)]
  rfl
theorem bytes_map {f : Nat → Nat} {n : Nat} (h : ∀ i, i < n → f i < 256) : Bytes ((List.range n).map f) := by
 intro b hb
 obtain ⟨i, hi, rfl⟩ := List.mem_map.1 hb
 exact h i (List.mem_range.1 hi)
/-- Without its zeros at the end. -/
def ptrim (p : List Nat) : List Nat := (p.reverse.dropWhile (· == 0)).reverse
theorem ptrim_snoc_zero (l : List Nat) : ptrim (l ++ [0]) = ptrim l := by
 unfold ptrim
 rw [List.reverse_append, List.reverse_singleton, List.singleton_append, List.dropWhile_cons_of_pos (by rfl)]
theorem ptrim_snoc_other (l : List Nat) {x : Nat} (h : x ≠ 0) : ptrim (l ++ [x]) = l ++ [x] := by
 unfold ptrim
 rw [List.reverse_append, List.reverse_singleton, List.singleton_append, List.dropWhile_cons_of_neg (by simpa using h)]
 simp
theorem snoc_ind {P : List Nat → Prop} (h0 : P []) (h1 : ∀ l x, P l → P (l ++ [x])) : ∀ l, P l := by
 intro l
 have : P l.reverse.reverse := by
  induction l.reverse with
  | nil => exact h0
  | cons a r ih => rw [List.reverse_cons]; exact h1 _ _ ih
 rwa [List.reverse_reverse] at this
theorem cf_snoc (l : List Nat) (x i : Nat) : cf (l ++ [x]) i = if i = l.length then x else cf l i := by
 unfold cf
 rw [List.getElem?_append]
 split
 ·rename_i h
  rw [if_neg (by omega)]
 ·rename_i h
  split
  ·rename_i e
   subst e
   simp
  ·rw [List.getElem?_eq_none (by simp; omega), List.getElem?_eq_none (by omega)]
theorem ptrim_cf (p : List Nat) : ∀ i, cf (ptrim p) i = cf p i := by
 induction p using snoc_ind with
 | h0 => exact fun i => rfl
 | h1 l x ih =>
  intro i
  by_cases hx : x = 0
  ·subst hx
   rw [ptrim_snoc_zero, ih i, cf_snoc]
   split
   ·rename_i e
    rw [e, cf_big (Nat.le_refl _)]
   ·rfl
  ·rw [ptrim_snoc_other l hx]
theorem ptrim_len (p : List Nat) : (ptrim p).length ≤ p.length := by
 induction p using snoc_ind with
 | h0 => exact Nat.le_refl _
 | h1 l x ih =>
  by_cases hx : x = 0
  ·subst hx
   rw [ptrim_snoc_zero, List.length_append]
   omega
  ·rw [ptrim_snoc_other l hx]
   exact Nat.le_refl _
theorem ptrim_take (p : List Nat) : ptrim p = p.take (ptrim p).length := by
 induction p using snoc_ind with
 | h0 => rfl
 | h1 l x ih =>
  by_cases hx : x = 0
  ·subst hx
   have := ptrim_len l
   rw [ptrim_snoc_zero, List.take_append_of_le_length this]
   exact ih
  ·rw [ptrim_snoc_other l hx, List.take_length]
theorem ptrim_bytes {p : List Nat} (h : Bytes p) : Bytes (ptrim p) := by
 intro b hb
 rw [ptrim_take] at hb
 exact h b (List.mem_of_mem_take hb)
/-- A trimmed list ends in no zero. -/
theorem ptrim_last (p : List Nat) (h : 0 < (ptrim p).length) : cf p ((ptrim p).length - 1) ≠ 0 := by
 induction p using snoc_ind with
 | h0 => exact absurd h (by decide)
 | h1 l x ih =>
  by_cases hx : x = 0
  ·subst hx
   rw [ptrim_snoc_zero] at h ⊢
   have h1 := ih h
   rw [cf_snoc]
   split
   ·rename_i e
    have := ptrim_len l
    omega
   ·exact h1
  ·rw [ptrim_snoc_other l hx, cf_snoc, if_pos (by simp)]
   exact hx
/-! the program's operations -/
def paddR (p q : List Nat) : List Nat := (List.range (max p.length q.length)).map fun i => cf p i ^^^ cf q i
def padd (p q : List Nat) : List Nat := ptrim (paddR p q)
/-- The first n rows' part of a coefficient of a product. -/
def cv (p q : List Nat) : Nat → Nat → Nat
 | 0, _ => 0
 | n + 1, m => cv p q n m ^^^ (if n ≤ m then gmul (cf p n) (cf q (m - n)) else 0)
def pmulR (p q : List Nat) : List Nat := (List.range (p.length + q.length)).map (cv p q p.length)
def pmul (p q : List Nat) : List Nat := ptrim (pmulR p q)
/-- Horner's way. -/
def hev (x : Nat) : List Nat → Nat
 | [] => 0
 | a :: p => gmul (hev x p) x ^^^ a
def pderR (p : List Nat) : List Nat := (List.range (p.length - 1)).map fun i => if i % 2 = 0 then cf p (i + 1) else 0
def pder (p : List Nat) : List Nat := ptrim (pderR p)

theorem cv_lt {p q : List Nat} (hp : Bytes p) : ∀ n m, cv p q n m < 256
 | 0, _ => by unfold cv; omega
 | n + 1, m => by
  unfold cv
  refine xor_lt (cv_lt hp n m) ?_
  split
  ·exact gmul_lt _ (cf_lt hp n)
  ·omega
theorem paddR_bytes {p q : List Nat} (hp : Bytes p) (hq : Bytes q) : Bytes (paddR p q) := bytes_map fun i _ => xor_lt (cf_lt hp i) (cf_lt hq i)
theorem padd_bytes {p q : List Nat} (hp : Bytes p) (hq : Bytes q) : Bytes (padd p q) := ptrim_bytes (paddR_bytes hp hq)
theorem pmulR_bytes {p q : List Nat} (hp : Bytes p) : Bytes (pmulR p q) := bytes_map fun m _ => cv_lt hp _ m
theorem pmul_bytes {p q : List Nat} (hp : Bytes p) : Bytes (pmul p q) := ptrim_bytes (pmulR_bytes hp)
theorem hev_lt {x : Nat} (hx : x < 256) : ∀ {p : List Nat}, Bytes p → hev x p < 256
 | [], _ => by unfold hev; omega
 | a :: p, h => xor_lt (gmul_lt _ (hev_lt hx fun b hb => h b (List.mem_cons_of_mem _ hb))) (h a List.mem_cons_self)
theorem pderR_bytes {p : List Nat} (hp : Bytes p) : Bytes (pderR p) := bytes_map fun i _ => by
 show (if i % 2 = 0 then cf p (i + 1) else 0) < 256
 split
 ·exact cf_lt hp _
 ·omega
theorem pder_bytes {p : List Nat} (hp : Bytes p) : Bytes (pder p) := ptrim_bytes (pderR_bytes hp)
theorem paddR_len (p q : List Nat) : (paddR p q).length = max p.length q.length := by unfold paddR; simp
theorem pmulR_len (p q : List Nat) : (pmulR p q).length = p.length + q.length := by unfold pmulR; simp
theorem padd_len (p q : List Nat) : (padd p q).length ≤ max p.length q.length := by rw [← paddR_len]; exact ptrim_len _
theorem pmul_len (p q : List Nat) : (pmul p q).length ≤ p.length + q.length := by rw [← pmulR_len]; exact ptrim_len _
theorem pder_len (p : List Nat) : (pder p).length ≤ p.length := by
 have : (pderR p).length = p.length - 1 := by unfold pderR; simp
 have := ptrim_len (pderR p)
 unfold pder
 omega

end Go.Proofs.YtnlnmfkmbpihhaaGreatDoor

namespace Go.Proofs.YtnlnmfkmbpihhaaGreatDoor

/-- Horner's way from the highest coefficient on. -/
def rvF (x : Nat) (f : Nat → Nat) : Nat → Nat
 | 0 => 0
 | n + 1 => gmul (rvF x f n) x ^^^ f n
def xp (x : Nat) : Nat → Nat
 | 0 => 1
 | n + 1 => gmul (xp x n) x
theorem xp_lt {x : Nat} (hx : x < 256) : ∀ n, xp x n < 256
 | 0 => by unfold xp; omega
 | n + 1 => gmul_lt _ (xp_lt hx n)
theorem rvF_lt {x : Nat} {f : Nat → Nat} (hf : ∀ i, f i < 256) : ∀ n, rvF x f n < 256
 | 0 => by unfold rvF; omega
 | n + 1 => xor_lt (gmul_lt _ (rvF_lt hf n)) (hf n)
theorem rvF_xor {x : Nat} {f g : Nat → Nat} (hf : ∀ i, f i < 256) (hg : ∀ i, g i < 256) : ∀ n, rvF x (fun i => f i ^^^ g i) n = rvF x f n ^^^ rvF x g n
 | 0 => (Nat.xor_self 0).symm
 | n + 1 => by
  simp only [rvF]
  rw [rvF_xor hf hg n, gmul_xor_left x (rvF_lt hf n) (rvF_lt hg n), xor4]
theorem rvF_mul {x c : Nat} {f : Nat → Nat} (hx : x < 256) (hc : c < 256) (hf : ∀ i, f i < 256) : ∀ n, rvF x (fun i => gmul c (f i)) n = gmul c (rvF x f n)
 | 0 => (gmul_zero_right c).symm
 | n + 1 => by
  simp only [rvF]
  rw [rvF_mul hx hc hf n, gmul_xor_right, gmul_assoc hc (rvF_lt hf n) hx]
theorem rvF_shift {x : Nat} {f : Nat → Nat} (hx : x < 256) (hf : ∀ i, f i < 256) : ∀ n, rvF x f (n + 1) = gmul (f 0) (xp x n) ^^^ rvF x (fun i => f (i + 1)) n
 | 0 => by
  simp only [rvF, xp]
  rw [gmul_zero_left hx, gmul_one_right]
  simp
 | n + 1 => by
  have ih := rvF_shift hx hf n
  rw [show rvF x f (n + 1 + 1) = gmul (rvF x f (n + 1)) x ^^^ f (n + 1) from rfl, ih, gmul_xor_left x (gmul_lt _ (hf 0)) (rvF_lt (fun i => hf (i + 1)) n), gmul_assoc (hf 0) (xp_lt hx n) hx]
  simp only [rvF, xp]
  rw [Nat.xor_assoc]
theorem rvF_congr {x : Nat} {f g : Nat → Nat} : ∀ n, (∀ i, i < n → f i = g i) → rvF x f n = rvF x g n
 | 0, _ => rfl
 | n + 1, h => by
  simp only [rvF]
  rw [rvF_congr n fun i hi => h i (by omega), h n (by omega)]
/-- A word's value. -/
def wv (x : Nat) (w : List Nat) : Nat := w.foldl (fun s c => gmul s x ^^^ c) 0
theorem wv_snoc (x : Nat) (w : List Nat) (c : Nat) : wv x (w ++ [c]) = gmul (wv x w) x ^^^ c := by unfold wv; rw [List.foldl_append]; rfl
theorem wv_rvF (x : Nat) (w : List Nat) : wv x w = rvF x (cf w) w.length := by
 induction w using snoc_ind with
 | h0 => rfl
 | h1 l c ih =>
  rw [wv_snoc, ih, List.length_append, List.length_singleton]
  simp only [rvF]
  rw [cf_snoc, if_pos rfl]
  congr 2
  exact rvF_congr _ fun i hi => by rw [cf_snoc, if_neg (by omega)]
theorem wv_lt {x : Nat} {w : List Nat} (h : Bytes w) : wv x w < 256 := by rw [wv_rvF]; exact rvF_lt (cf_lt h) _
theorem wv_append {x : Nat} {w : List Nat} (hx : x < 256) (hw : Bytes w) : ∀ r : List Nat, Bytes r → wv x (w ++ r) = gmul (wv x w) (xp x r.length) ^^^ wv x r := by
 intro r
 induction r using snoc_ind with
 | h0 => intro _; rw [List.append_nil]; show _ = gmul _ 1 ^^^ 0; rw [gmul_one_right]; simp
 | h1 l c ih =>
  intro hr
  have hl : Bytes l := fun b hb => hr b (List.mem_append_left _ hb)
  rw [← List.append_assoc, wv_snoc, ih hl, wv_snoc, List.length_append, List.length_singleton, gmul_xor_left x (gmul_lt _ (wv_lt hw)) (wv_lt hl), gmul_assoc (wv_lt hw) (xp_lt hx _) hx, Nat.xor_assoc]
  rfl

/-! the generator at eight parity symbols -/
def genP : Nat → List Nat
 | 0 => [1]
 | n + 1 => pmul (genP n) [pw n, 1]
/-- The program's shift register, one symbol on. -/
def lfsr (g r : List Nat) (s : Nat) : List Nat := (List.range 8).map fun i => cf r (i + 1) ^^^ gmul (s ^^^ cf r 0) (cf g (7 - i))
def rsPar (l : List Nat) : List Nat := l.foldl (lfsr (genP 8)) (List.replicate 8 0)
def rsEnc (l : List Nat) : List Nat := l ++ rsPar l
def G8 : List Nat := [24, 200, 173, 239, 54, 81, 11, 255, 1]
theorem genP_8 : genP 8 = G8 := by decide +kernel
theorem G8_bytes : Bytes G8 := by decide
/-- Every root of the generator. -/
theorem G8_roots : allB 8 (fun k => rvF (pw k) (fun i => cf G8 (7 - i)) 8 == xp (pw k) 8) = true := by decide +kernel
theorem lfsr_len (g r : List Nat) (s : Nat) : (lfsr g r s).length = 8 := by unfold lfsr; simp
theorem lfsr_bytes {g r : List Nat} {s : Nat} (hr : Bytes r) (hs : s < 256) : Bytes (lfsr g r s) := bytes_map fun _ _ => xor_lt (cf_lt hr _) (gmul_lt _ (xor_lt hs (cf_lt hr 0)))
theorem lfsr_wv {r : List Nat} {s k : Nat} (hk : k < 8) (hl : r.length = 8) (hr : Bytes r) (hs : s < 256) : wv (pw k) (lfsr G8 r s) = gmul (wv (pw k) r) (pw k) ^^^ gmul s (xp (pw k) 8) := by
 have hx := pw_lt k
 have hroot : rvF (pw k) (fun i => cf G8 (7 - i)) 8 = xp (pw k) 8 := by simpa using allB_out G8_roots k hk
 have hf : s ^^^ cf r 0 < 256 := xor_lt hs (cf_lt hr 0)
 rw [wv_rvF, lfsr_len, rvF_congr (g := fun i => cf r (i + 1) ^^^ gmul (s ^^^ cf r 0) (cf G8 (7 - i))) 8 (fun i hi => by unfold lfsr; rw [cf_map, if_pos hi]),
  rvF_xor (fun i => cf_lt hr _) (fun i => gmul_lt _ hf), rvF_mul hx hf (fun i => cf_lt G8_bytes _), hroot]
 rw [wv_rvF, hl]
 have h1 : rvF (pw k) (fun i => cf r (i + 1)) 8 = gmul (rvF (pw k) (fun i => cf r (i + 1)) 7) (pw k) := by
  show gmul _ _ ^^^ cf r 8 = _
  rw [cf_big (by omega)]
  simp
 have h2 := rvF_shift hx (cf_lt hr) 7
 rw [h1, h2, gmul_xor_left _ (gmul_lt _ (cf_lt hr 0)) (rvF_lt (fun i => cf_lt hr _) _), gmul_xor_left _ hs (cf_lt hr 0), gmul_assoc (cf_lt hr 0) (xp_lt hx 7) hx]
 show _ ^^^ (_ ^^^ gmul (cf r 0) (xp (pw k) 8)) = (gmul (cf r 0) (xp (pw k) 8) ^^^ _) ^^^ _
 generalize gmul (cf r 0) (xp (pw k) 8) = a
 generalize gmul (rvF (pw k) (fun i => cf r (i + 1)) 7) (pw k) = b
 generalize gmul s (xp (pw k) 8) = c
 rw [Nat.xor_comm a b, Nat.xor_assoc, Nat.xor_comm c a]
theorem rsPar_inv (l : List Nat) (hl : Bytes l) : (rsPar l).length = 8 ∧ Bytes (rsPar l) ∧ ∀ k, k < 8 → wv (pw k) (rsPar l) = gmul (wv (pw k) l) (xp (pw k) 8) := by
 induction l using snoc_ind with
 | h0 =>
  refine ⟨rfl, fun b hb => ?_, fun k hk => ?_⟩
  ·have := List.eq_of_mem_replicate hb
   omega
  ·have hz : wv (pw k) (List.replicate 8 0) = 0 := by
    show gmul (gmul (gmul (gmul (gmul (gmul (gmul (gmul 0 (pw k) ^^^ 0) (pw k) ^^^ 0) (pw k) ^^^ 0) (pw k) ^^^ 0) (pw k) ^^^ 0) (pw k) ^^^ 0) (pw k) ^^^ 0) (pw k) ^^^ 0 = 0
    simp only [gmul_zero_left (pw_lt k), Nat.xor_self]
   show wv (pw k) (List.replicate 8 0) = gmul 0 _
   rw [hz, gmul_zero_left (xp_lt (pw_lt k) 8)]
 | h1 l c ih =>
  have hl' : Bytes l := fun b hb => hl b (List.mem_append_left _ hb)
  have hc : c < 256 := hl c (by simp)
  obtain ⟨h1, h2, h3⟩ := ih hl'
  have e : rsPar (l ++ [c]) = lfsr G8 (rsPar l) c := by
   unfold rsPar
   rw [List.foldl_append, genP_8]
   rfl
  rw [e]
  refine ⟨lfsr_len _ _ _, lfsr_bytes h2 hc, fun k hk => ?_⟩
  have hx := pw_lt k
  rw [lfsr_wv hk h1 h2 hc, h3 k hk, wv_snoc, gmul_xor_left _ (gmul_lt _ (wv_lt hl')) hc, gmul_assoc (wv_lt hl') (xp_lt hx 8) hx, gmul_comm (xp_lt hx 8) hx, ← gmul_assoc (wv_lt hl') hx (xp_lt hx 8)]
/-- What the encoder writes is a code word. -/
theorem rsEnc_word (l : List Nat) (hl : Bytes l) {k : Nat} (hk : k < 8) : wv (pw k) (rsEnc l) = 0 := by
 obtain ⟨h1, h2, h3⟩ := rsPar_inv l hl
 unfold rsEnc
 rw [wv_append (pw_lt k) hl _ h2, h1, h3 k hk, Nat.xor_self]

/-! the program's decoder -/
def synd (w : List Nat) : List Nat := (List.range 8).map fun i => wv (pw i) w
def gdv (a b : Nat) : Nat := if b = 0 then 0 else gmul a (ginv b)
/-- The first n terms of the discrepancy of round m. -/
def disc (l s : List Nat) (m : Nat) : Nat → Nat
 | 0 => 0
 | i + 1 => disc l s m i ^^^ gmul (cf l i) (cf s (m - i))
structure BM where
 l : List Nat
 prev : List Nat
 length : Nat
 gap : Nat
 last : Nat
def bmStep (s : List Nat) (n : Nat) (t : BM) : BM :=
 let d := disc t.l s n (n + 1)
 if d = 0 then { t with gap := t.gap + 1 }
 else
  let next := padd t.l (List.replicate t.gap 0 ++ pmul t.prev [gdv d t.last])
  if 2 * t.length ≤ n then ⟨next, t.l, n + 1 - t.length, 1, d⟩ else ⟨next, t.prev, t.length, t.gap + 1, t.last⟩
def bmRun (s : List Nat) : Nat → BM
 | 0 => ⟨[1], [1], 0, 1, 1⟩
 | n + 1 => bmStep s n (bmRun s n)
def locP (s : List Nat) : List Nat := ptrim (bmRun s 8).l
/-- The word behind the first i places; how many roots; none if a slope is zero. -/
def fixP (l omega slope w : List Nat) : Nat → Option (List Nat × Nat)
 | 0 => some (w, 0)
 | i + 1 =>
  match fixP l omega slope w i with
  | none => none
  | some (out, roots) =>
   let p := w.length - 1 - i
   let x := pw ((255 - p) % 255)
   if hev x l ≠ 0 then some (out, roots)
   else if hev x slope = 0 then none
   else some (out.set i (cf out i ^^^ gmul (gmul (pw p) (hev x omega)) (ginv (hev x slope))), roots + 1)
def differ (a b : List Nat) : List Nat := (List.range a.length).filter fun i => cf a i != cf b i
def rsDec (w : List Nat) : Option (List Nat × Nat) :=
 let s := synd w
 let l := locP s
 match fixP l ((pmul s l).take 8) (pder l) w w.length with
 | none => none
 | some (out, roots) => if roots + 1 = l.length ∧ synd out = List.replicate 8 0 ∧ (differ w out).length ≤ 4 then some (out, (differ w out).length) else none
theorem locP_zero : locP (List.replicate 8 0) = [1] := by decide +kernel
theorem fixP_one (omega slope w : List Nat) : ∀ n, fixP [1] omega slope w n = some (w, 0)
 | 0 => rfl
 | n + 1 => by
  have h : hev (pw ((255 - (w.length - 1 - n)) % 255)) [1] = 1 := by
   show gmul 0 _ ^^^ 1 = 1
   rw [gmul_zero_left (pw_lt _)]
   rfl
  unfold fixP
  rw [fixP_one omega slope w n]
  simp only [h]
  rfl
theorem synd_len (w : List Nat) : (synd w).length = 8 := by unfold synd; simp
theorem synd_enc {l : List Nat} (hl : Bytes l) : synd (rsEnc l) = List.replicate 8 0 := by
 refine List.ext_getElem? fun i => ?_
 unfold synd
 by_cases hi : i < 8
 ·rw [List.getElem?_map, List.getElem?_range hi, List.getElem?_replicate, if_pos hi]
  simp [rsEnc_word l hl hi]
 ·rw [List.getElem?_eq_none (by simpa using hi), List.getElem?_eq_none (by simpa using hi)]
/-- A code word is left as it is. -/
theorem rsDec_word {w : List Nat} (h : synd w = List.replicate 8 0) : rsDec w = some (w, 0) := by
 have hd : differ w w = [] := by
  unfold differ
  rw [List.filter_eq_nil_iff]
  intro a _
  simp
 unfold rsDec
 simp only [h, locP_zero, fixP_one, hd]
 rfl

end Go.Proofs.YtnlnmfkmbpihhaaGreatDoor

namespace Go.Proofs.YtnlnmfkmbpihhaaGreatDoor

/-- The next state of the inner code; the two cells of a transition. -/
def cnx (s b : Nat) : Nat := 2 * b + s / 2
def co1 (s b : Nat) : Nat := 48 + (b + s / 2 + s % 2) % 2
def co2 (s b : Nat) : Nat := 48 + (b + s % 2) % 2
abbrev Bits (l : List Nat) : Prop := ∀ b ∈ l, b < 2
theorem cnx_lt {s b : Nat} (hs : s < 4) (hb : b < 2) : cnx s b < 4 := by unfold cnx; omega
def cenc : Nat → List Nat → List Nat
 | _, [] => []
 | s, b :: l => co1 s b :: co2 s b :: cenc (cnx s b) l
/-- The state behind some bits. -/
def cst : Nat → List Nat → Nat
 | s, [] => s
 | s, b :: l => cst (cnx s b) l
def convE (u : List Nat) : List Nat := cenc 0 (u ++ [0, 0])
theorem cenc_len : ∀ (l : List Nat) (s : Nat), (cenc s l).length = 2 * l.length
 | [], _ => rfl
 | b :: l, s => by
  simp only [cenc, List.length_cons, cenc_len l]
  omega
theorem cst_append : ∀ (l r : List Nat) (s : Nat), cst s (l ++ r) = cst (cst s l) r
 | [], _, _ => rfl
 | _ :: l, r, _ => cst_append l r _
theorem cenc_append : ∀ (l r : List Nat) (s : Nat), cenc s (l ++ r) = cenc s l ++ cenc (cst s l) r
 | [], _, _ => rfl
 | b :: l, r, s => by simp only [List.cons_append, cenc, cst, cenc_append l r]
/-- Reading a code word. -/
def cext : Nat → List Nat → Option (List Nat)
 | _, [] => some []
 | s, x :: y :: l =>
  let b := (y - 48 + s % 2) % 2
  if co1 s b = x ∧ co2 s b = y then (cext (cnx s b) l).map (b :: ·) else none
 | _, [_] => none
theorem cext_enc : ∀ (l : List Nat) (s : Nat), Bits l → cext s (cenc s l) = some l
 | [], _, _ => rfl
 | b :: l, s, h => by
  have hb := h b List.mem_cons_self
  have e : (co2 s b - 48 + s % 2) % 2 = b := by unfold co2; omega
  simp only [cenc, cext, e, and_self, if_true, cext_enc l (cnx s b) fun x hx => h x (List.mem_cons_of_mem _ hx), Option.map_some]
theorem cext_some : ∀ (l : List Nat) (s : Nat) {u : List Nat}, cext s l = some u → Bits u ∧ cenc s u = l
 | [], _, u, h => by
  cases h
  exact ⟨fun b hb => (by cases hb), rfl⟩
 | [x], _, u, h => by cases h
 | x :: y :: l, s, u, h => by
  simp only [cext] at h
  split at h
  ·rename_i hc
   obtain ⟨v, hv, rfl⟩ := Option.map_eq_some_iff.1 h
   obtain ⟨h1, h2⟩ := cext_some l _ hv
   refine ⟨fun b hb => ?_, ?_⟩
   ·rcases List.mem_cons.1 hb with rfl | hb
    ·omega
    ·exact h1 b hb
   ·simp only [cenc, h2, hc.1, hc.2]
  ·cases h

/-- One if the received cell x is readable and not o. -/
def msm (x o : Nat) : Int := if x = 63 ∨ x = o then 0 else 1
theorem msm_01 (x o : Nat) : 0 ≤ msm x o ∧ msm x o ≤ 1 := by unfold msm; split <;> omega
/-- The cost of a branch: -1 if there is no way. -/
def brc (x y : Nat) (a : Nat → Int) (s b : Nat) : Int := if a (cnx s b) < 0 then a (cnx s b) else a (cnx s b) + (msm x (co1 s b) + msm y (co2 s b))
/-- Is the second branch taken? -/
def pick1 (a b : Int) : Bool := decide (a < 0) || (decide (0 ≤ b) && decide (b < a))
def vbit (x y : Nat) (a : Nat → Int) (s : Nat) : Nat := if pick1 (brc x y a s 0) (brc x y a s 1) then 1 else 0
/-- The costs to the end, by states. -/
def vst : List Nat → Nat → Int
 | [], s => if s = 0 then 0 else -1
 | [_], _ => -1
 | x :: y :: l, s => brc x y (vst l) s (vbit x y (vst l) s)
/-- The bits that the costs show. -/
def vdec : Nat → List Nat → Nat → List Nat
 | n + 1, x :: y :: l, s => vbit x y (vst l) s :: vdec n l (cnx s (vbit x y (vst l) s))
 | _, _, _ => []
theorem vbit_lt (x y : Nat) (a : Nat → Int) (s : Nat) : vbit x y a s < 2 := by unfold vbit; split <;> omega
theorem vst_ge : ∀ (l : List Nat) (s : Nat), -1 ≤ vst l s
 | [], s => by unfold vst; split <;> omega
 | [_], _ => by unfold vst; omega
 | x :: y :: l, s => by
  have h := vst_ge l (cnx s (vbit x y (vst l) s))
  have h1 := msm_01 x (co1 s (vbit x y (vst l) s))
  have h2 := msm_01 y (co2 s (vbit x y (vst l) s))
  unfold vst brc
  split <;> omega
theorem vst_le : ∀ (l : List Nat) (s : Nat), vst l s ≤ l.length
 | [], s => by unfold vst; split <;> simp
 | [_], _ => by unfold vst; simp
 | x :: y :: l, s => by
  have h := vst_le l (cnx s (vbit x y (vst l) s))
  have h1 := msm_01 x (co1 s (vbit x y (vst l) s))
  have h2 := msm_01 y (co2 s (vbit x y (vst l) s))
  unfold vst brc
  simp only [List.length_cons]
  split <;> omega
theorem vdec_len : ∀ (n : Nat) (l : List Nat) (s : Nat), 2 * n ≤ l.length → (vdec n l s).length = n
 | 0, _, _, _ => by unfold vdec; rfl
 | n + 1, [], _, h => by simp at h
 | n + 1, [_], _, h => by simp at h; omega
 | n + 1, x :: y :: l, s, h => by
  simp only [vdec, List.length_cons, vdec_len n l _ (by simp at h; omega)]
theorem vdec_bits : ∀ (n : Nat) (l : List Nat) (s : Nat), Bits (vdec n l s)
 | 0, _, _ => by unfold vdec; intro b hb; cases hb
 | n + 1, [], _ => by unfold vdec; intro b hb; cases hb
 | n + 1, [_], _ => by unfold vdec; intro b hb; cases hb
 | n + 1, x :: y :: l, s => by
  intro b hb
  simp only [vdec, List.mem_cons] at hb
  rcases hb with rfl | hb
  ·exact vbit_lt _ _ _ _
  ·exact vdec_bits n l _ b hb

/-! what touched cells at least eight apart can do: a bound, by the difference of two states and the cells until the next touched one -/
end Go.Proofs.YtnlnmfkmbpihhaaGreatDoor
