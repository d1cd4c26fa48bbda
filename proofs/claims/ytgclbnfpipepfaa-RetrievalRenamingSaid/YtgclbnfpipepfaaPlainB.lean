/-
  PLAIN LAWS of layer 56: what a plan is; sums of costs; cheaper reels; more readable blocks; the reels numbered backwards.
-/
import Derived.Test.YtgclbnfpipepfaaOpen
namespace Go.Proofs.Ytgclbnfpipepfaa

def csum (c : List Int) (l : List Int) : Int := (l.map (fun x => c.getD x.toNat 0)).sum
theorem csum_nil (c : List Int) : csum c [] = 0 := rfl
theorem csum_cons (c : List Int) (x : Int) (l : List Int) : csum c (x :: l) = c.getD x.toNat 0 + csum c l := by simp [csum]
theorem csum_append (c : List Int) (a b : List Int) : csum c (a ++ b) = csum c a + csum c b := by simp [csum]
theorem dsum_csum (c l : List Int) (hp : l.Pairwise (· < ·)) : dsum c l l.length = csum c l := by
  revert hp
  refine rev_ind (p := fun l => l.Pairwise (· < ·) → dsum c l l.length = csum c l) (fun _ => rfl) (fun l x ih hp => ?_) l
  obtain ⟨h1, _, h3⟩ := List.pairwise_append.1 hp
  rw [List.length_append, List.length_singleton, dsum_snoc, ih h1, csum_append, csum_cons, csum_nil]
  have : inB l x = false := by
    cases hb : inB l x with
    | false => rfl
    | true => have := h3 x ((inB_iff _ _).1 hb) x (by simp); omega
  rw [this]; simp
theorem costB_sum {c l : List Int} (hbad : c.any badB = false) (h : Asc 0 c.length l) : costB c l = some (csum c l) := by
  rw [costB_asc hbad h, dsum_csum c l h.1]
theorem costN_sum {c l : List Int} (hbad : c.any badB = false) (h : Asc 0 c.length l) : costN c l = csum c l := by
  unfold costN; rw [costB_sum hbad h]; rfl

/-- What it says that the program's plan is p. -/
structure IsPlan (data : Int) (c : List Int) (m : List (List Bool)) (p : List Int) : Prop where
  lo : 1 ≤ data
  hi : data ≤ 8
  len : c.length ≤ 15
  bad : c.any badB = false
  rows : m.length = c.length
  even : evenB m = true
  asc : Asc 0 c.length p
  suff : suffB data (fun r => inB p r) m = true
  least : ∀ l, Asc 0 c.length l → suffB data (fun r => inB l r) m = true → csum c p < csum c l ∨ (csum c p = csum c l ∧ (p = l ∨ lessB p l = true))

theorem plan_ok {data : Int} {c : List Int} {m : List (List Bool)} {p : List Int} (h : planB data c m = .ok p) : IsPlan data c m p := by
  unfold planB at h
  by_cases h1 : data < 1 ∨ 8 < data
  · rw [if_pos h1] at h; cases h
  rw [if_neg h1] at h
  by_cases h2 : 15 < c.length
  · rw [if_pos h2] at h; cases h
  rw [if_neg h2] at h
  cases h3 : c.any badB with
  | true => rw [h3, if_pos rfl] at h; cases h
  | false =>
    rw [h3, if_neg (by decide)] at h
    by_cases h4 : m.length ≠ c.length ∨ evenB m = false
    · rw [if_pos h4] at h; cases h
    · rw [if_neg h4] at h
      have hl := plan_least data c m
      unfold accOf at hl
      cases hr : (allSets c.length).foldl (pick data c m) none with
      | none => rw [hr] at h; cases h
      | some b =>
        rw [hr] at h hl
        obtain ⟨b, q⟩ := b
        cases h
        obtain ⟨i1, i2, i3, i4⟩ := hl
        refine ⟨by omega, by omega, by omega, h3, ?_, ?_, i1, i2, fun l hA hF => ?_⟩
        · rcases Nat.lt_trichotomy m.length c.length with h | h | h
          · exact absurd (.inl (by omega)) h4
          · exact h
          · exact absurd (.inl (by omega)) h4
        · cases he : evenB m with
          | true => rfl
          | false => exact absurd (.inr he) h4
        · have := i4 l hA hF
          rw [i3, costN_sum h3 i1, costN_sum h3 hA] at this
          exact this
/-- The converse. -/
theorem plan_of {data : Int} {c : List Int} {m : List (List Bool)} {p : List Int} (h : IsPlan data c m p) : planB data c m = .ok p := by
  unfold planB
  rw [if_neg (by have := h.lo; have := h.hi; omega), if_neg (by have := h.len; omega), if_neg (by rw [h.bad]; decide), if_neg (by rintro (k | k); exact k h.rows; rw [h.even] at k; cases k)]
  have hl := plan_least data c m
  unfold accOf at hl
  have hp : Least (costN c) (fun l => suffB data (fun r => inB l r) m) (Asc 0 c.length) (some (p, costN c p)) := by
    refine ⟨h.asc, h.suff, rfl, fun l hA hF => ?_⟩
    rw [costN_sum h.bad h.asc, costN_sum h.bad hA]
    exact h.least l hA hF
  rw [hl.unique hp]
  rfl
theorem plan_err {data : Int} {c : List Int} {m : List (List Bool)} {e : Int} (h : planB data c m = .error e) : e ≠ 0 ∧ (e = 21 → ∀ l, Asc 0 c.length l → suffB data (fun r => inB l r) m = false) := by
  unfold planB at h
  by_cases h1 : data < 1 ∨ 8 < data
  · rw [if_pos h1] at h; cases h; exact ⟨by omega, fun h => by omega⟩
  rw [if_neg h1] at h
  by_cases h2 : 15 < c.length
  · rw [if_pos h2] at h; cases h; exact ⟨by omega, fun h => by omega⟩
  rw [if_neg h2] at h
  cases h3 : c.any badB with
  | true => rw [h3, if_pos rfl] at h; cases h; exact ⟨by omega, fun h => by omega⟩
  | false =>
    rw [h3, if_neg (by decide)] at h
    by_cases h4 : m.length ≠ c.length ∨ evenB m = false
    · rw [if_pos h4] at h; cases h; exact ⟨by omega, fun h => by omega⟩
    · rw [if_neg h4] at h
      have hl := plan_least data c m
      unfold accOf at hl
      cases hr : (allSets c.length).foldl (pick data c m) none with
      | none => rw [hr] at h hl; cases h; exact ⟨by omega, fun _ l hA => hl l hA⟩
      | some b => rw [hr] at h; cases h
/-- Where the problem is in order and a list suffices there is a plan, and it costs no more. -/
theorem plan_exists {data : Int} {c : List Int} {m : List (List Bool)} (lo : 1 ≤ data) (hi : data ≤ 8) (len : c.length ≤ 15) (bad : c.any badB = false) (rows : m.length = c.length) (even : evenB m = true)
    {l : List Int} (hA : Asc 0 c.length l) (hF : suffB data (fun r => inB l r) m = true) : ∃ p, IsPlan data c m p ∧ csum c p ≤ csum c l := by
  cases hp : planB data c m with
  | error e =>
    have := plan_err hp
    unfold planB at hp
    rw [if_neg (by omega), if_neg (by omega), if_neg (by rw [bad]; decide), if_neg (by rintro (k | k); exact k rows; rw [even] at k; cases k)] at hp
    cases hr : (allSets c.length).foldl (pick data c m) none with
    | none =>
      rw [hr] at hp
      cases hp
      rw [this.2 rfl l hA] at hF
      cases hF
    | some b => rw [hr] at hp; cases hp
  | ok p =>
    have h := plan_ok hp
    refine ⟨p, h, ?_⟩
    rcases h.least l hA hF with h | h <;> omega

/-! law 4 -/
theorem minimal {data : Int} {c : List Int} {m : List (List Bool)} {a b : List Int} {x : Int} (h : IsPlan data c m (a ++ x :: b)) (hx : 0 < c.getD x.toNat 0) : suffB data (fun r => inB (a ++ b) r) m = false := by
  cases hF : suffB data (fun r => inB (a ++ b) r) m with
  | false => rfl
  | true =>
    have hA : Asc 0 c.length (a ++ b) := by
      have hs : (a ++ b).Sublist (a ++ x :: b) := List.Sublist.append_left (List.sublist_cons_self x b) a
      exact ⟨h.asc.1.sublist hs, fun y hy => h.asc.2 y (hs.subset hy)⟩
    have := h.least _ hA hF
    rw [csum_append, csum_append, csum_cons] at this
    omega

/-- m' has every readable block of m. -/
def MoreRows (m m' : List (List Bool)) : Prop := m'.length = m.length ∧ evenB m' = evenB m ∧ cols m' = cols m ∧ ∀ r s, (m.getD r []).getD s false = true → (m'.getD r []).getD s false = true
theorem cnt_more {m m' : List (List Bool)} (h : MoreRows m m') (p : Nat → Bool) (s N : Nat) : cnt m p s N ≤ cnt m' p s N := by
  induction N with
  | zero => exact Nat.le_refl _
  | succ N ih =>
    rw [cnt, cnt]
    cases hv : (m.getD N []).getD s false with
    | false => simp; omega
    | true => rw [h.2.2.2 N s hv]; omega
theorem suff_more {data : Int} {p : Nat → Bool} {m m' : List (List Bool)} (h : MoreRows m m') (hs : suffB data p m = true) : suffB data p m' = true := by
  obtain ⟨h1, h2, h3, h4⟩ := suffB_out hs
  refine suffB_yes h1 h2 (by rw [h.2.1]; exact h3) fun s hs' => ?_
  rw [h.2.2.1] at hs'
  have h5 := h4 s hs'
  have h6 := cnt_more h p s m.length
  rw [h.1]
  omega
theorem plan_more {data : Int} {c : List Int} {m m' : List (List Bool)} {p : List Int} (h : IsPlan data c m p) (hm : MoreRows m m') : ∃ q, IsPlan data c m' q ∧ csum c q ≤ csum c p :=
  plan_exists h.lo h.hi h.len h.bad (hm.1.trans h.rows) (hm.2.1.trans h.even) h.asc (suff_more hm h.suff)

/-! law 5 -/
theorem getD_set (c : List Int) (k j : Nat) (v : Int) (hk : k < c.length) : (c.set k v).getD j 0 = if j = k then v else c.getD j 0 := by
  by_cases e : j = k
  · subst e; simp [List.getD, hk]
  · rw [if_neg e, List.getD, List.getD, List.getElem?_set_ne (Ne.symm e)]
theorem csum_set {c : List Int} {k : Nat} {v : Int} (hk : k < c.length) (_hv : 0 ≤ v) (hvc : v ≤ c.getD k 0) (l : List Int) (hp : l.Pairwise (· < ·)) (h0 : ∀ x ∈ l, 0 ≤ x) :
    csum (c.set k v) l ≤ csum c l ∧ csum c l - (c.getD k 0 - v) ≤ csum (c.set k v) l ∧ ((k : Int) ∉ l → csum (c.set k v) l = csum c l) := by
  induction l with
  | nil => exact ⟨Int.le_refl _, by rw [csum_nil, csum_nil]; omega, fun _ => rfl⟩
  | cons x l ih =>
    obtain ⟨hx, hp'⟩ := List.pairwise_cons.1 hp
    obtain ⟨i1, i2, i3⟩ := ih hp' fun y hy => h0 y (by simp [hy])
    rw [csum_cons, csum_cons, getD_set c k _ v hk]
    have hx0 := h0 x (by simp)
    by_cases e : x.toNat = k
    · have hxk : x = k := by omega
      have hnot : (k : Int) ∉ l := fun hm => by have := hx k hm; omega
      have := i3 hnot
      rw [if_pos e, e]
      exact ⟨by omega, by omega, fun h => absurd (by simp [hxk]) h⟩
    · rw [if_neg e]
      refine ⟨by omega, by omega, fun h => ?_⟩
      rw [i3 fun hm => h (by simp [hm])]
theorem bad_set {c : List Int} {k : Nat} {v : Int} (hbad : c.any badB = false) (hv : 0 ≤ v) (hv2 : v ≤ 1000000000) : (c.set k v).any badB = false := by
  rw [List.any_eq_false]
  intro x hx
  rcases List.mem_or_eq_of_mem_set hx with h | rfl
  · have := List.any_eq_false.1 hbad x h; exact this
  · rw [badB_no hv hv2]; decide
theorem cheaper {data : Int} {c : List Int} {m : List (List Bool)} {p : List Int} (h : IsPlan data c m p) {k : Nat} {v : Int} (hk : k < c.length) (hv : 0 ≤ v) (hvc : v ≤ c.getD k 0) :
    ∃ q, IsPlan data (c.set k v) m q ∧ csum (c.set k v) q ≤ csum c p ∧ csum c p - (c.getD k 0 - v) ≤ csum (c.set k v) q := by
  have hg : c.getD k 0 = c[k] := by simp [List.getD, List.getElem?_eq_getElem hk]
  have hb := badB_out h.bad k c[k] (List.getElem?_eq_getElem hk)
  have hlen : (c.set k v).length = c.length := by simp
  obtain ⟨q, hq, hle⟩ := plan_exists h.lo h.hi (by rw [hlen]; exact h.len) (bad_set (k := k) h.bad hv (by omega)) (by rw [hlen]; exact h.rows) h.even (l := p) (by rw [hlen]; exact h.asc) h.suff
  have hqa : Asc 0 c.length q := by have := hq.asc; rwa [hlen] at this
  have h1 := csum_set hk hv hvc p h.asc.1 fun x hx => by have := h.asc.2 x hx; omega
  have h2 := csum_set hk hv hvc q hqa.1 fun x hx => by have := hqa.2 x hx; omega
  refine ⟨q, hq, by omega, ?_⟩
  have h3 : csum c p ≤ csum c q := by
    rcases h.least q hqa hq.suff with h | h <;> omega
  omega

end Go.Proofs.Ytgclbnfpipepfaa
