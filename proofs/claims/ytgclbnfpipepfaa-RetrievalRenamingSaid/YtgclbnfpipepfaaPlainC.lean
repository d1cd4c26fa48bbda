/-
  PLAIN LAW: the reels numbered backwards, each stripe twice: the same plans, renamed.
-/
import Derived.Test.YtgclbnfpipepfaaPlainB
namespace Go.Proofs.Ytgclbnfpipepfaa

/-- The list, renamed. -/
def ren (n : Nat) (l : List Int) : List Int := (l.map fun x => (n : Int) - 1 - x).reverse
def dbl (m : List (List Bool)) : List (List Bool) := (m.map fun r => r ++ r).reverse

theorem ren_ren (n : Nat) (l : List Int) : ren n (ren n l) = l := by
  unfold ren
  rw [List.map_reverse, List.reverse_reverse, List.map_map]
  conv => rhs; rw [← List.map_id l]
  refine List.map_congr_left fun x _ => ?_
  simp only [Function.comp_apply, id_eq]
  omega
theorem mem_ren {n : Nat} {l : List Int} {x : Int} : x ∈ ren n l ↔ ((n : Int) - 1 - x) ∈ l := by
  unfold ren
  rw [List.mem_reverse, List.mem_map]
  constructor
  · rintro ⟨a, ha, rfl⟩
    rw [show (n : Int) - 1 - (n - 1 - a) = a by omega]
    exact ha
  · intro h
    exact ⟨_, h, by omega⟩
theorem ren_asc {n : Nat} {l : List Int} (h : Asc 0 n l) : Asc 0 n (ren n l) := by
  refine ⟨?_, fun x hx => ?_⟩
  · unfold ren
    rw [List.pairwise_reverse, List.pairwise_map]
    exact h.1.imp fun hab => by omega
  · have := h.2 _ (mem_ren.1 hx)
    omega
theorem getD_rev (c : List Int) (x : Int) (h0 : 0 ≤ x) (h1 : x < c.length) : c.reverse.getD ((c.length : Int) - 1 - x).toNat 0 = c.getD x.toNat 0 := by
  rw [List.getD, List.getD, List.getElem?_reverse (by omega)]
  congr 2
  omega
theorem csum_ren {c : List Int} {l : List Int} (h : Asc 0 c.length l) : csum c.reverse (ren c.length l) = csum c l := by
  unfold csum ren
  rw [List.map_reverse, List.map_map, List.sum_reverse]
  congr 1
  refine List.map_congr_left fun x hx => ?_
  have := h.2 x hx
  exact getD_rev c x this.1 (by omega)

/-! counting backwards -/
theorem cnt_countP (m : List (List Bool)) (p : Nat → Bool) (s N : Nat) : cnt m p s N = (List.range N).countP fun r => (m.getD r []).getD s false && p r := by
  induction N with
  | zero => rfl
  | succ N ih =>
    rw [cnt, ih, List.range_succ, List.countP_append]
    congr 1
    rw [List.countP_singleton]
theorem countP_back (N : Nat) (f : Nat → Bool) : (List.range N).countP f = (List.range N).countP fun r => f (N - 1 - r) := by
  rw [← List.countP_reverse]
  have e : (List.range N).reverse = (List.range N).map fun r => N - 1 - r := by
    rw [List.range_eq_range', List.reverse_range', List.range_eq_range']
    simp
  rw [e, List.countP_map]
  rfl
theorem dbl_len (m : List (List Bool)) : (dbl m).length = m.length := by simp [dbl]
theorem dbl_getD (m : List (List Bool)) (r : Nat) (h : r < m.length) : (dbl m).getD r [] = m.getD (m.length - 1 - r) [] ++ m.getD (m.length - 1 - r) [] := by
  unfold dbl
  rw [List.getD, List.getElem?_reverse (by simpa using h), List.length_map, List.getElem?_map, List.getD, List.getElem?_eq_getElem (by omega)]
  rfl
theorem dbl_mem {m : List (List Bool)} {r : List Bool} : r ∈ dbl m ↔ ∃ a ∈ m, a ++ a = r := by
  unfold dbl
  rw [List.mem_reverse, List.mem_map]
theorem cols_mem {m : List (List Bool)} (h : 0 < m.length) : m.getD 0 [] ∈ m := by
  rw [List.getD, List.getElem?_eq_getElem h]
  exact List.getElem_mem h
theorem even_mem {m : List (List Bool)} : evenB m = true ↔ ∀ a ∈ m, a.length = cols m := by
  unfold evenB
  rw [List.all_eq_true]
  exact forall_congr' fun a => forall_congr' fun _ => beq_iff_eq
theorem dbl_cols {m : List (List Bool)} (he : evenB m = true) : cols (dbl m) = 2 * cols m := by
  by_cases h : 0 < m.length
  · obtain ⟨a, ha, e⟩ := dbl_mem.1 (cols_mem (m := dbl m) (by rw [dbl_len]; exact h))
    have := even_mem.1 he a ha
    unfold cols at this ⊢
    rw [← e, List.length_append, this]
    omega
  · have : m = [] := List.eq_nil_of_length_eq_zero (by omega)
    subst this
    rfl
theorem dbl_even (m : List (List Bool)) : evenB (dbl m) = evenB m := by
  rw [Bool.eq_iff_iff]
  constructor
  · intro h
    rw [even_mem] at h ⊢
    intro a ha
    have h1 := h (a ++ a) (dbl_mem.2 ⟨a, ha, rfl⟩)
    have hl : 0 < m.length := List.length_pos_of_mem ha
    have h2 := h (m.getD 0 [] ++ m.getD 0 []) (dbl_mem.2 ⟨_, cols_mem hl, rfl⟩)
    rw [List.length_append] at h1 h2
    show a.length = (m.getD 0 []).length
    omega
  · intro h
    have hc := dbl_cols h
    rw [even_mem] at h ⊢
    intro r hr
    obtain ⟨a, ha, rfl⟩ := dbl_mem.1 hr
    rw [hc, List.length_append, h a ha]
    omega
theorem inB_ren (n : Nat) (l : List Int) (r : Nat) (h : r < n) : inB (ren n l) (n - 1 - r : Nat) = inB l r := by
  rw [Bool.eq_iff_iff, inB_iff, inB_iff, mem_ren, show (n : Int) - 1 - ((n - 1 - r : Nat) : Int) = r by omega]
theorem cnt_dbl {m : List (List Bool)} (he : evenB m = true) (l : List Int) (s : Nat) (t : Nat) (ht : t < cols m) (hs : s = t ∨ s = cols m + t) :
    cnt (dbl m) (fun r => inB (ren m.length l) r) s m.length = cnt m (fun r => inB l r) t m.length := by
  rw [cnt_countP, cnt_countP, countP_back]
  refine List.countP_congr fun r hr => ?_
  have hr := List.mem_range.1 hr
  rw [inB_ren _ _ _ hr, dbl_getD m _ (by omega), show m.length - 1 - (m.length - 1 - r) = r by omega]
  have hl : (m.getD r []).length = cols m := even_mem.1 he _ (by rw [List.getD, List.getElem?_eq_getElem hr]; exact List.getElem_mem hr)
  have e : (m.getD r [] ++ m.getD r []).getD s false = (m.getD r []).getD t false := by
    generalize m.getD r [] = a at *
    rw [List.getD, List.getD]
    rcases hs with rfl | rfl
    · rw [List.getElem?_append_left (by omega)]
    · rw [List.getElem?_append_right (by omega), hl, show cols m + t - cols m = t by omega]
  rw [e]
theorem suff_ren {data : Int} {m : List (List Bool)} (he : evenB m = true) (l : List Int) : suffB data (fun r => inB (ren m.length l) r) (dbl m) = suffB data (fun r => inB l r) m := by
  rw [Bool.eq_iff_iff]
  constructor
  · intro h
    obtain ⟨h1, h2, _, h4⟩ := suffB_out h
    refine suffB_yes h1 h2 he fun t ht => ?_
    have := h4 t (by rw [dbl_cols he]; omega)
    rwa [dbl_len, cnt_dbl he l t t ht (.inl rfl)] at this
  · intro h
    obtain ⟨h1, h2, _, h4⟩ := suffB_out h
    refine suffB_yes h1 h2 (by rw [dbl_even]; exact he) fun s hs => ?_
    rw [dbl_cols he] at hs
    rw [dbl_len]
    by_cases hc : s < cols m
    · rw [cnt_dbl he l s s hc (.inl rfl)]
      exact h4 s hc
    · rw [cnt_dbl he l s (s - cols m) (by omega) (.inr (by omega))]
      exact h4 _ (by omega)

/-- law 7 -/
theorem fold_none {data : Int} {c : List Int} {m : List (List Bool)} : (allSets c.length).foldl (pick data c m) none = none ↔ ∀ l, Asc 0 c.length l → suffB data (fun r => inB l r) m = false := by
  have hl := plan_least data c m
  unfold accOf at hl
  cases hr : (allSets c.length).foldl (pick data c m) none with
  | none =>
    rw [hr] at hl
    exact Iff.intro (fun _ => hl) fun _ => rfl
  | some b =>
    rw [hr] at hl
    obtain ⟨b, q⟩ := b
    obtain ⟨i1, i2, _, _⟩ := hl
    constructor
    · intro h
      cases h
    intro h
    have i2 : suffB data (fun r => inB b r) m = true := i2
    rw [h b i1] at i2
    cases i2
theorem fold_ren {data : Int} {c : List Int} {m : List (List Bool)} (hn : m.length = c.length) (he : evenB m = true) :
    (allSets c.reverse.length).foldl (pick data c.reverse (dbl m)) none = none ↔ (allSets c.length).foldl (pick data c m) none = none := by
  rw [fold_none, fold_none, List.length_reverse]
  constructor
  · intro h l hl
    rw [← suff_ren he l, hn]
    exact h _ (ren_asc hl)
  · intro h l hl
    have := suff_ren (data := data) he (ren c.length l)
    rw [hn, ren_ren] at this
    rw [this]
    exact h _ (ren_asc hl)
theorem any_rev (c : List Int) : c.reverse.any badB = c.any badB := List.any_reverse
theorem plan_ren (data : Int) (c : List Int) (m : List (List Bool)) :
    planCode (planB data c.reverse (dbl m)) = planCode (planB data c m) ∧ ∀ p q, planB data c m = .ok p → planB data c.reverse (dbl m) = .ok q → csum c p = csum c.reverse q := by
  constructor
  · unfold planB
    rw [List.length_reverse, any_rev, dbl_len, dbl_even]
    by_cases h1 : data < 1 ∨ 8 < data
    · rw [if_pos h1, if_pos h1]
    rw [if_neg h1, if_neg h1]
    by_cases h2 : 15 < c.length
    · rw [if_pos h2, if_pos h2]
    rw [if_neg h2, if_neg h2]
    by_cases h3 : c.any badB = true
    · rw [if_pos h3, if_pos h3]
    rw [if_neg h3, if_neg h3]
    by_cases h4 : m.length ≠ c.length ∨ evenB m = false
    · rw [if_pos h4, if_pos h4]
    rw [if_neg h4, if_neg h4]
    have hn : m.length = c.length := by
      by_cases h : m.length = c.length
      · exact h
      · exact absurd (.inl h) h4
    have he : evenB m = true := by
      cases h : evenB m with
      | true => rfl
      | false => exact absurd (.inr h) h4
    have hf := fold_ren (data := data) hn he
    rw [List.length_reverse] at hf
    cases ha : (allSets c.length).foldl (pick data c m) none with
    | none => rw [hf.2 ha]
    | some a =>
      cases hb : (allSets c.length).foldl (pick data c.reverse (dbl m)) none with
      | none => rw [hf.1 hb] at ha; cases ha
      | some b => rfl
  · intro p q hp hq
    have ip := plan_ok hp
    have iq := plan_ok hq
    have hn := ip.rows
    have iqa := iq.asc
    rw [List.length_reverse] at iqa
    have h1 : csum c p ≤ csum c.reverse q := by
      have hs := suff_ren (data := data) ip.even (ren c.length q)
      rw [hn, ren_ren, iq.suff] at hs
      have e : csum c.reverse q = csum c (ren c.length q) := by
        have := csum_ren (c := c) (ren_asc iqa)
        rwa [ren_ren] at this
      rw [e]
      rcases ip.least _ (ren_asc iqa) hs.symm with h | h <;> omega
    have h2 : csum c.reverse q ≤ csum c p := by
      have hs := suff_ren (data := data) ip.even p
      rw [hn, ip.suff] at hs
      rw [← csum_ren ip.asc]
      rcases iq.least (ren c.length p) (by rw [List.length_reverse]; exact ren_asc ip.asc) hs with h | h <;> omega
    omega
end Go.Proofs.Ytgclbnfpipepfaa
