/-
  PLAIN LAWS of layer 56: both searches find the one cheapest, lexicographically least list of reels that suffices.
-/
import Derived.Test.YtgclbnfpipepfaaRefD
namespace Go.Proofs.Ytgclbnfpipepfaa

/-! the order on lists -/
theorem lessB_irrefl (a : List Int) : lessB a a = false := by
  induction a with
  | nil => rfl
  | cons x a ih => rw [lessB, if_pos rfl, ih]
theorem lessB_tri (a b : List Int) : a = b ∨ lessB a b = true ∨ lessB b a = true := by
  induction a generalizing b with
  | nil => cases b with
    | nil => exact .inl rfl
    | cons y b => exact .inr (.inl rfl)
  | cons x a ih =>
    cases b with
    | nil => exact .inr (.inr rfl)
    | cons y b =>
      by_cases h : x = y
      · subst h
        rcases ih b with h | h | h
        · exact .inl (by rw [h])
        · exact .inr (.inl (by rw [lessB, if_pos rfl, h]))
        · exact .inr (.inr (by rw [lessB, if_pos rfl, h]))
      · rcases Int.lt_or_gt_of_ne h with hl | hl
        · exact .inr (.inl (by rw [lessB, if_neg h]; simpa using hl))
        · exact .inr (.inr (by rw [lessB, if_neg (fun e => h e.symm)]; simpa using hl))
theorem lessB_trans {a b c : List Int} (h : lessB a b = true) (k : lessB b c = true) : lessB a c = true := by
  induction a generalizing b c with
  | nil =>
    cases c with
    | nil => cases b <;> simp [lessB] at k
    | cons z c => rfl
  | cons x a ih =>
    cases b with
    | nil => simp [lessB] at h
    | cons y b =>
      cases c with
      | nil => simp [lessB] at k
      | cons z c =>
        rw [lessB] at h k ⊢
        by_cases hxy : x = y
        · subst hxy
          rw [if_pos rfl] at h
          by_cases hxz : x = z
          · rw [if_pos hxz] at k ⊢
            exact ih h k
          · rw [if_neg hxz] at k ⊢
            exact k
        · rw [if_neg hxy] at h
          by_cases hyz : y = z
          · subst hyz
            rw [if_neg hxy]
            exact h
          · rw [if_neg hyz] at k
            have h1 : x < y := by simpa using h
            have h2 : y < z := by simpa using k
            rw [if_neg (by omega)]
            simp; omega
theorem lessB_asymm {a b : List Int} (h : lessB a b = true) : lessB b a = false := by
  cases hb : lessB b a with
  | false => rfl
  | true =>
    have := lessB_trans h hb
    rw [lessB_irrefl] at this
    cases this

/-! strictly increasing lists of numbers from lo on, below hi -/
def Asc (lo hi : Nat) (l : List Int) : Prop := l.Pairwise (· < ·) ∧ ∀ x ∈ l, (lo : Int) ≤ x ∧ x < hi
theorem Asc.nil (lo hi : Nat) : Asc lo hi [] := ⟨List.Pairwise.nil, fun x h => by cases h⟩

theorem mem_rest (n k : Nat) (hk : k ≤ n) : ∀ (set l : List Int), l ∈ rest n k set ↔ ∃ t, t ≠ [] ∧ Asc (n - k) n t ∧ l = set ++ t := by
  induction k with
  | zero =>
    intro set l
    constructor
    · intro h; cases h
    · rintro ⟨t, ht, ⟨_, hb⟩, _⟩
      cases t with
      | nil => exact absurd rfl ht
      | cons x t => have := hb x (by simp); omega
  | succ k ih =>
    intro set l
    simp only [rest, List.cons_append, List.mem_cons, List.mem_append]
    constructor
    · rintro (rfl | h | h)
      · exact ⟨_, by simp, ⟨by simp, fun x hx => by simp at hx; subst hx; omega⟩, rfl⟩
      · obtain ⟨t, ht, ⟨hp, hb⟩, rfl⟩ := (ih (by omega) _ _).1 h
        refine ⟨((n - (k + 1) : Nat) : Int) :: t, by simp, ⟨List.pairwise_cons.2 ⟨fun y hy => by have := hb y hy; omega, hp⟩, fun x hx => ?_⟩, by simp⟩
        rcases List.mem_cons.1 hx with rfl | hx
        · omega
        · have := hb x hx; omega
      · obtain ⟨t, ht, ⟨hp, hb⟩, rfl⟩ := (ih (by omega) _ _).1 h
        exact ⟨t, ht, ⟨hp, fun x hx => by have := hb x hx; omega⟩, rfl⟩
    · rintro ⟨t, ht, ⟨hp, hb⟩, rfl⟩
      cases t with
      | nil => exact absurd rfl ht
      | cons x t =>
        have hx := hb x (by simp)
        obtain ⟨hx1, hp'⟩ := List.pairwise_cons.1 hp
        by_cases e : x = ((n - (k + 1) : Nat) : Int)
        · subst e
          by_cases ht' : t = []
          · subst ht'; exact .inl rfl
          · refine .inr (.inl ((ih (by omega) _ _).2 ⟨t, ht', ⟨hp', fun y hy => ?_⟩, by simp⟩))
            have h1 := hx1 y hy
            have h2 := hb y (by simp [hy])
            omega
        · refine .inr (.inr ((ih (by omega) _ _).2 ⟨x :: t, by simp, ⟨hp, fun y hy => ?_⟩, rfl⟩))
          have h2 := hb y hy
          rcases List.mem_cons.1 hy with rfl | hy
          · omega
          · have h1 := hx1 y hy; omega
theorem mem_allSets (n : Nat) (l : List Int) : l ∈ allSets n ↔ Asc 0 n l := by
  unfold allSets
  rw [List.mem_cons, mem_rest n n (Nat.le_refl _)]
  constructor
  · rintro (rfl | ⟨t, _, h, rfl⟩)
    · exact Asc.nil _ _
    · simpa using h
  · intro h
    by_cases e : l = []
    · exact .inl e
    · exact .inr ⟨l, e, by simpa using h, rfl⟩

theorem lessB_pre (set a b : List Int) : lessB (set ++ a) (set ++ b) = lessB a b := by
  induction set with
  | nil => rfl
  | cons x s ih => show lessB (x :: (s ++ a)) (x :: (s ++ b)) = _; rw [lessB, if_pos rfl, ih]
/-- They come in increasing order. -/
theorem rest_sorted (n k : Nat) (hk : k ≤ n) : ∀ set : List Int, (set :: rest n k set).Pairwise (fun a b => lessB a b = true) := by
  induction k with
  | zero => intro set; simp [rest]
  | succ k ih =>
    intro set
    have h1 := ih (by omega) (set ++ [((n - (k + 1) : Nat) : Int)])
    have h2 := ih (by omega) set
    rw [List.pairwise_cons] at h2 ⊢
    refine ⟨fun l hl => ?_, ?_⟩
    · obtain ⟨t, ht, _, rfl⟩ := (mem_rest n (k + 1) hk set l).1 hl
      have := lessB_pre set [] t
      rw [List.append_nil] at this
      rw [this]
      cases t with
      | nil => exact absurd rfl ht
      | cons x t => rfl
    · show (((set ++ [((n - (k + 1) : Nat) : Int)]) :: rest n k (set ++ [((n - (k + 1) : Nat) : Int)])) ++ rest n k set).Pairwise _
      rw [List.pairwise_append]
      refine ⟨h1, h2.2, fun a ha b hb => ?_⟩
      obtain ⟨t, ht, ⟨_, hbt⟩, rfl⟩ := (mem_rest n k (by omega) set b).1 hb
      have ha' : ∃ u, a = set ++ (((n - (k + 1) : Nat) : Int) :: u) := by
        rcases List.mem_cons.1 ha with rfl | ha
        · exact ⟨[], rfl⟩
        · obtain ⟨u, _, _, rfl⟩ := (mem_rest n k (by omega) _ a).1 ha
          exact ⟨u, by simp⟩
      obtain ⟨u, rfl⟩ := ha'
      rw [lessB_pre]
      cases t with
      | nil => exact absurd rfl ht
      | cons x t =>
        have := hbt x (by simp)
        rw [lessB, if_neg (by omega)]
        simp; omega

/-! bit sets -/
theorem bitsK_asc (s k : Nat) : Asc 0 k (bitsK s k) := by
  induction k with
  | zero => exact Asc.nil _ _
  | succ k ih =>
    obtain ⟨h1, h2⟩ := ih
    rw [bitsK]
    split
    · refine ⟨List.pairwise_append.2 ⟨h1, by simp, fun a ha b hb => ?_⟩, fun x hx => ?_⟩
      · simp at hb; subst hb; have := h2 a ha; omega
      · rcases List.mem_append.1 hx with hx | hx
        · have := h2 x hx; omega
        · simp at hx; subst hx; omega
    · exact ⟨h1, fun x hx => by have := h2 x hx; omega⟩
theorem bitsK_congr (s t k : Nat) (h : ∀ j, j < k → s.testBit j = t.testBit j) : bitsK s k = bitsK t k := by
  induction k with
  | zero => rfl
  | succ k ih => rw [bitsK, bitsK, ih fun j hj => h j (by omega), h k (by omega)]
theorem bitsK_mod (s k : Nat) : bitsK (s % 2 ^ k) k = bitsK s k := bitsK_congr _ _ _ fun j hj => by rw [Nat.testBit_mod_two_pow]; simp [hj]
theorem asc_bits (k : Nat) : ∀ l, Asc 0 k l → ∃ s, s < 2 ^ k ∧ bitsK s k = l := by
  induction k with
  | zero =>
    rintro l ⟨_, hb⟩
    cases l with
    | nil => exact ⟨0, by simp, rfl⟩
    | cons x l => have := hb x (by simp); omega
  | succ k ih =>
    rintro l ⟨hp, hb⟩
    by_cases hk : (k : Int) ∈ l
    · obtain ⟨a, b, rfl⟩ := List.append_of_mem hk
      obtain ⟨pa, pb, pab⟩ := List.pairwise_append.1 hp
      have hbn : b = [] := by
        cases b with
        | nil => rfl
        | cons y b =>
          have h1 := (List.pairwise_cons.1 pb).1 y (by simp)
          have h2 := hb y (by simp)
          omega
      subst hbn
      obtain ⟨s, hs, e⟩ := ih a ⟨pa, fun x hx => ⟨(hb x (by simp [hx])).1, pab x hx k (by simp)⟩⟩
      refine ⟨2 ^ k + s, by rw [Nat.pow_succ]; omega, ?_⟩
      rw [bitsK, if_pos (by rw [Nat.testBit_two_pow_add_eq, Nat.testBit_lt_two_pow hs]; rfl), bitsK_congr (2 ^ k + s) s k fun j hj => Nat.testBit_two_pow_add_gt hj s, e]
    · obtain ⟨s, hs, e⟩ := ih l ⟨hp, fun x hx => ⟨(hb x hx).1, by
        have := (hb x hx).2
        have hne : x ≠ k := fun e => hk (e ▸ hx)
        omega⟩⟩
      refine ⟨s, by rw [Nat.pow_succ]; omega, ?_⟩
      rw [bitsK, if_neg (by rw [Nat.testBit_lt_two_pow hs]; decide), e]

/-! costs -/
theorem inB_iff (l : List Int) (x : Int) : inB l x = true ↔ x ∈ l := by
  unfold inB
  rw [List.any_eq_true]
  constructor
  · rintro ⟨y, hy, e⟩; simp at e; exact e ▸ hy
  · intro h; exact ⟨x, h, by simp⟩
theorem dsum_pre (c l t : List Int) (k : Nat) (hk : k ≤ l.length) : dsum c (l ++ t) k = dsum c l k := by
  induction k with
  | zero => rfl
  | succ k ih =>
    rw [dsum, dsum, ih (by omega), List.take_append_of_le_length (by omega)]
    have : (l ++ t).getD k 0 = l.getD k 0 := by simp [List.getD, List.getElem?_append_left (show k < l.length by omega)]
    rw [this]
theorem dsum_snoc (c l : List Int) (x : Int) : dsum c (l ++ [x]) (l.length + 1) = dsum c l l.length + if inB l x then 0 else c.getD x.toNat 0 := by
  have h1 : (l ++ [x]).getD l.length 0 = x := by simp [List.getD]
  have h2 : (l ++ [x]).take l.length = l := by simp
  rw [dsum, dsum_pre _ _ _ _ (Nat.le_refl _), h1, h2]
theorem ok_of_asc {c l : List Int} (hbad : c.any badB = false) (h : Asc 0 c.length l) : l.all (okAt c) = true := by
  rw [List.all_eq_true]
  intro x hx
  obtain ⟨h0, h1⟩ := h.2 x hx
  have hn : x.toNat < c.length := by omega
  have hg : c.getD x.toNat 0 = c[x.toNat] := by simp [List.getD, List.getElem?_eq_getElem hn]
  have hb := badB_out hbad x.toNat c[x.toNat] (List.getElem?_eq_getElem hn)
  exact okAt_yes (by omega) h1 (by rw [hg]; exact hb.1) (by rw [hg]; exact hb.2)
theorem costB_asc {c l : List Int} (hbad : c.any badB = false) (h : Asc 0 c.length l) : costB c l = some (dsum c l l.length) := by
  unfold costB; rw [if_pos (ok_of_asc hbad h)]
theorem costN_bits {c : List Int} (hbad : c.any badB = false) (s k : Nat) (hk : k ≤ c.length) : costN c (bitsK s k) = sumK c s k := by
  have e : ∀ k, dsum c (bitsK s k) (bitsK s k).length = sumK c s k := by
    intro k
    induction k with
    | zero => rfl
    | succ k ih =>
      rw [bitsK, sumK]
      split
      · rw [List.length_append, List.length_singleton, dsum_snoc, ih]
        have : inB (bitsK s k) k = false := by
          cases hb : inB (bitsK s k) k with
          | false => rfl
          | true => have := ((bitsK_asc s k).2 _ ((inB_iff _ _).1 hb)).2; omega
        rw [this]; simp
      · exact ih
  have ha := bitsK_asc s k
  unfold costN
  rw [costB_asc hbad ⟨ha.1, fun x hx => by have := ha.2 x hx; omega⟩, e]
  rfl

/-! what a search finds -/
/-- r is the cheapest, and of these the first, among the lists of L that F lets. -/
def Least (cost : List Int → Int) (F : List Int → Bool) (L : List Int → Prop) : Option (List Int × Int) → Prop
  | none => ∀ l, L l → F l = false
  | some (b, q) => L b ∧ F b = true ∧ q = cost b ∧ ∀ l, L l → F l = true → q < cost l ∨ (q = cost l ∧ (b = l ∨ lessB b l = true))
theorem Least.unique {cost : List Int → Int} {F : List Int → Bool} {L : List Int → Prop} {r r' : Option (List Int × Int)} (h : Least cost F L r) (h' : Least cost F L r') : r = r' := by
  match r, r', h, h' with
  | none, none, _, _ => rfl
  | none, some (b, q), h, h' => have := h b h'.1; rw [h'.2.1] at this; cases this
  | some (b, q), none, h, h' => have := h' b h.1; rw [h.2.1] at this; cases this
  | some (b, q), some (b', q'), h, h' =>
    obtain ⟨h1, h2, h3, h4⟩ := h
    obtain ⟨k1, k2, k3, k4⟩ := h'
    have e1 := h4 b' k1 k2
    have e2 := k4 b h1 h2
    rw [← k3] at e1
    rw [← h3] at e2
    have hq : q = q' := by omega
    subst hq
    rcases e1 with e1 | ⟨_, e1⟩
    · omega
    rcases e2 with e2 | ⟨_, e2⟩
    · omega
    rcases e1 with rfl | e1
    · rfl
    rcases e2 with rfl | e2
    · rfl
    rw [lessB_asymm e1] at e2
    cases e2
theorem Least.congr {cost : List Int → Int} {F : List Int → Bool} {L L' : List Int → Prop} {r : Option (List Int × Int)} (h : Least cost F L r) (e : ∀ l, L l ↔ L' l) : Least cost F L' r := by
  match r, h with
  | none, h => exact fun l hl => h l ((e l).2 hl)
  | some (b, q), h => exact ⟨(e b).1 h.1, h.2.1, h.2.2.1, fun l hl => h.2.2.2 l ((e l).2 hl)⟩

theorem rev_ind {α : Type} {p : List α → Prop} (h0 : p []) (h1 : ∀ l x, p l → p (l ++ [x])) (l : List α) : p l := by
  have h : ∀ r : List α, p r.reverse := by
    intro r
    induction r with
    | nil => exact h0
    | cons x r ih => rw [List.reverse_cons]; exact h1 _ _ ih
  have := h l.reverse
  rwa [List.reverse_reverse] at this

theorem pick_least (data : Int) (c : List Int) (m : List (List Bool)) (pre : List (List Int)) (hs : pre.Pairwise (fun a b => lessB a b = true)) :
    Least (costN c) (fun l => suffB data (fun r => inB l r) m) (· ∈ pre) (accOf data c m pre) := by
  revert hs
  refine rev_ind (p := fun pre => pre.Pairwise (fun a b => lessB a b = true) → Least (costN c) (fun l => suffB data (fun r => inB l r) m) (· ∈ pre) (accOf data c m pre)) (fun _ l hl => by cases hl) (fun pre x ih hs => ?_) pre
  · obtain ⟨h1, _, h3⟩ := List.pairwise_append.1 hs
    have ih := ih h1
    rw [accOf_snoc]
    cases hacc : accOf data c m pre with
    | none =>
      rw [hacc] at ih
      unfold pick
      cases hF : suffB data (fun r => inB x r) m with
      | false =>
        simp only [Bool.and_false, if_false, Bool.false_eq_true]
        intro l hl
        rcases List.mem_append.1 hl with hl | hl
        · exact ih l hl
        · simp at hl; subst hl; exact hF
      | true =>
        simp only [better, Bool.and_true, if_true]
        refine ⟨by simp, hF, rfl, fun l hl hFl => ?_⟩
        rcases List.mem_append.1 hl with hl | hl
        · have := ih l hl; rw [hFl] at this; cases this
        · simp at hl; subst hl; exact .inr ⟨rfl, .inl rfl⟩
    | some bq =>
      obtain ⟨b, q⟩ := bq
      rw [hacc] at ih
      obtain ⟨i1, i2, i3, i4⟩ := ih
      unfold pick
      by_cases hc : (better (costN c x) (some (b, q)) && suffB data (fun r => inB x r) m) = true
      · rw [if_pos hc]
        simp only [better, Bool.and_eq_true, decide_eq_true_eq] at hc
        refine ⟨by simp, hc.2, rfl, fun l hl hFl => ?_⟩
        rcases List.mem_append.1 hl with hl | hl
        · rcases i4 l hl hFl with h | ⟨h, _⟩
          · left; omega
          · left; omega
        · simp at hl; subst hl; exact .inr ⟨rfl, .inl rfl⟩
      · rw [if_neg hc]
        simp only [better, Bool.and_eq_true, decide_eq_true_eq] at hc
        refine ⟨by simp [i1], i2, i3, fun l hl hFl => ?_⟩
        rcases List.mem_append.1 hl with hl | hl
        · exact i4 l hl hFl
        · simp at hl; subst hl
          have hge : ¬ costN c l < q := fun h => hc ⟨h, hFl⟩
          by_cases e : q = costN c l
          · exact .inr ⟨e, .inr (h3 b i1 l (by simp))⟩
          · left; omega

theorem xacc_least (data : Int) (c : List Int) (m : List (List Bool)) (hbad : c.any badB = false) (S : Nat) :
    Least (costN c) (fun l => suffB data (fun r => inB l r) m) (fun l => ∃ s, s < S ∧ bitsK s c.length = l) (xacc data c m S) := by
  induction S with
  | zero => rintro l ⟨s, hs, _⟩; omega
  | succ S ih =>
    have hcost := costN_bits hbad S c.length (Nat.le_refl _)
    rw [xacc]
    unfold xpick
    rw [← hcost]
    generalize hx : bitsK S c.length = x at *
    cases hacc : xacc data c m S with
    | none =>
      rw [hacc] at ih
      cases hF : suffB data (fun r => inB x r) m with
      | false =>
        simp only [Bool.and_false, if_false, Bool.false_eq_true]
        rintro l ⟨s, hs, rfl⟩
        rcases Nat.lt_succ_iff_lt_or_eq.1 hs with h | rfl
        · exact ih _ ⟨s, h, rfl⟩
        · rw [hx]; exact hF
      | true =>
        simp only [xbetter, Bool.and_true, if_true]
        refine ⟨⟨S, by omega, hx⟩, hF, rfl, ?_⟩
        rintro l ⟨s, hs, rfl⟩ hFl
        rcases Nat.lt_succ_iff_lt_or_eq.1 hs with h | rfl
        · have := ih _ ⟨s, h, rfl⟩; rw [hFl] at this; cases this
        · rw [hx]; exact .inr ⟨rfl, .inl rfl⟩
    | some bq =>
      obtain ⟨b, q⟩ := bq
      rw [hacc] at ih
      obtain ⟨⟨s0, hs0, i1⟩, i2, i3, i4⟩ := ih
      by_cases hc : (xbetter (costN c x) x (some (b, q)) && suffB data (fun r => inB x r) m) = true
      · rw [if_pos hc]
        simp only [xbetter, Bool.and_eq_true, Bool.or_eq_true, decide_eq_true_eq] at hc
        refine ⟨⟨S, by omega, hx⟩, hc.2, rfl, ?_⟩
        rintro l ⟨s, hs, rfl⟩ hFl
        rcases Nat.lt_succ_iff_lt_or_eq.1 hs with h | rfl
        · rcases i4 _ ⟨s, h, rfl⟩ hFl with h | ⟨h, h'⟩
          · left; omega
          · rcases hc.1 with hc1 | ⟨hc1, hc2⟩
            · left; omega
            · right
              refine ⟨by omega, .inr ?_⟩
              rcases h' with h' | h'
              · rw [← h']; exact hc2
              · exact lessB_trans hc2 h'
        · rw [hx]; exact .inr ⟨rfl, .inl rfl⟩
      · rw [if_neg hc]
        simp only [xbetter, Bool.and_eq_true, Bool.or_eq_true, decide_eq_true_eq] at hc
        refine ⟨⟨s0, by omega, i1⟩, i2, i3, ?_⟩
        rintro l ⟨s, hs, rfl⟩ hFl
        rcases Nat.lt_succ_iff_lt_or_eq.1 hs with h | rfl
        · exact i4 _ ⟨s, h, rfl⟩ hFl
        · rw [hx] at hFl ⊢
          have h1 : ¬ costN c x < q := fun h => hc ⟨.inl h, hFl⟩
          by_cases e : q = costN c x
          · right
            refine ⟨e, ?_⟩
            rcases lessB_tri b x with h | h | h
            · exact .inl h
            · exact .inr h
            · exact absurd ⟨.inr ⟨e.symm, h⟩, hFl⟩ hc
          · left; omega

/-- Both searches look at the same lists: so they find the same. -/
theorem plan_least (data : Int) (c : List Int) (m : List (List Bool)) :
    Least (costN c) (fun l => suffB data (fun r => inB l r) m) (Asc 0 c.length) (accOf data c m (allSets c.length)) :=
  (pick_least data c m _ (rest_sorted c.length c.length (Nat.le_refl _) [])).congr fun l => mem_allSets c.length l
theorem xplan_eq (data : Int) (c : List Int) (m : List (List Bool)) : xplanB data c m = planB data c m := by
  unfold xplanB planB
  by_cases h1 : data < 1 ∨ 8 < data
  · rw [if_pos h1, if_pos h1]
  rw [if_neg h1, if_neg h1]
  by_cases h2 : 15 < c.length
  · rw [if_pos h2, if_pos h2]
  rw [if_neg h2, if_neg h2]
  cases h3 : c.any badB with
  | true => rfl
  | false =>
    by_cases h4 : m.length ≠ c.length ∨ evenB m = false
    · rw [if_pos h4, if_pos h4]
    · rw [if_neg (show ¬ (false = true) by decide), if_neg h4, if_neg (show ¬ (false = true) by decide), if_neg h4]
      have hx := (xacc_least data c m h3 (2 ^ c.length)).congr (L' := Asc 0 c.length) fun l => ⟨fun ⟨s, _, e⟩ => e ▸ bitsK_asc s c.length, asc_bits c.length l⟩
      exact congrArg planEnd (hx.unique (plan_least data c m))

end Go.Proofs.Ytgclbnfpipepfaa
