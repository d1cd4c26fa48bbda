/-
  PLAIN: a received word whose touched cells lie eight apart is decoded; what lies in a window of 90 cells lies eight apart behind deinterleaving.
-/
import Derived.Test.YtjennpcadjdnlaaGreatDoorEncA
namespace Go.Proofs.YtjennpcadjdnlaaGreatDoor

theorem rec_of {T : Nat → Bool} : ∀ (r w : List Nat) (i : Nat), r.length = w.length → (∀ j, j < w.length → T (i + j) = false → cf r j = cf w j) → Rec T i r w
  | [], [], _, _, _ => trivial
  | [], _ :: _, _, h, _ => by cases h
  | _ :: _, [], _, h, _ => by cases h
  | x :: r, o :: w, i, h, hp => by
    refine ⟨fun ht => ?_, rec_of r w (i + 1) (by simpa using h) fun j hj ht => ?_⟩
    · exact hp 0 (by simp) ht
    · exact hp (j + 1) (by simpa using hj) (by rw [← ht]; congr 1; omega)
/-- Where two words part. -/
def parts (r w : List Nat) (j : Nat) : Bool := cf r j != cf w j
theorem rec_parts {r w : List Nat} (h : r.length = w.length) : Rec (parts r w) 0 r w :=
  rec_of r w 0 h fun j _ ht => by
    unfold parts at ht
    rw [Nat.zero_add] at ht
    exact bne_eq_false_iff_eq.1 ht
theorem wrongs_self : ∀ w : List Nat, wrongs w w = 0
  | [] => rfl
  | x :: w => by
    unfold wrongs
    rw [wrongs_self w]
    unfold msm
    simp
theorem cst_two (u : List Nat) (h : Bits u) : cst 0 (u ++ [0, 0]) = 0 := by
  rw [cst_append]
  exact cst_tail (cst_lt u (by omega) h)
theorem bits_two {u : List Nat} (h : Bits u) : Bits (u ++ [0, 0]) := fun x hx => by
  rcases List.mem_append.1 hx with hx | hx
  · exact h x hx
  · simp at hx; omega
theorem apart_none : Apart fun _ => false := fun _ _ _ h _ => by cases h
/-- The touched cells lie eight apart: the bits are found, at the cost of the wrong cells. -/
theorem inner_path {u : List Nat} (hu : Bits u) (hul : u.length = 416) {r : List Nat} (hr : r.length = 836) (hA : Apart (parts r (convE u))) :
    (∀ v, extP r = some v → v = u ∧ wrongs r (convE u) = 0) ∧ vdec 416 r 0 = u ∧ vst r 0 = wrongs r (convE u) := by
  have hce : convE u = cenc 0 (u ++ [0, 0]) := rfl
  have hcl : (convE u).length = 836 := by rw [hce, cenc_len, List.length_append, hul]; rfl
  have hR := rec_parts (r := r) (w := convE u) (by rw [hr, hcl])
  rw [hce] at hA hR ⊢
  obtain ⟨h1, _, h3⟩ := vst_path _ hA (u ++ [0, 0]) r 0 0 (by omega) (bits_two hu) (cst_two u hu) hR
  have h4 := h3 416 (by rw [List.length_append, hul]; decide)
  rw [← hul, List.take_left, hul] at h4
  refine ⟨fun v hv => ?_, h4, h1⟩
  unfold extP at hv
  split at hv
  · cases hv
  · split at hv
    · cases hv
    · next x hx =>
      split at hv
      · next hz =>
        cases hv
        obtain ⟨b1, b2⟩ := cext_some r 0 hx
        have hxl := cenc_len x 0
        rw [b2, hr] at hxl
        have hxe : x = x.take (x.length - 2) ++ [0, 0] := by
          conv => lhs; rw [← List.take_append_drop (x.length - 2) x, hz]
        have hb : Bits (x.take (x.length - 2)) := fun c hc => b1 c (List.mem_of_mem_take hc)
        have hc0 : cst 0 x = 0 := by rw [hxe]; exact cst_two _ hb
        have hR2 : Rec (fun _ => false) 0 r (cenc 0 x) := rec_of r _ 0 (by rw [b2]) fun j _ _ => by rw [b2]
        obtain ⟨g1, _, g3⟩ := vst_path _ apart_none x r 0 0 (by omega) b1 hc0 hR2
        have g4 := g3 416 (by omega)
        rw [h4] at g4
        rw [b2, wrongs_self] at g1
        rw [← h1, g1, g4, show x.length - 2 = 416 by omega]
        exact ⟨rfl, rfl⟩
      · cases hv

/-! a window -/
theorem ilv_apart {i j : Nat} (h : i < j) (_hj : j < 836) (h1 : ilv i < ilv j + 90) (h2 : ilv j < ilv i + 90) : i + 8 ≤ j := by
  unfold ilv at h1 h2
  have hm : ∀ k, min k 4 = k ∧ k ≤ 4 ∨ min k 4 = 4 ∧ 4 ≤ k := fun k => by
    rcases Nat.le_total k 4 with h | h
    · exact .inl ⟨Nat.min_eq_left h, h⟩
    · exact .inr ⟨Nat.min_eq_right h, h⟩
  have hi := hm (i % 8)
  have hj' := hm (j % 8)
  generalize min (i % 8) 4 = a at *
  generalize min (j % 8) 4 = b at *
  clear hm
  rcases (by omega : i % 8 = j % 8 ∨ i % 8 + 1 ≤ j % 8 ∨ j % 8 + 1 ≤ i % 8) with h3 | h3 | h3 <;> omega
theorem dein_cf (l : List Nat) {i : Nat} (h : i < 836) : cf (deinL l) i = cf l (ilv i) := by unfold deinL; rw [cf_map, if_pos h]
theorem inter_cf (l : List Nat) {i : Nat} (h : i < 836) : cf (interL l) i = cf l (uil i) := by unfold interL; rw [cf_map, if_pos h]
theorem apart_window {R w : List Nat} (f : Nat) (hw : w.length = 836) (h : ∀ k, k < 836 → (k < f ∨ f + 90 ≤ k) → cf R k = cf (interL w) k) : Apart (parts (deinL R) w) := by
  have key : ∀ i, parts (deinL R) w i = true → i < 836 ∧ f ≤ ilv i ∧ ilv i < f + 90 := by
    intro i hi
    unfold parts at hi
    rw [bne_iff_ne] at hi
    by_cases hlt : i < 836
    · refine ⟨hlt, ?_⟩
      by_cases hin : ilv i < f ∨ f + 90 ≤ ilv i
      · refine (hi ?_).elim
        rw [dein_cf R hlt, h (ilv i) (ilv_lt hlt) hin, inter_cf w (ilv_lt hlt), uil_ilv hlt]
      · omega
    · refine (hi ?_).elim
      rw [cf_big (by rw [deinL_len]; omega), cf_big (by omega)]
  intro i j hij hi hj
  have h1 := key i hi
  have h2 := key j hj
  exact ilv_apart hij h2.1 (by omega) (by omega)
theorem apart_mod {r w : List Nat} (a : Nat) (h : ∀ i, cf r i ≠ cf w i → i % 8 = a) : Apart (parts r w) := by
  intro i j hij hi hj
  unfold parts at hi hj
  rw [bne_iff_ne] at hi hj
  have h1 := h i hi
  have h2 := h j hj
  omega

/-! counting -/
theorem wrongs_set : ∀ (r w : List Nat) (i x : Nat), r.length = w.length → i < r.length → cf r i = cf w i → x ≠ 63 → x ≠ cf w i → wrongs (r.set i x) w = wrongs r w + 1
  | [], _, i, _, _, h, _, _, _ => by cases h
  | _ :: _, [], _, _, h, _, _, _, _ => by cases h
  | y :: r, o :: w, 0, x, _, _, he, h63, hne => by
    have he : y = o := he
    have hne : x ≠ o := hne
    subst he
    show msm x y + wrongs r w = msm y y + wrongs r w + 1
    have h1 : msm x y = 1 := by unfold msm; rw [if_neg (by omega)]
    have h2 : msm y y = 0 := by unfold msm; rw [if_pos (.inr rfl)]
    rw [h1, h2]
    omega
  | y :: r, o :: w, i + 1, x, hl, hi, he, h63, hne => by
    show msm y o + wrongs (r.set i x) w = msm y o + wrongs r w + 1
    rw [wrongs_set r w i x (by simpa using hl) (by simpa using hi) he h63 hne]
    omega
theorem wrongs_open : ∀ (r w : List Nat), r.length = w.length → (∀ i, i < r.length → cf r i = 63 ∨ cf r i = cf w i) → wrongs r w = 0
  | [], [], _, _ => rfl
  | [], _ :: _, h, _ => by cases h
  | _ :: _, [], h, _ => by cases h
  | y :: r, o :: w, hl, h => by
    have h1 := wrongs_open r w (by simpa using hl) fun i hi => h (i + 1) (by simpa using hi)
    have h2 : msm y o = 0 := by
      unfold msm
      exact if_pos (h 0 (by simp))
    unfold wrongs
    rw [h1, h2]
    rfl
theorem uil_perm : (((List.range 836).map uil).isPerm (List.range 836)) = true := by decide +kernel
theorem range_map_cf {l : List Nat} {n : Nat} (h : l.length = n) : (List.range n).map (cf l) = l := by
  refine List.ext_getElem? fun i => ?_
  rw [List.getElem?_map]
  by_cases hi : i < n
  · rw [List.getElem?_range hi, Option.map_some, List.getElem?_eq_getElem (by omega), cf_get (List.getElem?_eq_getElem (by omega))]
  · rw [List.getElem?_eq_none (by simpa using hi), List.getElem?_eq_none (by omega)]
    rfl
theorem inter_perm {l : List Nat} (h : l.length = 836) : (interL l).Perm l := by
  have h1 := (List.isPerm_iff.1 uil_perm).map (cf l)
  rw [range_map_cf h, List.map_map] at h1
  exact h1
theorem inter_count {l : List Nat} (h : l.length = 836) (x : Nat) : (interL l).count x = l.count x := (inter_perm h).count_eq x

end Go.Proofs.YtjennpcadjdnlaaGreatDoor
