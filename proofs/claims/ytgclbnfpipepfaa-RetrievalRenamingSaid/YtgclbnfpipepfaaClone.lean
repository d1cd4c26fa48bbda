/-
  WALK: slices.Clone at []int.
-/
import Derived.Test.YtgclbnfpipepfaaRunC
import Derived.Lib.SliceRun
namespace Go.Proofs.Ytgclbnfpipepfaa
open Go.RowKit

theorem Try.infoI : (Try.prog.info? 3).map (fun i => (i.zero, i.size, i.bytes)) = some (some (.int .i64 0), 1, 8) := by kernel_rfl

theorem ints_cells {w : World} {ad : Addr} {n c : Nat} {xs : List Int} (h : IntsAt w (.slice (some ad) n c) xs) : ∀ (j : Nat) (u : Value), (xs.map intV)[j]? = some u → w.cell? (ad.add j) = some u := by
  obtain ⟨A, d, e, h1, h2, h3⟩ := h
  intro j u hu
  rw [List.getElem?_map] at hu
  obtain ⟨x, hx, rfl⟩ := Option.map_eq_some_iff.1 hu
  obtain ⟨b, o, u, hA, hc, rfl⟩ := h3 j x hx
  cases e
  cases hA
  rw [Addr.add_lit]
  exact hc
theorem IntsAt.of_own {w : World} {base n : Nat} {v : Value} {xs : List Int} (h : w.ownsRow base 3 1 v n (xs.map intV)) : IntsAt w v xs := by
  obtain ⟨hl, h⟩ := h
  have hn : xs.length = n := by simpa using hl
  rcases h with ⟨rfl, h0⟩ | ⟨g, cap, cur, rfl, hb, hh, hnc, hm, hsz, htk⟩
  · have : xs = [] := List.eq_nil_of_length_eq_zero (by omega)
    subst this
    exact ⟨none, 0, rfl, Nat.le_refl _, by omega, fun i x hx => by cases hx⟩
  · refine ⟨some ⟨g, 0, none⟩, cap, by rw [hn], by omega, hm, fun i x hx => ⟨g, 0, intV x, rfl, ?_, rfl⟩⟩
    have hi := (List.getElem?_eq_some_iff.1 hx).1
    have h2 : (xs.map intV)[i]? = some (intV x) := by rw [List.getElem?_map, hx]; rfl
    rw [← htk, List.getElem?_take] at h2
    split at h2
    · simp only [World.cell?, hh, Nat.zero_add]
      simpa using h2
    · cases h2

theorem own_empty (w : World) (t : TypeId) (size : Nat) : (w.alloc (.cells #[] t)).ownsRow w.heap.size t size (.slice (some ⟨w.heap.size, 0, none⟩) 0 0) 0 [] :=
  ⟨by simp, .inr ⟨w.heap.size, 0, #[], rfl, Nat.le_refl _, by show (w.heap.push _)[w.heap.size]? = _; simp, Nat.le_refl _, Nat.zero_le _, by simp, by simp⟩⟩

set_option maxHeartbeats 400000 in
theorem clone_any (w : World) (v : Value) (xs : List Int) (hx : IntsAt w v xs) (hsz : xs.length ≤ 1000000) :
    Calls Try.prog 24 #[v] w fun e w' => ∃ v', e = .returned v' ∧ w'.ownsRow w.heap.size 3 1 v' xs.length (xs.map intV) ∧ Below w.heap.size w w' := by
  have hx0 := hx
  obtain ⟨A, c, rfl, h1, h2, h3⟩ := hx
  cases A with
  | none =>
    have hn : xs = [] := by
      cases xs with
      | nil => rfl
      | cons x r =>
        obtain ⟨b, o, u, hA, _⟩ := h3 0 x rfl
        cases hA
    subst hn
    have heq := Lib.run_eql_slice_nil (P := Try.prog) w 22 3 none 0 c 0 0 Try.underlying22
    have Hx0 := Lib.hid hx0
    clear h3 hx0
    go_enter Try.func24, Try.ntmps24
    go_wp2
    go_ret
    exact ⟨_, rfl, World.ownsRow_nil _ _ _ _, Below.refl _ _⟩
  | some ad =>
    have heq := Lib.run_eql_slice_nil (P := Try.prog) w 22 3 (some ad) xs.length c 0 0 Try.underlying22
    have Hx0 := Lib.hid hx0
    have H3 := Lib.hid h3
    clear h3 hx0
    obtain ⟨i0, hi, hz0, hz1, hz2⟩ := info_parts Try.infoI
    go_enter Try.func24, Try.ntmps24
    have hown := own_empty w 3 1
    have hcells : ∀ (j : Nat) (u : Value), (xs.map intV)[j]? = some u → (w.alloc (.cells #[] 3)).cell? (ad.add j) = some u :=
      ints_cells (Hx0.out.alloc _)
    have Hcells := Lib.hid hcells
    clear hcells
    go_wp2_with (at_builtin; refine wpList_append_own _ rfl _ _ 22 rfl w.heap.size 3 i0 (.int .i64 0) 1 8 Try.underlying22 hi hz0 hz1 hz2 rfl (by decide) _ 0 [] rfl hown ad xs.length c (xs.map intV) rfl (by simp) Hcells.out (ints_oneCell _ _) (by unfold maxLen; omega) (by omega) (by simp) ?_; intro v' w1 hown1 hgrow1 _)
    go_ret
    simp only [Nat.zero_add, List.nil_append] at hown1
    exact ⟨v', rfl, hown1, ((Below.refl _ _).alloc (Nat.le_refl _) _).grown hgrow1 (by simp) (fun j hj => by cases hj; exact Nat.le_refl _)⟩

end Go.Proofs.Ytgclbnfpipepfaa
