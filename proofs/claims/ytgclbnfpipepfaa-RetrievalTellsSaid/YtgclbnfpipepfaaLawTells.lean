/-
  RetrievalTells holds for every input: the program's Suffices and Cost return what the reference implementation returns. No condition.
-/
import Derived.Test.YtgclbnfpipepfaaOpen
namespace Go.Proofs.Ytgclbnfpipepfaa.lawTells
open Go.ChangeShapes Go.WideShapes Go.ChangeAt Go.RowKit

set_option maxHeartbeats 1000000 in
theorem walk (w : World) (data : Int) (_wf : (Lit.int .i64 data).wf = true) (vl : Value) (l : List Int) (hl : IntsAt w vl l) (vc : Value) (c : List Int) (hc : IntsAt w vc c) (vh : Value) (m : List (List Bool)) (hm : RowsAt w vh m) :
    Calls Try.prog 4 #[.int .i64 data, vl, vc, vh] w fun e w' => e = .returned (.bool true) ∧ Below w.heap.size w w' := by
  have Hal := Lib.hid (alive_any w)
  have Hc := Lib.hid hc
  have Hm := Lib.hid hm
  have Hl := Lib.hid hl
  obtain ⟨A, d, rfl, h1, h2, _⟩ := hc
  clear hm
  obtain ⟨B, d2, rfl, k1, k2⟩ : ∃ B d2, vh = .slice B m.length d2 ∧ m.length ≤ d2 ∧ d2 ≤ 9223372036854775807 := by
    obtain ⟨B, d2, e, k1, k2, _⟩ := Hm.out
    exact ⟨B, d2, e, k1, k2⟩
  obtain ⟨L, d3, rfl, l1, l2, _⟩ := hl
  go_enter Try.func4, Try.ntmps4
  go_wp2_with fail
  refine Hal.out.mono ?_
  rintro e w1 ⟨rfl, hb1⟩
  have Hb1 := Lib.hid hb1
  have hg := great_any w1 A c.length d (.slice B m.length d2) m (by omega) (RowsAt.below Hm.out hb1)
  clear hb1
  by_cases hgr : great c.length m = 1
  · rw [hgr] at hg
    have Hg := Lib.hid hg
    clear hg hgr
    go_wp2_with fail
    refine Hg.out.mono ?_
    rintro e w2 ⟨rfl, rfl⟩
    go_wp2
    go_ret
    exact ⟨rfl, Hb1.out⟩
  · have hgf : (great c.length m == 1) = false := by simpa using hgr
    have hml : m.length ≤ 1000000 := by
      unfold great at hgr
      split at hgr
      · exact absurd rfl hgr
      · omega
    have Hg := Lib.hid hg
    clear hg hgr
    by_cases hl40 : 40 < l.length
    · go_wp2_with fail
      refine Hg.out.mono ?_
      rintro e w2 ⟨rfl, rfl⟩
      go_wp2
      go_ret
      exact ⟨rfl, Hb1.out⟩
    · go_wp2_with fail
      refine Hg.out.mono ?_
      rintro e w2 ⟨rfl, rfl⟩
      obtain ⟨e2, hcv⟩ := costV_pair c l
      have hp := rcost_any w1 (.slice A c.length d) (.slice L l.length d3) c l (IntsAt.below Hc.out Hb1.out) (IntsAt.below Hl.out Hb1.out) (by omega)
      rw [hcv] at hp
      have Hp := Lib.hid hp
      have Hcv := Lib.hid hcv
      clear hp hcv
      go_wp2_with fail
      refine Hp.out.mono ?_
      rintro e w2 ⟨rfl, hb2⟩
      have hB2 := Hb1.out.trans (hb2.mono Hb1.out.size)
      have hx := xcost_any w2 (.slice A c.length d) (.slice L l.length d3) c l (IntsAt.below Hc.out hB2) (IntsAt.below Hl.out hB2) (by omega)
      rw [Hcv.out] at hx
      have Hx := Lib.hid hx
      have HB2 := Lib.hid hB2
      have hcc : (costN c l == costN c l) = true := by simp
      have hee : (e2 == e2) = true := by simp
      have hs1 := rsuff_any w2 data (.slice L l.length d3) (.slice B m.length d2) l m (IntsAt.below Hl.out hB2) (RowsAt.below Hm.out hB2) hml (by omega)
      have Hs1 := Lib.hid hs1
      clear hx hb2 hB2 hs1
      go_wp2_with fail
      refine Hx.out.mono ?_
      rintro e w3 ⟨rfl, rfl⟩
      go_wp2_with fail
      refine Hs1.out.mono ?_
      rintro e w3 ⟨rfl, hb3⟩
      have hB3 := HB2.out.trans (hb3.mono HB2.out.size)
      have hs2 := suff_any w3 data (.slice L l.length d3) (.slice B m.length d2) l m (IntsAt.below Hl.out hB3) (RowsAt.below Hm.out hB3) hml
      have HB3 := Lib.hid hB3
      generalize suffB data (fun r => inB l r) m = b at *
      have Hs2 := Lib.hid hs2
      clear hb3 hB3 hs2
      go_wp2_with fail
      refine Hs2.out.mono ?_
      rintro e w4 ⟨rfl, n, rfl⟩
      cases b
      · go_wp2
        go_ret
        exact ⟨rfl, below_drewN HB3.out _⟩
      · go_wp2
        go_ret
        exact ⟨rfl, below_drewN HB3.out _⟩

/-! the row's step -/
set_option maxRecDepth 100000 in
theorem lifted (os : Os) (started : os.Started) (H : Type) (enc : TypeId × Value → H) :
    ReturnsInHanded {} Try.checked os 4 .any (Rows.retrievalTellsSpec.pre6 enc Try.prog Try.f4 Rows.retrievalTellsRow.domain false) (Rows.retrievalTellsSpec.post enc Try.prog Try.f4 false true false false) := by
  refine returnsInHanded_of_change (C := Try.checked) ownN started (by kernel_rfl) Try.func4
    (ChangeSpec.witness6 (enc := enc) (C := Try.checked) false ⟨#[], #[.int .i64 0, .slice none 0 0, .slice none 0 0, .slice none 0 0], []⟩ 8 (by kernel_rfl) (by kernel_rfl) (by kernel_rfl) (by kernel_rfl)) ?_
  intro W base args ds gs before hval0 hW _ _
  have hval : ∀ (j : Nat) t v, Try.f4.params[j]? = some t → args[j]? = some v → Value.okWide Try.prog W .any base t v := hval0
  have hW' := hW
  obtain ⟨p, q, hA0, hV, rfl, _, _⟩ := hW
  have hA : DataW.TrodAll enc Try.prog W 0 (fun _ => true) true Try.f4.params.toList args.toList ds p := hA0
  rw [Try.params4] at hA hval
  obtain ⟨v0, vs0, d0, ds0, p0, q0, hargs, rfl, rfl, h0, r0⟩ := trodAll_cons hA
  obtain ⟨v1, vs1, d1, ds1, p1, q1, rfl, rfl, rfl, h1, r1⟩ := trodAll_cons r0
  obtain ⟨v2, vs2, d2, ds2, p2, q2, rfl, rfl, rfl, h2, r2⟩ := trodAll_cons r1
  obtain ⟨v3, vs3, d3, ds3, p3, q3, rfl, rfl, rfl, h3, r3⟩ := trodAll_cons r2
  obtain ⟨rfl, rfl, rfl⟩ := trodAll_nil r3
  obtain rfl : args = #[v0, v1, v2, v3] := by cases args; simp_all
  obtain ⟨rfl, rfl⟩ := trodVars_none hV
  obtain ⟨a0, rfl, rfl, rfl, w0⟩ := open_int Try.underlying3 (hval 0 3 v0 rfl rfl) h0
  have k1 := h1
  have lt1 : ∀ x ∈ p1, x.block < W.heap.size := by obtain ⟨m, hm⟩ := k1; exact DataW.trod_lt m _ _ _ hm
  obtain ⟨x1, w1⟩ := open_intsAt (hval 1 22 v1 rfl rfl) h1
  have k2 := h2
  have lt2 : ∀ x ∈ p2, x.block < W.heap.size := by obtain ⟨m, hm⟩ := k2; exact DataW.trod_lt m _ _ _ hm
  obtain ⟨x2, w2⟩ := open_intsAt (hval 2 22 v2 rfl rfl) h2
  have k3 := h3
  have lt3 : ∀ x ∈ p3, x.block < W.heap.size := by obtain ⟨m, hm⟩ := k3; exact DataW.trod_lt m _ _ _ hm
  obtain ⟨x3, w3⟩ := open_rowsAt (hval 3 23 v3 rfl rfl) h3
  clear hA0 hval0
  refine (walk W a0 w0 v1 x1 w1 v2 x2 w2 v3 x3 w3).mono fun e W' ⟨he, bel⟩ => ?_
  subst he
  exact ⟨_, rfl, _, _, _, [], _, [], hW', trodAll_mk1 (shut_bool Try.underlying4 _), (trodAll_cons_mk (shut_int Try.underlying3 w0) (trodAll_cons_mk (Below.trod laidN (by kernel_rfl) (of_decide_eq_true (by kernel_rfl)) k1 bel lt1) (trodAll_cons_mk (Below.trod laidN (by kernel_rfl) (of_decide_eq_true (by kernel_rfl)) k2 bel lt2) (trodAll_cons_mk (Below.trod laidN (by kernel_rfl) (of_decide_eq_true (by kernel_rfl)) k3 bel lt3) trodAll_mk0)))), rfl, bel.frame _, fun h => by cases h⟩

theorem proved : Rows.RetrievalTellsSaid :=
  OpenClaim.holds_of_wide 4 Try.f4 rfl rfl rfl rfl rfl rfl rfl ⟨rfl, rfl, rfl, rfl, rfl⟩ rfl rfl rfl rfl rfl (by kernel_rfl) Try.func4 (by kernel_rfl)
    (of_decide_eq_true (by kernel_rfl)) (by unfold Func.isWrapper; first | (rw [if_pos (by decide +kernel)]; kernel_rfl) | (rw [if_neg (by decide +kernel)]; exact ⟨rfl, rfl⟩))
    (fun os started H enc _ => lifted os started H enc)
#print axioms proved

end Go.Proofs.Ytgclbnfpipepfaa.lawTells
