/-
  RetrievalCheaper holds for every input: with one cheaper reel the plan costs no more, and at most the difference less. No condition.
-/
import Derived.Test.YtgclbnfpipepfaaPlainB
import Derived.Test.YtgclbnfpipepfaaApp
namespace Go.Proofs.Ytgclbnfpipepfaa.lawCheaper
open Go.ChangeShapes Go.WideShapes Go.ChangeAt Go.RowKit

theorem asc_len {n : Nat} {l : List Int} (h : Asc 0 n l) : l.length ≤ n := by
  obtain ⟨s, _, rfl⟩ := asc_bits n l h
  exact bitsK_len s n
theorem getD_bd {c : List Int} (h : c.any badB = false) (k : Nat) : 0 ≤ c.getD k 0 ∧ c.getD k 0 ≤ 1000000000 := by
  by_cases hk : k < c.length
  · have := badB_out h k c[k] (List.getElem?_eq_getElem hk)
    rw [List.getD, List.getElem?_eq_getElem hk]
    exact this
  · rw [List.getD, List.getElem?_eq_none (by omega)]
    exact ⟨Int.le_refl _, by decide⟩
theorem csum_bd {c : List Int} (h : c.any badB = false) (l : List Int) : 0 ≤ csum c l ∧ csum c l ≤ l.length * 1000000000 := by
  induction l with
  | nil => exact ⟨Int.le_refl _, by simp [csum_nil]⟩
  | cons x l ih =>
    have := getD_bd h x.toNat
    rw [csum_cons, List.length_cons]
    omega
theorem own_slice {w : World} {B : Nat} {t : TypeId} {v : Value} {n : Nat} {xs : List Value} (h : w.ownsRow B t 1 v n xs) (hn : 0 < n) : ∃ g cap, v = .slice (some ⟨g, 0, none⟩) n cap ∧ B ≤ g ∧ n ≤ cap := by
  rcases h.2 with ⟨_, h0⟩ | ⟨g, cap, cur, e, hB, _, hc, _⟩
  · omega
  · exact ⟨g, cap, e, hB, hc⟩

set_option maxRecDepth 100000 in
set_option maxHeartbeats 2000000 in
theorem walk (w : World) (data : Int) (_wf : (Lit.int .i64 data).wf = true) (vc : Value) (c : List Int) (hc : IntsAt w vc c) (vh : Value) (m : List (List Bool)) (hm : RowsAt w vh m) (r : Int) (wfr : (Lit.int .u8 r).wf = true) (y : Int) (wfy : (Lit.int .u8 y).wf = true) :
    Calls Try.prog 7 #[.int .i64 data, vc, vh, .int .u8 r, .int .u8 y] w fun e w' => e = .returned (.bool true) ∧ Below w.heap.size w w' := by
  have Hal := Lib.hid (alive_any w)
  have Hc := Lib.hid hc
  have Hm := Lib.hid hm
  obtain ⟨A, d, rfl, h1, h2, h3⟩ := hc
  have H3 := Lib.hid h3
  clear hm h3
  obtain ⟨B, d2, rfl, k1, k2⟩ : ∃ B d2, vh = .slice B m.length d2 ∧ m.length ≤ d2 ∧ d2 ≤ 9223372036854775807 := by
    obtain ⟨B, d2, e, k1, k2, _⟩ := Hm.out
    exact ⟨B, d2, e, k1, k2⟩
  obtain ⟨r, rfl, hr⟩ : ∃ s : Nat, r = s ∧ s < 256 := by
    have := bounds_u8 wfr
    exact ⟨r.toNat, by omega, by omega⟩
  have hy := bounds_u8 wfy
  obtain ⟨hy0, hy1⟩ := hy
  clear wfr wfy
  go_enter Try.func7, Try.ntmps7
  go_wp2_with fail
  refine Hal.out.mono ?_
  rintro e w1 ⟨rfl, hb1⟩
  have Hb1 := Lib.hid hb1
  have hg := great_any w1 A c.length d (.slice B m.length d2) m (by omega) (RowsAt.below Hm.out hb1)
  clear hb1
  by_cases hgr : great c.length m = 1
  · rw [hgr] at hg
    have Hg := Lib.hid hg
    clear hg hgr
    go_wp2_with fail
    refine Hg.out.mono ?_
    rintro e w2 ⟨rfl, rfl⟩
    go_wp2
    go_ret
    exact ⟨rfl, Hb1.out⟩
  have hgf : (great c.length m == 1) = false := by simpa using hgr
  have hml : m.length ≤ 1000000 ∧ c.length ≤ 16 := by
    unfold great at hgr
    split at hgr
    · exact absurd rfl hgr
    · omega
  obtain ⟨hml, hcl⟩ := hml
  have Hg := Lib.hid hg
  clear hg hgr
  by_cases hc0 : c.length = 0
  · have hcz : ((c.length : Int) == 0) = true := by simp [hc0]
    clear hc0
    go_wp2_with fail
    refine Hg.out.mono ?_
    rintro e w2 ⟨rfl, rfl⟩
    go_wp2
    go_ret
    exact ⟨rfl, Hb1.out⟩
  have hcz : ((c.length : Int) == 0) = false := by simpa using hc0
  have hcp : 0 < c.length := by omega
  clear hc0
  go_wp2_with fail
  refine Hg.out.mono ?_
  rintro e w2 ⟨rfl, rfl⟩
  have hp := rplan_any w1 data (.slice A c.length d) (.slice B m.length d2) c m (IntsAt.below Hc.out Hb1.out) (RowsAt.below Hm.out Hb1.out) hml
  have Hp := Lib.hid hp
  clear hp
  go_wp2_with fail
  refine Hp.out.mono ?_
  rintro e w2 ⟨v1, rfl, hv1, hb2⟩
  have HB2 := Lib.hid (Hb1.out.trans (hb2.mono Hb1.out.size))
  have Hv1 := Lib.hid hv1
  clear hv1 hb2
  generalize hpl : planB data c m = pl at *
  have Hpl := Lib.hid hpl
  clear hpl
  cases pl with
  | error er =>
    obtain ⟨he0, _⟩ := plan_err Hpl.out
    obtain ⟨P, dp, rfl, q1, q2, q3⟩ := Hv1.out
    have Hq3 := Lib.hid q3
    have hne : (er != 0) = true := by simpa using he0
    have hpc : planCode (.error er) = er := rfl
    have hpn : (planList (.error er)).length = 0 := rfl
    clear q3
    go_wp2
    go_ret
    exact ⟨rfl, HB2.out⟩
  | ok p =>
    have hip := plan_ok Hpl.out
    have hvp : IntsAt w2 v1 p := Hv1.out
    have hpc : planCode (.ok p) = 0 := rfl
    clear Hv1
    have Hvp := Lib.hid hvp
    have hpn := asc_len hip.asc
    have hbb := hip.len
    obtain ⟨k, hk⟩ : ∃ k, k = r % c.length := ⟨_, rfl⟩
    have hkl : k < c.length := by rw [hk]; exact Nat.mod_lt _ hcp
    have hkI : (k : Int) < c.length := by omega
    have hrem : Int.tmod (r : Int) (c.length : Int) = (k : Int) := by rw [Int.tmod_eq_emod_of_nonneg (by omega), hk]; rfl
    have hbd := badB_out hip.bad k c[k] (List.getElem?_eq_getElem hkl)
    obtain ⟨hbd0, hbd1⟩ := hbd
    obtain ⟨b, o, u, rfl, hck, rfl⟩ := H3.out k c[k] (List.getElem?_eq_getElem hkl)
    have Hck := Lib.hid hck
    have Hip := Lib.hid hip
    have hck2 := cell_below HB2.out hck
    have Hk := Lib.hid hk
    clear hk hck hvp hip
    by_cases hyc : y > c[k]
    · have hown2 : (w2.alloc (.cells #[] 3)).ownsRow w2.heap.size 3 1 (.slice (some ⟨w2.heap.size, 0, none⟩) 0 0) 0 (([] : List Int).map intV) := own_empty w2 3 1
      have HA2 := Lib.hid ((Below.refl w2.heap.size w2).alloc (Nat.le_refl _) (.cells #[] 3))
      have Hc2 := Lib.hid (IntsAt.below Hc.out (HB2.out.trans (HA2.out.mono HB2.out.size)))
      have Hown2 := Lib.hid hown2
      clear hown2
      go_wp2_with (at_builtin; refine wpList_appendI _ (by rfl) _ _ rfl w2.heap.size _ 0 [] rfl _ rfl Hown2.out c Hc2.out (by omega) HA2.out.size ?_; intro v' w3 hown3 hbl3; simp only [Nat.zero_add, List.nil_append] at hown3; obtain ⟨g, cap, rfl, hg, hcap⟩ := own_slice hown3 hcp; have HA3 := Lib.hid (HA2.out.trans hbl3); have hck3 := cell_below (w := w) (HB2.out.trans (HA3.out.mono HB2.out.size)) Hck.out; have hfz := hown3.frozenAt k; have hcg := hown3.cellAt k (by omega); rw [List.getElem?_map, List.getElem?_eq_getElem hkl] at hcg; simp only [Option.map_some] at hcg; have Hown3 := Lib.hid hown3; clear hown3 hbl3 hck2)
      have hown4 := (Hown3.out.stored k (intV 0)).1
      have hA4 := HA3.out.setCell (p := ⟨g, k, none⟩) hg (intV 0)
      have hB4 := HB2.out.trans (hA4.mono HB2.out.size)
      rw [← List.map_set] at hown4
      have hi4 := IntsAt.of_own hown4
      obtain ⟨q, hq, hq1, hq2⟩ := cheaper Hip.out hkl (v := 0) (by omega) (by rw [List.getD, List.getElem?_eq_getElem hkl]; show _ ≤ c[k]; omega)
      rw [show c.getD k 0 = c[k] by rw [List.getD, List.getElem?_eq_getElem hkl]; rfl] at hq2
      have hpl4 := plan_of hq
      have hc'l : (c.set k 0).length = c.length := by simp
      have hql := asc_len hq.asc
      rw [hc'l] at hql
      have hcb := csum_bd Hip.out.bad p
      obtain ⟨hcb0, hcb1⟩ := hcb
      have hp4 := rplan_any _ data (.slice (some ⟨g, 0, none⟩) c.length cap) (.slice B m.length d2) (c.set k (0)) m hi4 (RowsAt.below Hm.out hB4) hml
      rw [hpl4] at hp4
      have Hp4 := Lib.hid hp4
      have Hi4 := Lib.hid hi4
      have HB4 := Lib.hid hB4
      have HP4 := Lib.hid (IntsAt.below Hvp.out hA4)
      have Hq := Lib.hid hq
      clear hp4 hi4 hB4 hA4 hq hown4 hpl4 hck3 hfz hcg
      go_wp2_with fail
      refine Hp4.out.mono ?_
      rintro e w5 ⟨v5, rfl, hv5, hb5⟩
      have Hv5 := Lib.hid (show IntsAt w5 v5 q from hv5)
      have hpc5 : planCode (.ok q) = 0 := rfl
      have HB5 := Lib.hid (HB4.out.trans (hb5.mono HB4.out.size))
      have HP5 := Lib.hid (IntsAt.below HP4.out hb5)
      have HI5 := Lib.hid (IntsAt.below Hi4.out hb5)
      have hcp5 := rcost_any w5 _ v1 c p (IntsAt.below Hc.out HB5.out) HP5.out (by omega)
      rw [costB_sum Hip.out.bad Hip.out.asc] at hcp5
      simp only [costV] at hcp5
      have Hcp5 := Lib.hid hcp5
      clear hv5 hb5 hcp5
      go_wp2_with fail
      refine Hcp5.out.mono ?_
      rintro e w6 ⟨rfl, hb6⟩
      have HB6 := Lib.hid (HB5.out.trans (hb6.mono HB5.out.size))
      have hcq6 := rcost_any w6 _ v5 (c.set k (0)) q (IntsAt.below HI5.out hb6) (IntsAt.below Hv5.out hb6) (by omega)
      rw [costB_sum Hq.out.bad Hq.out.asc] at hcq6
      simp only [costV] at hcq6
      have Hcq6 := Lib.hid hcq6
      generalize csum (c.set k (0)) q = sq at *
      generalize csum c p = sp at *
      have hd1 : decide (sq ≤ sp) = true := decide_eq_true hq1
      have hd2 : sq ≥ sp - c[k] := by omega
      clear hb6 hcq6
      go_wp2_with fail
      refine Hcq6.out.mono ?_
      rintro e w7 ⟨rfl, hb7⟩
      go_wp2
      go_ret
      exact ⟨rfl, HB6.out.trans (hb7.mono HB6.out.size)⟩
    · have hown2 : (w2.alloc (.cells #[] 3)).ownsRow w2.heap.size 3 1 (.slice (some ⟨w2.heap.size, 0, none⟩) 0 0) 0 (([] : List Int).map intV) := own_empty w2 3 1
      have HA2 := Lib.hid ((Below.refl w2.heap.size w2).alloc (Nat.le_refl _) (.cells #[] 3))
      have Hc2 := Lib.hid (IntsAt.below Hc.out (HB2.out.trans (HA2.out.mono HB2.out.size)))
      have Hown2 := Lib.hid hown2
      clear hown2
      go_wp2_with (at_builtin; refine wpList_appendI _ (by rfl) _ _ rfl w2.heap.size _ 0 [] rfl _ rfl Hown2.out c Hc2.out (by omega) HA2.out.size ?_; intro v' w3 hown3 hbl3; simp only [Nat.zero_add, List.nil_append] at hown3; obtain ⟨g, cap, rfl, hg, hcap⟩ := own_slice hown3 hcp; have HA3 := Lib.hid (HA2.out.trans hbl3); have hck3 := cell_below (w := w) (HB2.out.trans (HA3.out.mono HB2.out.size)) Hck.out; have hfz := hown3.frozenAt k; have hcg := hown3.cellAt k (by omega); rw [List.getElem?_map, List.getElem?_eq_getElem hkl] at hcg; simp only [Option.map_some] at hcg; have Hown3 := Lib.hid hown3; clear hown3 hbl3 hck2)
      have hown4 := (Hown3.out.stored k (intV (c[k] - y))).1
      have hA4 := HA3.out.setCell (p := ⟨g, k, none⟩) hg (intV (c[k] - y))
      have hB4 := HB2.out.trans (hA4.mono HB2.out.size)
      rw [← List.map_set] at hown4
      have hi4 := IntsAt.of_own hown4
      obtain ⟨q, hq, hq1, hq2⟩ := cheaper Hip.out hkl (v := c[k] - y) (by omega) (by rw [List.getD, List.getElem?_eq_getElem hkl]; show _ ≤ c[k]; omega)
      rw [show c.getD k 0 = c[k] by rw [List.getD, List.getElem?_eq_getElem hkl]; rfl] at hq2
      have hpl4 := plan_of hq
      have hc'l : (c.set k (c[k] - y)).length = c.length := by simp
      have hql := asc_len hq.asc
      rw [hc'l] at hql
      have hcb := csum_bd Hip.out.bad p
      obtain ⟨hcb0, hcb1⟩ := hcb
      have hp4 := rplan_any _ data (.slice (some ⟨g, 0, none⟩) c.length cap) (.slice B m.length d2) (c.set k (c[k] - y)) m hi4 (RowsAt.below Hm.out hB4) hml
      rw [hpl4] at hp4
      have Hp4 := Lib.hid hp4
      have Hi4 := Lib.hid hi4
      have HB4 := Lib.hid hB4
      have HP4 := Lib.hid (IntsAt.below Hvp.out hA4)
      have Hq := Lib.hid hq
      clear hp4 hi4 hB4 hA4 hq hown4 hpl4 hck3 hfz hcg
      go_wp2_with fail
      refine Hp4.out.mono ?_
      rintro e w5 ⟨v5, rfl, hv5, hb5⟩
      have Hv5 := Lib.hid (show IntsAt w5 v5 q from hv5)
      have hpc5 : planCode (.ok q) = 0 := rfl
      have HB5 := Lib.hid (HB4.out.trans (hb5.mono HB4.out.size))
      have HP5 := Lib.hid (IntsAt.below HP4.out hb5)
      have HI5 := Lib.hid (IntsAt.below Hi4.out hb5)
      have hcp5 := rcost_any w5 _ v1 c p (IntsAt.below Hc.out HB5.out) HP5.out (by omega)
      rw [costB_sum Hip.out.bad Hip.out.asc] at hcp5
      simp only [costV] at hcp5
      have Hcp5 := Lib.hid hcp5
      clear hv5 hb5 hcp5
      go_wp2_with fail
      refine Hcp5.out.mono ?_
      rintro e w6 ⟨rfl, hb6⟩
      have HB6 := Lib.hid (HB5.out.trans (hb6.mono HB5.out.size))
      have hcq6 := rcost_any w6 _ v5 (c.set k (c[k] - y)) q (IntsAt.below HI5.out hb6) (IntsAt.below Hv5.out hb6) (by omega)
      rw [costB_sum Hq.out.bad Hq.out.asc] at hcq6
      simp only [costV] at hcq6
      have Hcq6 := Lib.hid hcq6
      generalize csum (c.set k (c[k] - y)) q = sq at *
      generalize csum c p = sp at *
      have hd1 : decide (sq ≤ sp) = true := decide_eq_true hq1
      have hd2 : sq ≥ sp - y := by omega
      clear hb6 hcq6
      go_wp2_with fail
      refine Hcq6.out.mono ?_
      rintro e w7 ⟨rfl, hb7⟩
      go_wp2
      go_ret
      exact ⟨rfl, HB6.out.trans (hb7.mono HB6.out.size)⟩

/-! the row's step -/
set_option maxRecDepth 100000 in
theorem lifted (os : Os) (started : os.Started) (H : Type) (enc : TypeId × Value → H) :
    ReturnsInHanded {} Try.checked os 7 .any (Rows.retrievalCheaperSpec.pre6 enc Try.prog Try.f7 Rows.retrievalCheaperRow.domain false) (Rows.retrievalCheaperSpec.post enc Try.prog Try.f7 false true false false) := by
  refine returnsInHanded_of_change (C := Try.checked) ownN started (by kernel_rfl) Try.func7
    (ChangeSpec.witness6 (enc := enc) (C := Try.checked) false ⟨#[], #[.int .i64 0, .slice none 0 0, .slice none 0 0, .int .u8 0, .int .u8 0], []⟩ 8 (by kernel_rfl) (by kernel_rfl) (by kernel_rfl) (by kernel_rfl)) ?_
  intro W base args ds gs before hval0 hW _ _
  have hval : ∀ (j : Nat) t v, Try.f7.params[j]? = some t → args[j]? = some v → Value.okWide Try.prog W .any base t v := hval0
  have hW' := hW
  obtain ⟨p, q, hA0, hV, rfl, _, _⟩ := hW
  have hA : DataW.TrodAll enc Try.prog W 0 (fun _ => true) true Try.f7.params.toList args.toList ds p := hA0
  rw [Try.params7] at hA hval
  obtain ⟨v0, vs0, d0, ds0, p0, q0, hargs, rfl, rfl, h0, r0⟩ := trodAll_cons hA
  obtain ⟨v1, vs1, d1, ds1, p1, q1, rfl, rfl, rfl, h1, r1⟩ := trodAll_cons r0
  obtain ⟨v2, vs2, d2, ds2, p2, q2, rfl, rfl, rfl, h2, r2⟩ := trodAll_cons r1
  obtain ⟨v3, vs3, d3, ds3, p3, q3, rfl, rfl, rfl, h3, r3⟩ := trodAll_cons r2
  obtain ⟨v4, vs4, d4, ds4, p4, q4, rfl, rfl, rfl, h4, r4⟩ := trodAll_cons r3
  obtain ⟨rfl, rfl, rfl⟩ := trodAll_nil r4
  obtain rfl : args = #[v0, v1, v2, v3, v4] := by cases args; simp_all
  obtain ⟨rfl, rfl⟩ := trodVars_none hV
  obtain ⟨a0, rfl, rfl, rfl, w0⟩ := open_int Try.underlying3 (hval 0 3 v0 rfl rfl) h0
  have k1 := h1
  have lt1 : ∀ x ∈ p1, x.block < W.heap.size := by obtain ⟨m, hm⟩ := k1; exact DataW.trod_lt m _ _ _ hm
  obtain ⟨x1, w1⟩ := open_intsAt (hval 1 22 v1 rfl rfl) h1
  have k2 := h2
  have lt2 : ∀ x ∈ p2, x.block < W.heap.size := by obtain ⟨m, hm⟩ := k2; exact DataW.trod_lt m _ _ _ hm
  obtain ⟨x2, w2⟩ := open_rowsAt (hval 2 23 v2 rfl rfl) h2
  obtain ⟨a3, rfl, rfl, rfl, w3⟩ := open_int Try.underlying5 (hval 3 5 v3 rfl rfl) h3
  obtain ⟨a4, rfl, rfl, rfl, w4⟩ := open_int Try.underlying5 (hval 4 5 v4 rfl rfl) h4
  clear hA0 hval0
  refine (walk W a0 w0 v1 x1 w1 v2 x2 w2 a3 w3 a4 w4).mono fun e W' ⟨he, bel⟩ => ?_
  subst he
  exact ⟨_, rfl, _, _, _, [], _, [], hW', trodAll_mk1 (shut_bool Try.underlying4 _), (trodAll_cons_mk (shut_int Try.underlying3 w0) (trodAll_cons_mk (Below.trod laidN (by kernel_rfl) (of_decide_eq_true (by kernel_rfl)) k1 bel lt1) (trodAll_cons_mk (Below.trod laidN (by kernel_rfl) (of_decide_eq_true (by kernel_rfl)) k2 bel lt2) (trodAll_cons_mk (shut_int Try.underlying5 w3) (trodAll_cons_mk (shut_int Try.underlying5 w4) trodAll_mk0))))), rfl, bel.frame _, fun h => by cases h⟩

theorem proved : Rows.RetrievalCheaperSaid :=
  OpenClaim.holds_of_wide 7 Try.f7 rfl rfl rfl rfl rfl rfl rfl ⟨rfl, rfl, rfl, rfl, rfl⟩ rfl rfl rfl rfl rfl (by kernel_rfl) Try.func7 (by kernel_rfl)
    (of_decide_eq_true (by kernel_rfl)) (by unfold Func.isWrapper; first | (rw [if_pos (by decide +kernel)]; kernel_rfl) | (rw [if_neg (by decide +kernel)]; exact ⟨rfl, rfl⟩))
    (fun os started H enc _ => lifted os started H enc)
#print axioms proved

end Go.Proofs.Ytgclbnfpipepfaa.lawCheaper
