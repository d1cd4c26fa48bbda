/-
  RetrievalRenaming holds for every input: with the reels numbered backwards and each stripe listed twice the plan costs the same. No condition.
-/
import Derived.Test.YtgclbnfpipepfaaPlainC
import Derived.Test.YtgclbnfpipepfaaAppG
namespace Go.Proofs.Ytgclbnfpipepfaa.lawRenaming
open Go.ChangeShapes Go.WideShapes Go.ChangeAt Go.RowKit

theorem asc_len {n : Nat} {l : List Int} (h : Asc 0 n l) : l.length ≤ n := by
  obtain ⟨s, _, rfl⟩ := asc_bits n l h
  exact bitsK_len s n
theorem own_slice {w : World} {B k : Nat} {t : TypeId} {v : Value} {n : Nat} {xs : List Value} (h : w.ownsRow B t 1 v n xs) (hk : v.ownBlock = some k) : ∃ g cap, v = .slice (some ⟨g, 0, none⟩) n cap ∧ B ≤ g ∧ n ≤ cap := by
  rcases h.2 with ⟨rfl, h0⟩ | ⟨g, cap, cur, e, hB, _, hc, _⟩
  · cases hk
  · exact ⟨g, cap, e, hB, hc⟩
theorem take_rev {α : Type} (c : List α) (k : Nat) (h : k < c.length) : c.reverse.take (k + 1) = c.reverse.take k ++ [c[c.length - 1 - k]] := by
  rw [List.take_add_one, List.getElem?_reverse h, List.getElem?_eq_getElem (by omega)]
  rfl

set_option maxRecDepth 100000 in
set_option maxHeartbeats 4000000 in
theorem walk (w : World) (data : Int) (_wf : (Lit.int .i64 data).wf = true) (vc : Value) (c : List Int) (hc : IntsAt w vc c) (vh : Value) (m : List (List Bool)) (hm : RowsAt w vh m) :
    Calls Try.prog 9 #[.int .i64 data, vc, vh] w fun e w' => e = .returned (.bool true) ∧ Below w.heap.size w w' := by
  have Hal := Lib.hid (alive_any w)
  have Hc := Lib.hid hc
  have Hm := Lib.hid hm
  obtain ⟨A, d, rfl, h1, h2, h3⟩ := hc
  have H3 := Lib.hid h3
  clear hm h3
  obtain ⟨B, d2, rfl, k1, k2, k3⟩ : ∃ B d2, vh = .slice B m.length d2 ∧ m.length ≤ d2 ∧ d2 ≤ 9223372036854775807 ∧ ∀ i x, m[i]? = some x → ∃ b o u, B = some ⟨b, o, none⟩ ∧ w.cell? ⟨b, o + i, none⟩ = some u ∧ BoolsAt w u x := by
    obtain ⟨B, d2, e, k1, k2, k3⟩ := Hm.out
    exact ⟨B, d2, e, k1, k2, k3⟩
  have K3 := Lib.hid k3
  clear k3
  go_enter Try.func9, Try.ntmps9
  go_wp2_with fail
  refine Hal.out.mono ?_
  rintro e w1 ⟨rfl, hb1⟩
  have Hb1 := Lib.hid hb1
  have hg := great_any w1 A c.length d (.slice B m.length d2) m (by omega) (RowsAt.below Hm.out hb1)
  clear hb1
  by_cases hgr : great c.length m = 1
  · rw [hgr] at hg
    have Hg := Lib.hid hg
    clear hg hgr
    go_wp2_with fail
    refine Hg.out.mono ?_
    rintro e w2 ⟨rfl, rfl⟩
    go_wp2
    go_ret
    exact ⟨rfl, Hb1.out⟩
  have hgf : (great c.length m == 1) = false := by simpa using hgr
  have hml : m.length ≤ 20 ∧ c.length ≤ 16 := by
    unfold great at hgr
    split at hgr
    · exact absurd rfl hgr
    · omega
  obtain ⟨hml, hcl⟩ := hml
  have hmr : ∀ (k : Nat) (r : List Bool), m[k]? = some r → r.length ≤ 12 := fun k r hk => by
    by_cases h : 12 < r.length
    · exact absurd (great_row (n := c.length) k r hk h) hgr
    · omega
  have Hmr := Lib.hid hmr
  have Hg := Lib.hid hg
  clear hg hgr hmr
  go_wp2_with fail
  refine Hg.out.mono ?_
  rintro e w2 ⟨rfl, rfl⟩
  have hw1 : IntKind.i64.wrap ((c.length : Int) - 1) = (c.length : Int) - 1 := IntWalk.i64_in _ (by omega)
  go_wp2
  go_loopw [7, 9] (fun v i wr => ∃ (k : Nat) (z : Int), k ≤ c.length ∧ z = (c.length : Int) - 1 - k ∧ i = .int .i64 z ∧ wr.ownsRow w1.heap.size 3 1 v k ((c.reverse.take k).map intV) ∧ Below w1.heap.size w1 wr) (fun _ i _ => (intOf i + 1).toNat)
  case atStart => exact ⟨0, _, Nat.zero_le _, by omega, rfl, World.ownsRow_nil _ _ _ _, Below.refl _ _⟩
  case round =>
    obtain ⟨k, z, hk, hz, rfl, hown, hBl⟩ := hrel
    obtain ⟨v, rfl⟩ : ∃ v, v = u7 := ⟨_, rfl⟩
    by_cases hz0 : 0 ≤ z
    · obtain ⟨j, rfl⟩ := Int.eq_ofNat_of_zero_le hz0
      have hkl : k < c.length := by omega
      have hj : c.length - 1 - k = j := by omega
      have hjl : j < c.length := by omega
      have hjI : (j : Int) < c.length := by omega
      obtain ⟨b, o, u, rfl, hcj, rfl⟩ := H3.out j c[j] (List.getElem?_eq_getElem hjl)
      have hcj2 := cell_below (Hb1.out.trans (hBl.mono Hb1.out.size)) hcj
      have Htk := Lib.hid (take_rev c k hkl)
      have Hown := Lib.hid (hown.alloc (.cells #[intV c[j]] 3))
      have HBl := Lib.hid (hBl.alloc hBl.size (.cells #[intV c[j]] 3))
      have Hj := Lib.hid hj
      have hjd : IntKind.i64.wrap ((j : Int) - 1) = (j : Int) - 1 := IntWalk.i64_in _ (by omega)
      have Hz := Lib.hid hz
      clear hcj hown hBl hj hz
      go_wp2_with (at_builtin; refine wpList_appendV _ Try.underlying22 Try.infoI rfl (by decide) (by rfl) _ _ rfl w1.heap.size v k ((c.reverse.take k).map intV) rfl _ rfl Hown.out [intV c[j]] (VAt.one _ _ _) (one_ints [c[j]]) (by simp; omega) HBl.out.size ?_; intro v3 w3 hown3 _ _ hbl3)
      go_roundw
      case rel =>
        refine ⟨k + 1, _, by omega, ?_, rfl, ?_, HBl.out.trans hbl3⟩
        · have := Hz.out
          omega
        · rw [Htk.out, List.map_append]
          simp only [Hj.out]
          exact hown3
      case measure => simp [intOf]
    · have hkl : k = c.length := by omega
      subst hkl
      have hix := IntsAt.of_own hown
      rw [List.take_of_length_le (by simp)] at hix
      have Hix := Lib.hid hix
      have HB := Lib.hid (Hb1.out.trans (hBl.mono Hb1.out.size))
      have hw2 : IntKind.i64.wrap ((m.length : Int) - 1) = (m.length : Int) - 1 := IntWalk.i64_in _ (by omega)
      obtain ⟨wx, rfl⟩ : ∃ wx : World, wx = wr := ⟨_, rfl⟩
      clear hown hBl hix
      go_wp2
      go_loopw [8, 10] (fun vv i wl => ∃ (k : Nat) (z : Int) (R : List ORow), k ≤ m.length ∧ z = (m.length : Int) - 1 - k ∧ i = .int .i64 z ∧ RowsOwn wl wx.heap.size vv R ∧ R.map (·.2.2) = (dbl m).take k ∧ Below wx.heap.size wx wl) (fun _ i _ => (intOf i + 1).toNat)
      case atStart => exact ⟨0, _, [], Nat.zero_le _, by omega, rfl, RowsOwn.nil _ _, rfl, Below.refl _ _⟩
      case round =>
        obtain ⟨k, z, R, hk, hz, rfl, hR, hRm, hBl⟩ := hrel
        obtain ⟨vv, rfl⟩ : ∃ vv, vv = u8 := ⟨_, rfl⟩
        have hRl : R.length = k := by
          have := congrArg List.length hRm
          rw [List.length_map, List.length_take, dbl_len] at this
          omega
        have hBw := HB.out.trans (hBl.mono HB.out.size)
        by_cases hz0 : 0 ≤ z
        · obtain ⟨j, rfl⟩ := Int.eq_ofNat_of_zero_le hz0
          have hkl : k < m.length := by omega
          have hj : m.length - 1 - k = j := by omega
          have hjl : j < m.length := by omega
          have hjI : (j : Int) < m.length := by omega
          obtain ⟨b, o, u, rfl, hcj, huk⟩ := K3.out j m[j] (List.getElem?_eq_getElem hjl)
          have hcj2 := cell_below hBw hcj
          have huk2 := BoolsAt.below huk hBw
          have hl12 := Hmr.out j m[j] (List.getElem?_eq_getElem hjl)
          have htk : (dbl m).take (k + 1) = (dbl m).take k ++ [m[j] ++ m[j]] := by
            unfold dbl
            rw [take_rev _ k (by simpa using hkl)]
            congr 2
            simp only [List.getElem_map, List.length_map, hj]
          obtain ⟨Ak, dk, rfl, s1, s2, s3⟩ := huk
          have S3 := Lib.hid s3
          have hb0 : Below wr.heap.size wr (wr.alloc (.cells #[] 4)).drew := ((Below.refl wr.heap.size wr).alloc (Nat.le_refl _) _).drew
          have Hown0 := Lib.hid (show (wr.alloc (.cells #[] 4)).drew.ownsRow wr.heap.size 4 1 (.slice (some ⟨wr.heap.size, 0, none⟩) 0 0) 0 [] from (own_empty wr 4 1).drew)
          have Hb0 := Lib.hid hb0
          have Huk := Lib.hid huk2
          have Hcj := Lib.hid hcj2
          have Hcj0 := Lib.hid hcj
          have Htk := Lib.hid htk
          have HR := Lib.hid hR
          have HRm := Lib.hid hRm
          have HBl := Lib.hid hBl
          have HBw := Lib.hid hBw
          have Hj := Lib.hid hj
          have hjd : IntKind.i64.wrap ((j : Int) - 1) = (j : Int) - 1 := IntWalk.i64_in _ (by omega)
          have Hz := Lib.hid hz
          clear s3 hb0 huk2 hcj htk hR hRm hBl hBw hj hz
          go_wp2
          go_region_held3 (fun w' => w'.cell? ⟨b, o + j, none⟩ = some (.slice Ak m[j].length dk))
            (first
              | exact hcj2
              | exact cell_below Hb0.out Hcj.out
              | exact cell_below Hb3.out Hcj.out
              | exact cell_below Hb5.out Hcj.out
              | exact cell_below (Hb5.out.alloc Hb5.out.size _) Hcj.out
              | exact cell_below (HB.out.trans (H7.out.mono HB.out.size)) Hcj0.out)
            (first
              | (refine step_appendV _ Try.underlying37 Try.infoB rfl (by decide) (by rfl) _ _ (by rfl) wr.heap.size _ 0 [] (by rfl) _ (by rfl) Hown0.out (m[j].map boolV) (BoolsAt.below Huk.out Hb0.out).vAt (one_bools _) (by rw [List.length_map]; omega) (by simp) ?_; intro v3 w3 hown3 _ hat3 hbl3; have hk3 : ∃ k3, v3.ownBlock = some k3 := (by rcases hat3 with e | e; exact ⟨_, e⟩; exact ⟨_, e⟩); have Hk3 := Lib.hid hk3; have Hb3 := Lib.hid (Hb0.out.trans hbl3); have Hown3 := Lib.hid hown3; clear hown3 hbl3 hat3 hk3)
              | (refine step_appendV _ Try.underlying37 Try.infoB rfl (by decide) (by rfl) _ _ (by rfl) wr.heap.size _ _ _ (by rfl) _ (by rfl) Hown3.out (m[j].map boolV) (BoolsAt.below Huk.out Hb3.out).vAt (one_bools _) (by simp; omega) Hb3.out.size ?_; intro v5 w5 hown5 _ hat5 hbl5; obtain ⟨g5, cap5, rfl, hg5, _⟩ := (by obtain ⟨k3, e3⟩ := Hk3.out; rcases hat5 with e | e; exact own_slice hown5 (e.trans e3); exact own_slice hown5 e : ∃ g cap, v5 = .slice (some ⟨g, 0, none⟩) _ cap ∧ wr.heap.size ≤ g ∧ _ ≤ cap); have Hb5 := Lib.hid (Hb3.out.trans hbl5); have Hown5 := Lib.hid hown5; clear hown5 hbl5 hat5)
              | (refine step_appendV _ Try.underlying23 Try.infoS rfl (by decide) (by rfl) _ _ (by rfl) wx.heap.size vv R.length (R.map rowV) (by rfl) _ (by rfl) (own_below' HR.out.own (Hb5.out.alloc Hb5.out.size _)) [_] (VAt.one _ _ _) (by simp [Value.oneCell']) (by rw [hRl]; simp; omega) (by have h1 := HBl.out.size; have h2 := Hb5.out.size; simp; omega) ?_; intro v7 w7 hown7 hgr7 hat7 hbl7; have Hown7 := Lib.hid hown7; have Hgr7 := Lib.hid hgr7; have Hat7 := Lib.hid hat7; have H7 := Lib.hid ((HBl.out.trans ((Hb5.out.alloc Hb5.out.size _).mono HBl.out.size)).trans hbl7); clear hown7 hgr7 hat7 hbl7))
          go_wp2
          have hx7 : (w5.alloc (.cells #[.slice (some ⟨g5, 0, none⟩) (m[j].length + m[j].length) cap5] 37)).ownsRow wr.heap.size 4 1 (rowV (g5, cap5, m[j] ++ m[j])) (m[j] ++ m[j]).length ((m[j] ++ m[j]).map boolV) := by
            have := Hown5.out.alloc (.cells #[.slice (some ⟨g5, 0, none⟩) (m[j].length + m[j].length) cap5] 37)
            unfold rowV
            simpa using this
          have hown7 : w7.ownsRow wx.heap.size 37 1 v7 (R.length + 1) (R.map rowV ++ [rowV (g5, cap5, m[j] ++ m[j])]) := by
            rw [show rowV (g5, cap5, m[j] ++ m[j]) = .slice (some ⟨g5, 0, none⟩) (m[j].length + m[j].length) cap5 by unfold rowV; simp]
            exact Hown7.out
          have hR7 := HR.out.snoc (x := (g5, cap5, m[j] ++ m[j])) HBl.out.size (Hb5.out.alloc Hb5.out.size _) hx7 hown7 (by simpa using Hgr7.out) (by simpa using Hat7.out)
          go_roundw
          case rel =>
            refine ⟨k + 1, _, _, by omega, ?_, rfl, hR7, ?_, H7.out⟩
            · have := Hz.out
              omega
            · rw [List.map_append, HRm.out, Htk.out]
              rfl
          case measure => simp [intOf]
        · have hkl : k = m.length := by omega
          rw [hkl, List.take_of_length_le (by rw [dbl_len]; exact Nat.le_refl _)] at hRm
          have hrows := hR.rows
          rw [hRm] at hrows
          have hp1 := rplan_any wr data (.slice A c.length d) (.slice B m.length d2) c m (IntsAt.below Hc.out hBw) (RowsAt.below Hm.out hBw) (by omega)
          have Hp1 := Lib.hid hp1
          have Hrows := Lib.hid hrows
          have HBw := Lib.hid hBw
          have Hiw := Lib.hid (IntsAt.below Hix.out hBl)
          clear hp1 hrows hBw hR hRm hBl
          go_wp2_with fail
          refine Hp1.out.mono ?_
          rintro e w3 ⟨v3, rfl, hv3, hb3⟩
          have HB3 := Lib.hid (HBw.out.trans (hb3.mono HBw.out.size))
          have Hi3 := Lib.hid (IntsAt.below Hiw.out hb3)
          have hp2 := rplan_any w3 data v vv c.reverse (dbl m) Hi3.out (RowsAt.below Hrows.out hb3) (by rw [dbl_len]; omega)
          have Hp2 := Lib.hid hp2
          have Hv3 := Lib.hid hv3
          obtain ⟨hcode, hsum⟩ := plan_ren data c m
          generalize hpl1 : planB data c m = pl1 at *
          generalize hpl2 : planB data c.reverse (dbl m) = pl2 at *
          have Hsum := Lib.hid hsum
          have Hpl1 := Lib.hid hpl1
          have Hpl2 := Lib.hid hpl2
          clear hp2 hv3 hb3 hsum hpl1 hpl2
          go_wp2_with fail
          refine Hp2.out.mono ?_
          rintro e w4 ⟨v4, rfl, hv4, hb4⟩
          have HB4 := Lib.hid (HB3.out.trans (hb4.mono HB3.out.size))
          have Hv4 := Lib.hid hv4
          have Hw3 := Lib.hid (IntsAt.below Hv3.out hb4)
          have Hi4 := Lib.hid (IntsAt.below Hi3.out hb4)
          clear hv4 hb4
          cases pl1 with
          | error er =>
            obtain ⟨he0, _⟩ := plan_err Hpl1.out
            cases pl2 with
            | ok q => exact absurd hcode.symm he0
            | error er2 =>
              obtain rfl : er2 = er := hcode
              obtain ⟨P, dp, rfl, q1, q2, q3⟩ := Hw3.out
              obtain ⟨P2, dp2, rfl, t1, t2, t3⟩ := Hv4.out
              have Hq3 := Lib.hid q3
              have Ht3 := Lib.hid t3
              have hne : (er2 != 0) = true := by simpa using he0
              have hee : (er2 != er2) = false := by simp
              have hpc : planCode (.error er2) = er2 := rfl
              have hpn : (planList (.error er2)).length = 0 := rfl
              clear q3 t3
              go_wp2
              go_ret
              exact ⟨rfl, HB4.out⟩
          | ok p =>
            cases pl2 with
            | error er =>
              obtain ⟨he0, _⟩ := plan_err Hpl2.out
              exact absurd hcode he0
            | ok q =>
              have hip := plan_ok Hpl1.out
              have hiq := plan_ok Hpl2.out
              have hpc : planCode (.ok p) = 0 := rfl
              have hpq : planCode (.ok q) = 0 := rfl
              have hse := Hsum.out p q rfl rfl
              have hpl := asc_len hip.asc
              have hql := asc_len hiq.asc
              rw [List.length_reverse] at hql
              have hcp := rcost_any w4 (.slice A c.length d) v3 c p (IntsAt.below Hc.out HB4.out) Hw3.out (by omega)
              rw [costB_sum hip.bad hip.asc] at hcp
              simp only [costV] at hcp
              have Hcp := Lib.hid hcp
              have Hiq := Lib.hid hiq
              clear hcp hip hiq hcode
              go_wp2_with fail
              refine Hcp.out.mono ?_
              rintro e w5 ⟨rfl, hb5⟩
              have HB5 := Lib.hid (HB4.out.trans (hb5.mono HB4.out.size))
              have hcq := rcost_any w5 v v4 c.reverse q (IntsAt.below Hi4.out hb5) (IntsAt.below (show IntsAt w4 v4 q from Hv4.out) hb5) (by omega)
              rw [costB_sum Hiq.out.bad Hiq.out.asc, ← hse] at hcq
              simp only [costV] at hcq
              have Hcq := Lib.hid hcq
              clear hcq hb5 hse
              generalize csum c p = sp at *
              have hss : (sp == sp) = true := by simp
              go_wp2_with fail
              refine Hcq.out.mono ?_
              rintro e w6 ⟨rfl, hb6⟩
              go_wp2
              go_ret
              exact ⟨rfl, HB5.out.trans (hb6.mono HB5.out.size)⟩

/-! the row's step -/
set_option maxRecDepth 100000 in
theorem lifted (os : Os) (started : os.Started) (H : Type) (enc : TypeId × Value → H) :
    ReturnsInHanded {} Try.checked os 9 .any (Rows.retrievalRenamingSpec.pre6 enc Try.prog Try.f9 Rows.retrievalRenamingRow.domain false) (Rows.retrievalRenamingSpec.post enc Try.prog Try.f9 false true false false) := by
  refine returnsInHanded_of_change (C := Try.checked) ownN started (by kernel_rfl) Try.func9
    (ChangeSpec.witness6 (enc := enc) (C := Try.checked) false ⟨#[], #[.int .i64 0, .slice none 0 0, .slice none 0 0], []⟩ 8 (by kernel_rfl) (by kernel_rfl) (by kernel_rfl) (by kernel_rfl)) ?_
  intro W base args ds gs before hval0 hW _ _
  have hval : ∀ (j : Nat) t v, Try.f9.params[j]? = some t → args[j]? = some v → Value.okWide Try.prog W .any base t v := hval0
  have hW' := hW
  obtain ⟨p, q, hA0, hV, rfl, _, _⟩ := hW
  have hA : DataW.TrodAll enc Try.prog W 0 (fun _ => true) true Try.f9.params.toList args.toList ds p := hA0
  rw [Try.params9] at hA hval
  obtain ⟨v0, vs0, d0, ds0, p0, q0, hargs, rfl, rfl, h0, r0⟩ := trodAll_cons hA
  obtain ⟨v1, vs1, d1, ds1, p1, q1, rfl, rfl, rfl, h1, r1⟩ := trodAll_cons r0
  obtain ⟨v2, vs2, d2, ds2, p2, q2, rfl, rfl, rfl, h2, r2⟩ := trodAll_cons r1
  obtain ⟨rfl, rfl, rfl⟩ := trodAll_nil r2
  obtain rfl : args = #[v0, v1, v2] := by cases args; simp_all
  obtain ⟨rfl, rfl⟩ := trodVars_none hV
  obtain ⟨a0, rfl, rfl, rfl, w0⟩ := open_int Try.underlying3 (hval 0 3 v0 rfl rfl) h0
  have k1 := h1
  have lt1 : ∀ x ∈ p1, x.block < W.heap.size := by obtain ⟨m, hm⟩ := k1; exact DataW.trod_lt m _ _ _ hm
  obtain ⟨x1, w1⟩ := open_intsAt (hval 1 22 v1 rfl rfl) h1
  have k2 := h2
  have lt2 : ∀ x ∈ p2, x.block < W.heap.size := by obtain ⟨m, hm⟩ := k2; exact DataW.trod_lt m _ _ _ hm
  obtain ⟨x2, w2⟩ := open_rowsAt (hval 2 23 v2 rfl rfl) h2
  clear hA0 hval0
  refine (walk W a0 w0 v1 x1 w1 v2 x2 w2).mono fun e W' ⟨he, bel⟩ => ?_
  subst he
  exact ⟨_, rfl, _, _, _, [], _, [], hW', trodAll_mk1 (shut_bool Try.underlying4 _), (trodAll_cons_mk (shut_int Try.underlying3 w0) (trodAll_cons_mk (Below.trod laidN (by kernel_rfl) (of_decide_eq_true (by kernel_rfl)) k1 bel lt1) (trodAll_cons_mk (Below.trod laidN (by kernel_rfl) (of_decide_eq_true (by kernel_rfl)) k2 bel lt2) trodAll_mk0))), rfl, bel.frame _, fun h => by cases h⟩

theorem proved : Rows.RetrievalRenamingSaid :=
  OpenClaim.holds_of_wide 9 Try.f9 rfl rfl rfl rfl rfl rfl rfl ⟨rfl, rfl, rfl, rfl, rfl⟩ rfl rfl rfl rfl rfl (by kernel_rfl) Try.func9 (by kernel_rfl)
    (of_decide_eq_true (by kernel_rfl)) (by unfold Func.isWrapper; first | (rw [if_pos (by decide +kernel)]; kernel_rfl) | (rw [if_neg (by decide +kernel)]; exact ⟨rfl, rfl⟩))
    (fun os started H enc _ => lifted os started H enc)
#print axioms proved

end Go.Proofs.Ytgclbnfpipepfaa.lawRenaming
