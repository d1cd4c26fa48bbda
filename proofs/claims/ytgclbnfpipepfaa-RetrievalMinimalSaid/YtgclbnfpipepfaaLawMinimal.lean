/-
  RetrievalMinimal holds for every input: no reel of positive cost can be spared; a further readable block makes the plan no dearer. No condition.
-/
import Derived.Test.YtgclbnfpipepfaaPlainB
import Derived.Test.YtgclbnfpipepfaaAppG
namespace Go.Proofs.Ytgclbnfpipepfaa.lawMinimal
open Go.ChangeShapes Go.WideShapes Go.ChangeAt Go.RowKit

theorem asc_len {n : Nat} {l : List Int} (h : Asc 0 n l) : l.length ≤ n := by
  obtain ⟨s, _, rfl⟩ := asc_bits n l h
  exact bitsK_len s n
/-- Without stripes the plan is empty. -/
theorem plan_nil {data : Int} {c : List Int} {m : List (List Bool)} {p : List Int} (h : IsPlan data c m p) (hc : cols m = 0) : p = [] := by
  have hs : suffB data (fun r => inB [] r) m = true := suffB_yes h.lo h.hi h.even fun s hs => by omega
  have h0 : ∀ l : List Int, 0 ≤ csum c l := by
    intro l
    induction l with
    | nil => exact Int.le_refl _
    | cons x l ih =>
      rw [csum_cons]
      have : 0 ≤ c.getD x.toNat 0 := by
        by_cases hk : x.toNat < c.length
        · have := badB_out h.bad x.toNat c[x.toNat] (List.getElem?_eq_getElem hk)
          rw [List.getD, List.getElem?_eq_getElem hk]
          exact this.1
        · rw [List.getD, List.getElem?_eq_none (by omega)]
          exact Int.le_refl _
      omega
  rcases h.least [] (Asc.nil _ _) hs with g | ⟨_, g | g⟩
  · have := h0 p
    rw [csum_nil] at g
    omega
  · exact g
  · unfold lessB at g
    cases p <;> cases g
theorem more_set {m : List (List Bool)} {i : Nat} (hi : i < m.length) (j : Nat) : MoreRows m (m.set i ((m[i]).set j true)) := by
  have hget : ∀ k, (m.set i ((m[i]).set j true)).getD k [] = if k = i then (m[i]).set j true else m.getD k [] := fun k => by
    by_cases e : k = i
    · subst e
      rw [if_pos rfl, List.getD, List.getElem?_set_self hi]
      rfl
    · rw [if_neg e, List.getD, List.getD, List.getElem?_set_ne (Ne.symm e)]
  have hmi : m.getD i [] = m[i] := by rw [List.getD, List.getElem?_eq_getElem hi]; rfl
  have hlen : ∀ k, ((m.set i ((m[i]).set j true)).getD k []).length = (m.getD k []).length := fun k => by
    rw [hget]
    split
    · rename_i e
      subst e
      rw [List.length_set, hmi]
    · rfl
  have hcols : cols (m.set i ((m[i]).set j true)) = cols m := hlen 0
  refine ⟨by simp, ?_, hcols, fun k s h => ?_⟩
  · rw [Bool.eq_iff_iff]
    constructor
    · intro h
      refine evenB_yes fun k r hk => ?_
      have hkl := (List.getElem?_eq_some_iff.1 hk).1
      have h2 := evenB_out h k _ (List.getElem?_eq_getElem (by simpa using hkl))
      have h3 := hlen k
      rw [List.getD, List.getElem?_eq_getElem (by simpa using hkl), List.getD, hk] at h3
      rw [hcols] at h2
      exact h3.symm.trans h2
    · intro h
      refine evenB_yes fun k r hk => ?_
      have hkl : k < m.length := by simpa using (List.getElem?_eq_some_iff.1 hk).1
      have h2 := evenB_out h k _ (List.getElem?_eq_getElem hkl)
      have h3 := hlen k
      rw [List.getD, hk, List.getD, List.getElem?_eq_getElem hkl] at h3
      rw [hcols]
      exact h3.trans h2
  · rw [hget]
    split
    · rename_i e
      subst e
      rw [hmi] at h
      have hsl : s < (m[k]).length := by
        by_cases hsl : s < (m[k]).length
        · exact hsl
        · rw [List.getD, List.getElem?_eq_none (by omega)] at h
          cases h
      rw [List.getD, List.getElem?_set]
      split
      · rename_i e
        subst e
        simp [hsl]
      · exact h
    · exact h
theorem ints_none (w : World) {p : List Int} {k : Nat} {A : Option Addr} {n d : Nat} (hk : p.length ≤ k) (hn : n = 0) (hd : d ≤ 9223372036854775807 := by omega) : IntsAt w (.slice A n d) (p.drop k) := by
  rw [List.drop_of_length_le hk, hn]
  exact ⟨A, d, rfl, Nat.zero_le _, hd, fun i x hx => by cases hx⟩
theorem ints_back {w : World} {b o n d : Nat} {p : List Int} (h : IntsAt w (.slice (some ⟨b, o, none⟩) n d) p) (k : Nat) : IntsAt w (.slice (some ⟨b, o + k, none⟩) (p.length - k) (d - k)) (p.drop k) := by
  obtain ⟨A', d', e, h1, h2, h3⟩ := h
  cases e
  refine ⟨_, d - k, by rw [List.length_drop], by rw [List.length_drop]; omega, by omega, fun i x hi => ?_⟩
  rw [List.getElem?_drop] at hi
  obtain ⟨b', o', u, e, hc, hr⟩ := h3 _ x hi
  cases e
  exact ⟨b, o + k, u, rfl, by rw [show o + k + i = o + (k + i) by omega]; exact hc, hr⟩
theorem own_slice {w : World} {B : Nat} {t : TypeId} {v : Value} {n : Nat} {xs : List Value} (h : w.ownsRow B t 1 v n xs) (hn : 0 < n) : ∃ g cap, v = .slice (some ⟨g, 0, none⟩) n cap ∧ B ≤ g ∧ n ≤ cap := by
  rcases h.2 with ⟨_, h0⟩ | ⟨g, cap, cur, e, hB, _, hc, _⟩
  · omega
  · exact ⟨g, cap, e, hB, hc⟩
theorem at_row {R : List ORow} {m : List (List Bool)} (h : R.map (·.2.2) = m) {i : Nat} (hi : i < m.length) : ∃ g c, R[i]? = some (g, c, m[i]) := by
  subst h
  rw [List.length_map] at hi
  exact ⟨R[i].1, R[i].2.1, by rw [List.getElem?_eq_getElem hi]; simp⟩
/-- The windows of a slice. -/
theorem ints_front {w : World} {A : Option Addr} {n d : Nat} {p : List Int} (h : IntsAt w (.slice A n d) p) (k : Nat) (hk : k ≤ p.length) : IntsAt w (.slice A k d) (p.take k) := by
  obtain ⟨A', d', e, h1, h2, h3⟩ := h
  cases e
  have hl : (p.take k).length = k := by rw [List.length_take]; omega
  refine ⟨A, d, by rw [hl], by omega, h2, fun i x hi => ?_⟩
  rw [List.getElem?_take] at hi
  split at hi
  · exact h3 i x hi
  · cases hi

set_option maxRecDepth 100000 in
set_option maxHeartbeats 4000000 in
theorem walk (w : World) (data : Int) (_wf : (Lit.int .i64 data).wf = true) (vc : Value) (c : List Int) (hc : IntsAt w vc c) (vh : Value) (m : List (List Bool)) (hm : RowsAt w vh m) (r : Int) (wfr : (Lit.int .u8 r).wf = true) (y : Int) (wfy : (Lit.int .u8 y).wf = true) :
    Calls Try.prog 6 #[.int .i64 data, vc, vh, .int .u8 r, .int .u8 y] w fun e w' => e = .returned (.bool true) ∧ Below w.heap.size w w' := by
  have Hal := Lib.hid (alive_any w)
  have Hc := Lib.hid hc
  have Hm := Lib.hid hm
  obtain ⟨A, d, rfl, h1, h2, h3⟩ := hc
  have H3 := Lib.hid h3
  clear hm h3
  obtain ⟨B, d2, rfl, k1, k2, k3⟩ : ∃ B d2, vh = .slice B m.length d2 ∧ m.length ≤ d2 ∧ d2 ≤ 9223372036854775807 ∧ ∀ i x, m[i]? = some x → ∃ b o u, B = some ⟨b, o, none⟩ ∧ w.cell? ⟨b, o + i, none⟩ = some u ∧ BoolsAt w u x := by
    obtain ⟨B, d2, e, k1, k2, k3⟩ := Hm.out
    exact ⟨B, d2, e, k1, k2, k3⟩
  have K3 := Lib.hid k3
  clear k3
  obtain ⟨r, rfl, hr⟩ : ∃ s : Nat, r = s ∧ s < 256 := by
    have := bounds_u8 wfr
    exact ⟨r.toNat, by omega, by omega⟩
  obtain ⟨y, rfl, hy⟩ : ∃ s : Nat, y = s ∧ s < 256 := by
    have := bounds_u8 wfy
    exact ⟨y.toNat, by omega, by omega⟩
  clear wfr wfy
  go_enter Try.func6, Try.ntmps6
  go_wp2_with fail
  refine Hal.out.mono ?_
  rintro e w1 ⟨rfl, hb1⟩
  have Hb1 := Lib.hid hb1
  have hg := great_any w1 A c.length d (.slice B m.length d2) m (by omega) (RowsAt.below Hm.out hb1)
  clear hb1
  by_cases hgr : great c.length m = 1
  · rw [hgr] at hg
    have Hg := Lib.hid hg
    clear hg hgr
    go_wp2_with fail
    refine Hg.out.mono ?_
    rintro e w2 ⟨rfl, rfl⟩
    go_wp2
    go_ret
    exact ⟨rfl, Hb1.out⟩
  have hgf : (great c.length m == 1) = false := by simpa using hgr
  have hml : m.length ≤ 20 ∧ c.length ≤ 16 := by
    unfold great at hgr
    split at hgr
    · exact absurd rfl hgr
    · omega
  obtain ⟨hml, hcl⟩ := hml
  have hmr : ∀ (k : Nat) (r : List Bool), m[k]? = some r → r.length ≤ 12 := fun k r hk => by
    by_cases h : 12 < r.length
    · exact absurd (great_row (n := c.length) k r hk h) hgr
    · omega
  have Hmr := Lib.hid hmr
  have Hg := Lib.hid hg
  clear hg hgr hmr
  go_wp2_with fail
  refine Hg.out.mono ?_
  rintro e w2 ⟨rfl, rfl⟩
  have hp := rplan_any w1 data (.slice A c.length d) (.slice B m.length d2) c m (IntsAt.below Hc.out Hb1.out) (RowsAt.below Hm.out Hb1.out) (by omega)
  have Hp := Lib.hid hp
  clear hp
  go_wp2_with fail
  refine Hp.out.mono ?_
  rintro e w2 ⟨v1, rfl, hv1, hb2⟩
  have HB2 := Lib.hid (Hb1.out.trans (hb2.mono Hb1.out.size))
  have Hv1 := Lib.hid hv1
  clear hv1 hb2
  generalize hpl : planB data c m = pl at *
  have Hpl := Lib.hid hpl
  clear hpl
  cases pl with
  | error er =>
    obtain ⟨he0, _⟩ := plan_err Hpl.out
    obtain ⟨P, dp, rfl, q1, q2, q3⟩ := Hv1.out
    have Hq3 := Lib.hid q3
    have hne : (er != 0) = true := by simpa using he0
    have hpc : planCode (.error er) = er := rfl
    have hpn : (planList (.error er)).length = 0 := rfl
    clear q3
    go_wp2
    go_ret
    exact ⟨rfl, HB2.out⟩
  | ok p =>
    have hip := plan_ok Hpl.out
    have hvp : IntsAt w2 v1 p := Hv1.out
    have hpc : planCode (.ok p) = 0 := rfl
    clear Hv1
    have Hvp := Lib.hid hvp
    obtain ⟨P, dp, rfl, q1, q2, q3⟩ := hvp
    have Hq3 := Lib.hid q3
    have hpn := asc_len hip.asc
    have hbb := hip.len
    have Hip := Lib.hid hip
    clear q3 hip
    go_wp2
    go_loopw [13] (fun i wr => ∃ k : Nat, k ≤ p.length ∧ i = .int .i64 k ∧ Below w2.heap.size w2 wr) (fun i _ => p.length - (intOf i).toNat)
    case atStart => exact ⟨0, Nat.zero_le _, rfl, Below.refl _ _⟩
    case round =>
      obtain ⟨k, hk, rfl, hBl⟩ := hrel
      by_cases hkp : k < p.length
      · have hkI : (k : Int) < p.length := by omega
        obtain ⟨b, o, u, rfl, hck, rfl⟩ := Hq3.out k p[k] (List.getElem?_eq_getElem hkp)
        obtain ⟨n, hn⟩ : ∃ n : Nat, p[k] = n := by
          have := Hip.out.asc.2 p[k] (by simp)
          exact ⟨p[k].toNat, by omega⟩
        have hnl : n < c.length := by
          have := Hip.out.asc.2 p[k] (by simp)
          omega
        have hnI : (n : Int) < c.length := by omega
        obtain ⟨b1, o1, u1, rfl, hcn, rfl⟩ := H3.out n c[n] (List.getElem?_eq_getElem hnl)
        rw [hn] at hck
        have Hck := Lib.hid hck
        have Hcn := Lib.hid hcn
        have Hn := Lib.hid hn
        have HBc := Lib.hid hBl
        clear hck hcn hn hBl
        have hw1 : IntKind.i64.wrap ((k : Int) + 1) = (k : Int) + 1 := IntWalk.i64_in _ (by omega)
        have hw2 : (0 : Int) ≤ (k : Int) := by omega
        have hw3 : (k : Int) ≤ (dp : Int) := by omega
        have hw4 : (0 : Int) ≤ (k : Int) + 1 := by omega
        have hw5 : (k : Int) + 1 ≤ (p.length : Int) := by omega
        have hb0 : Below wr.heap.size wr (wr.alloc (.cells #[] 3)).drew := ((Below.refl wr.heap.size wr).alloc (Nat.le_refl _) _).drew
        have hown0 : (wr.alloc (.cells #[] 3)).drew.ownsRow wr.heap.size 3 1 (.slice (some ⟨wr.heap.size, 0, none⟩) 0 0) 0 (([] : List Int).map intV) := (own_empty wr 3 1).drew
        have Hown0 := Lib.hid hown0
        have HB0 := Lib.hid hb0
        have hpw := IntsAt.below Hvp.out HBc.out
        have Hpt0 := Lib.hid (IntsAt.below (ints_front hpw k hk) hb0)
        have Hpw := Lib.hid hpw
        clear hb0 hown0 hpw
        by_cases hdk : dp = k + 1
        · have Hpd := Lib.hid (fun (W : World) => ints_none W (p := p) (k := k + 1) (A := some ⟨b, o, none⟩) (n := p.length - (k + 1)) (d := dp - (k + 1)) (by omega) (by omega))
          have hdk' : (dp = k + 1) = True := eq_true hdk
          clear hdk
          go_wp2
          go_region_held3 (fun _ => True) (exact trivial)
            (first
            | (refine step_appendI _ (by rfl) _ _ (by rfl) wr.heap.size _ 0 [] (by rfl) _ (by rfl) Hown0.out (p.take k) Hpt0.out (by rw [List.length_take]; omega) (by simp) ?_; intro v' w3 hown3 hbl3; have HB3 := Lib.hid (HB0.out.trans hbl3); have Hown3 := Lib.hid hown3; clear hown3 hbl3)
            | (refine step_appendI _ (by rfl) _ _ (by rfl) wr.heap.size _ _ ([] ++ p.take k) (by rfl) _ (by rfl) Hown3.out (p.drop (k + 1)) (by exact Hpd.out _) (by simp; omega) HB3.out.size ?_; intro v'' w4 hown4 hbl4; have HB4 := Lib.hid (HB3.out.trans hbl4); have Hown4 := Lib.hid hown4; clear hown4 hbl4))
          have hix4 : IntsAt w4 v'' ([] ++ p.take k ++ p.drop (k + 1)) := IntsAt.of_own Hown4.out
          rw [List.nil_append] at hix4
          have hBw4 := HBc.out.trans (HB4.out.mono HBc.out.size)
          have hBw4' := HB2.out.trans (hBw4.mono HB2.out.size)
          have hck4 := cell_below (HBc.out.trans (HB4.out.mono HBc.out.size)) Hck.out
          have hcn4 := cell_below hBw4' Hcn.out
          have HBw4 := Lib.hid hBw4
          have HBw4' := Lib.hid hBw4'
          by_cases hpos : (0 : Int) < c[n]
          · have hs4 := rsuff_any w4 data v'' (.slice B m.length d2) (p.take k ++ p.drop (k + 1)) m hix4 (RowsAt.below Hm.out hBw4') (by omega) (by simp; omega)
            have hmin : suffB data (fun r => inB (p.take k ++ p.drop (k + 1)) r) m = false := by
              have e : p.take k ++ p[k] :: p.drop (k + 1) = p := by rw [List.getElem_cons_drop]; exact List.take_append_drop k p
              refine minimal (c := c) (x := p[k]) (by rw [e]; exact Hip.out) ?_
              rw [Hn.out, Int.toNat_natCast, List.getD, List.getElem?_eq_getElem hnl]
              exact hpos
            rw [hmin] at hs4
            have Hs4 := Lib.hid hs4
            clear hs4 hmin hBw4 hBw4' hix4
            go_wp2_with fail
            refine Hs4.out.mono ?_
            rintro e w5 ⟨rfl, hb5⟩
            go_wp2
            go_roundw
            case rel => exact ⟨k + 1, by omega, by go_num, HBw4.out.trans (hb5.mono HBw4.out.size)⟩
            case measure => simp [intOf]; omega
          · clear hBw4 hBw4' hix4
            go_wp2
            go_roundw
            case rel => exact ⟨k + 1, by omega, by go_num, HBw4.out⟩
            case measure => simp [intOf]; omega
        · have hpd := ints_back Hpw.out (k + 1)
          have Hpd := Lib.hid hpd
          clear hpd
          go_wp2
          go_region_held3 (fun _ => True) (exact trivial)
            (first
            | (refine step_appendI _ (by rfl) _ _ (by rfl) wr.heap.size _ 0 [] (by rfl) _ (by rfl) Hown0.out (p.take k) Hpt0.out (by rw [List.length_take]; omega) (by simp) ?_; intro v' w3 hown3 hbl3; have HB3 := Lib.hid (HB0.out.trans hbl3); have Hown3 := Lib.hid hown3; clear hown3 hbl3)
            | (refine step_appendI _ (by rfl) _ _ (by rfl) wr.heap.size _ _ ([] ++ p.take k) (by rfl) _ (by rfl) Hown3.out (p.drop (k + 1)) (by exact IntsAt.below Hpd.out HB3.out) (by simp; omega) HB3.out.size ?_; intro v'' w4 hown4 hbl4; have HB4 := Lib.hid (HB3.out.trans hbl4); have Hown4 := Lib.hid hown4; clear hown4 hbl4))
          have hix4 : IntsAt w4 v'' ([] ++ p.take k ++ p.drop (k + 1)) := IntsAt.of_own Hown4.out
          rw [List.nil_append] at hix4
          have hBw4 := HBc.out.trans (HB4.out.mono HBc.out.size)
          have hBw4' := HB2.out.trans (hBw4.mono HB2.out.size)
          have hck4 := cell_below (HBc.out.trans (HB4.out.mono HBc.out.size)) Hck.out
          have hcn4 := cell_below hBw4' Hcn.out
          have HBw4 := Lib.hid hBw4
          have HBw4' := Lib.hid hBw4'
          by_cases hpos : (0 : Int) < c[n]
          · have hs4 := rsuff_any w4 data v'' (.slice B m.length d2) (p.take k ++ p.drop (k + 1)) m hix4 (RowsAt.below Hm.out hBw4') (by omega) (by simp; omega)
            have hmin : suffB data (fun r => inB (p.take k ++ p.drop (k + 1)) r) m = false := by
              have e : p.take k ++ p[k] :: p.drop (k + 1) = p := by rw [List.getElem_cons_drop]; exact List.take_append_drop k p
              refine minimal (c := c) (x := p[k]) (by rw [e]; exact Hip.out) ?_
              rw [Hn.out, Int.toNat_natCast, List.getD, List.getElem?_eq_getElem hnl]
              exact hpos
            rw [hmin] at hs4
            have Hs4 := Lib.hid hs4
            clear hs4 hmin hBw4 hBw4' hix4
            go_wp2_with fail
            refine Hs4.out.mono ?_
            rintro e w5 ⟨rfl, hb5⟩
            go_wp2
            go_roundw
            case rel => exact ⟨k + 1, by omega, by go_num, HBw4.out.trans (hb5.mono HBw4.out.size)⟩
            case measure => simp [intOf]; omega
          · clear hBw4 hBw4' hix4
            go_wp2
            go_roundw
            case rel => exact ⟨k + 1, by omega, by go_num, HBw4.out⟩
            case measure => simp [intOf]; omega
      · have hkl : k = p.length := by omega
        subst hkl
        have hB := HB2.out.trans (hBl.mono HB2.out.size)
        have HB := Lib.hid hB
        have Hvw := Lib.hid (IntsAt.below Hvp.out hBl)
        clear hB hBl
        by_cases hm0 : m.length = 0
        · have hmz : ((m.length : Int) == 0) = true := by simp [hm0]
          have hc0 : cols m = 0 := by
            have : m = [] := List.eq_nil_of_length_eq_zero hm0
            subst this
            rfl
          have hp0 := plan_nil Hip.out hc0
          have hpz : ((p.length : Int) == 0) = true := by simp [hp0]
          clear hm0 hc0 hp0
          go_wp2
          go_ret
          exact ⟨rfl, HB.out⟩
        have hmz : ((m.length : Int) == 0) = false := by simpa using hm0
        have hmp : 0 < m.length := by omega
        clear hm0
        obtain ⟨b, o, u, rfl, hc0, hu0⟩ := K3.out 0 m[0] (List.getElem?_eq_getElem hmp)
        obtain ⟨A0, d0, rfl, r1, r2, r3⟩ := hu0
        have hcc : cols m = m[0].length := by rw [cols, List.getD, List.getElem?_eq_getElem hmp]; rfl
        have R3 := Lib.hid r3
        have hcw := cell_below HB.out hc0
        rw [Nat.add_zero] at hcw
        have hmI : (0 : Int) < m.length := by omega
        clear r3 hc0
        by_cases hr0 : m[0].length = 0
        · have hrz : ((m[0].length : Int) == 0) = true := by simp [hr0]
          have hp0 := plan_nil Hip.out (hcc.trans hr0)
          have hpz : ((p.length : Int) == 0) = true := by simp [hp0]
          clear hcc hp0 hr0
          go_wp2
          go_ret
          exact ⟨rfl, HB.out⟩
        have hrz : ((m[0].length : Int) == 0) = false := by simpa using hr0
        have hr0' : 0 < m[0].length := by omega
        have Hcc := Lib.hid hcc
        clear hr0 hcc
        obtain ⟨wx, rfl⟩ : ∃ wx : World, wx = wr := ⟨_, rfl⟩
        go_wp2
        go_loopw [15, 16] (fun v i wl => ∃ (k : Nat) (R : List ORow), k ≤ m.length ∧ i = .int .i64 k ∧ RowsOwn wl wx.heap.size v R ∧ R.map (·.2.2) = m.take k ∧ Below wx.heap.size wx wl) (fun _ i _ => m.length - (intOf i).toNat)
        case atStart => exact ⟨0, [], Nat.zero_le _, rfl, RowsOwn.nil _ _, rfl, Below.refl _ _⟩
        case round =>
          obtain ⟨k, R, hk, rfl, hR, hRm, hBl⟩ := hrel
          obtain ⟨v, rfl⟩ : ∃ v, v = u15 := ⟨_, rfl⟩
          have hBw := HB.out.trans (hBl.mono HB.out.size)
          have hRl : R.length = k := by
            have := congrArg List.length hRm
            rw [List.length_map, List.length_take] at this
            omega
          by_cases hkm : k < m.length
          · have hkI : (k : Int) < m.length := by omega
            obtain ⟨b', o', u, e', hck, huk⟩ := K3.out k m[k] (List.getElem?_eq_getElem hkm)
            cases e'
            have hlk : m[k].length = m[0].length := (evenB_out Hip.out.even k m[k] (List.getElem?_eq_getElem hkm)).trans Hcc.out
            have hl12 := Hmr.out k m[k] (List.getElem?_eq_getElem hkm)
            have hck2 := cell_below hBw hck
            have huk2 := BoolsAt.below huk hBw
            obtain ⟨Ak, dk, rfl, s1, s2, s3⟩ := huk
            have S3 := Lib.hid s3
            have Huk := Lib.hid (huk2.alloc (.cells #[] 4))
            have HR := Lib.hid hR
            have HRm := Lib.hid hRm
            have HBl := Lib.hid hBl
            have Hlk := Lib.hid hlk
            have hb0 := (Below.refl wr.heap.size wr).alloc (Nat.le_refl _) (.cells #[] 4)
            have hck3 := cell_below hb0 hck2
            have Hb0 := Lib.hid hb0
            have Hown0 := Lib.hid (show (wr.alloc (.cells #[] 4)).ownsRow wr.heap.size 4 1 (.slice (some ⟨wr.heap.size, 0, none⟩) 0 0) 0 [] from own_empty wr 4 1)
            clear s3 hck hck2 huk2 hR hRm hBl hlk hb0
            go_wp2_with (first
              | (at_builtin; refine wpList_appendV _ Try.underlying37 Try.infoB rfl (by decide) (by rfl) _ _ rfl wr.heap.size _ 0 [] rfl _ rfl Hown0.out (m[k].map boolV) Huk.out.vAt (one_bools _) (by rw [List.length_map]; omega) (by simp) ?_; intro v3 w3 hown3 _ _ hbl3; simp only [List.nil_append, Nat.zero_add, List.length_map] at hown3; obtain ⟨g3, cap3, rfl, hg3, hcap3⟩ := own_slice hown3 (by rw [Hlk.out]; exact hr0'); have HB3 := Lib.hid (Hb0.out.trans hbl3); have Hown3 := Lib.hid hown3; clear hown3 hbl3)
              | (at_builtin; refine wpList_appendV _ Try.underlying23 Try.infoS rfl (by decide) (by rfl) _ _ rfl wx.heap.size v R.length (R.map rowV) rfl _ rfl (own_below' HR.out.own (HB3.out.alloc HB3.out.size _)) [.slice (some ⟨g3, 0, none⟩) m[k].length cap3] (VAt.one _ _ _) (by simp [Value.oneCell']) (by rw [hRl]; simp; omega) (by have h1 := HBl.out.size; have h2 := HB3.out.size; simp; omega) ?_; intro v4 w4 hown4 hgr4 hat4 hbl4))
            have hx4 : (w3.alloc (.cells #[.slice (some ⟨g3, 0, none⟩) m[k].length cap3] 37)).ownsRow wr.heap.size 4 1 (rowV (g3, cap3, m[k])) m[k].length (m[k].map boolV) := Hown3.out.alloc _
            have hR4 := HR.out.snoc (x := (g3, cap3, m[k])) HBl.out.size (HB3.out.alloc HB3.out.size _) hx4 hown4 hgr4 hat4
            have hb4 := HBl.out.trans ((HB3.out.alloc HB3.out.size (.cells #[.slice (some ⟨g3, 0, none⟩) m[k].length cap3] 37)).mono HBl.out.size)
            go_roundw
            case rel =>
              refine ⟨k + 1, _, by omega, by go_num, hR4, ?_, hb4.trans hbl4⟩
              rw [List.map_append, HRm.out]
              simp [List.take_append_getElem]
            case measure => simp [intOf]; omega
          · have hkl : k = m.length := by omega
            subst hkl
            rw [List.take_length] at hRm
            obtain ⟨g, cap, e, hg, hcap⟩ := own_slice hR.own (by omega)
            rw [hRl] at e
            subst e
            obtain ⟨i, hi⟩ : ∃ i, i = r % m.length := ⟨_, rfl⟩
            have hil : i < m.length := by rw [hi]; exact Nat.mod_lt _ hmp
            have hir : Int.tmod (r : Int) (m.length : Int) = (i : Int) := by rw [Int.tmod_eq_emod_of_nonneg (by omega), hi]; rfl
            obtain ⟨j, hj⟩ : ∃ j, j = y % m[0].length := ⟨_, rfl⟩
            have hjl : j < m[0].length := by rw [hj]; exact Nat.mod_lt _ hr0'
            have hjr : Int.tmod (y : Int) (m[0].length : Int) = (j : Int) := by rw [Int.tmod_eq_emod_of_nonneg (by omega), hj]; rfl
            obtain ⟨gi, ci, hRi⟩ := at_row hRm hil
            obtain ⟨gz, cz, hRz⟩ := at_row hRm hmp
            have hcell : ∀ (t : Nat) (x : ORow), R[t]? = some x → wr.cell? ⟨g, t, none⟩ = some (rowV x) := fun t x ht => by
              have hown := hR.own
              rw [hRl] at hown
              rw [hown.cellAt t (by have := (List.getElem?_eq_some_iff.1 ht).1; omega), List.getElem?_map, ht]
              rfl
            have hci : wr.cell? ⟨g, i, none⟩ = some (.slice (some ⟨gi, 0, none⟩) m[i].length ci) := hcell i _ hRi
            have hcz : wr.cell? ⟨g, 0, none⟩ = some (.slice (some ⟨gz, 0, none⟩) m[0].length cz) := hcell 0 _ hRz
            have hor := (hR.each _ (List.mem_of_getElem? hRi)).1
            have hli : m[i].length = m[0].length := (evenB_out Hip.out.even i m[i] (List.getElem?_eq_getElem hil)).trans Hcc.out
            have hji : j < m[i].length := by omega
            have hfz := World.ownsRow.frozenAt (g := gi) (cap := ci) hor j
            have hcj := World.ownsRow.cellAt (g := gi) (cap := ci) hor j (by simpa using hji)
            rw [List.getElem?_map, List.getElem?_eq_getElem hji] at hcj
            simp only [Option.map_some] at hcj
            have hiI : (i : Int) < m.length := by omega
            have hjI : (j : Int) < m[i].length := by omega
            have Hlen := Lib.hid hli
            have HR := Lib.hid hR
            have HRm := Lib.hid hRm
            have HRi := Lib.hid hRi
            have HBl := Lib.hid hBl
            have HBw := Lib.hid hBw
            have Hor := Lib.hid hor
            clear hli hR hRm hRi hRz hBl hBw hor hcell hi hj
            have hR4 := (HR.out.set i j HRi.out).below (Below.drew (Below.refl _ _))
            have hrows4 := hR4.rows
            have hrm4 : (R.set i (gi, ci, m[i].set j true)).map (·.2.2) = m.set i (m[i].set j true) := by rw [List.map_set, HRm.out]
            rw [hrm4] at hrows4
            have hgi := (own_lt Hor.out).1
            have hb4 : Below wx.heap.size wx (wr.setCell ⟨gi, j, none⟩ (boolV true)).drew := (HBl.out.setCell (p := ⟨gi, j, none⟩) hgi _).drew
            obtain ⟨q, hq, hq1⟩ := plan_more Hip.out (more_set hil j)
            have hpl4 := plan_of hq
            have hql := asc_len hq.asc
            have hbw4 := HB.out.trans (hb4.mono HB.out.size)
            have hp4 := rplan_any _ data (.slice A c.length d) (.slice (some ⟨g, 0, none⟩) m.length cap) c (m.set i (m[i].set j true)) (IntsAt.below Hc.out hbw4) hrows4 (by simp; omega)
            rw [hpl4] at hp4
            have Hp4 := Lib.hid hp4
            have HB4 := Lib.hid hbw4
            have HP4 := Lib.hid (IntsAt.below Hvw.out hb4)
            have Hq := Lib.hid hq
            clear hp4 hbw4 hb4 hq hpl4 hrows4 hrm4 hR4
            go_wp2_with fail
            go_region
            go_wp2_with fail
            refine Hp4.out.mono ?_
            rintro e w5 ⟨v5, rfl, hv5, hb5⟩
            have Hv5 := Lib.hid (show IntsAt w5 v5 q from hv5)
            have hpc5 : planCode (.ok q) = 0 := rfl
            have HB5 := Lib.hid (HB4.out.trans (hb5.mono HB4.out.size))
            have HP5 := Lib.hid (IntsAt.below HP4.out hb5)
            have hcp5 := rcost_any w5 (.slice A c.length d) (.slice P p.length dp) c p (IntsAt.below Hc.out HB5.out) HP5.out (by omega)
            rw [costB_sum Hip.out.bad Hip.out.asc] at hcp5
            simp only [costV] at hcp5
            have Hcp5 := Lib.hid hcp5
            clear hv5 hb5 hcp5
            go_wp2_with fail
            refine Hcp5.out.mono ?_
            rintro e w6 ⟨rfl, hb6⟩
            have HB6 := Lib.hid (HB5.out.trans (hb6.mono HB5.out.size))
            have hcq6 := rcost_any w6 (.slice A c.length d) v5 c q (IntsAt.below Hc.out HB6.out) (IntsAt.below Hv5.out hb6) (by omega)
            rw [costB_sum Hip.out.bad Hq.out.asc] at hcq6
            simp only [costV] at hcq6
            have Hcq6 := Lib.hid hcq6
            generalize csum c q = sq at *
            generalize csum c p = sp at *
            have hd1 : decide (sq ≤ sp) = true := decide_eq_true hq1
            clear hb6 hcq6
            go_wp2_with fail
            refine Hcq6.out.mono ?_
            rintro e w7 ⟨rfl, hb7⟩
            go_wp2
            go_ret
            exact ⟨rfl, HB6.out.trans (hb7.mono HB6.out.size)⟩

/-! the row's step -/
set_option maxRecDepth 100000 in
theorem lifted (os : Os) (started : os.Started) (H : Type) (enc : TypeId × Value → H) :
    ReturnsInHanded {} Try.checked os 6 .any (Rows.retrievalMinimalSpec.pre6 enc Try.prog Try.f6 Rows.retrievalMinimalRow.domain false) (Rows.retrievalMinimalSpec.post enc Try.prog Try.f6 false true false false) := by
  refine returnsInHanded_of_change (C := Try.checked) ownN started (by kernel_rfl) Try.func6
    (ChangeSpec.witness6 (enc := enc) (C := Try.checked) false ⟨#[], #[.int .i64 0, .slice none 0 0, .slice none 0 0, .int .u8 0, .int .u8 0], []⟩ 8 (by kernel_rfl) (by kernel_rfl) (by kernel_rfl) (by kernel_rfl)) ?_
  intro W base args ds gs before hval0 hW _ _
  have hval : ∀ (j : Nat) t v, Try.f6.params[j]? = some t → args[j]? = some v → Value.okWide Try.prog W .any base t v := hval0
  have hW' := hW
  obtain ⟨p, q, hA0, hV, rfl, _, _⟩ := hW
  have hA : DataW.TrodAll enc Try.prog W 0 (fun _ => true) true Try.f6.params.toList args.toList ds p := hA0
  rw [Try.params6] at hA hval
  obtain ⟨v0, vs0, d0, ds0, p0, q0, hargs, rfl, rfl, h0, r0⟩ := trodAll_cons hA
  obtain ⟨v1, vs1, d1, ds1, p1, q1, rfl, rfl, rfl, h1, r1⟩ := trodAll_cons r0
  obtain ⟨v2, vs2, d2, ds2, p2, q2, rfl, rfl, rfl, h2, r2⟩ := trodAll_cons r1
  obtain ⟨v3, vs3, d3, ds3, p3, q3, rfl, rfl, rfl, h3, r3⟩ := trodAll_cons r2
  obtain ⟨v4, vs4, d4, ds4, p4, q4, rfl, rfl, rfl, h4, r4⟩ := trodAll_cons r3
  obtain ⟨rfl, rfl, rfl⟩ := trodAll_nil r4
  obtain rfl : args = #[v0, v1, v2, v3, v4] := by cases args; simp_all
  obtain ⟨rfl, rfl⟩ := trodVars_none hV
  obtain ⟨a0, rfl, rfl, rfl, w0⟩ := open_int Try.underlying3 (hval 0 3 v0 rfl rfl) h0
  have k1 := h1
  have lt1 : ∀ x ∈ p1, x.block < W.heap.size := by obtain ⟨m, hm⟩ := k1; exact DataW.trod_lt m _ _ _ hm
  obtain ⟨x1, w1⟩ := open_intsAt (hval 1 22 v1 rfl rfl) h1
  have k2 := h2
  have lt2 : ∀ x ∈ p2, x.block < W.heap.size := by obtain ⟨m, hm⟩ := k2; exact DataW.trod_lt m _ _ _ hm
  obtain ⟨x2, w2⟩ := open_rowsAt (hval 2 23 v2 rfl rfl) h2
  obtain ⟨a3, rfl, rfl, rfl, w3⟩ := open_int Try.underlying5 (hval 3 5 v3 rfl rfl) h3
  obtain ⟨a4, rfl, rfl, rfl, w4⟩ := open_int Try.underlying5 (hval 4 5 v4 rfl rfl) h4
  clear hA0 hval0
  refine (walk W a0 w0 v1 x1 w1 v2 x2 w2 a3 w3 a4 w4).mono fun e W' ⟨he, bel⟩ => ?_
  subst he
  exact ⟨_, rfl, _, _, _, [], _, [], hW', trodAll_mk1 (shut_bool Try.underlying4 _), (trodAll_cons_mk (shut_int Try.underlying3 w0) (trodAll_cons_mk (Below.trod laidN (by kernel_rfl) (of_decide_eq_true (by kernel_rfl)) k1 bel lt1) (trodAll_cons_mk (Below.trod laidN (by kernel_rfl) (of_decide_eq_true (by kernel_rfl)) k2 bel lt2) (trodAll_cons_mk (shut_int Try.underlying5 w3) (trodAll_cons_mk (shut_int Try.underlying5 w4) trodAll_mk0))))), rfl, bel.frame _, fun h => by cases h⟩

theorem proved : Rows.RetrievalMinimalSaid :=
  OpenClaim.holds_of_wide 6 Try.f6 rfl rfl rfl rfl rfl rfl rfl ⟨rfl, rfl, rfl, rfl, rfl⟩ rfl rfl rfl rfl rfl (by kernel_rfl) Try.func6 (by kernel_rfl)
    (of_decide_eq_true (by kernel_rfl)) (by unfold Func.isWrapper; first | (rw [if_pos (by decide +kernel)]; kernel_rfl) | (rw [if_neg (by decide +kernel)]; exact ⟨rfl, rfl⟩))
    (fun os started H enc _ => lifted os started H enc)
#print axioms proved

end Go.Proofs.Ytgclbnfpipepfaa.lawMinimal
