/-
  RetrievalSuffices holds for every input: Suffices does not look at the order of the list, at repetitions, or at numbers that are not reels; more reels and fewer data blocks suffice if fewer reels and more data blocks do. No condition.
-/
import Derived.Test.YtgclbnfpipepfaaApp
namespace Go.Proofs.Ytgclbnfpipepfaa.lawSuffices
open Go.ChangeShapes Go.WideShapes Go.ChangeAt Go.RowKit

def mixK (l : List Int) : Nat → List Int
  | 0 => []
  | k + 1 => mixK l k ++ [l.getD (l.length - 1 - k) 0, -1, l.getD k 0, 99]
theorem mixK_len (l : List Int) (k : Nat) : (mixK l k).length = 4 * k := by
  induction k with
  | zero => rfl
  | succ k ih => rw [mixK, List.length_append, ih]; simp; omega
theorem getD_mem {l : List Int} {k : Nat} (h : k < l.length) : l.getD k 0 ∈ l := by
  simp [List.getD, List.getElem?_eq_getElem h]
theorem mem_mixK (l : List Int) (k : Nat) (hk : k ≤ l.length) (x : Int) : x ∈ mixK l k → x ∈ l ∨ x = -1 ∨ x = 99 := by
  induction k with
  | zero => intro h; cases h
  | succ k ih =>
    intro h
    rw [mixK, List.mem_append] at h
    rcases h with h | h
    · exact ih (by omega) h
    · simp only [List.mem_cons, List.not_mem_nil, or_false] at h
      rcases h with rfl | rfl | rfl | rfl
      · exact .inl (getD_mem (by omega))
      · exact .inr (.inl rfl)
      · exact .inl (getD_mem (by omega))
      · exact .inr (.inr rfl)
theorem mixK_mem (l : List Int) (k j : Nat) (hj : j < k) : l.getD j 0 ∈ mixK l k := by
  induction k with
  | zero => omega
  | succ k ih =>
    rw [mixK, List.mem_append]
    rcases Nat.lt_succ_iff_lt_or_eq.1 hj with h | rfl
    · exact .inl (ih h)
    · exact .inr (by simp)
theorem mix_same (l : List Int) (r : Nat) (hr : r < 99) : inB (mixK l l.length) r = inB l r := by
  rw [Bool.eq_iff_iff, inB_iff, inB_iff]
  constructor
  · intro h
    rcases mem_mixK l l.length (Nat.le_refl _) r h with h | h | h
    · exact h
    · omega
    · omega
  · intro h
    obtain ⟨j, hj⟩ := List.mem_iff_getElem?.1 h
    have hl := (List.getElem?_eq_some_iff.1 hj).1
    have := mixK_mem l l.length j hl
    simpa [List.getD, hj] using this
theorem suffB_congr {data : Int} {p q : Nat → Bool} {m : List (List Bool)} (h : ∀ r, r < m.length → p r = q r) : suffB data p m = suffB data q m := by
  unfold suffB
  congr 1
  exact congrArg (fun f => (List.range (cols m)).all f) (funext fun s => by rw [cnt_congr s m.length h])
theorem cnt_mono {m : List (List Bool)} {p q : Nat → Bool} (s N : Nat) (h : ∀ r, p r = true → q r = true) : cnt m p s N ≤ cnt m q s N := by
  induction N with
  | zero => exact Nat.le_refl _
  | succ N ih =>
    rw [cnt, cnt]
    cases hp : p N with
    | false => simp; omega
    | true => rw [h N hp]; simp; omega
theorem suffB_mono {data : Int} {p q : Nat → Bool} {m : List (List Bool)} (hs : suffB data p m = true) (h : ∀ r, p r = true → q r = true) : suffB data q m = true := by
  obtain ⟨h1, h2, h3, h4⟩ := suffB_out hs
  exact suffB_yes h1 h2 h3 fun s hs => Int.le_trans (h4 s hs) (by have := cnt_mono (m := m) (p := p) (q := q) s m.length h; omega)
theorem suffB_less1 {data : Int} {p : Nat → Bool} {m : List (List Bool)} (hs : suffB data p m = true) (h : data ≠ 1) : suffB (data - 1) p m = true := by
  obtain ⟨h1, h2, h3, h4⟩ := suffB_out hs
  exact suffB_yes (by omega) (by omega) h3 fun s hs => by have := h4 s hs; omega

theorem own_below {w w' : World} {B n : Nat} {t : TypeId} {v : Value} {xs : List Value} (h : w.ownsRow B t 1 v n xs) (hb : Below w.heap.size w w') : w'.ownsRow B t 1 v n xs := by
  obtain ⟨hl, h⟩ := h
  refine ⟨hl, h.imp id ?_⟩
  rintro ⟨g, cap, cur, e, hB, hg, r⟩
  exact ⟨g, cap, cur, e, hB, (hb.block g (Array.getElem?_eq_some_iff.1 hg).1).trans hg, r⟩

set_option maxRecDepth 100000 in
set_option maxHeartbeats 2000000 in
theorem walk (w : World) (data : Int) (_wf : (Lit.int .i64 data).wf = true) (vl : Value) (l : List Int) (hl : IntsAt w vl l) (vo : Value) (mo : List Int) (ho : IntsAt w vo mo) (vh : Value) (m : List (List Bool)) (hm : RowsAt w vh m) :
    Calls Try.prog 8 #[.int .i64 data, vl, vo, vh] w fun e w' => e = .returned (.bool true) ∧ Below w.heap.size w w' := by
  have Hal := Lib.hid (alive_any w)
  have Hm := Lib.hid hm
  have Hl := Lib.hid hl
  have Ho := Lib.hid ho
  clear hm
  obtain ⟨B, d2, rfl, k1, k2⟩ : ∃ B d2, vh = .slice B m.length d2 ∧ m.length ≤ d2 ∧ d2 ≤ 9223372036854775807 := by
    obtain ⟨B, d2, e, k1, k2, _⟩ := Hm.out
    exact ⟨B, d2, e, k1, k2⟩
  obtain ⟨L, d3, rfl, l1, l2, l3⟩ := hl
  obtain ⟨O, d4, rfl, o1, o2, _⟩ := ho
  have L3 := Lib.hid l3
  clear l3
  go_enter Try.func8, Try.ntmps8
  go_wp2_with fail
  refine Hal.out.mono ?_
  rintro e w1 ⟨rfl, hb1⟩
  have Hb1 := Lib.hid hb1
  have hg := great_any w1 none 0 0 (.slice B m.length d2) m (by omega) (RowsAt.below Hm.out hb1)
  clear hb1
  by_cases hgr : great 0 m = 1
  · rw [hgr] at hg
    have Hg := Lib.hid hg
    clear hg hgr
    go_wp2_with fail
    refine Hg.out.mono ?_
    rintro e w2 ⟨rfl, rfl⟩
    go_wp2
    go_ret
    exact ⟨rfl, Hb1.out⟩
  have hgf : (great 0 m == 1) = false := by simpa using hgr
  have hml : m.length ≤ 20 := by
    unfold great at hgr
    split at hgr
    · exact absurd rfl hgr
    · omega
  have Hg := Lib.hid hg
  clear hg hgr
  by_cases hl20 : 20 < l.length
  · go_wp2_with fail
    refine Hg.out.mono ?_
    rintro e w2 ⟨rfl, rfl⟩
    go_wp2
    go_ret
    exact ⟨rfl, Hb1.out⟩
  by_cases ho20 : 20 < mo.length
  · go_wp2_with fail
    refine Hg.out.mono ?_
    rintro e w2 ⟨rfl, rfl⟩
    go_wp2
    go_ret
    exact ⟨rfl, Hb1.out⟩
  have hl20' : l.length ≤ 20 := by omega
  have ho20' : mo.length ≤ 20 := by omega
  go_wp2_with fail
  refine Hg.out.mono ?_
  rintro e w2 ⟨rfl, rfl⟩
  go_wp2
  go_loopw [9, 10] (fun v i wr => ∃ k : Nat, k ≤ l.length ∧ i = .int .i64 k ∧ wr.ownsRow w.heap.size 3 1 v (mixK l k).length ((mixK l k).map intV) ∧ Below w.heap.size w wr) (fun _ i _ => l.length - (intOf i).toNat)
  case atStart => exact ⟨0, Nat.zero_le _, rfl, World.ownsRow_nil _ _ _ _, Hb1.out⟩
  case round =>
    obtain ⟨k, hk, rfl, hown, hB⟩ := hrel
    obtain ⟨v, rfl⟩ : ∃ v, v = u9 := ⟨_, rfl⟩
    by_cases hlt : k < l.length
    · obtain ⟨b, o, u, rfl, hck, rfl⟩ := L3.out k l[k] (List.getElem?_eq_getElem hlt)
      obtain ⟨b', o', u', e', hcj, rfl⟩ := L3.out (l.length - 1 - k) l[l.length - 1 - k] (List.getElem?_eq_getElem (by omega))
      cases e'
      have Hck := Lib.hid hck
      have Hcj := Lib.hid hcj
      have hB0 := hB.alloc hB.size (.cells #[intV l[l.length - 1 - k], .int .i64 (-1), intV l[k], .int .i64 99] 3)
      have HB0 := Lib.hid hB0.drew
      have Hown0 := Lib.hid (show (wr.alloc (.cells #[intV l[l.length - 1 - k], .int .i64 (-1), intV l[k], .int .i64 99] 3)).drew.ownsRow w.heap.size 3 1 v (mixK l k).length ((mixK l k).map intV) from (hown.alloc _).drew)
      have Hnews := Lib.hid (show IntsAt (wr.alloc (.cells #[intV l[l.length - 1 - k], .int .i64 (-1), intV l[k], .int .i64 99] 3)).drew (.slice (some ⟨wr.heap.size, 0, none⟩) 4 4) [l[l.length - 1 - k], -1, l[k], 99] from (ints_new (w := wr) (W := wr.alloc (.cells #[intV l[l.length - 1 - k], .int .i64 (-1), intV l[k], .int .i64 99] 3)) [l[l.length - 1 - k], -1, l[k], 99] 4 _ rfl rfl rfl (by omega)))
      replace hck := cell_below hB hck
      replace hcj := cell_below hB hcj
      clear hB0
      have hs1 : IntKind.i64.wrap ((l.length : Int) - 1) = ((l.length - 1 : Nat) : Int) := by rw [IntWalk.i64_in _ (by omega)]; omega
      have hs2 : IntKind.i64.wrap (((l.length - 1 : Nat) : Int) - k) = ((l.length - 1 - k : Nat) : Int) := by rw [IntWalk.i64_in _ (by omega)]; omega
      have hkI : (k : Int) < l.length := by omega
      have hjI : ((l.length - 1 - k : Nat) : Int) < l.length := by omega
      have hj0 : (0 : Int) ≤ ((l.length - 1 - k : Nat) : Int) := by omega
      have hmx : mixK l (k + 1) = mixK l k ++ [l[l.length - 1 - k], -1, l[k], 99] := by
        rw [mixK]; simp [List.getD, List.getElem?_eq_getElem hlt, List.getElem?_eq_getElem (show l.length - 1 - k < l.length by omega)]
      have Hmx := Lib.hid hmx
      have hln := mixK_len l k
      have Hln := Lib.hid hln
      clear hmx hln
      go_wp2
      go_region_held3 (fun w' => w'.cell? ⟨b, o + (l.length - 1 - k), none⟩ = some (intV l[l.length - 1 - k]) ∧ w'.cell? ⟨b, o + k, none⟩ = some (intV l[k]))
        (first
          | exact ⟨hcj, hck⟩
          | exact ⟨cell_below (w := w) HB1.out Hcj.out, cell_below (w := w) HB1.out Hck.out⟩
          | exact ⟨cell_below (w := w) HB0.out Hcj.out, cell_below (w := w) HB0.out Hck.out⟩)
        (first
          | (refine step_appendI _ (by rfl) _ _ (by rfl) w.heap.size _ (mixK l k).length (mixK l k) (by rfl) _ (by rfl) Hown0.out [l[l.length - 1 - k], -1, l[k], 99] Hnews.out (by rw [Hln.out]; simp; omega) (by have := hB.size; simp; omega) ?_; intro v' w1 hown1 hbl1; have HB1 := Lib.hid (HB0.out.trans hbl1); clear hbl1))
      go_wp2
      go_roundw
      case rel =>
        refine ⟨k + 1, by omega, by go_num, ?_, HB1.out⟩
        rw [Hmx.out]
        simpa using hown1
      case measure => simp [intOf]; omega
    · have hkl : k = l.length := by omega
      subst hkl
      have hix := IntsAt.of_own hown
      have hlen := mixK_len l l.length
      have hsame : suffB data (fun r => inB (mixK l l.length) r) m = suffB data (fun r => inB l r) m := suffB_congr fun r hr => mix_same l r (by omega)
      have hs1 := rsuff_any wr data (.slice L l.length d3) (.slice B m.length d2) l m (IntsAt.below Hl.out hB) (RowsAt.below Hm.out hB) (by omega) (by omega)
      have Hs1 := Lib.hid hs1
      have Hix := Lib.hid hix
      have HB := Lib.hid hB
      have Hlen := Lib.hid hlen
      have Hsame := Lib.hid hsame
      have Hown := Lib.hid hown
      clear hs1 hix hB hlen hsame hown
      go_wp2_with fail
      refine Hs1.out.mono ?_
      rintro e w2 ⟨rfl, hb2⟩
      have hB2 := HB.out.trans (hb2.mono HB.out.size)
      have hs2 := rsuff_any w2 data v (.slice B m.length d2) (mixK l l.length) m (IntsAt.below Hix.out hb2) (RowsAt.below Hm.out hB2) (by omega) (by rw [Hlen.out]; omega)
      rw [Hsame.out] at hs2
      have Hs2 := Lib.hid hs2
      have HB2 := Lib.hid hB2
      have Hown2 := Lib.hid (own_below Hown.out hb2)
      clear hs2 hB2 hb2
      cases hb : suffB data (fun r => inB l r) m with
      | false =>
        rw [hb] at Hs2
        have Hb := Lib.hid hb
        clear hb
        go_wp2_with fail
        refine Hs2.out.mono ?_
        rintro e w3 ⟨rfl, hb3⟩
        go_wp2
        go_ret
        exact ⟨rfl, HB2.out.trans (hb3.mono HB2.out.size)⟩
      | true =>
        rw [hb] at Hs2
        have Hb := Lib.hid hb
        clear hb
        go_wp2_with fail
        refine Hs2.out.mono ?_
        rintro e w3 ⟨rfl, hb3⟩
        have HB3 := Lib.hid (HB2.out.trans (hb3.mono HB2.out.size))
        have Hown3 := Lib.hid (own_below Hown2.out hb3)
        clear hb3
        go_wp2_with (at_builtin; refine wpList_appendI _ (by rfl) _ _ rfl w.heap.size _ (mixK l l.length).length (mixK l l.length) rfl _ rfl Hown3.out mo (IntsAt.below Ho.out HB3.out) (by rw [Hlen.out]; omega) HB3.out.size ?_; intro v' w4 hown4 hbl4)
        have hi4 := IntsAt.of_own hown4
        have hB4 := HB3.out.trans hbl4
        have hext : suffB data (fun r => inB (mixK l l.length ++ mo) r) m = true := suffB_mono Hb.out fun r hr => by
          rw [inB_iff] at hr ⊢
          obtain ⟨j, hj⟩ := List.mem_iff_getElem?.1 hr
          have hl := (List.getElem?_eq_some_iff.1 hj).1
          have := mixK_mem l l.length j hl
          exact List.mem_append.2 (.inl (by simpa [List.getD, hj] using this))
        have hs4 := rsuff_any w4 data v' (.slice B m.length d2) (mixK l l.length ++ mo) m hi4 (RowsAt.below Hm.out hB4) (by omega) (by rw [List.length_append, Hlen.out]; omega)
        rw [hext] at hs4
        have Hs4 := Lib.hid hs4
        have HB4 := Lib.hid hB4
        clear hs4 hB4 hi4 hext hown4 hbl4
        go_wp2_with fail
        refine Hs4.out.mono ?_
        rintro e w5 ⟨rfl, hb5⟩
        have hB5 := HB4.out.trans (hb5.mono HB4.out.size)
        have hd1 := (suffB_out Hb.out).1
        have hd2 := (suffB_out Hb.out).2.1
        by_cases hd : data = 1
        · have hdd : (data == 1) = true := by simpa using hd
          have HB5 := Lib.hid hB5
          clear hd hb5 hB5
          go_wp2
          go_ret
          exact ⟨rfl, HB5.out⟩
        · have hdd : (data == 1) = false := by simpa using hd
          have hs5 := rsuff_any w5 (data - 1) (.slice L l.length d3) (.slice B m.length d2) l m (IntsAt.below Hl.out hB5) (RowsAt.below Hm.out hB5) (by omega) (by omega)
          rw [suffB_less1 Hb.out hd] at hs5
          have Hs5 := Lib.hid hs5
          have HB5 := Lib.hid hB5
          clear hs5 hd hb5 hB5
          go_wp2_with fail
          refine Hs5.out.mono ?_
          rintro e w6 ⟨rfl, hb6⟩
          go_wp2
          go_ret
          exact ⟨rfl, HB5.out.trans (hb6.mono HB5.out.size)⟩

/-! the row's step -/
set_option maxRecDepth 100000 in
theorem lifted (os : Os) (started : os.Started) (H : Type) (enc : TypeId × Value → H) :
    ReturnsInHanded {} Try.checked os 8 .any (Rows.retrievalSufficesSpec.pre6 enc Try.prog Try.f8 Rows.retrievalSufficesRow.domain false) (Rows.retrievalSufficesSpec.post enc Try.prog Try.f8 false true false false) := by
  refine returnsInHanded_of_change (C := Try.checked) ownN started (by kernel_rfl) Try.func8
    (ChangeSpec.witness6 (enc := enc) (C := Try.checked) false ⟨#[], #[.int .i64 0, .slice none 0 0, .slice none 0 0, .slice none 0 0], []⟩ 8 (by kernel_rfl) (by kernel_rfl) (by kernel_rfl) (by kernel_rfl)) ?_
  intro W base args ds gs before hval0 hW _ _
  have hval : ∀ (j : Nat) t v, Try.f8.params[j]? = some t → args[j]? = some v → Value.okWide Try.prog W .any base t v := hval0
  have hW' := hW
  obtain ⟨p, q, hA0, hV, rfl, _, _⟩ := hW
  have hA : DataW.TrodAll enc Try.prog W 0 (fun _ => true) true Try.f8.params.toList args.toList ds p := hA0
  rw [Try.params8] at hA hval
  obtain ⟨v0, vs0, d0, ds0, p0, q0, hargs, rfl, rfl, h0, r0⟩ := trodAll_cons hA
  obtain ⟨v1, vs1, d1, ds1, p1, q1, rfl, rfl, rfl, h1, r1⟩ := trodAll_cons r0
  obtain ⟨v2, vs2, d2, ds2, p2, q2, rfl, rfl, rfl, h2, r2⟩ := trodAll_cons r1
  obtain ⟨v3, vs3, d3, ds3, p3, q3, rfl, rfl, rfl, h3, r3⟩ := trodAll_cons r2
  obtain ⟨rfl, rfl, rfl⟩ := trodAll_nil r3
  obtain rfl : args = #[v0, v1, v2, v3] := by cases args; simp_all
  obtain ⟨rfl, rfl⟩ := trodVars_none hV
  obtain ⟨a0, rfl, rfl, rfl, w0⟩ := open_int Try.underlying3 (hval 0 3 v0 rfl rfl) h0
  have k1 := h1
  have lt1 : ∀ x ∈ p1, x.block < W.heap.size := by obtain ⟨m, hm⟩ := k1; exact DataW.trod_lt m _ _ _ hm
  obtain ⟨x1, w1⟩ := open_intsAt (hval 1 22 v1 rfl rfl) h1
  have k2 := h2
  have lt2 : ∀ x ∈ p2, x.block < W.heap.size := by obtain ⟨m, hm⟩ := k2; exact DataW.trod_lt m _ _ _ hm
  obtain ⟨x2, w2⟩ := open_intsAt (hval 2 22 v2 rfl rfl) h2
  have k3 := h3
  have lt3 : ∀ x ∈ p3, x.block < W.heap.size := by obtain ⟨m, hm⟩ := k3; exact DataW.trod_lt m _ _ _ hm
  obtain ⟨x3, w3⟩ := open_rowsAt (hval 3 23 v3 rfl rfl) h3
  clear hA0 hval0
  refine (walk W a0 w0 v1 x1 w1 v2 x2 w2 v3 x3 w3).mono fun e W' ⟨he, bel⟩ => ?_
  subst he
  exact ⟨_, rfl, _, _, _, [], _, [], hW', trodAll_mk1 (shut_bool Try.underlying4 _), (trodAll_cons_mk (shut_int Try.underlying3 w0) (trodAll_cons_mk (Below.trod laidN (by kernel_rfl) (of_decide_eq_true (by kernel_rfl)) k1 bel lt1) (trodAll_cons_mk (Below.trod laidN (by kernel_rfl) (of_decide_eq_true (by kernel_rfl)) k2 bel lt2) (trodAll_cons_mk (Below.trod laidN (by kernel_rfl) (of_decide_eq_true (by kernel_rfl)) k3 bel lt3) trodAll_mk0)))), rfl, bel.frame _, fun h => by cases h⟩

theorem proved : Rows.RetrievalSufficesSaid :=
  OpenClaim.holds_of_wide 8 Try.f8 rfl rfl rfl rfl rfl rfl rfl ⟨rfl, rfl, rfl, rfl, rfl⟩ rfl rfl rfl rfl rfl (by kernel_rfl) Try.func8 (by kernel_rfl)
    (of_decide_eq_true (by kernel_rfl)) (by unfold Func.isWrapper; first | (rw [if_pos (by decide +kernel)]; kernel_rfl) | (rw [if_neg (by decide +kernel)]; exact ⟨rfl, rfl⟩))
    (fun os started H enc _ => lifted os started H enc)
#print axioms proved

end Go.Proofs.Ytgclbnfpipepfaa.lawSuffices
