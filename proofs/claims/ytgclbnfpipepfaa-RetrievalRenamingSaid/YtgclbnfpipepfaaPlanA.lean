/-
  WALK: the program's Plan of layer 56.
-/
import Derived.Test.YtgclbnfpipepfaaSets2
import Derived.RangeFuncBox
namespace Go.Proofs.Ytgclbnfpipepfaa
open Go.RowKit Go.Shelf
attribute [local go_sem] Oper.semAt_some

def costN (c l : List Int) : Int := (costB c l).getD 0
/-- One step of the search: the best so far and its cost. -/
def better (n : Int) : Option (List Int × Int) → Bool
  | none => true
  | some b => decide (n < b.2)
def pick (data : Int) (c : List Int) (m : List (List Bool)) (acc : Option (List Int × Int)) (set : List Int) : Option (List Int × Int) :=
  if better (costN c set) acc && suffB data (fun r => inB set r) m then some (set, costN c set) else acc
def planEnd : Option (List Int × Int) → Except Int (List Int)
  | none => .error 21
  | some b => .ok b.1
/-- The plan, or the error's number. -/
def planB (data : Int) (c : List Int) (m : List (List Bool)) : Except Int (List Int) :=
  if data < 1 ∨ 8 < data then .error 2
  else if 15 < c.length then .error 6
  else if c.any badB then .error 2
  else if m.length ≠ c.length ∨ evenB m = false then .error 1
  else planEnd ((allSets c.length).foldl (pick data c m) none)
def planCode : Except Int (List Int) → Int
  | .error e => e
  | .ok _ => 0
def planList : Except Int (List Int) → List Int
  | .error _ => []
  | .ok l => l
def PlanPost (w : World) (r : Except Int (List Int)) (e : Ending) (w' : World) : Prop :=
  ∃ v, e = .returned (.tuple #[v, .int .i64 (planCode r)]) ∧ IntsAt w' v (planList r) ∧ Below w.heap.size w w'

theorem ints_nil (w : World) : IntsAt w (.slice none 0 0) [] := ⟨none, 0, rfl, Nat.le_refl _, by omega, fun i x hx => by cases hx⟩

theorem costN_nonneg (c l : List Int) : 0 ≤ costN c l := by
  unfold costN costB
  split
  · rename_i h
    exact (dsum_bd l.length (Nat.le_refl _) fun j r _ he => List.all_eq_true.1 h r (List.mem_of_getElem? he)).1
  · exact Int.le_refl 0
def leastOf : Option (List Int × Int) → Int
  | none => -1
  | some b => b.2
def bestOf : Option (List Int × Int) → List Int
  | none => []
  | some b => b.1
def accOf (data : Int) (c : List Int) (m : List (List Bool)) (pre : List (List Int)) : Option (List Int × Int) := pre.foldl (pick data c m) none
theorem accOf_snoc (data : Int) (c : List Int) (m : List (List Bool)) (pre : List (List Int)) (x : List Int) : accOf data c m (pre ++ [x]) = pick data c m (accOf data c m pre) x := by
  unfold accOf; rw [List.foldl_append]; rfl
theorem least_nonneg (data : Int) (c : List Int) (m : List (List Bool)) (pre : List (List Int)) (b : List Int × Int) (h : accOf data c m pre = some b) : 0 ≤ b.2 := by
  have : ∀ (l : List (List Int)) (acc : Option (List Int × Int)), (∀ b, acc = some b → 0 ≤ b.2) → ∀ b, l.foldl (pick data c m) acc = some b → 0 ≤ b.2 := by
    intro l
    induction l with
    | nil => exact fun acc h b hb => h b hb
    | cons x l ih =>
      intro acc hacc
      refine ih _ fun b hb => ?_
      have hp : pick data c m acc x = some (x, costN c x) ∨ pick data c m acc x = acc := by unfold pick; split <;> simp
      rcases hp with hp | hp
      · rw [hp] at hb; cases hb; exact costN_nonneg c x
      · rw [hp] at hb; exact hacc b hb
  exact this pre none (fun _ h => by cases h) b h

/-- Between two rounds of Plan's loop. -/
structure PlanI (w : World) (H : Nat) (data : Int) (vc vh : Value) (c : List Int) (m : List (List Bool)) (pre : List (List Int)) (W : World) : Prop where
  below : Below H w W
  bD : Boxed W H 3 (.int .i64 data)
  bC : Boxed W (H + 1) 22 vc
  bH : Boxed W (H + 1 + 1) 23 vh
  best : ∃ v, Boxed W (H + 3 + 1) 22 v ∧ IntsAt W v (bestOf (accOf data c m pre))
  least : Boxed W (H + 3 + 1 + 1) 3 (.int .i64 (leastOf (accOf data c m pre)))

theorem Boxed.aside {n : Nat} {A B : World} {k : Nat} {t : TypeId} {v : Value} (h : Boxed A k t v) (ha : Aside n A B) : Boxed B k t v := ha.cells k _ h rfl
theorem Boxed.below' {A B : World} {k : Nat} {t : TypeId} {v : Value} (h : Boxed A k t v) (hb : Below A.heap.size A B) : Boxed B k t v := (hb.block k h.lt).trans h
theorem PlanI.aside {w A B : World} {H n : Nat} {data : Int} {vc vh : Value} {c : List Int} {m : List (List Bool)} {pre : List (List Int)} (h : PlanI w H data vc vh c m pre A) (ha : Aside n A B) (hn : H ≤ n) : PlanI w H data vc vh c m pre B := by
  obtain ⟨v, hv, hi⟩ := h.best
  exact ⟨⟨ha.os.trans h.below.os, ha.tape.trans h.below.tape, ha.output.trans h.below.output, Nat.le_trans h.below.size ha.size, fun k hk => (ha.low k (by omega)).trans (h.below.block k hk)⟩,
    Boxed.aside h.bD ha, Boxed.aside h.bC ha, Boxed.aside h.bH ha, ⟨v, Boxed.aside hv ha, hi.aside ha⟩, Boxed.aside h.least ha⟩

theorem rest_len (n k : Nat) : ∀ (set : List Int), ∀ s ∈ rest n k set, s.length ≤ set.length + k := by
  induction k with
  | zero => intro set s h; cases h
  | succ k ih =>
    intro set s h
    simp only [rest, List.cons_append, List.mem_cons, List.mem_append] at h
    rcases h with rfl | h | h
    · simp
    · have := ih _ s h; simp at this; omega
    · have := ih _ s h; omega
theorem all_len (n : Nat) (s : List Int) (h : s ∈ allSets n) : s.length ≤ n := by
  rcases List.mem_cons.1 h with rfl | h
  · simp
  · have := rest_len n n [] s h; simpa using this
theorem costV_pair (c x : List Int) : ∃ e : Int, costV (costB c x) = .tuple #[.int .i64 (costN c x), .int .i64 e] := by
  unfold costN
  cases costB c x
  · exact ⟨2, rfl⟩
  · exact ⟨0, rfl⟩

theorem IntsAt.setOther {w : World} {v : Value} {xs : List Int} (h : IntsAt w v xs) {p : Addr} (hne : ∀ k, v.ownBlock = some k → k ≠ p.block) (u : Value) : IntsAt (w.setCell p u) v xs := by
  obtain ⟨X, c, rfl, h1, h2, h3⟩ := h
  refine ⟨X, c, rfl, h1, h2, fun i x hi => ?_⟩
  obtain ⟨b, o, z, rfl, hc, hr⟩ := h3 i x hi
  exact ⟨b, o, z, rfl, (World.cell?_setCell_other w p ⟨b, o + i, none⟩ u (fun e => hne b rfl (congrArg Addr.block e).symm)).trans hc, hr⟩

theorem marks_ret2 {fn : Func} {t u : Tmp} {R : Ending → World → Prop} {a : Act} {w : World} (h : fn.results = #[.tmp t, .tmp u]) (hd : a.defers = []) (hR : R (.returned (.tuple #[a.tmps.getD t undef, a.tmps.getD u undef])) w) :
    bodyPostM Fence.wide 0 Try.prog fn R .ret a w := by
  show LeavesInM Fence.wide 0 Try.prog fn a.tmps R a.defers .returning w
  rw [hd]
  exact ⟨_, results_tmp2 h _ _ _, hR⟩

set_option maxHeartbeats 1000000 in
theorem rplan_any (w : World) (data : Int) (vc vh : Value) (c : List Int) (m : List (List Bool)) (hc : IntsAt w vc c) (hm : RowsAt w vh m) (hmsz : m.length ≤ 1000000) :
    Calls Try.prog 12 #[.int .i64 data, vc, vh] w (PlanPost w (planB data c m)) := by
  have hc0 := hc
  have hm0 := hm
  obtain ⟨A, d, rfl, h1, h2, h3⟩ := hc
  obtain ⟨B, d2, rfl, k1, k2, k3⟩ := hm
  clear h3 k3
  obtain ⟨w3, hw3⟩ : ∃ w3, ((w.alloc (.cells #[.int .i64 data] 3)).alloc (.cells #[.slice A c.length d] 22)).alloc (.cells #[.slice B m.length d2] 23) = w3 := ⟨_, rfl⟩
  have hb3 : Below w.heap.size w w3 := by rw [← hw3]; exact (((Below.refl _ _).alloc (Nat.le_refl _) _).alloc (by simp) _).alloc (by simp; omega) _
  have hs3 : w3.heap.size = w.heap.size + 3 := by rw [← hw3]; simp
  have hbD : Boxed w3 w.heap.size 3 (.int .i64 data) := by rw [← hw3]; exact ((Boxed.new _ _ _).alloc _).alloc _
  have hbC : Boxed w3 (w.heap.size + 1) 22 (.slice A c.length d) := by
    rw [← hw3]
    have := (Boxed.new (w.alloc (.cells #[.int .i64 data] 3)) 22 (.slice A c.length d)).alloc (.cells #[.slice B m.length d2] 23)
    simpa using this
  have hbH : Boxed w3 (w.heap.size + 2) 23 (.slice B m.length d2) := by
    rw [← hw3]
    have := Boxed.new ((w.alloc (.cells #[.int .i64 data] 3)).alloc (.cells #[.slice A c.length d] 22)) 23 (.slice B m.length d2)
    simpa using this
  have Hco := Lib.hid (contI_any w3 _ c (IntsAt.below hc0 hb3))
  have Hev := Lib.hid (reven_any w3 _ m (RowsAt.below hm0 hb3))
  have hcD := hbD.cell
  have hcC := hbC.cell
  have hcH : w3.cell? ⟨w.heap.size + 1 + 1, 0, none⟩ = some (.slice B m.length d2) := hbH.cell
  have Hc := Lib.hid hc0
  have Hm := Lib.hid hm0
  have HbD := Lib.hid hbD
  have HbC := Lib.hid hbC
  have HbH := Lib.hid hbH
  clear hc0 hm0 hbD hbC hbH
  refine (callsIn_wide (n := 0)).1 ?_
  refine callsIn_of_wp_marks Try.func12 rfl trivial ?_ rfl
  simp only [Try.ntmps12, List.size_toArray, List.length_cons, List.length_nil, Nat.reduceAdd, Nat.reduceSub, Array.replicate_succ, Array.replicate_zero, List.push_toArray, List.append_toArray, List.nil_append, List.cons_append]
  by_cases hlo : data < 1
  · have hp : planB data c m = .error 2 := if_pos (.inl hlo)
    have Hp := Lib.hid hp
    clear hp
    gi_wp2
    refine marks_ret2 rfl rfl ⟨_, ?_, by rw [Hp.out]; exact ints_nil _, hb3⟩
    rw [Hp.out]; rfl
  by_cases hhi : 8 < data
  · have hp : planB data c m = .error 2 := if_pos (.inr hhi)
    have Hp := Lib.hid hp
    clear hp
    gi_wp2
    refine marks_ret2 rfl rfl ⟨_, ?_, by rw [Hp.out]; exact ints_nil _, hb3⟩
    rw [Hp.out]; rfl
  by_cases hlen : 15 < c.length
  · have hp : planB data c m = .error 6 := by unfold planB; rw [if_neg (by omega), if_pos hlen]
    have Hp := Lib.hid hp
    clear hp
    gi_wp2
    refine marks_ret2 rfl rfl ⟨_, ?_, by rw [Hp.out]; exact ints_nil _, hb3⟩
    rw [Hp.out]; rfl
  have hlen' : c.length ≤ 15 := by omega
  cases hbad : c.any badB with
  | true =>
    have hp : planB data c m = .error 2 := by unfold planB; rw [if_neg (by omega), if_neg (by omega), if_pos hbad]
    have Hp := Lib.hid hp
    rw [hbad] at Hco
    clear hp hbad
    gi_wp2_with (refine ⟨trivial, rfl, ?_⟩; gi_at_call 20; refine (callsIn_wide.2 Hco.out).mono ?_; rintro e w' ⟨rfl, rfl⟩)
    refine marks_ret2 rfl rfl ⟨_, ?_, by rw [Hp.out]; exact ints_nil _, hb3⟩
    rw [Hp.out]; rfl
  | false =>
    rw [hbad] at Hco
    have Hbad := Lib.hid hbad
    clear hbad
    by_cases hml : m.length = c.length
    · cases hev : evenB m with
      | false =>
        rw [hev] at Hev
        have hne : ((m.length : Int) != (c.length : Int)) = false := by rw [bne_eq_false_iff_eq]; omega
        have hp : planB data c m = .error 1 := by unfold planB; rw [if_neg (by omega), if_neg (by omega), if_neg (by rw [Hbad.out]; decide), if_pos (.inr hev)]
        have Hp := Lib.hid hp
        have hml2 : m.length ≤ 15 := by omega
        clear hp hml hev
        gi_wp2_with (first
          | (refine ⟨trivial, rfl, ?_⟩; gi_at_call 20; refine (callsIn_wide.2 Hco.out).mono ?_; rintro e w' ⟨rfl, rfl⟩)
          | (refine ⟨trivial, rfl, ?_⟩; gi_at_call 22; refine (callsIn_wide.2 Hev.out).mono ?_; rintro e w' ⟨rfl, rfl⟩))
        refine marks_ret2 rfl rfl ⟨_, ?_, by rw [Hp.out]; exact ints_nil _, hb3.alloc hb3.size _⟩
        rw [Hp.out]; rfl
      | true =>
        rw [hev] at Hev
        have hne : ((m.length : Int) != (c.length : Int)) = false := by rw [bne_eq_false_iff_eq]; omega
        have hml2 : m.length ≤ 15 := by omega
        have Hml := Lib.hid hml
        have Hevn := Lib.hid hev
        clear hml hev
        gi_wp2_with (first
          | (refine ⟨trivial, rfl, ?_⟩; gi_at_call 20; refine (callsIn_wide.2 Hco.out).mono ?_; rintro e w' ⟨rfl, rfl⟩)
          | (refine ⟨trivial, rfl, ?_⟩; gi_at_call 22; refine (callsIn_wide.2 Hev.out).mono ?_; rintro e w' ⟨rfl, rfl⟩)
          | (refine ⟨trivial, rfl, ?_⟩; gi_at_call 23; refine (callsIn_wide.2 (rsets_any _ _)).mono ?_; rintro e w' ⟨rfl, rfl⟩))
        obtain ⟨W0, hW0⟩ : ∃ W0, (((w3.alloc (.cells #[.slice B m.length d2] 23)).alloc (.cells #[.slice none 0 0] 22)).alloc (.cells #[.int .i64 (-1)] 3)).alloc (.cells #[.int .i64 c.length] 3) = W0 := ⟨_, rfl⟩
        have hsz0 : W0.heap.size = w.heap.size + 3 + 1 + 1 + 1 + 1 := by rw [← hW0]; simp [hs3]
        have hb0 : Below w3.heap.size w3 W0 := by rw [← hW0]; exact ((((Below.refl _ _).alloc (Nat.le_refl _) _).alloc (by simp) _).alloc (by simp; omega) _).alloc (by simp; omega) _
        have hnb : W0.cell? ⟨w.heap.size + 3 + 1 + 1 + 1, 0, none⟩ = some (.int .i64 c.length) := by
          rw [← hW0, ← hs3]
          exact World.cell?_alloc_at _ _ _ _ (by simp)
        have hbest : Boxed W0 (w.heap.size + 3 + 1) 22 (.slice none 0 0) := by
          rw [← hW0, ← hs3]
          have := ((Boxed.new (w3.alloc (.cells #[.slice B m.length d2] 23)) 22 (.slice none 0 0)).alloc (.cells #[.int .i64 (-1)] 3)).alloc (.cells #[.int .i64 c.length] 3)
          simpa using this
        have hleast : Boxed W0 (w.heap.size + 3 + 1 + 1) 3 (.int .i64 (-1)) := by
          rw [← hW0, ← hs3]
          have := (Boxed.new ((w3.alloc (.cells #[.slice B m.length d2] 23)).alloc (.cells #[.slice none 0 0] 22)) 3 (.int .i64 (-1))).alloc (.cells #[.int .i64 c.length] 3)
          simpa using this
        have hI0 : PlanI w w.heap.size data (.slice A c.length d) (.slice B m.length d2) c m [] W0 :=
          ⟨hb3.trans (hb0.mono hb3.size), Boxed.below' HbD.out hb0, Boxed.below' HbC.out hb0, Boxed.below' HbH.out hb0, ⟨_, hbest, ints_nil _⟩, hleast⟩
        rw [hW0]
        clear hW0 hbest hleast
        refine wpIn_rangeFunc_all (gf := 31) (lb := #[.pointer (some ⟨w.heap.size + 3 + 1 + 1 + 1, 0, none⟩)]) rfl (enters_of Try.func31 (by kernel_rfl) rfl) (sets_all c.length _ W0 (by omega) hnb)
          (fun k hk => by rw [hk, hsz0]; omega) (fun x args W hr => by obtain ⟨v, rfl, _⟩ := hr; rfl) (fun x args X Y hr ha => by obtain ⟨v, rfl, hv⟩ := hr; exact ⟨v, rfl, hv.aside ha⟩)
          (PlanI w w.heap.size data (.slice A c.length d) (.slice B m.length d2) c m) (fun s X Y hs _ ha => hs.aside ha (by rw [hsz0]; omega)) hI0
          (fun args => { tmps := #[.int .i64 data, .slice A c.length d, .slice B m.length d2, .pointer (some ⟨w.heap.size, 0, none⟩), .pointer (some ⟨w.heap.size + 1, 0, none⟩), .pointer (some ⟨w.heap.size + 1 + 1, 0, none⟩), .slice none 0 0, .int .i64 0,
            .pointer (some ⟨w.heap.size + 3 + 1, 0, none⟩), .pointer (some ⟨w.heap.size + 3 + 1 + 1, 0, none⟩), args.getD 0 undef, undef, undef, .int .i64 data, .bool false, .bool false, .int .i64 data, .bool false, .bool false, .slice A c.length d, .int .i64 c.length,
            .bool (decide ((15 : Int) < c.length)), .slice A c.length d, .bool false, .slice B m.length d2, .int .i64 m.length, .slice A c.length d, .int .i64 c.length, .bool false, .bool false, .slice B m.length d2, .bool true, .bool false, .bool false, .slice A c.length d, .int .i64 c.length,
            .func (.func 31) #[] #[.pointer (some ⟨w.heap.size + 3 + 1 + 1 + 1, 0, none⟩)], args.getD 0 undef, undef, undef, undef, undef, undef, undef, undef, undef, undef, undef, undef, undef, undef, undef, undef, undef, undef, undef, undef, undef, undef, undef, undef, undef, undef], defers := [] })
          ?assign ?body ?done
        case assign =>
          intro l x args W K hr hK
          obtain ⟨v, rfl, hv⟩ := hr
          clear hv
          simp only [Array.getD, List.size_toArray, List.length_cons, List.length_nil, Nat.zero_add, Nat.lt_add_one, dite_true, List.getElem_toArray, List.getElem_cons_zero, Array.getInternal_eq_getElem] at hK
          gi_wp2
          exact hK
        case body =>
          intro l pre x args W hsz hI hr hpre
          obtain ⟨v, rfl, hv⟩ := hr
          have hxl : x.length ≤ c.length := all_len _ _ (hpre.subset (by simp))
          obtain ⟨hB, hD, hC, hH, ⟨vb, hbv, hbi⟩, hl⟩ := hI
          obtain ⟨e2, hcv⟩ := costV_pair c x
          have hrc := rcost_any W (.slice A c.length d) v c x (Hc.out.below hB) hv (by omega)
          rw [hcv] at hrc
          have hq0 := costN_nonneg c x
          have hcC := hC.cell
          have hacc := accOf_snoc data c m pre x
          have Hacc := Lib.hid hacc
          have Hrc := Lib.hid hrc
          have Hpre := Lib.hid hpre
          have HB := Lib.hid hB
          have Hv := Lib.hid hv
          clear hcv hrc hacc hpre hB hv Hco Hev hcD hcH hcC hI0 hnb hb0
          simp only [Array.getD, List.size_toArray, List.length_cons, List.length_nil, Nat.zero_add, Nat.lt_add_one, dite_true, List.getElem_toArray, List.getElem_cons_zero, Array.getInternal_eq_getElem]
          have hcC := hC.cell
          have HC := Lib.hid hC
          have HD := Lib.hid hD
          have HH := Lib.hid hH
          have Hbv := Lib.hid hbv
          have Hbi := Lib.hid hbi
          have Hl := Lib.hid hl
          clear hC hD hH hbv hbi hl
          gi_wp2_with fail
          refine ⟨trivial, rfl, (CallsIn.inRound l (callsIn_wide.2 Hrc.out)).mono ?_⟩
          rintro e w1 ⟨rfl, hb1⟩
          -- behind Cost
          have hcl1 := (Boxed.below' Hl.out hb1).cell
          have hcD1 := (Boxed.below' HD.out hb1).cell
          have hcH1 := (Boxed.below' HH.out hb1).cell
          have hvs := Hv.out.below hb1
          have hB1 := HB.out.trans (hb1.mono HB.out.size)
          have hsu := rsuff_any w1 data v (.slice B m.length d2) x m hvs (Hm.out.below hB1) hmsz (by omega)
          generalize hq : costN c x = q at *
          have Hq := Lib.hid hq
          have HB1 := Lib.hid hB1
          have Hvs := Lib.hid hvs
          have Hb1 := Lib.hid hb1
          clear hq hcC hB1 hvs hb1
          -- what follows where the set is not taken
          have hkeep : ∀ (a2 : Act) (w2 : World), Below w1.heap.size w1 w2 → pick data c m (accOf data c m pre) x = accOf data c m pre → goesOn (fun k => k = w.heap.size + 3 + 1 + 1 + 1 ∨ W0.heap.size ≤ k) (PlanI w w.heap.size data (.slice A c.length d) (.slice B m.length d2) c m) (pre ++ [x]) W .normal a2 w2 := by
            intro a2 w2 hb2 hpk
            have hb := Hb1.out.trans (hb2.mono Hb1.out.size)
            refine ⟨KeepsOn.of_below hb, HB.out.trans (hb.mono HB.out.size), Boxed.below' HD.out hb, Boxed.below' HC.out hb, Boxed.below' HH.out hb, ⟨vb, Boxed.below' Hbv.out hb, ?_⟩, ?_⟩
            · rw [Hacc.out, hpk]; exact Hbi.out.below hb
            · rw [Hacc.out, hpk]; exact Boxed.below' Hl.out hb
          have Hkeep := Lib.hid hkeep
          clear hkeep
          -- what follows where it is taken
          have htake : ∀ (w4 : World) (v' : Value), Below w1.heap.size w1 w4 → IntsAt w4 v' x → (∀ k, v'.ownBlock = some k → w.heap.size + 3 + 1 + 1 < k) → pick data c m (accOf data c m pre) x = some (x, q) →
              (∃ (An : Option Addr) (nn cn : Nat), v' = .slice An nn cn) ∧ (∃ u, w4.cell? ⟨w.heap.size + 3 + 1, 0, none⟩ = some u) ∧ w4.frozen? ⟨w.heap.size + 3 + 1, 0, none⟩ = false ∧
              (∃ u, (w4.setCell ⟨w.heap.size + 3 + 1, 0, none⟩ v').cell? ⟨w.heap.size + 3 + 1 + 1, 0, none⟩ = some u) ∧ (w4.setCell ⟨w.heap.size + 3 + 1, 0, none⟩ v').frozen? ⟨w.heap.size + 3 + 1 + 1, 0, none⟩ = false ∧
              ∀ a2 : Act, goesOn (fun k => k = w.heap.size + 3 + 1 + 1 + 1 ∨ W0.heap.size ≤ k) (PlanI w w.heap.size data (.slice A c.length d) (.slice B m.length d2) c m) (pre ++ [x]) W .normal a2
                ((w4.setCell ⟨w.heap.size + 3 + 1, 0, none⟩ v').setCell ⟨w.heap.size + 3 + 1 + 1, 0, none⟩ (.int .i64 q)) := by
            intro w4 v' hb4 hv' hfar hpk
            have hb := Hb1.out.trans (hb4.mono Hb1.out.size)
            have e1 := Boxed.below' Hbv.out hb
            have e2 := Boxed.below' Hl.out hb
            have f1 := e1.set v'
            have f2 := e2.other (B' := w.heap.size + 3 + 1) (by omega) v'
            have g1 := f1.other (B' := w.heap.size + 3 + 1 + 1) (by omega) (.int .i64 q)
            have g2 := f2.set (.int .i64 q)
            refine ⟨?_, ⟨_, e1.cell⟩, e1.frozen, ⟨_, f2.cell⟩, f2.frozen, fun a2 => ⟨⟨?_, ?_⟩, ?_, ?_, ?_, ?_, ⟨v', g1, ?_⟩, ?_⟩⟩
            · obtain ⟨X, cc, rfl, _⟩ := hv'; exact ⟨X, _, cc, rfl⟩
            · have := hb.size; simp [World.setCell]; exact this
            · intro k hk hkl
              have hk1 : k ≠ w.heap.size + 3 + 1 := by rcases hk with h | h <;> omega
              have hk2 : k ≠ w.heap.size + 3 + 1 + 1 := by rcases hk with h | h <;> omega
              rw [Below.heap_setCell _ _ _ _ hk2, Below.heap_setCell _ _ _ _ hk1]
              exact hb.block k hkl
            · exact ((HB.out.trans (hb.mono HB.out.size)).setCell (p := ⟨w.heap.size + 3 + 1, 0, none⟩) (by show w.heap.size ≤ w.heap.size + 3 + 1; omega) _).setCell (p := ⟨w.heap.size + 3 + 1 + 1, 0, none⟩) (by show w.heap.size ≤ w.heap.size + 3 + 1 + 1; omega) _
            · exact ((Boxed.below' HD.out hb).other (by omega) _).other (by omega) _
            · exact ((Boxed.below' HC.out hb).other (by omega) _).other (by omega) _
            · exact ((Boxed.below' HH.out hb).other (by omega) _).other (by omega) _
            · rw [Hacc.out, hpk]
              exact (hv'.setOther (p := ⟨w.heap.size + 3 + 1, 0, none⟩) (fun k hk => by have := hfar k hk; show k ≠ w.heap.size + 3 + 1; omega) _).setOther (p := ⟨w.heap.size + 3 + 1 + 1, 0, none⟩) (fun k hk => by have := hfar k hk; show k ≠ w.heap.size + 3 + 1 + 1; omega) _
            · rw [Hacc.out, hpk]; exact g2
          have Htake := Lib.hid htake
          clear htake
          cases hac : accOf data c m pre with
          | none =>
            have hl0 : leastOf (accOf data c m pre) = -1 := by rw [hac]; rfl
            rw [hl0] at hcl1
            have Hac := Lib.hid hac
            clear hac hl0
            cases hsb : suffB data (fun r => inB x r) m with
            | false =>
              rw [hsb] at hsu
              have Hsu := Lib.hid hsu
              have hpk : pick data c m (accOf data c m pre) x = accOf data c m pre := by unfold pick; rw [hsb]; simp
              have Hpk := Lib.hid hpk
              clear hsu hsb hpk
              gi_wp2_with fail
              refine ⟨trivial, rfl, (CallsIn.inRound l (callsIn_wide.2 Hsu.out)).mono ?_⟩
              rintro e w2 ⟨rfl, hb2⟩
              gi_wp2
              exact Hkeep.out _ _ hb2 Hpk.out
            | true =>
              rw [hsb] at hsu
              have Hsu := Lib.hid hsu
              have hpk : pick data c m (accOf data c m pre) x = some (x, q) := by unfold pick; rw [hsb, Hac.out, Hq.out]; rfl
              have Hpk := Lib.hid hpk
              clear hsu hsb hpk
              gi_wp2_with fail
              refine ⟨trivial, rfl, (CallsIn.inRound l (callsIn_wide.2 Hsu.out)).mono ?_⟩
              rintro e w2 ⟨rfl, hb2⟩
              have hcl2 := clone_any w2 v x (Hvs.out.below hb2) (by omega)
              have Hcl2 := Lib.hid hcl2
              have Hb2 := Lib.hid hb2
              clear hcl2 hb2
              gi_wp2_with fail
              refine ⟨trivial, rfl, (CallsIn.inRound l (callsIn_wide.2 Hcl2.out)).mono ?_⟩
              rintro e w4 ⟨v', rfl, hown, hb4⟩
              have htk := Htake.out w4 v' (Hb2.out.trans (hb4.mono Hb2.out.size)) (IntsAt.of_own hown) (fun k hk => by have h1 := own_ge hown k hk; have h2 := Hb2.out.size; have h3 := Hb1.out.size; omega) Hpk.out
              obtain ⟨⟨An, nn, cn, rfl⟩, ⟨u4, hcb4⟩, hfb4, ⟨u5, hcl4⟩, hfl4, hend⟩ := htk
              have Hend := Lib.hid hend
              clear hend hown hb4
              gi_wp2
              exact Hend.out _
          | some b =>
            have hl0 : leastOf (accOf data c m pre) = b.2 := by rw [hac]; rfl
            have hb0 : ¬ b.2 < 0 := by have := least_nonneg data c m pre b hac; omega
            rw [hl0] at hcl1
            have Hac := Lib.hid hac
            clear hac hl0
            by_cases hqb : q < b.2
            · cases hsb : suffB data (fun r => inB x r) m with
              | false =>
                rw [hsb] at hsu
                have Hsu := Lib.hid hsu
                have hpk : pick data c m (accOf data c m pre) x = accOf data c m pre := by unfold pick; rw [hsb]; simp
                have Hpk := Lib.hid hpk
                clear hsu hsb hpk
                gi_wp2_with fail
                refine ⟨trivial, rfl, (CallsIn.inRound l (callsIn_wide.2 Hsu.out)).mono ?_⟩
                rintro e w2 ⟨rfl, hb2⟩
                gi_wp2
                exact Hkeep.out _ _ hb2 Hpk.out
              | true =>
                rw [hsb] at hsu
                have Hsu := Lib.hid hsu
                have hpk : pick data c m (accOf data c m pre) x = some (x, q) := by unfold pick; rw [hsb, Hac.out, Hq.out]; simp [better, hqb]
                have Hpk := Lib.hid hpk
                clear hsu hsb hpk
                gi_wp2_with fail
                refine ⟨trivial, rfl, (CallsIn.inRound l (callsIn_wide.2 Hsu.out)).mono ?_⟩
                rintro e w2 ⟨rfl, hb2⟩
                have hcl2 := clone_any w2 v x (Hvs.out.below hb2) (by omega)
                have Hcl2 := Lib.hid hcl2
                have Hb2 := Lib.hid hb2
                clear hcl2 hb2
                gi_wp2_with fail
                refine ⟨trivial, rfl, (CallsIn.inRound l (callsIn_wide.2 Hcl2.out)).mono ?_⟩
                rintro e w4 ⟨v', rfl, hown, hb4⟩
                have htk := Htake.out w4 v' (Hb2.out.trans (hb4.mono Hb2.out.size)) (IntsAt.of_own hown) (fun k hk => by have h1 := own_ge hown k hk; have h2 := Hb2.out.size; have h3 := Hb1.out.size; omega) Hpk.out
                obtain ⟨⟨An, nn, cn, rfl⟩, ⟨u4, hcb4⟩, hfb4, ⟨u5, hcl4⟩, hfl4, hend⟩ := htk
                have Hend := Lib.hid hend
                clear hend hown hb4
                gi_wp2
                exact Hend.out _
            · have hpk : pick data c m (accOf data c m pre) x = accOf data c m pre := by unfold pick; rw [Hac.out, Hq.out]; simp [better, hqb]
              have Hpk := Lib.hid hpk
              have Hsu := Lib.hid hsu
              clear hpk hsu
              gi_wp2_with fail
              refine ⟨trivial, ?_⟩
              gi_wp2
              exact Hkeep.out _ _ (Below.refl _ _) Hpk.out
        case done =>
          intro D W hD hI hk
          obtain ⟨hB, _, _, _, ⟨vb, hbv, hbi⟩, hl⟩ := hI
          have hA := Aside.putObj (n := w.heap.size) (A := W) (.deferred none) (by omega) hk rfl
          have hp : planB data c m = planEnd ((allSets c.length).foldl (pick data c m) none) := by
            unfold planB
            rw [if_neg (by omega), if_neg (by omega), if_neg (by rw [Hbad.out]; decide), if_neg (by rintro (h | h); exact h Hml.out; rw [Hevn.out] at h; cases h)]
          have Hp := Lib.hid hp
          have hcb := hbv.cell
          have hcl := hl.cell
          have Hbi := Lib.hid hbi
          have HB := Lib.hid hB
          clear hp hbi hbv hl hI0 hnb hb0 hB
          cases hac : accOf data c m (allSets c.length) with
          | none =>
            have hl0 : leastOf (accOf data c m (allSets c.length)) = -1 := by rw [hac]; rfl
            rw [hl0] at hcl
            have hac' : (allSets c.length).foldl (pick data c m) none = none := hac
            have hp2 := Hp.out
            rw [hac'] at hp2
            have Hp2 := Lib.hid hp2
            clear hac hl0 hac' hp2
            gi_wp2
            refine ⟨by simp, .inl ⟨_, _, rfl, run_takeDeferred hk, _, results_tmp2 rfl _ _ _, _, ?_, by rw [Hp2.out]; exact ints_nil _, Aside.below hA HB.out⟩⟩
            rw [Hp2.out]; rfl
          | some b =>
            have hl0 : leastOf (accOf data c m (allSets c.length)) = b.2 := by rw [hac]; rfl
            have hbo : bestOf (accOf data c m (allSets c.length)) = b.1 := by rw [hac]; rfl
            have hb0 : ¬ b.2 < 0 := by have := least_nonneg data c m _ b hac; omega
            rw [hl0] at hcl
            have hac' : (allSets c.length).foldl (pick data c m) none = some b := hac
            have hp2 := Hp.out
            rw [hac'] at hp2
            have hbi2 := Hbi.out
            rw [hbo] at hbi2
            have Hp2 := Lib.hid hp2
            have Hbi2 := Lib.hid hbi2
            clear hac hl0 hac' hp2 hbo hbi2
            gi_wp2
            refine ⟨by simp, .inl ⟨_, _, rfl, run_takeDeferred hk, _, results_tmp2 rfl _ _ _, _, ?_, by rw [Hp2.out]; exact Hbi2.out.aside hA, Aside.below hA HB.out⟩⟩
            rw [Hp2.out]; rfl
    · have hne : ((m.length : Int) != (c.length : Int)) = true := by rw [bne_iff_ne]; omega
      have hp : planB data c m = .error 1 := by unfold planB; rw [if_neg (by omega), if_neg (by omega), if_neg (by rw [Hbad.out]; decide), if_pos (.inl hml)]
      have Hp := Lib.hid hp
      clear hp hml
      gi_wp2_with (refine ⟨trivial, rfl, ?_⟩; gi_at_call 20; refine (callsIn_wide.2 Hco.out).mono ?_; rintro e w' ⟨rfl, rfl⟩)
      refine ⟨trivial, ?_⟩
      gi_wp2
      refine marks_ret2 rfl rfl ⟨_, ?_, by rw [Hp.out]; exact ints_nil _, hb3⟩
      rw [Hp.out]; rfl

end Go.Proofs.Ytgclbnfpipepfaa
