/-
  WALKS: the reference's Cost of layer 56.
-/
import Derived.Test.YtgclbnfpipepfaaRefB
namespace Go.Proofs.Ytgclbnfpipepfaa
open Go.RowKit

/-- The reel's cost, where the number is a reel and its cost is from 0 to 1000000000. -/
def okAt (c : List Int) (r : Int) : Bool := decide (0 ≤ r) && decide (r < c.length) && decide (0 ≤ c.getD r.toNat 0) && decide (c.getD r.toNat 0 ≤ 1000000000)
def dsum (c l : List Int) : Nat → Int
  | 0 => 0
  | k + 1 => dsum c l k + if inB (l.take k) (l.getD k 0) then 0 else c.getD (l.getD k 0).toNat 0
def costB (c l : List Int) : Option Int := if l.all (okAt c) then some (dsum c l l.length) else none
def costV : Option Int → Value
  | some n => .tuple #[.int .i64 n, .int .i64 0]
  | none => .tuple #[.int .i64 0, .int .i64 2]
theorem okAt_out {c : List Int} {r : Int} (h : okAt c r = true) : 0 ≤ r ∧ r < c.length ∧ 0 ≤ c.getD r.toNat 0 ∧ c.getD r.toNat 0 ≤ 1000000000 := by
  unfold okAt at h
  simp only [Bool.and_eq_true, decide_eq_true_eq] at h
  exact ⟨h.1.1.1, h.1.1.2, h.1.2, h.2⟩
theorem okAt_yes {c : List Int} {r : Int} (h1 : 0 ≤ r) (h2 : r < c.length) (h3 : 0 ≤ c.getD r.toNat 0) (h4 : c.getD r.toNat 0 ≤ 1000000000) : okAt c r = true := by
  unfold okAt
  rw [decide_eq_true h1, decide_eq_true h2, decide_eq_true h3, decide_eq_true h4]; rfl
theorem dsum_bd {c l : List Int} (k : Nat) (hk : k ≤ l.length) (h : ∀ (j : Nat) (r : Int), j < k → l[j]? = some r → okAt c r = true) : 0 ≤ dsum c l k ∧ dsum c l k ≤ k * 1000000000 := by
  induction k with
  | zero => simp [dsum]
  | succ k ih =>
    have ih := ih (by omega) fun j r hj => h j r (by omega)
    have hg : l.getD k 0 = l[k] := by simp [List.getD, List.getElem?_eq_getElem (show k < l.length by omega)]
    have ho := okAt_out (h k l[k] (by omega) (List.getElem?_eq_getElem (by omega)))
    rw [← hg] at ho
    rw [dsum]
    split <;> omega
theorem costB_no {c l : List Int} (k : Nat) (r : Int) (h : l[k]? = some r) (hr : okAt c r = false) : costB c l = none := by
  unfold costB
  rw [if_neg]
  intro ha
  have := List.all_eq_true.1 ha r (List.mem_of_getElem? h)
  rw [hr] at this
  cases this
theorem costB_yes {c l : List Int} (h : ∀ (k : Nat) (r : Int), l[k]? = some r → okAt c r = true) : costB c l = some (dsum c l l.length) := by
  unfold costB
  rw [if_pos]
  rw [List.all_eq_true]
  intro r hr
  obtain ⟨k, hk⟩ := List.mem_iff_getElem?.1 hr
  exact h k r hk

set_option maxHeartbeats 1000000 in
theorem xcost_any (w : World) (vc vl : Value) (c l : List Int) (hc : IntsAt w vc c) (hl : IntsAt w vl l) (hsz : l.length ≤ 1000000) :
    Calls Try.prog 16 #[vc, vl] w fun e w' => e = .returned (costV (costB c l)) ∧ w = w' := by
  obtain ⟨C, cc, rfl, g1, g2, g3⟩ := hc
  obtain ⟨A, d, rfl, h1, h2, h3⟩ := hl
  go_enter Try.func16, Try.ntmps16
  go_wp2
  go_loop [6, 7] (fun q i => ∃ k : Nat, k ≤ l.length ∧ i = .int .i64 k ∧ q = .int .i64 (dsum c l k) ∧ ∀ (j : Nat) (r : Int), j < k → l[j]? = some r → okAt c r = true) (fun _ i => l.length - (intOf i).toNat)
  case atStart => exact ⟨0, Nat.zero_le _, rfl, rfl, fun j r h => absurd h (Nat.not_lt_zero _)⟩
  case round =>
    obtain ⟨k, hk, rfl, rfl, hr⟩ := hrel
    have hbd := dsum_bd k hk hr
    obtain ⟨hb1, hb2⟩ := hbd
    by_cases hlt : k < l.length
    · obtain ⟨b, o, u, rfl, hck, rfl⟩ := h3 k l[k] (List.getElem?_eq_getElem hlt)
      have Hr := Lib.hid hr
      have H3 := Lib.hid h3
      have G3 := Lib.hid g3
      have hkI : (k : Int) < l.length := by omega
      have hkd : k ≤ d := by omega
      clear hr h3 g3
      by_cases hr0 : l[k] < 0
      · go_wp2
        go_ret2
        exact ⟨by rw [costB_no k _ (List.getElem?_eq_getElem hlt) (by unfold okAt; rw [decide_eq_false (p := 0 ≤ l[k]) (by omega)]; rfl)]; rfl, rfl⟩
      have hr0' : 0 ≤ l[k] := by omega
      by_cases hrn : (c.length : Int) ≤ l[k]
      · go_wp2
        go_ret2
        exact ⟨by rw [costB_no k _ (List.getElem?_eq_getElem hlt) (by unfold okAt; rw [decide_eq_false (p := l[k] < _) (by omega)]; simp)]; rfl, rfl⟩
      have hrn' : l[k] < (c.length : Int) := by omega
      obtain ⟨n, hn⟩ : ∃ n : Nat, l[k] = n := ⟨l[k].toNat, by omega⟩
      have hnc : n < c.length := by omega
      have hgl : l.getD k 0 = n := by simp [List.getD, List.getElem?_eq_getElem hlt, hn]
      have hgc : c.getD n 0 = c[n] := by simp [List.getD, List.getElem?_eq_getElem hnc]
      obtain ⟨b2, o2, u2, rfl, hcn, rfl⟩ := G3.out n c[n] (List.getElem?_eq_getElem hnc)
      have hge : l[k]? = some (n : Int) := by rw [List.getElem?_eq_getElem hlt, hn]
      rw [hn] at hck
      have Hgl := Lib.hid hgl
      have Hgc := Lib.hid hgc
      have Hge := Lib.hid hge
      have Hn := Lib.hid hn
      have hnI : (n : Int) < c.length := by omega
      clear hgl hgc hge hr0 hr0' hrn hrn' hn
      by_cases hlo : c[n] < 0
      · go_wp2
        go_ret2
        exact ⟨by rw [costB_no k _ Hge.out (by unfold okAt; rw [Int.toNat_natCast, Hgc.out, decide_eq_false (p := 0 ≤ c[n]) (by omega)]; simp)]; rfl, rfl⟩
      have hlo' : 0 ≤ c[n] := by omega
      by_cases hhi : 1000000000 < c[n]
      · go_wp2
        go_ret2
        exact ⟨by rw [costB_no k _ Hge.out (by unfold okAt; rw [Int.toNat_natCast, Hgc.out, decide_eq_false (p := c[n] ≤ _) (by omega)]; simp)]; rfl, rfl⟩
      have hhi' : c[n] ≤ 1000000000 := by omega
      have hok : okAt c n = true := okAt_yes (by omega) hnI (by rw [Int.toNat_natCast, Hgc.out]; exact hlo') (by rw [Int.toNat_natCast, Hgc.out]; exact hhi')
      have Hok := Lib.hid hok
      have hstep : ∀ (j : Nat) (r : Int), j < k + 1 → l[j]? = some r → okAt c r = true := fun j r hj he => by
        rcases Nat.lt_succ_iff_lt_or_eq.1 hj with h | rfl
        · exact Hr.out j r h he
        · rw [Hge.out] at he
          cases he
          exact Hok.out
      have Hstep := Lib.hid hstep
      have hlen : (l.take k).length = k := by rw [List.length_take]; omega
      have hin := in_any w (.slice (some ⟨b, o, none⟩) k d) (l.take k) n ⟨_, d, by rw [hlen], by omega, h2, fun i x hi => by
        rw [List.getElem?_take] at hi
        split at hi
        · exact H3.out i x hi
        · cases hi⟩
      have hds : dsum c l (k + 1) = dsum c l k + if inB (l.take k) n then 0 else c[n] := by rw [dsum, Hgl.out, Int.toNat_natCast, Hgc.out]
      clear hok hstep hlen
      cases hb : inB (l.take k) n with
      | true =>
        rw [hb] at hin hds
        have Hin := Lib.hid hin
        have Hds := Lib.hid hds
        clear hin hds hb
        go_wp2_with (go_at_call 27; refine Hin.out.mono ?_; rintro e w' ⟨rfl, rfl⟩)
        go_round
        case rel => exact ⟨k + 1, by omega, by go_num, by rw [Hds.out]; simp, Hstep.out⟩
        case measure => simp [intOf]; omega
      | false =>
        rw [hb] at hin hds
        have Hin := Lib.hid hin
        have Hds := Lib.hid hds
        clear hin hds hb
        go_wp2_with (go_at_call 27; refine Hin.out.mono ?_; rintro e w' ⟨rfl, rfl⟩)
        go_round
        case rel => exact ⟨k + 1, by omega, by go_num, by rw [Hds.out]; simp, Hstep.out⟩
        case measure => simp [intOf]; omega
    · have hkl : k = l.length := by omega
      subst hkl
      have Hr := Lib.hid hr
      have H3 := Lib.hid h3
      have G3 := Lib.hid g3
      clear hr h3 g3
      go_wp2
      go_ret2
      refine ⟨?_, rfl⟩
      rw [costB_yes fun j r he => Hr.out j r (List.getElem?_eq_some_iff.1 he).1 he]
      rfl

end Go.Proofs.Ytgclbnfpipepfaa
