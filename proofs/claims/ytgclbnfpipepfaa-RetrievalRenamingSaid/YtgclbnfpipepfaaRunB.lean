/-
  WALKS: the program's Cost of layer 56.
-/
import Derived.Test.YtgclbnfpipepfaaRunA
import Derived.Test.YtgclbnfpipepfaaSetMap
namespace Go.Proofs.Ytgclbnfpipepfaa
open Go.RowKit Go.Maps

theorem keyI : Keyed Try.prog 3 := int_keyed Try.underlying3
theorem zeroB (w : World) : (zeroValue 4).run Try.prog w = .ok (.bool false) w := by kernel_rfl
theorem wf_nat {n : Nat} (h : n ≤ 9223372036854775807) : (Lit.int .i64 (n : Int)).wf = true := WalkArith.wf_i64 (by omega)

theorem inB_take (l : List Int) (k : Nat) (hk : k < l.length) (x : Int) : inB (l.take (k + 1)) x = (inB (l.take k) x || x == l[k]) := by
  unfold inB
  rw [List.take_succ_eq_append_getElem hk, List.any_append]
  simp only [List.any_cons, List.any_nil, Bool.or_false]
  congr 1
  rw [Bool.eq_iff_iff, beq_iff_eq, beq_iff_eq]
  exact eq_comm

set_option maxHeartbeats 1000000 in
theorem rcost_any (w : World) (vc vl : Value) (c l : List Int) (hc : IntsAt w vc c) (hl : IntsAt w vl l) (hsz : l.length ≤ 1000000) :
    Calls Try.prog 15 #[vc, vl] w fun e w' => e = .returned (costV (costB c l)) ∧ Below w.heap.size w w' := by
  obtain ⟨C, cc, rfl, g1, g2, g3⟩ := hc
  obtain ⟨A, d, rfl, h1, h2, h3⟩ := hl
  have hmm := @run_makeMap Try.prog
  go_enter Try.func15, Try.ntmps15
  go_wp2
  go_loopw [6, 13] (fun q i wr => ∃ (k : Nat) (D : DataW Unit), k ≤ l.length ∧ i = .int .i64 k ∧ q = .int .i64 (dsum c l k) ∧ (∀ (j : Nat) (r : Int), j < k → l[j]? = some r → okAt c r = true) ∧
      wr.ownsMap Try.prog 3 (plainElem Try.prog 4) w.heap.size k D ∧ SetD D (fun x => inB (l.take k) x) ∧ Below w.heap.size w wr) (fun _ i _ => l.length - (intOf i).toNat)
  case atStart => exact ⟨0, .map [], Nat.zero_le _, rfl, rfl, fun j r h => absurd h (Nat.not_lt_zero _), World.ownsMap_made _ _ _ _, SetD.empty.congr (fun x => rfl), (Below.refl _ _).alloc (Nat.le_refl _) _⟩
  case round =>
    obtain ⟨k, D, hk, rfl, rfl, hr, hown, hD, hB⟩ := hrel
    have hbd := dsum_bd k hk hr
    obtain ⟨hb1, hb2⟩ := hbd
    have HD := Lib.hid hD
    clear hD
    by_cases hlt : k < l.length
    · obtain ⟨b, o, u, rfl, hck, rfl⟩ := h3 k l[k] (List.getElem?_eq_getElem hlt)
      replace hck := cell_below hB hck
      have Hr := Lib.hid hr
      have H3 := Lib.hid h3
      have G3 := Lib.hid g3
      have hkI : (k : Int) < l.length := by omega
      have hkd : k ≤ d := by omega
      clear hr h3 g3
      by_cases hr0 : l[k] < 0
      · go_wp2
        go_ret2
        exact ⟨by rw [costB_no k _ (List.getElem?_eq_getElem hlt) (by unfold okAt; rw [decide_eq_false (p := 0 ≤ l[k]) (by omega)]; rfl)]; rfl, hB⟩
      have hr0' : 0 ≤ l[k] := by omega
      by_cases hrn : (c.length : Int) ≤ l[k]
      · go_wp2
        go_ret2
        exact ⟨by rw [costB_no k _ (List.getElem?_eq_getElem hlt) (by unfold okAt; rw [decide_eq_false (p := l[k] < _) (by omega)]; simp)]; rfl, hB⟩
      have hrn' : l[k] < (c.length : Int) := by omega
      obtain ⟨n, hn⟩ : ∃ n : Nat, l[k] = n := ⟨l[k].toNat, by omega⟩
      have hnc : n < c.length := by omega
      have hgl : l.getD k 0 = n := by simp [List.getD, List.getElem?_eq_getElem hlt, hn]
      have hgc : c.getD n 0 = c[n] := by simp [List.getD, List.getElem?_eq_getElem hnc]
      obtain ⟨b2, o2, u2, rfl, hcn, rfl⟩ := G3.out n c[n] (List.getElem?_eq_getElem hnc)
      have hcnw := hcn
      replace hcn := cell_below hB hcn
      have hge : l[k]? = some (n : Int) := by rw [List.getElem?_eq_getElem hlt, hn]
      have htk : ∀ x, inB (l.take (k + 1)) x = (inB (l.take k) x || x == n) := fun x => by rw [inB_take l k hlt, hn]
      rw [hn] at hck
      have Htk := Lib.hid htk
      have Hgl := Lib.hid hgl
      have Hgc := Lib.hid hgc
      have Hge := Lib.hid hge
      have Hn := Lib.hid hn
      have Hcnw := Lib.hid hcnw
      have hnI : (n : Int) < c.length := by omega
      clear hgl hgc hge hr0 hr0' hrn hrn' hn htk hcnw
      by_cases hlo : c[n] < 0
      · go_wp2
        go_ret2
        exact ⟨by rw [costB_no k _ Hge.out (by unfold okAt; rw [Int.toNat_natCast, Hgc.out, decide_eq_false (p := 0 ≤ c[n]) (by omega)]; simp)]; rfl, hB⟩
      have hlo' : 0 ≤ c[n] := by omega
      by_cases hhi : 1000000000 < c[n]
      · go_wp2
        go_ret2
        exact ⟨by rw [costB_no k _ Hge.out (by unfold okAt; rw [Int.toNat_natCast, Hgc.out, decide_eq_false (p := c[n] ≤ _) (by omega)]; simp)]; rfl, hB⟩
      have hhi' : c[n] ≤ 1000000000 := by omega
      have hok : okAt c n = true := okAt_yes (by omega) hnI (by rw [Int.toNat_natCast, Hgc.out]; exact hlo') (by rw [Int.toNat_natCast, Hgc.out]; exact hhi')
      have Hok := Lib.hid hok
      have hstep : ∀ (j : Nat) (r : Int), j < k + 1 → l[j]? = some r → okAt c r = true := fun j r hj he => by
        rcases Nat.lt_succ_iff_lt_or_eq.1 hj with h | rfl
        · exact Hr.out j r h he
        · rw [Hge.out] at he
          cases he
          exact Hok.out
      have Hstep := Lib.hid hstep
      have hds : dsum c l (k + 1) = dsum c l k + if inB (l.take k) n then 0 else c[n] := by rw [dsum, Hgl.out, Int.toNat_natCast, Hgc.out]
      have hkey : keyOf Try.prog 3 (.int .i64 n) = some (.int .i64 n) := keyOf_int_mk Try.underlying3 (wf_nat (by omega))
      have hat := HD.out.at_ n
      clear hok hstep
      cases hb : inB (l.take k) n with
      | true =>
        rw [hb] at hds hat
        have Hds := Lib.hid hds
        have Hb := Lib.hid hb
        have Hat := Lib.hid hat
        clear hds hb hat
        go_wp2_with (at_lookup; refine wpList_lookup_own_bool _ rfl _ _ 46 rfl 3 4 keyI Try.underlying46 Try.underlying4 (zeroB _) w.heap.size k D rfl hown _ _ rfl hkey true Hat.out ?_)
        go_roundw
        case rel =>
          refine ⟨k + 1, D, by omega, by go_num, by rw [Hds.out]; simp, Hstep.out, hown.mono (by omega), HD.out.congr fun x => ?_, hB⟩
          rw [Htk.out]
          by_cases e : x = n
          · rw [e, Hb.out]; rfl
          · simp [e]
        case measure => simp [intOf]; omega
      | false =>
        rw [hb] at hds hat
        have Hds := Lib.hid hds
        have Hb := Lib.hid hb
        have Hat := Lib.hid hat
        clear hds hb hat
        go_wp2_with (first
          | (at_lookup; refine wpList_lookup_own_bool _ rfl _ _ 46 rfl 3 4 keyI Try.underlying46 Try.underlying4 (zeroB _) w.heap.size k D rfl hown _ _ rfl hkey false Hat.out ?_)
          | (at_mapUpdate; refine wpList_mapUpdate_own _ rfl _ _ _ 46 rfl 3 4 keyI Try.underlying46 _ w.heap.size k _ rfl hown (by unfold maxLen; omega) _ _ _ rfl rfl hkey _ [] (plainElem_bool Try.underlying4 true) ?_; intro w1 hown1 hgrow1; have hB1 := hB.grown hgrow1 hB.size (fun j hj => by cases hj; exact Nat.le_refl _); have hcn1 := cell_below hB1 Hcnw.out))
        go_roundw
        case rel => exact ⟨k + 1, _, by omega, by go_num, by rw [Hds.out]; simp, Hstep.out, hown1, (HD.out.put n).congr fun x => (Htk.out x).symm, hB1⟩
        case measure => simp [intOf]; omega
    · have hkl : k = l.length := by omega
      subst hkl
      have Hr := Lib.hid hr
      have H3 := Lib.hid h3
      have G3 := Lib.hid g3
      clear hr h3 g3
      go_wp2
      go_ret2
      refine ⟨?_, hB⟩
      rw [costB_yes fun j r he => Hr.out j r (List.getElem?_eq_some_iff.1 he).1 he]
      rfl

end Go.Proofs.Ytgclbnfpipepfaa
