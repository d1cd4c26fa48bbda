/-
  Joined: MgC.
-/
import Derived.Test.YtbccghbngaiceaaGreatDoorMMn37
set_option linter.all false
set_option maxRecDepth 100000
set_option maxHeartbeats 64000000
namespace Go.Proofs.YtbccghbngaiceaaGreatDoor
section
open Go.RowKit
def RetHX (w' : World) (R : Int × List Hol) (e : Ending) : Prop := ∃ v, e = .returned (.tuple #[v, .int .i64 R.1]) ∧ SeqAt holS w' v R.2
theorem date38_ex (w : World) (s : ByteArray) (hd : dateB (bs s) = true) : Calls Tryz.prog 139 #[.string s] w fun e w' => e = .returned (.int .i64 ((valD (bs s) : Nat) : Int)) ∧ w = w' := by
 obtain ⟨R, hR⟩ : ∃ R, valD (bs s) = R := ⟨_, rfl⟩
 rw [hR]
 rw [dateB, Bool.and_eq_true, Bool.and_eq_true] at hd
 have hd1 := of_decide_eq_true hd.1
 rw [bs_len] at hd1
 have hall := hd.2.1
 have hle := of_decide_eq_true hd.2.2
 rw [hR] at hle
 have HR := Lib.hid hR
 have HA := Lib.hid hall
 have h0 : 0 < s.size := by omega
 have i1 : s.toList.isEmpty = false := isEmptyV (by omega)
 have i2 : ¬ (10 : Int) < s.size := by omega
 have i0 : (0 : Int) < s.size := by omega
 have hz : ((1 : Int) < s.size ∧ (((s[0]'h0).toNat : Int) == 48) = false) ∨ ¬ (1 : Int) < s.size := by
  by_cases h3 : 1 < s.size
  ·refine .inl ⟨by omega, ?_⟩
   rw [beq_eq_false_iff_ne]
   intro e
   exact hd1.2.2 ⟨h3, by rw [bsc s 0 h0]; omega⟩
  ·exact .inr (by omega)
 have hsz : s.size ≤ 10 := hd1.2.1
 clear hd hd1 hall hR
 rcases hz with ⟨i3, i4⟩ | i3
 all_goals
  go_enter Tryz.func139, Tryz.ntmps139
  go_wp2
  go_loop [3, 4] (fun y x => ∃ k n : Nat, k ≤ s.size ∧ x = .int .i64 (k : Int) ∧ y = .int .i64 (n : Int) ∧ n < 10 ^ k ∧ n = valD ((bs s).take k)) (fun _ x => s.size - (intOf x).toNat)
  case atStart => exact ⟨0, 0, by omega, rfl, rfl, by decide, rfl⟩
  case round =>
   obtain ⟨k, n, hk, rfl, rfl, hn, hv⟩ := hrel
   have HV := Lib.hid hv
   clear hv
   have hn2 : 10 ^ k ≤ 10 ^ 10 := Nat.pow_le_pow_right (by decide) (by omega)
   have hn3 : n < 10000000000 := by omega
   by_cases h : k < s.size
   ·have hkI : (k : Int) < s.size := by omega
    have hj : k < (bs s).length := by rw [bs_len]; exact h
    have ht : (bs s).take (k + 1) = (bs s).take k ++ [(s[k]'h).toNat] := by
     rw [List.take_succ_eq_append_getElem hj, ← cf_get (List.getElem?_eq_getElem hj), bsc s k h]
    have hdg : digB (s[k]'h).toNat = true := by
     have := HA.out
     rw [← List.take_append_drop (k + 1) (bs s), List.all_append, ht, List.all_append, Bool.and_eq_true, Bool.and_eq_true] at this
     simpa using this.1.2
    have hdg := of_decide_eq_true hdg
    have f0 : ¬ ((s[k]'h).toNat : Int) < 48 := by omega
    have f1 : ¬ (57 : Int) < ((s[k]'h).toNat : Int) := by omega
    have HNv : Hid (valD ((bs s).take (k + 1)) = 10 * n + ((s[k]'h).toNat - 48)) := Lib.hid (by rw [ht, valD, List.foldl_append, HV.out]; rfl)
    obtain ⟨c, hc⟩ : ∃ c, (s[k]'h).toNat = c + 48 := ⟨(s[k]'h).toNat - 48, by omega⟩
    have hc9 : c ≤ 9 := by omega
    have hcI : ((s[k]'h).toNat : Int) - 48 = (c : Int) := by omega
    have hcM : (((s[k]'h).toNat : Int) - 48) % 256 = (c : Int) := by omega
    have hnn : n * 10 + c < 10 ^ (k + 1) := by rw [Nat.pow_succ]; omega
    have HN := Lib.hid hnn
    have HNw : Hid (n * 10 + c = valD ((bs s).take (k + 1))) := Lib.hid (by have := HNv.out; omega)
    clear hdg ht hj hn hn2 hnn hc HNv
    go_wp2
    go_round
    case rel => exact ⟨k + 1, n * 10 + c, by omega, by go_num, by go_num, HN.out, HNw.out⟩
    case measure => simp [intOf]; omega
   ·have hkI : ¬ (k : Int) < s.size := by omega
    have HE : Hid (n = R) := Lib.hid (by rw [HV.out, ← HR.out, List.take_of_length_le (by rw [bs_len]; omega)])
    have i9 : ¬ (1000000000 : Int) < n := by have := HE.out; omega
    clear hn hn2
    go_wp2
    go_ret
    exact ⟨by rw [HE.out] <;> rfl, rfl⟩
theorem insert38_ex (w : World) (v : Value) (l : List Hol) (hv : SeqAt holS w v l) (hl : l.length ≤ 100000) (hz : ∀ h ∈ l, h.p.size ≤ 1000000) (p : ByteArray) (u : Int) (hp : p.size ≤ 1000000) :
  Calls Tryz.prog 141 #[v, .agg #[.string p, .int .i64 u]] w fun e w' => RetHols w w' (fun m => m = insF (fun h => decide (pcmp p h.p < 0)) ⟨p, u⟩ l) e ∧ Below w.heap.size w w' := by
 have HCm := Lib.hid (fun (W : World) (q : ByteArray) (hq : q.size ≤ 1000000) => compare31_ex W p q hp hq)
 obtain ⟨R, hR⟩ : ∃ R, insF (fun h => decide (pcmp p h.p < 0)) ⟨p, u⟩ l = R := ⟨_, rfl⟩
 rw [hR]
 have HR := Lib.hid hR
 clear hR
 have Hz := Lib.hid hz
 have Hla := Lib.hid hl
 obtain ⟨A, c, rfl, h1, h2⟩ := hv.slice
 have hK := Blk.new w 196 [.string p, .int .i64 u]
 change Blk (w.alloc (.cells #[.string p, .int .i64 u] 196)) _ _ _ at hK
 have HK := Lib.hid hK
 have HKl : Hid (w.heap.size < (w.alloc (.cells #[.string p, .int .i64 u] 196)).heap.size) := Lib.hid (by rw [World.size_alloc]; omega)
 have HB0 := Lib.hid ((Below.refl w.heap.size w).alloc (Nat.le_refl _) (.cells #[.string p, .int .i64 u] 196))
 have Hv := Lib.hid (hv.below HB0.out)
 clear hK hv hz hl
 go_enter Tryz.func141, Tryz.ntmps141
 go_upto_region 1 with fail
 generalize w.alloc (.cells #[.string p, .int .i64 u] 196) = wa at *
 go_wp2
 go_loopw [5] (fun x wr => ∃ i : Nat, i ≤ l.length ∧ x = .int .i64 (i : Int) ∧ Below wa.heap.size wa wr ∧ l.take i ++ insF (fun h => decide (pcmp p h.p < 0)) ⟨p, u⟩ (l.drop i) = R) (fun x _ => l.length - (intOf x).toNat)
 case atStart => exact ⟨0, by omega, rfl, Below.refl _ _, by rw [List.take_zero, List.nil_append, List.drop_zero]; exact HR.out⟩
 case round =>
  obtain ⟨i, hi, rfl, hB, hq⟩ := hrel
  have HQ := Lib.hid hq
  clear hq
  have HBc := Lib.hid hB
  have HKc := Lib.hid (HK.out.kept hB)
  clear hB
  by_cases h : i < l.length
  ·have hiI : (i : Int) < l.length := by omega
   obtain ⟨x, hx⟩ : ∃ x, l[i]? = some x := ⟨_, List.getElem?_eq_getElem h⟩
   have Hxz := Lib.hid (Hz.out x (List.mem_of_getElem? hx))
   have HFi : Hid (pcmp p x.p < 0 → ([] ++ l.take i ++ [(⟨p, u⟩ : Hol)]) ++ l.drop i = R) := Lib.hid (fun h9 => by rw [← HQ.out, insF_drop hx, if_pos (decide_eq_true h9)]; simp)
   have HNx : Hid (0 ≤ pcmp p x.p → l.take (i + 1) ++ insF (fun h => decide (pcmp p h.p < 0)) ⟨p, u⟩ (l.drop (i + 1)) = R) := Lib.hid (fun h9 => by rw [← HQ.out, insF_drop hx, if_neg (by rw [decide_eq_false (by omega)]; decide), List.take_add_one, hx]; simp)
   obtain ⟨_, _, e9, _, _, h4⟩ := Hv.out
   cases e9
   obtain ⟨b, o, cs, rfl, rfl, hc⟩ := h4 i x hx
   have HL0 : Hid (wa.cell? ⟨b, o + i * 2, none⟩ = some (.string x.p)) := Lib.hid (hc 0 _ rfl)
   obtain ⟨q, uq⟩ := x
   dsimp only at HL0 Hxz HFi HNx
   clear hc h4 hx
   have HT := Lib.hid (Hv.out.take (m := i) hi)
   have HD := Lib.hid (Hv.out.drop (m := i) hi)
   have HL4 : Hid (([] : List Hol).length + (l.take i).length ≤ 100000000) := Lib.hid (by have := Hla.out; rw [List.length_take]; simp; omega)
   have HL7 : Hid (([] ++ l.take i).length + 1 ≤ 100000000) := Lib.hid (by have := Hla.out; simp; omega)
   have HL11 : Hid (([] ++ l.take i ++ [(⟨p, u⟩ : Hol)]).length + (l.drop i).length ≤ 100000000) := Lib.hid (by have := Hla.out; simp; omega)
   obtain ⟨r, hr⟩ : ∃ r, l.length - i = r := ⟨_, rfl⟩
   have hic : (i : Int) ≤ c := by omega
   have hicn : i ≤ c := by omega
   have hne : ¬ c = i := by omega
   clear hr
   have HKc := Lib.hid HKc.out.drewW
   have HBc := Lib.hid HBc.out.drew
   go_upto_region 4 with fail
   refine wp_region_held_drew (S := (fun W => W.cell? ⟨w.heap.size, 0, none⟩ = some (.string p) ∧ W.cell? ⟨b, o + i * 2, none⟩ = some (.string q))) (by kernel_rfl) ?_ (fun hHeld => ?_)
   ·exact ⟨HKc.out.cell (i := 0) rfl, cell_below HBc.out HL0.out⟩
   refine tk 0 ?_
   refine tk 1 ?_
   refine tk 2 ?_
   refine tk 3 ?_
   refine tk 4 ?_
   refine tk 5 ?_
   refine tk 6 ?_
   refine wpAnyH_ready (rs := [7]) (by kernel_rfl) (by simp) ?_
   refine AllReadyH.cons (o := _) rfl (fun K hK => ?_) ?_
   ·go_simp
    refine (HCm.out _ q Hxz.out).mono ?_
    rintro e2 w2 ⟨rfl, hb2⟩
    obtain ⟨n, hn⟩ : ∃ n, pcmp p q = n := ⟨_, rfl⟩
    rw [hn] at HFi HNx ⊢
    clear hn
    (try go_wp2_with fail)
    have HKc := Lib.hid (HKc.out.kept hb2)
    have HBc := Lib.hid (HBc.out.trans (hb2.mono HBc.out.size))
    clear hb2
    refine hko hK (by exact ⟨HKc.out.cell (i := 0) rfl, cell_below HBc.out HL0.out⟩) (fun _ => ?_)
    clear hK K
    refine tk 8 ?_
    refine wpAnyH_done (by kernel_rfl) ?_ _
    by_cases hn : n < 0
    ·have HFin := Lib.hid (HFi.out hn)
     go_wp2_with fail
     clear hn HFi HNx
     have HKc := Lib.hid HKc.out.drewW
     have HBc := Lib.hid HBc.out.drew
     refine wp_region_held_drew (S := (fun W => W.cell? ⟨w.heap.size, 0, none⟩ = some (.string p) ∧ W.cell? ⟨w.heap.size, 1, none⟩ = some (.int .i64 u))) (by kernel_rfl) ?_ (fun hHeld => ?_)
     ·exact ⟨HKc.out.cell (i := 0) rfl, HKc.out.cell (i := 1) rfl⟩
     refine tk 1 ?_
     refine tk 2 ?_
     refine tk 3 ?_
     refine tk 5 ?_
     refine tk 8 ?_
     refine tk 9 ?_
     refine tk 10 ?_
     repeat' first
      | ((have ck := @hko (i := 0) (hK := hK)); (clear ck); (go_simp); (have HN := Lib.hid (OwnSeq.newAt (ρ := holS) (t := 196) HBc.out.size)); (first | simp only [World.size_alloc] at HN | skip); (first | (have HX := Lib.hid (HX.out.alloc (.cells #[] 196))) | skip); (have HKc := Lib.hid (HKc.out.alloc (.cells #[] 196))); (have HBc := Lib.hid (HBc.out.alloc HBc.out.size (.cells #[] 196))); (refine hko hK (by exact ⟨HKc.out.cell (i := 0) rfl, HKc.out.cell (i := 1) rfl⟩) (fun _ => ?_)); (clear hK K); (have d0 := True.intro); (first | (have c := d4; clear c; have c := d6; clear c; have c := d7; clear c; have c := d11; clear c; refine tk 12 ?_) | skip))
      | ((have ck := @hko (i := 4) (hK := hK)); (clear ck); (refine wp_append_seq (ρ := holS) (w0 := wa) (v := (.slice (some ⟨_, 0, none⟩) 0 0)) Tryz.elemHol (.tmp 21) (.tmp 24) rfl rfl HN.out rfl (SrcAt.of HT.out HBc.out) HL4.out HBc.out ?_); (intro vx1 wx1 hob hgb hbb); (first | (have HX := Lib.hid (HX.out.grownB hgb (by simp [Value.ownBlock]))) | skip); (have HKc := Lib.hid (HKc.out.grownB hgb (by first | exact HN.out.neB HKl.out | (simp [Value.ownBlock]; omega)))); (have HN := Lib.hid hob); (have HBc := Lib.hid hbb); (clear hob hgb hbb); (refine hko hK (by exact ⟨HKc.out.cell (i := 0) rfl, HKc.out.cell (i := 1) rfl⟩) (fun _ => ?_)); (clear hK K); (have d4 := True.intro); (first | (have c := d0; clear c; have c := d6; clear c; have c := d7; clear c; have c := d11; clear c; refine tk 12 ?_) | skip))
      | ((have ck := @hko (i := 6) (hK := hK)); (clear ck); (go_simp); (have HX := Lib.hid (src1B (ρ := holS) (w0 := wa) (t := 196) HBc.out [.string p, .int .i64 u] ⟨p, u⟩ rfl)); (first | simp only [World.size_alloc] at HX | skip); (first | (have HN := Lib.hid (HN.out.alloc (.cells #[.string p, .int .i64 u] 196))) | skip); (have HKc := Lib.hid (HKc.out.alloc (.cells #[.string p, .int .i64 u] 196))); (have HBc := Lib.hid (HBc.out.alloc HBc.out.size (.cells #[.string p, .int .i64 u] 196))); (refine hko hK (by exact ⟨HKc.out.cell (i := 0) rfl, HKc.out.cell (i := 1) rfl⟩) (fun _ => ?_)); (clear hK K); (have d6 := True.intro); (first | (have c := d0; clear c; have c := d4; clear c; have c := d7; clear c; have c := d11; clear c; refine tk 12 ?_) | skip))
      | ((have ck := @hko (i := 7) (hK := hK)); (clear ck); (refine wp_append_seq (ρ := holS) (w0 := wa) (v := vx1) Tryz.elemHol (.tmp 25) (.tmp 27) rfl rfl HN.out rfl HX.out HL7.out HBc.out ?_); (intro vx2 wx2 hob hgb hbb); (have HKc := Lib.hid (HKc.out.grownB hgb (by first | exact HN.out.neB HKl.out | (simp [Value.ownBlock]; omega)))); (have HN := Lib.hid hob); (have HBc := Lib.hid hbb); (clear hob hgb hbb); (refine hko hK (by exact ⟨HKc.out.cell (i := 0) rfl, HKc.out.cell (i := 1) rfl⟩) (fun _ => ?_)); (clear hK K); (have d7 := True.intro); (first | (have c := d0; clear c; have c := d4; clear c; have c := d6; clear c; have c := d11; clear c; refine tk 12 ?_) | skip))
      | ((have ck := @hko (i := 11) (hK := hK)); (clear ck); (refine wp_append_seq (ρ := holS) (w0 := wa) (v := vx2) Tryz.elemHol (.tmp 28) (.tmp 31) rfl rfl HN.out rfl (SrcAt.of HD.out HBc.out) HL11.out HBc.out ?_); (intro vx3 wx3 hob hgb hbb); (have HKc := Lib.hid (HKc.out.grownB hgb (by first | exact HN.out.neB HKl.out | (simp [Value.ownBlock]; omega)))); (have HN := Lib.hid hob); (have HBc := Lib.hid hbb); (clear hob hgb hbb); (refine hko hK (by exact ⟨HKc.out.cell (i := 0) rfl, HKc.out.cell (i := 1) rfl⟩) (fun _ => ?_)); (clear hK K); (have d11 := True.intro); (first | (have c := d0; clear c; have c := d4; clear c; have c := d6; clear c; have c := d7; clear c; refine tk 12 ?_) | skip))
      | ((have c := d0; clear c); (have c := d4; clear c); (have c := d6; clear c); (have c := d7; clear c); (have c := d11; clear c); (refine wpAnyH_done (by kernel_rfl) ?_ _); (clear d0 d4 d6 d7 d11); (go_wp2_with fail); (go_ret); (exact ⟨⟨_, _, rfl, HN.out.low flatH (Nat.le_of_lt HKl.out), HFin.out⟩, HB0.out.trans (HBc.out.mono HB0.out.size)⟩))
      | ((have c := d0; clear c); (have c := d4; clear c); (have c := d6; clear c); (have c := d7; clear c); (refine wpAnyH_ready (rs := [11]) (by kernel_rfl) (by simp) (AllReadyH.cons (o := _) rfl (fun K hK => ?_) AllReadyH.nil)))
      | ((have c := d0; clear c); (have c := d4; clear c); (have c := d6; clear c); (refine wpAnyH_ready (rs := [7]) (by kernel_rfl) (by simp) (AllReadyH.cons (o := _) rfl (fun K hK => ?_) AllReadyH.nil)))
      | ((have c := d0; clear c); (have c := d4; clear c); (refine wpAnyH_ready (rs := [6]) (by kernel_rfl) (by simp) (AllReadyH.cons (o := _) rfl (fun K hK => ?_) AllReadyH.nil)))
      | ((have c := d0; clear c); (have c := d6; clear c); (refine wpAnyH_ready (rs := [4]) (by kernel_rfl) (by simp) (AllReadyH.cons (o := _) rfl (fun K hK => ?_) AllReadyH.nil)))
      | ((have c := d0; clear c); (refine wpAnyH_ready (rs := [4, 6]) (by kernel_rfl) (by simp) (AllReadyH.cons (o := _) rfl (fun K hK => ?_) (AllReadyH.cons (o := _) rfl (fun K hK => ?_) AllReadyH.nil))))
      | ((have c := d6; clear c); (refine wpAnyH_ready (rs := [0]) (by kernel_rfl) (by simp) (AllReadyH.cons (o := _) rfl (fun K hK => ?_) AllReadyH.nil)))
      | ((refine wpAnyH_ready (rs := [0, 6]) (by kernel_rfl) (by simp) (AllReadyH.cons (o := _) rfl (fun K hK => ?_) (AllReadyH.cons (o := _) rfl (fun K hK => ?_) AllReadyH.nil))))
    ·have HNy := Lib.hid (HNx.out (by omega))
     go_wp2_with fail
     go_roundw
     case rel => exact ⟨i + 1, by omega, by go_num, HBc.out, HNy.out⟩
     case measure => simp [intOf]; omega
   exact AllReadyH.nil
  ·obtain rfl : i = l.length := by omega
   have hiI : ¬ ((l.length : Nat) : Int) < (l.length : Int) := by omega
   have HL2 : Hid (([] : List Hol).length + l.length ≤ 100000000) := Lib.hid (by have := Hla.out; simp; omega)
   have HL5 : Hid (([] ++ l).length + 1 ≤ 100000000) := Lib.hid (by have := Hla.out; simp; omega)
   have HFin : Hid (([] ++ l ++ [(⟨p, u⟩ : Hol)]) = R) := Lib.hid (by rw [← HQ.out, List.take_of_length_le (by omega), List.drop_eq_nil_of_le (by omega)]; rfl)
   have HKc := Lib.hid HKc.out.drewW
   have HBc := Lib.hid HBc.out.drew
   go_upto_region 6 with fail
   refine wp_region_held_drew (S := (fun W => W.cell? ⟨w.heap.size, 0, none⟩ = some (.string p) ∧ W.cell? ⟨w.heap.size, 1, none⟩ = some (.int .i64 u))) (by kernel_rfl) ?_ (fun hHeld => ?_)
   ·exact ⟨HKc.out.cell (i := 0) rfl, HKc.out.cell (i := 1) rfl⟩
   refine tk 1 ?_
   refine tk 3 ?_
   repeat' first
    | ((have ck := @hko (i := 0) (hK := hK)); (clear ck); (go_simp); (have HN := Lib.hid (OwnSeq.newAt (ρ := holS) (t := 196) HBc.out.size)); (first | simp only [World.size_alloc] at HN | skip); (first | (have HX := Lib.hid (HX.out.alloc (.cells #[] 196))) | skip); (have HKc := Lib.hid (HKc.out.alloc (.cells #[] 196))); (have HBc := Lib.hid (HBc.out.alloc HBc.out.size (.cells #[] 196))); (refine hko hK (by exact ⟨HKc.out.cell (i := 0) rfl, HKc.out.cell (i := 1) rfl⟩) (fun _ => ?_)); (clear hK K); (have d0 := True.intro); (first | (have c := d2; clear c; have c := d4; clear c; have c := d5; clear c; refine tk 6 ?_) | skip))
    | ((have ck := @hko (i := 2) (hK := hK)); (clear ck); (refine wp_append_seq (ρ := holS) (w0 := wa) (v := (.slice (some ⟨_, 0, none⟩) 0 0)) Tryz.elemHol (.tmp 33) (.tmp 34) rfl rfl HN.out rfl (SrcAt.of Hv.out HBc.out) HL2.out HBc.out ?_); (intro vx1 wx1 hob hgb hbb); (first | (have HX := Lib.hid (HX.out.grownB hgb (by simp [Value.ownBlock]))) | skip); (have HKc := Lib.hid (HKc.out.grownB hgb (by first | exact HN.out.neB HKl.out | (simp [Value.ownBlock]; omega)))); (have HN := Lib.hid hob); (have HBc := Lib.hid hbb); (clear hob hgb hbb); (refine hko hK (by exact ⟨HKc.out.cell (i := 0) rfl, HKc.out.cell (i := 1) rfl⟩) (fun _ => ?_)); (clear hK K); (have d2 := True.intro); (first | (have c := d0; clear c; have c := d4; clear c; have c := d5; clear c; refine tk 6 ?_) | skip))
    | ((have ck := @hko (i := 4) (hK := hK)); (clear ck); (go_simp); (have HX := Lib.hid (src1B (ρ := holS) (w0 := wa) (t := 196) HBc.out [.string p, .int .i64 u] ⟨p, u⟩ rfl)); (first | simp only [World.size_alloc] at HX | skip); (first | (have HN := Lib.hid (HN.out.alloc (.cells #[.string p, .int .i64 u] 196))) | skip); (have HKc := Lib.hid (HKc.out.alloc (.cells #[.string p, .int .i64 u] 196))); (have HBc := Lib.hid (HBc.out.alloc HBc.out.size (.cells #[.string p, .int .i64 u] 196))); (refine hko hK (by exact ⟨HKc.out.cell (i := 0) rfl, HKc.out.cell (i := 1) rfl⟩) (fun _ => ?_)); (clear hK K); (have d4 := True.intro); (first | (have c := d0; clear c; have c := d2; clear c; have c := d5; clear c; refine tk 6 ?_) | skip))
    | ((have ck := @hko (i := 5) (hK := hK)); (clear ck); (refine wp_append_seq (ρ := holS) (w0 := wa) (v := vx1) Tryz.elemHol (.tmp 35) (.tmp 37) rfl rfl HN.out rfl HX.out HL5.out HBc.out ?_); (intro vx2 wx2 hob hgb hbb); (have HKc := Lib.hid (HKc.out.grownB hgb (by first | exact HN.out.neB HKl.out | (simp [Value.ownBlock]; omega)))); (have HN := Lib.hid hob); (have HBc := Lib.hid hbb); (clear hob hgb hbb); (refine hko hK (by exact ⟨HKc.out.cell (i := 0) rfl, HKc.out.cell (i := 1) rfl⟩) (fun _ => ?_)); (clear hK K); (have d5 := True.intro); (first | (have c := d0; clear c; have c := d2; clear c; have c := d4; clear c; refine tk 6 ?_) | skip))
    | ((have c := d0; clear c); (have c := d2; clear c); (have c := d4; clear c); (have c := d5; clear c); (refine wpAnyH_done (by kernel_rfl) ?_ _); (clear d0 d2 d4 d5); (go_wp2_with fail); (go_ret); (exact ⟨⟨_, _, rfl, HN.out.low flatH (Nat.le_of_lt HKl.out), HFin.out⟩, HB0.out.trans (HBc.out.mono HB0.out.size)⟩))
    | ((have c := d0; clear c); (have c := d2; clear c); (have c := d4; clear c); (refine wpAnyH_ready (rs := [5]) (by kernel_rfl) (by simp) (AllReadyH.cons (o := _) rfl (fun K hK => ?_) AllReadyH.nil)))
    | ((have c := d0; clear c); (have c := d2; clear c); (refine wpAnyH_ready (rs := [4]) (by kernel_rfl) (by simp) (AllReadyH.cons (o := _) rfl (fun K hK => ?_) AllReadyH.nil)))
    | ((have c := d0; clear c); (have c := d4; clear c); (refine wpAnyH_ready (rs := [2]) (by kernel_rfl) (by simp) (AllReadyH.cons (o := _) rfl (fun K hK => ?_) AllReadyH.nil)))
    | ((have c := d0; clear c); (refine wpAnyH_ready (rs := [2, 4]) (by kernel_rfl) (by simp) (AllReadyH.cons (o := _) rfl (fun K hK => ?_) (AllReadyH.cons (o := _) rfl (fun K hK => ?_) AllReadyH.nil))))
    | ((have c := d4; clear c); (refine wpAnyH_ready (rs := [0]) (by kernel_rfl) (by simp) (AllReadyH.cons (o := _) rfl (fun K hK => ?_) AllReadyH.nil)))
    | ((refine wpAnyH_ready (rs := [0, 4]) (by kernel_rfl) (by simp) (AllReadyH.cons (o := _) rfl (fun K hK => ?_) (AllReadyH.cons (o := _) rfl (fun K hK => ?_) AllReadyH.nil))))
theorem allowed38_ex (w : World) (x0 : Ent) (v : Value) (l : List Hol) (hv : SeqAt holS w v l) (hz : ∀ h ∈ l, h.p.size ≤ 1000000) (k : Int) (path tgt dig : ByteArray) (Aa Ax : Option Addr) (na ca nx cx : Nat) (size : Int) (hk0 : x0.k = k) (hp0 : x0.path = path) (hp : path.size ≤ 1000000) (date : Int) :
  Calls Tryz.prog 67 #[v, .agg #[.int .i64 k, .string path, .slice Aa na ca, .string tgt, .int .i64 size, .string dig, .slice Ax nx cx], .int .i64 date] w fun e w' => e = .returned (.int .i64 (alwE l x0 date)) ∧ Below w.heap.size w w' := by
 obtain ⟨R, hR⟩ : ∃ R, alwE l x0 date = R := ⟨_, rfl⟩
 rw [hR]
 rw [alwE, hk0, hp0] at hR
 have HR := Lib.hid hR
 clear hR hk0 hp0
 have hK := Blk.new w 48 [.int .i64 k, .string path, .slice Aa na ca, .string tgt, .int .i64 size, .string dig, .slice Ax nx cx]
 change Blk (w.alloc (.cells #[.int .i64 k, .string path, .slice Aa na ca, .string tgt, .int .i64 size, .string dig, .slice Ax nx cx] 48)) _ _ _ at hK
 have HK := Lib.hid hK
 have HB0 := Lib.hid ((Below.refl w.heap.size w).alloc (Nat.le_refl _) (.cells #[.int .i64 k, .string path, .slice Aa na ca, .string tgt, .int .i64 size, .string dig, .slice Ax nx cx] 48))
 have Hv := Lib.hid (hv.below HB0.out)
 obtain ⟨A, c, rfl, h1, h2⟩ := hv.slice
 have HH := Lib.hid (fun (W : World) (h : SeqAt holS W (.slice A l.length c) l) => held_ex W (.slice A l.length c) l h hz path hp date)
 have HU := Lib.hid (fun (W : World) (q : ByteArray) (hq : q.size ≤ 1000000) => under31_ex W q path hq hp)
 have Hz := Lib.hid hz
 clear hK hv hz
 go_enter Tryz.func67, Tryz.ntmps67
 go_upto_region 1 with fail
 generalize w.alloc (.cells #[.int .i64 k, .string path, .slice Aa na ca, .string tgt, .int .i64 size, .string dig, .slice Ax nx cx] 48) = wa at *
 have c0 := HK.out.cell (i := 0) rfl
 have c1 := HK.out.cell (i := 1) rfl
 have hk : (k = 1 ∨ k = 2 ∨ k = 3) ∨ k = 4 ∨ (k ≠ 1 ∧ k ≠ 2 ∧ k ≠ 3 ∧ k ≠ 4) := by omega
 rcases hk with hk | rfl | ⟨k1, k2, k3, k4⟩
 ·rcases hk with rfl | rfl | rfl
  all_goals
   go_wp2_with fail
   refine (HH.out _ Hv.out).mono ?_
   rintro e1 w1 ⟨rfl, hb1⟩
   obtain ⟨r, hr⟩ : ∃ r, heldH l path date = r := ⟨_, rfl⟩
   rw [hr] at HR ⊢
   clear hr
   have d0 := (HK.out.kept hb1).cell (i := 0) rfl
   have HBz := Lib.hid (HB0.out.trans (hb1.mono HB0.out.size))
   clear hb1
   cases r with
   | true =>
    have HE : Hid (R = 15) := Lib.hid (by rw [← HR.out]; simp)
    go_wp2_with fail
    go_ret
    exact ⟨by rw [HE.out] <;> rfl, HBz.out⟩
   | false =>
    have HE : Hid (R = 0) := Lib.hid (by rw [← HR.out]; simp)
    go_wp2_with fail
    go_ret
    exact ⟨by rw [HE.out] <;> rfl, HBz.out⟩
 ·go_wp2_with fail
  refine (HH.out _ Hv.out).mono ?_
  rintro e1 w1 ⟨rfl, hb1⟩
  obtain ⟨r, hr⟩ : ∃ r, heldH l path date = r := ⟨_, rfl⟩
  rw [hr] at HR ⊢
  clear hr
  have HK1 := Lib.hid (HK.out.kept hb1)
  have Hv1 := Lib.hid (Hv.out.below hb1)
  have d0 := HK1.out.cell (i := 0) rfl
  have HBz := Lib.hid (HB0.out.trans (hb1.mono HB0.out.size))
  clear hb1
  cases r with
  | true =>
   have HE : Hid (R = 15) := Lib.hid (by rw [← HR.out]; simp)
   go_wp2_with fail
   go_ret
   exact ⟨by rw [HE.out] <;> rfl, HBz.out⟩
  | false =>
   obtain ⟨B, hB⟩ : ∃ B, belH l path date = B := ⟨_, rfl⟩
   have HBb := Lib.hid hB
   have HR : Hid (R = if B = true then 15 else 0) := Lib.hid (by rw [← HR.out, ← hB]; simp [belH])
   clear hB
   clear HB0 HK Hv c0 c1
   have HB0 := HBz
   go_wp2
   go_loopw [8] (fun x wr => ∃ i : Nat, i ≤ l.length ∧ x = .int .i64 (i : Int) ∧ Below w1.heap.size w1 wr ∧ belH (l.drop i) path date = B) (fun x _ => l.length - (intOf x).toNat)
   case atStart => exact ⟨0, by omega, rfl, Below.refl _ _, HBb.out⟩
   case round =>
    obtain ⟨i, hi, rfl, hB, hq⟩ := hrel
    have HQ := Lib.hid hq
    clear hq
    have HBc := Lib.hid hB
    clear hB
    by_cases h : i < l.length
    ·have hiI : (i : Int) < l.length := by omega
     obtain ⟨x, hx⟩ : ∃ x, l[i]? = some x := ⟨_, List.getElem?_eq_getElem h⟩
     have Hxz := Lib.hid (Hz.out x (List.mem_of_getElem? hx))
     have HD : Hid (B = if date ≤ x.u ∧ undB x.p path = true then true else belH (l.drop (i + 1)) path date) := Lib.hid (by rw [← HQ.out, bel_drop hx])
     obtain ⟨_, _, e9, _, _, h4⟩ := Hv1.out
     cases e9
     obtain ⟨b, o, cs, rfl, rfl, hc⟩ := h4 i x hx
     have HL0 : Hid (w1.cell? ⟨b, o + i * 2, none⟩ = some (.string x.p)) := Lib.hid (hc 0 _ rfl)
     have HL1 : Hid (w1.cell? ⟨b, o + i * 2 + 1, none⟩ = some (.int .i64 x.u)) := Lib.hid (hc 1 _ rfl)
     have HL2 : Hid (w1.cell? ⟨w.heap.size, 1, none⟩ = some (.string path)) := Lib.hid (HK1.out.cell (i := 1) rfl)
     obtain ⟨q, uq⟩ := x
     dsimp only at HL0 HL1 Hxz HD
     clear hc h4 hx d0
     by_cases hd : date ≤ uq
     ·have hdd : decide (date ≤ uq) = true := decide_eq_true hd
      have HBc := Lib.hid HBc.out.drew
      go_upto_region 8 with fail
      refine wp_region_held_drew (S := (fun W => W.cell? ⟨b, o + i * 2, none⟩ = some (.string q) ∧ W.cell? ⟨b, o + i * 2 + 1, none⟩ = some (.int .i64 uq) ∧ W.cell? ⟨w.heap.size, 1, none⟩ = some (.string path))) (by kernel_rfl) ?_ (fun hHeld => ?_)
      ·exact ⟨cell_below HBc.out HL0.out, cell_below HBc.out HL1.out, cell_below HBc.out HL2.out⟩
      refine tk 0 ?_
      refine tk 1 ?_
      refine tk 2 ?_
      refine tk 3 ?_
      refine tk 4 ?_
      refine tk 5 ?_
      refine tk 6 ?_
      refine tk 7 ?_
      refine tk 8 ?_
      refine tk 9 ?_
      refine tk 10 ?_
      refine tk 11 ?_
      refine tk 12 ?_
      refine tk 13 ?_
      refine tk 14 ?_
      refine wpAnyH_ready (rs := [15]) (by kernel_rfl) (by simp) ?_
      refine AllReadyH.cons (o := _) rfl (fun K hK => ?_) ?_
      ·go_simp
       refine (HU.out _ q Hxz.out).mono ?_
       rintro e2 w2 ⟨rfl, hb2⟩
       obtain ⟨r, hr⟩ : ∃ r, undB q path = r := ⟨_, rfl⟩
       rw [hr] at HD ⊢
       clear hr
       (try go_wp2_with fail)
       have HBc := Lib.hid (HBc.out.trans (hb2.mono HBc.out.size))
       clear hb2
       refine hko hK (by exact ⟨cell_below HBc.out HL0.out, cell_below HBc.out HL1.out, cell_below HBc.out HL2.out⟩) (fun _ => ?_)
       clear hK K
       refine tk 16 ?_
       refine wpAnyH_done (by kernel_rfl) ?_ _
       cases r with
       | true =>
        have hB1 : B = true := by rw [HD.out, if_pos ⟨hd, rfl⟩]
        have HE : Hid (R = 15) := Lib.hid (by rw [HR.out, hB1]; rfl)
        go_wp2_with fail
        go_ret
        exact ⟨by rw [HE.out] <;> rfl, HB0.out.trans (HBc.out.mono HB0.out.size)⟩
       | false =>
        have HE : Hid (belH (l.drop (i + 1)) path date = B) := Lib.hid (by rw [HD.out, if_neg (fun c => by cases c.2)])
        go_wp2_with fail
        go_roundw
        case rel => exact ⟨i + 1, by omega, by go_num, HBc.out, HE.out⟩
        case measure => simp [intOf]; omega
      exact AllReadyH.nil
     ·have hdd : decide (date ≤ uq) = false := decide_eq_false hd
      have HE : Hid (belH (l.drop (i + 1)) path date = B) := Lib.hid (by rw [HD.out, if_neg (fun c => hd c.1)])
      have m0 := cell_below HBc.out HL0.out
      have m1 := cell_below HBc.out HL1.out
      go_upto_region 8 with fail
      go_quiet (fail)
      go_wp2
      go_roundw
      case rel => exact ⟨i + 1, by omega, by go_num, blwN HBc.out _, HE.out⟩
      case measure => simp [intOf]; omega
    ·have hiI : ¬ (i : Int) < l.length := by omega
     have HE : Hid (R = 0) := Lib.hid (by rw [HR.out, ← HQ.out, List.drop_eq_nil_of_le (by omega)]; rfl)
     go_wp2
     go_ret
     exact ⟨by rw [HE.out] <;> rfl, HB0.out.trans (HBc.out.mono HB0.out.size)⟩
 ·have f1 : (k == 1) = false := by rw [beq_eq_false_iff_ne]; exact k1
  have f2 : (k == 2) = false := by rw [beq_eq_false_iff_ne]; exact k2
  have f3 : (k == 3) = false := by rw [beq_eq_false_iff_ne]; exact k3
  have f4 : (k == 4) = false := by rw [beq_eq_false_iff_ne]; exact k4
  have HE : Hid (R = 0) := Lib.hid (by rw [← HR.out, if_neg (by omega), if_neg k4])
  clear k1 k2 k3 k4
  go_wp2
  go_ret
  exact ⟨by rw [HE.out] <;> rfl, HB0.out⟩
theorem apply38_ex (w : World) (x0 : Ent) (v : Value) (l : List Hol) (B : Nat) (hB : B ≤ 1000000) (hv : SeqAt holS w v l) (hl : l.length ≤ 1000) (hz : ∀ h ∈ l, h.p.size ≤ B) (k : Int) (path tgt dig : ByteArray) (Aa Ax : Option Addr) (na ca nx cx : Nat) (size : Int) (hk0 : x0.k = k) (hp0 : x0.path = path) (hd0 : k = 5 → x0.tgt = tgt ∧ dateB (bs tgt) = true) (hp : path.size ≤ B) (ht : tgt.size ≤ 1000000) (date : Int) :
  Calls Tryz.prog 68 #[v, .agg #[.int .i64 k, .string path, .slice Aa na ca, .string tgt, .int .i64 size, .string dig, .slice Ax nx cx], .int .i64 date] w fun e w' => RetHX w' (applyR l x0 date) e ∧ Below w.heap.size w w' := by
 obtain ⟨R, hR⟩ : ∃ R, applyR l x0 date = R := ⟨_, rfl⟩
 rw [hR]
 rw [applyR, hk0, hp0] at hR
 have HR := Lib.hid hR
 have HD0 := Lib.hid hd0
 clear hR hk0 hp0 hd0
 have hK := Blk.new w 48 [.int .i64 k, .string path, .slice Aa na ca, .string tgt, .int .i64 size, .string dig, .slice Ax nx cx]
 change Blk (w.alloc (.cells #[.int .i64 k, .string path, .slice Aa na ca, .string tgt, .int .i64 size, .string dig, .slice Ax nx cx] 48)) _ _ _ at hK
 have HK := Lib.hid hK
 have HB0 := Lib.hid ((Below.refl w.heap.size w).alloc (Nat.le_refl _) (.cells #[.int .i64 k, .string path, .slice Aa na ca, .string tgt, .int .i64 size, .string dig, .slice Ax nx cx] 48))
 have Hv := Lib.hid (hv.below HB0.out)
 obtain ⟨A, c, rfl, h1, h2⟩ := hv.slice
 have HA := Lib.hid (fun (W : World) (h : SeqAt holS W (.slice A l.length c) l) => active_ex W (.slice A l.length c) l h (by omega) date)
 have HD := Lib.hid (fun (W : World) => date38_ex W tgt)
 have Hz := Lib.hid hz
 have HBz := Lib.hid hB
 have Hl := Lib.hid hl
 clear hK hv hz hB hl
 go_enter Tryz.func68, Tryz.ntmps68
 go_upto_region 1 with fail
 generalize w.alloc (.cells #[.int .i64 k, .string path, .slice Aa na ca, .string tgt, .int .i64 size, .string dig, .slice Ax nx cx] 48) = wa at *
 go_wp2_with fail
 refine (HA.out _ Hv.out).mono ?_
 rintro e1 w1 ⟨⟨v1, l1, rfl, ho1, hl1⟩, hb1⟩
 have Hn1 : Hid (l1.length ≤ l.length) := Lib.hid (by rw [hl1]; exact List.length_filter_le _ _)
 have Hm1 : Hid (∀ h ∈ l1, h ∈ l) := Lib.hid (fun h hh => by rw [hl1] at hh; exact (List.mem_filter.1 hh).1)
 rw [← hl1] at HR
 clear hl1
 have HB1 := Lib.hid (HB0.out.trans (hb1.mono HB0.out.size))
 have HK1 := Lib.hid (HK.out.kept hb1)
 have Hv1 := Lib.hid (ho1.at hb1)
 clear hb1 ho1 HK Hv HB0
 obtain ⟨A1, c1, rfl, _, _⟩ := Hv1.out.slice
 have d0 := HK1.out.cell (i := 0) rfl
 have d1 := HK1.out.cell (i := 1) rfl
 have d3 := HK1.out.cell (i := 3) rfl
 have Hz1 : Hid (∀ h ∈ l1, h.p.size ≤ B) := Lib.hid (fun h hh => Hz.out h (Hm1.out h hh))
 have HW := Lib.hid (fun (W : World) (h : SeqAt holS W (.slice A1 l1.length c1) l1) => without_ex W (.slice A1 l1.length c1) l1 h (by have := Hn1.out; have := Hl.out; omega) path)
 have hk : k = 5 ∨ k = 6 ∨ (k ≠ 5 ∧ k ≠ 6) := by omega
 rcases hk with rfl | rfl | ⟨k1, k2⟩
 ·have HD := Lib.hid (fun W => HD.out W (HD0.out rfl).2)
  have HR : Hid ((0, insF (fun h => decide (pcmp path h.p < 0)) ⟨path, if ((valD (bs tgt) : Nat) : Int) < lastU l1 path then lastU l1 path else ((valD (bs tgt) : Nat) : Int)⟩ (wthH l1 path)) = R) := Lib.hid (by rw [← HR.out, (HD0.out rfl).1]; rfl)
  go_wp2_with fail
  refine (HD.out _).mono ?_
  rintro e2 w2 ⟨rfl, rfl⟩
  generalize valD (bs tgt) = n0 at *
  obtain ⟨n, hn0⟩ : ∃ n : Int, ((n0 : Nat) : Int) = n := ⟨_, rfl⟩
  have Hn0 : Hid (¬ n < 0) := Lib.hid (by omega)
  rw [hn0] at HR ⊢
  clear hn0 HD
  by_cases hn : n < 0
  ·exact absurd hn Hn0.out
  ·go_wp2_with fail
   refine (HW.out _ Hv1.out).mono ?_
   rintro e3 w3 ⟨⟨v3, rfl, ho3⟩, hb3⟩
   have hn3 : (wthH l1 path).length ≤ l1.length := List.length_filter_le _ _
   have hm3 : ∀ h ∈ wthH l1 path, h ∈ l1 := fun h hh => (List.mem_filter.1 hh).1
   generalize wthH l1 path = l3 at *
   generalize lastU l1 path = q at *
   have Hv3 := Lib.hid (ho3.at hb3)
   have HB3 := Lib.hid (HB1.out.trans (hb3.mono HB1.out.size))
   have HK3 := Lib.hid (HK1.out.kept hb3)
   have HI := Lib.hid (fun (u : Int) => insert38_ex w3 v3 l3 (ho3.at hb3) (by have := Hn1.out; have := Hl.out; omega) (fun h hh => Nat.le_trans (Hz1.out h (hm3 h hh)) HBz.out) path u (Nat.le_trans hp HBz.out))
   clear hb3 ho3 hn3 hm3 d0 d1 d3
   obtain ⟨A3, c3, rfl, _, _⟩ := Hv3.out.slice
   have g1 := HK3.out.cell (i := 1) rfl
   by_cases hq : n < q
   all_goals
    have HR := Lib.hid HR.out
    first | rw [if_pos (show n < q by omega)] at HR | rw [if_neg (show ¬ n < q by omega)] at HR
    go_wp2_with fail
    refine (HI.out _).mono ?_
    rintro e4 w4 ⟨⟨v4, l4, rfl, ho4, hl4⟩, hb4⟩
    rw [← hl4] at HR
    go_wp2_with fail
    go_ret2
    exact ⟨by rw [← HR.out]; exact ⟨v4, rfl, ho4.at hb4⟩, HB3.out.trans (hb4.mono HB3.out.size)⟩
 ·have HR : Hid ((if lastU l1 path < 0 then (9, []) else (0, wthH l1 path)) = R) := Lib.hid (by rw [← HR.out]; rfl)
  go_wp2_with fail
  refine (HW.out _ Hv1.out).mono ?_
  rintro e3 w3 ⟨⟨v3, rfl, ho3⟩, hb3⟩
  generalize wthH l1 path = l3 at *
  generalize lastU l1 path = q at *
  have HB3 := Lib.hid (HB1.out.trans (hb3.mono HB1.out.size))
  have Hv3 := Lib.hid (ho3.at hb3)
  clear hb3 ho3
  by_cases hq : q < 0
  ·have HE := Lib.hid ((OwnSeq.new (ρ := holS) (t := 196) w3).at ((Below.refl _ _).alloc (Nat.le_refl _) _))
   have HB2 := Lib.hid (HB3.out.alloc HB3.out.size (.cells #[] 196))
   go_wp2_with fail
   go_ret2
   exact ⟨by rw [← HR.out, if_pos hq]; exact ⟨_, rfl, HE.out⟩, HB2.out⟩
  ·go_wp2_with fail
   go_ret2
   exact ⟨by rw [← HR.out, if_neg (show ¬ q < 0 by omega)]; exact ⟨v3, rfl, Hv3.out⟩, HB3.out⟩
 ·have f1 : (k == 5) = false := by rw [beq_eq_false_iff_ne]; exact k1
  have f2 : (k == 6) = false := by rw [beq_eq_false_iff_ne]; exact k2
  have HR : Hid ((0, l1) = R) := Lib.hid (by rw [← HR.out, if_neg k1, if_neg k2])
  clear k1 k2
  go_wp2_with fail
  go_ret2
  exact ⟨by rw [← HR.out]; exact ⟨_, rfl, Hv1.out⟩, HB1.out⟩
end
end Go.Proofs.YtbccghbngaiceaaGreatDoor
