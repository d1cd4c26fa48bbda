/-
  Joined: MbA VqF.
-/
import Derived.Test.YthkjphebhafgoaaGreatDoorMBn11
import Derived.Test.YthkjphebhafgoaaGreatDoorMBn13
set_option linter.all false
set_option maxRecDepth 100000
set_option maxHeartbeats 64000000
namespace Go.Proofs.YthkjphebhafgoaaGreatDoor
section
open Go.RowKit
theorem idx_some {s : ByteArray} {p : Nat → Bool} (hp : ∀ c, 128 ≤ c → p c = true) : ∀ (f pos k : Nat), s.size ≤ pos + f → pos ≤ k → (hk : k < s.size) → p (s[k]'hk).toNat = true → Lib.idxFuncFrom p true s f pos ≠ -1
 | 0, pos, k, h1, h2, hk, _ => by omega
 | f + 1, pos, k, h1, h2, hk, hb => by
  unfold Lib.idxFuncFrom
  have hpos : pos < s.size := by omega
  rw [if_pos hpos]
  split
  ·omega
  ·rename_i hn
   by_cases ha : (s[pos]'hpos).toNat < 128
   ·rw [decode_ascii s pos hpos ha] at hn ⊢
    have hne : pos ≠ k := by
     rintro rfl
     exact hn hb
    exact idx_some hp f (pos + 1) k (by omega) (by omega) hk hb
   ·exact absurd (hp _ (decode_high s pos hpos (by omega)).1) hn
theorem okC_big {c : Nat} (h : 128 ≤ c) : okC c = false := by
 cases e : okC c with
 | false => rfl
 | true => have := okC_lt e; omega
theorem idx_all (s : ByteArray) : (0 ≤ Lib.idxFunc (fun c => !okC c) true s) = !((bs s).all okC) := by
 cases h : (bs s).all okC with
 | true =>
  have e : Lib.idxFunc (fun c => !okC c) true s = -1 := idx_none (fun b hb => by
   have := List.all_eq_true.1 h b hb
   exact ⟨okC_lt this, by rw [this]; rfl⟩) _ _
  rw [e]
  simp
 | false =>
  rw [List.all_eq_false] at h
  obtain ⟨b, hb, hn⟩ := h
  obtain ⟨k, hk, e⟩ := List.getElem_of_mem hb
  rw [bs_len] at hk
  have he : (s[k]'hk).toNat = b := by
   have h4 := bs_get s k hk
   rw [List.getElem?_eq_getElem (by rw [bs_len]; exact hk), e] at h4
   exact (Option.some.inj h4).symm
  have h1 := idx_some (s := s) (p := fun c => !okC c) (fun c hc => by rw [okC_big hc]; rfl) s.size 0 k (by omega) (by omega) hk (by rw [he]; simpa using hn)
  have h2 : Lib.idxFunc (fun c => !okC c) true s ≠ -1 := h1
  rcases Lib.idxFunc_range (fun c => !okC c) true s with h3 | h3
  ·exact absurd h3 h2
  ·simp [h3.1]
theorem pcomp_gen (w : World) (s : ByteArray) (hs : s.size ≤ 1000000) : Calls Tryz.prog 230 #[.string s] w fun e w' => e = .returned (.bool (compB (bs s))) ∧ Below w.heap.size w w' := by
 have hx : ∀ W, Calls Tryz.prog 294 #[.string s, .func (.func 295) #[] #[]] W fun e w' => e = .returned (.bool (!((bs s).all okC))) ∧ Below W.heap.size W w' := fun W => by
  refine (Tryz.strings_ContainsFunc 295 #[] (enters_of Tryz.func295 (by kernel_rfl) rfl) (fun c => !okC c) s W (fun W' x _ => (comp1_any W' x).mono fun e w' ⟨he, hw⟩ => ⟨he, 0, hw.symm⟩)).mono ?_
  rintro e w' ⟨rfl, hb⟩
  refine ⟨?_, hb⟩
  exact ret_bool' (by simp only [idx_all, Bool.decide_eq_true])
 have HX := Lib.hid hx
 obtain ⟨R, hR⟩ : ∃ R, compB (bs s) = R := ⟨_, rfl⟩
 obtain ⟨Q, hQ⟩ : ∃ Q, (bs s).all okC = Q := ⟨_, rfl⟩
 rw [hQ] at HX
 have hR' := hR
 rw [compB, bs_len, hQ] at hR
 have n1 : s = ⟨#[46]⟩ ↔ bs s = [46] := ⟨fun e => by rw [e]; rfl, fun e => by rw [← strB_bs s, e]; rfl⟩
 have n2 : s = ⟨#[46, 46]⟩ ↔ bs s = [46, 46] := ⟨fun e => by rw [e]; rfl, fun e => by rw [← strB_bs s, e]; rfl⟩
 clear hx hQ
 rw [hR']
 by_cases i1 : (1 : Int) ≤ s.size
 ·by_cases i2 : (s.size : Int) ≤ 32
  ·by_cases e1 : s.toList = [46]
   ·have hr : R = false := by rw [← hR]; simp [n1.1 (toListV.1 e1)]
    have F1 : (s.toList == [46]) = true := beq_iff_eq.2 e1
    clear hR n1 n2
    go_enter Tryz.func230, Tryz.ntmps230
    go_wp2
    go_ret
    exact ⟨ret_bool' (by first | rfl | simp [hr, F1]), Below.refl _ _⟩
   ·by_cases e2 : s.toList = [46, 46]
    ·have hr : R = false := by rw [← hR]; simp [n2.1 (toListV.1 e2)]
     have F2 : (s.toList == [46, 46]) = true := beq_iff_eq.2 e2
     clear hR n1 n2
     go_enter Tryz.func230, Tryz.ntmps230
     go_wp2
     go_ret
     exact ⟨ret_bool' (by first | rfl | simp [hr, F2]), Below.refl _ _⟩
    ·have hr : R = Q := by
      rw [← hR, decide_eq_true ⟨by omega, by omega, fun e => e1 (toListV.2 (n1.2 e)), fun e => e2 (toListV.2 (n2.2 e))⟩]
      rfl
     have F1 : Hid ((s.toList == [46]) = false) := Lib.hid (beq_eq_false_iff_ne.2 e1)
     have F2 : Hid ((s.toList == [46, 46]) = false) := Lib.hid (beq_eq_false_iff_ne.2 e2)
     clear hR n1 n2
     go_enter Tryz.func230, Tryz.ntmps230
     go_wp2_with fail
     refine (HX.out _).mono ?_
     rintro e1 w1 ⟨rfl, hb⟩
     have HB := Lib.hid hb
     clear hb
     go_wp2_with fail
     go_ret
     exact ⟨ret_bool' (by rw [hr, F1.out, F2.out]; cases Q <;> rfl), HB.out⟩
  ·have hr : R = false := by rw [← hR, decide_eq_false (by omega)]; rfl
   clear hR n1 n2
   go_enter Tryz.func230, Tryz.ntmps230
   go_wp2
   go_ret
   exact ⟨ret_bool' (by first | rfl | simp [hr]), Below.refl _ _⟩
 ·have hr : R = false := by rw [← hR, decide_eq_false (by omega)]; rfl
  clear hR n1 n2
  go_enter Tryz.func230, Tryz.ntmps230
  go_wp2
  go_ret
  exact ⟨ret_bool' (by first | rfl | simp [hr]), Below.refl _ _⟩
theorem pcheck1_gen (w : World) (s : ByteArray) (hs : s.size ≤ 1000000) : Calls Tryz.prog 229 #[.string s] w fun e w' => e = .returned (.bool (!compB (bs s))) ∧ Below w.heap.size w w' := by
 have H := Lib.hid (fun W => pcomp_gen W s hs)
 go_enter Tryz.func229, Tryz.ntmps229
 go_wp2_with fail
 refine (H.out _).mono ?_
 rintro e1 w1 ⟨rfl, hb⟩
 have HB := Lib.hid hb
 clear hb
 go_wp2_with fail
 go_ret
 exact ⟨rfl, HB.out⟩
theorem pcheck_gen (w : World) (s : ByteArray) (hs : s.size ≤ 1000000) (hT : Tab w) : Calls Tryz.prog 148 #[.string s] w fun e w' => e = .returned (.int .i64 (pathE (bs s))) ∧ Below w.heap.size w w' := by
 have HE := Lib.hid (pelems_any w s hs hT)
 have hall : ((elemsL (bs s)).map strB).any (fun x => !compB (bs x)) = !((elemsL (bs s)).all compB) := by
  rw [List.any_map, List.not_all_eq_any_not]
  rw [Bool.eq_iff_iff, List.any_eq_true, List.any_eq_true]
  refine exists_congr fun x => and_congr_right fun hx => ?_
  simp only [Function.comp]
  rw [bs_strB (elemsL_bytes (bs_lt s) x hx)]
 have HL : Hid (∀ x ∈ (elemsL (bs s)).map strB, x.size ≤ 1000000) := Lib.hid (fun x hx => by
  obtain ⟨y, hy, rfl⟩ := List.mem_map.1 hx
  rw [strB_size]
  have := (elemsL_size (s := bs s)).1 y hy
  rw [bs_len] at this
  omega)
 obtain ⟨E, hE⟩ : ∃ E, pathE (bs s) = E := ⟨_, rfl⟩
 rw [hE]
 unfold pathE at hE
 rw [bs_len] at hE
 rw [← List.length_map (f := strB)] at hE
 obtain ⟨Q, hQ⟩ : ∃ Q, (elemsL (bs s)).all compB = Q := ⟨_, rfl⟩
 rw [hQ] at hE hall
 generalize (elemsL (bs s)).map strB = L at *
 have HA := Lib.hid hall
 clear hQ hall
 go_enter Tryz.func148, Tryz.ntmps148
 go_wp2_with fail
 refine HE.out.mono ?_
 rintro e1 w1 ⟨⟨v, rfl, hv⟩, hb⟩
 have HB := Lib.hid hb
 have HC := Lib.hid (contStr_any w1 v L hv 229 #[] (enters_of Tryz.func229 (by kernel_rfl) rfl) (fun x => !compB (bs x)) (fun W x _ hx => pcheck1_gen W x (HL.out x hx)))
 rw [HA.out] at HC
 obtain ⟨A, c, rfl, _, _⟩ := hv.slice
 clear hb hv
 by_cases i1 : (200 : Int) < s.size
 ·have hr : E = 6 := by rw [← hE, if_pos (by omega)]
  subst hr
  go_wp2
  go_ret
  exact ⟨rfl, HB.out⟩
 ·by_cases i2 : (8 : Int) < L.length
  ·have hr : E = 6 := by rw [← hE, if_neg (by omega), if_pos (by omega)]
   subst hr
   go_wp2
   go_ret
   exact ⟨rfl, HB.out⟩
  ·rw [if_neg (by omega), if_neg (by omega)] at hE
   cases Q with
   | true =>
    have hr : E = 0 := hE.symm
    subst hr
    go_wp2_with fail
    refine HC.out.mono ?_
    rintro e2 w2 ⟨rfl, hb2⟩
    have HB2 := Lib.hid (HB.out.trans (hb2.mono HB.out.size))
    clear hb2
    go_wp2_with fail
    go_ret
    exact ⟨rfl, HB2.out⟩
   | false =>
    have hr : E = 7 := hE.symm
    subst hr
    go_wp2_with fail
    refine HC.out.mono ?_
    rintro e2 w2 ⟨rfl, hb2⟩
    have HB2 := Lib.hid (HB.out.trans (hb2.mono HB.out.size))
    clear hb2
    go_wp2_with fail
    go_ret
    exact ⟨rfl, HB2.out⟩
def layE (d s : Int) : Int := if d < 1 ∨ 8 < d ∨ s < 0 ∨ 7 < s then 2 else 0
theorem laycheck_any (w : World) (d s : Int) : Calls Tryz.prog 15 #[.agg #[.int .i64 d, .int .i64 s]] w fun e w' => e = .returned (.int .i64 (layE d s)) ∧ Below w.heap.size w w' := by
 have hK := Blk.new w 24 [.int .i64 d, .int .i64 s]
 change Blk (w.alloc (.cells #[.int .i64 d, .int .i64 s] 24)) _ _ _ at hK
 have HK := Lib.hid hK
 have HB := Lib.hid ((Below.refl w.heap.size w).alloc (Nat.le_refl _) (.cells #[.int .i64 d, .int .i64 s] 24))
 obtain ⟨R, hR⟩ : ∃ R, layE d s = R := ⟨_, rfl⟩
 rw [hR]
 unfold layE at hR
 have HR := Lib.hid hR
 clear hK hR
 go_enter Tryz.func15, Tryz.ntmps15
 go_upto_region 1 with fail
 generalize w.alloc (.cells #[.int .i64 d, .int .i64 s] 24) = wa at *
 have c0 := HK.out.cell (i := 0) rfl
 have c1 := HK.out.cell (i := 1) rfl
 by_cases h1 : d < 1
 ·go_wp2
  go_ret
  exact ⟨by rw [← HR.out, if_pos (by omega)]; rfl, HB.out⟩
 ·by_cases h2 : 8 < d
  ·go_wp2
   go_ret
   exact ⟨by rw [← HR.out, if_pos (by omega)]; rfl, HB.out⟩
  ·by_cases h3 : s < 0
   ·go_wp2
    go_ret
    exact ⟨by rw [← HR.out, if_pos (by omega)]; rfl, HB.out⟩
   ·by_cases h4 : 7 < s
    ·go_wp2
     go_ret
     exact ⟨by rw [← HR.out, if_pos (by omega)]; rfl, HB.out⟩
    ·go_wp2
     go_ret
     exact ⟨by rw [← HR.out, if_neg (by omega)]; rfl, HB.out⟩
end
end Go.Proofs.YthkjphebhafgoaaGreatDoor
