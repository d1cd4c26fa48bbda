/-
  Joined: MbK.
-/
import Derived.Test.YthkjphebhafgoaaGreatDoorMBn31
set_option linter.all false
set_option maxRecDepth 100000
set_option maxHeartbeats 64000000
namespace Go.Proofs.YthkjphebhafgoaaGreatDoor
section
open Go.RowKit
theorem clnEnt_any (w : World) (v : Value) (t : List Ent) (hv : SeqAt entS w v t) (hl : t.length ≤ 100000) : Calls Tryz.prog 94 #[v] w fun e w' => ∃ v', e = .returned v' ∧ OwnSeq entS 48 w w' v' t ∧ Below w.heap.size w w' := by
 obtain ⟨A, c, rfl, h1, h2⟩ := hv.slice
 cases A with
 | none =>
  have e0 : t = [] := by
   cases t with
   | nil => rfl
   | cons x r =>
    obtain ⟨_, _, e, _, _, h3⟩ := hv
    cases e
    obtain ⟨_, _, _, e1, _⟩ := h3 0 x rfl
    cases e1
  subst e0
  have hq : (binOp .eql 41 (.slice none 0 c) (.slice none 0 0)).run Tryz.prog w = .ok (.bool true) w := Lib.run_eql_slice_nil w 41 48 none 0 c 0 0 Tryz.underlying41
  clear hv hl h1
  go_enter Tryz.func94, Tryz.ntmps94
  go_wp2
  go_ret
  exact ⟨_, rfl, OwnSeq.nil w, Below.refl _ _⟩
 | some ad =>
  have HS := Lib.hid hv
  have HB := Lib.hid ((Below.refl w.heap.size w).alloc (Nat.le_refl _) (.cells #[] 48))
  have HO := Lib.hid (OwnSeq.newAt (ρ := entS) (t := 48) (w := w) (W := w) (Nat.le_refl _))
  have HX := Lib.hid (SrcAt.of HS.out HB.out)
  have Hl := Lib.hid hl
  have hq : (binOp .eql 41 (.slice (some ad) t.length c) (.slice none 0 0)).run Tryz.prog w = .ok (.bool false) w := Lib.run_eql_slice_nil w 41 48 (some ad) t.length c 0 0 Tryz.underlying41
  clear hv hl h1
  go_enter Tryz.func94, Tryz.ntmps94
  go_wp2_with (at_builtin; refine append_seqO (w0 := w) (vx := .slice (some ad) t.length c) (us := t) Tryz.elemEnt rfl _ _ rfl rfl HO.out rfl HX.out (by have := Hl.out; simp; omega) HB.out ?_; intro va wa hob hgb hor hbb; have KO := Lib.hid hob; have KB := Lib.hid hbb; clear hob hgb hor hbb)
  go_ret
  exact ⟨_, rfl, by have := KO.out; rwa [List.nil_append] at this, KB.out⟩
theorem halve_end {f : Nat → Bool} {n i : Nat} : halve f n i i = i := by
 cases n with
 | zero => rfl
 | succ n => rw [halve, if_neg (Nat.lt_irrefl _)]
theorem halve_fuel {f : Nat → Bool} : ∀ (n m i j : Nat), j - i ≤ n → j - i ≤ m → i ≤ j → halve f n i j = halve f m i j
 | 0, 0, i, j, _, _, _ => rfl
 | 0, m + 1, i, j, h, _, hij => by
  obtain rfl : i = j := by omega
  rw [halve_end, halve_end]
 | n + 1, 0, i, j, _, h, hij => by
  obtain rfl : i = j := by omega
  rw [halve_end, halve_end]
 | n + 1, m + 1, i, j, h1, h2, hij => by
  rw [halve, halve]
  by_cases h : i < j
  ·rw [if_pos h, if_pos h]
   rw [halve_fuel n m ((i + j) / 2 + 1) j (by omega) (by omega) (by omega), halve_fuel n m i ((i + j) / 2) (by omega) (by omega) (by omega)]
  ·rw [if_neg h, if_neg h]
theorem halve_le {f : Nat → Bool} : ∀ (n i j : Nat), i ≤ j → halve f n i j ≤ j
 | 0, i, j, h => h
 | n + 1, i, j, h => by
  rw [halve]
  by_cases hij : i < j
  ·rw [if_pos hij]
   cases f ((i + j) / 2) with
   | true => rw [if_pos rfl]; exact halve_le n _ _ (by omega)
   | false => rw [if_neg (by decide)]; exact Nat.le_trans (halve_le n _ _ (by omega)) (by omega)
  ·rw [if_neg hij]; exact h
theorem placeT_le (t : List Ent) (p : ByteArray) : placeT t p ≤ t.length := halve_le _ _ _ (Nat.zero_le _)
def CompE (g : Nat) (lb : Array Value) (cf : Ent → Int) (p : ByteArray) (l : List Ent) (w : World) : Prop :=
 ∀ (W : World) (x : Ent) (Aa Ax : Option Addr) (ca cx : Nat), Below w.heap.size w W → x ∈ l → Calls Tryz.prog g (#[entV x (.slice Aa x.attrs.length ca) (.slice Ax x.exts.length cx), .string p] ++ lb) W fun e w' => e = .returned (.int .i64 (cf x)) ∧ Below W.heap.size W w'
theorem bsEnt_any (w : World) (v : Value) (l : List Ent) (hl : SeqAt entS w v l) (hz : l.length ≤ 100000) (p : ByteArray) (g : Nat) (lb : Array Value) (eg : ∀ args w, (callFunc g args).run Tryz.prog w = .ok (.enter g args) w) (cf : Ent → Int) (hp : CompE g lb cf p l w) :
  Calls Tryz.prog 97 #[v, .string p, .func (.func g) #[] lb] w fun e w' => (∃ b, e = .returned (.tuple #[.int .i64 ((halve (belowP l cf) l.length 0 l.length : Nat) : Int), .bool b])) ∧ Below w.heap.size w w' := by
 have HL := Lib.hid hl
 obtain ⟨A, c, rfl, h1, h2⟩ := hl.slice
 have HP := Lib.hid hp
 obtain ⟨F, hF⟩ : ∃ F : Nat → Bool, belowP l cf = F := ⟨_, rfl⟩
 have HFe : Hid (∀ h x, l[h]? = some x → F h = decide (cf x < 0)) := Lib.hid (fun h x hx => by rw [← hF]; unfold belowP; simp only [hx])
 obtain ⟨R, hR⟩ : ∃ R, halve F l.length 0 l.length = R := ⟨_, rfl⟩
 rw [hF, hR]
 have HR := Lib.hid hR
 have HRl : Hid (R ≤ l.length) := Lib.hid (by rw [← hR]; exact halve_le _ _ _ (Nat.zero_le _))
 clear hl hp hR hF
 go_enter Tryz.func97, Tryz.ntmps97
 go_wp2
 go_loopw [9, 10] (fun a b wr => ∃ i j : Nat, i ≤ j ∧ j ≤ l.length ∧ a = .int .i64 (i : Int) ∧ b = .int .i64 (j : Int) ∧ halve F l.length i j = R ∧ Below w.heap.size w wr) (fun a b _ => (intOf b).toNat - (intOf a).toNat)
 case atStart => exact ⟨0, l.length, by omega, Nat.le_refl _, rfl, rfl, HR.out, Below.refl _ _⟩
 case round =>
  obtain ⟨i, j, hij, hj, rfl, rfl, hh, hB⟩ := hrel
  have HH := Lib.hid hh
  have HB := Lib.hid hB
  clear hh hB HR
  by_cases hlt : i < j
  ·have hI : (i : Int) < (j : Int) := by omega
   obtain ⟨m, hm⟩ : ∃ m, (i + j) / 2 = m := ⟨_, rfl⟩
   have hml : m < l.length := by omega
   have hmI : (m : Int) < l.length := by omega
   have hmi : i ≤ m := by omega
   have hmj : m < j := by omega
   obtain ⟨x, hx⟩ : ∃ x, l[m]? = some x := ⟨_, List.getElem?_eq_getElem hml⟩
   have Hx := Lib.hid hx
   obtain ⟨_, _, e9, _, _, h4⟩ := HL.out.below HB.out
   cases e9
   obtain ⟨b, o, cs, rfl, ⟨va, vx, rfl, ra, rx⟩, hc⟩ := h4 m x hx
   obtain ⟨Aa, ca, rfl, _, _⟩ := ra.slice
   obtain ⟨Ax, cx, rfl, _, _⟩ := rx.slice
   have HC := Lib.hid (HP.out wr x Aa Ax ca cx HB.out (List.mem_of_getElem? hx))
   have HQ : Hid (F m = decide (cf x < 0)) := Lib.hid (HFe.out m x hx)
   obtain ⟨q, hq⟩ : ∃ q, cf x = q := ⟨_, rfl⟩
   rw [hq] at HQ HC
   rw [entV] at HC
   have e0 : wr.cell? ⟨b, o + m * 7, none⟩ = some (.int .i64 x.k) := hc 0 _ rfl
   have e1 : wr.cell? ⟨b, o + m * 7 + 1, none⟩ = some (.string x.path) := hc 1 _ rfl
   have e2 : wr.cell? ⟨b, o + m * 7 + 2, none⟩ = some (.slice Aa x.attrs.length ca) := hc 2 _ rfl
   have e3 : wr.cell? ⟨b, o + m * 7 + 3, none⟩ = some (.string x.tgt) := hc 3 _ rfl
   have e4 : wr.cell? ⟨b, o + m * 7 + 4, none⟩ = some (.int .i64 x.size) := hc 4 _ rfl
   have e5 : wr.cell? ⟨b, o + m * 7 + 5, none⟩ = some (.string x.dig) := hc 5 _ rfl
   have e6 : wr.cell? ⟨b, o + m * 7 + 6, none⟩ = some (.slice Ax x.exts.length cx) := hc 6 _ rfl
   have hst : halve F l.length i j = if F m then halve F l.length (m + 1) j else halve F l.length i m := by
    obtain ⟨n, hn⟩ : ∃ n, l.length = n + 1 := ⟨l.length - 1, by omega⟩
    rw [hn, halve, if_pos hlt, hm, halve_fuel n (n + 1) (m + 1) j (by omega) (by omega) (by omega), halve_fuel n (n + 1) i m (by omega) (by omega) (by omega)]
   have HSt : Hid ((if decide (q < 0) = true then halve F l.length (m + 1) j else halve F l.length i m) = R) := Lib.hid (by rw [← HQ.out, ← hst, HH.out])
   have ww1 : IntKind.i64.wrap ((i : Int) + (j : Int)) = (i : Int) + (j : Int) := IntWalk.i64_in _ (by omega)
   have ww2 : IntKind.u64.wrap ((i : Int) + (j : Int)) = (i : Int) + (j : Int) := by rw [IntKind.wrap_u64]; omega
   have ww3 : ((i : Int) + (j : Int)) / 2 = (m : Int) := by omega
   have ww4 : IntKind.i64.wrap (m : Int) = (m : Int) := IntWalk.i64_in _ (by omega)
   have ww5 : IntKind.u64.wrap (m : Int) = (m : Int) := by rw [IntKind.wrap_u64]; omega
   clear hc h4 hx ra rx hst hm hq
   go_wp2_with fail
   refine HC.out.mono ?_
   rintro e2 w2 ⟨rfl, hb2⟩
   have HB2 := Lib.hid (HB.out.trans (hb2.mono HB.out.size))
   clear hb2 e0 e1 e2 e3 e4 e5 e6 ww1 ww2 ww3 ww4 ww5
   by_cases hq0 : q < 0
   ·have HR2 : Hid (halve F l.length (m + 1) j = R) := Lib.hid (by have := HSt.out; rwa [if_pos (decide_eq_true hq0)] at this)
    have hm1 : (m : Int) < 100000 := by omega
    go_wp2
    go_roundw
    case rel => exact ⟨m + 1, j, by omega, hj, by go_num, rfl, HR2.out, HB2.out⟩
    case measure => simp [intOf]; omega
   ·have HR2 : Hid (halve F l.length i m = R) := Lib.hid (by have := HSt.out; rwa [if_neg (by rw [decide_eq_false hq0]; decide)] at this)
    go_wp2
    go_roundw
    case rel => exact ⟨i, m, hmi, by omega, rfl, rfl, HR2.out, HB2.out⟩
    case measure => simp [intOf]; omega
  ·obtain rfl : i = j := by omega
   have hI : ¬ (i : Int) < (i : Int) := by omega
   obtain rfl : i = R := by rw [← HH.out, halve_end]
   by_cases hin : i < l.length
   ·have hinI : (i : Int) < (l.length : Int) := by omega
    obtain ⟨x, hx⟩ : ∃ x, l[i]? = some x := ⟨_, List.getElem?_eq_getElem hin⟩
    obtain ⟨_, _, e9, _, _, h4⟩ := HL.out.below HB.out
    cases e9
    obtain ⟨b, o, cs, rfl, ⟨va, vx, rfl, ra, rx⟩, hc⟩ := h4 i x hx
    obtain ⟨Aa, ca, rfl, _, _⟩ := ra.slice
    obtain ⟨Ax, cx, rfl, _, _⟩ := rx.slice
    have HC := Lib.hid (HP.out wr x Aa Ax ca cx HB.out (List.mem_of_getElem? hx))
    obtain ⟨q, hq⟩ : ∃ q, cf x = q := ⟨_, rfl⟩
    rw [hq] at HC
    rw [entV] at HC
    have e0 : wr.cell? ⟨b, o + i * 7, none⟩ = some (.int .i64 x.k) := hc 0 _ rfl
    have e1 : wr.cell? ⟨b, o + i * 7 + 1, none⟩ = some (.string x.path) := hc 1 _ rfl
    have e2 : wr.cell? ⟨b, o + i * 7 + 2, none⟩ = some (.slice Aa x.attrs.length ca) := hc 2 _ rfl
    have e3 : wr.cell? ⟨b, o + i * 7 + 3, none⟩ = some (.string x.tgt) := hc 3 _ rfl
    have e4 : wr.cell? ⟨b, o + i * 7 + 4, none⟩ = some (.int .i64 x.size) := hc 4 _ rfl
    have e5 : wr.cell? ⟨b, o + i * 7 + 5, none⟩ = some (.string x.dig) := hc 5 _ rfl
    have e6 : wr.cell? ⟨b, o + i * 7 + 6, none⟩ = some (.slice Ax x.exts.length cx) := hc 6 _ rfl
    clear hc h4 hx ra rx hq
    go_wp2_with fail
    refine HC.out.mono ?_
    rintro e2 w2 ⟨rfl, hb2⟩
    have HB2 := Lib.hid (HB.out.trans (hb2.mono HB.out.size))
    clear hb2 e0 e1 e2 e3 e4 e5 e6
    go_wp2_with fail
    all_goals (go_ret2; exact ⟨by first | exact ⟨_, rfl⟩ | exact .inl rfl | exact .inr rfl | (cases decide (q = 0) <;> first | exact .inl rfl | exact .inr rfl) | (cases hqq : (q == 0) <;> first | exact .inl rfl | exact .inr rfl), HB2.out⟩)
   ·have hinI : ¬ (i : Int) < (l.length : Int) := by omega
    go_wp2_with fail
    go_ret2
    exact ⟨by first | exact ⟨_, rfl⟩ | exact .inl rfl | exact .inr rfl, HB.out⟩
end
end Go.Proofs.YthkjphebhafgoaaGreatDoor
