/-
  Joined: MbK MbKd.
-/
import Derived.Test.YtbccghbngaiceaaGreatDoorMMn30
set_option linter.all false
set_option maxRecDepth 100000
set_option maxHeartbeats 64000000
namespace Go.Proofs.YtbccghbngaiceaaGreatDoor
section
open Go.RowKit
theorem clnEnt_any (w : World) (v : Value) (t : List Ent) (hv : SeqAt entS w v t) (hl : t.length ≤ 100000) : Calls Tryz.prog 106 #[v] w fun e w' => ∃ v', e = .returned v' ∧ OwnSeq entS 48 w w' v' t ∧ Below w.heap.size w w' := by
 obtain ⟨A, c, rfl, h1, h2⟩ := hv.slice
 cases A with
 | none =>
  have e0 : t = [] := by
   cases t with
   | nil => rfl
   | cons x r =>
    obtain ⟨_, _, e, _, _, h3⟩ := hv
    cases e
    obtain ⟨_, _, _, e1, _⟩ := h3 0 x rfl
    cases e1
  subst e0
  have hq : (binOp .eql 41 (.slice none 0 c) (.slice none 0 0)).run Tryz.prog w = .ok (.bool true) w := Lib.run_eql_slice_nil w 41 48 none 0 c 0 0 Tryz.underlying41
  clear hv hl h1
  go_enter Tryz.func106, Tryz.ntmps106
  go_wp2
  go_ret
  exact ⟨_, rfl, OwnSeq.nil w, Below.refl _ _⟩
 | some ad =>
  have HS := Lib.hid hv
  have HB := Lib.hid ((Below.refl w.heap.size w).alloc (Nat.le_refl _) (.cells #[] 48))
  have HO := Lib.hid (OwnSeq.newAt (ρ := entS) (t := 48) (w := w) (W := w) (Nat.le_refl _))
  have HX := Lib.hid (SrcAt.of HS.out HB.out)
  have Hl := Lib.hid hl
  have hq : (binOp .eql 41 (.slice (some ad) t.length c) (.slice none 0 0)).run Tryz.prog w = .ok (.bool false) w := Lib.run_eql_slice_nil w 41 48 (some ad) t.length c 0 0 Tryz.underlying41
  clear hv hl h1
  go_enter Tryz.func106, Tryz.ntmps106
  go_wp2_with (at_builtin; refine append_seqO (w0 := w) (vx := .slice (some ad) t.length c) (us := t) Tryz.elemEnt rfl _ _ rfl rfl HO.out rfl HX.out (by have := Hl.out; simp; omega) HB.out ?_; intro va wa hob hgb hor hbb; have KO := Lib.hid hob; have KB := Lib.hid hbb; clear hob hgb hor hbb)
  go_ret
  exact ⟨_, rfl, by have := KO.out; rwa [List.nil_append] at this, KB.out⟩
theorem halve_end {f : Nat → Bool} {n i : Nat} : halve f n i i = i := by
 cases n with
 | zero => rfl
 | succ n => rw [halve, if_neg (Nat.lt_irrefl _)]
theorem halve_fuel {f : Nat → Bool} : ∀ (n m i j : Nat), j - i ≤ n → j - i ≤ m → i ≤ j → halve f n i j = halve f m i j
 | 0, 0, i, j, _, _, _ => rfl
 | 0, m + 1, i, j, h, _, hij => by
  obtain rfl : i = j := by omega
  rw [halve_end, halve_end]
 | n + 1, 0, i, j, _, h, hij => by
  obtain rfl : i = j := by omega
  rw [halve_end, halve_end]
 | n + 1, m + 1, i, j, h1, h2, hij => by
  rw [halve, halve]
  by_cases h : i < j
  ·rw [if_pos h, if_pos h]
   rw [halve_fuel n m ((i + j) / 2 + 1) j (by omega) (by omega) (by omega), halve_fuel n m i ((i + j) / 2) (by omega) (by omega) (by omega)]
  ·rw [if_neg h, if_neg h]
theorem halve_le {f : Nat → Bool} : ∀ (n i j : Nat), i ≤ j → halve f n i j ≤ j
 | 0, i, j, h => h
 | n + 1, i, j, h => by
  rw [halve]
  by_cases hij : i < j
  ·rw [if_pos hij]
   cases f ((i + j) / 2) with
   | true => rw [if_pos rfl]; exact halve_le n _ _ (by omega)
   | false => rw [if_neg (by decide)]; exact Nat.le_trans (halve_le n _ _ (by omega)) (by omega)
  ·rw [if_neg hij]; exact h
theorem placeT_le (t : List Ent) (p : ByteArray) : placeT t p ≤ t.length := halve_le _ _ _ (Nat.zero_le _)
def CompE (g : Nat) (lb : Array Value) (cf : Ent → Int) (p : ByteArray) (l : List Ent) (w : World) : Prop :=
 ∀ (W : World) (x : Ent) (Aa Ax : Option Addr) (ca cx : Nat), Below w.heap.size w W → x ∈ l → Calls Tryz.prog g (#[entV x (.slice Aa x.attrs.length ca) (.slice Ax x.exts.length cx), .string p] ++ lb) W fun e w' => e = .returned (.int .i64 (cf x)) ∧ Below W.heap.size W w'
theorem bsEnt_any (w : World) (v : Value) (l : List Ent) (hl : SeqAt entS w v l) (hz : l.length ≤ 100000) (p : ByteArray) (g : Nat) (lb : Array Value) (eg : ∀ args w, (callFunc g args).run Tryz.prog w = .ok (.enter g args) w) (cf : Ent → Int) (hp : CompE g lb cf p l w) :
  Calls Tryz.prog 109 #[v, .string p, .func (.func g) #[] lb] w fun e w' => (∃ b, e = .returned (.tuple #[.int .i64 ((halve (belowP l cf) l.length 0 l.length : Nat) : Int), .bool b])) ∧ Below w.heap.size w w' := by
 have HL := Lib.hid hl
 obtain ⟨A, c, rfl, h1, h2⟩ := hl.slice
 have HP := Lib.hid hp
 obtain ⟨F, hF⟩ : ∃ F : Nat → Bool, belowP l cf = F := ⟨_, rfl⟩
 have HFe : Hid (∀ h x, l[h]? = some x → F h = decide (cf x < 0)) := Lib.hid (fun h x hx => by rw [← hF]; unfold belowP; simp only [hx])
 obtain ⟨R, hR⟩ : ∃ R, halve F l.length 0 l.length = R := ⟨_, rfl⟩
 rw [hF, hR]
 have HR := Lib.hid hR
 have HRl : Hid (R ≤ l.length) := Lib.hid (by rw [← hR]; exact halve_le _ _ _ (Nat.zero_le _))
 clear hl hp hR hF
 go_enter Tryz.func109, Tryz.ntmps109
 go_wp2
 go_loopw [9, 10] (fun a b wr => ∃ i j : Nat, i ≤ j ∧ j ≤ l.length ∧ a = .int .i64 (i : Int) ∧ b = .int .i64 (j : Int) ∧ halve F l.length i j = R ∧ Below w.heap.size w wr) (fun a b _ => (intOf b).toNat - (intOf a).toNat)
 case atStart => exact ⟨0, l.length, by omega, Nat.le_refl _, rfl, rfl, HR.out, Below.refl _ _⟩
 case round =>
  obtain ⟨i, j, hij, hj, rfl, rfl, hh, hB⟩ := hrel
  have HH := Lib.hid hh
  have HB := Lib.hid hB
  clear hh hB HR
  by_cases hlt : i < j
  ·have hI : (i : Int) < (j : Int) := by omega
   obtain ⟨m, hm⟩ : ∃ m, (i + j) / 2 = m := ⟨_, rfl⟩
   have hml : m < l.length := by omega
   have hmI : (m : Int) < l.length := by omega
   have hmi : i ≤ m := by omega
   have hmj : m < j := by omega
   obtain ⟨x, hx⟩ : ∃ x, l[m]? = some x := ⟨_, List.getElem?_eq_getElem hml⟩
   have Hx := Lib.hid hx
   obtain ⟨_, _, e9, _, _, h4⟩ := HL.out.below HB.out
   cases e9
   obtain ⟨b, o, cs, rfl, ⟨va, vx, rfl, ra, rx⟩, hc⟩ := h4 m x hx
   obtain ⟨Aa, ca, rfl, _, _⟩ := ra.slice
   obtain ⟨Ax, cx, rfl, _, _⟩ := rx.slice
   have HC := Lib.hid (HP.out wr x Aa Ax ca cx HB.out (List.mem_of_getElem? hx))
   have HQ : Hid (F m = decide (cf x < 0)) := Lib.hid (HFe.out m x hx)
   obtain ⟨q, hq⟩ : ∃ q, cf x = q := ⟨_, rfl⟩
   rw [hq] at HQ HC
   rw [entV] at HC
   have e0 : wr.cell? ⟨b, o + m * 7, none⟩ = some (.int .i64 x.k) := hc 0 _ rfl
   have e1 : wr.cell? ⟨b, o + m * 7 + 1, none⟩ = some (.string x.path) := hc 1 _ rfl
   have e2 : wr.cell? ⟨b, o + m * 7 + 2, none⟩ = some (.slice Aa x.attrs.length ca) := hc 2 _ rfl
   have e3 : wr.cell? ⟨b, o + m * 7 + 3, none⟩ = some (.string x.tgt) := hc 3 _ rfl
   have e4 : wr.cell? ⟨b, o + m * 7 + 4, none⟩ = some (.int .i64 x.size) := hc 4 _ rfl
   have e5 : wr.cell? ⟨b, o + m * 7 + 5, none⟩ = some (.string x.dig) := hc 5 _ rfl
   have e6 : wr.cell? ⟨b, o + m * 7 + 6, none⟩ = some (.slice Ax x.exts.length cx) := hc 6 _ rfl
   have hst : halve F l.length i j = if F m then halve F l.length (m + 1) j else halve F l.length i m := by
    obtain ⟨n, hn⟩ : ∃ n, l.length = n + 1 := ⟨l.length - 1, by omega⟩
    rw [hn, halve, if_pos hlt, hm, halve_fuel n (n + 1) (m + 1) j (by omega) (by omega) (by omega), halve_fuel n (n + 1) i m (by omega) (by omega) (by omega)]
   have HSt : Hid ((if decide (q < 0) = true then halve F l.length (m + 1) j else halve F l.length i m) = R) := Lib.hid (by rw [← HQ.out, ← hst, HH.out])
   have ww1 : IntKind.i64.wrap ((i : Int) + (j : Int)) = (i : Int) + (j : Int) := IntWalk.i64_in _ (by omega)
   have ww2 : IntKind.u64.wrap ((i : Int) + (j : Int)) = (i : Int) + (j : Int) := by rw [IntKind.wrap_u64]; omega
   have ww3 : ((i : Int) + (j : Int)) / 2 = (m : Int) := by omega
   have ww4 : IntKind.i64.wrap (m : Int) = (m : Int) := IntWalk.i64_in _ (by omega)
   have ww5 : IntKind.u64.wrap (m : Int) = (m : Int) := by rw [IntKind.wrap_u64]; omega
   clear hc h4 hx ra rx hst hm hq
   go_wp2_with fail
   refine HC.out.mono ?_
   rintro e2 w2 ⟨rfl, hb2⟩
   have HB2 := Lib.hid (HB.out.trans (hb2.mono HB.out.size))
   clear hb2 e0 e1 e2 e3 e4 e5 e6 ww1 ww2 ww3 ww4 ww5
   by_cases hq0 : q < 0
   ·have HR2 : Hid (halve F l.length (m + 1) j = R) := Lib.hid (by have := HSt.out; rwa [if_pos (decide_eq_true hq0)] at this)
    have hm1 : (m : Int) < 100000 := by omega
    go_wp2
    go_roundw
    case rel => exact ⟨m + 1, j, by omega, hj, by go_num, rfl, HR2.out, HB2.out⟩
    case measure => simp [intOf]; omega
   ·have HR2 : Hid (halve F l.length i m = R) := Lib.hid (by have := HSt.out; rwa [if_neg (by rw [decide_eq_false hq0]; decide)] at this)
    go_wp2
    go_roundw
    case rel => exact ⟨i, m, hmi, by omega, rfl, rfl, HR2.out, HB2.out⟩
    case measure => simp [intOf]; omega
  ·obtain rfl : i = j := by omega
   have hI : ¬ (i : Int) < (i : Int) := by omega
   obtain rfl : i = R := by rw [← HH.out, halve_end]
   by_cases hin : i < l.length
   ·have hinI : (i : Int) < (l.length : Int) := by omega
    obtain ⟨x, hx⟩ : ∃ x, l[i]? = some x := ⟨_, List.getElem?_eq_getElem hin⟩
    obtain ⟨_, _, e9, _, _, h4⟩ := HL.out.below HB.out
    cases e9
    obtain ⟨b, o, cs, rfl, ⟨va, vx, rfl, ra, rx⟩, hc⟩ := h4 i x hx
    obtain ⟨Aa, ca, rfl, _, _⟩ := ra.slice
    obtain ⟨Ax, cx, rfl, _, _⟩ := rx.slice
    have HC := Lib.hid (HP.out wr x Aa Ax ca cx HB.out (List.mem_of_getElem? hx))
    obtain ⟨q, hq⟩ : ∃ q, cf x = q := ⟨_, rfl⟩
    rw [hq] at HC
    rw [entV] at HC
    have e0 : wr.cell? ⟨b, o + i * 7, none⟩ = some (.int .i64 x.k) := hc 0 _ rfl
    have e1 : wr.cell? ⟨b, o + i * 7 + 1, none⟩ = some (.string x.path) := hc 1 _ rfl
    have e2 : wr.cell? ⟨b, o + i * 7 + 2, none⟩ = some (.slice Aa x.attrs.length ca) := hc 2 _ rfl
    have e3 : wr.cell? ⟨b, o + i * 7 + 3, none⟩ = some (.string x.tgt) := hc 3 _ rfl
    have e4 : wr.cell? ⟨b, o + i * 7 + 4, none⟩ = some (.int .i64 x.size) := hc 4 _ rfl
    have e5 : wr.cell? ⟨b, o + i * 7 + 5, none⟩ = some (.string x.dig) := hc 5 _ rfl
    have e6 : wr.cell? ⟨b, o + i * 7 + 6, none⟩ = some (.slice Ax x.exts.length cx) := hc 6 _ rfl
    clear hc h4 hx ra rx hq
    go_wp2_with fail
    refine HC.out.mono ?_
    rintro e2 w2 ⟨rfl, hb2⟩
    have HB2 := Lib.hid (HB.out.trans (hb2.mono HB.out.size))
    clear hb2 e0 e1 e2 e3 e4 e5 e6
    go_wp2_with fail
    all_goals (go_ret2; exact ⟨by first | exact ⟨_, rfl⟩ | exact .inl rfl | exact .inr rfl | (cases decide (q = 0) <;> first | exact .inl rfl | exact .inr rfl) | (cases hqq : (q == 0) <;> first | exact .inl rfl | exact .inr rfl), HB2.out⟩)
   ·have hinI : ¬ (i : Int) < (l.length : Int) := by omega
    go_wp2_with fail
    go_ret2
    exact ⟨by first | exact ⟨_, rfl⟩ | exact .inl rfl | exact .inr rfl, HB.out⟩
theorem idxP_before {α : Type} {f : α → Bool} : ∀ {l : List α} {k : Nat}, idxP f l = some k → ∀ j y, j < k → l[j]? = some y → f y = false
 | [], k, h, _, _, _, _ => by cases h
 | a :: r, k, h, j, y, hj, hy => by
  rw [idxP] at h
  cases hf : f a with
  | true =>
   rw [hf, if_pos rfl] at h
   cases h
   omega
  | false =>
   rw [hf, if_neg (by decide)] at h
   cases e : idxP f r with
   | none => rw [e] at h; cases h
   | some m =>
    rw [e] at h
    cases h
    cases j with
    | zero =>
     obtain rfl : a = y := by simpa using hy
     exact hf
    | succ j => exact idxP_before e j y (Nat.lt_of_succ_lt_succ hj) (by simpa using hy)
def Strike (w0 W : World) (g cap : Nat) (cur : Array Value) (m : List Ent) (i j : Nat) : Prop :=
 ∃ (cu : Array Value) (css : List (List Value)), W.heap[g]? = some (.cells cu 48 (0, 0)) ∧ cu.size = cap * 7 ∧ css.length = i ∧ Both (entS.R w0) css m ∧ cu.toList.take (i * 7) = css.flatten ∧ cu.toList.drop (j * 7) = cur.toList.drop (j * 7)
theorem Strike.kept {w0 W W' : World} {g cap : Nat} {cur : Array Value} {m : List Ent} {i j : Nat} (h : Strike w0 W g cap cur m i j) (hb : Below W.heap.size W W') : Strike w0 W' g cap cur m i j := by
 obtain ⟨cu, css, h1, r⟩ := h
 exact ⟨cu, css, (hb.block g (Array.getElem?_eq_some_iff.1 h1).1).trans h1, r⟩
theorem Strike.cell {w0 W : World} {g cap : Nat} {cur : Array Value} {m : List Ent} {i j q : Nat} {u : Value} (h : Strike w0 W g cap cur m i j) (hu : cur.toList[j * 7 + q]? = some u) : W.cell? ⟨g, j * 7 + q, none⟩ = some u := by
 obtain ⟨cu, css, h1, h2, h3, h4, h5, h6⟩ := h
 have e := congrArg (fun l => l[q]?) h6
 simp only [List.getElem?_drop] at e
 simp only [World.cell?, h1]
 rw [← hu, ← e]
 simp
theorem Strike.pass {w0 W : World} {g cap : Nat} {cur : Array Value} {m : List Ent} {i j : Nat} (h : Strike w0 W g cap cur m i j) : Strike w0 W g cap cur m i (j + 1) := by
 obtain ⟨cu, css, h1, h2, h3, h4, h5, h6⟩ := h
 refine ⟨cu, css, h1, h2, h3, h4, h5, ?_⟩
 have e := congrArg (List.drop 7) h6
 rw [List.drop_drop, List.drop_drop] at e
 rw [Nat.add_mul, Nat.one_mul]
 exact e
theorem Strike.put {w0 W : World} {g cap : Nat} {cur : Array Value} {m : List Ent} {i j : Nat} {cs : List Value} {x : Ent} (h : Strike w0 W g cap cur m i j) (hij : i < j) (hj : j < cap) (hx : entS.R w0 cs x) : Strike w0 (W.setCells g (i * 7) cs) g cap cur (m ++ [x]) (i + 1) (j + 1) := by
 obtain ⟨cu, css, h1, h2, h3, h4, h5, h6⟩ := h
 have hl : cs.length = 7 := entS.len hx
 have hle : i * 7 + 7 ≤ j * 7 := by omega
 have hjc : j * 7 + 7 ≤ cap * 7 := by omega
 have hfit : i * 7 + cs.length ≤ cu.size := by rw [hl, h2]; omega
 have ht : (cu.toList.take (i * 7)).length = i * 7 := by rw [List.length_take, Array.length_toList, h2]; omega
 rw [setCells_row g 48 cs (i * 7) cu W h1 hfit]
 refine ⟨_, css ++ [cs], setRow_heap W g cu _ 48 _ h1, ?_, by rw [List.length_append, h3]; rfl, h4.app (.cons hx .nil), ?_, ?_⟩
 ·rw [List.size_toArray, List.length_append, List.length_append, ht, hl, List.length_drop, Array.length_toList, h2]
  omega
 ·rw [List.toList_toArray, List.flatten_append, ← h5, List.take_append_of_le_length (by rw [List.length_append, ht, hl]; omega), List.take_of_length_le (by rw [List.length_append, ht, hl]; omega)]
  simp
 ·rw [List.toList_toArray, List.drop_append, List.drop_of_length_le (by rw [List.length_append, ht, hl]; omega), List.nil_append, List.drop_drop, List.length_append, ht, hl]
  have e := congrArg (List.drop 7) h6
  rw [List.drop_drop, List.drop_drop] at e
  rw [show i * 7 + 7 + ((j + 1) * 7 - (i * 7 + 7)) = j * 7 + 7 by omega, show (j + 1) * 7 = j * 7 + 7 by omega]
  exact e
theorem Strike.shut {w0 W : World} {g cap : Nat} {cur : Array Value} {m : List Ent} {i j n c : Nat} (h : Strike w0 W g cap cur m i j) (hi : i ≤ n) (hn : n ≤ cap) (hcs : cur.size = cap * 7) (ty : TypeId) : ∃ W', (Builtin.clear_ #[41] ty #[.slice (some ⟨g, i * 7, none⟩) (n - i) c]).run Tryz.prog W = .ok (.tuple #[]) W' ∧ Strike w0 W' g cap cur m i cap ∧ (∀ B, B ≤ g → ∀ V : World, Below B V W → Below B V W') := by
 obtain ⟨cu, css, h1, h2, h3, h4, h5, h6⟩ := h
 have ht : (cu.toList.take (i * 7)).length = i * 7 := by rw [List.length_take, Array.length_toList, h2]; omega
 have hz : (Value.agg #[.int .i64 0, .string ⟨#[]⟩, .slice none 0 0, .string ⟨#[]⟩, .int .i64 0, .string ⟨#[]⟩, .slice none 0 0]).cells.size = 7 := rfl
 have hzl : (Builtin.zeroCells (Value.agg #[.int .i64 0, .string ⟨#[]⟩, .slice none 0 0, .string ⟨#[]⟩, .int .i64 0, .string ⟨#[]⟩, .slice none 0 0]).cells (n - i)).toList.length = (n - i) * 7 := by rw [Array.length_toList, zeroCells_len, hz]
 have hfit : i * 7 + (n - i) * 7 ≤ cap * 7 := by rw [← Nat.add_mul]; exact Nat.mul_le_mul (by omega) (Nat.le_refl 7)
 have hr := run_clear_rowK (P := Tryz.prog) W 41 48 ty (.agg #[.int .i64 0, .string ⟨#[]⟩, .slice none 0 0, .string ⟨#[]⟩, .int .i64 0, .string ⟨#[]⟩, .slice none 0 0]) Tryz.underlying41 Tryz.zeroValue48 (by simp [Value.cells, Value.oneCell']) g (i * 7) (n - i) c cu 48 h1 (by rw [hz, h2]; exact hfit)
 refine ⟨_, hr, ⟨_, css, setRow_heap W g cu _ 48 _ h1, ?_, h3, h4, ?_, ?_⟩, fun B hB V hV => below_setRow hV hB _⟩
 ·rw [List.size_toArray, List.length_append, List.length_append, ht, hzl, hz, List.length_drop, Array.length_toList, h2]
  omega
 ·rw [List.toList_toArray, List.append_assoc, List.take_append_of_le_length (by rw [ht]; omega), List.take_of_length_le (by rw [ht]; omega), h5]
 ·rw [List.drop_of_length_le, List.drop_of_length_le]
  ·rw [Array.length_toList, hcs]; omega
  ·rw [List.toList_toArray, List.length_append, List.length_append, ht, hzl, hz, List.length_drop, Array.length_toList, h2]
   omega
theorem Strike.seq {w0 W : World} {g cap : Nat} {cur : Array Value} {m : List Ent} {i j : Nat} (h : Strike w0 W g cap cur m i j) (hi : i ≤ cap) (hc : cap ≤ maxLen) (hg : w0.heap.size ≤ g) (hb : Below w0.heap.size w0 W) : SeqAt entS W (.slice (some ⟨g, 0, none⟩) i cap) m := by
 obtain ⟨cu, css, h1, h2, h3, h4, h5, h6⟩ := h
 have hm : m.length = i := by rw [← h4.len, h3]
 have hfl : css.flatten.length = i * 7 := by rw [flat_len h4.lens, h3]; rfl
 have hO : OwnSeq entS 48 w0 W (.slice (some ⟨g, 0, none⟩) i cap) m := ⟨css, by
  rw [hm]
  exact ⟨hfl, .inr ⟨g, cap, cu, rfl, hg, h1, hi, hc, h2, h5⟩⟩, h4⟩
 exact hO.at hb
theorem Strike.lt {w0 W : World} {g cap : Nat} {cur : Array Value} {m : List Ent} {i j : Nat} (h : Strike w0 W g cap cur m i j) : g < W.heap.size := by
 obtain ⟨cu, css, h1, r⟩ := h
 exact (Array.getElem?_eq_some_iff.1 h1).1
theorem Strike.there {w0 W : World} {g cap : Nat} {cur : Array Value} {m : List Ent} {i j : Nat} (h : Strike w0 W g cap cur m i j) (hij : i < j) (hj : j < cap) : W.there g (i * 7) 7 := by
 obtain ⟨cu, css, h1, h2, _⟩ := h
 intro q hq
 refine ⟨?_, by simp [World.frozen?, h1]⟩
 have : i * 7 + q < cu.size := by rw [h2]; omega
 simp [World.cell?, h1, this]
theorem Strike.put_below {w0 W : World} {g cap : Nat} {cur : Array Value} {m : List Ent} {i j B : Nat} {cs : List Value} {x : Ent} {V : World} (h : Strike w0 W g cap cur m i j) (hij : i < j) (hj : j < cap) (hx : entS.R w0 cs x) (hB : B ≤ g) (hV : Below B V W) : Below B V (W.setCells g (i * 7) cs) := by
 obtain ⟨cu, css, h1, h2, _⟩ := h
 have hl : cs.length = 7 := entS.len hx
 rw [setCells_row g 48 cs (i * 7) cu W h1 (by rw [hl, h2]; omega)]
 exact below_setRow hV hB _
theorem Tryz.sizeEntry7 : (Tryz.prog.info? 48).map (·.size) = some 7 := by kernel_rfl
theorem ent_store {ops : Array Oper} {rest : List Oper} {op : Oper} {a : Act} {W : World} {Q : Exit → Act → World → Prop} (hgd : op.guard = none) (x y : Operand) (ho : op.op = .store 48 x y)
  (b o : Nat) (cells : Array Value) (hx : a.eval x = .pointer (some ⟨b, o, none⟩)) (hy : a.eval y = .agg cells)
  (ht : W.there b o cells.size) (h7 : cells.size = 7) (h1 : cells.all (·.oneCell') = true) (W1 : World) (hE : W.setCells b o cells.toList = W1)
  (h : wpList Tryz.prog ops Q rest (a.put op.dst undef) W1) : wpList Tryz.prog ops Q (op :: rest) a W :=
 wpList_store_mid hgd 48 x y ho b o cells hx hy ht (by rw [h7]; exact Tryz.sizeEntry7) h1 (by rw [hE]; exact h)
theorem delEnt_any (w0 w : World) (v : Value) (l : List Ent) (hO : OwnSeq entS 48 w0 w v l) (hB : Below w0.heap.size w0 w) (hz : l.length ≤ 100000) (g : Nat) (lb : Array Value) (eg : ∀ args w, (callFunc g args).run Tryz.prog w = .ok (.enter g args) w) (p : Ent → Bool) (hp : JudgeE g lb p l w0) :
  Calls Tryz.prog 105 #[v, .func (.func g) #[] lb] w fun e w' => ∃ v', e = .returned v' ∧ SeqAt entS w' v' (l.filter fun x => !p x) ∧ Below w0.heap.size w0 w' := by
 have HX := Lib.hid (idxEnt_any w v l (hO.at hB) g lb eg p (fun W x Aa Ax ca cx hW hx => hp W x Aa Ax ca cx (hB.trans (hW.mono hB.size)) hx))
 have HP := Lib.hid hp
 have HB := Lib.hid hB
 cases hI : idxP p l with
 | none =>
  have hf : l.filter (fun x => !p x) = l := List.filter_eq_self.2 fun x hx => by
   have : l.any p = false := by
    cases q : l.any p with
    | false => rfl
    | true =>
     have := (idxI_any (f := p) (l := l)).mpr q
     rw [hI] at this
     exact absurd this (by decide)
   rw [List.any_eq_false] at this
   simpa using this x hx
  have HS := Lib.hid (hO.at hB)
  obtain ⟨A, c, rfl, _, _⟩ := HS.out.slice
  rw [hI, show idxI none = -1 from rfl] at HX
  rw [hf]
  clear hO hB hp hI hf
  go_enter Tryz.func105, Tryz.ntmps105
  go_wp2_with fail
  refine HX.out.mono ?_
  rintro e1 w1 ⟨rfl, hb1⟩
  have HS1 := Lib.hid (HS.out.below hb1)
  have HB1 := Lib.hid (HB.out.trans (hb1.mono HB.out.size))
  clear hb1
  go_wp2_with fail
  go_ret
  exact ⟨_, rfl, HS1.out, HB1.out⟩
 | some k0 =>
  obtain ⟨x0, hx0, hpx0⟩ := idxP_at hI
  have hk0 : k0 < l.length := (List.getElem?_eq_some_iff.1 hx0).1
  have HLt : Hid (∀ j y, j < k0 → l[j]? = some y → p y = false) := Lib.hid (idxP_before hI)
  obtain ⟨css, hown, hbt⟩ := hO
  have hlens := hbt.lens
  have hlen := hbt.len
  obtain ⟨gr, cap, cur, rfl, hgr, hcur, hnc, hcm, hcs, hxs⟩ := own_row hown (by omega)
  have hflat : ∀ q, q < l.length * 7 → cur.toList[q]? = css.flatten[q]? := fun q hq => by
   rw [← hxs, List.getElem?_take, if_pos (by exact hq)]
  have HSt : Hid (Strike w0 w gr cap cur (l.take k0) k0 (k0 + 1)) := Lib.hid ⟨cur, css.take k0, hcur, hcs, by rw [List.length_take]; omega, hbt.take k0, by
   rw [flat_take hlens, ← hxs, List.take_take, show entS.n = 7 from rfl, Nat.min_eq_left (Nat.mul_le_mul (by omega) (Nat.le_refl 7))], rfl⟩
  have HCs : Hid (∀ j x, l[j]? = some x → ∃ cs, entS.R w0 cs x ∧ ∀ q u, cs[q]? = some u → cur.toList[j * 7 + q]? = some u) := Lib.hid (fun j x hx => by
   obtain ⟨cs, hc1, hc2⟩ := hbt.at hx
   refine ⟨cs, hc2, fun q u hu => ?_⟩
   have hq7 : q < 7 := by
    have := (List.getElem?_eq_some_iff.1 hu).1
    rwa [entS.len hc2] at this
   have hj : j < l.length := (List.getElem?_eq_some_iff.1 hx).1
   rw [hflat (j * 7 + q) (by omega), ← hu]
   exact flat_get hlens hc1 q hq7)
  have HFk : Hid ((l.take (k0 + 1)).filter (fun x => !p x) = l.take k0) := Lib.hid (by
   rw [filt_take hx0]
   simp only [hpx0, Bool.not_true]
   rw [List.filter_eq_self.2]
   ·simp
   ·intro y hy
    obtain ⟨j, hj⟩ := List.mem_iff_getElem?.1 hy
    rw [List.getElem?_take] at hj
    split at hj
    ·rename_i hjk
     rw [HLt.out j y hjk hj]
     rfl
    ·cases hj)
  rw [hI, show idxI (some k0) = (k0 : Int) from rfl] at HX
  have i1 : ((k0 : Int) == -1) = false := by rw [beq_eq_false_iff_ne]; omega
  have i2 : (k0 : Int) < 100000 := by omega
  have HG := Lib.hid hgr
  have Hnc := Lib.hid hnc
  have Hcm := Lib.hid hcm
  have HCz := Lib.hid hcs
  clear hI hx0 hpx0 hown hbt hlens hlen hcur hcs hxs hflat hB hp
  go_enter Tryz.func105, Tryz.ntmps105
  go_wp2_with fail
  refine HX.out.mono ?_
  rintro e1 w1 ⟨rfl, hb1⟩
  have HSt1 := Lib.hid (HSt.out.kept hb1)
  have HB1 := Lib.hid (HB.out.trans (hb1.mono HB.out.size))
  clear hb1
  go_wp2
  go_loopw [5, 6, 7] (fun a b _ wr => ∃ i j : Nat, i < j ∧ j ≤ l.length ∧ a = .int .i64 (i : Int) ∧ b = .int .i64 (j : Int) ∧ Strike w0 wr gr cap cur ((l.take j).filter fun x => !p x) i j ∧ Below w0.heap.size w0 wr) (fun _ b _ _ => l.length - (intOf b).toNat)
  case atStart => exact ⟨k0, k0 + 1, by omega, by omega, rfl, by go_num, by rw [HFk.out]; exact HSt1.out, HB1.out⟩
  case round =>
   obtain ⟨i, j, hij, hjl, rfl, rfl, hS, hB⟩ := hrel
   have HS := Lib.hid hS
   have HBr := Lib.hid hB
   clear hS hB
   by_cases h : j < l.length
   ·have hI : (j : Int) < (l.length : Int) := by omega
    have hI2 : (i : Int) < (l.length : Int) := by omega
    obtain ⟨x, hx⟩ : ∃ x, l[j]? = some x := ⟨_, List.getElem?_eq_getElem h⟩
    have HFt := Lib.hid (filt_take hx (fun x => !p x))
    obtain ⟨cs, hcR, hcu⟩ := HCs.out j x hx
    have HcR := Lib.hid hcR
    obtain ⟨va, vx, rfl, ra, rx⟩ := hcR
    obtain ⟨Aa, ca, rfl, _, _⟩ := ra.slice
    obtain ⟨Ax, cx, rfl, _, _⟩ := rx.slice
    have e0 : wr.cell? ⟨gr, j * 7, none⟩ = some (.int .i64 x.k) := HS.out.cell (q := 0) (hcu 0 _ rfl)
    have e1 : wr.cell? ⟨gr, j * 7 + 1, none⟩ = some (.string x.path) := HS.out.cell (hcu 1 _ rfl)
    have e2 : wr.cell? ⟨gr, j * 7 + 2, none⟩ = some (.slice Aa x.attrs.length ca) := HS.out.cell (hcu 2 _ rfl)
    have e3 : wr.cell? ⟨gr, j * 7 + 3, none⟩ = some (.string x.tgt) := HS.out.cell (hcu 3 _ rfl)
    have e4 : wr.cell? ⟨gr, j * 7 + 4, none⟩ = some (.int .i64 x.size) := HS.out.cell (hcu 4 _ rfl)
    have e5 : wr.cell? ⟨gr, j * 7 + 5, none⟩ = some (.string x.dig) := HS.out.cell (hcu 5 _ rfl)
    have e6 : wr.cell? ⟨gr, j * 7 + 6, none⟩ = some (.slice Ax x.exts.length cx) := HS.out.cell (hcu 6 _ rfl)
    have hT := Blk.new wr 48 [.int .i64 x.k, .string x.path, .slice Aa x.attrs.length ca, .string x.tgt, .int .i64 x.size, .string x.dig, .slice Ax x.exts.length cx]
    change Blk (wr.alloc (.cells #[.int .i64 x.k, .string x.path, .slice Aa x.attrs.length ca, .string x.tgt, .int .i64 x.size, .string x.dig, .slice Ax x.exts.length cx] 48)) _ _ _ at hT
    have hBt := HBr.out.alloc HBr.out.size (.cells #[.int .i64 x.k, .string x.path, .slice Aa x.attrs.length ca, .string x.tgt, .int .i64 x.size, .string x.dig, .slice Ax x.exts.length cx] 48)
    have HC := Lib.hid (HP.out _ x Aa Ax ca cx hBt (List.mem_of_getElem? hx))
    have HT := Lib.hid hT
    have HBt := Lib.hid hBt
    have HSt := Lib.hid (HS.out.kept ((Below.refl wr.heap.size wr).alloc (Nat.le_refl _) (.cells #[.int .i64 x.k, .string x.path, .slice Aa x.attrs.length ca, .string x.tgt, .int .i64 x.size, .string x.dig, .slice Ax x.exts.length cx] 48)))
    have Hne : Hid (wr.heap.size ≠ gr) := Lib.hid (by have := HS.out.lt; omega)
    rw [entV] at HC
    obtain ⟨q, hq⟩ : ∃ q, p x = q := ⟨_, rfl⟩
    rw [hq] at HC HFt
    clear hcu hx ra rx hT hBt hq HS HBr
    go_upto_region 8 with fail
    generalize wr.alloc (.cells #[.int .i64 x.k, .string x.path, .slice Aa x.attrs.length ca, .string x.tgt, .int .i64 x.size, .string x.dig, .slice Ax x.exts.length cx] 48) = wt at *
    clear e0 e1 e2 e3 e4 e5 e6
    have t0 := HT.out.cell (i := 0) rfl
    have t1 := HT.out.cell (i := 1) rfl
    have t2 := HT.out.cell (i := 2) rfl
    have t3 := HT.out.cell (i := 3) rfl
    have t4 := HT.out.cell (i := 4) rfl
    have t5 := HT.out.cell (i := 5) rfl
    have t6 := HT.out.cell (i := 6) rfl
    go_wp2_with fail
    refine HC.out.mono ?_
    rintro e2 w2 ⟨rfl, hb2⟩
    have HT2 := Lib.hid (HT.out.kept hb2)
    have HS2 := Lib.hid (HSt.out.kept hb2)
    have HB2 := Lib.hid (HBt.out.trans (hb2.mono HBt.out.size))
    clear hb2 t0 t1 t2 t3 t4 t5 t6 HT HSt HBt
    have j1 : IntKind.i64.wrap ((j : Int) + 1) = ((j + 1 : Nat) : Int) := by rw [IntWalk.i64_in _ (by omega)]; omega
    cases q with
    | true =>
     have HF0 : Hid ((l.take (j + 1)).filter (fun x => !p x) = (l.take j).filter (fun x => !p x)) := Lib.hid (by rw [HFt.out]; simp)
     go_wp2
     go_roundw
     case rel => exact ⟨i, j + 1, by omega, by omega, rfl, by go_num, by rw [HF0.out]; exact HS2.out.pass, HB2.out⟩
     case measure => simp [intOf]; omega
    | false =>
     have HF1 : Hid ((l.take (j + 1)).filter (fun x => !p x) = (l.take j).filter (fun x => !p x) ++ [x]) := Lib.hid (by rw [HFt.out]; rfl)
     have t0 := HT2.out.cell (i := 0) rfl
     have t1 := HT2.out.cell (i := 1) rfl
     have t2 := HT2.out.cell (i := 2) rfl
     have t3 := HT2.out.cell (i := 3) rfl
     have t4 := HT2.out.cell (i := 4) rfl
     have t5 := HT2.out.cell (i := 5) rfl
     have t6 := HT2.out.cell (i := 6) rfl
     have HPt := Lib.hid (HS2.out.put hij (by have := Hnc.out; omega) HcR.out)
     have HPb := Lib.hid (HS2.out.put_below hij (by have := Hnc.out; omega) HcR.out HG.out HB2.out)
     have HTh : Hid (w2.there gr (i * 7) 7) := Lib.hid (HS2.out.there hij (by have := Hnc.out; omega))
     obtain ⟨W3, hW3⟩ : ∃ W3, w2.setCells gr (i * 7) [.int .i64 x.k, .string x.path, .slice Aa x.attrs.length ca, .string x.tgt, .int .i64 x.size, .string x.dig, .slice Ax x.exts.length cx] = W3 := ⟨_, rfl⟩
     rw [hW3] at HPt HPb
     have HW3 := Lib.hid hW3
     clear hW3
     go_wp2_with (refine ent_store rfl (.tmp 33) (.tmp 32) rfl gr (i * 7) #[.int .i64 x.k, .string x.path, .slice Aa x.attrs.length ca, .string x.tgt, .int .i64 x.size, .string x.dig, .slice Ax x.exts.length cx] rfl rfl HTh.out rfl (by simp [Value.oneCell']) W3 HW3.out ?_)
     go_roundw
     case rel => exact ⟨i + 1, j + 1, by omega, by omega, by go_num, by go_num, by rw [HF1.out]; exact HPt.out, HPb.out⟩
     case measure => simp [intOf]; omega
   ·obtain rfl : j = l.length := by omega
    have hI : ¬ ((l.length : Nat) : Int) < (l.length : Int) := by omega
    have HFn : Hid ((l.take l.length).filter (fun x => !p x) = l.filter (fun x => !p x)) := Lib.hid (by rw [List.take_length])
    obtain ⟨W4, hclr, hS4, hW4⟩ := HS.out.shut (n := l.length) (c := cap - i) (by omega) Hnc.out HCz.out 0
    have HClr := Lib.hid hclr
    have HS4 := Lib.hid hS4
    have HB4 := Lib.hid (hW4 _ HG.out _ HBr.out)
    have q1 : ¬ (cap = i) := by have := Hnc.out; omega
    have q2 : (i : Int) ≤ (l.length : Int) := by omega
    have q3 : (i : Int) ≤ (cap : Int) := by have := Hnc.out; omega
    have HSq := Lib.hid (HS4.out.seq (by have := Hnc.out; omega) Hcm.out HG.out HB4.out)
    rw [HFn.out] at HSq
    clear hclr hS4 hW4
    go_wp2_with fail
    rw [HClr.out]
    go_wp2_with fail
    go_ret
    exact ⟨_, rfl, HSq.out, HB4.out⟩
end
end Go.Proofs.YtbccghbngaiceaaGreatDoor
