/-
  Joined: MbJ.
-/
import Derived.Test.YthkjphebhafgoaaGreatDoorMBn29
set_option linter.all false
set_option maxRecDepth 100000
set_option maxHeartbeats 64000000
namespace Go.Proofs.YthkjphebhafgoaaGreatDoor
section
open Go.RowKit
theorem idxP_some {α : Type} {f : α → Bool} : ∀ {l : List α} {k : Nat} {x : α}, (∀ j y, j < k → l[j]? = some y → f y = false) → l[k]? = some x → f x = true → idxP f l = some k
 | [], k, x, _, hx, _ => by simp at hx
 | a :: r, 0, x, _, hx, hf => by
  obtain rfl : a = x := by simpa using hx
  rw [idxP, if_pos hf]
 | a :: r, k + 1, x, h, hx, hf => by
  have h0 := h 0 a (by omega) rfl
  rw [idxP, if_neg (by rw [h0]; decide), idxP_some (l := r) (k := k) (fun j y hj hy => h (j + 1) y (by omega) (by simpa using hy)) (by simpa using hx) hf]
  rfl
theorem idxP_none {α : Type} {f : α → Bool} : ∀ {l : List α}, (∀ x ∈ l, f x = false) → idxP f l = none
 | [], _ => rfl
 | a :: r, h => by
  rw [idxP, if_neg (by rw [h a List.mem_cons_self]; decide), idxP_none fun x hx => h x (List.mem_cons_of_mem _ hx)]
  rfl
theorem idxP_at {α : Type} {f : α → Bool} : ∀ {l : List α} {k : Nat}, idxP f l = some k → ∃ x, l[k]? = some x ∧ f x = true
 | [], k, h => by cases h
 | a :: r, k, h => by
  rw [idxP] at h
  cases hf : f a with
  | true =>
   rw [hf, if_pos rfl] at h
   cases h
   exact ⟨a, rfl, hf⟩
  | false =>
   rw [hf, if_neg (by decide)] at h
   cases e : idxP f r with
   | none => rw [e] at h; cases h
   | some j =>
    rw [e] at h
    cases h
    obtain ⟨x, hx, hfx⟩ := idxP_at e
    exact ⟨x, by simpa using hx, hfx⟩
theorem find_idx {α : Type} {f : α → Bool} : ∀ {l : List α}, l.find? f = match idxP f l with | some k => l[k]? | none => none
 | [] => rfl
 | a :: r => by
  rw [idxP, List.find?_cons]
  cases hf : f a with
  | true => rw [if_pos rfl]; rfl
  | false =>
   rw [if_neg (by decide), find_idx (l := r)]
   cases idxP f r with
   | none => rfl
   | some j => simp
def idxI : Option Nat → Int
 | some k => (k : Int)
 | none => -1
def JudgeE (g : Nat) (lb : Array Value) (p : Ent → Bool) (l : List Ent) (w : World) : Prop :=
 ∀ (W : World) (x : Ent) (Aa Ax : Option Addr) (ca cx : Nat), Below w.heap.size w W → x ∈ l → Calls Tryz.prog g (#[entV x (.slice Aa x.attrs.length ca) (.slice Ax x.exts.length cx)] ++ lb) W fun e w' => e = .returned (.bool (p x)) ∧ Below W.heap.size W w'
theorem idxEnt_any (w : World) (v : Value) (l : List Ent) (hl : SeqAt entS w v l) (g : Nat) (lb : Array Value) (eg : ∀ args w, (callFunc g args).run Tryz.prog w = .ok (.enter g args) w) (p : Ent → Bool) (hp : JudgeE g lb p l w) :
  Calls Tryz.prog 155 #[v, .func (.func g) #[] lb] w fun e w' => e = .returned (.int .i64 (idxI (idxP p l))) ∧ Below w.heap.size w w' := by
 have HL := Lib.hid hl
 obtain ⟨A, c, rfl, h1, h2⟩ := hl.slice
 have HP := Lib.hid hp
 obtain ⟨R, hR⟩ : ∃ R, idxP p l = R := ⟨_, rfl⟩
 rw [hR]
 have HR := Lib.hid hR
 clear hl hp hR
 go_enter Tryz.func155, Tryz.ntmps155
 go_wp2
 go_loopw [8] (fun i wr => ∃ k : Nat, k ≤ l.length ∧ i = .int .i64 k ∧ (∀ (j : Nat) (y : Ent), j < k → l[j]? = some y → p y = false) ∧ Below w.heap.size w wr) (fun i _ => l.length - (intOf i).toNat)
 case atStart => exact ⟨0, Nat.zero_le _, rfl, fun j r h => absurd h (Nat.not_lt_zero _), Below.refl _ _⟩
 case round =>
  obtain ⟨k, hk, rfl, hr, hB⟩ := hrel
  have Hr := Lib.hid hr
  have HB := Lib.hid hB
  clear hr hB
  by_cases hlt : k < l.length
  ·have hkI : (k : Int) < l.length := by omega
   obtain ⟨x, hx⟩ : ∃ x, l[k]? = some x := ⟨_, List.getElem?_eq_getElem hlt⟩
   have Hx := Lib.hid hx
   obtain ⟨_, _, e9, _, _, h4⟩ := HL.out.below HB.out
   cases e9
   obtain ⟨b, o, cs, rfl, ⟨va, vx, rfl, ra, rx⟩, hc⟩ := h4 k x hx
   obtain ⟨Aa, ca, rfl, _, _⟩ := ra.slice
   obtain ⟨Ax, cx, rfl, _, _⟩ := rx.slice
   have HC := Lib.hid (HP.out wr x Aa Ax ca cx HB.out (List.mem_of_getElem? hx))
   obtain ⟨q, hq⟩ : ∃ q, p x = q := ⟨_, rfl⟩
   have HQ := Lib.hid hq
   rw [hq, entV] at HC
   have e0 : wr.cell? ⟨b, o + k * 7, none⟩ = some (.int .i64 x.k) := hc 0 _ rfl
   have e1 : wr.cell? ⟨b, o + k * 7 + 1, none⟩ = some (.string x.path) := hc 1 _ rfl
   have e2 : wr.cell? ⟨b, o + k * 7 + 2, none⟩ = some (.slice Aa x.attrs.length ca) := hc 2 _ rfl
   have e3 : wr.cell? ⟨b, o + k * 7 + 3, none⟩ = some (.string x.tgt) := hc 3 _ rfl
   have e4 : wr.cell? ⟨b, o + k * 7 + 4, none⟩ = some (.int .i64 x.size) := hc 4 _ rfl
   have e5 : wr.cell? ⟨b, o + k * 7 + 5, none⟩ = some (.string x.dig) := hc 5 _ rfl
   have e6 : wr.cell? ⟨b, o + k * 7 + 6, none⟩ = some (.slice Ax x.exts.length cx) := hc 6 _ rfl
   clear hc h4 hx hq ra rx
   go_wp2_with fail
   refine HC.out.mono ?_
   rintro e w2 ⟨rfl, hb2⟩
   have HB2 := Lib.hid (HB.out.trans (hb2.mono HB.out.size))
   clear hb2 e0 e1 e2 e3 e4 e5 e6
   cases q with
   | true =>
    have hr : R = some k := by rw [← HR.out]; exact idxP_some Hr.out Hx.out HQ.out
    subst hr
    go_wp2
    go_ret
    exact ⟨rfl, HB2.out⟩
   | false =>
    go_wp2
    go_roundw
    case rel =>
     refine ⟨k + 1, by omega, by go_num, fun j r hj he => ?_, HB2.out⟩
     rcases Nat.lt_succ_iff_lt_or_eq.1 hj with h | rfl
     ·exact Hr.out j r h he
     ·rw [Hx.out] at he
      cases he
      exact HQ.out
    case measure => simp [intOf]; omega
  ·have hkI : ¬ (k : Int) < l.length := by omega
   have hr : R = none := by
    rw [← HR.out]
    refine idxP_none fun x hx => ?_
    obtain ⟨j, hj⟩ := List.mem_iff_getElem?.1 hx
    exact Hr.out j x (by have := (List.getElem?_eq_some_iff.1 hj).1; omega) hj
   subst hr
   go_wp2
   go_ret
   exact ⟨rfl, HB.out⟩
theorem dtfind1_any (w : World) (x : Ent) (va vx : Value) (g : Nat) (p : ByteArray) (hg : Blk w g 9 [.string p]) : Calls Tryz.prog 156 #[entV x va vx, .pointer (some ⟨g, 0, none⟩)] w fun e w' => e = .returned (.bool (decide (x.path = p))) ∧ Below w.heap.size w w' := by
 obtain ⟨k, path, attrs, t, size, dig, exts⟩ := x
 rw [entV]
 dsimp only
 have hK := Blk.new w 48 [.int .i64 k, .string path, va, .string t, .int .i64 size, .string dig, vx]
 change Blk (w.alloc (.cells #[.int .i64 k, .string path, va, .string t, .int .i64 size, .string dig, vx] 48)) _ _ _ at hK
 have c1 := hK.cell (i := 1) rfl
 have c2 := (hg.alloc (.cells #[.int .i64 k, .string path, va, .string t, .int .i64 size, .string dig, vx] 48)).cell (i := 0) rfl
 have HB := Lib.hid ((Below.refl w.heap.size w).alloc (Nat.le_refl _) (.cells #[.int .i64 k, .string path, va, .string t, .int .i64 size, .string dig, vx] 48))
 clear hK hg
 by_cases h : path = p
 ·subst h
  have q1 : (path == path) = true := beqV_true rfl
  have q2 : (path.toList == path.toList) = true := beq_iff_eq.2 rfl
  rw [decide_eq_true rfl]
  go_enter Tryz.func156, Tryz.ntmps156
  go_wp2
  go_ret
  exact ⟨by first | rfl | exact ret_bool' (by simp), HB.out⟩
 ·have q1 : (path == p) = false := beqV_false h
  have q2 : (path.toList == p.toList) = false := by
   rw [beq_eq_false_iff_ne]
   exact fun e => h (by rw [ByteArray.toList_eq, ByteArray.toList_eq] at e; exact ByteArray.ext (Array.toList_inj.1 e))
  rw [decide_eq_false h]
  clear h
  go_enter Tryz.func156, Tryz.ntmps156
  go_wp2
  go_ret
  exact ⟨by first | rfl | exact ret_bool' (by first | exact q1 | exact q2 | simp [q1, q2]), HB.out⟩
theorem dtfind_any (w : World) (v : Value) (t : List Ent) (hv : SeqAt entS w v t) (p : ByteArray) : Calls Tryz.prog 89 #[v, .string p] w fun e w' => e = .returned (.int .i64 (idxI (idxT t p))) ∧ Below w.heap.size w w' := by
 have hB := (Below.refl w.heap.size w).alloc (Nat.le_refl _) (.cells #[.string p] 9)
 have HB := Lib.hid hB
 have hK := Blk.new w 9 [.string p]
 change Blk (w.alloc (.cells #[.string p] 9)) _ _ _ at hK
 have HX := Lib.hid (idxEnt_any _ v t (hv.below hB) 156 #[.pointer (some ⟨w.heap.size, 0, none⟩)] (enters_of Tryz.func156 (by kernel_rfl) rfl) (fun x => decide (x.path = p)) (fun W x Aa Ax ca cx hW _ => dtfind1_any W x _ _ w.heap.size p (hK.kept hW)))
 rw [← idxT] at HX
 obtain ⟨A, c, rfl, _, _⟩ := hv.slice
 clear hv hK hB
 go_enter Tryz.func89, Tryz.ntmps89
 go_wp2_with fail
 refine HX.out.mono ?_
 rintro e1 w1 ⟨rfl, hb1⟩
 have HB1 := Lib.hid (HB.out.trans (hb1.mono HB.out.size))
 clear hb1
 go_wp2_with fail
 go_ret
 exact ⟨rfl, HB1.out⟩
def entZ : Value := .agg #[.int .i64 0, .string ⟨#[]⟩, .slice none 0 0, .string ⟨#[]⟩, .int .i64 0, .string ⟨#[]⟩, .slice none 0 0]
def GetR (o : Option Ent) (r : Ending) : Prop := match o with
 | none => r = .returned (.tuple #[entZ, .bool false])
 | some x => ∃ Aa Ax ca cx, r = .returned (.tuple #[entV x (.slice Aa x.attrs.length ca) (.slice Ax x.exts.length cx), .bool true])
theorem getT_idx (t : List Ent) (p : ByteArray) : getT t p = match idxT t p with | some k => t[k]? | none => none := find_idx
theorem dtget_any (w : World) (v : Value) (t : List Ent) (hv : SeqAt entS w v t) (p : ByteArray) : Calls Tryz.prog 101 #[v, .string p] w fun e w' => GetR (getT t p) e ∧ Below w.heap.size w w' := by
 have hZ := Blk.new w 48 [.int .i64 0, .string ⟨#[]⟩, .slice none 0 0, .string ⟨#[]⟩, .int .i64 0, .string ⟨#[]⟩, .slice none 0 0]
 change Blk (w.alloc (.cells #[.int .i64 0, .string ⟨#[]⟩, .slice none 0 0, .string ⟨#[]⟩, .int .i64 0, .string ⟨#[]⟩, .slice none 0 0] 48)) _ _ _ at hZ
 have HZ0 := Lib.hid hZ
 have HB0 := Lib.hid ((Below.refl w.heap.size w).alloc (Nat.le_refl _) (.cells #[.int .i64 0, .string ⟨#[]⟩, .slice none 0 0, .string ⟨#[]⟩, .int .i64 0, .string ⟨#[]⟩, .slice none 0 0] 48))
 have HF := Lib.hid (fun W (hW : Below w.heap.size w W) => dtfind_any W v t (hv.below hW) p)
 have Hv := Lib.hid hv
 obtain ⟨A, c, rfl, h1, h2⟩ := hv.slice
 rw [getT_idx]
 clear hv hZ
 cases hI : idxT t p with
 | none =>
  rw [hI] at HF
  have hbt : (Tryz.prog.built 48 []) = some #[.int .i64 0, .string ⟨#[]⟩, .slice none 0 0, .string ⟨#[]⟩, .int .i64 0, .string ⟨#[]⟩, .slice none 0 0] := by kernel_rfl
  have hmap : ∀ f : Nat × Operand → Nat × Value, (Array.map f #[]).toList = [] := fun f => by simp
  rw [show idxI none = -1 from rfl] at HF
  clear hI
  go_enter Tryz.func101, Tryz.ntmps101
  go_upto_region 1 with fail
  generalize w.alloc (.cells #[.int .i64 0, .string ⟨#[]⟩, .slice none 0 0, .string ⟨#[]⟩, .int .i64 0, .string ⟨#[]⟩, .slice none 0 0] 48) = wa at *
  go_wp2_with fail
  refine (HF.out _ HB0.out).mono ?_
  rintro e1 w1 ⟨rfl, hb1⟩
  have HZ := Lib.hid (HZ0.out.kept hb1)
  have HB := Lib.hid (HB0.out.trans (hb1.mono HB0.out.size))
  clear hb1
  go_upto_region 3 with fail
  refine wp_region_lit ?_
  refine wpList_build rfl 48 #[] rfl (by rw [hmap, hbt]; rfl) ?_
  rw [hmap, hbt]
  refine wpList_store_row rfl 48 (.tmp 4) (.tmp 12) rfl w.heap.size #[.int .i64 0, .string ⟨#[]⟩, .slice none 0 0, .string ⟨#[]⟩, .int .i64 0, .string ⟨#[]⟩, .slice none 0 0] rfl rfl 48 _ HZ.out (by kernel_rfl) rfl (by simp [Value.oneCell']) ?_
  go_wp2_with fail
  refine bodyPost_ret (results_row_tmp rfl _ _ w.heap.size 48 _ (0, 0) _ rfl (setRow_heap _ _ _ _ _ _ HZ.out) Tryz.underlying48 rfl (by kernel_rfl)) rfl ?_
  exact ⟨rfl, below_setRow HB.out (Nat.le_refl _) _⟩
 | some k =>
  rw [hI] at HF
  obtain ⟨x, hx, _⟩ := idxP_at hI
  have hlt : k < t.length := (List.getElem?_eq_some_iff.1 hx).1
  have hkI : (k : Int) < t.length := by omega
  have hk0 : ¬ (k : Int) < 0 := by omega
  have Hx := Lib.hid hx
  rw [show idxI (some k) = (k : Int) from rfl] at HF
  clear hI
  go_enter Tryz.func101, Tryz.ntmps101
  go_upto_region 1 with fail
  generalize w.alloc (.cells #[.int .i64 0, .string ⟨#[]⟩, .slice none 0 0, .string ⟨#[]⟩, .int .i64 0, .string ⟨#[]⟩, .slice none 0 0] 48) = wa at *
  go_wp2_with fail
  refine (HF.out _ HB0.out).mono ?_
  rintro e1 w1 ⟨rfl, hb1⟩
  have HZ := Lib.hid (HZ0.out.kept hb1)
  have HB := Lib.hid (HB0.out.trans (hb1.mono HB0.out.size))
  clear hb1
  obtain ⟨_, _, e9, _, _, h4⟩ := Hv.out.below HB.out
  cases e9
  obtain ⟨b, o, cs, rfl, ⟨va, vx, rfl, ra, rx⟩, hc⟩ := h4 k x hx
  obtain ⟨Aa, ca, rfl, _, _⟩ := ra.slice
  obtain ⟨Ax, cx, rfl, _, _⟩ := rx.slice
  have e0 : w1.cell? ⟨b, o + k * 7, none⟩ = some (.int .i64 x.k) := hc 0 _ rfl
  have e1 : w1.cell? ⟨b, o + k * 7 + 1, none⟩ = some (.string x.path) := hc 1 _ rfl
  have e2 : w1.cell? ⟨b, o + k * 7 + 2, none⟩ = some (.slice Aa x.attrs.length ca) := hc 2 _ rfl
  have e3 : w1.cell? ⟨b, o + k * 7 + 3, none⟩ = some (.string x.tgt) := hc 3 _ rfl
  have e4 : w1.cell? ⟨b, o + k * 7 + 4, none⟩ = some (.int .i64 x.size) := hc 4 _ rfl
  have e5 : w1.cell? ⟨b, o + k * 7 + 5, none⟩ = some (.string x.dig) := hc 5 _ rfl
  have e6 : w1.cell? ⟨b, o + k * 7 + 6, none⟩ = some (.slice Ax x.exts.length cx) := hc 6 _ rfl
  clear hc h4 hx ra rx
  go_wp2_with (refine wpList_store_row rfl 48 (.tmp 4) (.tmp 16) rfl w.heap.size #[.int .i64 x.k, .string x.path, .slice Aa x.attrs.length ca, .string x.tgt, .int .i64 x.size, .string x.dig, .slice Ax x.exts.length cx] rfl rfl 48 _ HZ.out (by kernel_rfl) rfl (by simp [Value.oneCell']) ?_)
  refine bodyPost_ret (results_row_tmp rfl _ _ w.heap.size 48 _ (0, 0) _ rfl (setRow_heap _ _ _ _ _ _ HZ.out) Tryz.underlying48 rfl (by kernel_rfl)) rfl ?_
  exact ⟨by show GetR (t[k]?) _; rw [Hx.out]; exact ⟨Aa, Ax, ca, cx, rfl⟩, below_setRow HB.out (Nat.le_refl _) _⟩
theorem dtdir_any (w : World) (v : Value) (t : List Ent) (hv : SeqAt entS w v t) (p : ByteArray) : Calls Tryz.prog 96 #[v, .string p] w fun e w' => e = .returned (.int .i64 (dirE t p)) ∧ Below w.heap.size w w' := by
 have HG := Lib.hid (dtget_any w v t hv p)
 obtain ⟨A, c, rfl, h1, h2⟩ := hv.slice
 obtain ⟨R, hR⟩ : ∃ R, dirE t p = R := ⟨_, rfl⟩
 rw [hR]
 rw [dirE] at hR
 clear hv
 cases hG : getT t p with
 | none =>
  rw [hG] at HG hR
  clear hG
  go_enter Tryz.func96, Tryz.ntmps96
  go_wp2_with fail
  refine HG.out.mono ?_
  rintro e1 w1 ⟨hr, hb1⟩
  have hr : e1 = .returned (.tuple #[entZ, .bool false]) := hr
  subst hr
  rw [entZ]
  have HB1 := Lib.hid (hb1.alloc hb1.size (.cells #[.int .i64 0, .string ⟨#[]⟩, .slice none 0 0, .string ⟨#[]⟩, .int .i64 0, .string ⟨#[]⟩, .slice none 0 0] 48))
  clear hb1
  by_cases h0 : p.size = 0
  ·have e0 : p = ⟨#[]⟩ := by
    apply ByteArray.ext
    exact Array.eq_empty_of_size_eq_zero h0
   rw [if_pos h0] at hR
   subst hR
   subst e0
   clear h0
   go_wp2_with fail
   go_ret
   exact ⟨rfl, HB1.out⟩
  ·have e0 : p.toList.isEmpty = false := isEmptyV h0
   rw [if_neg h0] at hR
   have hR : 9 = R := hR
   subst hR
   clear h0
   go_wp2_with fail
   go_ret
   exact ⟨rfl, HB1.out⟩
 | some x =>
  rw [hG] at HG hR
  clear hG
  go_enter Tryz.func96, Tryz.ntmps96
  go_wp2_with fail
  refine HG.out.mono ?_
  rintro e1 w1 ⟨⟨Aa, Ax, ca, cx, rfl⟩, hb1⟩
  rw [entV]
  have HB1 := Lib.hid (hb1.alloc hb1.size (.cells #[.int .i64 x.k, .string x.path, .slice Aa x.attrs.length ca, .string x.tgt, .int .i64 x.size, .string x.dig, .slice Ax x.exts.length cx] 48))
  have hK := Blk.new w1 48 [.int .i64 x.k, .string x.path, .slice Aa x.attrs.length ca, .string x.tgt, .int .i64 x.size, .string x.dig, .slice Ax x.exts.length cx]
  change Blk (w1.alloc (.cells #[.int .i64 x.k, .string x.path, .slice Aa x.attrs.length ca, .string x.tgt, .int .i64 x.size, .string x.dig, .slice Ax x.exts.length cx] 48)) _ _ _ at hK
  have k0 := hK.cell (i := 0) rfl
  clear hb1 hK
  by_cases h0 : p.size = 0
  ·have e0 : p = ⟨#[]⟩ := by
    apply ByteArray.ext
    exact Array.eq_empty_of_size_eq_zero h0
   rw [if_pos h0] at hR
   subst hR
   subst e0
   clear h0
   go_wp2_with fail
   go_ret
   exact ⟨rfl, HB1.out⟩
  ·have e0 : p.toList.isEmpty = false := isEmptyV h0
   rw [if_neg h0] at hR
   have hR : (if x.k = 2 then 0 else 10) = R := hR
   by_cases h2 : x.k = 2
   ·have q1 : (x.k != 2) = false := by rw [h2]; rfl
    rw [if_pos h2] at hR
    subst hR
    clear h0 h2
    go_wp2_with fail
    go_ret
    exact ⟨rfl, HB1.out⟩
   ·have q1 : (x.k != 2) = true := by rw [bne, beq_eq_false_iff_ne.2 h2]; rfl
    rw [if_neg h2] at hR
    subst hR
    clear h0 h2
    go_wp2_with fail
    go_ret
    exact ⟨rfl, HB1.out⟩
theorem dtin_any (w : World) (k : Int) : Calls Tryz.prog 90 #[.int .i64 k] w fun e w' => e = .returned (.bool (decide (k = 1 ∨ k = 2 ∨ k = 3))) ∧ w = w' := by
 by_cases h1 : k = 1
 ·subst h1
  go_enter Tryz.func90, Tryz.ntmps90
  go_wp2
  go_ret
  exact ⟨by first | rfl | exact ret_bool' (by simp), rfl⟩
 ·have i1 : (k == 1) = false := beq_eq_false_iff_ne.2 h1
  by_cases h2 : k = 2
  ·subst h2
   go_enter Tryz.func90, Tryz.ntmps90
   go_wp2
   go_ret
   exact ⟨by first | rfl | exact ret_bool' (by simp), rfl⟩
  ·have i2 : (k == 2) = false := beq_eq_false_iff_ne.2 h2
   by_cases h3 : k = 3
   ·subst h3
    go_enter Tryz.func90, Tryz.ntmps90
    go_wp2
    go_ret
    exact ⟨by first | rfl | exact ret_bool' (by simp), rfl⟩
   ·have i3 : (k == 3) = false := beq_eq_false_iff_ne.2 h3
    rw [decide_eq_false (by omega)]
    clear h1 h2 h3
    go_enter Tryz.func90, Tryz.ntmps90
    go_wp2
    go_ret
    exact ⟨by first | rfl | exact ret_bool' (by simp [i1, i2, i3]), rfl⟩
end
end Go.Proofs.YthkjphebhafgoaaGreatDoor
