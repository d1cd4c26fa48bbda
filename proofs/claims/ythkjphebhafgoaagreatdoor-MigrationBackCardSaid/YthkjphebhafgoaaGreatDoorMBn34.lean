/-
  Joined: MbKd.
-/
import Derived.Test.YthkjphebhafgoaaGreatDoorMBn31
set_option linter.all false
set_option maxRecDepth 100000
set_option maxHeartbeats 64000000
namespace Go.Proofs.YthkjphebhafgoaaGreatDoor
section
open Go.RowKit
theorem idxP_before {α : Type} {f : α → Bool} : ∀ {l : List α} {k : Nat}, idxP f l = some k → ∀ j y, j < k → l[j]? = some y → f y = false
 | [], k, h, _, _, _, _ => by cases h
 | a :: r, k, h, j, y, hj, hy => by
  rw [idxP] at h
  cases hf : f a with
  | true =>
   rw [hf, if_pos rfl] at h
   cases h
   omega
  | false =>
   rw [hf, if_neg (by decide)] at h
   cases e : idxP f r with
   | none => rw [e] at h; cases h
   | some m =>
    rw [e] at h
    cases h
    cases j with
    | zero =>
     obtain rfl : a = y := by simpa using hy
     exact hf
    | succ j => exact idxP_before e j y (Nat.lt_of_succ_lt_succ hj) (by simpa using hy)
def Strike (w0 W : World) (g cap : Nat) (cur : Array Value) (m : List Ent) (i j : Nat) : Prop :=
 ∃ (cu : Array Value) (css : List (List Value)), W.heap[g]? = some (.cells cu 48 (0, 0)) ∧ cu.size = cap * 7 ∧ css.length = i ∧ Both (entS.R w0) css m ∧ cu.toList.take (i * 7) = css.flatten ∧ cu.toList.drop (j * 7) = cur.toList.drop (j * 7)
theorem Strike.kept {w0 W W' : World} {g cap : Nat} {cur : Array Value} {m : List Ent} {i j : Nat} (h : Strike w0 W g cap cur m i j) (hb : Below W.heap.size W W') : Strike w0 W' g cap cur m i j := by
 obtain ⟨cu, css, h1, r⟩ := h
 exact ⟨cu, css, (hb.block g (Array.getElem?_eq_some_iff.1 h1).1).trans h1, r⟩
theorem Strike.cell {w0 W : World} {g cap : Nat} {cur : Array Value} {m : List Ent} {i j q : Nat} {u : Value} (h : Strike w0 W g cap cur m i j) (hu : cur.toList[j * 7 + q]? = some u) : W.cell? ⟨g, j * 7 + q, none⟩ = some u := by
 obtain ⟨cu, css, h1, h2, h3, h4, h5, h6⟩ := h
 have e := congrArg (fun l => l[q]?) h6
 simp only [List.getElem?_drop] at e
 simp only [World.cell?, h1]
 rw [← hu, ← e]
 simp
theorem Strike.pass {w0 W : World} {g cap : Nat} {cur : Array Value} {m : List Ent} {i j : Nat} (h : Strike w0 W g cap cur m i j) : Strike w0 W g cap cur m i (j + 1) := by
 obtain ⟨cu, css, h1, h2, h3, h4, h5, h6⟩ := h
 refine ⟨cu, css, h1, h2, h3, h4, h5, ?_⟩
 have e := congrArg (List.drop 7) h6
 rw [List.drop_drop, List.drop_drop] at e
 rw [Nat.add_mul, Nat.one_mul]
 exact e
theorem Strike.put {w0 W : World} {g cap : Nat} {cur : Array Value} {m : List Ent} {i j : Nat} {cs : List Value} {x : Ent} (h : Strike w0 W g cap cur m i j) (hij : i < j) (hj : j < cap) (hx : entS.R w0 cs x) : Strike w0 (W.setCells g (i * 7) cs) g cap cur (m ++ [x]) (i + 1) (j + 1) := by
 obtain ⟨cu, css, h1, h2, h3, h4, h5, h6⟩ := h
 have hl : cs.length = 7 := entS.len hx
 have hle : i * 7 + 7 ≤ j * 7 := by omega
 have hjc : j * 7 + 7 ≤ cap * 7 := by omega
 have hfit : i * 7 + cs.length ≤ cu.size := by rw [hl, h2]; omega
 have ht : (cu.toList.take (i * 7)).length = i * 7 := by rw [List.length_take, Array.length_toList, h2]; omega
 rw [setCells_row g 48 cs (i * 7) cu W h1 hfit]
 refine ⟨_, css ++ [cs], setRow_heap W g cu _ 48 _ h1, ?_, by rw [List.length_append, h3]; rfl, h4.app (.cons hx .nil), ?_, ?_⟩
 ·rw [List.size_toArray, List.length_append, List.length_append, ht, hl, List.length_drop, Array.length_toList, h2]
  omega
 ·rw [List.toList_toArray, List.flatten_append, ← h5, List.take_append_of_le_length (by rw [List.length_append, ht, hl]; omega), List.take_of_length_le (by rw [List.length_append, ht, hl]; omega)]
  simp
 ·rw [List.toList_toArray, List.drop_append, List.drop_of_length_le (by rw [List.length_append, ht, hl]; omega), List.nil_append, List.drop_drop, List.length_append, ht, hl]
  have e := congrArg (List.drop 7) h6
  rw [List.drop_drop, List.drop_drop] at e
  rw [show i * 7 + 7 + ((j + 1) * 7 - (i * 7 + 7)) = j * 7 + 7 by omega, show (j + 1) * 7 = j * 7 + 7 by omega]
  exact e
theorem Strike.shut {w0 W : World} {g cap : Nat} {cur : Array Value} {m : List Ent} {i j n c : Nat} (h : Strike w0 W g cap cur m i j) (hi : i ≤ n) (hn : n ≤ cap) (hcs : cur.size = cap * 7) (ty : TypeId) : ∃ W', (Builtin.clear_ #[41] ty #[.slice (some ⟨g, i * 7, none⟩) (n - i) c]).run Tryz.prog W = .ok (.tuple #[]) W' ∧ Strike w0 W' g cap cur m i cap ∧ (∀ B, B ≤ g → ∀ V : World, Below B V W → Below B V W') := by
 obtain ⟨cu, css, h1, h2, h3, h4, h5, h6⟩ := h
 have ht : (cu.toList.take (i * 7)).length = i * 7 := by rw [List.length_take, Array.length_toList, h2]; omega
 have hz : (Value.agg #[.int .i64 0, .string ⟨#[]⟩, .slice none 0 0, .string ⟨#[]⟩, .int .i64 0, .string ⟨#[]⟩, .slice none 0 0]).cells.size = 7 := rfl
 have hzl : (Builtin.zeroCells (Value.agg #[.int .i64 0, .string ⟨#[]⟩, .slice none 0 0, .string ⟨#[]⟩, .int .i64 0, .string ⟨#[]⟩, .slice none 0 0]).cells (n - i)).toList.length = (n - i) * 7 := by rw [Array.length_toList, zeroCells_len, hz]
 have hfit : i * 7 + (n - i) * 7 ≤ cap * 7 := by rw [← Nat.add_mul]; exact Nat.mul_le_mul (by omega) (Nat.le_refl 7)
 have hr := run_clear_rowK (P := Tryz.prog) W 41 48 ty (.agg #[.int .i64 0, .string ⟨#[]⟩, .slice none 0 0, .string ⟨#[]⟩, .int .i64 0, .string ⟨#[]⟩, .slice none 0 0]) Tryz.underlying41 Tryz.zeroValue48 (by simp [Value.cells, Value.oneCell']) g (i * 7) (n - i) c cu 48 h1 (by rw [hz, h2]; exact hfit)
 refine ⟨_, hr, ⟨_, css, setRow_heap W g cu _ 48 _ h1, ?_, h3, h4, ?_, ?_⟩, fun B hB V hV => below_setRow hV hB _⟩
 ·rw [List.size_toArray, List.length_append, List.length_append, ht, hzl, hz, List.length_drop, Array.length_toList, h2]
  omega
 ·rw [List.toList_toArray, List.append_assoc, List.take_append_of_le_length (by rw [ht]; omega), List.take_of_length_le (by rw [ht]; omega), h5]
 ·rw [List.drop_of_length_le, List.drop_of_length_le]
  ·rw [Array.length_toList, hcs]; omega
  ·rw [List.toList_toArray, List.length_append, List.length_append, ht, hzl, hz, List.length_drop, Array.length_toList, h2]
   omega
theorem Strike.seq {w0 W : World} {g cap : Nat} {cur : Array Value} {m : List Ent} {i j : Nat} (h : Strike w0 W g cap cur m i j) (hi : i ≤ cap) (hc : cap ≤ maxLen) (hg : w0.heap.size ≤ g) (hb : Below w0.heap.size w0 W) : SeqAt entS W (.slice (some ⟨g, 0, none⟩) i cap) m := by
 obtain ⟨cu, css, h1, h2, h3, h4, h5, h6⟩ := h
 have hm : m.length = i := by rw [← h4.len, h3]
 have hfl : css.flatten.length = i * 7 := by rw [flat_len h4.lens, h3]; rfl
 have hO : OwnSeq entS 48 w0 W (.slice (some ⟨g, 0, none⟩) i cap) m := ⟨css, by
  rw [hm]
  exact ⟨hfl, .inr ⟨g, cap, cu, rfl, hg, h1, hi, hc, h2, h5⟩⟩, h4⟩
 exact hO.at hb
theorem Strike.lt {w0 W : World} {g cap : Nat} {cur : Array Value} {m : List Ent} {i j : Nat} (h : Strike w0 W g cap cur m i j) : g < W.heap.size := by
 obtain ⟨cu, css, h1, r⟩ := h
 exact (Array.getElem?_eq_some_iff.1 h1).1
theorem Strike.there {w0 W : World} {g cap : Nat} {cur : Array Value} {m : List Ent} {i j : Nat} (h : Strike w0 W g cap cur m i j) (hij : i < j) (hj : j < cap) : W.there g (i * 7) 7 := by
 obtain ⟨cu, css, h1, h2, _⟩ := h
 intro q hq
 refine ⟨?_, by simp [World.frozen?, h1]⟩
 have : i * 7 + q < cu.size := by rw [h2]; omega
 simp [World.cell?, h1, this]
theorem Strike.put_below {w0 W : World} {g cap : Nat} {cur : Array Value} {m : List Ent} {i j B : Nat} {cs : List Value} {x : Ent} {V : World} (h : Strike w0 W g cap cur m i j) (hij : i < j) (hj : j < cap) (hx : entS.R w0 cs x) (hB : B ≤ g) (hV : Below B V W) : Below B V (W.setCells g (i * 7) cs) := by
 obtain ⟨cu, css, h1, h2, _⟩ := h
 have hl : cs.length = 7 := entS.len hx
 rw [setCells_row g 48 cs (i * 7) cu W h1 (by rw [hl, h2]; omega)]
 exact below_setRow hV hB _
theorem Tryz.sizeEntry7 : (Tryz.prog.info? 48).map (·.size) = some 7 := by kernel_rfl
theorem ent_store {ops : Array Oper} {rest : List Oper} {op : Oper} {a : Act} {W : World} {Q : Exit → Act → World → Prop} (hgd : op.guard = none) (x y : Operand) (ho : op.op = .store 48 x y)
  (b o : Nat) (cells : Array Value) (hx : a.eval x = .pointer (some ⟨b, o, none⟩)) (hy : a.eval y = .agg cells)
  (ht : W.there b o cells.size) (h7 : cells.size = 7) (h1 : cells.all (·.oneCell') = true) (W1 : World) (hE : W.setCells b o cells.toList = W1)
  (h : wpList Tryz.prog ops Q rest (a.put op.dst undef) W1) : wpList Tryz.prog ops Q (op :: rest) a W :=
 wpList_store_mid hgd 48 x y ho b o cells hx hy ht (by rw [h7]; exact Tryz.sizeEntry7) h1 (by rw [hE]; exact h)
theorem delEnt_any (w0 w : World) (v : Value) (l : List Ent) (hO : OwnSeq entS 48 w0 w v l) (hB : Below w0.heap.size w0 w) (hz : l.length ≤ 100000) (g : Nat) (lb : Array Value) (eg : ∀ args w, (callFunc g args).run Tryz.prog w = .ok (.enter g args) w) (p : Ent → Bool) (hp : JudgeE g lb p l w0) :
  Calls Tryz.prog 93 #[v, .func (.func g) #[] lb] w fun e w' => ∃ v', e = .returned v' ∧ SeqAt entS w' v' (l.filter fun x => !p x) ∧ Below w0.heap.size w0 w' := by
 have HX := Lib.hid (idxEnt_any w v l (hO.at hB) g lb eg p (fun W x Aa Ax ca cx hW hx => hp W x Aa Ax ca cx (hB.trans (hW.mono hB.size)) hx))
 have HP := Lib.hid hp
 have HB := Lib.hid hB
 cases hI : idxP p l with
 | none =>
  have hf : l.filter (fun x => !p x) = l := List.filter_eq_self.2 fun x hx => by
   have : l.any p = false := by
    cases q : l.any p with
    | false => rfl
    | true =>
     have := (idxI_any (f := p) (l := l)).mpr q
     rw [hI] at this
     exact absurd this (by decide)
   rw [List.any_eq_false] at this
   simpa using this x hx
  have HS := Lib.hid (hO.at hB)
  obtain ⟨A, c, rfl, _, _⟩ := HS.out.slice
  rw [hI, show idxI none = -1 from rfl] at HX
  rw [hf]
  clear hO hB hp hI hf
  go_enter Tryz.func93, Tryz.ntmps93
  go_wp2_with fail
  refine HX.out.mono ?_
  rintro e1 w1 ⟨rfl, hb1⟩
  have HS1 := Lib.hid (HS.out.below hb1)
  have HB1 := Lib.hid (HB.out.trans (hb1.mono HB.out.size))
  clear hb1
  go_wp2_with fail
  go_ret
  exact ⟨_, rfl, HS1.out, HB1.out⟩
 | some k0 =>
  obtain ⟨x0, hx0, hpx0⟩ := idxP_at hI
  have hk0 : k0 < l.length := (List.getElem?_eq_some_iff.1 hx0).1
  have HLt : Hid (∀ j y, j < k0 → l[j]? = some y → p y = false) := Lib.hid (idxP_before hI)
  obtain ⟨css, hown, hbt⟩ := hO
  have hlens := hbt.lens
  have hlen := hbt.len
  obtain ⟨gr, cap, cur, rfl, hgr, hcur, hnc, hcm, hcs, hxs⟩ := own_row hown (by omega)
  have hflat : ∀ q, q < l.length * 7 → cur.toList[q]? = css.flatten[q]? := fun q hq => by
   rw [← hxs, List.getElem?_take, if_pos (by exact hq)]
  have HSt : Hid (Strike w0 w gr cap cur (l.take k0) k0 (k0 + 1)) := Lib.hid ⟨cur, css.take k0, hcur, hcs, by rw [List.length_take]; omega, hbt.take k0, by
   rw [flat_take hlens, ← hxs, List.take_take, show entS.n = 7 from rfl, Nat.min_eq_left (Nat.mul_le_mul (by omega) (Nat.le_refl 7))], rfl⟩
  have HCs : Hid (∀ j x, l[j]? = some x → ∃ cs, entS.R w0 cs x ∧ ∀ q u, cs[q]? = some u → cur.toList[j * 7 + q]? = some u) := Lib.hid (fun j x hx => by
   obtain ⟨cs, hc1, hc2⟩ := hbt.at hx
   refine ⟨cs, hc2, fun q u hu => ?_⟩
   have hq7 : q < 7 := by
    have := (List.getElem?_eq_some_iff.1 hu).1
    rwa [entS.len hc2] at this
   have hj : j < l.length := (List.getElem?_eq_some_iff.1 hx).1
   rw [hflat (j * 7 + q) (by omega), ← hu]
   exact flat_get hlens hc1 q hq7)
  have HFk : Hid ((l.take (k0 + 1)).filter (fun x => !p x) = l.take k0) := Lib.hid (by
   rw [filt_take hx0]
   simp only [hpx0, Bool.not_true]
   rw [List.filter_eq_self.2]
   ·simp
   ·intro y hy
    obtain ⟨j, hj⟩ := List.mem_iff_getElem?.1 hy
    rw [List.getElem?_take] at hj
    split at hj
    ·rename_i hjk
     rw [HLt.out j y hjk hj]
     rfl
    ·cases hj)
  rw [hI, show idxI (some k0) = (k0 : Int) from rfl] at HX
  have i1 : ((k0 : Int) == -1) = false := by rw [beq_eq_false_iff_ne]; omega
  have i2 : (k0 : Int) < 100000 := by omega
  have HG := Lib.hid hgr
  have Hnc := Lib.hid hnc
  have Hcm := Lib.hid hcm
  have HCz := Lib.hid hcs
  clear hI hx0 hpx0 hown hbt hlens hlen hcur hcs hxs hflat hB hp
  go_enter Tryz.func93, Tryz.ntmps93
  go_wp2_with fail
  refine HX.out.mono ?_
  rintro e1 w1 ⟨rfl, hb1⟩
  have HSt1 := Lib.hid (HSt.out.kept hb1)
  have HB1 := Lib.hid (HB.out.trans (hb1.mono HB.out.size))
  clear hb1
  go_wp2
  go_loopw [5, 6, 7] (fun a b _ wr => ∃ i j : Nat, i < j ∧ j ≤ l.length ∧ a = .int .i64 (i : Int) ∧ b = .int .i64 (j : Int) ∧ Strike w0 wr gr cap cur ((l.take j).filter fun x => !p x) i j ∧ Below w0.heap.size w0 wr) (fun _ b _ _ => l.length - (intOf b).toNat)
  case atStart => exact ⟨k0, k0 + 1, by omega, by omega, rfl, by go_num, by rw [HFk.out]; exact HSt1.out, HB1.out⟩
  case round =>
   obtain ⟨i, j, hij, hjl, rfl, rfl, hS, hB⟩ := hrel
   have HS := Lib.hid hS
   have HBr := Lib.hid hB
   clear hS hB
   by_cases h : j < l.length
   ·have hI : (j : Int) < (l.length : Int) := by omega
    have hI2 : (i : Int) < (l.length : Int) := by omega
    obtain ⟨x, hx⟩ : ∃ x, l[j]? = some x := ⟨_, List.getElem?_eq_getElem h⟩
    have HFt := Lib.hid (filt_take hx (fun x => !p x))
    obtain ⟨cs, hcR, hcu⟩ := HCs.out j x hx
    have HcR := Lib.hid hcR
    obtain ⟨va, vx, rfl, ra, rx⟩ := hcR
    obtain ⟨Aa, ca, rfl, _, _⟩ := ra.slice
    obtain ⟨Ax, cx, rfl, _, _⟩ := rx.slice
    have e0 : wr.cell? ⟨gr, j * 7, none⟩ = some (.int .i64 x.k) := HS.out.cell (q := 0) (hcu 0 _ rfl)
    have e1 : wr.cell? ⟨gr, j * 7 + 1, none⟩ = some (.string x.path) := HS.out.cell (hcu 1 _ rfl)
    have e2 : wr.cell? ⟨gr, j * 7 + 2, none⟩ = some (.slice Aa x.attrs.length ca) := HS.out.cell (hcu 2 _ rfl)
    have e3 : wr.cell? ⟨gr, j * 7 + 3, none⟩ = some (.string x.tgt) := HS.out.cell (hcu 3 _ rfl)
    have e4 : wr.cell? ⟨gr, j * 7 + 4, none⟩ = some (.int .i64 x.size) := HS.out.cell (hcu 4 _ rfl)
    have e5 : wr.cell? ⟨gr, j * 7 + 5, none⟩ = some (.string x.dig) := HS.out.cell (hcu 5 _ rfl)
    have e6 : wr.cell? ⟨gr, j * 7 + 6, none⟩ = some (.slice Ax x.exts.length cx) := HS.out.cell (hcu 6 _ rfl)
    have hT := Blk.new wr 48 [.int .i64 x.k, .string x.path, .slice Aa x.attrs.length ca, .string x.tgt, .int .i64 x.size, .string x.dig, .slice Ax x.exts.length cx]
    change Blk (wr.alloc (.cells #[.int .i64 x.k, .string x.path, .slice Aa x.attrs.length ca, .string x.tgt, .int .i64 x.size, .string x.dig, .slice Ax x.exts.length cx] 48)) _ _ _ at hT
    have hBt := HBr.out.alloc HBr.out.size (.cells #[.int .i64 x.k, .string x.path, .slice Aa x.attrs.length ca, .string x.tgt, .int .i64 x.size, .string x.dig, .slice Ax x.exts.length cx] 48)
    have HC := Lib.hid (HP.out _ x Aa Ax ca cx hBt (List.mem_of_getElem? hx))
    have HT := Lib.hid hT
    have HBt := Lib.hid hBt
    have HSt := Lib.hid (HS.out.kept ((Below.refl wr.heap.size wr).alloc (Nat.le_refl _) (.cells #[.int .i64 x.k, .string x.path, .slice Aa x.attrs.length ca, .string x.tgt, .int .i64 x.size, .string x.dig, .slice Ax x.exts.length cx] 48)))
    have Hne : Hid (wr.heap.size ≠ gr) := Lib.hid (by have := HS.out.lt; omega)
    rw [entV] at HC
    obtain ⟨q, hq⟩ : ∃ q, p x = q := ⟨_, rfl⟩
    rw [hq] at HC HFt
    clear hcu hx ra rx hT hBt hq HS HBr
    go_upto_region 8 with fail
    generalize wr.alloc (.cells #[.int .i64 x.k, .string x.path, .slice Aa x.attrs.length ca, .string x.tgt, .int .i64 x.size, .string x.dig, .slice Ax x.exts.length cx] 48) = wt at *
    clear e0 e1 e2 e3 e4 e5 e6
    have t0 := HT.out.cell (i := 0) rfl
    have t1 := HT.out.cell (i := 1) rfl
    have t2 := HT.out.cell (i := 2) rfl
    have t3 := HT.out.cell (i := 3) rfl
    have t4 := HT.out.cell (i := 4) rfl
    have t5 := HT.out.cell (i := 5) rfl
    have t6 := HT.out.cell (i := 6) rfl
    go_wp2_with fail
    refine HC.out.mono ?_
    rintro e2 w2 ⟨rfl, hb2⟩
    have HT2 := Lib.hid (HT.out.kept hb2)
    have HS2 := Lib.hid (HSt.out.kept hb2)
    have HB2 := Lib.hid (HBt.out.trans (hb2.mono HBt.out.size))
    clear hb2 t0 t1 t2 t3 t4 t5 t6 HT HSt HBt
    have j1 : IntKind.i64.wrap ((j : Int) + 1) = ((j + 1 : Nat) : Int) := by rw [IntWalk.i64_in _ (by omega)]; omega
    cases q with
    | true =>
     have HF0 : Hid ((l.take (j + 1)).filter (fun x => !p x) = (l.take j).filter (fun x => !p x)) := Lib.hid (by rw [HFt.out]; simp)
     go_wp2
     go_roundw
     case rel => exact ⟨i, j + 1, by omega, by omega, rfl, by go_num, by rw [HF0.out]; exact HS2.out.pass, HB2.out⟩
     case measure => simp [intOf]; omega
    | false =>
     have HF1 : Hid ((l.take (j + 1)).filter (fun x => !p x) = (l.take j).filter (fun x => !p x) ++ [x]) := Lib.hid (by rw [HFt.out]; rfl)
     have t0 := HT2.out.cell (i := 0) rfl
     have t1 := HT2.out.cell (i := 1) rfl
     have t2 := HT2.out.cell (i := 2) rfl
     have t3 := HT2.out.cell (i := 3) rfl
     have t4 := HT2.out.cell (i := 4) rfl
     have t5 := HT2.out.cell (i := 5) rfl
     have t6 := HT2.out.cell (i := 6) rfl
     have HPt := Lib.hid (HS2.out.put hij (by have := Hnc.out; omega) HcR.out)
     have HPb := Lib.hid (HS2.out.put_below hij (by have := Hnc.out; omega) HcR.out HG.out HB2.out)
     have HTh : Hid (w2.there gr (i * 7) 7) := Lib.hid (HS2.out.there hij (by have := Hnc.out; omega))
     obtain ⟨W3, hW3⟩ : ∃ W3, w2.setCells gr (i * 7) [.int .i64 x.k, .string x.path, .slice Aa x.attrs.length ca, .string x.tgt, .int .i64 x.size, .string x.dig, .slice Ax x.exts.length cx] = W3 := ⟨_, rfl⟩
     rw [hW3] at HPt HPb
     have HW3 := Lib.hid hW3
     clear hW3
     go_wp2_with (refine ent_store rfl (.tmp 33) (.tmp 32) rfl gr (i * 7) #[.int .i64 x.k, .string x.path, .slice Aa x.attrs.length ca, .string x.tgt, .int .i64 x.size, .string x.dig, .slice Ax x.exts.length cx] rfl rfl HTh.out rfl (by simp [Value.oneCell']) W3 HW3.out ?_)
     go_roundw
     case rel => exact ⟨i + 1, j + 1, by omega, by omega, by go_num, by go_num, by rw [HF1.out]; exact HPt.out, HPb.out⟩
     case measure => simp [intOf]; omega
   ·obtain rfl : j = l.length := by omega
    have hI : ¬ ((l.length : Nat) : Int) < (l.length : Int) := by omega
    have HFn : Hid ((l.take l.length).filter (fun x => !p x) = l.filter (fun x => !p x)) := Lib.hid (by rw [List.take_length])
    obtain ⟨W4, hclr, hS4, hW4⟩ := HS.out.shut (n := l.length) (c := cap - i) (by omega) Hnc.out HCz.out 0
    have HClr := Lib.hid hclr
    have HS4 := Lib.hid hS4
    have HB4 := Lib.hid (hW4 _ HG.out _ HBr.out)
    have q1 : ¬ (cap = i) := by have := Hnc.out; omega
    have q2 : (i : Int) ≤ (l.length : Int) := by omega
    have q3 : (i : Int) ≤ (cap : Int) := by have := Hnc.out; omega
    have HSq := Lib.hid (HS4.out.seq (by have := Hnc.out; omega) Hcm.out HG.out HB4.out)
    rw [HFn.out] at HSq
    clear hclr hS4 hW4
    go_wp2_with fail
    rw [HClr.out]
    go_wp2_with fail
    go_ret
    exact ⟨_, rfl, HSq.out, HB4.out⟩
end
end Go.Proofs.YthkjphebhafgoaaGreatDoor
