/-
  Joined: MbQ MbE MbI OpnM.
-/
import Derived.Test.YthkjphebhafgoaaGreatDoorMBn18
import Derived.Test.YthkjphebhafgoaaGreatDoorMBn22
import Derived.Test.YthkjphebhafgoaaGreatDoorMBn27
import Derived.Lib.AppendZerosOnto
import Derived.Lib.Overlaps
set_option linter.all false
set_option maxRecDepth 100000
set_option maxHeartbeats 64000000
namespace Go.Proofs.YthkjphebhafgoaaGreatDoor
section
open Go.RowKit
def elemsB (s : ByteArray) : List ByteArray := (elemsL (bs s)).map strB
def cmpB (a b : ByteArray) : Int := Lib.compareBytes a.data.toList b.data.toList
def cmpPath : List ByteArray → List ByteArray → Int
 | [], [] => 0
 | [], _ :: _ => -1
 | _ :: _, [] => 1
 | x :: a, y :: b => if cmpB x y ≠ 0 then cmpB x y else cmpPath a b
def pcmp (a b : ByteArray) : Int := cmpPath (elemsB a) (elemsB b)
def undB (p d : ByteArray) : Bool := decide (pathE (bs p) = 0 ∧ pathE (bs d) = 0 ∧ (elemsB d).length ≤ (elemsB p).length ∧ (elemsB p).take (elemsB d).length = elemsB d)
def parB (p : ByteArray) : ByteArray := ⟨(Lib.join ((elemsB p).dropLast.map (·.data.toList)) [47]).toArray⟩
def getT (t : List Ent) (p : ByteArray) : Option Ent := t.find? fun x => decide (x.path = p)
def idxP {α : Type} (f : α → Bool) : List α → Option Nat
 | [] => none
 | x :: r => if f x then some 0 else (idxP f r).map (· + 1)
def idxT (t : List Ent) (p : ByteArray) : Option Nat := idxP (fun x => decide (x.path = p)) t
def dirE (t : List Ent) (p : ByteArray) : Int := if p.size = 0 then 0 else match getT t p with
 | none => 9
 | some x => if x.k = 2 then 0 else 10
def halve (f : Nat → Bool) : Nat → Nat → Nat → Nat
 | 0, i, _ => i
 | n + 1, i, j => if i < j then (if f ((i + j) / 2) then halve f n ((i + j) / 2 + 1) j else halve f n i ((i + j) / 2)) else i
def belowP (t : List Ent) (cf : Ent → Int) (h : Nat) : Bool := match t[h]? with
 | some x => decide (cf x < 0)
 | none => false
def placeT (t : List Ent) (p : ByteArray) : Nat := halve (belowP t fun x => pcmp x.path p) t.length 0 t.length
def insAt {α : Type} (l : List α) (i : Nat) (x : α) : List α := l.take i ++ x :: l.drop i
def applyT (t : List Ent) (e : Ent) : Int × List Ent :=
 if enE e ≠ 0 then (enE e, [])
 else if 3 < e.k then
  (if idxT t e.path = none ∧ e.path.size ≠ 0 then (9, []) else (0, t.filter fun x => !(decide (e.k = 4) && undB x.path e.path)))
 else if dirE t (parB e.path) ≠ 0 then (dirE t (parB e.path), [])
 else match idxT t e.path with
  | some a => (match t[a]? with
   | some x => if decide (x.k = 2) = decide (e.k = 2) then (0, t.set a e) else (8, [])
   | none => (8, []))
  | none => if 5000 ≤ t.length then (6, []) else (0, insAt t (placeT t e.path) e)
def actH (l : List Hol) (d : Int) : List Hol := l.filter fun h => decide (d ≤ h.u)
def heldH (l : List Hol) (p : ByteArray) (d : Int) : Bool := (actH l d).any fun h => undB p h.p
def alwE (l : List Hol) (e : Ent) (d : Int) : Int :=
 if e.k = 1 ∨ e.k = 2 ∨ e.k = 3 then (if heldH l e.path d then 15 else 0)
 else if e.k = 4 then (if heldH l e.path d || (actH l d).any (fun h => undB h.p e.path) then 15 else 0)
 else 0
def untilH (l : List Hol) (p : ByteArray) (u : Int) : Int := l.foldl (fun u h => if h.p = p then max u h.u else u) u
def applyH (l : List Hol) (e : Ent) (d : Int) : Int × List Hol :=
 let a := actH l d
 let r := a.filter fun h => decide (h.p ≠ e.path)
 if e.k = 5 then (0, insAt r ((idxP (fun h => decide (0 < pcmp h.p e.path)) r).getD r.length) ⟨e.path, untilH a e.path (valD (bs e.tgt) : Nat)⟩)
 else if e.k = 6 then (if r.length = a.length then (9, []) else (0, r))
 else (0, a)
theorem enhead_no (w : World) (e : Ent) (va vx : Value) (hva : SeqAt atrS w va e.attrs) (hvx : SeqAt extS w vx e.exts) (hp : e.path.size ≤ 1000000) (ht : e.tgt.size ≤ 1000000) (hT : Tb w) (h : enE e ≠ 0) : Calls Tryz.prog 45 #[entV e va vx] w fun r w' => r = .returned (.tuple #[.string ⟨#[]⟩, .int .i64 (enE e)]) ∧ Below w.heap.size w w' := by
 have HCk := Lib.hid (fun W (hW : Below w.heap.size w W) => encheck_gen W e va vx (hva.below hW) (hvx.below hW) hp ht (hT.below hW))
 obtain ⟨C, hC⟩ : ∃ C, enE e = C := ⟨_, rfl⟩
 rw [hC] at HCk h ⊢
 have g1 : (C != 0) = true := by rw [bne, beq_eq_false_iff_ne.2 h]; rfl
 obtain ⟨k, path, attrs, t, size, dig, exts⟩ := e
 dsimp only at hva hvx
 obtain ⟨Aa, ca, rfl, ha1, ha2⟩ := hva.slice
 obtain ⟨Ax, cx, rfl, hx1, hx2⟩ := hvx.slice
 clear hva hvx hT hp ht hC h
 rw [entV] at HCk ⊢
 dsimp only at HCk ⊢
 have hK := Blk.new w 48 [.int .i64 k, .string path, .slice Aa attrs.length ca, .string t, .int .i64 size, .string dig, .slice Ax exts.length cx]
 change Blk (w.alloc (.cells #[.int .i64 k, .string path, .slice Aa attrs.length ca, .string t, .int .i64 size, .string dig, .slice Ax exts.length cx] 48)) _ _ _ at hK
 have HB0 := Lib.hid ((Below.refl w.heap.size w).alloc (Nat.le_refl _) (.cells #[.int .i64 k, .string path, .slice Aa attrs.length ca, .string t, .int .i64 size, .string dig, .slice Ax exts.length cx] 48))
 have HK := Lib.hid hK
 clear hK
 go_enter Tryz.func45, Tryz.ntmps45
 go_upto_region 1 with fail
 generalize w.alloc (.cells #[.int .i64 k, .string path, .slice Aa attrs.length ca, .string t, .int .i64 size, .string dig, .slice Ax exts.length cx] 48) = wb at *
 have c0 := HK.out.cell (i := 0) rfl
 have c1 := HK.out.cell (i := 1) rfl
 have c2 := HK.out.cell (i := 2) rfl
 have c3 := HK.out.cell (i := 3) rfl
 have c4 := HK.out.cell (i := 4) rfl
 have c5 := HK.out.cell (i := 5) rfl
 have c6 := HK.out.cell (i := 6) rfl
 go_wp2_with fail
 refine (HCk.out _ HB0.out).mono ?_
 rintro e1 w1 ⟨rfl, hb1⟩
 have HB1 := Lib.hid (HB0.out.trans (hb1.mono HB0.out.size))
 clear hb1 c0 c1 c2 c3 c4 c5 c6
 go_wp2_with fail
 go_ret2
 exact ⟨rfl, HB1.out⟩
theorem enencode_no (w : World) (e : Ent) (va vx : Value) (hva : SeqAt atrS w va e.attrs) (hvx : SeqAt extS w vx e.exts) (hp : e.path.size ≤ 1000000) (ht : e.tgt.size ≤ 1000000) (hT : Tb w) (h : enE e ≠ 0) : Calls Tryz.prog 84 #[entV e va vx] w fun r w' => r = .returned (.tuple #[.string ⟨#[]⟩, .int .i64 (enE e)]) ∧ Below w.heap.size w w' := by
 have HHd := Lib.hid (fun W (hW : Below w.heap.size w W) => enhead_no W e va vx (hva.below hW) (hvx.below hW) hp ht (hT.below hW) h)
 obtain ⟨C, hC⟩ : ∃ C, enE e = C := ⟨_, rfl⟩
 rw [hC] at HHd h ⊢
 have g1 : (C != 0) = true := by rw [bne, beq_eq_false_iff_ne.2 h]; rfl
 obtain ⟨k, path, attrs, t, size, dig, exts⟩ := e
 dsimp only at hva hvx
 obtain ⟨Aa, ca, rfl, ha1, ha2⟩ := hva.slice
 obtain ⟨Ax, cx, rfl, hx1, hx2⟩ := hvx.slice
 clear hva hvx hT hp ht hC h
 rw [entV] at HHd ⊢
 dsimp only at HHd ⊢
 have hK := Blk.new w 48 [.int .i64 k, .string path, .slice Aa attrs.length ca, .string t, .int .i64 size, .string dig, .slice Ax exts.length cx]
 change Blk (w.alloc (.cells #[.int .i64 k, .string path, .slice Aa attrs.length ca, .string t, .int .i64 size, .string dig, .slice Ax exts.length cx] 48)) _ _ _ at hK
 have HB0 := Lib.hid ((Below.refl w.heap.size w).alloc (Nat.le_refl _) (.cells #[.int .i64 k, .string path, .slice Aa attrs.length ca, .string t, .int .i64 size, .string dig, .slice Ax exts.length cx] 48))
 have HK := Lib.hid hK
 clear hK
 go_enter Tryz.func84, Tryz.ntmps84
 go_upto_region 1 with fail
 generalize w.alloc (.cells #[.int .i64 k, .string path, .slice Aa attrs.length ca, .string t, .int .i64 size, .string dig, .slice Ax exts.length cx] 48) = wb at *
 have c0 := HK.out.cell (i := 0) rfl
 have c1 := HK.out.cell (i := 1) rfl
 have c2 := HK.out.cell (i := 2) rfl
 have c3 := HK.out.cell (i := 3) rfl
 have c4 := HK.out.cell (i := 4) rfl
 have c5 := HK.out.cell (i := 5) rfl
 have c6 := HK.out.cell (i := 6) rfl
 go_wp2_with fail
 refine (HHd.out _ HB0.out).mono ?_
 rintro e1 w1 ⟨rfl, hb1⟩
 have HB1 := Lib.hid (HB0.out.trans (hb1.mono HB0.out.size))
 clear hb1 c0 c1 c2 c3 c4 c5 c6
 go_wp2_with fail
 go_ret2
 exact ⟨rfl, HB1.out⟩
theorem run_copy_rowK {P : Program} (w : World) (dT sT ty elem : TypeId) (k g o dLen dCap : Nat) (a : Addr) (sLen sCap : Nat) (cur : Array Value) (t : TypeId) (cs : List Value)
  (hu : P.underlying dT = some (.slice elem)) (hs : (P.info? elem).map (·.size) = some k)
  (hg : w.heap[g]? = some (.cells cur t (0, 0))) (hn : cs.length = Nat.min sLen dLen * k)
  (hsrc : ∀ j v, cs[j]? = some v → w.cell? (a.add j) = some v) (hfit : o + cs.length ≤ cur.size) (h1 : ∀ v ∈ cs, v.oneCell' = true) :
  (Builtin.copy_ #[dT, sT] ty #[.slice (some ⟨g, o, none⟩) dLen dCap, .slice (some a) sLen sCap]).run P w =
   .ok (goInt (Nat.min sLen dLen)) (w.setRow g (cur.toList.take o ++ cs ++ cur.toList.drop (o + cs.length)).toArray) := by
 have hl := run_loadCells_list (P := P) w a cs hsrc
 have hst := run_storeCells_at P g o t cs 0 cur w hg (by simpa using hfit) h1
 cases hq : P.info? elem with
 | none => simp [hq] at hs
 | some i =>
  have hi : i.size = k := by simpa [hq] using hs
  simp [Builtin.copy_, run_underlying hu, Builtin.lenOf, Builtin.firstCells, sizeOf, typeInfo, hq, hi, ← hn, hl, hst]
theorem zeroCells_len (z : Array Value) (n : Nat) : (Builtin.zeroCells z n).size = n * z.size := by simp [Builtin.zeroCells]
theorem zeroCells_mem {z : Array Value} {n : Nat} {v : Value} (h : v ∈ (Builtin.zeroCells z n).toList) : v ∈ z.toList := by
 unfold Builtin.zeroCells at h
 simp only [Array.toList_map, List.mem_map] at h
 obtain ⟨i, hi, rfl⟩ := h
 have hi' : i < n * z.size := by simpa using hi
 have hz : 0 < z.size := by
  rcases Nat.eq_zero_or_pos z.size with e | e
  ·rw [e] at hi'; omega
  ·exact e
 have : i % z.size < z.size := Nat.mod_lt _ hz
 rw [getElem!_pos z _ this]
 exact Array.getElem_mem_toList this
theorem run_clear_rowK {P : Program} (w : World) (t e ty : TypeId) (z : Value) (ht : P.underlying t = some (.slice e)) (hv : ∀ w, (zeroValue e).run P w = .ok z w) (h1 : ∀ u ∈ z.cells.toList, u.oneCell' = true) (g o n c : Nat)
  (cur : Array Value) (tt : TypeId) (hg : w.heap[g]? = some (.cells cur tt (0, 0))) (hfit : o + n * z.cells.size ≤ cur.size) :
  (Builtin.clear_ #[t] ty #[.slice (some ⟨g, o, none⟩) n c]).run P w = .ok (.tuple #[]) (w.setRow g (cur.toList.take o ++ (Builtin.zeroCells z.cells n).toList ++ cur.toList.drop (o + n * z.cells.size)).toArray) := by
 have hl : (Builtin.zeroCells z.cells n).toList.length = n * z.cells.size := by rw [Array.length_toList, zeroCells_len]
 cases n with
 | zero =>
  have e0 : (Builtin.zeroCells z.cells 0).toList = [] := List.eq_nil_of_length_eq_zero (by rw [hl, Nat.zero_mul])
  rw [e0, Nat.zero_mul, Nat.add_zero, List.append_nil, List.take_append_drop, Array.toArray_toList, setRow_self w g cur tt (0, 0) hg]
  simp [Builtin.clear_, run_underlying ht]
 | succ m =>
  have hst := run_storeCells_at P g o tt (Builtin.zeroCells z.cells (m + 1)).toList 0 cur w hg (by rw [hl]; simpa using hfit) (fun v hv' => h1 v (zeroCells_mem hv'))
  rw [Nat.add_zero, hl] at hst
  simp [Builtin.clear_, run_underlying ht, hv, hst]
theorem setCells_row (g : Nat) (t : TypeId) : ∀ (vs : List Value) (o : Nat) (cur : Array Value) (w : World), w.heap[g]? = some (.cells cur t (0, 0)) → o + vs.length ≤ cur.size → w.setCells g o vs = w.setRow g (cur.toList.take o ++ vs ++ cur.toList.drop (o + vs.length)).toArray
 | [], o, cur, w, hg, _ => by
  rw [World.setCells, List.length_nil, Nat.add_zero, List.append_nil, List.take_append_drop, Array.toArray_toList, setRow_self w g cur t (0, 0) hg]
 | v :: r, o, cur, w, hg, hl => by
  rw [World.setCells, setCell_eq_setRow w g o cur t (0, 0) v hg, setCells_row g t r (o + 1) (cur.setIfInBounds o v) _ (setRow_heap w g cur _ t _ hg) (by simp at hl ⊢; omega), setRow_setRow]
  congr 2
  have e := list_seg_step cur.toList o v r (by simp at hl ⊢; omega)
  simpa [Array.toList_setIfInBounds, Nat.add_assoc] using e
theorem step_copy_runK {P : Program} {ops : Array Oper} {o : Oper} {a : Act} {w : World} {K : Act → World → Prop} {Q : Exit → Act → World → Prop} {E : Prop}
  (hg : o.guard = none) (d x : Operand) (dT sT : TypeId) (hop : o.op = Op.call { callee := Callee.builtin Builtin.copy, args := #[d, x], argTypes := #[dT, sT] })
  (v u : Value) (hd : a.eval d = v) (hx : a.eval x = u) {v' : Value} {w' : World} (hr : (Builtin.copy_ #[dT, sT] o.type #[v, u]).run P w = .ok v' w') (hK : K (a.put o.dst v') w') :
  if Region.wanted o (yielded ops a.tmps) = true then Oper.wp P o a w K Q else E := by
 have hw : Region.wanted o (yielded ops a.tmps) = true := by simp [Region.wanted, hg]
 rw [if_pos hw]
 unfold Oper.wp
 simp [execOp, hop, resolve, invoke, builtin, hd, hx, hr, Result.andThen]
 exact hK
theorem own_row {W : World} {B k n : Nat} {T : TypeId} {v : Value} {xs : List Value} (h : W.ownsRow B T k v n xs) (hn : 0 < n) : ∃ g cap cur, v = .slice (some ⟨g, 0, none⟩) n cap ∧ B ≤ g ∧ W.heap[g]? = some (.cells cur T (0, 0)) ∧ n ≤ cap ∧ cap ≤ maxLen ∧ cur.size = cap * k ∧ cur.toList.take (n * k) = xs := by
 rcases h.2 with ⟨_, h0⟩ | h
 ·omega
 ·exact h
theorem flat_take {n : Nat} {css : List (List Value)} (h : ∀ c ∈ css, c.length = n) (i : Nat) : (css.take i).flatten = css.flatten.take (i * n) := by
 induction css generalizing i with
 | nil => simp
 | cons c r ih =>
  cases i with
  | zero => simp
  | succ i =>
   have hc := h c List.mem_cons_self
   rw [List.take_succ_cons, List.flatten_cons, List.flatten_cons, ih (fun x hx => h x (List.mem_cons_of_mem _ hx)), List.take_append, hc, List.take_of_length_le (l := c) (by rw [hc, Nat.add_mul, Nat.one_mul]; exact Nat.le_add_left _ _)]
   rw [Nat.add_mul, Nat.one_mul, Nat.add_sub_cancel]
theorem flat_drop {n : Nat} {css : List (List Value)} (h : ∀ c ∈ css, c.length = n) (i : Nat) : (css.drop i).flatten = css.flatten.drop (i * n) := by
 induction css generalizing i with
 | nil => simp
 | cons c r ih =>
  cases i with
  | zero => simp
  | succ i =>
   have hc := h c List.mem_cons_self
   rw [List.drop_succ_cons, List.flatten_cons, ih (fun x hx => h x (List.mem_cons_of_mem _ hx)), List.drop_append, List.drop_of_length_le (l := c) (by rw [hc, Nat.add_mul, Nat.one_mul]; exact Nat.le_add_left _ _), List.nil_append, hc]
   rw [Nat.add_mul, Nat.one_mul, Nat.add_sub_cancel]
theorem Both.take {β γ : Type} {r : β → γ → Prop} {l : List β} {m : List γ} (h : Both r l m) : ∀ i, Both r (l.take i) (m.take i) := by
 induction h with
 | nil => intro i; simp only [List.take_nil]; exact .nil
 | cons h1 _ ih =>
  intro i
  cases i with
  | zero => exact .nil
  | succ i => exact .cons h1 (ih i)
theorem Both.drop {β γ : Type} {r : β → γ → Prop} {l : List β} {m : List γ} (h : Both r l m) : ∀ i, Both r (l.drop i) (m.drop i) := by
 induction h with
 | nil => intro i; simp only [List.drop_nil]; exact .nil
 | cons h1 h2 ih =>
  intro i
  cases i with
  | zero => exact .cons h1 h2
  | succ i => exact ih i
theorem Both.ins {β γ : Type} {r : β → γ → Prop} {l : List β} {m : List γ} (h : Both r l m) (i : Nat) {x : β} {y : γ} (hx : r x y) : Both r (l.take i ++ x :: l.drop i) (insAt m i y) :=
 (h.take i).app (.cons hx (h.drop i))
theorem append_zeros {P : Program} {TS T : TypeId} {k bytes : Nat} {z : Value} (E : Elem P TS T k bytes z) (tn : TypeId) (htn : P.underlying tn = some (.int .i64)) (w : World) (g i n cap : Nat) (cur : Array Value) (hg : w.heap[g]? = some (.cells cur T (0, 0))) (hcs : cur.size = cap * k) (hin : i < n) (hnc : n ≤ cap) (hcn : cap < n + 1) (hn : n ≤ 100000) (ty : TypeId) :
  ∃ G ROW W1, (Builtin.append_ #[TS, tn] ty #[.slice (some ⟨g, 0, none⟩) i cap, .int .i64 ((n + 1 - i : Nat) : Int)]).run P w = .ok (.slice (some ⟨w.heap.size, 0, none⟩) (n + 1) G) W1 ∧ n + 1 ≤ G ∧ G ≤ maxLen ∧ W1.heap[w.heap.size]? = some (.cells ROW T (0, 0)) ∧ ROW.size = G * k ∧ ROW.toList.take (i * k) = cur.toList.take (i * k) ∧ Below w.heap.size w W1 := by
 obtain ⟨iS, hi, hz0, hz1, hz2⟩ := infoV_parts E.hi
 have hle : i * k ≤ cap * k := Nat.mul_le_mul (by omega) (Nat.le_refl k)
 have htl : (cur.toList.take (i * k)).length = i * k := by rw [List.length_take, Array.length_toList, hcs]; omega
 have hold : (Builtin.firstCells iS.size i (.slice (some ⟨g, 0, none⟩) i cap)).run P w.drew = .ok (cur.toList.take (i * k)).toArray w.drew := by
  rw [hz1]
  refine run_firstCells_some w.drew k i ⟨g, 0, none⟩ i cap _ htl (fun j v hj => ?_)
  rw [Addr.add_lit, Nat.zero_add]
  rw [List.getElem?_take] at hj
  split at hj
  ·show w.cell? ⟨g, j, none⟩ = some v
   simp only [World.cell?, hg]
   simpa using hj
  ·cases hj
 have hkk : i + (n + 1 - i) = n + 1 := by omega
 have hby : bytes ≤ 1000 := E.hb
 have hb1 : (n + 1) * bytes ≤ 140737488355328 := Nat.le_trans (Nat.mul_le_mul (show n + 1 ≤ 100001 by omega) hby) (by decide)
 have h := Lib.run_append_grow_zeros w TS tn ty T iS z .i64 .i64 E.ht htn hi hz0 (some ⟨g, 0, none⟩) i cap _ hold (n + 1 - i) (by omega) (by rw [hz1]; exact E.hn) (by omega) (by omega) (by
  rw [hz2]
  have := Nat.mul_le_mul (show n + 1 - i ≤ n + 1 by omega) (Nat.le_refl bytes)
  omega) (by rw [hz2, hkk]; exact growslice_fits hcn hb1)
 rw [hkk] at h
 have hG := grownCap_ge w (n + 1) cap T
 have hGm := grownCap_le_maxLen w (n + 1) cap T (by unfold maxLen; omega)
 obtain ⟨G, hGe⟩ : ∃ G, grownCap w (n + 1) cap T = G := ⟨_, rfl⟩
 rw [hGe] at h hG hGm
 refine ⟨G, _, _, h, hG, hGm, heap_alloc_new w.drew _, ?_, ?_, (Below.refl _ _).drew.alloc (Nat.le_refl _) _⟩
 ·simp only [Array.size_append, List.size_toArray, htl, zeroCells_len, E.hz]
  rw [← Nat.add_mul, ← Nat.add_mul]
  congr 1
  omega
 ·simp only [Array.toList_append, List.append_assoc]
  rw [List.take_append_of_le_length (by rw [htl]; exact Nat.le_refl _), List.take_of_length_le (by rw [htl]; exact Nat.le_refl _)]
theorem ins_len {i n k : Nat} (h : i ≤ n) : i * k + k + (n - i) * k = (n + 1) * k := by
 obtain ⟨d, rfl⟩ : ∃ d, n = i + d := ⟨n - i, by omega⟩
 rw [show i + d - i = d by omega, Nat.add_mul, Nat.add_mul, Nat.one_mul]
 omega
theorem ins_take {A C M R : List Value} {i n k : Nat} (h : i ≤ n) (hA : A.length = i * k) (hC : C.length = k) (hM : M.length = (n - i) * k) : (A ++ C ++ M ++ R).take ((n + 1) * k) = A ++ C ++ M := by
 have hl : (A ++ C ++ M).length = (n + 1) * k := by rw [List.length_append, List.length_append, hA, hC, hM, ins_len h]
 rw [List.take_append_of_le_length (by rw [hl]; exact Nat.le_refl _), List.take_of_length_le (by rw [hl]; exact Nat.le_refl _)]
end
section
open Go.ChangeShapes Go.WideShapes Go.ChangeAt Go.RowKit Go.Deep
theorem cellsExt : Tryz.prog.cellsOf 128 = 3 := by kernel_rfl
theorem cellsExts : Tryz.prog.cellsOf 46 = 1 := by kernel_rfl
theorem cellsEnt : Tryz.prog.cellsOf 48 = 7 := by kernel_rfl
theorem cellsEnts : Tryz.prog.cellsOf 41 = 1 := by kernel_rfl
theorem cellsSes : Tryz.prog.cellsOf 43 = 6 := by kernel_rfl
theorem cellsSess : Tryz.prog.cellsOf 25 = 1 := by kernel_rfl
theorem cellsArch : Tryz.prog.cellsOf 27 = 4 := by kernel_rfl
instance : Inhabited Ext := ⟨⟨0, 0, 0⟩⟩
instance : Inhabited Ent := ⟨⟨0, ⟨#[]⟩, [], ⟨#[]⟩, 0, ⟨#[]⟩, []⟩⟩
instance : Inhabited Ses := ⟨⟨0, 0, ⟨#[]⟩, [], ⟨#[]⟩, ⟨#[]⟩⟩⟩
theorem list3M {α : Type} {l : List α} (h : l.length = 3) : ∃ c0 c1 c2, l = [c0, c1, c2] := by
 match l, h with
 | [c0, c1, c2], _ => exact ⟨c0, c1, c2, rfl⟩
theorem list4M {α : Type} {l : List α} (h : l.length = 4) : ∃ c0 c1 c2 c3, l = [c0, c1, c2, c3] := by
 match l, h with
 | [c0, c1, c2, c3], _ => exact ⟨c0, c1, c2, c3, rfl⟩
theorem list6M {α : Type} {l : List α} (h : l.length = 6) : ∃ c0 c1 c2 c3 c4 c5, l = [c0, c1, c2, c3, c4, c5] := by
 match l, h with
 | [c0, c1, c2, c3, c4, c5], _ => exact ⟨c0, c1, c2, c3, c4, c5, rfl⟩
theorem list7M {α : Type} {l : List α} (h : l.length = 7) : ∃ c0 c1 c2 c3 c4 c5 c6, l = [c0, c1, c2, c3, c4, c5, c6] := by
 match l, h with
 | [c0, c1, c2, c3, c4, c5, c6], _ => exact ⟨c0, c1, c2, c3, c4, c5, c6, rfl⟩
section
variable {H : Type} {enc : TypeId × Value → H} {w : World}
theorem cell_int {fuel : Nat} {c : Value} {y : DataW H × List MemPlace} (h : DataW.trod enc Tryz.prog w 0 (fun _ => true) true fuel 3 [c] = some y) : ∃ k : Int, c = .int .i64 k := by
 obtain ⟨k, e, _, _⟩ := DataW.trod_int Tryz.underlying3 h
 exact ⟨k, by simpa [Value.cells] using e⟩
theorem cell_str {fuel : Nat} {c : Value} {y : DataW H × List MemPlace} (h : DataW.trod enc Tryz.prog w 0 (fun _ => true) true fuel 9 [c] = some y) : ∃ k, c = .string k := by
 obtain ⟨k, e, _, _⟩ := DataW.trod_string Tryz.underlying9 h
 exact ⟨k, by simpa [Value.cells] using e⟩
theorem ext_cells {fuel : Nat} {cs : List Value} {y : DataW H × List MemPlace} (hl : cs.length = 3) (hf : DataW.trod enc Tryz.prog w 0 (fun _ => true) true fuel 128 cs = some y) : ∃ x : Ext, extS.R w cs x := by
 obtain ⟨c0, c1, c2, rfl⟩ := list3M hl
 obtain ⟨xs, n, _, _, _, hlen, hfs⟩ := DataW.trod_struct Tryz.underlying128 hf
 obtain ⟨y0, y1, y2, rfl⟩ := list3M (l := xs) hlen
 have f0 : DataW.trod enc Tryz.prog w 0 (fun _ => true) true n 3 (([c0, c1, c2].drop 0).take (Tryz.prog.cellsOf 3)) = some y0 := hfs 0 _ rfl
 have f1 : DataW.trod enc Tryz.prog w 0 (fun _ => true) true n 3 (([c0, c1, c2].drop 1).take (Tryz.prog.cellsOf 3)) = some y1 := hfs 1 _ rfl
 have f2 : DataW.trod enc Tryz.prog w 0 (fun _ => true) true n 3 (([c0, c1, c2].drop 2).take (Tryz.prog.cellsOf 3)) = some y2 := hfs 2 _ rfl
 rw [cellsI] at f0 f1 f2
 obtain ⟨k0, rfl⟩ := cell_int (c := c0) f0
 obtain ⟨k1, rfl⟩ := cell_int (c := c1) f1
 obtain ⟨k2, rfl⟩ := cell_int (c := c2) f2
 exact ⟨⟨k0, k1, k2⟩, rfl⟩
theorem ent_cells {fuel : Nat} {cs : List Value} {y : DataW H × List MemPlace} (hl : cs.length = 7) (hf : DataW.trod enc Tryz.prog w 0 (fun _ => true) true fuel 48 cs = some y) : ∃ x : Ent, entS.R w cs x := by
 obtain ⟨c0, c1, c2, c3, c4, c5, c6, rfl⟩ := list7M hl
 obtain ⟨xs, n, _, _, _, hlen, hfs⟩ := DataW.trod_struct Tryz.underlying48 hf
 obtain ⟨y0, y1, y2, y3, y4, y5, y6, rfl⟩ := list7M (l := xs) hlen
 have f0 : DataW.trod enc Tryz.prog w 0 (fun _ => true) true n 3 (([c0, c1, c2, c3, c4, c5, c6].drop 0).take (Tryz.prog.cellsOf 3)) = some y0 := hfs 0 _ rfl
 have f1 : DataW.trod enc Tryz.prog w 0 (fun _ => true) true n 9 (([c0, c1, c2, c3, c4, c5, c6].drop 1).take (Tryz.prog.cellsOf 9)) = some y1 := hfs 1 _ rfl
 have f2 : DataW.trod enc Tryz.prog w 0 (fun _ => true) true n 45 (([c0, c1, c2, c3, c4, c5, c6].drop 2).take (Tryz.prog.cellsOf 45)) = some y2 := hfs 2 _ rfl
 have f3 : DataW.trod enc Tryz.prog w 0 (fun _ => true) true n 9 (([c0, c1, c2, c3, c4, c5, c6].drop 3).take (Tryz.prog.cellsOf 9)) = some y3 := hfs 3 _ rfl
 have f4 : DataW.trod enc Tryz.prog w 0 (fun _ => true) true n 3 (([c0, c1, c2, c3, c4, c5, c6].drop 4).take (Tryz.prog.cellsOf 3)) = some y4 := hfs 4 _ rfl
 have f5 : DataW.trod enc Tryz.prog w 0 (fun _ => true) true n 9 (([c0, c1, c2, c3, c4, c5, c6].drop 5).take (Tryz.prog.cellsOf 9)) = some y5 := hfs 5 _ rfl
 have f6 : DataW.trod enc Tryz.prog w 0 (fun _ => true) true n 46 (([c0, c1, c2, c3, c4, c5, c6].drop 6).take (Tryz.prog.cellsOf 46)) = some y6 := hfs 6 _ rfl
 rw [cellsI] at f0 f4
 rw [cellsS] at f1 f3 f5
 rw [cellsAtrs] at f2
 rw [cellsExts] at f6
 obtain ⟨k0, rfl⟩ := cell_int (c := c0) f0
 obtain ⟨k1, rfl⟩ := cell_str (c := c1) f1
 obtain ⟨al, h2⟩ := seq_of (ρ := atrS) (c := c2) Tryz.underlying45 cellsAtr (by decide) atr_cells f2
 obtain ⟨k3, rfl⟩ := cell_str (c := c3) f3
 obtain ⟨k4, rfl⟩ := cell_int (c := c4) f4
 obtain ⟨k5, rfl⟩ := cell_str (c := c5) f5
 obtain ⟨xl, h6⟩ := seq_of (ρ := extS) (c := c6) Tryz.underlying46 cellsExt (by decide) ext_cells f6
 exact ⟨⟨k0, k1, al, k3, k4, k5, xl⟩, c2, c6, rfl, h2, h6⟩
theorem ses_cells {fuel : Nat} {cs : List Value} {y : DataW H × List MemPlace} (hl : cs.length = 6) (hf : DataW.trod enc Tryz.prog w 0 (fun _ => true) true fuel 43 cs = some y) : ∃ x : Ses, sesS.R w cs x := by
 obtain ⟨c0, c1, c2, c3, c4, c5, rfl⟩ := list6M hl
 obtain ⟨xs, n, _, _, _, hlen, hfs⟩ := DataW.trod_struct Tryz.underlying43 hf
 obtain ⟨y0, y1, y2, y3, y4, y5, rfl⟩ := list6M (l := xs) hlen
 have f0 : DataW.trod enc Tryz.prog w 0 (fun _ => true) true n 3 (([c0, c1, c2, c3, c4, c5].drop 0).take (Tryz.prog.cellsOf 3)) = some y0 := hfs 0 _ rfl
 have f1 : DataW.trod enc Tryz.prog w 0 (fun _ => true) true n 3 (([c0, c1, c2, c3, c4, c5].drop 1).take (Tryz.prog.cellsOf 3)) = some y1 := hfs 1 _ rfl
 have f2 : DataW.trod enc Tryz.prog w 0 (fun _ => true) true n 9 (([c0, c1, c2, c3, c4, c5].drop 2).take (Tryz.prog.cellsOf 9)) = some y2 := hfs 2 _ rfl
 have f3 : DataW.trod enc Tryz.prog w 0 (fun _ => true) true n 41 (([c0, c1, c2, c3, c4, c5].drop 3).take (Tryz.prog.cellsOf 41)) = some y3 := hfs 3 _ rfl
 have f4 : DataW.trod enc Tryz.prog w 0 (fun _ => true) true n 9 (([c0, c1, c2, c3, c4, c5].drop 4).take (Tryz.prog.cellsOf 9)) = some y4 := hfs 4 _ rfl
 have f5 : DataW.trod enc Tryz.prog w 0 (fun _ => true) true n 9 (([c0, c1, c2, c3, c4, c5].drop 5).take (Tryz.prog.cellsOf 9)) = some y5 := hfs 5 _ rfl
 rw [cellsI] at f0 f1
 rw [cellsS] at f2 f4 f5
 rw [cellsEnts] at f3
 obtain ⟨k0, rfl⟩ := cell_int (c := c0) f0
 obtain ⟨k1, rfl⟩ := cell_int (c := c1) f1
 obtain ⟨k2, rfl⟩ := cell_str (c := c2) f2
 obtain ⟨el, h3⟩ := seq_of (ρ := entS) (c := c3) Tryz.underlying41 cellsEnt (by decide) ent_cells f3
 obtain ⟨k4, rfl⟩ := cell_str (c := c4) f4
 obtain ⟨k5, rfl⟩ := cell_str (c := c5) f5
 exact ⟨⟨k0, k1, k2, el, k4, k5⟩, c3, rfl, h3⟩
theorem open_arch {v : Value} {d : DataW H} {p : List MemPlace} {b0 : Nat} (hval : Value.okWide Tryz.prog w .any b0 27 v) (hd : DataW.Trod enc Tryz.prog w 0 (fun _ => true) true 27 v d p) :
  ∃ (a x y : Int) (u : Value) (l : List Ses), v = .agg #[.int .u32 a, .int .i64 x, .int .i64 y, u] ∧ SeqAt sesS w u l := by
 obtain ⟨⟨cs⟩, rfl, hsz⟩ := okWide_struct Tryz.underlying27 hval
 rw [cellsArch] at hsz
 obtain ⟨c0, c1, c2, c3, rfl⟩ := list4M hsz
 obtain ⟨fuel, hf⟩ := hd
 replace hf : DataW.trod enc Tryz.prog w 0 (fun _ => true) true fuel 27 [c0, c1, c2, c3] = some (d, p) := hf
 obtain ⟨xs, n, _, _, _, hlen, hfs⟩ := DataW.trod_struct Tryz.underlying27 hf
 obtain ⟨y0, y1, y2, rfl⟩ := list3M (l := xs) hlen
 have f0 : DataW.trod enc Tryz.prog w 0 (fun _ => true) true n 22 (([c0, c1, c2, c3].drop 0).take (Tryz.prog.cellsOf 22)) = some y0 := hfs 0 _ rfl
 have f1 : DataW.trod enc Tryz.prog w 0 (fun _ => true) true n 24 (([c0, c1, c2, c3].drop 1).take (Tryz.prog.cellsOf 24)) = some y1 := hfs 1 _ rfl
 have f2 : DataW.trod enc Tryz.prog w 0 (fun _ => true) true n 25 (([c0, c1, c2, c3].drop 3).take (Tryz.prog.cellsOf 25)) = some y2 := hfs 2 _ rfl
 rw [cellsU32] at f0
 rw [cellsL] at f1
 rw [cellsSess] at f2
 replace f0 : DataW.trod enc Tryz.prog w 0 (fun _ => true) true n 22 [c0] = some y0 := f0
 replace f1 : DataW.trod enc Tryz.prog w 0 (fun _ => true) true n 24 [c1, c2] = some y1 := f1
 obtain ⟨k0, e0, _, _⟩ := DataW.trod_int Tryz.underlying22 f0
 obtain rfl : c0 = .int .u32 k0 := by simpa [Value.cells] using e0
 obtain ⟨z0, z1, m, _, _, g0, g1⟩ := trod_struct2 Tryz.underlying24 f1
 replace g0 : DataW.trod enc Tryz.prog w 0 (fun _ => true) true m 3 (([c1, c2].drop 0).take (Tryz.prog.cellsOf 3)) = some z0 := g0
 replace g1 : DataW.trod enc Tryz.prog w 0 (fun _ => true) true m 3 (([c1, c2].drop 1).take (Tryz.prog.cellsOf 3)) = some z1 := g1
 rw [cellsI] at g0 g1
 obtain ⟨k1, rfl⟩ := cell_int (c := c1) g0
 obtain ⟨k2, rfl⟩ := cell_int (c := c2) g1
 obtain ⟨l, h3⟩ := seq_of (ρ := sesS) (c := c3) Tryz.underlying25 cellsSes (by decide) ses_cells f2
 exact ⟨k0, k1, k2, c3, l, rfl, h3⟩
end
theorem err_of {W : World} {L : List (String × DataW Unit)} {n nm : String} {D : DataW Unit} {g : Nat} (hL : laidMetH Tryz.prog L W) (hk : (L.filter fun x => x.1 == n) = [(n, .iface nm D)]) (hp : (DataW.iface nm D).handleName?.isNone = true)
  (hg : Tryz.prog.globalNamed n = some g) (ht : (Tryz.prog.globals[g]?).map (·.type) = some 108) : ∃ tp p, W.var? Tryz.prog n = some #[.iface tp p] := by
 have h1 := hL.filter fun x => x.1 == n
 rw [hk, MakeChecks.laidMetH_plain _ _ _ (by simp [hp])] at h1
 obtain ⟨ps, ⟨g', t, cs, fuel, p, q, hg', ht', hv, hd, _⟩, _⟩ := h1
 obtain rfl := Option.some.inj (hg.symm.trans hg')
 obtain rfl := Option.some.inj (ht.symm.trans ht')
 obtain ⟨f1, u, v, e, _⟩ := iface_of_trod Tryz.underlying108 hd
 obtain ⟨cs⟩ := cs
 have e : cs = [.iface u v] := e
 subst e
 exact ⟨u, v, hv⟩
theorem tb_of {W : World} {L : List (String × DataW Unit)} {n1 n2 : String} {D1 D2 : DataW Unit} (hL : laidMetH Tryz.prog L W) (hk : (L.filter fun x => x.1 == "internal/strconv.uint64pow10") = [("internal/strconv.uint64pow10", Lib.tabData .u64 Lib.pow10Tab)])
  (h1 : (L.filter fun x => x.1 == "strconv.ErrSyntax") = [("strconv.ErrSyntax", .iface n1 D1)]) (p1 : (DataW.iface n1 D1).handleName?.isNone = true)
  (h2 : (L.filter fun x => x.1 == "strconv.ErrRange") = [("strconv.ErrRange", .iface n2 D2)]) (p2 : (DataW.iface n2 D2).handleName?.isNone = true) (hsh : W.ShapedOpen Tryz.prog) : Tb W :=
 ⟨tab_of hL hk hsh, err_of (g := 2) hL h1 p1 (by kernel_rfl) (by kernel_rfl), err_of (g := 3) hL h2 p2 (by kernel_rfl) (by kernel_rfl)⟩
end
end Go.Proofs.YthkjphebhafgoaaGreatDoor
