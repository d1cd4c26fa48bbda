/-
  Joined: MbQ MbI MgQ VqT.
-/
import Derived.Test.YtbccghbngaiceaaGreatDoorMMn19
import Derived.Test.YtbccghbngaiceaaGreatDoorMMn25
import Derived.Lib.AppendZerosOnto
import Derived.Lib.Overlaps
set_option linter.all false
set_option maxRecDepth 100000
set_option maxHeartbeats 64000000
namespace Go.Proofs.YtbccghbngaiceaaGreatDoor
section
open Go.RowKit
def elemsB (s : ByteArray) : List ByteArray := (elemsL (bs s)).map strB
def cmpB (a b : ByteArray) : Int := Lib.compareBytes a.data.toList b.data.toList
def cmpPath : List ByteArray → List ByteArray → Int
 | [], [] => 0
 | [], _ :: _ => -1
 | _ :: _, [] => 1
 | x :: a, y :: b => if cmpB x y ≠ 0 then cmpB x y else cmpPath a b
def pcmp (a b : ByteArray) : Int := cmpPath (elemsB a) (elemsB b)
def undB (p d : ByteArray) : Bool := decide (pathE (bs p) = 0 ∧ pathE (bs d) = 0 ∧ (elemsB d).length ≤ (elemsB p).length ∧ (elemsB p).take (elemsB d).length = elemsB d)
def parB (p : ByteArray) : ByteArray := ⟨(Lib.join ((elemsB p).dropLast.map (·.data.toList)) [47]).toArray⟩
def getT (t : List Ent) (p : ByteArray) : Option Ent := t.find? fun x => decide (x.path = p)
def idxP {α : Type} (f : α → Bool) : List α → Option Nat
 | [] => none
 | x :: r => if f x then some 0 else (idxP f r).map (· + 1)
def idxT (t : List Ent) (p : ByteArray) : Option Nat := idxP (fun x => decide (x.path = p)) t
def dirE (t : List Ent) (p : ByteArray) : Int := if p.size = 0 then 0 else match getT t p with
 | none => 9
 | some x => if x.k = 2 then 0 else 10
def halve (f : Nat → Bool) : Nat → Nat → Nat → Nat
 | 0, i, _ => i
 | n + 1, i, j => if i < j then (if f ((i + j) / 2) then halve f n ((i + j) / 2 + 1) j else halve f n i ((i + j) / 2)) else i
def belowP (t : List Ent) (cf : Ent → Int) (h : Nat) : Bool := match t[h]? with
 | some x => decide (cf x < 0)
 | none => false
def placeT (t : List Ent) (p : ByteArray) : Nat := halve (belowP t fun x => pcmp x.path p) t.length 0 t.length
def insAt {α : Type} (l : List α) (i : Nat) (x : α) : List α := l.take i ++ x :: l.drop i
def applyT (t : List Ent) (e : Ent) : Int × List Ent :=
 if enE e ≠ 0 then (enE e, [])
 else if 3 < e.k then
  (if idxT t e.path = none ∧ e.path.size ≠ 0 then (9, []) else (0, t.filter fun x => !(decide (e.k = 4) && undB x.path e.path)))
 else if dirE t (parB e.path) ≠ 0 then (dirE t (parB e.path), [])
 else match idxT t e.path with
  | some a => (match t[a]? with
   | some x => if decide (x.k = 2) = decide (e.k = 2) then (0, t.set a e) else (8, [])
   | none => (8, []))
  | none => if 5000 ≤ t.length then (6, []) else (0, insAt t (placeT t e.path) e)
def actH (l : List Hol) (d : Int) : List Hol := l.filter fun h => decide (d ≤ h.u)
def heldH (l : List Hol) (p : ByteArray) (d : Int) : Bool := (actH l d).any fun h => undB p h.p
def alwE (l : List Hol) (e : Ent) (d : Int) : Int :=
 if e.k = 1 ∨ e.k = 2 ∨ e.k = 3 then (if heldH l e.path d then 15 else 0)
 else if e.k = 4 then (if heldH l e.path d || (actH l d).any (fun h => undB h.p e.path) then 15 else 0)
 else 0
def untilH (l : List Hol) (p : ByteArray) (u : Int) : Int := l.foldl (fun u h => if h.p = p then max u h.u else u) u
def applyH (l : List Hol) (e : Ent) (d : Int) : Int × List Hol :=
 let a := actH l d
 let r := a.filter fun h => decide (h.p ≠ e.path)
 if e.k = 5 then (0, insAt r ((idxP (fun h => decide (0 < pcmp h.p e.path)) r).getD r.length) ⟨e.path, untilH a e.path (valD (bs e.tgt) : Nat)⟩)
 else if e.k = 6 then (if r.length = a.length then (9, []) else (0, r))
 else (0, a)
theorem run_copy_rowK {P : Program} (w : World) (dT sT ty elem : TypeId) (k g o dLen dCap : Nat) (a : Addr) (sLen sCap : Nat) (cur : Array Value) (t : TypeId) (cs : List Value)
  (hu : P.underlying dT = some (.slice elem)) (hs : (P.info? elem).map (·.size) = some k)
  (hg : w.heap[g]? = some (.cells cur t (0, 0))) (hn : cs.length = Nat.min sLen dLen * k)
  (hsrc : ∀ j v, cs[j]? = some v → w.cell? (a.add j) = some v) (hfit : o + cs.length ≤ cur.size) (h1 : ∀ v ∈ cs, v.oneCell' = true) :
  (Builtin.copy_ #[dT, sT] ty #[.slice (some ⟨g, o, none⟩) dLen dCap, .slice (some a) sLen sCap]).run P w =
   .ok (goInt (Nat.min sLen dLen)) (w.setRow g (cur.toList.take o ++ cs ++ cur.toList.drop (o + cs.length)).toArray) := by
 have hl := run_loadCells_list (P := P) w a cs hsrc
 have hst := run_storeCells_at P g o t cs 0 cur w hg (by simpa using hfit) h1
 cases hq : P.info? elem with
 | none => simp [hq] at hs
 | some i =>
  have hi : i.size = k := by simpa [hq] using hs
  simp [Builtin.copy_, run_underlying hu, Builtin.lenOf, Builtin.firstCells, sizeOf, typeInfo, hq, hi, ← hn, hl, hst]
theorem zeroCells_len (z : Array Value) (n : Nat) : (Builtin.zeroCells z n).size = n * z.size := by simp [Builtin.zeroCells]
theorem zeroCells_mem {z : Array Value} {n : Nat} {v : Value} (h : v ∈ (Builtin.zeroCells z n).toList) : v ∈ z.toList := by
 unfold Builtin.zeroCells at h
 simp only [Array.toList_map, List.mem_map] at h
 obtain ⟨i, hi, rfl⟩ := h
 have hi' : i < n * z.size := by simpa using hi
 have hz : 0 < z.size := by
  rcases Nat.eq_zero_or_pos z.size with e | e
  ·rw [e] at hi'; omega
  ·exact e
 have : i % z.size < z.size := Nat.mod_lt _ hz
 rw [getElem!_pos z _ this]
 exact Array.getElem_mem_toList this
theorem run_clear_rowK {P : Program} (w : World) (t e ty : TypeId) (z : Value) (ht : P.underlying t = some (.slice e)) (hv : ∀ w, (zeroValue e).run P w = .ok z w) (h1 : ∀ u ∈ z.cells.toList, u.oneCell' = true) (g o n c : Nat)
  (cur : Array Value) (tt : TypeId) (hg : w.heap[g]? = some (.cells cur tt (0, 0))) (hfit : o + n * z.cells.size ≤ cur.size) :
  (Builtin.clear_ #[t] ty #[.slice (some ⟨g, o, none⟩) n c]).run P w = .ok (.tuple #[]) (w.setRow g (cur.toList.take o ++ (Builtin.zeroCells z.cells n).toList ++ cur.toList.drop (o + n * z.cells.size)).toArray) := by
 have hl : (Builtin.zeroCells z.cells n).toList.length = n * z.cells.size := by rw [Array.length_toList, zeroCells_len]
 cases n with
 | zero =>
  have e0 : (Builtin.zeroCells z.cells 0).toList = [] := List.eq_nil_of_length_eq_zero (by rw [hl, Nat.zero_mul])
  rw [e0, Nat.zero_mul, Nat.add_zero, List.append_nil, List.take_append_drop, Array.toArray_toList, setRow_self w g cur tt (0, 0) hg]
  simp [Builtin.clear_, run_underlying ht]
 | succ m =>
  have hst := run_storeCells_at P g o tt (Builtin.zeroCells z.cells (m + 1)).toList 0 cur w hg (by rw [hl]; simpa using hfit) (fun v hv' => h1 v (zeroCells_mem hv'))
  rw [Nat.add_zero, hl] at hst
  simp [Builtin.clear_, run_underlying ht, hv, hst]
theorem setCells_row (g : Nat) (t : TypeId) : ∀ (vs : List Value) (o : Nat) (cur : Array Value) (w : World), w.heap[g]? = some (.cells cur t (0, 0)) → o + vs.length ≤ cur.size → w.setCells g o vs = w.setRow g (cur.toList.take o ++ vs ++ cur.toList.drop (o + vs.length)).toArray
 | [], o, cur, w, hg, _ => by
  rw [World.setCells, List.length_nil, Nat.add_zero, List.append_nil, List.take_append_drop, Array.toArray_toList, setRow_self w g cur t (0, 0) hg]
 | v :: r, o, cur, w, hg, hl => by
  rw [World.setCells, setCell_eq_setRow w g o cur t (0, 0) v hg, setCells_row g t r (o + 1) (cur.setIfInBounds o v) _ (setRow_heap w g cur _ t _ hg) (by simp at hl ⊢; omega), setRow_setRow]
  congr 2
  have e := list_seg_step cur.toList o v r (by simp at hl ⊢; omega)
  simpa [Array.toList_setIfInBounds, Nat.add_assoc] using e
theorem step_copy_runK {P : Program} {ops : Array Oper} {o : Oper} {a : Act} {w : World} {K : Act → World → Prop} {Q : Exit → Act → World → Prop} {E : Prop}
  (hg : o.guard = none) (d x : Operand) (dT sT : TypeId) (hop : o.op = Op.call { callee := Callee.builtin Builtin.copy, args := #[d, x], argTypes := #[dT, sT] })
  (v u : Value) (hd : a.eval d = v) (hx : a.eval x = u) {v' : Value} {w' : World} (hr : (Builtin.copy_ #[dT, sT] o.type #[v, u]).run P w = .ok v' w') (hK : K (a.put o.dst v') w') :
  if Region.wanted o (yielded ops a.tmps) = true then Oper.wp P o a w K Q else E := by
 have hw : Region.wanted o (yielded ops a.tmps) = true := by simp [Region.wanted, hg]
 rw [if_pos hw]
 unfold Oper.wp
 simp [execOp, hop, resolve, invoke, builtin, hd, hx, hr, Result.andThen]
 exact hK
theorem own_row {W : World} {B k n : Nat} {T : TypeId} {v : Value} {xs : List Value} (h : W.ownsRow B T k v n xs) (hn : 0 < n) : ∃ g cap cur, v = .slice (some ⟨g, 0, none⟩) n cap ∧ B ≤ g ∧ W.heap[g]? = some (.cells cur T (0, 0)) ∧ n ≤ cap ∧ cap ≤ maxLen ∧ cur.size = cap * k ∧ cur.toList.take (n * k) = xs := by
 rcases h.2 with ⟨_, h0⟩ | h
 ·omega
 ·exact h
theorem flat_take {n : Nat} {css : List (List Value)} (h : ∀ c ∈ css, c.length = n) (i : Nat) : (css.take i).flatten = css.flatten.take (i * n) := by
 induction css generalizing i with
 | nil => simp
 | cons c r ih =>
  cases i with
  | zero => simp
  | succ i =>
   have hc := h c List.mem_cons_self
   rw [List.take_succ_cons, List.flatten_cons, List.flatten_cons, ih (fun x hx => h x (List.mem_cons_of_mem _ hx)), List.take_append, hc, List.take_of_length_le (l := c) (by rw [hc, Nat.add_mul, Nat.one_mul]; exact Nat.le_add_left _ _)]
   rw [Nat.add_mul, Nat.one_mul, Nat.add_sub_cancel]
theorem flat_drop {n : Nat} {css : List (List Value)} (h : ∀ c ∈ css, c.length = n) (i : Nat) : (css.drop i).flatten = css.flatten.drop (i * n) := by
 induction css generalizing i with
 | nil => simp
 | cons c r ih =>
  cases i with
  | zero => simp
  | succ i =>
   have hc := h c List.mem_cons_self
   rw [List.drop_succ_cons, List.flatten_cons, ih (fun x hx => h x (List.mem_cons_of_mem _ hx)), List.drop_append, List.drop_of_length_le (l := c) (by rw [hc, Nat.add_mul, Nat.one_mul]; exact Nat.le_add_left _ _), List.nil_append, hc]
   rw [Nat.add_mul, Nat.one_mul, Nat.add_sub_cancel]
theorem Both.take {β γ : Type} {r : β → γ → Prop} {l : List β} {m : List γ} (h : Both r l m) : ∀ i, Both r (l.take i) (m.take i) := by
 induction h with
 | nil => intro i; simp only [List.take_nil]; exact .nil
 | cons h1 _ ih =>
  intro i
  cases i with
  | zero => exact .nil
  | succ i => exact .cons h1 (ih i)
theorem Both.drop {β γ : Type} {r : β → γ → Prop} {l : List β} {m : List γ} (h : Both r l m) : ∀ i, Both r (l.drop i) (m.drop i) := by
 induction h with
 | nil => intro i; simp only [List.drop_nil]; exact .nil
 | cons h1 h2 ih =>
  intro i
  cases i with
  | zero => exact .cons h1 h2
  | succ i => exact ih i
theorem Both.ins {β γ : Type} {r : β → γ → Prop} {l : List β} {m : List γ} (h : Both r l m) (i : Nat) {x : β} {y : γ} (hx : r x y) : Both r (l.take i ++ x :: l.drop i) (insAt m i y) :=
 (h.take i).app (.cons hx (h.drop i))
theorem append_zeros {P : Program} {TS T : TypeId} {k bytes : Nat} {z : Value} (E : Elem P TS T k bytes z) (tn : TypeId) (htn : P.underlying tn = some (.int .i64)) (w : World) (g i n cap : Nat) (cur : Array Value) (hg : w.heap[g]? = some (.cells cur T (0, 0))) (hcs : cur.size = cap * k) (hin : i < n) (hnc : n ≤ cap) (hcn : cap < n + 1) (hn : n ≤ 100000) (ty : TypeId) :
  ∃ G ROW W1, (Builtin.append_ #[TS, tn] ty #[.slice (some ⟨g, 0, none⟩) i cap, .int .i64 ((n + 1 - i : Nat) : Int)]).run P w = .ok (.slice (some ⟨w.heap.size, 0, none⟩) (n + 1) G) W1 ∧ n + 1 ≤ G ∧ G ≤ maxLen ∧ W1.heap[w.heap.size]? = some (.cells ROW T (0, 0)) ∧ ROW.size = G * k ∧ ROW.toList.take (i * k) = cur.toList.take (i * k) ∧ Below w.heap.size w W1 := by
 obtain ⟨iS, hi, hz0, hz1, hz2⟩ := infoV_parts E.hi
 have hle : i * k ≤ cap * k := Nat.mul_le_mul (by omega) (Nat.le_refl k)
 have htl : (cur.toList.take (i * k)).length = i * k := by rw [List.length_take, Array.length_toList, hcs]; omega
 have hold : (Builtin.firstCells iS.size i (.slice (some ⟨g, 0, none⟩) i cap)).run P w.drew = .ok (cur.toList.take (i * k)).toArray w.drew := by
  rw [hz1]
  refine run_firstCells_some w.drew k i ⟨g, 0, none⟩ i cap _ htl (fun j v hj => ?_)
  rw [Addr.add_lit, Nat.zero_add]
  rw [List.getElem?_take] at hj
  split at hj
  ·show w.cell? ⟨g, j, none⟩ = some v
   simp only [World.cell?, hg]
   simpa using hj
  ·cases hj
 have hkk : i + (n + 1 - i) = n + 1 := by omega
 have hby : bytes ≤ 1000 := E.hb
 have hb1 : (n + 1) * bytes ≤ 140737488355328 := Nat.le_trans (Nat.mul_le_mul (show n + 1 ≤ 100001 by omega) hby) (by decide)
 have h := Lib.run_append_grow_zeros w TS tn ty T iS z .i64 .i64 E.ht htn hi hz0 (some ⟨g, 0, none⟩) i cap _ hold (n + 1 - i) (by omega) (by rw [hz1]; exact E.hn) (by omega) (by omega) (by
  rw [hz2]
  have := Nat.mul_le_mul (show n + 1 - i ≤ n + 1 by omega) (Nat.le_refl bytes)
  omega) (by rw [hz2, hkk]; exact growslice_fits hcn hb1)
 rw [hkk] at h
 have hG := grownCap_ge w (n + 1) cap T
 have hGm := grownCap_le_maxLen w (n + 1) cap T (by unfold maxLen; omega)
 obtain ⟨G, hGe⟩ : ∃ G, grownCap w (n + 1) cap T = G := ⟨_, rfl⟩
 rw [hGe] at h hG hGm
 refine ⟨G, _, _, h, hG, hGm, heap_alloc_new w.drew _, ?_, ?_, (Below.refl _ _).drew.alloc (Nat.le_refl _) _⟩
 ·simp only [Array.size_append, List.size_toArray, htl, zeroCells_len, E.hz]
  rw [← Nat.add_mul, ← Nat.add_mul]
  congr 1
  omega
 ·simp only [Array.toList_append, List.append_assoc]
  rw [List.take_append_of_le_length (by rw [htl]; exact Nat.le_refl _), List.take_of_length_le (by rw [htl]; exact Nat.le_refl _)]
theorem ins_len {i n k : Nat} (h : i ≤ n) : i * k + k + (n - i) * k = (n + 1) * k := by
 obtain ⟨d, rfl⟩ : ∃ d, n = i + d := ⟨n - i, by omega⟩
 rw [show i + d - i = d by omega, Nat.add_mul, Nat.add_mul, Nat.one_mul]
 omega
theorem ins_take {A C M R : List Value} {i n k : Nat} (h : i ≤ n) (hA : A.length = i * k) (hC : C.length = k) (hM : M.length = (n - i) * k) : (A ++ C ++ M ++ R).take ((n + 1) * k) = A ++ C ++ M := by
 have hl : (A ++ C ++ M).length = (n + 1) * k := by rw [List.length_append, List.length_append, hA, hC, hM, ins_len h]
 rw [List.take_append_of_le_length (by rw [hl]; exact Nat.le_refl _), List.take_of_length_le (by rw [hl]; exact Nat.le_refl _)]
def jnB (l : List ByteArray) : ByteArray := ⟨(Lib.join (l.map (·.data.toList)) [47]).toArray⟩
theorem jnB_nil : jnB [] = ⟨#[]⟩ := rfl
theorem join_snoc (l : List (List UInt8)) (x : List UInt8) (h : l ≠ []) : Lib.join (l ++ [x]) [47] = Lib.join l [47] ++ ([47] ++ x) := by
 match l, h with
 | a :: r, _ =>
  rw [List.cons_append, Lib.join_cons, Lib.join_cons, Lib.joinTail, Lib.joinTail, List.map_append, List.flatten_append]
  simp
theorem jnB_one (x : ByteArray) : jnB [x] = x := by
 rw [jnB, List.map_singleton, Lib.join_one]
theorem jnB_snoc (l : List ByteArray) (x : ByteArray) (h : l ≠ []) : jnB (l ++ [x]) = jnB l ++ ⟨#[47]⟩ ++ x := by
 unfold jnB
 rw [List.map_append, List.map_singleton, join_snoc _ _ (by simpa using h)]
 apply ByteArray.ext
 simp only [ByteArray.data_append]
 apply Array.toList_inj.1
 simp
theorem parB_jn (s : ByteArray) : parB s = jnB (elemsB s).dropLast := rfl
theorem get_drop {l : List Ent} {i : Nat} {x : Ent} {s : ByteArray} (hx : l[i]? = some x) : getT (l.drop i) s = if x.path = s then some x else getT (l.drop (i + 1)) s := by
 obtain ⟨h1, rfl⟩ := List.getElem?_eq_some_iff.1 hx
 rw [List.drop_eq_getElem_cons h1, getT, List.find?_cons]
 by_cases q : l[i].path = s
 ·rw [if_pos q, decide_eq_true q]
 ·rw [if_neg q, decide_eq_false q]; rfl
theorem held_drop {l : List Hol} {i : Nat} {x : Hol} {s : ByteArray} {d : Int} (hx : l[i]? = some x) : heldH (l.drop i) s d = if d ≤ x.u ∧ undB s x.p = true then true else heldH (l.drop (i + 1)) s d := by
 obtain ⟨h1, rfl⟩ := List.getElem?_eq_some_iff.1 hx
 rw [List.drop_eq_getElem_cons h1, heldH, actH, List.filter_cons]
 by_cases q : d ≤ l[i].u
 ·rw [if_pos (decide_eq_true q), List.any_cons]
  cases r : undB s l[i].p with
  | true => rw [if_pos ⟨q, rfl⟩, Bool.true_or]
  | false => rw [if_neg (fun h => by cases h.2), Bool.false_or]; rfl
 ·rw [if_neg (by rw [decide_eq_false q]; decide), if_neg (fun h => q h.1)]; rfl
theorem actH_snoc {l : List Hol} {x : Hol} {d : Int} : actH (l ++ (some x).toList) d = actH l d ++ (if d ≤ x.u then [x] else []) := by
 rw [actH, List.filter_append]
 congr 1
 by_cases q : d ≤ x.u
 ·rw [if_pos q]; simp [q]
 ·rw [if_neg q]; simp [q]
def wthH (l : List Hol) (s : ByteArray) : List Hol := l.filter fun h => decide (h.p ≠ s)
def lastU (l : List Hol) (s : ByteArray) : Int := l.foldl (fun q h => if h.p = s then h.u else q) (-1)
theorem wth_snoc {l : List Hol} {x : Hol} {s : ByteArray} : wthH (l ++ (some x).toList) s = wthH l s ++ (if x.p = s then [] else [x]) ∧ lastU (l ++ (some x).toList) s = if x.p = s then x.u else lastU l s := by
 refine ⟨?_, ?_⟩
 ·rw [wthH, List.filter_append]
  congr 1
  by_cases q : x.p = s
  ·rw [if_pos q]; simp [q]
  ·rw [if_neg q]; simp [q]
 ·rw [lastU, List.foldl_append]; rfl
def insF (f : Hol → Bool) (x : Hol) : List Hol → List Hol
 | [] => [x]
 | h :: r => if f h = true then x :: h :: r else h :: insF f x r
theorem insF_drop {f : Hol → Bool} {z : Hol} {l : List Hol} {i : Nat} {x : Hol} (hx : l[i]? = some x) : insF f z (l.drop i) = if f x = true then z :: l.drop i else x :: insF f z (l.drop (i + 1)) := by
 obtain ⟨h1, rfl⟩ := List.getElem?_eq_some_iff.1 hx
 rw [List.drop_eq_getElem_cons h1, insF]
def belH (l : List Hol) (p : ByteArray) (d : Int) : Bool := (actH l d).any fun h => undB h.p p
theorem bel_drop {l : List Hol} {i : Nat} {x : Hol} {s : ByteArray} {d : Int} (hx : l[i]? = some x) : belH (l.drop i) s d = if d ≤ x.u ∧ undB x.p s = true then true else belH (l.drop (i + 1)) s d := by
 obtain ⟨h1, rfl⟩ := List.getElem?_eq_some_iff.1 hx
 rw [List.drop_eq_getElem_cons h1, belH, actH, List.filter_cons]
 by_cases q : d ≤ l[i].u
 ·rw [if_pos (decide_eq_true q), List.any_cons]
  cases r : undB l[i].p s with
  | true => rw [if_pos ⟨q, rfl⟩, Bool.true_or]
  | false => rw [if_neg (fun h => by cases h.2), Bool.false_or]; rfl
 ·rw [if_neg (by rw [decide_eq_false q]; decide), if_neg (fun h => q h.1)]; rfl
def applyR (l : List Hol) (e : Ent) (d : Int) : Int × List Hol :=
 if e.k = 5 then (0, insF (fun h => decide (pcmp e.path h.p < 0)) ⟨e.path, if ((valD (bs e.tgt) : Nat) : Int) < lastU (actH l d) e.path then lastU (actH l d) e.path else ((valD (bs e.tgt) : Nat) : Int)⟩ (wthH (actH l d) e.path))
 else if e.k = 6 then (if lastU (actH l d) e.path < 0 then (9, []) else (0, wthH (actH l d) e.path))
 else (0, actH l d)
def FT (k : Int) (p : ByteArray) (l : List Ent) : List Ent := l.filter fun x => !(decide (k = 4) && undB x.path p)
theorem FT_snoc {k : Int} {p : ByteArray} {l : List Ent} {x : Ent} : FT k p (l ++ (some x).toList) = FT k p l ++ (if (!(decide (k = 4) && undB x.path p)) = true then [x] else []) := by
 rw [FT, List.filter_append]
 congr 1
 cases q : (!(decide (k = 4) && undB x.path p)) with
 | true => rw [if_pos rfl, Option.toList_some, List.filter_cons, q]; rfl
 | false => rw [if_neg (by decide), Option.toList_some, List.filter_cons, q]; rfl
def insK (e : Ent) : Bool → List Ent → List Ent
 | dn, [] => if dn = false then [e] else []
 | dn, x :: r => (if dn = false ∧ pcmp e.path x.path ≤ 0 then [e] else []) ++ ((if x.path = e.path then [] else [x]) ++ insK e (dn || decide (pcmp e.path x.path ≤ 0)) r)
theorem insK_drop {e : Ent} {dn : Bool} {l : List Ent} {i : Nat} {x : Ent} (hx : l[i]? = some x) : insK e dn (l.drop i) = (if dn = false ∧ pcmp e.path x.path ≤ 0 then [e] else []) ++ ((if x.path = e.path then [] else [x]) ++ insK e (dn || decide (pcmp e.path x.path ≤ 0)) (l.drop (i + 1))) := by
 obtain ⟨h1, rfl⟩ := List.getElem?_eq_some_iff.1 hx
 rw [List.drop_eq_getElem_cons h1, insK]
def applyTS (t : List Ent) (e : Ent) : Int × List Ent :=
 if 3 < e.k then (if (getT t e.path).isSome = false ∧ e.path.toList.isEmpty = false then (9, []) else (0, FT e.k e.path t))
 else if dirE t (parB e.path) ≠ 0 then (dirE t (parB e.path), [])
 else match getT t e.path with
  | some x => if decide (x.k = 2) = decide (e.k = 2) then (0, insK e false t) else (8, [])
  | none => if 5000 ≤ t.length then (6, []) else (0, insK e false t)
def applyTR (t : List Ent) (e : Ent) : Int × List Ent := if enE e ≠ 0 then (enE e, []) else applyTS t e
theorem applyTS_none {t : List Ent} {e : Ent} (h1 : 3 < e.k) (h2 : (getT t e.path).isSome = false) (h3 : e.path.toList.isEmpty = false) : applyTS t e = (9, []) := by
 rw [applyTS, if_pos h1, if_pos ⟨h2, h3⟩]
theorem applyTS_filt {t : List Ent} {e : Ent} (h1 : 3 < e.k) (h2 : (getT t e.path).isSome = true ∨ e.path.toList.isEmpty = true) : applyTS t e = (0, FT e.k e.path t) := by
 rw [applyTS, if_pos h1, if_neg]
 rintro ⟨a, b⟩
 rcases h2 with h2 | h2
 ·rw [h2] at a; cases a
 ·rw [h2] at b; cases b
theorem applyTS_dir {t : List Ent} {e : Ent} (h1 : ¬ 3 < e.k) (h2 : dirE t (parB e.path) ≠ 0) : applyTS t e = (dirE t (parB e.path), []) := by
 rw [applyTS, if_neg h1, if_pos h2]
theorem beq2 (n : Int) : decide (n = 2) = (n == 2) := by
 by_cases h : n = 2
 ·rw [decide_eq_true h, beq_iff_eq.2 h]
 ·rw [decide_eq_false h, beq_eq_false_iff_ne.2 h]
theorem applyTS_kind {t : List Ent} {e : Ent} {o : Int} (h1 : ¬ 3 < e.k) (h2 : dirE t (parB e.path) = 0) (h3 : ∀ y, getT t e.path = some y → y.k = o) (h4 : (getT t e.path).isSome = true) (h5 : (o == 2) = true ∧ (e.k == 2) = false ∨ (o == 2) = false ∧ (e.k == 2) = true) : applyTS t e = (8, []) := by
 rw [applyTS, if_neg h1, if_neg (fun c => c h2)]
 cases h : getT t e.path with
 | none => rw [h] at h4; cases h4
 | some y =>
  dsimp only
  rw [if_neg]
  rw [h3 y h, beq2, beq2]
  rcases h5 with ⟨a, b⟩ | ⟨a, b⟩ <;> rw [a, b] <;> decide
theorem applyTS_ins {t : List Ent} {e : Ent} {o : Int} (h1 : ¬ 3 < e.k) (h2 : dirE t (parB e.path) = 0) (h3 : ∀ y, getT t e.path = some y → y.k = o) (h4 : (getT t e.path).isSome = false ∨ ((getT t e.path).isSome = true ∧ (o == 2) = true ∧ (e.k == 2) = true) ∨ ((getT t e.path).isSome = true ∧ (o == 2) = false ∧ (e.k == 2) = false)) (h5 : t.length < 5000) : applyTS t e = (0, insK e false t) := by
 rw [applyTS, if_neg h1, if_neg (fun c => c h2)]
 cases h : getT t e.path with
 | none => dsimp only; rw [if_neg (by omega)]
 | some y =>
  dsimp only
  rw [if_pos]
  rw [h3 y h, beq2, beq2]
  rw [h] at h4
  rcases h4 with a | ⟨_, a, b⟩ | ⟨_, a, b⟩
  ·cases a
  ·rw [a, b]
  ·rw [a, b]
structure SesG (x : Ses) : Prop where
 prev : x.prev.size ≤ 1000
 str : x.str.size ≤ 14680064
 sig : x.sig.size ≤ 1000000
 ents : x.ents.length ≤ 12
 each : ∀ e ∈ x.ents, e.path.size ≤ 1000 ∧ e.tgt.size ≤ 1000 ∧ (∀ a ∈ e.attrs, a.k.size ≤ 1000) ∧ e.exts.length ≤ 1000
def digK (k n : Nat) : List Nat := (List.range k).map fun i => 48 + n / 10 ^ (k - 1 - i) % 10
def dig8 (n : Nat) : List Nat := digK 8 n
theorem dig8_len (n : Nat) : (dig8 n).length = 8 := by simp [dig8, digK]
def restL (x : Ses) : List Nat := signL x ++ nstL (bs x.sig)
def dirL (x : Ses) : List Nat := dig8 (restL x).length ++ restL x
end
end Go.Proofs.YtbccghbngaiceaaGreatDoor
