/-
  Joined: VoG VoH VoI VoJ VoK VoL VoM VqH.
-/
import Derived.Test.YthkjphebhafgoaaGreatDoorMBn05
import Derived.Test.YthkjphebhafgoaaGreatDoorMBn06
set_option linter.all false
set_option maxRecDepth 100000
set_option maxHeartbeats 64000000
namespace Go.Proofs.YthkjphebhafgoaaGreatDoor
section
open Go.RowKit
def attrsG : Option ByteArray → List Atr → Int
 | _, [] => 0
 | p, a :: r =>
  if keyB (bs a.k) = false then 7 else if 64 < a.v.size then 6 else
  match p with
  | none => attrsG (some a.k) r
  | some q => if a.k = q then 8 else if Op.bytesLess a.k.toList q.toList = true then 14 else attrsG (some a.k) r
theorem attrsG_key {p : Option ByteArray} {a : Atr} {r : List Atr} (h : keyB (bs a.k) = false) : attrsG p (a :: r) = 7 := by
 cases p <;> rw [attrsG, if_pos h]
theorem attrsG_val {p : Option ByteArray} {a : Atr} {r : List Atr} (h : keyB (bs a.k) = true) (h64 : 64 < a.v.size) : attrsG p (a :: r) = 6 := by
 have hk : ¬ keyB (bs a.k) = false := by rw [h]; decide
 cases p <;> rw [attrsG, if_neg hk, if_pos h64]
theorem attrsG_first {a : Atr} {r : List Atr} (h : keyB (bs a.k) = true) (h64 : ¬ 64 < a.v.size) : attrsG none (a :: r) = attrsG (some a.k) r := by
 have hk : ¬ keyB (bs a.k) = false := by rw [h]; decide
 rw [attrsG, if_neg hk, if_neg h64]
theorem attrsG_next {a : Atr} {q : ByteArray} {r : List Atr} (h : keyB (bs a.k) = true) (h64 : ¬ 64 < a.v.size) : attrsG (some q) (a :: r) = if a.k = q then 8 else if Op.bytesLess a.k.toList q.toList = true then 14 else attrsG (some a.k) r := by
 have hk : ¬ keyB (bs a.k) = false := by rw [h]; decide
 rw [attrsG, if_neg hk, if_neg h64]
def attrsE (l : List Atr) : Int := if 16 < l.length then 6 else attrsG none l
def prevK (l : List Atr) : Nat → Option ByteArray
 | 0 => none
 | j + 1 => (l[j]?).map Atr.k
theorem isEmptyV0 : (⟨#[]⟩ : ByteArray).toList.isEmpty = true := by
 rw [ByteArray.toList_eq]
 rfl
def extB (x : Ext) : Bool := decide (0 ≤ x.s ∧ x.s ≤ 255 ∧ 0 ≤ x.o ∧ x.o ≤ 2147483647 ∧ 1 ≤ x.l ∧ x.l ≤ 65536 ∧ ¬ (x.s = 0 ∧ x.o ≠ 0))
def sumX : List Ext → Int
 | [] => 0
 | x :: r => x.l + sumX r
structure EntOk (e : Ent) : Prop where
 kind : 1 ≤ e.k ∧ e.k ≤ 6
 path : pathE (bs e.path) = 0
 named : e.path.size = 0 → 5 ≤ e.k
 attrs : attrsE e.attrs = 0
 bare : 0 < e.attrs.length → e.k ≤ 3
 tgt : tgtB e = true
 size : 0 ≤ e.size ∧ e.size ≤ 65536 ∧ (e.k ≠ 1 → e.size = 0)
 dig : (e.k = 1 → e.dig.size = 32) ∧ (e.k ≠ 1 → e.dig.size = 0)
 exts : (0 < e.exts.length → e.k = 1) ∧ (∀ x ∈ e.exts, extB x = true) ∧ sumX e.exts = e.size
theorem nameK_some {k : Int} (h : 1 ≤ k ∧ k ≤ 6) : 0 < (nameK k).size ∧ (nameK k).size ≤ 7 := by
 have : k = 1 ∨ k = 2 ∨ k = 3 ∨ k = 4 ∨ k = 5 ∨ k = 6 := by omega
 rcases this with rfl | rfl | rfl | rfl | rfl | rfl <;> decide
theorem nstL_len (s : ByteArray) (h : s.size < 18446744073709551616) : (strB (nstL (bs s))).size ≤ s.size + 22 := by
 rw [strB_size, nstL, List.length_append, List.length_append, List.length_append, bs_len]
 have := digD_len20 h
 simp
 omega
theorem numL_len (n : Nat) (h : n < 18446744073709551616) : (strB (numL n)).size ≤ 21 := by
 rw [strB_size, numL, List.length_append]
 have := digD_len20 h
 simp
 omega
def atrL (l : List Atr) : List Nat := l.flatMap fun a => nstL (bs a.k) ++ nstL (bs a.v)
def headL (e : Ent) : List Nat := nstL (bs (nameK e.k)) ++ nstL (bs e.path) ++ numL e.attrs.length ++ atrL e.attrs ++ nstL (bs e.tgt)
theorem atrL_take {l : List Atr} {i : Nat} {a : Atr} (h : l[i]? = some a) : atrL (l.take (i + 1)) = atrL (l.take i) ++ (nstL (bs a.k) ++ nstL (bs a.v)) := by
 unfold atrL
 rw [List.take_add_one, h, Option.toList_some, List.flatMap_append]
 simp
theorem atrL_len {l : List Atr} {m : Nat} (hm : m < 1000000000) (h : ∀ a ∈ l, a.k.size ≤ m ∧ a.v.size ≤ m) : (atrL l).length ≤ l.length * (2 * m + 44) := by
 induction l with
 | nil => simp [atrL]
 | cons a r ih =>
  have h1 := ih fun x hx => h x (List.mem_cons_of_mem _ hx)
  obtain ⟨h2, h3⟩ := h a List.mem_cons_self
  have h4 := nstL_len a.k (by omega)
  have h5 := nstL_len a.v (by omega)
  rw [strB_size] at h4 h5
  have e : atrL (a :: r) = (nstL (bs a.k) ++ nstL (bs a.v)) ++ atrL r := by unfold atrL; rw [List.flatMap_cons]
  rw [e, List.length_append, List.length_append, List.length_cons, Nat.add_mul, Nat.one_mul]
  omega
def extL (l : List Ext) : List Nat := l.flatMap fun x => numL x.s.toNat ++ numL x.o.toNat ++ numL x.l.toNat
def encL (e : Ent) : List Nat := nstL (bs (strB (headL e))) ++ numL e.size.toNat ++ nstL (bs e.dig) ++ numL e.exts.length ++ extL e.exts
theorem extL_take {l : List Ext} {i : Nat} {x : Ext} (h : l[i]? = some x) : extL (l.take (i + 1)) = extL (l.take i) ++ (numL x.s.toNat ++ numL x.o.toNat ++ numL x.l.toNat) := by
 unfold extL
 rw [List.take_add_one, h, Option.toList_some, List.flatMap_append]
 simp
theorem extL_len {l : List Ext} (h : ∀ x ∈ l, extB x = true) : (extL l).length ≤ l.length * 63 := by
 induction l with
 | nil => simp [extL]
 | cons a r ih =>
  have h1 := ih fun x hx => h x (List.mem_cons_of_mem _ hx)
  have h2 := of_decide_eq_true (h a List.mem_cons_self)
  have h3 := numL_len a.s.toNat (by omega)
  have h4 := numL_len a.o.toNat (by omega)
  have h5 := numL_len a.l.toNat (by omega)
  rw [strB_size] at h3 h4 h5
  have e : extL (a :: r) = (numL a.s.toNat ++ numL a.o.toNat ++ numL a.l.toNat) ++ extL r := by unfold extL; rw [List.flatMap_cons]
  rw [e, List.length_append, List.length_append, List.length_append, List.length_cons, Nat.add_mul, Nat.one_mul]
  omega
def rotI (x a b : Int) : Int := bits .or .u32 (x / a) (x * b % 4294967296)
def u32V (x : Int) : Value := .int .u32 x
def getW (V : List Int) (i : Nat) : Int := (V[i]?).getD 0
theorem Blk.drewW {W : World} {g : Nat} {t : TypeId} {us : List Value} (h : Blk W g t us) : Blk W.drew g t us := h
theorem Blk.word {W : World} {g : Nat} {t : TypeId} {V : List Int} (h : Blk W g t (V.map u32V)) {i : Nat} (hi : i < V.length) : W.cell? ⟨g, i, none⟩ = some (.int .u32 (getW V i)) := by
 rw [h.cell (i := i) (u := .int .u32 (getW V i))]
 rw [List.getElem?_map, List.getElem?_eq_getElem hi, getW, List.getElem?_eq_getElem hi]
 rfl
theorem Blk.store {W : World} {g : Nat} {t : TypeId} {V : List Int} (h : Blk W g t (V.map u32V)) {i : Nat} {z : Int} (_ : i < V.length) : Blk (W.setCell ⟨g, i, none⟩ (.int .u32 z)) g t ((V.set i z).map u32V) := by
 have := h.set i (.int .u32 z)
 rwa [show (V.map u32V).set i (.int .u32 z) = (V.set i z).map u32V by rw [List.map_set]; rfl] at this
def mixW (V0 : List Int) (a b c d : Nat) (x y : Int) : List Int :=
 let V1 := V0.set a (((getW V0 a + getW V0 b) % 4294967296 + x) % 4294967296)
 let V2 := V1.set d (rotI (bits .xor .u32 (getW V1 d) (getW V1 a)) 65536 65536)
 let V3 := V2.set c ((getW V2 c + getW V2 d) % 4294967296)
 let V4 := V3.set b (rotI (bits .xor .u32 (getW V3 b) (getW V3 c)) 4096 1048576)
 let V5 := V4.set a (((getW V4 a + getW V4 b) % 4294967296 + y) % 4294967296)
 let V6 := V5.set d (rotI (bits .xor .u32 (getW V5 d) (getW V5 a)) 256 16777216)
 let V7 := V6.set c ((getW V6 c + getW V6 d) % 4294967296)
 let V8 := V7.set b (rotI (bits .xor .u32 (getW V7 b) (getW V7 c)) 128 33554432)
 V8
theorem mixW_eq {V0 V1 V2 V3 V4 V5 V6 V7 V8 : List Int} {a b c d : Nat} {x y : Int} (e1 : V0.set a (((getW V0 a + getW V0 b) % 4294967296 + x) % 4294967296) = V1) (e2 : V1.set d (rotI (bits .xor .u32 (getW V1 d) (getW V1 a)) 65536 65536) = V2) (e3 : V2.set c ((getW V2 c + getW V2 d) % 4294967296) = V3) (e4 : V3.set b (rotI (bits .xor .u32 (getW V3 b) (getW V3 c)) 4096 1048576) = V4) (e5 : V4.set a (((getW V4 a + getW V4 b) % 4294967296 + y) % 4294967296) = V5) (e6 : V5.set d (rotI (bits .xor .u32 (getW V5 d) (getW V5 a)) 256 16777216) = V6) (e7 : V6.set c ((getW V6 c + getW V6 d) % 4294967296) = V7) (e8 : V7.set b (rotI (bits .xor .u32 (getW V7 b) (getW V7 c)) 128 33554432) = V8) : mixW V0 a b c d x y = V8 := by
 subst e1 e2 e3 e4 e5 e6 e7 e8
 rfl
theorem mixW_len {V : List Int} {a b c d : Nat} {x y : Int} : (mixW V a b c d x y).length = V.length := by
 simp [mixW]
def colW (k : Nat) : List Nat := if k < 4 then [k, k + 4, k + 8, k + 12] else [k - 4, 4 + (k - 3) % 4, 8 + (k - 2) % 4, 12 + (k - 1) % 4]
def permB : Nat → ByteArray
 | 0 => ⟨#[48, 49, 50, 51, 52, 53, 54, 55, 56, 57, 97, 98, 99, 100, 101, 102]⟩
 | 1 => ⟨#[101, 97, 52, 56, 57, 102, 100, 54, 49, 99, 48, 50, 98, 55, 53, 51]⟩
 | 2 => ⟨#[98, 56, 99, 48, 53, 50, 102, 100, 97, 101, 51, 54, 55, 49, 57, 52]⟩
 | 3 => ⟨#[55, 57, 51, 49, 100, 99, 98, 101, 50, 54, 53, 97, 52, 48, 102, 56]⟩
 | 4 => ⟨#[57, 48, 53, 55, 50, 52, 97, 102, 101, 49, 98, 99, 54, 56, 51, 100]⟩
 | 5 => ⟨#[50, 99, 54, 97, 48, 98, 56, 51, 52, 100, 55, 53, 102, 101, 49, 57]⟩
 | 6 => ⟨#[99, 53, 49, 102, 101, 100, 52, 97, 48, 55, 54, 51, 57, 50, 56, 98]⟩
 | 7 => ⟨#[100, 98, 55, 101, 99, 49, 51, 57, 53, 48, 102, 52, 56, 54, 50, 97]⟩
 | 8 => ⟨#[54, 102, 101, 57, 98, 51, 48, 56, 99, 50, 100, 55, 49, 52, 97, 53]⟩
 | _ => ⟨#[97, 50, 56, 52, 55, 54, 49, 53, 102, 98, 57, 101, 51, 99, 100, 48]⟩
def initW : List Int := [1779033703, 3144134277, 1013904242, 2773480762, 1359893119, 2600822924, 528734635, 1541459225]
theorem decD : ∀ u : Nat, (Lib.decDigits u).map (·.toNat) = digD u := by
 intro u
 induction u using Nat.strongRecOn with
 | _ u ih =>
  by_cases h : u < 10
  ·rw [Lib.decDigits_one h, digD_small h]
   show [(UInt8.ofNat (48 + u)).toNat] = _
   rw [UInt8.toNat_ofNat', Nat.mod_eq_of_lt (by omega)]
  ·rw [Lib.decDigits, dif_neg h, digD_great h, List.map_append, ih (u / 10) (by omega), digD_small (u := u % 10) (by omega)]
   show _ ++ [(UInt8.ofNat (48 + u % 10)).toNat] = _
   rw [UInt8.toNat_ofNat', Nat.mod_eq_of_lt (by omega)]
theorem itoaB (n : Nat) : (⟨(Lib.itoa (n : Int)).toArray⟩ : ByteArray) = strB (digD n) := by
 rw [← strB_bs ⟨(Lib.itoa (n : Int)).toArray⟩, Lib.itoa_nonneg, ← decD]
 rfl
def natL (l : List UInt8) : List Nat := l.map (·.toNat)
theorem index_cons (b : UInt8) (l : List UInt8) : Lib.index (b :: l) [47] = if b = 47 then 0 else if Lib.index l [47] = -1 then -1 else Lib.index l [47] + 1 := by
 rw [Lib.index]
 by_cases h : b = 47
 ·subst h
  simp [List.isPrefixOf]
 ·have hp : ([47] : List UInt8).isPrefixOf (b :: l) = false := by simp [List.isPrefixOf, Ne.symm h]
  rw [hp, if_neg h]
  by_cases hm : Lib.index l [47] = -1
  ·rw [if_pos hm, hm]; rfl
  ·rw [if_neg hm]
   simp [hm]
theorem splits_key : ∀ l : List UInt8, ∃ h r, Lib.splitK [47] 0 (Lib.count l [47]) l = h :: r ∧ ∀ p, splitG p (natL l) = (p ++ natL h) :: r.map natL
 | [] => ⟨[], [], by rw [Lib.count_miss (by simp [Lib.index])]; rfl, fun p => by simp [natL, splitG]⟩
 | b :: t => by
  obtain ⟨h, r, h1, h2⟩ := splits_key t
  by_cases hb : b = 47
  ·subst hb
   refine ⟨[], h :: r, ?_, fun p => ?_⟩
   ·rw [Lib.count_cons_eq, Nat.add_comm, Lib.splitK, index_cons, if_pos rfl, if_neg (by decide)]
    simp only [Int.toNat_zero, Nat.add_zero, List.take_zero, List.length_cons, List.length_nil, Nat.zero_add, List.drop_succ_cons, List.drop_zero]
    rw [h1]
   ·show splitG p (47 :: natL t) = _
    rw [splitG, if_pos rfl, h2 []]
    simp [natL]
  ·have hn : ¬ b.toNat = 47 := fun e => hb (by rw [← UInt8.toNat_inj, e]; rfl)
   have hg : ∀ p, splitG p (natL (b :: t)) = (p ++ natL (b :: h)) :: r.map natL := fun p => by
    show splitG p (b.toNat :: natL t) = _
    rw [splitG, if_neg hn, h2 (p ++ [b.toNat])]
    simp [natL]
   rw [Lib.count_cons_ne b 47 t hb]
   refine ⟨b :: h, r, ?_, hg⟩
   cases hk : Lib.count t [47] with
   | zero =>
    rw [hk] at h1
    rw [Lib.splitK] at h1
    obtain ⟨rfl, rfl⟩ := List.cons.inj h1
    rfl
   | succ k =>
    rw [hk] at h1
    have hm : Lib.index t [47] ≠ -1 := fun e => by rw [Lib.count_miss e] at hk; cases hk
    have hge := Lib.index_ge t [47]
    obtain ⟨j, hj⟩ : ∃ j : Nat, Lib.index t [47] = j := ⟨(Lib.index t [47]).toNat, by omega⟩
    have ej : ¬ ((j : Int) == -1) = true := fun e => by have := beq_iff_eq.1 e; omega
    have ej1 : ¬ (((j : Int) + 1) == -1) = true := fun e => by have := beq_iff_eq.1 e; omega
    have ej2 : ¬ (j : Int) = -1 := by omega
    rw [Lib.splitK, hj, if_neg ej] at h1
    rw [Lib.splitK, index_cons, if_neg hb, hj, if_neg ej2, if_neg ej1]
    obtain ⟨e1, e2⟩ := List.cons.inj h1
    rw [← e1, ← e2, show ((j : Int) + 1).toNat = j + 1 by omega, Int.toNat_natCast]
    rfl
theorem splits_elems (s : ByteArray) : Lib.splitB ⟨#[47]⟩ 0 (Lib.countB s ⟨#[47]⟩) s = (splitG [] (bs s)).map strB := by
 obtain ⟨h, r, h1, h2⟩ := splits_key s.data.toList
 have e1 := Lib.splitB_data ⟨#[47]⟩ 0 (Lib.countB s ⟨#[47]⟩) s
 have e2 : (Lib.splitB ⟨#[47]⟩ 0 (Lib.countB s ⟨#[47]⟩) s).map (·.data.toList) = h :: r := e1.trans h1
 have e3 : splitG [] (bs s) = (h :: r).map natL := by
  rw [show bs s = natL s.data.toList from rfl, h2 []]
  rfl
 rw [e3, ← e2, List.map_map, List.map_map]
 have : ∀ L : List ByteArray, L.map ((strB ∘ natL) ∘ fun x => x.data.toList) = L := fun L => by
  induction L with
  | nil => rfl
  | cons x r ih => rw [List.map_cons, ih]; exact congrArg (· :: r) (strB_bs x)
 exact (this _).symm
theorem idx_none {s : ByteArray} {p : Nat → Bool} (h : ∀ b ∈ bs s, b < 128 ∧ p b = false) : ∀ (f pos : Nat), Lib.idxFuncFrom p true s f pos = -1
 | 0, _ => rfl
 | f + 1, pos => by
  unfold Lib.idxFuncFrom
  by_cases hp : pos < s.size
  ·have hb := h _ (List.mem_of_getElem? (bs_get s pos hp))
   rw [if_pos hp, decode_ascii s pos hp hb.1]
   dsimp only
   rw [hb.2, if_neg (by decide)]
   exact idx_none h f (pos + 1)
  ·rw [if_neg hp]
end
end Go.Proofs.YthkjphebhafgoaaGreatDoor
