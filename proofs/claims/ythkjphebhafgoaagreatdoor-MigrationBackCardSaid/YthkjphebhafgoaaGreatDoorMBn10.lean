/-
  Joined: VoZ VpG.
-/
import Derived.Test.YthkjphebhafgoaaGreatDoorMBn07
import Derived.Test.YthkjphebhafgoaaGreatDoorMBn09
set_option linter.all false
set_option maxRecDepth 100000
set_option maxHeartbeats 64000000
namespace Go.Proofs.YthkjphebhafgoaaGreatDoor
section
open Go.RowKit
theorem ofInt_wrap32 (c : BitVec 32) : BitVec.ofInt 32 (IntKind.u32.wrap (c.toNat : Int)) = c := by
 have h : IntKind.u32.wrap (c.toNat : Int) = (c.toNat : Int) := by
  have := c.isLt
  rw [IntKind.wrap_u32]
  omega
 rw [h, BitVec.ofInt_natCast, BitVec.ofNat_toNat]
 simp
theorem xor_assoc32 (a b c : Int) : bits .xor .u32 (bits .xor .u32 a b) c = bits .xor .u32 a (bits .xor .u32 b c) := by
 simp only [bits]
 show IntKind.u32.wrap ((BitVec.ofInt 32 (IntKind.u32.wrap ((BitVec.ofInt 32 a ^^^ BitVec.ofInt 32 b).toNat : Int)) ^^^ BitVec.ofInt 32 c).toNat : Int) = IntKind.u32.wrap ((BitVec.ofInt 32 a ^^^ BitVec.ofInt 32 (IntKind.u32.wrap ((BitVec.ofInt 32 b ^^^ BitVec.ofInt 32 c).toNat : Int))).toNat : Int)
 rw [ofInt_wrap32, ofInt_wrap32, BitVec.xor_assoc]
theorem or_comm32 (a b : Int) : bits .or .u32 a b = bits .or .u32 b a := by
 simp only [bits]
 show IntKind.u32.wrap ((BitVec.ofInt 32 a ||| BitVec.ofInt 32 b).toNat : Int) = IntKind.u32.wrap ((BitVec.ofInt 32 b ||| BitVec.ofInt 32 a).toNat : Int)
 rw [BitVec.or_comm]
def hexN (c : Nat) : Nat := if 97 ≤ c then c - 87 else c - 48
def sigN (r j : Nat) : Nat := hexN ((bs (permB r)).getD j 0)
theorem sigN_lt : ∀ r, r < 10 → ∀ j, j < 16 → sigN r j < 16 := by decide
def stepW (M V : List Int) (r k : Nat) : List Int := mixW V ((colW k).getD 0 0) ((colW k).getD 1 0) ((colW k).getD 2 0) ((colW k).getD 3 0) (getW M (sigN r (2 * k))) (getW M (sigN r (2 * k + 1)))
def rndW (M V : List Int) : Nat → List Int
 | 0 => V
 | j + 1 => stepW M (rndW M V j) (j / 8) (j % 8)
theorem rndW_len (M V : List Int) (j : Nat) : (rndW M V j).length = V.length := by
 induction j with
 | zero => rfl
 | succ j ih => rw [rndW, stepW, mixW_len, ih]
theorem rndW_step {M V : List Int} {r k : Nat} (hk : k < 8) : rndW M V (8 * r + k + 1) = stepW M (rndW M V (8 * r + k)) r k := by
 rw [rndW, show (8 * r + k) / 8 = r by omega, show (8 * r + k) % 8 = k by omega]
def plc (b : Nat) (j : Nat) : Int := (b : Int) * 256 ^ j
def wrdW (l : List Nat) (i : Nat) : Int := bits .or .u32 (bits .or .u32 (bits .or .u32 (plc (l.getD (4 * i) 0) 0) (plc (l.getD (4 * i + 1) 0) 1)) (plc (l.getD (4 * i + 2) 0) 2)) (plc (l.getD (4 * i + 3) 0) 3)
def msgW (l : List Nat) : List Int := (List.range 16).map (wrdW l)
theorem msgW_len (l : List Nat) : (msgW l).length = 16 := by simp [msgW]
theorem getW_set {V : List Int} {i j : Nat} {z : Int} (hi : i < V.length) : getW (V.set i z) j = if i = j then z else getW V j := by
 unfold getW
 rw [List.getElem?_set]
 by_cases h : i = j
 ·subst h
  simp [hi]
 ·simp [h]
theorem ext_getW {A B : List Int} (h : A.length = B.length) (he : ∀ i, i < A.length → getW A i = getW B i) : A = B := by
 apply List.ext_getElem h
 intro i h1 h2
 have := he i h1
 unfold getW at this
 rw [List.getElem?_eq_getElem h1, List.getElem?_eq_getElem h2] at this
 exact this
def flipW (last : Bool) (V : List Int) : List Int := if last then V.set 14 (bits .xor .u32 IntKind.u32.max (getW V 14)) else V
def headW (H : List Int) (cnt : Nat) (last : Bool) : List Int :=
 let V0 := H ++ initW
 let V1 := V0.set 12 (bits .xor .u32 (getW V0 12) ((cnt : Int) % 4294967296))
 let V2 := V1.set 13 (bits .xor .u32 (getW V1 13) ((cnt : Int) / 4294967296))
 flipW last V2
theorem headW_len {H : List Int} (h : H.length = 8) (cnt : Nat) (last : Bool) : (headW H cnt last).length = 16 := by
 simp only [headW, flipW]
 split <;> simp [initW, h]
def outW (H V : List Int) : List Int := (List.range 8).map fun i => bits .xor .u32 (bits .xor .u32 (getW H i) (getW V i)) (getW V (i + 8))
theorem outW_len (H V : List Int) : (outW H V).length = 8 := by simp [outW]
def comW (H : List Int) (l : List Nat) (cnt : Nat) (last : Bool) : List Int := outW H (rndW (msgW l) (headW H cnt last) 80)
theorem comW_len (H : List Int) (l : List Nat) (cnt : Nat) (last : Bool) : (comW H l cnt last).length = 8 := outW_len _ _
def orunW (H V : List Int) : Nat → List Int
 | 0 => H
 | i + 1 => (orunW H V i).set i (bits .xor .u32 (bits .xor .u32 (getW (orunW H V i) i) (getW V i)) (getW V (i + 8)))
theorem orunW_len {H V : List Int} (i : Nat) : (orunW H V i).length = H.length := by
 induction i with
 | zero => rfl
 | succ i ih => rw [orunW, List.length_set, ih]
theorem orunW_get {H V : List Int} (hH : H.length = 8) : ∀ q, q ≤ 8 → ∀ i, i < 8 → getW (orunW H V q) i = if i < q then bits .xor .u32 (bits .xor .u32 (getW H i) (getW V i)) (getW V (i + 8)) else getW H i := by
 intro q
 induction q with
 | zero => intro _ i hi; rw [if_neg (by omega)]; rfl
 | succ q ih =>
  intro hq i hi
  have h0 := ih (by omega) q (by omega)
  have h1 := ih (by omega) i hi
  rw [if_neg (Nat.lt_irrefl _)] at h0
  rw [orunW, getW_set (by rw [orunW_len]; omega), h0, h1]
  by_cases h : q = i
  ·subst h
   rw [if_pos rfl, if_pos (by omega)]
  ·rw [if_neg h]
   by_cases h2 : i < q
   ·rw [if_pos h2, if_pos (by omega)]
   ·rw [if_neg h2, if_neg (by omega)]
theorem outW_get (H V : List Int) {i : Nat} (hi : i < 8) : getW (outW H V) i = bits .xor .u32 (bits .xor .u32 (getW H i) (getW V i)) (getW V (i + 8)) := by
 unfold getW outW
 rw [List.getElem?_map, List.getElem?_range hi]
 rfl
theorem orunW_all {H V : List Int} (hH : H.length = 8) : orunW H V 8 = outW H V := by
 refine ext_getW (by rw [orunW_len, outW_len, hH]) fun i hi => ?_
 rw [orunW_len, hH] at hi
 rw [orunW_get hH 8 (Nat.le_refl _) i hi, if_pos hi, outW_get H V hi]
def zerosN (n : Nat) : List Nat := List.replicate n 0
def hashW (s : List Nat) : Nat → List Int
 | 0 => initW.set 0 (bits .xor .u32 (getW initW 0) 16842784)
 | k + 1 => comW (hashW s k) ((s.drop (64 * k)).take 64) (64 * (k + 1)) false
theorem hashW_len (s : List Nat) (k : Nat) : (hashW s k).length = 8 := by
 cases k with
 | zero => rfl
 | succ k => rw [hashW]; exact comW_len _ _ _ _
def blkN (n : Nat) : Nat := (n - 1) / 64
def lastW (s : List Nat) : List Int := comW (hashW s (blkN s.length)) (s.drop (64 * blkN s.length) ++ zerosN (64 - (s.length - 64 * blkN s.length))) s.length true
def byteW (H : List Int) (i : Nat) : Nat := (getW H (i / 4) / 256 ^ (i % 4) % 256).toNat
def digL (s : List Nat) : List Nat := (List.range 32).map (byteW (lastW s))
theorem digL_len (s : List Nat) : (digL s).length = 32 := by simp [digL]
def u8S : Shape Nat where
 n := 1
 R _ cs x := cs = [.int .u8 (x : Int)]
 len h := by rw [h]; rfl
 one h u hu := by rw [h] at hu; rw [List.mem_singleton.1 hu]; rfl
 keep h _ := h
theorem Tryz.elemU8 : Elem Tryz.prog 104 5 1 1 (.int .u8 0) := ⟨Tryz.underlying104, by kernel_rfl, rfl, by decide, by decide⟩
theorem u8S_bytes {w0 W : World} {v : Value} {xs : List Nat} (h : OwnSeq u8S 5 w0 W v xs) : BytesAt W v xs := by
 obtain ⟨css, ho, hb⟩ := h
 have e : css.flatten = xs.map u8V := by
  clear ho
  induction hb with
  | nil => rfl
  | cons h1 _ ih => rw [List.flatten_cons, ih, h1]; rfl
 rw [e] at ho
 exact BytesAt.of_own ho
theorem u32_one (l : List Int) : (l.map u32V).toArray.all (·.oneCell') = true := by
 rw [Array.all_eq_true]
 intro i hi
 simp [u32V, Value.oneCell']
theorem Tryz.sizeV8 {L : List Int} (h : L.length = 8) : (Tryz.prog.info? 169).map (·.size) = some (L.map u32V).toArray.size := by
 rw [show (L.map u32V).toArray.size = 8 by simp [h]]
 kernel_rfl
theorem Blk.keepW {w w' : World} {g : Nat} {t : TypeId} {us : List Value} (h : Blk w g t us) (hb : Below w.heap.size w w') : w'.heap[g]? = some (.cells us.toArray t (0, 0)) := h.kept hb
theorem lastW_len (s : List Nat) : (lastW s).length = 8 := comW_len _ _ _ _
theorem blkN_le {n k : Nat} (h : k ≤ blkN n) : 64 * k ≤ n := by unfold blkN at h; omega
end
end Go.Proofs.YthkjphebhafgoaaGreatDoor
