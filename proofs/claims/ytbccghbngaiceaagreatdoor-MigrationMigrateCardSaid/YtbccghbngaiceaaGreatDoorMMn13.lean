/-
  Joined: VoZ VpG VpB Str1 Shell.
-/
import Derived.Test.YtbccghbngaiceaaGreatDoorMMn05
import Derived.Test.YtbccghbngaiceaaGreatDoorMMn06
set_option linter.all false
set_option maxRecDepth 100000
set_option maxHeartbeats 64000000
namespace Go.Proofs.YtbccghbngaiceaaGreatDoor
section
open Go.RowKit
theorem ofInt_wrap32 (c : BitVec 32) : BitVec.ofInt 32 (IntKind.u32.wrap (c.toNat : Int)) = c := by
 have h : IntKind.u32.wrap (c.toNat : Int) = (c.toNat : Int) := by
  have := c.isLt
  rw [IntKind.wrap_u32]
  omega
 rw [h, BitVec.ofInt_natCast, BitVec.ofNat_toNat]
 simp
theorem xor_assoc32 (a b c : Int) : bits .xor .u32 (bits .xor .u32 a b) c = bits .xor .u32 a (bits .xor .u32 b c) := by
 simp only [bits]
 show IntKind.u32.wrap ((BitVec.ofInt 32 (IntKind.u32.wrap ((BitVec.ofInt 32 a ^^^ BitVec.ofInt 32 b).toNat : Int)) ^^^ BitVec.ofInt 32 c).toNat : Int) = IntKind.u32.wrap ((BitVec.ofInt 32 a ^^^ BitVec.ofInt 32 (IntKind.u32.wrap ((BitVec.ofInt 32 b ^^^ BitVec.ofInt 32 c).toNat : Int))).toNat : Int)
 rw [ofInt_wrap32, ofInt_wrap32, BitVec.xor_assoc]
theorem or_comm32 (a b : Int) : bits .or .u32 a b = bits .or .u32 b a := by
 simp only [bits]
 show IntKind.u32.wrap ((BitVec.ofInt 32 a ||| BitVec.ofInt 32 b).toNat : Int) = IntKind.u32.wrap ((BitVec.ofInt 32 b ||| BitVec.ofInt 32 a).toNat : Int)
 rw [BitVec.or_comm]
theorem or_zero32 {a : Int} (h0 : 0 ≤ a) (h1 : a < 4294967296) : bits .or .u32 0 a = a := by
 simp only [bits]
 show IntKind.u32.wrap ((BitVec.ofInt 32 0 ||| BitVec.ofInt 32 a).toNat : Int) = a
 rw [show BitVec.ofInt 32 0 = 0#32 from rfl, BitVec.zero_or, BitVec.toNat_ofInt, IntKind.wrap_u32]
 omega
def hexN (c : Nat) : Nat := if 97 ≤ c then c - 87 else c - 48
def sigN (r j : Nat) : Nat := hexN ((bs (permB r)).getD j 0)
theorem perm_size (r : Nat) : (permB r).size = 16 := by
 unfold permB
 split <;> rfl
theorem perm_hex : ∀ r, r < 10 → ∀ j, j < 16 → 48 ≤ (bs (permB r)).getD j 0 ∧ (bs (permB r)).getD j 0 ≤ 57 ∨ 97 ≤ (bs (permB r)).getD j 0 ∧ (bs (permB r)).getD j 0 ≤ 102 := by decide
theorem sigN_lt : ∀ r, r < 10 → ∀ j, j < 16 → sigN r j < 16 := by decide
theorem colW_lt : ∀ k, k < 8 → (colW k).getD 0 0 < 16 ∧ (colW k).getD 1 0 < 16 ∧ (colW k).getD 2 0 < 16 ∧ (colW k).getD 3 0 < 16 := by decide
theorem colW_four : ∀ k, k < 8 → colW k = [(colW k).getD 0 0, (colW k).getD 1 0, (colW k).getD 2 0, (colW k).getD 3 0] := by decide
def stepW (M V : List Int) (r k : Nat) : List Int := mixW V ((colW k).getD 0 0) ((colW k).getD 1 0) ((colW k).getD 2 0) ((colW k).getD 3 0) (getW M (sigN r (2 * k))) (getW M (sigN r (2 * k + 1)))
def rndW (M V : List Int) : Nat → List Int
 | 0 => V
 | j + 1 => stepW M (rndW M V j) (j / 8) (j % 8)
theorem rndW_len (M V : List Int) (j : Nat) : (rndW M V j).length = V.length := by
 induction j with
 | zero => rfl
 | succ j ih => rw [rndW, stepW, mixW_len, ih]
theorem rndW_step {M V : List Int} {r k : Nat} (hk : k < 8) : rndW M V (8 * r + k + 1) = stepW M (rndW M V (8 * r + k)) r k := by
 rw [rndW, show (8 * r + k) / 8 = r by omega, show (8 * r + k) % 8 = k by omega]
def plc (b : Nat) (j : Nat) : Int := (b : Int) * 256 ^ j
def wrdW (l : List Nat) (i : Nat) : Int := bits .or .u32 (bits .or .u32 (bits .or .u32 (plc (l.getD (4 * i) 0) 0) (plc (l.getD (4 * i + 1) 0) 1)) (plc (l.getD (4 * i + 2) 0) 2)) (plc (l.getD (4 * i + 3) 0) 3)
def msgW (l : List Nat) : List Int := (List.range 16).map (wrdW l)
theorem msgW_len (l : List Nat) : (msgW l).length = 16 := by simp [msgW]
def mrunW (l : List Nat) : Nat → List Int
 | 0 => List.replicate 16 0
 | i + 1 => (mrunW l i).set (i / 4) (bits .or .u32 (getW (mrunW l i) (i / 4)) (plc (l.getD i 0) (i % 4)))
theorem mrunW_len (l : List Nat) (i : Nat) : (mrunW l i).length = 16 := by
 induction i with
 | zero => rfl
 | succ i ih => rw [mrunW, List.length_set, ih]
theorem getW_set {V : List Int} {i j : Nat} {z : Int} (hi : i < V.length) : getW (V.set i z) j = if i = j then z else getW V j := by
 unfold getW
 rw [List.getElem?_set]
 by_cases h : i = j
 ·subst h
  simp [hi]
 ·simp [h]
theorem mrunW_words (l : List Nat) (hl : ∀ x ∈ l, x < 256) : ∀ q, q ≤ 16 → ∀ i, i < 16 → getW (mrunW l (4 * q)) i = if i < q then wrdW l i else 0 := by
 intro q
 induction q with
 | zero =>
  intro _ i hi
  rw [if_neg (by omega)]
  show getW (List.replicate 16 0) i = 0
  rw [getW, List.getElem?_replicate, if_pos hi]
  rfl
 | succ q ih =>
  intro hq i hi
  have h0 := ih (by omega) i hi
  have hb : (0 : Int) ≤ plc (l.getD (4 * q) 0) 0 ∧ plc (l.getD (4 * q) 0) 0 < 4294967296 := by
   unfold plc
   have : l.getD (4 * q) 0 < 256 := by
    rw [List.getD_eq_getElem?_getD]
    cases e : l[4 * q]? with
    | none => simp
    | some x => simpa using hl x (List.mem_of_getElem? e)
   omega
  have hz := ih (by omega) q (by omega)
  rw [if_neg (by omega)] at hz
  have e1 : mrunW l (4 * q + 1) = (mrunW l (4 * q)).set q (plc (l.getD (4 * q) 0) 0) := by
   rw [mrunW, show 4 * q / 4 = q by omega, show 4 * q % 4 = 0 by omega, hz, or_zero32 hb.1 hb.2]
  have e2 : mrunW l (4 * q + 2) = (mrunW l (4 * q)).set q (bits .or .u32 (plc (l.getD (4 * q) 0) 0) (plc (l.getD (4 * q + 1) 0) 1)) := by
   rw [show 4 * q + 2 = 4 * q + 1 + 1 by omega, mrunW, e1, show (4 * q + 1) / 4 = q by omega, show (4 * q + 1) % 4 = 1 by omega, getW_set (by rw [mrunW_len]; omega), if_pos rfl, List.set_set]
  have e3 : mrunW l (4 * q + 3) = (mrunW l (4 * q)).set q (bits .or .u32 (bits .or .u32 (plc (l.getD (4 * q) 0) 0) (plc (l.getD (4 * q + 1) 0) 1)) (plc (l.getD (4 * q + 2) 0) 2)) := by
   rw [show 4 * q + 3 = 4 * q + 2 + 1 by omega, mrunW, e2, show (4 * q + 2) / 4 = q by omega, show (4 * q + 2) % 4 = 2 by omega, getW_set (by rw [mrunW_len]; omega), if_pos rfl, List.set_set]
  have e4 : mrunW l (4 * (q + 1)) = (mrunW l (4 * q)).set q (wrdW l q) := by
   rw [show 4 * (q + 1) = 4 * q + 3 + 1 by omega, mrunW, e3, show (4 * q + 3) / 4 = q by omega, show (4 * q + 3) % 4 = 3 by omega, getW_set (by rw [mrunW_len]; omega), if_pos rfl, List.set_set]
   rfl
  rw [e4, getW_set (by rw [mrunW_len]; omega)]
  by_cases h : q = i
  ·subst h
   rw [if_pos rfl, if_pos (by omega)]
  ·rw [if_neg h, h0]
   by_cases h2 : i < q
   ·rw [if_pos h2, if_pos (by omega)]
   ·rw [if_neg h2, if_neg (by omega)]
theorem ext_getW {A B : List Int} (h : A.length = B.length) (he : ∀ i, i < A.length → getW A i = getW B i) : A = B := by
 apply List.ext_getElem h
 intro i h1 h2
 have := he i h1
 unfold getW at this
 rw [List.getElem?_eq_getElem h1, List.getElem?_eq_getElem h2] at this
 exact this
theorem mrunW_all {l : List Nat} (hl : ∀ x ∈ l, x < 256) : mrunW l 64 = msgW l := by
 refine ext_getW (by rw [mrunW_len, msgW_len]) fun i hi => ?_
 rw [mrunW_len] at hi
 rw [show 64 = 4 * 16 from rfl, mrunW_words l hl 16 (Nat.le_refl _) i hi, if_pos hi, getW, msgW, List.getElem?_map, List.getElem?_range hi]
 rfl
def flipW (last : Bool) (V : List Int) : List Int := if last then V.set 14 (bits .xor .u32 IntKind.u32.max (getW V 14)) else V
def headW (H : List Int) (cnt : Nat) (last : Bool) : List Int :=
 let V0 := H ++ initW
 let V1 := V0.set 12 (bits .xor .u32 (getW V0 12) ((cnt : Int) % 4294967296))
 let V2 := V1.set 13 (bits .xor .u32 (getW V1 13) ((cnt : Int) / 4294967296))
 flipW last V2
theorem headW_len {H : List Int} (h : H.length = 8) (cnt : Nat) (last : Bool) : (headW H cnt last).length = 16 := by
 simp only [headW, flipW]
 split <;> simp [initW, h]
def outW (H V : List Int) : List Int := (List.range 8).map fun i => bits .xor .u32 (bits .xor .u32 (getW H i) (getW V i)) (getW V (i + 8))
theorem outW_len (H V : List Int) : (outW H V).length = 8 := by simp [outW]
def comW (H : List Int) (l : List Nat) (cnt : Nat) (last : Bool) : List Int := outW H (rndW (msgW l) (headW H cnt last) 80)
theorem comW_len (H : List Int) (l : List Nat) (cnt : Nat) (last : Bool) : (comW H l cnt last).length = 8 := outW_len _ _
def orunW (H V : List Int) : Nat → List Int
 | 0 => H
 | i + 1 => (orunW H V i).set i (bits .xor .u32 (bits .xor .u32 (getW (orunW H V i) i) (getW V i)) (getW V (i + 8)))
theorem orunW_len {H V : List Int} (i : Nat) : (orunW H V i).length = H.length := by
 induction i with
 | zero => rfl
 | succ i ih => rw [orunW, List.length_set, ih]
theorem orunW_get {H V : List Int} (hH : H.length = 8) : ∀ q, q ≤ 8 → ∀ i, i < 8 → getW (orunW H V q) i = if i < q then bits .xor .u32 (bits .xor .u32 (getW H i) (getW V i)) (getW V (i + 8)) else getW H i := by
 intro q
 induction q with
 | zero => intro _ i hi; rw [if_neg (by omega)]; rfl
 | succ q ih =>
  intro hq i hi
  have h0 := ih (by omega) q (by omega)
  have h1 := ih (by omega) i hi
  rw [if_neg (Nat.lt_irrefl _)] at h0
  rw [orunW, getW_set (by rw [orunW_len]; omega), h0, h1]
  by_cases h : q = i
  ·subst h
   rw [if_pos rfl, if_pos (by omega)]
  ·rw [if_neg h]
   by_cases h2 : i < q
   ·rw [if_pos h2, if_pos (by omega)]
   ·rw [if_neg h2, if_neg (by omega)]
theorem outW_get (H V : List Int) {i : Nat} (hi : i < 8) : getW (outW H V) i = bits .xor .u32 (bits .xor .u32 (getW H i) (getW V i)) (getW V (i + 8)) := by
 unfold getW outW
 rw [List.getElem?_map, List.getElem?_range hi]
 rfl
theorem orunW_all {H V : List Int} (hH : H.length = 8) : orunW H V 8 = outW H V := by
 refine ext_getW (by rw [orunW_len, outW_len, hH]) fun i hi => ?_
 rw [orunW_len, hH] at hi
 rw [orunW_get hH 8 (Nat.le_refl _) i hi, if_pos hi, outW_get H V hi]
def vrunW (H : List Int) : Nat → List Int
 | 0 => List.replicate 16 0
 | i + 1 => ((vrunW H i).set i (getW H i)).set (i + 8) (getW initW i)
theorem vrunW_len {H : List Int} (i : Nat) : (vrunW H i).length = 16 := by
 induction i with
 | zero => rfl
 | succ i ih => rw [vrunW, List.length_set, List.length_set, ih]
theorem vrunW_all {H : List Int} (hH : H.length = 8) : vrunW H 8 = H ++ initW := by
 match H, hH with
 | [a, b, c, d, e, f, g, h], _ => rfl
def zerosN (n : Nat) : List Nat := List.replicate n 0
def hashW (s : List Nat) : Nat → List Int
 | 0 => initW.set 0 (bits .xor .u32 (getW initW 0) 16842784)
 | k + 1 => comW (hashW s k) ((s.drop (64 * k)).take 64) (64 * (k + 1)) false
theorem hashW_len (s : List Nat) (k : Nat) : (hashW s k).length = 8 := by
 cases k with
 | zero => rfl
 | succ k => rw [hashW]; exact comW_len _ _ _ _
def blkN (n : Nat) : Nat := (n - 1) / 64
def lastW (s : List Nat) : List Int := comW (hashW s (blkN s.length)) (s.drop (64 * blkN s.length) ++ zerosN (64 - (s.length - 64 * blkN s.length))) s.length true
def byteW (H : List Int) (i : Nat) : Nat := (getW H (i / 4) / 256 ^ (i % 4) % 256).toNat
def digL (s : List Nat) : List Nat := (List.range 32).map (byteW (lastW s))
theorem digL_len (s : List Nat) : (digL s).length = 32 := by simp [digL]
def CompSpec : Prop := ∀ (w : World) (H : List Int) (s : ByteArray) (cnt : Nat) (last : Bool), H.length = 8 → s.size = 64 → cnt < 18446744073709551616 →
 Calls Tryz.prog 129 #[.agg (H.map u32V).toArray, .string s, .int .u64 (cnt : Int), .bool last] w fun e w' => e = .returned (.tuple #[.agg ((comW H (bs s) cnt last).map u32V).toArray, .int .i64 0]) ∧ Below w.heap.size w w'
theorem init_lit (w : World) : Calls Tryz.prog 128 #[] w fun e w' => e = .returned (.agg #[.int .u32 1779033703, .int .u32 3144134277, .int .u32 1013904242, .int .u32 2773480762, .int .u32 1359893119, .int .u32 2600822924, .int .u32 528734635, .int .u32 1541459225]) ∧ Below w.heap.size w w' := init_any w
def u8S : Shape Nat where
 n := 1
 R _ cs x := cs = [.int .u8 (x : Int)]
 len h := by rw [h]; rfl
 one h u hu := by rw [h] at hu; rw [List.mem_singleton.1 hu]; rfl
 keep h _ := h
theorem Tryz.elemU8 : Elem Tryz.prog 110 5 1 1 (.int .u8 0) := ⟨Tryz.underlying110, by kernel_rfl, rfl, by decide, by decide⟩
theorem u8S_bytes {w0 W : World} {v : Value} {xs : List Nat} (h : OwnSeq u8S 5 w0 W v xs) : BytesAt W v xs := by
 obtain ⟨css, ho, hb⟩ := h
 have e : css.flatten = xs.map u8V := by
  clear ho
  induction hb with
  | nil => rfl
  | cons h1 _ ih => rw [List.flatten_cons, ih, h1]; rfl
 rw [e] at ho
 exact BytesAt.of_own ho
theorem u32_one (l : List Int) : (l.map u32V).toArray.all (·.oneCell') = true := by
 rw [Array.all_eq_true]
 intro i hi
 simp [u32V, Value.oneCell']
theorem Tryz.sizeV8 {L : List Int} (h : L.length = 8) : (Tryz.prog.info? 176).map (·.size) = some (L.map u32V).toArray.size := by
 rw [show (L.map u32V).toArray.size = 8 by simp [h]]
 kernel_rfl
theorem Blk.keepW {w w' : World} {g : Nat} {t : TypeId} {us : List Value} (h : Blk w g t us) (hb : Below w.heap.size w w') : w'.heap[g]? = some (.cells us.toArray t (0, 0)) := h.kept hb
theorem lastW_len (s : List Nat) : (lastW s).length = 8 := comW_len _ _ _ _
def digM (n : Nat) (cn d : Value) : Nat := match d with
 | .bool true => 0
 | _ => n + 1 - (intOf cn).toNat
def DigSt (w wr : World) (g : Nat) (s : ByteArray) (cnt d : Value) : Prop := Below w.heap.size w wr ∧
 ((∃ k c : Nat, k ≤ blkN s.size ∧ c = 64 * k ∧ cnt = .int .i64 (c : Int) ∧ d = .bool false ∧ Blk wr g 176 ((hashW (bs s) k).map u32V)) ∨
  (cnt = .int .i64 (s.size : Int) ∧ d = .bool true ∧ Blk wr g 176 ((lastW (bs s)).map u32V)))
theorem blkN_le {n k : Nat} (h : k ≤ blkN n) : 64 * k ≤ n := by unfold blkN at h; omega
def padded (X Y : ByteArray) (j : Nat) : Prop := bs Y = bs X ++ zerosN j ∧ Y.size = X.size + j
theorem padded_more {X Y : ByteArray} {j : Nat} (h : padded X Y j) : padded X (Y ++ ⟨#[0]⟩) (j + 1) := by
 refine ⟨?_, ?_⟩
 ·have e : bs (Y ++ ⟨#[0]⟩) = bs Y ++ [0] := by
   unfold bs
   rw [ByteArray.data_append, Array.toList_append, List.map_append]
   rfl
  rw [e, h.1, List.append_assoc]
  unfold zerosN
  rw [List.replicate_succ']
 ·rw [ByteArray.size_append, h.2]
  show X.size + j + 1 = X.size + (j + 1)
  omega
theorem digest_any (HC : CompSpec) (w : World) (s : ByteArray) (hs : s.size ≤ 1000000000) : Calls Tryz.prog 63 #[.string s] w fun e w' => e = .returned (.string (strB (digL (bs s)))) ∧ Below w.heap.size w w' := by
 have HC := Lib.hid HC
 have HI := Lib.hid (fun W => init_lit W)
 obtain ⟨R, hR⟩ : ∃ R, strB (digL (bs s)) = R := ⟨_, rfl⟩
 rw [hR]
 have HR := Lib.hid hR
 clear hR
 go_enter Tryz.func63, Tryz.ntmps63
 go_wp2_with fail
 refine (HI.out _).mono ?_
 rintro e1 w1 ⟨rfl, hb1⟩
 have HB1 := Lib.hid hb1
 clear hb1
 have HK0 : Hid (Blk (w1.alloc (.cells ((hashW (bs s) 0).map u32V).toArray 176)) w1.heap.size 176 ((hashW (bs s) 0).map u32V)) := Lib.hid (Blk.new _ _ _)
 have HBa := Lib.hid (HB1.out.alloc HB1.out.size (.cells ((hashW (bs s) 0).map u32V).toArray 176))
 have HGe := Lib.hid HB1.out.size
 go_upto_region 3 with fail
 change Code.wp _ _ _ _ (w1.alloc (.cells ((hashW (bs s) 0).map u32V).toArray 176))
 generalize w1.alloc (.cells ((hashW (bs s) 0).map u32V).toArray 176) = wa at *
 generalize w1.heap.size = g at *
 clear HB1
 go_wp2
 go_loopw [4, 5, 6, 7] (fun cn d _ _ wr => DigSt w wr g s cn d) (fun cn d _ _ _ => digM s.size cn d)
 case atStart => exact ⟨HBa.out, .inl ⟨0, 0, Nat.zero_le _, rfl, rfl, rfl, HK0.out⟩⟩
 case round =>
  obtain ⟨hB, hcase⟩ := hrel
  have HB := Lib.hid hB
  clear hB HK0 HBa
  rcases hcase with ⟨k, c, hk, hc, rfl, rfl, hblk⟩ | ⟨rfl, rfl, hblk⟩
  ·have HBk := Lib.hid hblk
   have hcn : c ≤ s.size := by have := blkN_le hk; omega
   have hcb : c = 0 ∨ c < s.size := by
    unfold blkN at hk
    omega
   obtain ⟨m, hm⟩ : ∃ m, s.size - c = m := ⟨_, rfl⟩
   have hmI : (s.size : Int) - c = m := by omega
   have hlen : (bs s).length = s.size := bs_len s
   clear hblk
   obtain ⟨wx, rfl⟩ : ∃ x, x = wr := ⟨_, rfl⟩
   by_cases hbig : 64 < m
   ·have f1 : (64 : Int) < m := by omega
    obtain ⟨e, he⟩ : ∃ e, c + 64 = e := ⟨_, rfl⟩
    have heI : (c : Int) + 64 = e := by omega
    have hce : (c : Int) ≤ e := by omega
    have hes : (e : Int) ≤ s.size := by omega
    obtain ⟨X, hX⟩ : ∃ X, s.extract c e = X := ⟨_, rfl⟩
    have HXz : Hid (X.size = 64) := Lib.hid (by rw [← hX, ByteArray.size_extract]; omega)
    have HXb : Hid (bs X = ((bs s).drop (64 * k)).take 64) := Lib.hid (by rw [← hX, bs_extract, List.drop_take, hc, show e - 64 * k = 64 by omega])
    have HN : Hid (hashW (bs s) (k + 1) = comW (hashW (bs s) k) (bs X) e false) := Lib.hid (by rw [HXb.out, hashW, show 64 * (k + 1) = e by omega])
    have Hk1 : Hid (k + 1 ≤ blkN s.size ∧ e = 64 * (k + 1)) := Lib.hid (by unfold blkN; omega)
    have f2 : ((e : Int) == (s.size : Int)) = false := by rw [beq_eq_false_iff_ne]; omega
    have f3 : (X.size : Int) = 64 := by rw [HXz.out]; rfl
    have hel : e < 18446744073709551616 := by omega
    have hcs : c < s.size := by omega
    have hce2 : c < e := by omega
    clear he hm hk hc hcb
    go_wp2
    go_loopw [7] (fun y wr => ∃ (Y : ByteArray) (j : Nat), y = .string Y ∧ padded X Y j ∧ Y.size ≤ 64 ∧ wx = wr) (fun y _ => match y with | .string Y => 64 - Y.size | _ => 0)
    case atStart => exact ⟨X, 0, rfl, ⟨by simp [zerosN], rfl⟩, by have := HXz.out; omega, rfl⟩
    case round =>
     obtain ⟨Y, j, rfl, hpad, hY64, rfl⟩ := hrel
     have HP := Lib.hid hpad
     clear hpad
     by_cases hy : Y.size < 64
     ·have hyI : (Y.size : Int) < 64 := by omega
      have hcc : ¬ 9223372036854775807 < Y.size + (⟨#[0]⟩ : ByteArray).size := by show ¬ 9223372036854775807 < Y.size + 1; omega
      go_wp2
      go_roundw
      case rel => exact ⟨_, j + 1, rfl, padded_more HP.out, by rw [ByteArray.size_append]; show Y.size + 1 ≤ 64; omega, by first | rfl | trivial⟩
      case measure => show 64 - (Y ++ ⟨#[0]⟩ : ByteArray).size < 64 - Y.size; rw [ByteArray.size_append]; show 64 - (Y.size + 1) < 64 - Y.size; omega
     ·have hyI : ¬ (Y.size : Int) < 64 := by omega
      have HYz : Hid (Y.size = 64) := Lib.hid (by omega)
      have HYb : Hid (bs Y = bs X ++ zerosN (64 - X.size)) := Lib.hid (by rw [HP.out.1]; have := HP.out.2; rw [show j = 64 - X.size by omega])
      clear hy hY64
      go_upto_region 14 with fail
      refine wp_region_lit ?_
      refine wpList_load_row rfl 176 (.tmp 3) rfl g rfl 176 _ (0, 0) _ HBk.out Tryz.underlying176 rfl (Tryz.sizeV8 (hashW_len _ _)) ?_
      go_wp2_with fail
      refine (HC.out wx (hashW (bs s) k) Y e false (hashW_len _ _) HYz.out (by omega)).mono ?_
      rintro e2 w2 ⟨rfl, hb2⟩
      have HK2 := Lib.hid (HBk.out.keepW hb2)
      have HB2 := Lib.hid (HB.out.trans (hb2.mono HB.out.size))
      clear hb2
      go_wp2_with (refine wpList_store_row rfl 176 (.tmp 3) (.tmp 48) rfl g _ rfl rfl 176 _ HK2.out (Tryz.sizeV8 (comW_len _ _ _ _)) (by simp [hashW_len, comW_len]) (u32_one _) ?_)
      go_frame
      go_roundw
      case rel => exact ⟨below_setRow HB2.out HGe.out _, .inl ⟨k + 1, e, Hk1.out.1, Hk1.out.2, rfl, rfl, by rw [HN.out, show bs X = bs Y by rw [HYb.out, HXz.out]; simp [zerosN]]; exact setRow_heap _ _ _ _ _ _ HK2.out⟩⟩
      case measure => simp [digM, intOf] <;> omega
   ·have f1 : ¬ (64 : Int) < m := by omega
    obtain ⟨X, hX⟩ : ∃ X, s.extract c s.size = X := ⟨_, rfl⟩
    have heI : (c : Int) + m = s.size := by omega
    have hce : (c : Int) ≤ s.size := by omega
    have HXz : Hid (X.size = m ∧ m ≤ 64 ∧ m = s.size - 64 * k) := Lib.hid (by rw [← hX, ByteArray.size_extract]; omega)
    have hkb : k = blkN s.size := by unfold blkN at hk ⊢; omega
    have HXb : Hid (bs X = (bs s).drop (64 * k)) := Lib.hid (by rw [← hX, bs_extract, List.take_of_length_le (by omega), hc])
    have HN : Hid (lastW (bs s) = comW (hashW (bs s) k) (bs X ++ zerosN (64 - X.size)) s.size true) := Lib.hid (by rw [HXb.out, HXz.out.1, HXz.out.2.2, lastW, hlen, ← hkb])
    have hel : s.size < 18446744073709551616 := by omega
    clear hm hk hc hcb hkb
    go_wp2
    go_loopw [7] (fun y wr => ∃ (Y : ByteArray) (j : Nat), y = .string Y ∧ padded X Y j ∧ Y.size ≤ 64 ∧ wx = wr) (fun y _ => match y with | .string Y => 64 - Y.size | _ => 0)
    case atStart => exact ⟨X, 0, rfl, ⟨by simp [zerosN], rfl⟩, by have := HXz.out; omega, rfl⟩
    case round =>
     obtain ⟨Y, j, rfl, hpad, hY64, rfl⟩ := hrel
     have HP := Lib.hid hpad
     clear hpad
     by_cases hy : Y.size < 64
     ·have hyI : (Y.size : Int) < 64 := by omega
      have hcc : ¬ 9223372036854775807 < Y.size + (⟨#[0]⟩ : ByteArray).size := by show ¬ 9223372036854775807 < Y.size + 1; omega
      go_wp2
      go_roundw
      case rel => exact ⟨_, j + 1, rfl, padded_more HP.out, by rw [ByteArray.size_append]; show Y.size + 1 ≤ 64; omega, by first | rfl | trivial⟩
      case measure => show 64 - (Y ++ ⟨#[0]⟩ : ByteArray).size < 64 - Y.size; rw [ByteArray.size_append]; show 64 - (Y.size + 1) < 64 - Y.size; omega
     ·have hyI : ¬ (Y.size : Int) < 64 := by omega
      have HYz : Hid (Y.size = 64) := Lib.hid (by omega)
      have HYb : Hid (bs Y = bs X ++ zerosN (64 - X.size)) := Lib.hid (by rw [HP.out.1]; have := HP.out.2; rw [show j = 64 - X.size by omega])
      clear hy hY64
      go_upto_region 14 with fail
      refine wp_region_lit ?_
      refine wpList_load_row rfl 176 (.tmp 3) rfl g rfl 176 _ (0, 0) _ HBk.out Tryz.underlying176 rfl (Tryz.sizeV8 (hashW_len _ _)) ?_
      go_wp2_with fail
      refine (HC.out wx (hashW (bs s) k) Y s.size true (hashW_len _ _) HYz.out (by omega)).mono ?_
      rintro e2 w2 ⟨rfl, hb2⟩
      have HK2 := Lib.hid (HBk.out.keepW hb2)
      have HB2 := Lib.hid (HB.out.trans (hb2.mono HB.out.size))
      clear hb2
      go_wp2_with (refine wpList_store_row rfl 176 (.tmp 3) (.tmp 48) rfl g _ rfl rfl 176 _ HK2.out (Tryz.sizeV8 (comW_len _ _ _ _)) (by simp [hashW_len, comW_len]) (u32_one _) ?_)
      go_frame
      go_roundw
      case rel => exact ⟨below_setRow HB2.out HGe.out _, .inr ⟨rfl, rfl, by rw [HN.out, ← HYb.out]; exact setRow_heap _ _ _ _ _ _ HK2.out⟩⟩
      case measure => simp [digM, intOf] <;> omega
  ·obtain ⟨wy, rfl⟩ : ∃ x, x = wr := ⟨_, rfl⟩
   have HL := Lib.hid hblk
   clear hblk
   go_wp2
   go_loopw [8, 9] (fun y x wr => ∃ i : Nat, i ≤ 32 ∧ x = .int .i64 (i : Int) ∧ OwnSeq u8S 5 wy wr y ((List.range i).map (byteW (lastW (bs s)))) ∧ Below wy.heap.size wy wr) (fun _ x _ => 32 - (intOf x).toNat)
   case atStart => exact ⟨0, by omega, rfl, OwnSeq.nil _, Below.refl _ _⟩
   case round =>
    obtain ⟨i, hi, rfl, ho, hBy⟩ := hrel
    have Ho := Lib.hid ho
    have HBy := Lib.hid hBy
    have HLr := Lib.hid (HL.out.kept hBy)
    have hll := lastW_len (bs s)
    clear ho hBy
    by_cases h : i < 32
    ·have hiI : (i : Int) < 32 := by omega
     obtain ⟨q, hq⟩ : ∃ q, i / 4 = q := ⟨_, rfl⟩
     have hqI : (i : Int) / 4 = q := by omega
     have hq8 : (q : Int) < 8 := by omega
     have cq := HLr.out.word (i := q) (by rw [lastW_len]; omega)
     have HLs : Hid ((List.range (i + 1)).map (byteW (lastW (bs s))) = (List.range i).map (byteW (lastW (bs s))) ++ [byteW (lastW (bs s)) i]) := Lib.hid (by rw [List.range_succ, List.map_append]; rfl)
     have HByt : Hid (((byteW (lastW (bs s)) i : Nat) : Int) = getW (lastW (bs s)) q / 256 ^ (i % 4) % 256) := Lib.hid (by unfold byteW; rw [hq]; omega)
     have Hl1 : Hid (((List.range i).map (byteW (lastW (bs s)))).length + 1 ≤ 100000000) := Lib.hid (by simp; omega)
     generalize getW (lastW (bs s)) q = z at *
     have hr : i % 4 = 0 ∨ i % 4 = 1 ∨ i % 4 = 2 ∨ i % 4 = 3 := by omega
     clear hll hq
     obtain ⟨b, hb⟩ : ∃ b, byteW (lastW (bs s)) i = b := ⟨_, rfl⟩
     rw [hb] at HByt HLs
     clear hb
     rcases hr with hr | hr | hr | hr
     ·have hrI : (i : Int) % 4 = 0 := by omega
      have HBt : Hid (z % 256 = (b : Int)) := Lib.hid (by have := HByt.out; rw [hr] at this; omega)
      clear hr HByt
      go_wp2_with (at_builtin; refine append_seq (w0 := wy) Tryz.elemU8 rfl _ _ rfl rfl (Ho.out.alloc _) rfl (src1 (ρ := u8S) [.int .u8 (z % 256)] b (congrArg (fun z => [Value.int .u8 z]) HBt.out) rfl) Hl1.out (HBy.out.alloc HBy.out.size _) ?_; intro va wa hob _ hbb; have KU := Lib.hid hob; have KB := Lib.hid hbb; clear hob hbb)
      go_roundw
      case rel => exact ⟨i + 1, by omega, by go_num, by rw [HLs.out]; exact KU.out, KB.out⟩
      case measure => simp [intOf]; omega
     ·have hrI : (i : Int) % 4 = 1 := by omega
      have HBt : Hid (z / 256 % 256 = (b : Int)) := Lib.hid (by have := HByt.out; rw [hr] at this; omega)
      clear hr HByt
      go_wp2_with (at_builtin; refine append_seq (w0 := wy) Tryz.elemU8 rfl _ _ rfl rfl (Ho.out.alloc _) rfl (src1 (ρ := u8S) [.int .u8 (z / 256 % 256)] b (congrArg (fun z => [Value.int .u8 z]) HBt.out) rfl) Hl1.out (HBy.out.alloc HBy.out.size _) ?_; intro va wa hob _ hbb; have KU := Lib.hid hob; have KB := Lib.hid hbb; clear hob hbb)
      go_roundw
      case rel => exact ⟨i + 1, by omega, by go_num, by rw [HLs.out]; exact KU.out, KB.out⟩
      case measure => simp [intOf]; omega
     ·have hrI : (i : Int) % 4 = 2 := by omega
      have HBt : Hid (z / 65536 % 256 = (b : Int)) := Lib.hid (by have := HByt.out; rw [hr] at this; omega)
      clear hr HByt
      go_wp2_with (at_builtin; refine append_seq (w0 := wy) Tryz.elemU8 rfl _ _ rfl rfl (Ho.out.alloc _) rfl (src1 (ρ := u8S) [.int .u8 (z / 65536 % 256)] b (congrArg (fun z => [Value.int .u8 z]) HBt.out) rfl) Hl1.out (HBy.out.alloc HBy.out.size _) ?_; intro va wa hob _ hbb; have KU := Lib.hid hob; have KB := Lib.hid hbb; clear hob hbb)
      go_roundw
      case rel => exact ⟨i + 1, by omega, by go_num, by rw [HLs.out]; exact KU.out, KB.out⟩
      case measure => simp [intOf]; omega
     ·have hrI : (i : Int) % 4 = 3 := by omega
      have HBt : Hid (z / 16777216 % 256 = (b : Int)) := Lib.hid (by have := HByt.out; rw [hr] at this; omega)
      clear hr HByt
      go_wp2_with (at_builtin; refine append_seq (w0 := wy) Tryz.elemU8 rfl _ _ rfl rfl (Ho.out.alloc _) rfl (src1 (ρ := u8S) [.int .u8 (z / 16777216 % 256)] b (congrArg (fun z => [Value.int .u8 z]) HBt.out) rfl) Hl1.out (HBy.out.alloc HBy.out.size _) ?_; intro va wa hob _ hbb; have KU := Lib.hid hob; have KB := Lib.hid hbb; clear hob hbb)
      go_roundw
      case rel => exact ⟨i + 1, by omega, by go_num, by rw [HLs.out]; exact KU.out, KB.out⟩
      case measure => simp [intOf]; omega
    ·obtain rfl : i = 32 := by omega
     have hiI : ¬ ((32 : Nat) : Int) < 32 := by omega
     obtain ⟨A, c, e⟩ := Ho.out.slice
     rw [show ((List.range 32).map (byteW (lastW (bs s)))).length = 32 by simp] at e
     subst e
     have hcv : (convert 110 9 (.slice A 32 c)).run Tryz.prog wr = .ok (.string R) wr := by
      rw [← HR.out]
      exact run_toStr (p := (List.range 32).map (byteW (lastW (bs s)))) (u8S_bytes Ho.out) (by rw [List.length_map, List.length_range])
     go_wp2
     go_ret
     exact ⟨rfl, HB.out.trans (HBy.out.mono HB.out.size)⟩
structure CSt (w wr : World) (H M : List Int) : Prop where
 below : Below w.heap.size w wr
 h : Blk wr w.heap.size 176 (H.map u32V)
 r : Blk wr (w.heap.size + 1) 176 ((List.replicate 8 0).map u32V)
 m : Blk wr (w.heap.size + 1 + 1) 251 (M.map u32V)
theorem CSt.drew {w wr : World} {H M : List Int} (h : CSt w wr H M) : CSt w wr.drew H M := ⟨h.1.drew, h.2, h.3, h.4⟩
theorem CSt.set {w wr : World} {H M : List Int} (h : CSt w wr H M) {i : Nat} (hi : i < M.length) (z : Int) : CSt w (wr.setCell ⟨w.heap.size + 1 + 1, i, none⟩ (.int .u32 z)) H (M.set i z) :=
 ⟨h.1.setCell (by show w.heap.size ≤ w.heap.size + 1 + 1; omega) _, h.2.far (by show w.heap.size ≠ w.heap.size + 1 + 1; omega) _, h.3.far (by show w.heap.size + 1 ≠ w.heap.size + 1 + 1; omega) _, h.4.store hi⟩
theorem Tryz.sizeV16 {L : List Int} (h : L.length = 16) : (Tryz.prog.info? 251).map (·.size) = some (L.map u32V).toArray.size := by
 rw [show (L.map u32V).toArray.size = 16 by simp [h]]
 kernel_rfl
structure DSt (w wr : World) (G : Nat) (H M V : List Int) : Prop extends CSt w wr H M where
 iv : Blk wr G 176 (initW.map u32V)
 v : Blk wr (G + 1) 251 (V.map u32V)
 hG : w.heap.size + 1 + 1 < G
theorem DSt.start {w wx w1 : World} {H M : List Int} (h : CSt w wx H M) (hb : Below wx.heap.size wx w1) (hH : H.length = 8) : DSt w ((w1.alloc (.cells (initW.map u32V).toArray 176)).alloc (.cells ((List.replicate 16 (0 : Int)).map u32V).toArray 251)) w1.heap.size H M (vrunW H 0) := by
 have hlt := h.m.lt
 have hs := hb.size
 have b1 := Blk.new w1 176 (initW.map u32V)
 have b2 := Blk.new (w1.alloc (.cells (initW.map u32V).toArray 176)) 251 ((List.replicate 16 (0 : Int)).map u32V)
 rw [World.size_alloc] at b2
 have h0 := h.below.trans (hb.mono h.below.size)
 exact ⟨⟨(h0.alloc h0.size _).alloc (by simp; have := h0.size; omega) _, ((h.h.kept hb).alloc _).alloc _, ((h.r.kept hb).alloc _).alloc _, ((h.m.kept hb).alloc _).alloc _⟩, b1.alloc _, b2, by omega⟩
theorem DSt.drew {w wr : World} {G : Nat} {H M V : List Int} (h : DSt w wr G H M V) : DSt w wr.drew G H M V := ⟨h.toCSt.drew, h.iv, h.v, h.hG⟩
theorem DSt.setV {w wr : World} {G : Nat} {H M V : List Int} (h : DSt w wr G H M V) {i : Nat} (hi : i < V.length) (z : Int) : DSt w (wr.setCell ⟨G + 1, i, none⟩ (.int .u32 z)) G H M (V.set i z) := by
 have := h.hG
 exact ⟨⟨h.below.setCell (by show w.heap.size ≤ G + 1; omega) _, h.h.far (by show w.heap.size ≠ G + 1; omega) _, h.r.far (by show w.heap.size + 1 ≠ G + 1; omega) _, h.m.far (by show w.heap.size + 1 + 1 ≠ G + 1; omega) _⟩, h.iv.far (by show G ≠ G + 1; omega) _, h.v.store hi, h.hG⟩
theorem DSt.setH {w wr : World} {G : Nat} {H M V : List Int} (h : DSt w wr G H M V) {i : Nat} (hi : i < H.length) (z : Int) : DSt w (wr.setCell ⟨w.heap.size, i, none⟩ (.int .u32 z)) G (H.set i z) M V := by
 have := h.hG
 exact ⟨⟨h.below.setCell (Nat.le_refl _) _, h.h.store hi, h.r.far (by show w.heap.size + 1 ≠ w.heap.size; omega) _, h.m.far (by show w.heap.size + 1 + 1 ≠ w.heap.size; omega) _⟩, h.iv.far (by show G ≠ w.heap.size; omega) _, h.v.far (by show G + 1 ≠ w.heap.size; omega) _, h.hG⟩
theorem DSt.kept {w wr w' : World} {G : Nat} {H M V : List Int} (h : DSt w wr G H M V) (hb : Below wr.heap.size wr w') : DSt w w' G H M V :=
 ⟨⟨h.below.trans (hb.mono h.below.size), h.h.kept hb, h.r.kept hb, h.m.kept hb⟩, h.iv.kept hb, h.v.kept hb, h.hG⟩
theorem DSt.rowV {w wr : World} {G : Nat} {H M V V' : List Int} (h : DSt w wr G H M V) : DSt w (wr.setRow (G + 1) (V'.map u32V).toArray) G H M V' := by
 have := h.hG
 have hr : Below (G + 1) wr (wr.setRow (G + 1) (V'.map u32V).toArray) := below_setRow (Below.refl _ _) (Nat.le_refl _) _
 exact ⟨⟨h.below.trans (hr.mono (by omega)), h.h.below hr (by omega), h.r.below hr (by omega), h.m.below hr (by omega)⟩, h.iv.below hr (by omega), setRow_heap _ _ _ _ _ _ h.v, h.hG⟩
theorem compress_any (w : World) (H : List Int) (hH : H.length = 8) (s : ByteArray) (hs : s.size = 64) (cnt : Nat) (hcnt : cnt < 18446744073709551616) (last : Bool) :
  Calls Tryz.prog 129 #[.agg (H.map u32V).toArray, .string s, .int .u64 (cnt : Int), .bool last] w fun e w' => e = .returned (.tuple #[.agg ((comW H (bs s) cnt last).map u32V).toArray, .int .i64 0]) ∧ Below w.heap.size w w' := by
 obtain ⟨R, hR⟩ : ∃ R, comW H (bs s) cnt last = R := ⟨_, rfl⟩
 rw [hR]
 have HR := Lib.hid hR
 have HH := Lib.hid hH
 clear hR hH
 have h1 : Hid (CSt w (((w.alloc (.cells (H.map u32V).toArray 176)).alloc (.cells (List.replicate 8 (.int .u32 0)).toArray 176)).alloc (.cells (List.replicate 16 (.int .u32 0)).toArray 251)) H (mrunW (bs s) 0)) := Lib.hid (by
  have b1 := Blk.new w 176 (H.map u32V)
  have b2 := Blk.new (w.alloc (.cells (H.map u32V).toArray 176)) 176 (List.replicate 8 (.int .u32 0))
  have b3 := Blk.new ((w.alloc (.cells (H.map u32V).toArray 176)).alloc (.cells (List.replicate 8 (.int .u32 0)).toArray 176)) 251 (List.replicate 16 (.int .u32 0))
  refine ⟨(((Below.refl w.heap.size w).alloc (Nat.le_refl _) _).alloc (by simp) _).alloc (by simp; omega) _, (b1.alloc _).alloc _, ?_, ?_⟩
  ·have := b2.alloc (.cells (List.replicate 16 (.int .u32 0)).toArray 251)
   simpa [u32V] using this
  ·simpa [u32V, mrunW] using b3)
 go_enter Tryz.func129, Tryz.ntmps129
 go_upto_region 4 with fail
 change Code.wp _ _ _ _ (((w.alloc (.cells (H.map u32V).toArray 176)).alloc (.cells (List.replicate 8 (.int .u32 0)).toArray 176)).alloc (.cells (List.replicate 16 (.int .u32 0)).toArray 251))
 generalize ((w.alloc (.cells (H.map u32V).toArray 176)).alloc (.cells (List.replicate 8 (.int .u32 0)).toArray 176)).alloc (.cells (List.replicate 16 (.int .u32 0)).toArray 251) = wa at *
 go_wp2
 go_loopw [11] (fun x wr => ∃ i : Nat, i ≤ 64 ∧ x = .int .i64 (i : Int) ∧ CSt w wr H (mrunW (bs s) i)) (fun x _ => 64 - (intOf x).toNat)
 case atStart => exact ⟨0, by omega, rfl, h1.out⟩
 case round =>
  obtain ⟨i, hi, rfl, hst⟩ := hrel
  have HS := Lib.hid hst
  clear hst h1
  by_cases h : i < 64
  ·have hiI : (i : Int) < 64 := by omega
   have his : i < s.size := by omega
   have hisI : (i : Int) < s.size := by omega
   obtain ⟨q, hq⟩ : ∃ q, i / 4 = q := ⟨_, rfl⟩
   have hqI : (i : Int) / 4 = q := by omega
   have hqT : Int.tdiv (i : Int) 4 = q := by rw [Int.tdiv_eq_ediv_of_nonneg (by omega)]; exact hqI
   have hq16 : (q : Int) < 16 := by omega
   have HqW : Hid (IntKind.i64.wrap (q : Int) = q) := Lib.hid (IntWalk.i64_in _ (by omega))
   have hqn : q < 16 := by omega
   have cq := HS.out.m.word (i := q) (by rw [mrunW_len]; exact hqn)
   have fq := HS.out.m.frozen q
   obtain ⟨b, hb⟩ : ∃ b, (s[i]'his).toNat = b := ⟨_, rfl⟩
   have hb256 : b < 256 := by rw [← hb]; exact (s[i]'his).toNat_lt
   have Hcf : Hid ((bs s).getD i 0 = b) := Lib.hid (by
    rw [List.getD_eq_getElem?_getD]
    have := bsc s i his
    unfold cf at this
    rw [this, hb])
   have hbI : (b : Int) % 4294967296 = b := by omega
   obtain ⟨M, hM⟩ : ∃ M, mrunW (bs s) i = M := ⟨_, rfl⟩
   have HM : Hid (M.length = 16 ∧ mrunW (bs s) (i + 1) = M.set q (bits .or .u32 (getW M q) (plc b (i % 4)))) := Lib.hid (by
    rw [← hM]
    refine ⟨mrunW_len _ _, ?_⟩
    rw [mrunW, hq, Hcf.out])
   rw [hM] at HS cq
   generalize hz : getW M q = z at *
   have Hz := Lib.hid hz
   have hr : i % 4 = 0 ∨ i % 4 = 1 ∨ i % 4 = 2 ∨ i % 4 = 3 := by omega
   clear hM hq hz
   rcases hr with hr | hr | hr | hr
   ·have hrI : (i : Int) % 4 = 0 := by omega
    have hrT : Int.tmod (i : Int) 4 = 0 := by rw [Int.tmod_eq_emod_of_nonneg (by omega)]; exact hrI
    have hrW : IntKind.i64.wrap 0 = 0 := by decide
    have hrX : IntKind.i64.wrap 0 = 0 := by decide
    have HPl : Hid (plc b (i % 4) = (b : Int)) := Lib.hid (by rw [hr]; unfold plc; omega)
    have hqW := HqW.out
    clear hr
    go_upto_region 7 with fail
    go_still_tail 17, (by kernel_rfl)
    go_wp2
    go_roundw
    case rel => exact ⟨i + 1, by omega, by go_num, by rw [HM.out.2, HPl.out]; exact (HS.out.set (by rw [HM.out.1]; exact hqn) _).drew⟩
    case measure => simp [intOf]; omega
   ·have hrI : (i : Int) % 4 = 1 := by omega
    have hrT : Int.tmod (i : Int) 4 = 1 := by rw [Int.tmod_eq_emod_of_nonneg (by omega)]; exact hrI
    have hrW : IntKind.i64.wrap 1 = 1 := by decide
    have hrX : IntKind.i64.wrap 8 = 8 := by decide
    have HPl : Hid (plc b (i % 4) = (b : Int) * 256 % 4294967296) := Lib.hid (by rw [hr]; unfold plc; omega)
    have hqW := HqW.out
    clear hr
    go_upto_region 7 with fail
    go_still_tail 17, (by kernel_rfl)
    go_wp2
    go_roundw
    case rel => exact ⟨i + 1, by omega, by go_num, by rw [HM.out.2, HPl.out]; exact (HS.out.set (by rw [HM.out.1]; exact hqn) _).drew⟩
    case measure => simp [intOf]; omega
   ·have hrI : (i : Int) % 4 = 2 := by omega
    have hrT : Int.tmod (i : Int) 4 = 2 := by rw [Int.tmod_eq_emod_of_nonneg (by omega)]; exact hrI
    have hrW : IntKind.i64.wrap 2 = 2 := by decide
    have hrX : IntKind.i64.wrap 16 = 16 := by decide
    have HPl : Hid (plc b (i % 4) = (b : Int) * 65536 % 4294967296) := Lib.hid (by rw [hr]; unfold plc; omega)
    have hqW := HqW.out
    clear hr
    go_upto_region 7 with fail
    go_still_tail 17, (by kernel_rfl)
    go_wp2
    go_roundw
    case rel => exact ⟨i + 1, by omega, by go_num, by rw [HM.out.2, HPl.out]; exact (HS.out.set (by rw [HM.out.1]; exact hqn) _).drew⟩
    case measure => simp [intOf]; omega
   ·have hrI : (i : Int) % 4 = 3 := by omega
    have hrT : Int.tmod (i : Int) 4 = 3 := by rw [Int.tmod_eq_emod_of_nonneg (by omega)]; exact hrI
    have hrW : IntKind.i64.wrap 3 = 3 := by decide
    have hrX : IntKind.i64.wrap 24 = 24 := by decide
    have HPl : Hid (plc b (i % 4) = (b : Int) * 16777216 % 4294967296) := Lib.hid (by rw [hr]; unfold plc; omega)
    have hqW := HqW.out
    clear hr
    go_upto_region 7 with fail
    go_still_tail 17, (by kernel_rfl)
    go_wp2
    go_roundw
    case rel => exact ⟨i + 1, by omega, by go_num, by rw [HM.out.2, HPl.out]; exact (HS.out.set (by rw [HM.out.1]; exact hqn) _).drew⟩
    case measure => simp [intOf]; omega
  ·obtain rfl : i = 64 := by omega
   have hiI : ¬ ((64 : Nat) : Int) < 64 := by omega
   have HS2 : Hid (CSt w wr H (msgW (bs s))) := Lib.hid (by have := HS.out; rwa [mrunW_all (bs_lt s)] at this)
   obtain ⟨wx, rfl⟩ : ∃ x, x = wr := ⟨_, rfl⟩
   have HML := Lib.hid (msgW_len (bs s))
   have HR1 : Hid (outW H (rndW (msgW (bs s)) (headW H cnt last) 80) = R) := Lib.hid HR.out
   generalize msgW (bs s) = M at *
   clear HS HR hs
   go_wp2_with fail
   refine (init_lit _).mono ?_
   rintro e1 w1 ⟨rfl, hb1⟩
   have HD0 := Lib.hid (DSt.start HS2.out hb1 HH.out)
   clear hb1 HS2
   go_upto_region 10 with fail
   change Code.wp _ _ _ _ ((w1.alloc (.cells (initW.map u32V).toArray 176)).alloc (.cells ((List.replicate 16 (0 : Int)).map u32V).toArray 251))
   generalize (w1.alloc (.cells (initW.map u32V).toArray 176)).alloc (.cells ((List.replicate 16 (0 : Int)).map u32V).toArray 251) = wb at *
   generalize w1.heap.size = G at *
   go_wp2
   go_loopw [14] (fun x wr => ∃ i : Nat, i ≤ 8 ∧ x = .int .i64 (i : Int) ∧ DSt w wr G H M (vrunW H i)) (fun x _ => 8 - (intOf x).toNat)
   case atStart => exact ⟨0, by omega, rfl, HD0.out⟩
   case round =>
    obtain ⟨i, hi, rfl, hst⟩ := hrel
    have HD := Lib.hid hst
    clear hst HD0
    by_cases h : i < 8
    ·have hiI : (i : Int) < 8 := by omega
     have hi16 : (i : Int) < 16 := by omega
     obtain ⟨j, hj⟩ : ∃ j, i + 8 = j := ⟨_, rfl⟩
     have hjI : (i : Int) + 8 = j := by omega
     have hj16 : (j : Int) < 16 := by omega
     have cH := HD.out.h.word (i := i) (by rw [HH.out]; exact h)
     have cI := HD.out.iv.word (i := i) (by show i < 8; exact h)
     have cV := HD.out.v.word (i := i) (by rw [vrunW_len]; omega)
     have cV2 := HD.out.v.word (i := j) (by rw [vrunW_len]; omega)
     have fV := HD.out.v.frozen i
     have fV2 := HD.out.v.frozen j
     have HN : Hid (DSt w ((wr.setCell ⟨G + 1, i, none⟩ (.int .u32 (getW H i))).setCell ⟨G + 1, j, none⟩ (.int .u32 (getW initW i))) G H M (vrunW H (i + 1))) := Lib.hid (by
      have h1 := HD.out.setV (i := i) (by rw [vrunW_len]; omega) (getW H i)
      have h2 := h1.setV (i := j) (by rw [List.length_set, vrunW_len]; omega) (getW initW i)
      rw [vrunW, hj]
      exact h2)
     have cI2 := (HD.out.setV (i := i) (by rw [vrunW_len]; omega) (getW H i)).iv.word (i := i) (by show i < 8; exact h)
     have cV3 := (HD.out.setV (i := i) (by rw [vrunW_len]; omega) (getW H i)).v.word (i := j) (by rw [List.length_set, vrunW_len]; omega)
     have fV3 := (HD.out.setV (i := i) (by rw [vrunW_len]; omega) (getW H i)).v.frozen j
     generalize getW H i = a1 at *
     generalize getW initW i = a2 at *
     clear hj
     go_wp2
     go_roundw
     case rel => exact ⟨i + 1, by omega, by go_num, HN.out⟩
     case measure => simp [intOf]; omega
    ·obtain rfl : i = 8 := by omega
     have hiI : ¬ ((8 : Nat) : Int) < 8 := by omega
     have HD2 : Hid (DSt w wr G H M (H ++ initW)) := Lib.hid (by have := HD.out; rwa [vrunW_all HH.out] at this)
     obtain ⟨wy, rfl⟩ : ∃ x, x = wr := ⟨_, rfl⟩
     clear HD
     obtain ⟨V0, hV0⟩ : ∃ V0, H ++ initW = V0 := ⟨_, rfl⟩
     have l0 : V0.length = 16 := by rw [← hV0, List.length_append, HH.out]; rfl
     rw [hV0] at HD2
     have HV0 := Lib.hid hV0
     have L0 := Lib.hid l0
     clear hV0 l0
     have c12 := HD2.out.v.word (i := 12) (by rw [L0.out]; omega)
     have f12 := HD2.out.v.frozen 12
     go_upto_region 16 with fail
     have HD3 := Lib.hid (HD2.out.setV (i := 12) (by rw [L0.out]; omega) (bits .xor .u32 (getW V0 12) ((cnt : Int) % 4294967296)))
     generalize hW1 : wy.setCell ⟨G + 1, 12, none⟩ (.int .u32 (bits .xor .u32 (getW V0 12) ((cnt : Int) % 4294967296))) = wz at *
     clear hW1
     obtain ⟨V1, hV1⟩ : ∃ V1, V0.set 12 (bits .xor .u32 (getW V0 12) ((cnt : Int) % 4294967296)) = V1 := ⟨_, rfl⟩
     have HV1 := Lib.hid hV1
     have L1 : Hid (V1.length = 16) := Lib.hid (by rw [← hV1, List.length_set, L0.out])
     rw [hV1] at HD3
     clear hV1 c12 f12 HD2
     have c13 := HD3.out.v.word (i := 13) (by rw [L1.out]; omega)
     have f13 := HD3.out.v.frozen 13
     go_upto_region 17 with fail
     have HD4 := Lib.hid (HD3.out.setV (i := 13) (by rw [L1.out]; omega) (bits .xor .u32 (getW V1 13) ((cnt : Int) / 4294967296)))
     generalize hW1 : wz.setCell ⟨G + 1, 13, none⟩ (.int .u32 (bits .xor .u32 (getW V1 13) ((cnt : Int) / 4294967296))) = wu at *
     clear hW1
     obtain ⟨V2, hV2⟩ : ∃ V2, V1.set 13 (bits .xor .u32 (getW V1 13) ((cnt : Int) / 4294967296)) = V2 := ⟨_, rfl⟩
     have L2 : Hid (V2.length = 16) := Lib.hid (by rw [← hV2, List.length_set, L1.out])
     have HV2 : Hid (headW H cnt last = flipW last V2) := Lib.hid (by rw [← hV2, ← HV1.out, ← HV0.out]; rfl)
     rw [hV2] at HD4
     clear hV2 HV1 HV0 c13 f13 HD3
     go_upto_if 74 with fail
     go_cut [] (fun wx => DSt w wx G H M (headW H cnt last))
     case first =>
      cases last with
      | false =>
       go_wp2
       go_meet
       rw [HV2.out]
       exact HD4.out
      | true =>
       have c14 := HD4.out.v.word (i := 14) (by rw [L2.out]; omega)
       have f14 := HD4.out.v.frozen 14
       have HD5 := Lib.hid (HD4.out.setV (i := 14) (by rw [L2.out]; omega) (bits .xor .u32 IntKind.u32.max (getW V2 14)))
       have hx14 : True := trivial
       go_wp2
       go_meet
       rw [HV2.out]
       exact HD5.out
     case rest =>
      obtain ⟨Vh, hVh⟩ : ∃ Vh, headW H cnt last = Vh := ⟨_, rfl⟩
      have LVh : Hid (Vh.length = 16) := Lib.hid (by rw [← hVh]; exact headW_len HH.out _ _)
      rw [hVh] at hcut HR1
      have HD6 := Lib.hid hcut
      clear hcut hVh HV2 L2 HD4 L0 L1
      go_wp2
      go_loopw [15, 16, 17, 18] (fun x _ _ _ wr => ∃ r : Nat, r ≤ 10 ∧ x = .int .i64 (r : Int) ∧ DSt w wr G H M (rndW M Vh (8 * r))) (fun x _ _ _ _ => 10 - (intOf x).toNat)
      case atStart => exact ⟨0, by omega, rfl, HD6.out⟩
      case round =>
       obtain ⟨r, hr, rfl, hst⟩ := hrel
       have HD := Lib.hid hst
       clear hst HD6
       by_cases h : r < 10
       ·have hrI : (r : Int) < 10 := by omega
        have HPm := Lib.hid (fun W => perm_any W r h)
        obtain ⟨P, hP⟩ : ∃ P, permB r = P := ⟨_, rfl⟩
        have hP16 : P.size = 16 := by rw [← hP]; exact perm_size r
        have HPx : Hid (∀ j (hj : j < P.size), 48 ≤ (P[j]'hj).toNat ∧ (P[j]'hj).toNat ≤ 57 ∨ 97 ≤ (P[j]'hj).toNat ∧ (P[j]'hj).toNat ≤ 102) := Lib.hid (fun j hj => by
         have h1 := perm_hex r h j (by omega)
         rw [hP] at h1
         have h2 := bsc P j hj
         rw [List.getD_eq_getElem?_getD] at h1
         unfold cf at h2
         rwa [h2] at h1)
        have HPs : Hid (∀ j (hj : j < P.size), hexN ((P[j]'hj).toNat) = sigN r j) := Lib.hid (fun j hj => by
         have h2 := bsc P j hj
         unfold cf at h2
         unfold sigN
         rw [hP, List.getD_eq_getElem?_getD, h2])
        rw [hP] at HPm
        have HPz := Lib.hid hP16
        clear hP hP16
        go_wp2_with fail
        refine (HPm.out _).mono ?_
        rintro e2 w2 ⟨rfl, rfl⟩
        obtain ⟨wq, rfl⟩ : ∃ x, x = wr := ⟨_, rfl⟩
        go_wp2
        go_loopw [17, 18] (fun x _ wr => ∃ k : Nat, k ≤ 8 ∧ x = .int .i64 (k : Int) ∧ DSt w wr G H M (rndW M Vh (8 * r + k))) (fun x _ _ => 8 - (intOf x).toNat)
        case atStart => exact ⟨0, by omega, rfl, HD.out⟩
        case round =>
         obtain ⟨k, hk, rfl, hst⟩ := hrel
         have HDk := Lib.hid hst
         clear hst HD
         by_cases hk8 : k < 8
         ·have hkI : (k : Int) < 8 := by omega
          have HCo := Lib.hid (fun W => columns_any W k hk8)
          obtain ⟨a4, ha4⟩ : ∃ x, (colW k).getD 0 0 = x := ⟨_, rfl⟩
          obtain ⟨b4, hb4⟩ : ∃ x, (colW k).getD 1 0 = x := ⟨_, rfl⟩
          obtain ⟨c4, hc4⟩ : ∃ x, (colW k).getD 2 0 = x := ⟨_, rfl⟩
          obtain ⟨d4, hd4⟩ : ∃ x, (colW k).getD 3 0 = x := ⟨_, rfl⟩
          have hcl := colW_lt k hk8
          have hcf := colW_four k hk8
          rw [ha4, hb4, hc4, hd4] at hcl hcf
          have HCl := Lib.hid hcl
          have HCo2 : Hid (∀ W, Calls Tryz.prog 201 #[.int .i64 (k : Int)] W fun e w' => e = .returned (.agg #[.int .i64 (a4 : Int), .int .i64 (b4 : Int), .int .i64 (c4 : Int), .int .i64 (d4 : Int)]) ∧ Below W.heap.size W w') := Lib.hid (fun W => by have := HCo.out W; rw [hcf] at this; exact this)
          have HSt : Hid (∀ V, stepW M V r k = mixW V a4 b4 c4 d4 (getW M (sigN r (2 * k))) (getW M (sigN r (2 * k + 1)))) := Lib.hid (fun V => by unfold stepW; rw [ha4, hb4, hc4, hd4])
          clear ha4 hb4 hc4 hd4 hcl hcf HCo
          have LV : Hid ((rndW M Vh (8 * r + k)).length = 16) := Lib.hid (by rw [rndW_len, LVh.out])
          have HRn : Hid (rndW M Vh (8 * r + (k + 1)) = stepW M (rndW M Vh (8 * r + k)) r k) := Lib.hid (rndW_step hk8)
          generalize rndW M Vh (8 * r + k) = V at *
          go_wp2_with fail
          refine (HCo2.out _).mono ?_
          rintro e3 w3 ⟨rfl, hb3⟩
          have HDa := Lib.hid ((HDk.out.kept hb3).kept ((Below.refl _ w3).alloc (Nat.le_refl _) (.cells #[.int .i64 (a4 : Int), .int .i64 (b4 : Int), .int .i64 (c4 : Int), .int .i64 (d4 : Int)] 255)))
          have HEa : Hid (Blk (w3.alloc (.cells #[.int .i64 (a4 : Int), .int .i64 (b4 : Int), .int .i64 (c4 : Int), .int .i64 (d4 : Int)] 255)) w3.heap.size 255 [.int .i64 (a4 : Int), .int .i64 (b4 : Int), .int .i64 (c4 : Int), .int .i64 (d4 : Int)]) := Lib.hid (Blk.new _ _ _)
          have HGE : Hid (G + 1 < w3.heap.size) := Lib.hid (HDk.out.kept hb3).v.lt
          clear hb3 HDk
          go_upto_region 27 with fail
          generalize w3.alloc (.cells #[.int .i64 (a4 : Int), .int .i64 (b4 : Int), .int .i64 (c4 : Int), .int .i64 (d4 : Int)] 255) = wz at *
          generalize w3.heap.size = Ee at *
          obtain ⟨p1, hp1⟩ : ∃ p1, 2 * k = p1 := ⟨_, rfl⟩
          obtain ⟨p2, hp2⟩ : ∃ p2, p1 + 1 = p2 := ⟨_, rfl⟩
          have q1 : (2 : Int) * k = p1 := by omega
          have q1w : IntKind.i64.wrap ((2 : Int) * k) = p1 := by rw [q1]; exact IntWalk.i64_in _ (by omega)
          have q2 : (p1 : Int) + 1 = p2 := by omega
          have q1v : IntKind.i64.wrap (p1 : Int) = p1 := IntWalk.i64_in _ (by omega)
          have q2v : IntKind.i64.wrap (p2 : Int) = p2 := IntWalk.i64_in _ (by omega)
          have q2w : IntKind.i64.wrap ((p1 : Int) + 1) = p2 := by rw [q2]; exact IntWalk.i64_in _ (by omega)
          have hl1 : p1 < P.size := by rw [HPz.out]; omega
          have hl2 : p2 < P.size := by rw [HPz.out]; omega
          have hl1I : (p1 : Int) < P.size := by omega
          have hl2I : (p2 : Int) < P.size := by omega
          have hx1 := HPx.out p1 hl1
          have hx2 := HPx.out p2 hl2
          have hs1 := HPs.out p1 hl1
          have hs2 := HPs.out p2 hl2
          obtain ⟨y1, hy1⟩ : ∃ y, (P[p1]'hl1).toNat = y := ⟨_, rfl⟩
          obtain ⟨y2, hy2⟩ : ∃ y, (P[p2]'hl2).toNat = y := ⟨_, rfl⟩
          rw [hy1] at hx1 hs1
          rw [hy2] at hx2 hs2
          have HG1 := Lib.hid (fun W => digit_any W y1 hx1)
          have HG2 := Lib.hid (fun W => digit_any W y2 hx2)
          obtain ⟨s1, es1⟩ : ∃ x, sigN r p1 = x := ⟨_, rfl⟩
          obtain ⟨s2, es2⟩ : ∃ x, sigN r p2 = x := ⟨_, rfl⟩
          have b1 : s1 < 16 := by rw [← es1]; exact sigN_lt r h p1 (by omega)
          have b2 : s2 < 16 := by rw [← es2]; exact sigN_lt r h p2 (by omega)
          have b1I : (s1 : Int) < 16 := by omega
          have b2I : (s2 : Int) < 16 := by omega
          have e1 : (if 97 ≤ y1 then y1 - 87 else y1 - 48 : Nat) = s1 := by rw [← es1, ← hs1]; rfl
          have e2 : (if 97 ≤ y2 then y2 - 87 else y2 - 48 : Nat) = s2 := by rw [← es2, ← hs2]; rfl
          rw [e1] at HG1
          rw [e2] at HG2
          have HSt2 : Hid (stepW M V r k = mixW V a4 b4 c4 d4 (getW M s1) (getW M s2)) := Lib.hid (by rw [HSt.out, hp1, es1, hp2, es2])
          have HB12 := Lib.hid (And.intro b1 b2)
          obtain ⟨x1, hxx1⟩ : ∃ x, getW M s1 = x := ⟨_, rfl⟩
          obtain ⟨x2, hxx2⟩ : ∃ x, getW M s2 = x := ⟨_, rfl⟩
          rw [hxx1, hxx2] at HSt2
          have HMw : Hid (∀ W V', DSt w W G H M V' → W.cell? ⟨w.heap.size + 1 + 1, s1, none⟩ = some (.int .u32 x1) ∧ W.cell? ⟨w.heap.size + 1 + 1, s2, none⟩ = some (.int .u32 x2))   := Lib.hid (fun W V' hD => by
           rw [← hxx1, ← hxx2]
           exact ⟨hD.m.word (by rw [HML.out]; omega), hD.m.word (by rw [HML.out]; omega)⟩)
          have hS0 : (fun W => W.cell? ⟨Ee, 0, none⟩ = some (.int .i64 (a4 : Int)) ∧ W.cell? ⟨Ee, 1, none⟩ = some (.int .i64 (b4 : Int)) ∧ W.cell? ⟨Ee, 2, none⟩ = some (.int .i64 (c4 : Int)) ∧ W.cell? ⟨Ee, 3, none⟩ = some (.int .i64 (d4 : Int)) ∧ W.cell? ⟨w.heap.size + 1 + 1, s1, none⟩ = some (.int .u32 x1) ∧ W.cell? ⟨w.heap.size + 1 + 1, s2, none⟩ = some (.int .u32 x2)) wz := ⟨HEa.out.cell (i := 0) rfl, HEa.out.cell (i := 1) rfl, HEa.out.cell (i := 2) rfl, HEa.out.cell (i := 3) rfl, (HMw.out _ _ HDa.out).1, (HMw.out _ _ HDa.out).2⟩
          have HS0 := Lib.hid hS0
          clear hS0 hxx1 hxx2 hp1 hp2 hx1 hx2 hs1 hs2 es1 es2 e1 e2 b1 b2 HSt HPx HPs
          refine wp_region_held_drew (S := (fun W => W.cell? ⟨Ee, 0, none⟩ = some (.int .i64 (a4 : Int)) ∧ W.cell? ⟨Ee, 1, none⟩ = some (.int .i64 (b4 : Int)) ∧ W.cell? ⟨Ee, 2, none⟩ = some (.int .i64 (c4 : Int)) ∧ W.cell? ⟨Ee, 3, none⟩ = some (.int .i64 (d4 : Int)) ∧ W.cell? ⟨w.heap.size + 1 + 1, s1, none⟩ = some (.int .u32 x1) ∧ W.cell? ⟨w.heap.size + 1 + 1, s2, none⟩ = some (.int .u32 x2))) (by kernel_rfl) ?_ (fun hHeld => ?_)
          ·first | exact HS0.out | exact ⟨HEb.out.cell (i := 0) rfl, HEb.out.cell (i := 1) rfl, HEb.out.cell (i := 2) rfl, HEb.out.cell (i := 3) rfl, (HMw.out _ _ HDb.out).1, (HMw.out _ _ HDb.out).2⟩ | exact ⟨(HEr.out _).cell (i := 0) rfl, (HEr.out _).cell (i := 1) rfl, (HEr.out _).cell (i := 2) rfl, (HEr.out _).cell (i := 3) rfl, (HMw.out _ _ HDf.out).1, (HMw.out _ _ HDf.out).2⟩
          refine tk 1 ?_
          refine tk 2 ?_
          refine tk 3 ?_
          refine tk 4 ?_
          refine tk 5 ?_
          refine tk 6 ?_
          refine tk 7 ?_
          refine tk 8 ?_
          refine tk 9 ?_
          refine tk 10 ?_
          refine tk 11 ?_
          refine tk 12 ?_
          refine take_call (i := 13) (oi := _) (v := (.int .i64 (s1 : Int))) rfl (by kernel_rfl) (by kernel_rfl) (by kernel_rfl) (fun _ _ _ h => h) (And.intro (by rfl) ?hy13) (by assumption) ?rest13
          case hy13 =>
           intro W hSw
           exact ⟨203, #[.int .u8 (y1 : Int)], by go_simp, HG1.out W⟩
          try simp only [Act.put, List.setIfInBounds_toArray, List.set_cons_zero, List.set_cons_succ]
          try simp only [List.getElem_toArray, List.getElem_cons_zero, List.getElem_cons_succ]
          refine tk 14 ?_
          refine tk 15 ?_
          refine tk 16 ?_
          refine tk 17 ?_
          refine tk 18 ?_
          refine tk 19 ?_
          refine tk 20 ?_
          refine take_call (i := 21) (oi := _) (v := (.int .i64 (s2 : Int))) rfl (by kernel_rfl) (by kernel_rfl) (by kernel_rfl) (fun _ _ _ h => h) (And.intro (by rfl) ?hy21) (by assumption) ?rest21
          case hy21 =>
           intro W hSw
           exact ⟨203, #[.int .u8 (y2 : Int)], by go_simp, HG2.out W⟩
          try simp only [Act.put, List.setIfInBounds_toArray, List.set_cons_zero, List.set_cons_succ]
          try simp only [List.getElem_toArray, List.getElem_cons_zero, List.getElem_cons_succ]
          refine tk 22 ?_
          refine tk 23 ?_
          refine wpAnyH_ready (rs := [0]) (by kernel_rfl) (by simp) ?_
          refine AllReadyH.cons (o := _) rfl (fun K hK => ?_) ?_
          ·refine wp_load_row 251 (.tmp 13) rfl (G + 1) rfl 251 _ (0, 0) _ HDa.out.v Tryz.underlying251 rfl (Tryz.sizeV16 LV.out) ?_
           refine hko hK (by first | exact HS0.out | exact ⟨HEb.out.cell (i := 0) rfl, HEb.out.cell (i := 1) rfl, HEb.out.cell (i := 2) rfl, HEb.out.cell (i := 3) rfl, (HMw.out _ _ HDb.out).1, (HMw.out _ _ HDb.out).2⟩ | exact ⟨(HEr.out _).cell (i := 0) rfl, (HEr.out _).cell (i := 1) rfl, (HEr.out _).cell (i := 2) rfl, (HEr.out _).cell (i := 3) rfl, (HMw.out _ _ HDf.out).1, (HMw.out _ _ HDf.out).2⟩) (fun _ => ?_)
           clear hK K
           refine wpAnyH_ready (rs := [24]) (by kernel_rfl) (by simp) ?_
           refine AllReadyH.cons (o := _) rfl (fun K hK => ?_) ?_
           ·go_simp
            refine (mix_any _ V LV.out a4 b4 c4 d4 HCl.out.1 HCl.out.2.1 HCl.out.2.2.1 HCl.out.2.2.2 x1 x2).mono ?_
            rintro e4 w4 ⟨rfl, hb4⟩
            (try go_wp2_with fail)
            have hbw : Below wz.heap.size wz w4 := (Below.refl _ wz).drew.trans hb4
            have HDb := Lib.hid (HDa.out.kept hbw)
            have HEb := Lib.hid (HEa.out.kept hbw)
            clear hbw hb4
            refine hko hK (by first | exact HS0.out | exact ⟨HEb.out.cell (i := 0) rfl, HEb.out.cell (i := 1) rfl, HEb.out.cell (i := 2) rfl, HEb.out.cell (i := 3) rfl, (HMw.out _ _ HDb.out).1, (HMw.out _ _ HDb.out).2⟩ | exact ⟨(HEr.out _).cell (i := 0) rfl, (HEr.out _).cell (i := 1) rfl, (HEr.out _).cell (i := 2) rfl, (HEr.out _).cell (i := 3) rfl, (HMw.out _ _ HDf.out).1, (HMw.out _ _ HDf.out).2⟩) (fun _ => ?_)
            clear hK K
            refine wpAnyH_ready (rs := [25]) (by kernel_rfl) (by simp) ?_
            refine AllReadyH.cons (o := _) rfl (fun K hK => ?_) ?_
            ·refine wp_store_row 251 (.tmp 13) (.tmp 115) rfl (G + 1) _ rfl rfl 251 _ HDb.out.v (Tryz.sizeV16 (by rw [mixW_len]; exact LV.out)) (by simp [mixW_len]) (u32_one _) ?_
             have HDf := Lib.hid (HDb.out.rowV (V' := mixW V a4 b4 c4 d4 x1 x2))
             have HEr := Lib.hid (fun cs => Blk.of_heap (w' := w4.setRow (G + 1) cs) (setRow_other w4 (G + 1) Ee cs (by have := HGE.out; omega)) HEb.out)
             refine hko hK (by first | exact HS0.out | exact ⟨HEb.out.cell (i := 0) rfl, HEb.out.cell (i := 1) rfl, HEb.out.cell (i := 2) rfl, HEb.out.cell (i := 3) rfl, (HMw.out _ _ HDb.out).1, (HMw.out _ _ HDb.out).2⟩ | exact ⟨(HEr.out _).cell (i := 0) rfl, (HEr.out _).cell (i := 1) rfl, (HEr.out _).cell (i := 2) rfl, (HEr.out _).cell (i := 3) rfl, (HMw.out _ _ HDf.out).1, (HMw.out _ _ HDf.out).2⟩) (fun _ => ?_)
             clear hK K
             refine wpAnyH_done (by kernel_rfl) ?_ _
             go_wp2_with fail
             go_roundw
             case rel => exact ⟨k + 1, by omega, by go_num, by rw [HRn.out, HSt2.out]; exact HDf.out⟩
             case measure => simp [intOf]; omega
            exact AllReadyH.nil
           exact AllReadyH.nil
          exact AllReadyH.nil
         ·obtain rfl : k = 8 := by omega
          have hkI : ¬ ((8 : Nat) : Int) < 8 := by omega
          go_wp2
          go_roundw
          case rel => exact ⟨r + 1, by omega, by go_num, by rw [show 8 * (r + 1) = 8 * r + 8 by omega]; exact HDk.out⟩
          case measure => simp [intOf]; omega
       ·obtain rfl : r = 10 := by omega
        have hrI : ¬ ((10 : Nat) : Int) < 10 := by omega
        obtain ⟨Vf, hVf⟩ : ∃ Vf, rndW M Vh (8 * 10) = Vf := ⟨_, rfl⟩
        have LVf : Hid (Vf.length = 16) := Lib.hid (by rw [← hVf, rndW_len, LVh.out])
        have HR2 : Hid (orunW H Vf 8 = R) := Lib.hid (by rw [orunW_all HH.out, ← hVf]; exact HR1.out)
        rw [hVf] at HD
        clear hVf HR1
        obtain ⟨wq, rfl⟩ : ∃ x, x = wr := ⟨_, rfl⟩
        go_wp2
        go_loopw [19] (fun x wr => ∃ i : Nat, i ≤ 8 ∧ x = .int .i64 (i : Int) ∧ DSt w wr G (orunW H Vf i) M Vf) (fun x _ => 8 - (intOf x).toNat)
        case atStart => exact ⟨0, by omega, rfl, HD.out⟩
        case round =>
         obtain ⟨i, hi, rfl, hst⟩ := hrel
         have HDi := Lib.hid hst
         clear hst HD
         by_cases h : i < 8
         ·have hiI : (i : Int) < 8 := by omega
          obtain ⟨j, hj⟩ : ∃ j, i + 8 = j := ⟨_, rfl⟩
          have hi16 : (i : Int) < 16 := by omega
          have hjI : (i : Int) + 8 = j := by omega
          have hjw : IntKind.i64.wrap (j : Int) = j := IntWalk.i64_in _ (by omega)
          have hjw2 : IntKind.i64.wrap ((i : Int) + 8) = j := by rw [hjI]; exact hjw
          have hj16 : (j : Int) < 16 := by omega
          have HLh : Hid ((orunW H Vf i).length = 8) := Lib.hid (by rw [orunW_len, HH.out])
          have cH := HDi.out.h.word (i := i) (by rw [HLh.out]; exact h)
          have fH := HDi.out.h.frozen i
          have cV := HDi.out.v.word (i := i) (by rw [LVf.out]; omega)
          have cV2 := HDi.out.v.word (i := j) (by rw [LVf.out]; omega)
          have HNx : Hid (orunW H Vf (i + 1) = (orunW H Vf i).set i (bits .xor .u32 (bits .xor .u32 (getW (orunW H Vf i) i) (getW Vf i)) (getW Vf j))) := Lib.hid (by rw [orunW, hj])
          generalize orunW H Vf i = Hi at *
          have HDn := Lib.hid ((HDi.out.setH (i := i) (by rw [HLh.out]; exact h) (bits .xor .u32 (bits .xor .u32 (getW Hi i) (getW Vf i)) (getW Vf j))).drew)
          generalize getW Hi i = t1 at *
          generalize getW Vf i = t2 at *
          generalize getW Vf j = t3 at *
          clear hj
          go_upto_region 31 with fail
          go_still_tail 14, (by kernel_rfl)
          go_wp2
          go_roundw
          case rel => exact ⟨i + 1, by omega, by go_num, by rw [HNx.out]; exact HDn.out⟩
          case measure => simp [intOf]; omega
         ·obtain rfl : i = 8 := by omega
          have hiI : ¬ ((8 : Nat) : Int) < 8 := by omega
          rw [HR2.out] at HDi
          have HLR : Hid (R.length = 8) := Lib.hid (by rw [← HR2.out, orunW_len, HH.out])
          go_upto_region 32 with fail
          refine wp_region_lit ?_
          refine wpList_load_row rfl 176 (.tmp 4) rfl w.heap.size rfl 176 _ (0, 0) _ HDi.out.h Tryz.underlying176 rfl (Tryz.sizeV8 HLR.out) ?_
          refine wpList_store_row rfl 176 (.tmp 8) (.tmp 134) rfl (w.heap.size + 1) _ rfl rfl 176 _ HDi.out.r (Tryz.sizeV8 HLR.out) (by simp [HLR.out]) (u32_one _) ?_
          go_wp2_with fail
          refine bodyPost_ret (results_row_tmp rfl _ _ (w.heap.size + 1) 176 _ (0, 0) _ rfl (setRow_heap _ _ _ _ _ _ HDi.out.r) Tryz.underlying176 rfl (Tryz.sizeV8 HLR.out)) rfl ?_
          exact ⟨rfl, below_setRow HDi.out.below (by omega) _⟩
theorem comp_spec : CompSpec := fun w H s cnt last hH hs hc => compress_any w H hH s hs cnt hc last
theorem str1 {w0 W : World} (_ : Below w0.heap.size w0 W) (s : ByteArray) : SeqAt strS (W.alloc (.cells #[.string s] 9)) (.slice (some ⟨W.heap.size, 0, none⟩) 1 1) [s] := by
 refine ⟨_, _, rfl, Nat.le_refl _, by decide, fun i x hx => ?_⟩
 cases i with
 | zero =>
  obtain rfl : s = x := by simpa using hx
  refine ⟨_, _, [.string s], rfl, rfl, fun j u hu => ?_⟩
  have := (Blk.new W 9 [.string s]).cell hu
  simpa using this
 | succ i => simp at hx
end
end Go.Proofs.YtbccghbngaiceaaGreatDoor
namespace Go.Proofs
section
open Go.Shelf
def Tryz.laysC172_ren : Go.Shelf.Ren := ⟨fun | 172 => 196 | 244 => 286 | 245 => 287 | 247 => 351 | 279 => 352 | 280 => 353 | 281 => 354 | 282 => 355 | 287 => 324 | 316 => 400 | 171 => 91 | 205 => 401 | 321 => 379 | 322 => 380 | 243 => 176 | 246 => 270 | 283 => 337 | 284 => 338 | 285 => 339 | 286 => 340 | 129 => 224 | 317 => 390 | 318 => 391 | 319 => 392 | 320 => 393 | 337 => 428 | 338 => 429 | n => n, fun | 9 => 9 | 3 => 3 | 75 => 114 | 76 => 115 | 4 => 4 | 5 => 5 | 167 => 397 | 37 => 110 | 0 => 0 | 85 => 398 | 2 => 2 | 168 => 400 | 53 => 180 | 175 => 320 | 46 => 181 | 210 => 436 | 127 => 172 | 145 => 462 | 143 => 460 | 21 => 21 | 171 => 385 | 173 => 387 | 212 => 430 | 51 => 23 | 20 => 20 | 213 => 431 | 232 => 470 | 233 => 471 | 80 => 121 | n => n, fun | 15 => 2 | 16 => 3 | 17 => 1 | 18 => 6 | 19 => 7 | n => n⟩
theorem Tryz.laysC172 : Go.Proofs.LaysC.n172 Tryz.prog Tryz.laysC172_ren := {
  mixed := by kernel_rfl
  f129 := Tryz.func224.trans (congrArg some (by kernel_rfl))
  f171 := Tryz.func91.trans (congrArg some (by kernel_rfl))
  f172 := Tryz.func196.trans (congrArg some (by kernel_rfl))
  f205 := Tryz.func401.trans (congrArg some (by kernel_rfl))
  f243 := Tryz.func176.trans (congrArg some (by kernel_rfl))
  f244 := Tryz.func286.trans (congrArg some (by kernel_rfl))
  f245 := Tryz.func287.trans (congrArg some (by kernel_rfl))
  f246 := Tryz.func270.trans (congrArg some (by kernel_rfl))
  f247 := Tryz.func351.trans (congrArg some (by kernel_rfl))
  f279 := Tryz.func352.trans (congrArg some (by kernel_rfl))
  f280 := Tryz.func353.trans (congrArg some (by kernel_rfl))
  f281 := Tryz.func354.trans (congrArg some (by kernel_rfl))
  f282 := Tryz.func355.trans (congrArg some (by kernel_rfl))
  f283 := Tryz.func337.trans (congrArg some (by kernel_rfl))
  f284 := Tryz.func338.trans (congrArg some (by kernel_rfl))
  f285 := Tryz.func339.trans (congrArg some (by kernel_rfl))
  f286 := Tryz.func340.trans (congrArg some (by kernel_rfl))
  f287 := Tryz.func324.trans (congrArg some (by kernel_rfl))
  f316 := Tryz.func400.trans (congrArg some (by kernel_rfl))
  f317 := Tryz.func390.trans (congrArg some (by kernel_rfl))
  f318 := Tryz.func391.trans (congrArg some (by kernel_rfl))
  f319 := Tryz.func392.trans (congrArg some (by kernel_rfl))
  f320 := Tryz.func393.trans (congrArg some (by kernel_rfl))
  f321 := Tryz.func379.trans (congrArg some (by kernel_rfl))
  f322 := Tryz.func380.trans (congrArg some (by kernel_rfl))
  f337 := Tryz.func428.trans (congrArg some (by kernel_rfl))
  f338 := Tryz.func429.trans (congrArg some (by kernel_rfl))
  t0 := Tryz.underlying0
  a0 := Tryz.isAgg0
  z0 := Tryz.sizeOf0
  v0 := Tryz.zeroValue0
  t2 := Tryz.underlying2
  a2 := Tryz.isAgg2
  z2 := Tryz.sizeOf2
  v2 := Tryz.zeroValue2
  t3 := Tryz.underlying3
  a3 := Tryz.isAgg3
  z3 := Tryz.sizeOf3
  v3 := Tryz.zeroValue3
  t4 := Tryz.underlying4
  a4 := Tryz.isAgg4
  z4 := Tryz.sizeOf4
  v4 := Tryz.zeroValue4
  t5 := Tryz.underlying5
  a5 := Tryz.isAgg5
  z5 := Tryz.sizeOf5
  v5 := Tryz.zeroValue5
  t9 := Tryz.underlying9
  a9 := Tryz.isAgg9
  z9 := Tryz.sizeOf9
  v9 := Tryz.zeroValue9
  t20 := Tryz.underlying20
  a20 := Tryz.isAgg20
  z20 := Tryz.sizeOf20
  v20 := Tryz.zeroValue20
  t21 := Tryz.underlying21
  a21 := Tryz.isAgg21
  z21 := Tryz.sizeOf21
  v21 := Tryz.zeroValue21
  t37 := Tryz.underlying110
  a37 := Tryz.isAgg110
  z37 := Tryz.sizeOf110
  v37 := Tryz.zeroValue110
  t46 := Tryz.underlying181
  a46 := Tryz.isAgg181
  z46 := Tryz.sizeOf181
  v46 := Tryz.zeroValue181
  t51 := Tryz.underlying23
  a51 := Tryz.isAgg23
  z51 := Tryz.sizeOf23
  v51 := Tryz.zeroValue23
  t53 := Tryz.underlying180
  a53 := Tryz.isAgg180
  z53 := Tryz.sizeOf180
  v53 := Tryz.zeroValue180
  t75 := Tryz.underlying114
  a75 := Tryz.isAgg114
  z75 := Tryz.sizeOf114
  v75 := Tryz.zeroValue114
  t76 := Tryz.underlying115
  a76 := Tryz.isAgg115
  z76 := Tryz.sizeOf115
  v76 := Tryz.zeroValue115
  t85 := Tryz.underlying398
  a85 := Tryz.isAgg398
  z85 := Tryz.sizeOf398
  v85 := Tryz.zeroValue398
  t127 := Tryz.underlying172
  a127 := Tryz.isAgg172
  z127 := Tryz.sizeOf172
  v127 := Tryz.zeroValue172
  t143 := Tryz.underlying460
  a143 := Tryz.isAgg460
  z143 := Tryz.sizeOf460
  v143 := Tryz.zeroValue460
  t145 := Tryz.underlying462
  a145 := Tryz.isAgg462
  z145 := Tryz.sizeOf462
  v145 := Tryz.zeroValue462
  t167 := Tryz.underlying397
  a167 := Tryz.isAgg397
  z167 := Tryz.sizeOf397
  v167 := Tryz.zeroValue397
  t168 := Tryz.underlying400
  a168 := Tryz.isAgg400
  z168 := Tryz.sizeOf400
  v168 := Tryz.zeroValue400
  t171 := Tryz.underlying385
  a171 := Tryz.isAgg385
  z171 := Tryz.sizeOf385
  v171 := Tryz.zeroValue385
  t173 := Tryz.underlying387
  a173 := Tryz.isAgg387
  z173 := Tryz.sizeOf387
  v173 := Tryz.zeroValue387
  t175 := Tryz.underlying320
  a175 := Tryz.isAgg320
  z175 := Tryz.sizeOf320
  v175 := Tryz.zeroValue320
  t210 := Tryz.underlying436
  a210 := Tryz.isAgg436
  z210 := Tryz.sizeOf436
  v210 := Tryz.zeroValue436
  t212 := Tryz.underlying430
  a212 := Tryz.isAgg430
  z212 := Tryz.sizeOf430
  v212 := Tryz.zeroValue430
  t213 := Tryz.underlying431
  a213 := Tryz.isAgg431
  z213 := Tryz.sizeOf431
  t232 := Tryz.underlying470
  a232 := Tryz.isAgg470
  z232 := Tryz.sizeOf470
  v232 := Tryz.zeroValue470
  t233 := Tryz.underlying471
  a233 := Tryz.isAgg471
  z233 := Tryz.sizeOf471
  v233 := Tryz.zeroValue471
  g15 := by kernel_rfl
  g16 := by kernel_rfl
  g17 := by kernel_rfl
  g18 := by kernel_rfl
  g19 := by kernel_rfl
  t80 := Tryz.underlying121
  a80 := Tryz.isAgg121
  z80 := Tryz.sizeOf121
  v80 := Tryz.zeroValue121
  i0 := by kernel_rfl
  i2 := by kernel_rfl
  i3 := by kernel_rfl
  i4 := by kernel_rfl
  i5 := by kernel_rfl
  i9 := by kernel_rfl
  i20 := by kernel_rfl
  i21 := by kernel_rfl
  i37 := by kernel_rfl
  i46 := by kernel_rfl
  i51 := by kernel_rfl
  i53 := by kernel_rfl
  i75 := by kernel_rfl
  i76 := by kernel_rfl
  i80 := by kernel_rfl
  i85 := by kernel_rfl
  i127 := by kernel_rfl
  i143 := by kernel_rfl
  i145 := by kernel_rfl
  i167 := by kernel_rfl
  i168 := by kernel_rfl
  i171 := by kernel_rfl
  i173 := by kernel_rfl
  i175 := by kernel_rfl
  i210 := by kernel_rfl
  i212 := by kernel_rfl
  i232 := by kernel_rfl
  i233 := by kernel_rfl
  m15 := by kernel_rfl
  m16 := by kernel_rfl
  m17 := by kernel_rfl
  m18 := by kernel_rfl
  m19 := by kernel_rfl
  c0 := by kernel_rfl
  c2 := by kernel_rfl
  c3 := by kernel_rfl
  c4 := by kernel_rfl
  c5 := by kernel_rfl
  c9 := by kernel_rfl
  c20 := by kernel_rfl
  c21 := by kernel_rfl
  c37 := by kernel_rfl
  c46 := by kernel_rfl
  c51 := by kernel_rfl
  c53 := by kernel_rfl
  c75 := by kernel_rfl
  c76 := by kernel_rfl
  c80 := by kernel_rfl
  c85 := by kernel_rfl
  c127 := by kernel_rfl
  c143 := by kernel_rfl
  c145 := by kernel_rfl
  c167 := by kernel_rfl
  c168 := by kernel_rfl
  c171 := by kernel_rfl
  c173 := by kernel_rfl
  c175 := by kernel_rfl
  c210 := by kernel_rfl
  c212 := by kernel_rfl
  c213 := by kernel_rfl
  c232 := by kernel_rfl
  c233 := by kernel_rfl }
open Go.RowKit in
theorem Tryz.strconv_Atoi_ok (s : ByteArray) (hmax : s.size ≤ 9223372036854775806) (v : Int) (h : Lib.atoiAll s.data.toList = .ok v) (w : World) :
    Calls Tryz.prog 196 #[.string s] w fun e w' => e = .returned (.tuple #[.int .i64 v, .nilIface]) ∧ (w' = w ∨ ∃ t, w' = Lib.bytesWorld w 5 t) := Any.strconv_Atoi_ok Tryz.laysC172 s hmax v h w
open Go.RowKit in
theorem Tryz.strconv_Atoi_syn_var (s : ByteArray) (hlim : s.size ≤ 281474976710656) (h : Lib.atoiAll s.data.toList = Lib.atoiAll []) (tp : TypeId) (p : Value) (w : World) (hvar : w.var? Tryz.prog "strconv.ErrSyntax" = some #[.iface tp p]) :
    Calls Tryz.prog 196 #[.string s] w fun e w' => ∃ N, e = .returned (.tuple #[.int .i64 0, .iface 400 (.pointer (some ⟨N, 0, none⟩))]) ∧ w.heap.size ≤ N ∧ w'.heap[N]? = some (.cells #[.string ⟨#[65, 116, 111, 105]⟩, .string s, .iface tp p] 436 (0, 0)) ∧ Below w.heap.size w w' := Any.strconv_Atoi_syntax_var Tryz.laysC172 s hlim (h.trans rfl) tp p w hvar
open Go.RowKit in
theorem Tryz.strconv_Atoi_range_var (s : ByteArray) (hlim : s.size ≤ 281474976710656) (h : Lib.atoiAll s.data.toList = .range) (tp : TypeId) (p : Value) (w : World) (hvar : w.var? Tryz.prog "strconv.ErrRange" = some #[.iface tp p]) :
    Calls Tryz.prog 196 #[.string s] w fun e w' => ∃ N, e = .returned (.tuple #[.int .i64 (Lib.atoiSat s.data.toList), .iface 400 (.pointer (some ⟨N, 0, none⟩))]) ∧ w.heap.size ≤ N ∧ w'.heap[N]? = some (.cells #[.string ⟨#[65, 116, 111, 105]⟩, .string s, .iface tp p] 436 (0, 0)) ∧ Below w.heap.size w w' := Any.strconv_Atoi_range_var Tryz.laysC172 s hlim h tp p w hvar
end
end Go.Proofs
