/-
  Joined: CrcA Shelf PolA Shelh.
-/
import Derived.Test.YtbccghbngaiceaaGreatDoorMMn00
import Derived.Laws.CopyOwn
import Derived.Shelf.Strings.BuilderK
import Derived.Shelf.Utf8.RuneCount
import Derived.Shelf.Strings.Shaped
import Derived.Shelf.Strings.Explode
import Derived.Shelf.Strings.Repeat
import Derived.Shelf.Strings.SlTrimAscii
import Derived.Shelf.Strings.OnBuilder
import Derived.Shelf.Strconv.Itoa3
import Derived.Shelf.Strconv.ErrVarAll
import Derived.Shelf.Strings.SplitShaped
import Derived.Shelf.Strings.FuncGrows
set_option linter.all false
set_option maxRecDepth 100000
set_option maxHeartbeats 64000000
namespace Go.Proofs.YtbccghbngaiceaaGreatDoor
section
open Go.RowKit
def bs (s : ByteArray) : List Nat := s.data.toList.map (·.toNat)
theorem bs_len (s : ByteArray) : (bs s).length = s.size := by unfold bs; rw [List.length_map]; rfl
theorem bs_lt (s : ByteArray) : ∀ b ∈ bs s, b < 256 := by
 intro b hb
 obtain ⟨x, _, rfl⟩ := List.mem_map.1 hb
 exact UInt8.toNat_lt x
def strB (l : List Nat) : ByteArray := ⟨(l.map UInt8.ofNat).toArray⟩
theorem ret_bool' {a b : Bool} (h : a = b) : Ending.returned (.bool a) = .returned (.bool b) := by rw [h]
theorem bs_strB {l : List Nat} (h : ∀ b ∈ l, b < 256) : bs (strB l) = l := by
 unfold bs strB
 rw [List.toList_toArray, List.map_map]
 conv => rhs; rw [← List.map_id l]
 refine List.map_congr_left fun b hb => ?_
 simp only [Function.comp_apply, id_eq]
 exact Nat.mod_eq_of_lt (h b hb)
theorem strB_bs (s : ByteArray) : strB (bs s) = s := by
 unfold bs strB
 rw [List.map_map]
 have : (s.data.toList.map ((fun x => UInt8.ofNat x) ∘ fun x => x.toNat)) = s.data.toList := by
  conv => rhs; rw [← List.map_id s.data.toList]
  refine List.map_congr_left fun b _ => ?_
  simp
 have e : (s.data.toList.map (UInt8.ofNat ∘ fun x => x.toNat)) = s.data.toList := this
 rw [e]
theorem bs_extract (s : ByteArray) (i j : Nat) : bs (s.extract i j) = ((bs s).take j).drop i := by
 unfold bs
 rw [ByteArray.data_extract, Array.toList_extract, List.extract_eq_take_drop, ← List.map_take, ← List.map_drop, List.drop_take]
theorem strB_size (l : List Nat) : (strB l).size = l.length := by
 unfold strB
 show (List.toArray _).size = _
 simp
theorem bs_get (s : ByteArray) (i : Nat) (h : i < s.size) : (bs s)[i]? = some (s[i]'h).toNat := by
 have hl : i < s.data.toList.length := h
 unfold bs
 rw [List.getElem?_map, List.getElem?_eq_getElem hl]
 rfl
abbrev u8V (x : Nat) : Value := .int .u8 (x : Int)
abbrev BytesAt (w : World) (v : Value) (xs : List Nat) : Prop := SlAt (PlainR u8V) w v xs
theorem SlAt.nil {α : Type} {R : World → Value → α → Prop} (w : World) : SlAt R w (.slice none 0 0) [] :=
 ⟨none, 0, rfl, Nat.le_refl _, by omega, fun i x h => by cases h⟩
theorem SlAt.cell {α : Type} {f : α → Value} {w : World} {A : Option Addr} {n c : Nat} {xs : List α} (h : SlAt (PlainR f) w (.slice A n c) xs) {i : Nat} {x : α} (hi : xs[i]? = some x) : ∃ b o, A = some ⟨b, o, none⟩ ∧ w.cell? ⟨b, o + i, none⟩ = some (f x) := by
 obtain ⟨A', c', e, _, _, h3⟩ := h
 cases e
 obtain ⟨b, o, u, rfl, hc, rfl⟩ := h3 i x hi
 exact ⟨b, o, rfl, hc⟩
def Blk (w : World) (g : Nat) (t : TypeId) (us : List Value) : Prop := w.heap[g]? = some (.cells us.toArray t (0, 0))
section
variable {w w' : World} {g : Nat} {t : TypeId} {us : List Value}
theorem Blk.lt (h : Blk w g t us) : g < w.heap.size := (Array.getElem?_eq_some_iff.1 h).1
theorem Blk.cell (h : Blk w g t us) {i : Nat} {u : Value} (hi : us[i]? = some u) : w.cell? ⟨g, i, none⟩ = some u := by
 unfold Blk at h
 simp only [World.cell?, h]
 simpa using hi
theorem Blk.frozen (h : Blk w g t us) (i : Nat) : w.frozen? ⟨g, i, none⟩ = false := by
 unfold Blk at h
 simp [World.frozen?, h]
theorem Blk.new (w : World) (t : TypeId) (us : List Value) : Blk (w.alloc (.cells us.toArray t)) w.heap.size t us := by
 show (w.heap.push _)[w.heap.size]? = _
 simp
theorem Blk.of_heap (h : w'.heap[g]? = w.heap[g]?) (hb : Blk w g t us) : Blk w' g t us := h.trans hb
theorem Blk.below {B : Nat} (h : Blk w g t us) (hb : Below B w w') (hg : g < B) : Blk w' g t us := (hb.block g hg).trans h
theorem Blk.kept (h : Blk w g t us) (hb : Below w.heap.size w w') : Blk w' g t us := (hb.block g h.lt).trans h
theorem Blk.alloc (h : Blk w g t us) (o : Obj) : Blk (w.alloc o) g t us := h.kept ((Below.refl _ _).alloc (Nat.le_refl _) _)
theorem Blk.set (h : Blk w g t us) (i : Nat) (u : Value) : Blk (w.setCell ⟨g, i, none⟩ u) g t (us.set i u) := by
 unfold Blk at h ⊢
 simp [World.setCell, Array.getElem?_modify, h]
theorem Blk.far (h : Blk w g t us) {p : Addr} (hp : g ≠ p.block) (u : Value) : Blk (w.setCell p u) g t us := (Below.heap_setCell w p u g hp).trans h
end
def arrB (xs : List Nat) : Array Value := (xs.map u8V).toArray
theorem Tryz.infoU8 : (Tryz.prog.info? 5).map (fun i => (i.zero, i.size, i.bytes)) = some (some (.int .u8 0), 1, 1) := by kernel_rfl
theorem make_u8 (n c : Nat) (hnc : n ≤ c) (hc : c ≤ 1000000) (w : World) : (Instr.makeSlice 110 (.int .i64 (n : Int)) (.int .i64 (c : Int))).run Tryz.prog w = .ok (.slice (some ⟨w.heap.size, 0, none⟩) n c) (w.alloc (.cells (arrB (List.replicate c 0)) 5)) := by
 obtain ⟨i0, hi, hz0, hz1, hz2⟩ := info_parts Tryz.infoU8
 have hr := run_make (P := Tryz.prog) w 110 5 i0 (.int .u8 0) Tryz.underlying110 hi hz0 .i64 .i64 n c (by omega) (by omega) (by rw [hz2]; omega) (by omega)
 rw [hr, hz1]
 have e : madeCells (Value.int .u8 0).cells ((c : Int).toNat * 1) = arrB (List.replicate c 0) := by
  show madeCells #[Value.int .u8 0] _ = _
  unfold madeCells arrB
  rw [Nat.mul_one, Int.toNat_natCast, List.map_replicate]
  refine Array.ext (by simp) fun i h1 h2 => ?_
  simp [Nat.mod_one]
 rw [e]
 rfl
end
section
open Go.RowKit
theorem BytesAt.of_own {w : World} {base n : Nat} {v : Value} {xs : List Nat} (h : w.ownsRow base 5 1 v n (xs.map u8V)) : BytesAt w v xs := by
 obtain ⟨hl, h⟩ := h
 have hn : xs.length = n := by simpa using hl
 rcases h with ⟨rfl, h0⟩ | ⟨g, cap, cur, rfl, hb, hh, hnc, hm, hsz, htk⟩
 ·have : xs = [] := List.eq_nil_of_length_eq_zero (by omega)
  subst this
  exact SlAt.nil w
 ·refine ⟨some ⟨g, 0, none⟩, cap, by rw [hn], by omega, hm, fun i x hx => ⟨g, 0, u8V x, rfl, ?_, rfl⟩⟩
  have h2 : (xs.map u8V)[i]? = some (u8V x) := by rw [List.getElem?_map, hx]; rfl
  rw [← htk, List.getElem?_take] at h2
  split at h2
  ·simp only [World.cell?, hh, Nat.zero_add]
   simpa using h2
  ·cases h2
theorem BytesAt.cell {w : World} {A : Option Addr} {n c : Nat} {xs : List Nat} (h : BytesAt w (.slice A n c) xs) {i x : Nat} (hi : xs[i]? = some x) : ∃ b o, A = some ⟨b, o, none⟩ ∧ w.cell? ⟨b, o + i, none⟩ = some (.int .u8 (x : Int)) := SlAt.cell h hi
theorem still_of {P : Program} {f : FuncId} {args : Array Value} {w : World} {v : Value} (h : Calls P f args w fun e w' => e = .returned v ∧ w = w') : Calls P f args w fun e w' => e = .returned v ∧ w' = w :=
 h.mono fun _ _ ⟨he, hw⟩ => ⟨he, hw.symm⟩
theorem run_toStr {W : World} {A : Option Addr} {n c : Nat} {p : List Nat} (h : BytesAt W (.slice A n c) p) (hn : n = p.length) : (convert 110 9 (.slice A n c)).run Tryz.prog W = .ok (.string (strB p)) W := by
 subst hn
 cases A with
 | none =>
  have hp : p = [] := by
   cases p with
   | nil => rfl
   | cons x r => obtain ⟨_, _, e, _⟩ := BytesAt.cell h (i := 0) rfl; cases e
  subst hp
  exact run_convert_bytes_nil (P := Tryz.prog) W 110 5 Tryz.underlying110 Tryz.underlying5 _ _ 9 Tryz.underlying9
 | some ad =>
  obtain ⟨b, o, f⟩ := ad
  by_cases hp : p = []
  ·subst hp
   have hl : (loadCells ⟨b, o, f⟩ 0).run Tryz.prog W = .ok #[] W := by simpa using run_loadCells_list (P := Tryz.prog) W ⟨b, o, f⟩ [] (by simp)
   show (convert 110 9 (.slice (some ⟨b, o, f⟩) 0 c)).run Tryz.prog W = _
   rw [run_convert_bytes_string W 110 9 5 _ 0 c Tryz.underlying110 Tryz.underlying5 Tryz.underlying9, run_bytesToString W _ 0 c [] hl]
   rfl
  ·obtain ⟨x, hx⟩ : ∃ x, p[0]? = some x := by
    cases p with
    | nil => exact absurd rfl hp
    | cons x r => exact ⟨x, rfl⟩
   obtain ⟨b', o', e, _⟩ := BytesAt.cell h hx
   cases e
   have hr := run_convert_bytes_arg (P := Tryz.prog) W 110 5 Tryz.underlying110 Tryz.underlying5 b o p.length c (p.map fun x : Nat => (x : Int)) (by simp) (fun i hi => by
    obtain ⟨b1, o1, e1, hc⟩ := BytesAt.cell h (List.getElem?_eq_getElem hi)
    cases e1
    rw [hc]
    simp [List.getD, List.getElem?_eq_getElem hi]) 9 Tryz.underlying9
   have e : strOfNums (p.map fun x : Nat => (x : Int)) = strB p := by
    unfold strOfNums strB
    rw [List.map_map]
    rfl
   rw [hr, e]
end
end Go.Proofs.YtbccghbngaiceaaGreatDoor
namespace Go.Proofs
section
open Go.Shelf
def Tryz.lays169_ren : Go.Shelf.Ren := ⟨fun | 169 => 52 | n => n, fun | 70 => 109 | 9 => 9 | 0 => 0 | 72 => 112 | 37 => 110 | 127 => 172 | 3 => 3 | 5 => 5 | n => n, fun | n => n⟩
theorem Tryz.lays169 : Go.Proofs.Lays.n169 Tryz.prog Tryz.lays169_ren := {
  mixed := by kernel_rfl
  f169 := Tryz.func52.trans (congrArg some (by kernel_rfl))
  t0 := Tryz.underlying0
  a0 := Tryz.isAgg0
  z0 := Tryz.sizeOf0
  v0 := Tryz.zeroValue0
  t3 := Tryz.underlying3
  a3 := Tryz.isAgg3
  z3 := Tryz.sizeOf3
  v3 := Tryz.zeroValue3
  t9 := Tryz.underlying9
  a9 := Tryz.isAgg9
  z9 := Tryz.sizeOf9
  v9 := Tryz.zeroValue9
  t37 := Tryz.underlying110
  a37 := Tryz.isAgg110
  z37 := Tryz.sizeOf110
  v37 := Tryz.zeroValue110
  t70 := Tryz.underlying109
  a70 := Tryz.isAgg109
  z70 := Tryz.sizeOf109
  v70 := Tryz.zeroValue109
  t72 := Tryz.underlying112
  a72 := Tryz.isAgg112
  z72 := Tryz.sizeOf112
  v72 := Tryz.zeroValue112
  t127 := Tryz.underlying172
  a127 := Tryz.isAgg172
  z127 := Tryz.sizeOf172
  v127 := Tryz.zeroValue172 }
theorem Tryz.Builder_Extra_169 : Builder.Extra Tryz.prog Tryz.lays169_ren := {
  sizeBuilder := by kernel_rfl
  liesBuilder := by kernel_rfl
  t5 := Tryz.underlying5
  a5 := Tryz.isAgg5
  z5 := Tryz.sizeOf5
  v5 := Tryz.zeroValue5
  infoByte := by kernel_rfl
  cellsByte := by kernel_rfl
  sizeByte := by kernel_rfl
  neB5 := by decide }
def Tryz.lays160_ren : Go.Shelf.Ren := ⟨fun | 160 => 195 | 232 => 280 | 231 => 279 | 227 => 281 | 234 => 283 | 233 => 282 | 236 => 285 | 235 => 284 | 228 => 347 | 271 => 350 | 151 => 349 | 197 => 348 | 120 => 399 | 152 => 398 | 260 => 397 | 137 => 311 | 119 => 432 | 224 => 433 | 225 => 434 | 217 => 372 | 266 => 422 | n => n, fun | 9 => 9 | 4 => 4 | 3 => 3 | 5 => 5 | 117 => 339 | 116 => 338 | 0 => 0 | 124 => 342 | 21 => 21 | 105 => 394 | 46 => 181 | 119 => 456 | 139 => 459 | 138 => 458 | n => n, fun | 3 => 4 | 4 => 5 | n => n⟩
theorem Tryz.lays160 : Go.Proofs.Lays.n160 Tryz.prog Tryz.lays160_ren := {
  mixed := by kernel_rfl
  f119 := Tryz.func432.trans (congrArg some (by kernel_rfl))
  f120 := Tryz.func399.trans (congrArg some (by kernel_rfl))
  f137 := Tryz.func311.trans (congrArg some (by kernel_rfl))
  f151 := Tryz.func349.trans (congrArg some (by kernel_rfl))
  f152 := Tryz.func398.trans (congrArg some (by kernel_rfl))
  f160 := Tryz.func195.trans (congrArg some (by kernel_rfl))
  f197 := Tryz.func348.trans (congrArg some (by kernel_rfl))
  f217 := Tryz.func372.trans (congrArg some (by kernel_rfl))
  f224 := Tryz.func433.trans (congrArg some (by kernel_rfl))
  f225 := Tryz.func434.trans (congrArg some (by kernel_rfl))
  f227 := Tryz.func281.trans (congrArg some (by kernel_rfl))
  f228 := Tryz.func347.trans (congrArg some (by kernel_rfl))
  f231 := Tryz.func279.trans (congrArg some (by kernel_rfl))
  f232 := Tryz.func280.trans (congrArg some (by kernel_rfl))
  f233 := Tryz.func282.trans (congrArg some (by kernel_rfl))
  f234 := Tryz.func283.trans (congrArg some (by kernel_rfl))
  f235 := Tryz.func284.trans (congrArg some (by kernel_rfl))
  f236 := Tryz.func285.trans (congrArg some (by kernel_rfl))
  f260 := Tryz.func397.trans (congrArg some (by kernel_rfl))
  f266 := Tryz.func422.trans (congrArg some (by kernel_rfl))
  f271 := Tryz.func350.trans (congrArg some (by kernel_rfl))
  t0 := Tryz.underlying0
  a0 := Tryz.isAgg0
  z0 := Tryz.sizeOf0
  v0 := Tryz.zeroValue0
  t3 := Tryz.underlying3
  a3 := Tryz.isAgg3
  z3 := Tryz.sizeOf3
  v3 := Tryz.zeroValue3
  t4 := Tryz.underlying4
  a4 := Tryz.isAgg4
  z4 := Tryz.sizeOf4
  v4 := Tryz.zeroValue4
  t5 := Tryz.underlying5
  a5 := Tryz.isAgg5
  z5 := Tryz.sizeOf5
  v5 := Tryz.zeroValue5
  t9 := Tryz.underlying9
  a9 := Tryz.isAgg9
  z9 := Tryz.sizeOf9
  v9 := Tryz.zeroValue9
  t21 := Tryz.underlying21
  a21 := Tryz.isAgg21
  z21 := Tryz.sizeOf21
  v21 := Tryz.zeroValue21
  t46 := Tryz.underlying181
  a46 := Tryz.isAgg181
  z46 := Tryz.sizeOf181
  v46 := Tryz.zeroValue181
  t105 := Tryz.underlying394
  a105 := Tryz.isAgg394
  z105 := Tryz.sizeOf394
  v105 := Tryz.zeroValue394
  t116 := Tryz.underlying338
  a116 := Tryz.isAgg338
  z116 := Tryz.sizeOf338
  t117 := Tryz.underlying339
  a117 := Tryz.isAgg339
  z117 := Tryz.sizeOf339
  v117 := Tryz.zeroValue339
  t119 := Tryz.underlying456
  a119 := Tryz.isAgg456
  z119 := Tryz.sizeOf456
  t124 := Tryz.underlying342
  a124 := Tryz.isAgg342
  z124 := Tryz.sizeOf342
  v124 := Tryz.zeroValue342
  t138 := Tryz.underlying458
  a138 := Tryz.isAgg458
  z138 := Tryz.sizeOf458
  v138 := Tryz.zeroValue458
  t139 := Tryz.underlying459
  a139 := Tryz.isAgg459
  z139 := Tryz.sizeOf459
  v139 := Tryz.zeroValue459
  g3 := by kernel_rfl
  g4 := by kernel_rfl }
open Go.RowKit in
theorem Tryz.Builder_String_any_k (B b : Nat) (l : List UInt8) (w : World) (h : Lib.IsBuilderF 112 5 B b (Lib.byteCells l) w) (hBw : B ≤ w.heap.size) :
    Calls Tryz.prog 52 #[.pointer (some ⟨b, 0, none⟩)] w fun e w' => e = .returned (.string ⟨l.toArray⟩) ∧ (Lib.IsBuilderF 112 5 B b (Lib.byteCells l) w' ∧ Below B w w' ∧ Lib.OthersKept 5 (some b) w w') := Any.Builder_String_any_k Tryz.lays169 Tryz.Builder_Extra_169 B b l w h hBw
def Tryz.lays105_ren : Go.Shelf.Ren := ⟨fun | 105 => 79 | 212 => 159 | 99 => 160 | 165 => 161 | 166 => 47 | 170 => 97 | 169 => 52 | 263 => 243 | 264 => 244 | 206 => 245 | 240 => 90 | 241 => 246 | 276 => 175 | 277 => 318 | n => n, fun | 9 => 9 | 3 => 3 | 4 => 4 | 20 => 20 | 0 => 0 | 46 => 181 | 109 => 231 | 5 => 5 | 72 => 112 | 76 => 115 | 51 => 23 | 146 => 306 | 53 => 180 | 148 => 308 | 70 => 109 | 37 => 110 | 75 => 114 | 127 => 172 | 164 => 247 | 80 => 121 | n => n, fun | n => n⟩
theorem Tryz.lays105 : Go.Proofs.Lays.n105 Tryz.prog Tryz.lays105_ren := {
  mixed := by kernel_rfl
  f99 := Tryz.func160.trans (congrArg some (by kernel_rfl))
  f105 := Tryz.func79.trans (congrArg some (by kernel_rfl))
  f165 := Tryz.func161.trans (congrArg some (by kernel_rfl))
  f166 := Tryz.func47.trans (congrArg some (by kernel_rfl))
  f169 := Tryz.func52.trans (congrArg some (by kernel_rfl))
  f170 := Tryz.func97.trans (congrArg some (by kernel_rfl))
  f206 := Tryz.func245.trans (congrArg some (by kernel_rfl))
  f212 := Tryz.func159.trans (congrArg some (by kernel_rfl))
  f240 := Tryz.func90.trans (congrArg some (by kernel_rfl))
  f241 := Tryz.func246.trans (congrArg some (by kernel_rfl))
  f263 := Tryz.func243.trans (congrArg some (by kernel_rfl))
  f264 := Tryz.func244.trans (congrArg some (by kernel_rfl))
  f276 := Tryz.func175.trans (congrArg some (by kernel_rfl))
  f277 := Tryz.func318.trans (congrArg some (by kernel_rfl))
  t0 := Tryz.underlying0
  a0 := Tryz.isAgg0
  z0 := Tryz.sizeOf0
  v0 := Tryz.zeroValue0
  t3 := Tryz.underlying3
  a3 := Tryz.isAgg3
  z3 := Tryz.sizeOf3
  v3 := Tryz.zeroValue3
  t4 := Tryz.underlying4
  a4 := Tryz.isAgg4
  z4 := Tryz.sizeOf4
  v4 := Tryz.zeroValue4
  t5 := Tryz.underlying5
  a5 := Tryz.isAgg5
  z5 := Tryz.sizeOf5
  v5 := Tryz.zeroValue5
  t9 := Tryz.underlying9
  a9 := Tryz.isAgg9
  z9 := Tryz.sizeOf9
  v9 := Tryz.zeroValue9
  t20 := Tryz.underlying20
  a20 := Tryz.isAgg20
  z20 := Tryz.sizeOf20
  v20 := Tryz.zeroValue20
  t37 := Tryz.underlying110
  a37 := Tryz.isAgg110
  z37 := Tryz.sizeOf110
  v37 := Tryz.zeroValue110
  t46 := Tryz.underlying181
  a46 := Tryz.isAgg181
  z46 := Tryz.sizeOf181
  v46 := Tryz.zeroValue181
  t51 := Tryz.underlying23
  a51 := Tryz.isAgg23
  z51 := Tryz.sizeOf23
  v51 := Tryz.zeroValue23
  t53 := Tryz.underlying180
  a53 := Tryz.isAgg180
  z53 := Tryz.sizeOf180
  v53 := Tryz.zeroValue180
  t70 := Tryz.underlying109
  a70 := Tryz.isAgg109
  z70 := Tryz.sizeOf109
  v70 := Tryz.zeroValue109
  t72 := Tryz.underlying112
  a72 := Tryz.isAgg112
  z72 := Tryz.sizeOf112
  v72 := Tryz.zeroValue112
  t75 := Tryz.underlying114
  a75 := Tryz.isAgg114
  z75 := Tryz.sizeOf114
  v75 := Tryz.zeroValue114
  t76 := Tryz.underlying115
  a76 := Tryz.isAgg115
  z76 := Tryz.sizeOf115
  v76 := Tryz.zeroValue115
  t109 := Tryz.underlying231
  a109 := Tryz.isAgg231
  z109 := Tryz.sizeOf231
  v109 := Tryz.zeroValue231
  t127 := Tryz.underlying172
  a127 := Tryz.isAgg172
  z127 := Tryz.sizeOf172
  v127 := Tryz.zeroValue172
  t146 := Tryz.underlying306
  a146 := Tryz.isAgg306
  z146 := Tryz.sizeOf306
  v146 := Tryz.zeroValue306
  t148 := Tryz.underlying308
  a148 := Tryz.isAgg308
  z148 := Tryz.sizeOf308
  v148 := Tryz.zeroValue308
  t164 := Tryz.underlying247
  a164 := Tryz.isAgg247
  z164 := Tryz.sizeOf247
  v164 := Tryz.zeroValue247 }
theorem Tryz.Builder_Extra_105 : Builder.Extra Tryz.prog Tryz.lays105_ren := {
  sizeBuilder := by kernel_rfl
  liesBuilder := by kernel_rfl
  t5 := Tryz.underlying5
  a5 := Tryz.isAgg5
  z5 := Tryz.sizeOf5
  v5 := Tryz.zeroValue5
  infoByte := by kernel_rfl
  cellsByte := by kernel_rfl
  sizeByte := by kernel_rfl
  neB5 := by decide }
open Go.RowKit Go.Lib in
theorem Tryz.strings_Repeat (s : ByteArray) (c : Nat) (w : World) (hc : c ≤ 9223372036854775807) (hlen : s.size * c ≤ 140737488355328) :
    Calls Tryz.prog 79 #[.string s, .int .i64 c] w fun e w' => e = .returned (.string ⟨(Lib.repeatL s.data.toList c).toArray⟩) ∧ Below w.heap.size w w' := Any.strings_Repeat Tryz.lays105 Tryz.Builder_Extra_105 s c w hc hlen
theorem Tryz.strings_Trim_laid (s cutset : ByteArray) (w : World) (hs : s.size ≤ 9223372036854775807) (hcs : cutset.size < 4294967281) (hascii : ∀ (j : Nat) b, cutset.data.toList[j]? = some b → b.toNat < 128) :
    Calls Tryz.prog 195 #[.string s, .string cutset] w fun e w' => e = .returned (.string ⟨(Lib.trimS s.data.toList cutset.data.toList).toArray⟩) ∧ RowKit.Below w.heap.size w w' := Any.strings_Trim_laid Tryz.lays160 (by kernel_rfl) s cutset w hs hcs hascii
def Tryz.lays166_ren : Go.Shelf.Ren := ⟨fun | 166 => 47 | 240 => 90 | 276 => 175 | n => n, fun | 0 => 0 | 3 => 3 | 4 => 4 | 5 => 5 | 9 => 9 | 20 => 20 | 37 => 110 | 70 => 109 | 72 => 112 | 75 => 114 | 80 => 121 | 164 => 247 | n => n, fun | n => n⟩
theorem Tryz.lays166 : Go.Proofs.Lays.n166 Tryz.prog Tryz.lays166_ren := {
  mixed := by kernel_rfl
  f166 := Tryz.func47.trans (congrArg some (by kernel_rfl))
  f240 := Tryz.func90.trans (congrArg some (by kernel_rfl))
  f276 := Tryz.func175.trans (congrArg some (by kernel_rfl))
  t0 := Tryz.underlying0
  a0 := Tryz.isAgg0
  z0 := Tryz.sizeOf0
  v0 := Tryz.zeroValue0
  t3 := Tryz.underlying3
  a3 := Tryz.isAgg3
  z3 := Tryz.sizeOf3
  v3 := Tryz.zeroValue3
  t4 := Tryz.underlying4
  a4 := Tryz.isAgg4
  z4 := Tryz.sizeOf4
  v4 := Tryz.zeroValue4
  t9 := Tryz.underlying9
  a9 := Tryz.isAgg9
  z9 := Tryz.sizeOf9
  v9 := Tryz.zeroValue9
  t20 := Tryz.underlying20
  a20 := Tryz.isAgg20
  z20 := Tryz.sizeOf20
  v20 := Tryz.zeroValue20
  t37 := Tryz.underlying110
  a37 := Tryz.isAgg110
  z37 := Tryz.sizeOf110
  v37 := Tryz.zeroValue110
  t70 := Tryz.underlying109
  a70 := Tryz.isAgg109
  z70 := Tryz.sizeOf109
  v70 := Tryz.zeroValue109
  t72 := Tryz.underlying112
  a72 := Tryz.isAgg112
  z72 := Tryz.sizeOf112
  v72 := Tryz.zeroValue112
  t75 := Tryz.underlying114
  a75 := Tryz.isAgg114
  z75 := Tryz.sizeOf114
  v75 := Tryz.zeroValue114
  t164 := Tryz.underlying247
  a164 := Tryz.isAgg247
  z164 := Tryz.sizeOf247
  v164 := Tryz.zeroValue247 }
theorem Tryz.Builder_Extra_166 : Builder.Extra Tryz.prog Tryz.lays166_ren := {
  sizeBuilder := by kernel_rfl
  liesBuilder := by kernel_rfl
  t5 := Tryz.underlying5
  a5 := Tryz.isAgg5
  z5 := Tryz.sizeOf5
  v5 := Tryz.zeroValue5
  infoByte := by kernel_rfl
  cellsByte := by kernel_rfl
  sizeByte := by kernel_rfl
  neB5 := by decide }
open Go.RowKit in
theorem Tryz.Builder_WriteString_k (B b : Nat) (bs : List Value) (s : ByteArray) (w : World) (h : Lib.IsBuilderF 112 5 B b bs w) (hlen : bs.length + s.size ≤ 140737488355328) (hBw : B ≤ w.heap.size) :
    Calls Tryz.prog 47 #[.pointer (some ⟨b, 0, none⟩), .string s] w fun e w' => e = .returned (.tuple #[.int .i64 s.size, .nilIface]) ∧ (Lib.BuilderAtF 112 5 B b (.pointer (some ⟨b, 0, none⟩)) (bs ++ Lib.strCells s) w' ∧ Below B w w' ∧ Lib.OthersKept 5 (some b) w w') := Any.Builder_WriteString_k Tryz.lays166 Tryz.Builder_Extra_166 B b bs s w h hlen hBw
end
end Go.Proofs
namespace Go.Proofs.YtbccghbngaiceaaGreatDoor
section
abbrev Bytes (l : List Nat) : Prop := ∀ b ∈ l, b < 256
def cf (p : List Nat) (i : Nat) : Nat := (p[i]?).getD 0
theorem cf_get {p : List Nat} {i x : Nat} (h : p[i]? = some x) : cf p i = x := by unfold cf; rw [h]; rfl
def cv (p q : List Nat) : Nat → Nat → Nat
 | 0, _ => 0
 | n + 1, m => cv p q n m ^^^ (if n ≤ m then gmul (cf p n) (cf q (m - n)) else 0)
end
section
def xp (x : Nat) : Nat → Nat
 | 0 => 1
 | n + 1 => gmul (xp x n) x
def wv (x : Nat) (w : List Nat) : Nat := w.foldl (fun s c => gmul s x ^^^ c) 0
end
end Go.Proofs.YtbccghbngaiceaaGreatDoor
namespace Go.Proofs
section
open Go.Shelf
def Tryz.lays170_ren : Go.Shelf.Ren := ⟨fun | 170 => 97 | n => n, fun | 70 => 109 | 3 => 3 | 0 => 0 | 72 => 112 | 37 => 110 | 5 => 5 | n => n, fun | n => n⟩
theorem Tryz.lays170 : Go.Proofs.Lays.n170 Tryz.prog Tryz.lays170_ren := {
  mixed := by kernel_rfl
  f170 := Tryz.func97.trans (congrArg some (by kernel_rfl))
  t0 := Tryz.underlying0
  a0 := Tryz.isAgg0
  z0 := Tryz.sizeOf0
  v0 := Tryz.zeroValue0
  t3 := Tryz.underlying3
  a3 := Tryz.isAgg3
  z3 := Tryz.sizeOf3
  v3 := Tryz.zeroValue3
  t37 := Tryz.underlying110
  a37 := Tryz.isAgg110
  z37 := Tryz.sizeOf110
  v37 := Tryz.zeroValue110
  t70 := Tryz.underlying109
  a70 := Tryz.isAgg109
  z70 := Tryz.sizeOf109
  v70 := Tryz.zeroValue109
  t72 := Tryz.underlying112
  a72 := Tryz.isAgg112
  z72 := Tryz.sizeOf112
  v72 := Tryz.zeroValue112 }
def Tryz.lays156_ren : Go.Shelf.Ren := ⟨fun | 156 => 98 | 165 => 161 | 166 => 47 | 169 => 52 | 240 => 90 | 241 => 246 | 276 => 175 | 277 => 318 | n => n, fun | 31 => 56 | 9 => 9 | 3 => 3 | 4 => 4 | 0 => 0 | 20 => 20 | 72 => 112 | 76 => 115 | 70 => 109 | 37 => 110 | 75 => 114 | 127 => 172 | 164 => 247 | 5 => 5 | 80 => 121 | n => n, fun | n => n⟩
theorem Tryz.lays156 : Go.Proofs.Lays.n156 Tryz.prog Tryz.lays156_ren := {
  mixed := by kernel_rfl
  f156 := Tryz.func98.trans (congrArg some (by kernel_rfl))
  f165 := Tryz.func161.trans (congrArg some (by kernel_rfl))
  f166 := Tryz.func47.trans (congrArg some (by kernel_rfl))
  f169 := Tryz.func52.trans (congrArg some (by kernel_rfl))
  f240 := Tryz.func90.trans (congrArg some (by kernel_rfl))
  f241 := Tryz.func246.trans (congrArg some (by kernel_rfl))
  f276 := Tryz.func175.trans (congrArg some (by kernel_rfl))
  f277 := Tryz.func318.trans (congrArg some (by kernel_rfl))
  t0 := Tryz.underlying0
  a0 := Tryz.isAgg0
  z0 := Tryz.sizeOf0
  v0 := Tryz.zeroValue0
  t3 := Tryz.underlying3
  a3 := Tryz.isAgg3
  z3 := Tryz.sizeOf3
  v3 := Tryz.zeroValue3
  t4 := Tryz.underlying4
  a4 := Tryz.isAgg4
  z4 := Tryz.sizeOf4
  v4 := Tryz.zeroValue4
  t9 := Tryz.underlying9
  a9 := Tryz.isAgg9
  z9 := Tryz.sizeOf9
  v9 := Tryz.zeroValue9
  t20 := Tryz.underlying20
  a20 := Tryz.isAgg20
  z20 := Tryz.sizeOf20
  v20 := Tryz.zeroValue20
  t31 := Tryz.underlying56
  a31 := Tryz.isAgg56
  z31 := Tryz.sizeOf56
  v31 := Tryz.zeroValue56
  t37 := Tryz.underlying110
  a37 := Tryz.isAgg110
  z37 := Tryz.sizeOf110
  v37 := Tryz.zeroValue110
  t70 := Tryz.underlying109
  a70 := Tryz.isAgg109
  z70 := Tryz.sizeOf109
  v70 := Tryz.zeroValue109
  t72 := Tryz.underlying112
  a72 := Tryz.isAgg112
  z72 := Tryz.sizeOf112
  v72 := Tryz.zeroValue112
  t75 := Tryz.underlying114
  a75 := Tryz.isAgg114
  z75 := Tryz.sizeOf114
  v75 := Tryz.zeroValue114
  t76 := Tryz.underlying115
  a76 := Tryz.isAgg115
  z76 := Tryz.sizeOf115
  v76 := Tryz.zeroValue115
  t127 := Tryz.underlying172
  a127 := Tryz.isAgg172
  z127 := Tryz.sizeOf172
  v127 := Tryz.zeroValue172
  t164 := Tryz.underlying247
  a164 := Tryz.isAgg247
  z164 := Tryz.sizeOf247
  v164 := Tryz.zeroValue247 }
theorem Tryz.Builder_Extra_156 : Builder.Extra Tryz.prog Tryz.lays156_ren := {
  sizeBuilder := by kernel_rfl
  liesBuilder := by kernel_rfl
  t5 := Tryz.underlying5
  a5 := Tryz.isAgg5
  z5 := Tryz.sizeOf5
  v5 := Tryz.zeroValue5
  infoByte := by kernel_rfl
  cellsByte := by kernel_rfl
  sizeByte := by kernel_rfl
  neB5 := by decide }
open Go.RowKit in
theorem Tryz.strings_Join (bk o c : Nat) (xs : List ByteArray) (sep : ByteArray) (w : World) (hcells : ∀ (j : Nat) x, xs[j]? = some x → w.cell? ⟨bk, o + j, none⟩ = some (.string x)) (hbk : bk < w.heap.size) (hN : xs.length ≤ 140737488355328) (hcap : xs.length ≤ c) (hlen : (Lib.join (xs.map (·.data.toList)) sep.data.toList).length ≤ 140737488355328) :
    Calls Tryz.prog 98 #[.slice (some ⟨bk, o, none⟩) xs.length c, .string sep] w fun e w' => e = .returned (.string ⟨(Lib.join (xs.map (·.data.toList)) sep.data.toList).toArray⟩) ∧ Below w.heap.size w w' := Any.strings_Join Tryz.lays156 Tryz.Builder_Extra_156 bk o c xs sep w hcells hbk hN hcap hlen
def Tryz.lays106_ren : Go.Shelf.Ren := ⟨fun | 106 => 147 | 213 => 226 | 265 => 304 | n => n, fun | 9 => 9 | 3 => 3 | n => n, fun | n => n⟩
theorem Tryz.lays106 : Go.Proofs.Lays.n106 Tryz.prog Tryz.lays106_ren := {
  mixed := by kernel_rfl
  f106 := Tryz.func147.trans (congrArg some (by kernel_rfl))
  f213 := Tryz.func226.trans (congrArg some (by kernel_rfl))
  f265 := Tryz.func304.trans (congrArg some (by kernel_rfl))
  t3 := Tryz.underlying3
  a3 := Tryz.isAgg3
  z3 := Tryz.sizeOf3
  v3 := Tryz.zeroValue3
  t9 := Tryz.underlying9
  a9 := Tryz.isAgg9
  z9 := Tryz.sizeOf9
  v9 := Tryz.zeroValue9 }
open Go.RowKit in
theorem Tryz.strings_Compare (a b : ByteArray) (w : World) :
    Calls Tryz.prog 147 #[.string a, .string b] w fun e w' => e = .returned (.int .i64 (Lib.compareBytes a.data.toList b.data.toList)) ∧ w' = w := Any.strings_Compare Tryz.lays106 a b w
open Go.RowKit in
theorem Tryz.Builder_Len_f (B b : Nat) (bs : List Value) (w : World) (h : Lib.IsBuilderF 112 5 B b bs w) :
    Calls Tryz.prog 97 #[.pointer (some ⟨b, 0, none⟩)] w fun e w' => e = .returned (.int .i64 bs.length) ∧ w' = w := Any.Builder_Len_f Tryz.lays170 B b bs w h
def Tryz.lays172_ren : Go.Shelf.Ren := ⟨fun | 172 => 196 | 244 => 286 | 245 => 287 | 247 => 351 | 279 => 352 | 280 => 353 | 281 => 354 | 282 => 355 | 287 => 324 | 316 => 400 | 171 => 91 | 205 => 401 | 321 => 379 | 322 => 380 | 243 => 176 | 246 => 270 | 283 => 337 | 284 => 338 | 285 => 339 | 286 => 340 | 129 => 224 | 317 => 390 | 318 => 391 | 319 => 392 | 320 => 393 | 337 => 428 | 338 => 429 | n => n, fun | 9 => 9 | 3 => 3 | 75 => 114 | 76 => 115 | 4 => 4 | 5 => 5 | 167 => 397 | 37 => 110 | 0 => 0 | 85 => 398 | 2 => 2 | 168 => 400 | 53 => 180 | 175 => 320 | 46 => 181 | 210 => 436 | 127 => 172 | 145 => 462 | 143 => 460 | 21 => 21 | 171 => 385 | 173 => 387 | 212 => 430 | 51 => 23 | 20 => 20 | 213 => 431 | 232 => 470 | 233 => 471 | 80 => 121 | n => n, fun | 15 => 2 | 16 => 3 | 17 => 1 | 18 => 6 | 19 => 7 | n => n⟩
theorem Tryz.lays172 : Go.Proofs.Lays.n172 Tryz.prog Tryz.lays172_ren := {
  mixed := by kernel_rfl
  f129 := Tryz.func224.trans (congrArg some (by kernel_rfl))
  f171 := Tryz.func91.trans (congrArg some (by kernel_rfl))
  f172 := Tryz.func196.trans (congrArg some (by kernel_rfl))
  f205 := Tryz.func401.trans (congrArg some (by kernel_rfl))
  f243 := Tryz.func176.trans (congrArg some (by kernel_rfl))
  f244 := Tryz.func286.trans (congrArg some (by kernel_rfl))
  f245 := Tryz.func287.trans (congrArg some (by kernel_rfl))
  f246 := Tryz.func270.trans (congrArg some (by kernel_rfl))
  f247 := Tryz.func351.trans (congrArg some (by kernel_rfl))
  f279 := Tryz.func352.trans (congrArg some (by kernel_rfl))
  f280 := Tryz.func353.trans (congrArg some (by kernel_rfl))
  f281 := Tryz.func354.trans (congrArg some (by kernel_rfl))
  f282 := Tryz.func355.trans (congrArg some (by kernel_rfl))
  f283 := Tryz.func337.trans (congrArg some (by kernel_rfl))
  f284 := Tryz.func338.trans (congrArg some (by kernel_rfl))
  f285 := Tryz.func339.trans (congrArg some (by kernel_rfl))
  f286 := Tryz.func340.trans (congrArg some (by kernel_rfl))
  f287 := Tryz.func324.trans (congrArg some (by kernel_rfl))
  f316 := Tryz.func400.trans (congrArg some (by kernel_rfl))
  f317 := Tryz.func390.trans (congrArg some (by kernel_rfl))
  f318 := Tryz.func391.trans (congrArg some (by kernel_rfl))
  f319 := Tryz.func392.trans (congrArg some (by kernel_rfl))
  f320 := Tryz.func393.trans (congrArg some (by kernel_rfl))
  f321 := Tryz.func379.trans (congrArg some (by kernel_rfl))
  f322 := Tryz.func380.trans (congrArg some (by kernel_rfl))
  f337 := Tryz.func428.trans (congrArg some (by kernel_rfl))
  f338 := Tryz.func429.trans (congrArg some (by kernel_rfl))
  t0 := Tryz.underlying0
  a0 := Tryz.isAgg0
  z0 := Tryz.sizeOf0
  v0 := Tryz.zeroValue0
  t2 := Tryz.underlying2
  a2 := Tryz.isAgg2
  z2 := Tryz.sizeOf2
  v2 := Tryz.zeroValue2
  t3 := Tryz.underlying3
  a3 := Tryz.isAgg3
  z3 := Tryz.sizeOf3
  v3 := Tryz.zeroValue3
  t4 := Tryz.underlying4
  a4 := Tryz.isAgg4
  z4 := Tryz.sizeOf4
  v4 := Tryz.zeroValue4
  t5 := Tryz.underlying5
  a5 := Tryz.isAgg5
  z5 := Tryz.sizeOf5
  v5 := Tryz.zeroValue5
  t9 := Tryz.underlying9
  a9 := Tryz.isAgg9
  z9 := Tryz.sizeOf9
  v9 := Tryz.zeroValue9
  t20 := Tryz.underlying20
  a20 := Tryz.isAgg20
  z20 := Tryz.sizeOf20
  v20 := Tryz.zeroValue20
  t21 := Tryz.underlying21
  a21 := Tryz.isAgg21
  z21 := Tryz.sizeOf21
  v21 := Tryz.zeroValue21
  t37 := Tryz.underlying110
  a37 := Tryz.isAgg110
  z37 := Tryz.sizeOf110
  v37 := Tryz.zeroValue110
  t46 := Tryz.underlying181
  a46 := Tryz.isAgg181
  z46 := Tryz.sizeOf181
  v46 := Tryz.zeroValue181
  t51 := Tryz.underlying23
  a51 := Tryz.isAgg23
  z51 := Tryz.sizeOf23
  v51 := Tryz.zeroValue23
  t53 := Tryz.underlying180
  a53 := Tryz.isAgg180
  z53 := Tryz.sizeOf180
  v53 := Tryz.zeroValue180
  t75 := Tryz.underlying114
  a75 := Tryz.isAgg114
  z75 := Tryz.sizeOf114
  v75 := Tryz.zeroValue114
  t76 := Tryz.underlying115
  a76 := Tryz.isAgg115
  z76 := Tryz.sizeOf115
  v76 := Tryz.zeroValue115
  t85 := Tryz.underlying398
  a85 := Tryz.isAgg398
  z85 := Tryz.sizeOf398
  v85 := Tryz.zeroValue398
  t127 := Tryz.underlying172
  a127 := Tryz.isAgg172
  z127 := Tryz.sizeOf172
  v127 := Tryz.zeroValue172
  t143 := Tryz.underlying460
  a143 := Tryz.isAgg460
  z143 := Tryz.sizeOf460
  v143 := Tryz.zeroValue460
  t145 := Tryz.underlying462
  a145 := Tryz.isAgg462
  z145 := Tryz.sizeOf462
  v145 := Tryz.zeroValue462
  t167 := Tryz.underlying397
  a167 := Tryz.isAgg397
  z167 := Tryz.sizeOf397
  v167 := Tryz.zeroValue397
  t168 := Tryz.underlying400
  a168 := Tryz.isAgg400
  z168 := Tryz.sizeOf400
  v168 := Tryz.zeroValue400
  t171 := Tryz.underlying385
  a171 := Tryz.isAgg385
  z171 := Tryz.sizeOf385
  v171 := Tryz.zeroValue385
  t173 := Tryz.underlying387
  a173 := Tryz.isAgg387
  z173 := Tryz.sizeOf387
  v173 := Tryz.zeroValue387
  t175 := Tryz.underlying320
  a175 := Tryz.isAgg320
  z175 := Tryz.sizeOf320
  v175 := Tryz.zeroValue320
  t210 := Tryz.underlying436
  a210 := Tryz.isAgg436
  z210 := Tryz.sizeOf436
  v210 := Tryz.zeroValue436
  t212 := Tryz.underlying430
  a212 := Tryz.isAgg430
  z212 := Tryz.sizeOf430
  v212 := Tryz.zeroValue430
  t213 := Tryz.underlying431
  a213 := Tryz.isAgg431
  z213 := Tryz.sizeOf431
  t232 := Tryz.underlying470
  a232 := Tryz.isAgg470
  z232 := Tryz.sizeOf470
  v232 := Tryz.zeroValue470
  t233 := Tryz.underlying471
  a233 := Tryz.isAgg471
  z233 := Tryz.sizeOf471
  v233 := Tryz.zeroValue471
  g15 := by kernel_rfl
  g16 := by kernel_rfl
  g17 := by kernel_rfl
  g18 := by kernel_rfl
  g19 := by kernel_rfl }
open Go.RowKit in
theorem Tryz.strconv_Atoi (s : ByteArray) (n : Int) (hl : s.size ≤ 18) (h : Lib.atoi s.data.toList = some n) (w : World) :
    Calls Tryz.prog 196 #[.string s] w fun e w' => e = .returned (.tuple #[.int .i64 n, .nilIface]) ∧ ∃ t, w' = Lib.bytesWorld w 5 t := Any.strconv_Atoi Tryz.lays172 s n hl h w
def Tryz.laysM171_ren : Go.Shelf.Ren := ⟨fun | 171 => 91 | 243 => 176 | 246 => 270 | 283 => 337 | 284 => 338 | 285 => 339 | 286 => 340 | 129 => 224 | 317 => 390 | 318 => 391 | 319 => 392 | 320 => 393 | 337 => 428 | 338 => 429 | n => n, fun | 3 => 3 | 9 => 9 | 2 => 2 | 4 => 4 | 171 => 385 | 0 => 0 | 53 => 180 | 37 => 110 | 5 => 5 | 173 => 387 | 212 => 430 | 51 => 23 | 20 => 20 | 213 => 431 | 46 => 181 | 232 => 470 | 233 => 471 | n => n, fun | 17 => 1 | 18 => 6 | 19 => 7 | n => n⟩
theorem Tryz.laysM171 : Go.Proofs.LaysM.n171 Tryz.prog Tryz.laysM171_ren := {
  mixed := by kernel_rfl
  f129 := Tryz.func224.trans (congrArg some (by kernel_rfl))
  f171 := Tryz.func91.trans (congrArg some (by kernel_rfl))
  f243 := Tryz.func176.trans (congrArg some (by kernel_rfl))
  f246 := Tryz.func270.trans (congrArg some (by kernel_rfl))
  f283 := Tryz.func337.trans (congrArg some (by kernel_rfl))
  f284 := Tryz.func338.trans (congrArg some (by kernel_rfl))
  f285 := Tryz.func339.trans (congrArg some (by kernel_rfl))
  f286 := Tryz.func340.trans (congrArg some (by kernel_rfl))
  f317 := Tryz.func390.trans (congrArg some (by kernel_rfl))
  f318 := Tryz.func391.trans (congrArg some (by kernel_rfl))
  f319 := Tryz.func392.trans (congrArg some (by kernel_rfl))
  f320 := Tryz.func393.trans (congrArg some (by kernel_rfl))
  f337 := Tryz.func428.trans (congrArg some (by kernel_rfl))
  f338 := Tryz.func429.trans (congrArg some (by kernel_rfl))
  t0 := Tryz.underlying0
  a0 := Tryz.isAgg0
  z0 := Tryz.sizeOf0
  v0 := Tryz.zeroValue0
  t2 := Tryz.underlying2
  a2 := Tryz.isAgg2
  z2 := Tryz.sizeOf2
  v2 := Tryz.zeroValue2
  t3 := Tryz.underlying3
  a3 := Tryz.isAgg3
  z3 := Tryz.sizeOf3
  v3 := Tryz.zeroValue3
  t4 := Tryz.underlying4
  a4 := Tryz.isAgg4
  z4 := Tryz.sizeOf4
  v4 := Tryz.zeroValue4
  t5 := Tryz.underlying5
  a5 := Tryz.isAgg5
  z5 := Tryz.sizeOf5
  v5 := Tryz.zeroValue5
  t9 := Tryz.underlying9
  a9 := Tryz.isAgg9
  z9 := Tryz.sizeOf9
  v9 := Tryz.zeroValue9
  t20 := Tryz.underlying20
  a20 := Tryz.isAgg20
  z20 := Tryz.sizeOf20
  v20 := Tryz.zeroValue20
  t37 := Tryz.underlying110
  a37 := Tryz.isAgg110
  z37 := Tryz.sizeOf110
  v37 := Tryz.zeroValue110
  t46 := Tryz.underlying181
  a46 := Tryz.isAgg181
  z46 := Tryz.sizeOf181
  v46 := Tryz.zeroValue181
  t51 := Tryz.underlying23
  a51 := Tryz.isAgg23
  z51 := Tryz.sizeOf23
  v51 := Tryz.zeroValue23
  t53 := Tryz.underlying180
  a53 := Tryz.isAgg180
  z53 := Tryz.sizeOf180
  v53 := Tryz.zeroValue180
  t171 := Tryz.underlying385
  a171 := Tryz.isAgg385
  z171 := Tryz.sizeOf385
  v171 := Tryz.zeroValue385
  t173 := Tryz.underlying387
  a173 := Tryz.isAgg387
  z173 := Tryz.sizeOf387
  v173 := Tryz.zeroValue387
  t212 := Tryz.underlying430
  a212 := Tryz.isAgg430
  z212 := Tryz.sizeOf430
  v212 := Tryz.zeroValue430
  t213 := Tryz.underlying431
  a213 := Tryz.isAgg431
  z213 := Tryz.sizeOf431
  t232 := Tryz.underlying470
  a232 := Tryz.isAgg470
  z232 := Tryz.sizeOf470
  v232 := Tryz.zeroValue470
  t233 := Tryz.underlying471
  a233 := Tryz.isAgg471
  z233 := Tryz.sizeOf471
  v233 := Tryz.zeroValue471
  g17 := by kernel_rfl
  g18 := by kernel_rfl
  g19 := by kernel_rfl
  i0 := by kernel_rfl
  i2 := by kernel_rfl
  i3 := by kernel_rfl
  i4 := by kernel_rfl
  i5 := by kernel_rfl
  i9 := by kernel_rfl
  i20 := by kernel_rfl
  i37 := by kernel_rfl
  i46 := by kernel_rfl
  i51 := by kernel_rfl
  i53 := by kernel_rfl
  i171 := by kernel_rfl
  i173 := by kernel_rfl
  i212 := by kernel_rfl
  i232 := by kernel_rfl
  i233 := by kernel_rfl
  m17 := by kernel_rfl
  m18 := by kernel_rfl
  m19 := by kernel_rfl }
open Go.RowKit Go.Sort Go.Lib in
theorem Tryz.strconv_Itoa (n : Int) (h0 : -9223372036854775808 ≤ n) (h1 : n ≤ 9223372036854775807) (w : World) (htab : Lib.TabIs Tryz.prog w "internal/strconv.uint64pow10" .u64 Lib.pow10Tab) :
    Calls Tryz.prog 91 #[.int .i64 n] w fun e w' => e = .returned (.string ⟨(Lib.itoa n).toArray⟩) ∧ ∃ k os, w' = grow (w.drewN k) os := Any.strconv_Itoa Tryz.laysM171 n h0 h1 w htab
def Tryz.laysGw17_ren : Go.Shelf.Ren := ⟨fun | 17 => 341 | 15 => 394 | 20 => 430 | n => n, fun | 9 => 9 | 23 => 390 | 4 => 4 | 3 => 3 | 0 => 0 | 21 => 21 | n => n, fun | n => n⟩
theorem Tryz.laysGw17 : Go.Proofs.LaysGw.n17 Tryz.prog Tryz.laysGw17_ren := {
  mixed := by kernel_rfl
  f15 := Tryz.func394.trans (congrArg some (by kernel_rfl))
  f17 := Tryz.func341.trans (congrArg some (by kernel_rfl))
  f20 := Tryz.func430.trans (congrArg some (by kernel_rfl))
  t0 := Tryz.underlying0
  a0 := Tryz.isAgg0
  z0 := Tryz.sizeOf0
  v0 := Tryz.zeroValue0
  i0 := by kernel_rfl
  t3 := Tryz.underlying3
  a3 := Tryz.isAgg3
  z3 := Tryz.sizeOf3
  v3 := Tryz.zeroValue3
  i3 := by kernel_rfl
  t4 := Tryz.underlying4
  a4 := Tryz.isAgg4
  z4 := Tryz.sizeOf4
  v4 := Tryz.zeroValue4
  i4 := by kernel_rfl
  t9 := Tryz.underlying9
  a9 := Tryz.isAgg9
  z9 := Tryz.sizeOf9
  v9 := Tryz.zeroValue9
  i9 := by kernel_rfl
  t21 := Tryz.underlying21
  a21 := Tryz.isAgg21
  z21 := Tryz.sizeOf21
  v21 := Tryz.zeroValue21
  i21 := by kernel_rfl
  t23 := Tryz.underlying390
  a23 := Tryz.isAgg390
  z23 := Tryz.sizeOf390
  v23 := Tryz.zeroValue390
  i23 := by kernel_rfl }
open Go.RowKit Go.Lib in
theorem Tryz.strings_ContainsFunc (g : Nat) (lb : Array Value) (eg : ∀ args w, (callFunc g args).run Tryz.prog w = .ok (.enter g args) w) (p : Nat → Bool) (s : ByteArray) (w : World) (hp : PredAt Tryz.prog g lb encR p w) :
    Calls Tryz.prog 341 #[.string s, .func (.func g) #[] lb] w fun e w' => e = .returned (.bool (decide (0 ≤ Lib.idxFunc p true s))) ∧ Below w.heap.size w w' := Any.strings_ContainsFunc Tryz.laysGw17 g lb eg p s w hp
def Tryz.lays146_ren : Go.Shelf.Ren := ⟨fun | 146 => 276 | 221 => 345 | 268 => 395 | 138 => 358 | 143 => 396 | 195 => 402 | 197 => 348 | 218 => 403 | 219 => 431 | 260 => 397 | 217 => 372 | 225 => 434 | 224 => 433 | 267 => 443 | 266 => 422 | 314 => 445 | n => n, fun | 9 => 9 | 31 => 56 | 3 => 3 | 4 => 4 | 0 => 0 | 105 => 394 | 21 => 21 | 5 => 5 | 46 => 181 | 119 => 456 | 139 => 459 | 138 => 458 | 146 => 306 | 51 => 23 | n => n, fun | 1 => 0 | 3 => 4 | 4 => 5 | n => n⟩
theorem Tryz.lays146 : Go.Proofs.Lays.n146 Tryz.prog Tryz.lays146_ren := {
  mixed := by kernel_rfl
  f138 := Tryz.func358.trans (congrArg some (by kernel_rfl))
  f143 := Tryz.func396.trans (congrArg some (by kernel_rfl))
  f146 := Tryz.func276.trans (congrArg some (by kernel_rfl))
  f195 := Tryz.func402.trans (congrArg some (by kernel_rfl))
  f197 := Tryz.func348.trans (congrArg some (by kernel_rfl))
  f217 := Tryz.func372.trans (congrArg some (by kernel_rfl))
  f218 := Tryz.func403.trans (congrArg some (by kernel_rfl))
  f219 := Tryz.func431.trans (congrArg some (by kernel_rfl))
  f221 := Tryz.func345.trans (congrArg some (by kernel_rfl))
  f224 := Tryz.func433.trans (congrArg some (by kernel_rfl))
  f225 := Tryz.func434.trans (congrArg some (by kernel_rfl))
  f260 := Tryz.func397.trans (congrArg some (by kernel_rfl))
  f266 := Tryz.func422.trans (congrArg some (by kernel_rfl))
  f267 := Tryz.func443.trans (congrArg some (by kernel_rfl))
  f268 := Tryz.func395.trans (congrArg some (by kernel_rfl))
  f314 := Tryz.func445.trans (congrArg some (by kernel_rfl))
  t0 := Tryz.underlying0
  a0 := Tryz.isAgg0
  z0 := Tryz.sizeOf0
  v0 := Tryz.zeroValue0
  t3 := Tryz.underlying3
  a3 := Tryz.isAgg3
  z3 := Tryz.sizeOf3
  v3 := Tryz.zeroValue3
  t4 := Tryz.underlying4
  a4 := Tryz.isAgg4
  z4 := Tryz.sizeOf4
  v4 := Tryz.zeroValue4
  t5 := Tryz.underlying5
  a5 := Tryz.isAgg5
  z5 := Tryz.sizeOf5
  v5 := Tryz.zeroValue5
  t9 := Tryz.underlying9
  a9 := Tryz.isAgg9
  z9 := Tryz.sizeOf9
  v9 := Tryz.zeroValue9
  t21 := Tryz.underlying21
  a21 := Tryz.isAgg21
  z21 := Tryz.sizeOf21
  v21 := Tryz.zeroValue21
  t31 := Tryz.underlying56
  a31 := Tryz.isAgg56
  z31 := Tryz.sizeOf56
  v31 := Tryz.zeroValue56
  t46 := Tryz.underlying181
  a46 := Tryz.isAgg181
  z46 := Tryz.sizeOf181
  v46 := Tryz.zeroValue181
  t51 := Tryz.underlying23
  a51 := Tryz.isAgg23
  z51 := Tryz.sizeOf23
  v51 := Tryz.zeroValue23
  t105 := Tryz.underlying394
  a105 := Tryz.isAgg394
  z105 := Tryz.sizeOf394
  v105 := Tryz.zeroValue394
  t119 := Tryz.underlying456
  a119 := Tryz.isAgg456
  z119 := Tryz.sizeOf456
  t138 := Tryz.underlying458
  a138 := Tryz.isAgg458
  z138 := Tryz.sizeOf458
  v138 := Tryz.zeroValue458
  t139 := Tryz.underlying459
  a139 := Tryz.isAgg459
  z139 := Tryz.sizeOf459
  v139 := Tryz.zeroValue459
  t146 := Tryz.underlying306
  a146 := Tryz.isAgg306
  z146 := Tryz.sizeOf306
  v146 := Tryz.zeroValue306
  g1 := by kernel_rfl
  g3 := by kernel_rfl
  g4 := by kernel_rfl }
open Go.RowKit Go.Lib in
theorem Tryz.strings_Split (s sep : ByteArray) (m : Int) (w : World) (hs : s.size < 4294967281) (hm : w.cell? ⟨0, 0, none⟩ = some (.int .i64 m)) (h1 : 1 ≤ sep.size) :
    Calls Tryz.prog 276 #[.string s, .string sep] w fun e w' =>
      e = .returned (.slice (some ⟨w.heap.size, 0, none⟩) (Lib.countB s sep + 1) (Lib.countB s sep + 1)) ∧ w' = w.alloc (.cells ((Lib.splitB sep 0 (Lib.countB s sep) s).map Value.string).toArray 9) := Any.strings_Split Tryz.lays146 (by kernel_rfl) s sep m w hs hm h1
end
end Go.Proofs
