/-
 WALKS: convcode.outputs, an iterator over a string's characters.
 WALKS: convcode.outputs, Encode.
-/
import Derived.Test.YtnlnmfkmbpihhaaGreatDoorRangeOwn
import Derived.Test.YtnlnmfkmbpihhaaGreatDoorVitA
import Derived.Test.YtnlnmfkmbpihhaaGreatDoorFrD
namespace Go.Proofs.YtnlnmfkmbpihhaaGreatDoor
open Go.RowKit Go.Shelf
attribute [local go_sem] Oper.semAt_some

theorem Bld.moved {A B : World} {K b : Nat} {l : List Nat} (h : Bld A K b l) (hc : ∀ (k : Nat) (o : Obj), A.heap[k]? = some o → o.isCells = true → B.heap[k]? = some o) : Bld B K b l := by
 have key : ∀ p, Lib.BuilderAtF 111 5 K b p (l.map u8V) A → Lib.BuilderAtF 111 5 K b p (l.map u8V) B := by
  rintro p ⟨hB, v, hb, hown, hne⟩
  refine ⟨hB, v, hc _ _ hb rfl, ⟨hown.1, ?_⟩, hne⟩
  rcases hown.2 with hn | ⟨g, cap, cur, fz, hv, hbg, hg, rest⟩
  ·exact .inl hn
  ·exact .inr ⟨g, cap, cur, fz, hv, hbg, hc _ _ hg rfl, rest⟩
 exact Or.elim h (fun x => .inl (key _ x)) (fun x => .inr (key _ x))
/-- The pairs of cells from state s on. -/
def outsL : Nat → List Nat → List ByteArray
 | _, [] => []
 | s, b :: r => outS s b :: outsL (cnx s b) r
theorem outsL_flat : ∀ (u : List Nat) (s : Nat), (outsL s u).flatMap bs = cenc s u
 | [], _ => rfl
 | b :: r, s => by
  rw [outsL, List.flatMap_cons, bs_outS, outsL_flat r (cnx s b)]
  rfl
def RdStr (x : ByteArray) (args : Array Value) (_ : World) : Prop := args = #[.string x]
/-- How far the iterator in block k is from its string's end. -/
def iterLeft (W : World) (k : Nat) : Nat := match W.heap[k]? with
 | some (.stringIter s pos) => s.size - pos
 | _ => 0
theorem iterLeft_eq {W : World} {k : Nat} {s : ByteArray} {pos : Nat} (h : W.heap[k]? = some (.stringIter s pos)) : iterLeft W k = s.size - pos := by
 unfold iterLeft
 rw [h]
theorem aside_iterAt {A : World} {n k : Nat} {S : ByteArray} {pos : Nat} (hk : A.heap[k]? = some (.stringIter S pos)) (hn : n ≤ k) (pos' : Nat) : rangeOwn.Aside rangeStr.No n A (A.iterAt k S pos') :=
 ⟨rfl, rfl, rfl, by rw [Lib.iterAt_size]; exact Nat.le_refl _, fun i hi _ => Lib.iterAt_other A k i S pos' (by omega), fun i o _ hi hc => (Lib.iterAt_other A k i S pos' (fun e => by subst e; rw [hk] at hi; cases hi; cases hc)).trans hi⟩

set_option maxRecDepth 100000 in
set_option maxHeartbeats 4000000 in
theorem outputs_all (s : ByteArray) (u : List Nat) (nb : Nat) (W0 : World) (hs : bs s = bitsS u) (hu : Bits u) (hz : s.size = 416) (hb0 : Boxed W0 nb 9 (.string s)) :
  rangeStr.IterStr Tryz.prog 251 #[.pointer (some ⟨nb, 0, none⟩)] RdStr (fun _ => False) (outsL 0 (u ++ [0, 0])) W0 := by
 intro l J W hb hJ hY h0
 have hbx : Boxed W nb 9 (.string s) := (hb.block nb hb0.lt).trans hb0
 have hcell := hbx.cell
 obtain ⟨S, hS⟩ : ∃ S, s ++ ⟨#[48, 48]⟩ = S := ⟨_, rfl⟩
 have hul : u.length = 416 := by rw [← bitsS_len, ← hs, bs_len, hz]
 have hbS : bs S = bitsS (u ++ [0, 0]) := by
  rw [← hS, ← strB_bs s, show (⟨#[48, 48]⟩ : ByteArray) = strB [48, 48] from rfl, strB_cat, bs_strB]
  ·rw [hs]; unfold bitsS; rw [List.map_append]; rfl
  ·intro x hx
   rcases List.mem_append.1 hx with hx | hx
   ·exact bs_lt s x hx
   ·simp at hx; omega
 have zS : S.size = 418 := by rw [← bs_len, hbS, bitsS_len, List.length_append, hul]; rfl
 have hap : ∀ x y : ByteArray, (x ++ y).size = x.size + y.size := fun x y => ByteArray.size_append
 have z2 : (⟨#[48, 48]⟩ : ByteArray).size = 2 := rfl
 have HJ := Lib.hid hJ
 have HY := Lib.hid hY
 have HbS := Lib.hid hbS
 have Hul := Lib.hid hul
 have HN : Hid (∀ (W : World) (st b : Nat), st < 4 → b < 2 → Calls Tryz.prog 94 #[.int .i64 (st : Int), .int .i64 (b : Int)] W fun e w' => e = .returned (.tuple #[.int .i64 (cnx st b : Nat), .string (outS st b)]) ∧ W = w') := Lib.hid (fun W st b h1 h2 => vnext_any W st b h1 h2)
 have Hu2 : Hid (Bits (u ++ [0, 0])) := Lib.hid (fun x hx => by
  rcases List.mem_append.1 hx with hx | hx
  ·exact hu x hx
  ·simp at hx; omega)
 obtain ⟨v, hv⟩ : ∃ v, u ++ [0, 0] = v := ⟨_, rfl⟩
 have hvl : v.length = 418 := by rw [← hv, List.length_append, hul]; rfl
 rw [hv] at HbS Hu2 HY ⊢
 have Hvl := Lib.hid hvl
 clear hbx hJ hY hbS hul hs hu hv hvl
 refine callsIn_of_wp Tryz.func251 rfl trivial ?_ rfl
 simp only [Tryz.ntmps251, List.size_toArray, List.length_cons, List.length_nil, Nat.reduceAdd, Nat.reduceSub, Array.replicate_succ, Array.replicate_zero, List.push_toArray, List.append_toArray, List.nil_append, List.cons_append]
 gi_wp2
 gi_loopw [3] (fun x wr => ∃ (k st : Nat) (pre : List ByteArray), k ≤ 418 ∧ st < 4 ∧ x = .int .i64 (st : Int) ∧ wr.heap[W.heap.size]? = some (.stringIter S k) ∧ W.heap.size ≤ wr.heap.size ∧ pre ++ outsL st (v.drop k) = outsL 0 v ∧ J pre wr)
  (fun _ wr => iterLeft wr W.heap.size)
 case atStart =>
  refine ⟨0, 0, [], by omega, by omega, rfl, ?_, ?_, rfl, HJ.out _ _ _ h0 (Nat.le_refl _) ?_⟩
  ·exact World.alloc_heap_new W (.stringIter S 0)
  ·exact Nat.le_of_lt (by simp [World.iter])
  ·exact rangeOwn.Aside.of_below ((Below.refl _ _).alloc (Nat.le_refl _) (.stringIter S 0)) (Nat.le_refl _)
 case round =>
  obtain ⟨k, st, pre, hk, hst, rfl, hit, hsz, hpre, hj⟩ := hrel
  by_cases h : k < 418
  ·have hkS : k < S.size := by omega
   have hkv : k < v.length := by rw [Hvl.out]; exact h
   obtain ⟨b, hbk⟩ : ∃ b, v[k]'hkv = b := ⟨_, rfl⟩
   have hb2 : b < 2 := by rw [← hbk]; exact Hu2.out _ (List.getElem_mem hkv)
   have hsk : (S[k]'hkS).toNat = 48 + b := by
    have h1 := bs_get S k hkS
    rw [HbS.out] at h1
    unfold bitsS at h1
    rw [List.getElem?_map, List.getElem?_eq_getElem hkv, hbk, Option.map_some] at h1
    exact (Option.some.inj h1).symm
   have hdr : v.drop k = b :: v.drop (k + 1) := by rw [List.drop_eq_getElem_cons hkv, hbk]
   rw [hdr, outsL] at hpre
   have hnx : ∀ ty, (Instr.next (.pointer (some ⟨W.heap.size, 0, none⟩)) true ty).run Tryz.prog wr = .ok (.tuple #[.bool true, .int .i64 (k : Int), .int .i32 ((48 + b : Nat) : Int)]) (wr.iterAt W.heap.size S (k + 1)) := fun ty => by
    have h1 := Lib.run_next_ascii_at (P := Tryz.prog) wr W.heap.size S k ty hit hkS (by omega)
    rw [hsk] at h1
    exact h1
   have hj2 := HJ.out _ _ _ hj hsz (aside_iterAt hit (Nat.le_refl _) (k + 1))
   have hit2 := Lib.iterAt_heap wr W.heap.size S k (k + 1) hit
   have hsz2 : W.heap.size ≤ (wr.iterAt W.heap.size S (k + 1)).heap.size := by rw [Lib.iterAt_size]; exact hsz
   generalize wr.iterAt W.heap.size S (k + 1) = wt at *
   obtain ⟨fn, tmps, assign, body, hy, hR⟩ := HY.out pre (outS st b) #[.string (outS st b)] wt hj2 rfl ⟨outsL (cnx st b) (v.drop (k + 1)), by rw [← hpre]; simp⟩
   have HR := Lib.hid hR
   have Hpre := Lib.hid hpre
   have Hit := Lib.hid hit
   have Hit2 := Lib.hid hit2
   have Hsz2 := Lib.hid hsz2
   have Hst := Lib.hid hst
   have Hb2 := Lib.hid hb2
   clear hR hpre hit hit2 hj hj2 hsz hsz2 hst hdr hsk hbk
   rcases (by omega : b = 0 ∨ b = 1) with rfl | rfl
   all_goals
    have HN2 := Lib.hid (HN.out wt st _ Hst.out Hb2.out)
    gi_wp2_with (refine ⟨trivial, rfl, ?_⟩; gi_at_call 94; refine (callsIn_wide.2 HN2.out).mono ?_; rintro e w' ⟨rfl, rfl⟩)
    refine ⟨rfl, HR.out.mono ?_⟩
    rintro e W1 ⟨rfl, hj1, hk1⟩
    have Hj1 := Lib.hid hj1
    have Hk1 := Lib.hid hk1
    clear hj1 hk1
    gi_wp2
    go_roundw
    case rel => exact ⟨k + 1, cnx st _, pre ++ [outS st _], by omega, cnx_lt Hst.out Hb2.out, rfl, Hk1.out.2 _ _ Hit2.out (.inl rfl), Nat.le_trans Hsz2.out Hk1.out.1, by rw [← Hpre.out]; simp, Hj1.out⟩
    case measure =>
     rw [iterLeft_eq (Hk1.out.2 _ _ Hit2.out (.inl rfl)), iterLeft_eq Hit.out]
     omega
  ·obtain rfl : k = 418 := by omega
   have hnx : ∀ ty, (Instr.next (.pointer (some ⟨W.heap.size, 0, none⟩)) true ty).run Tryz.prog wr = .ok (.tuple #[.bool false]) wr := fun ty => Lib.run_next_end_at (P := Tryz.prog) wr W.heap.size S 418 ty hit (by omega)
   have e : pre = outsL 0 v := by
    rw [← hpre, List.drop_eq_nil_of_le (by rw [Hvl.out]; exact Nat.le_refl _)]
    simp [outsL]
   have He := Lib.hid e
   have Hj := Lib.hid hj
   clear hpre hj e hit
   gi_wp2
   go_end0
   exact ⟨⟨_, rfl⟩, He.out ▸ Hj.out⟩

end Go.Proofs.YtnlnmfkmbpihhaaGreatDoor

namespace Go.Proofs.YtnlnmfkmbpihhaaGreatDoor
open Go.RowKit Go.Shelf
attribute [local go_sem] Oper.semAt_some

set_option maxHeartbeats 1000000 in
theorem outputs_any (w : World) (s : ByteArray) : Calls Tryz.prog 238 #[.string s] w fun e w' => e = .returned (.func (.func 251) #[] #[.pointer (some ⟨w.heap.size, 0, none⟩)]) ∧ w.alloc (.cells #[.string s] 9) = w' := by
 go_enter Tryz.func238, Tryz.ntmps238
 go_wp2
 go_ret
 exact ⟨rfl, rfl⟩
/-- WriteString, and what is no row of bytes is kept. -/
theorem wsk_any (w : World) (B b : Nat) (l : List Nat) (s : ByteArray) (h : Bld w B b l) (hl : l.length ≤ 1000000) (hs : s.size ≤ 1000000) (hB : B ≤ w.heap.size) :
  Calls Tryz.prog 64 #[.pointer (some ⟨b, 0, none⟩), .string s] w fun e w' => e = .returned (.tuple #[.int .i64 s.size, .nilIface]) ∧ Bld w' B b (l ++ bs s) ∧ Below B w w' ∧ Lib.OthersKept 5 (some b) w w' := by
 refine (Tryz.Builder_WriteString_k B b _ s w h (by rw [List.length_map]; omega) hB).mono fun e w' ⟨he, h1, hb, hk⟩ => ⟨he, ?_, hb, hk⟩
 have := Or.inr (a := Lib.BuilderAtF 111 5 B b (.pointer none) (l.map u8V ++ Lib.strCells s) w') h1
 have e1 : (l ++ bs s).map u8V = l.map u8V ++ Lib.strCells s := by
  rw [List.map_append]
  unfold Lib.strCells bs
  rw [List.map_map]
  rfl
 show Lib.IsBuilderF _ _ _ _ _ _
 rw [e1]
 exact this
theorem strk_any (w : World) (B b : Nat) (l : List Nat) (hl : Bytes l) (h : Bld w B b l) (hB : B ≤ w.heap.size) :
  Calls Tryz.prog 66 #[.pointer (some ⟨b, 0, none⟩)] w fun e w' => e = .returned (.string (strB l)) ∧ Below B w w' ∧ Lib.OthersKept 5 (some b) w w' := by
 have e1 : Lib.byteCells (l.map UInt8.ofNat) = l.map u8V := by
  unfold Lib.byteCells
  rw [List.map_map]
  refine List.map_congr_left fun x hx => ?_
  have := hl x hx
  simp [Nat.mod_eq_of_lt this]
 exact (Tryz.Builder_String_any_k B b (l.map UInt8.ofNat) w (by rw [e1]; exact h) hB).mono fun e w' ⟨he, _, hb, hk⟩ => ⟨he, hb, hk⟩
/-- What the loop holds: the builder, and nothing below it turned. -/
structure EncI (w : World) (B : Nat) (pre : List ByteArray) (W : World) : Prop where
 bld : Bld W B B (pre.flatMap bs)
 below : Below w.heap.size w W
 le : w.heap.size ≤ B
 lt : B < W.heap.size
theorem outsL_mem : ∀ (u : List Nat) (s : Nat) (x : ByteArray), x ∈ outsL s u → x.size = 2
 | [], _, x, h => by cases h
 | b :: r, s, x, h => by
  rw [outsL] at h
  rcases List.mem_cons.1 h with rfl | h
  ·rw [← bs_len, bs_outS]; rfl
  ·exact outsL_mem r _ x h

set_option maxRecDepth 100000 in
set_option maxHeartbeats 8000000 in
theorem venc_any (w : World) (s : ByteArray) (u : List Nat) (hs : bs s = bitsS u) (hu : Bits u) (hz : s.size = 416) :
  Calls Tryz.prog 215 #[.string s] w fun e w' => e = .returned (.tuple #[.string (strB (cenc 0 (u ++ [0, 0]))), .int .i64 0]) ∧ Below w.heap.size w w' := by
 have hall : allIn (bs ⟨#[48, 49]⟩) (bs s) = true := by
  unfold allIn
  rw [List.all_eq_true, hs]
  intro x hx
  rcases bitsS_01 hu x hx with rfl | rfl <;> decide
 have Ht := Lib.hid (fun W => trim_any W s ⟨#[48, 49]⟩ (by omega) (by decide) (by decide))
 have Hall := Lib.hid hall
 have hI : decide ((65536 : Int) < s.size) = false := decide_eq_false (by omega)
 have Hs := Lib.hid hs
 have Hu := Lib.hid hu
 have Hz := Lib.hid hz
 clear hall hs hu hz
 refine (callsIn_wide (n := 0)).1 ?_
 refine callsIn_of_wp_marks Tryz.func215 rfl trivial ?_ rfl
 simp only [Tryz.ntmps215, List.size_toArray, List.length_cons, List.length_nil, Nat.reduceAdd, Nat.reduceSub, Array.replicate_succ, Array.replicate_zero, List.push_toArray, List.append_toArray, List.nil_append, List.cons_append]
 gi_wp2_with fail
 refine ⟨trivial, rfl, ?_⟩
 gi_at_call 89
 refine (callsIn_wide.2 (Ht.out _)).mono ?_
 rintro e w1 ⟨t, rfl, ht, hb1⟩
 have ht1 : t.toList.isEmpty = true := ht.trans Hall.out
 have ht2 : (!t.toList.isEmpty) = false := by rw [ht1]; rfl
 clear ht Ht
 gi_wp2_with (refine ⟨trivial, rfl, ?_⟩; gi_at_call 238; refine (callsIn_wide.2 (outputs_any _ _)).mono ?_; rintro e w' ⟨rfl, rfl⟩)
 have Hb1 := Lib.hid hb1
 have hs1 := hb1.size
 clear hb1
 obtain ⟨W0, hW0⟩ : ∃ W0, (w1.alloc (.cells #[.pointer none, .slice none 0 0] 111)).alloc (.cells #[.string s] 9) = W0 := ⟨_, rfl⟩
 have hsz0 : W0.heap.size = w1.heap.size + 1 + 1 := by rw [← hW0]; simp
 have hb0 : Below w.heap.size w W0 := by rw [← hW0]; exact ((Hb1.out.alloc hs1 _).alloc (by simp; omega) _)
 have hbx : Boxed W0 (w1.heap.size + 1) 9 (.string s) := by
  rw [← hW0]
  have := Boxed.new (w1.alloc (.cells #[.pointer none, .slice none 0 0] 111)) 9 (.string s)
  simpa using this
 have hbl0 : Bld W0 w1.heap.size w1.heap.size [] := by
  rw [← hW0]
  exact Lib.IsBuilderF.alloc (Bld.new w1) _
 have hI0 : EncI w w1.heap.size [] W0 := ⟨hbl0, hb0, hs1, by omega⟩
 have hIt := outputs_all s u (w1.heap.size + 1) W0 Hs.out Hu.out Hz.out hbx
 rw [hW0]
 clear hW0 hbx hbl0
 refine rangeStr.wpIn_rangeFunc_str (gf := 251) (lb := #[.pointer (some ⟨w1.heap.size + 1, 0, none⟩)]) rfl (enters_of Tryz.func251 (by kernel_rfl) rfl) hIt
  (fun x args W hr => by rw [show args = #[.string x] from hr]; rfl) (fun x args X Y hr _ => hr)
  (EncI w w1.heap.size) (fun q X Y hq hsz ha => ?_) hI0
  (fun args => { tmps := #[.string s, undef, .string ⟨#[]⟩, .int .i64 0, .pointer (some ⟨w1.heap.size, 0, none⟩), args.getD 0 undef, .bool false, .string s, .int .i64 (s.size : Int), .bool false, .bool false, .string s, .string t, .bool false, .string s,
   .func (.func 251) #[] #[.pointer (some ⟨w1.heap.size + 1, 0, none⟩)], args.getD 0 undef, undef, undef, undef], defers := [] })
  ?assign ?body ?done
 ·refine ⟨hq.bld.moved (fun k o ho hc => ha.cells k o (fun h => h) ho hc), ⟨ha.os.trans hq.below.os, ha.tape.trans hq.below.tape, ha.output.trans hq.below.output, Nat.le_trans hq.below.size ha.size, fun k hk => (ha.low k (by omega) (fun h => h)).trans (hq.below.block k hk)⟩, hq.le, Nat.lt_of_lt_of_le hq.lt ha.size⟩
 case assign =>
  intro l x args W K hr hK
  obtain rfl : args = #[.string x] := hr
  simp only [Array.getD, List.size_toArray, List.length_cons, List.length_nil, Nat.zero_add, Nat.lt_add_one, dite_true, List.getElem_toArray, List.getElem_cons_zero, Array.getInternal_eq_getElem] at hK
  gi_wp2
  exact hK
 case body =>
  intro l pre x args W hsz hI hr hpre
  obtain rfl : args = #[.string x] := hr
  have hx2 : x.size = 2 := outsL_mem _ _ x (hpre.subset (by simp))
  have hpl : (pre.flatMap bs).length ≤ 1000000 := by
   obtain ⟨rest, hrest⟩ := hpre
   have h1 := outsL_flat (u ++ [0, 0]) 0
   rw [← hrest, List.flatMap_append, List.flatMap_append] at h1
   have h2 := congrArg List.length h1
   rw [List.length_append, List.length_append, cenc_len, List.length_append, ← bitsS_len u, ← Hs.out, bs_len, Hz.out] at h2
   simp only [List.length_cons, List.length_nil] at h2
   omega
  have hc0 : ∃ v0 v1, W.heap[w1.heap.size]? = some (.cells #[v0, v1] 111 (0, 0)) := by
   rcases hI.bld with ⟨_, v, hb, _⟩ | ⟨_, v, hb, _⟩
   ·exact ⟨_, _, hb⟩
   ·exact ⟨_, _, hb⟩
  have Hws := Lib.hid (wsk_any W w1.heap.size w1.heap.size (pre.flatMap bs) x hI.bld hpl (by omega) (Nat.le_of_lt hI.lt))
  have HI := Lib.hid hI
  clear hI hpl hpre hIt hb0 Hb1 ht1 ht2 hI0
  simp only [Array.getD, List.size_toArray, List.length_cons, List.length_nil, Nat.zero_add, Nat.lt_add_one, dite_true, List.getElem_toArray, List.getElem_cons_zero, Array.getInternal_eq_getElem]
  gi_wp2_with fail
  refine ⟨trivial, rfl, (CallsIn.inRound l (callsIn_wide.2 Hws.out)).mono ?_⟩
  rintro e w2 ⟨rfl, hbl, hbw, hk⟩
  gi_wp2
  refine ⟨⟨hbw.size, fun k o hko hor => hk k o hko ?_ ?_⟩, by rw [List.flatMap_append]; simpa using hbl, HI.out.below.trans (hbw.mono HI.out.le), HI.out.le, Nat.lt_of_lt_of_le HI.out.lt hbw.size⟩
  ·intro e
   obtain ⟨v0, v1, hc⟩ := hc0
   cases e
   rw [hc] at hko
   cases hko
   rcases hor with h | h
   ·cases h
   ·exact h
  ·intro c fz e
   subst e
   rcases hor with h | h
   ·cases h
   ·exact h
 case done =>
  intro D W hD hI hk
  have hby : Bytes (cenc 0 (u ++ [0, 0])) := fun c hc => by
   have h1 := outsL_flat (u ++ [0, 0]) 0
   rw [← h1] at hc
   obtain ⟨y, _, hy⟩ := List.mem_flatMap.1 hc
   exact bs_lt y c hy
  have hbl := hI.bld
  rw [outsL_flat] at hbl
  have Hst := Lib.hid (strk_any W w1.heap.size w1.heap.size _ hby hbl (Nat.le_of_lt hI.lt))
  have HI := Lib.hid hI
  have Hk := Lib.hid hk
  clear hI hbl hby hk hI0 hIt hb0 ht1 ht2
  gi_wp2_with fail
  refine ⟨trivial, rfl, (callsIn_wide.2 Hst.out).mono ?_⟩
  rintro e w3 ⟨rfl, hb3, hk3⟩
  have hk4 : w3.heap[D]? = some (.deferred (some [])) := hk3 D _ Hk.out (fun e => by cases e; omega) (fun c fz e => by cases e)
  have HB3 := Lib.hid (HI.out.below.trans (hb3.mono HI.out.le))
  clear hb3 hk3
  gi_wp2
  refine ⟨by simp, .inl ⟨_, _, rfl, run_takeDeferred hk4, _, results_tmp2 rfl _ _ _, rfl, ?_⟩⟩
  exact ⟨HB3.out.os, HB3.out.tape, HB3.out.output, Nat.le_trans HB3.out.size (by simp), fun k hk2 => (World.putObj_heap_other (by omega)).trans (HB3.out.block k hk2)⟩

end Go.Proofs.YtnlnmfkmbpihhaaGreatDoor
