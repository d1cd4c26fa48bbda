/-
  WALKS: convcode.outputs, an iterator over a string's characters.
-/
import Derived.Test.YtjennpcadjdnlaaGreatDoorRangeStr
import Derived.Test.YtjennpcadjdnlaaGreatDoorVitA
namespace Go.Proofs.YtjennpcadjdnlaaGreatDoor
open Go.RowKit Go.Shelf
attribute [local go_sem] Oper.semAt_some

theorem Bld.moved {A B : World} {K b : Nat} {l : List Nat} (h : Bld A K b l) (hc : ∀ (k : Nat) (o : Obj), A.heap[k]? = some o → o.isCells = true → B.heap[k]? = some o) : Bld B K b l := by
  have key : ∀ p, Lib.BuilderAtF 94 5 K b p (l.map u8V) A → Lib.BuilderAtF 94 5 K b p (l.map u8V) B := by
    rintro p ⟨hB, v, hb, hown, hne⟩
    refine ⟨hB, v, hc _ _ hb rfl, ⟨hown.1, ?_⟩, hne⟩
    rcases hown.2 with hn | ⟨g, cap, cur, fz, hv, hbg, hg, rest⟩
    · exact .inl hn
    · exact .inr ⟨g, cap, cur, fz, hv, hbg, hc _ _ hg rfl, rest⟩
  exact Or.elim h (fun x => .inl (key _ x)) (fun x => .inr (key _ x))
/-- The pairs of cells from state s on. -/
def outsL : Nat → List Nat → List ByteArray
  | _, [] => []
  | s, b :: r => outS s b :: outsL (cnx s b) r
theorem outsL_flat : ∀ (u : List Nat) (s : Nat), (outsL s u).flatMap bs = cenc s u
  | [], _ => rfl
  | b :: r, s => by
    rw [outsL, List.flatMap_cons, bs_outS, outsL_flat r (cnx s b)]
    rfl
def RdStr (x : ByteArray) (args : Array Value) (_ : World) : Prop := args = #[.string x]
/-- How far the iterator in block k is from its string's end. -/
def iterLeft (W : World) (k : Nat) : Nat := match W.heap[k]? with
  | some (.stringIter s pos) => s.size - pos
  | _ => 0
theorem iterLeft_eq {W : World} {k : Nat} {s : ByteArray} {pos : Nat} (h : W.heap[k]? = some (.stringIter s pos)) : iterLeft W k = s.size - pos := by
  unfold iterLeft
  rw [h]
theorem aside_iterAt {A : World} {n k : Nat} {S : ByteArray} {pos : Nat} (hk : A.heap[k]? = some (.stringIter S pos)) (hn : n ≤ k) (pos' : Nat) : rangeOwn.Aside rangeStr.No n A (A.iterAt k S pos') :=
  ⟨rfl, rfl, rfl, by rw [Lib.iterAt_size]; exact Nat.le_refl _, fun i hi _ => Lib.iterAt_other A k i S pos' (by omega), fun i o _ hi hc => (Lib.iterAt_other A k i S pos' (fun e => by subst e; rw [hk] at hi; cases hi; cases hc)).trans hi⟩

set_option maxRecDepth 100000 in
set_option maxHeartbeats 4000000 in
theorem outputs_all (s : ByteArray) (u : List Nat) (nb : Nat) (W0 : World) (hs : bs s = bitsS u) (hu : Bits u) (hz : s.size = 416) (hb0 : Boxed W0 nb 9 (.string s)) :
    rangeStr.IterStr Tryz.prog 204 #[.pointer (some ⟨nb, 0, none⟩)] RdStr (fun _ => False) (outsL 0 (u ++ [0, 0])) W0 := by
  intro l J W hb hJ hY h0
  have hbx : Boxed W nb 9 (.string s) := (hb.block nb hb0.lt).trans hb0
  have hcell := hbx.cell
  obtain ⟨S, hS⟩ : ∃ S, s ++ ⟨#[48, 48]⟩ = S := ⟨_, rfl⟩
  have hul : u.length = 416 := by rw [← bitsS_len, ← hs, bs_len, hz]
  have hbS : bs S = bitsS (u ++ [0, 0]) := by
    rw [← hS, ← strB_bs s, show (⟨#[48, 48]⟩ : ByteArray) = strB [48, 48] from rfl, strB_cat, bs_strB]
    · rw [hs]; unfold bitsS; rw [List.map_append]; rfl
    · intro x hx
      rcases List.mem_append.1 hx with hx | hx
      · exact bs_lt s x hx
      · simp at hx; omega
  have zS : S.size = 418 := by rw [← bs_len, hbS, bitsS_len, List.length_append, hul]; rfl
  have hap : ∀ x y : ByteArray, (x ++ y).size = x.size + y.size := fun x y => ByteArray.size_append
  have z2 : (⟨#[48, 48]⟩ : ByteArray).size = 2 := rfl
  have HJ := Lib.hid hJ
  have HY := Lib.hid hY
  have HbS := Lib.hid hbS
  have Hul := Lib.hid hul
  have HN : Hid (∀ (W : World) (st b : Nat), st < 4 → b < 2 → Calls Tryz.prog 80 #[.int .i64 (st : Int), .int .i64 (b : Int)] W fun e w' => e = .returned (.tuple #[.int .i64 (cnx st b : Nat), .string (outS st b)]) ∧ W = w') := Lib.hid (fun W st b h1 h2 => vnext_any W st b h1 h2)
  have Hu2 : Hid (Bits (u ++ [0, 0])) := Lib.hid (fun x hx => by
    rcases List.mem_append.1 hx with hx | hx
    · exact hu x hx
    · simp at hx; omega)
  obtain ⟨v, hv⟩ : ∃ v, u ++ [0, 0] = v := ⟨_, rfl⟩
  have hvl : v.length = 418 := by rw [← hv, List.length_append, hul]; rfl
  rw [hv] at HbS Hu2 HY ⊢
  have Hvl := Lib.hid hvl
  clear hbx hJ hY hbS hul hs hu hv hvl
  refine callsIn_of_wp Tryz.func204 rfl trivial ?_ rfl
  simp only [Tryz.ntmps204, List.size_toArray, List.length_cons, List.length_nil, Nat.reduceAdd, Nat.reduceSub, Array.replicate_succ, Array.replicate_zero, List.push_toArray, List.append_toArray, List.nil_append, List.cons_append]
  gi_wp2
  gi_loopw [3] (fun x wr => ∃ (k st : Nat) (pre : List ByteArray), k ≤ 418 ∧ st < 4 ∧ x = .int .i64 (st : Int) ∧ wr.heap[W.heap.size]? = some (.stringIter S k) ∧ W.heap.size ≤ wr.heap.size ∧ pre ++ outsL st (v.drop k) = outsL 0 v ∧ J pre wr)
    (fun _ wr => iterLeft wr W.heap.size)
  case atStart =>
    refine ⟨0, 0, [], by omega, by omega, rfl, ?_, ?_, rfl, HJ.out _ _ _ h0 (Nat.le_refl _) ?_⟩
    · exact World.alloc_heap_new W (.stringIter S 0)
    · exact Nat.le_of_lt (by simp [World.iter])
    · exact rangeOwn.Aside.of_below ((Below.refl _ _).alloc (Nat.le_refl _) (.stringIter S 0)) (Nat.le_refl _)
  case round =>
    obtain ⟨k, st, pre, hk, hst, rfl, hit, hsz, hpre, hj⟩ := hrel
    by_cases h : k < 418
    · have hkS : k < S.size := by omega
      have hkv : k < v.length := by rw [Hvl.out]; exact h
      obtain ⟨b, hbk⟩ : ∃ b, v[k]'hkv = b := ⟨_, rfl⟩
      have hb2 : b < 2 := by rw [← hbk]; exact Hu2.out _ (List.getElem_mem hkv)
      have hsk : (S[k]'hkS).toNat = 48 + b := by
        have h1 := bs_get S k hkS
        rw [HbS.out] at h1
        unfold bitsS at h1
        rw [List.getElem?_map, List.getElem?_eq_getElem hkv, hbk, Option.map_some] at h1
        exact (Option.some.inj h1).symm
      have hdr : v.drop k = b :: v.drop (k + 1) := by rw [List.drop_eq_getElem_cons hkv, hbk]
      rw [hdr, outsL] at hpre
      have hnx : ∀ ty, (Instr.next (.pointer (some ⟨W.heap.size, 0, none⟩)) true ty).run Tryz.prog wr = .ok (.tuple #[.bool true, .int .i64 (k : Int), .int .i32 ((48 + b : Nat) : Int)]) (wr.iterAt W.heap.size S (k + 1)) := fun ty => by
        have h1 := Lib.run_next_ascii_at (P := Tryz.prog) wr W.heap.size S k ty hit hkS (by omega)
        rw [hsk] at h1
        exact h1
      have hj2 := HJ.out _ _ _ hj hsz (aside_iterAt hit (Nat.le_refl _) (k + 1))
      have hit2 := Lib.iterAt_heap wr W.heap.size S k (k + 1) hit
      have hsz2 : W.heap.size ≤ (wr.iterAt W.heap.size S (k + 1)).heap.size := by rw [Lib.iterAt_size]; exact hsz
      generalize wr.iterAt W.heap.size S (k + 1) = wt at *
      obtain ⟨fn, tmps, assign, body, hy, hR⟩ := HY.out pre (outS st b) #[.string (outS st b)] wt hj2 rfl ⟨outsL (cnx st b) (v.drop (k + 1)), by rw [← hpre]; simp⟩
      have HR := Lib.hid hR
      have Hpre := Lib.hid hpre
      have Hit := Lib.hid hit
      have Hit2 := Lib.hid hit2
      have Hsz2 := Lib.hid hsz2
      have Hst := Lib.hid hst
      have Hb2 := Lib.hid hb2
      clear hR hpre hit hit2 hj hj2 hsz hsz2 hst hdr hsk hbk
      rcases (by omega : b = 0 ∨ b = 1) with rfl | rfl
      all_goals
        have HN2 := Lib.hid (HN.out wt st _ Hst.out Hb2.out)
        gi_wp2_with (refine ⟨trivial, rfl, ?_⟩; gi_at_call 80; refine (callsIn_wide.2 HN2.out).mono ?_; rintro e w' ⟨rfl, rfl⟩)
        refine ⟨rfl, HR.out.mono ?_⟩
        rintro e W1 ⟨rfl, hj1, hk1⟩
        have Hj1 := Lib.hid hj1
        have Hk1 := Lib.hid hk1
        clear hj1 hk1
        gi_wp2
        go_roundw
        case rel => exact ⟨k + 1, cnx st _, pre ++ [outS st _], by omega, cnx_lt Hst.out Hb2.out, rfl, Hk1.out.2 _ _ Hit2.out (.inl rfl), Nat.le_trans Hsz2.out Hk1.out.1, by rw [← Hpre.out]; simp, Hj1.out⟩
        case measure =>
          rw [iterLeft_eq (Hk1.out.2 _ _ Hit2.out (.inl rfl)), iterLeft_eq Hit.out]
          omega
    · obtain rfl : k = 418 := by omega
      have hnx : ∀ ty, (Instr.next (.pointer (some ⟨W.heap.size, 0, none⟩)) true ty).run Tryz.prog wr = .ok (.tuple #[.bool false]) wr := fun ty => Lib.run_next_end_at (P := Tryz.prog) wr W.heap.size S 418 ty hit (by omega)
      have e : pre = outsL 0 v := by
        rw [← hpre, List.drop_eq_nil_of_le (by rw [Hvl.out]; exact Nat.le_refl _)]
        simp [outsL]
      have He := Lib.hid e
      have Hj := Lib.hid hj
      clear hpre hj e hit
      gi_wp2
      go_end0
      exact ⟨⟨_, rfl⟩, He.out ▸ Hj.out⟩

end Go.Proofs.YtjennpcadjdnlaaGreatDoor
