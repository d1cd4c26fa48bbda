/-
 PLAIN: the pieces of frames; scanning intact frames with unreadable cells between them; every sighted frame fits a map's key.
-/
import Derived.Test.YtnlnmfkmbpihhaaGreatDoorCoP
namespace Go.Proofs.YtnlnmfkmbpihhaaGreatDoor
open Go.RowKit

/-- The groups of frames whose cells are pieces: as many frames in each as the digits of a number in base 3 tell, at least one. -/
def grpL : Nat → Nat → List Frm → List (List Frm)
 | 0, _, _ => []
 | k + 1, s, fs => if fs = [] then [] else (if joinE (fs.take (1 + s % 3)) = 0 then [fs.take (1 + s % 3)] else []) ++ grpL k (s / 3) (fs.drop (1 + s % 3))
/-- The pieces. -/
def pcsL (k s : Nat) (fs : List Frm) : List ByteArray := (grpL k s fs).map joinS
theorem grpL_nil (k s : Nat) : grpL k s [] = [] := by
 cases k <;> simp [grpL]
theorem pcsL_nil (k s : Nat) : pcsL k s [] = [] := by rw [pcsL, grpL_nil]; rfl
theorem pcsL_step {k s : Nat} {fs : List Frm} (h : fs ≠ []) : pcsL (k + 1) s fs = (if joinE (fs.take (1 + s % 3)) = 0 then [joinS (fs.take (1 + s % 3))] else []) ++ pcsL k (s / 3) (fs.drop (1 + s % 3)) := by
 rw [pcsL, grpL, if_neg h, List.map_append, pcsL]
 split <;> rfl
theorem grpL_mem : ∀ (k s : Nat) (fs : List Frm), ∀ g ∈ grpL k s fs, joinE g = 0 ∧ g ≠ [] ∧ g.length ≤ 3 ∧ ∀ f ∈ g, f ∈ fs
 | 0, _, _, g, h => by cases h
 | k + 1, s, fs, g, h => by
  by_cases hf : fs = []
  ·subst hf
   rw [grpL_nil] at h
   cases h
  ·rw [grpL, if_neg hf] at h
   rcases List.mem_append.1 h with h | h
   ·by_cases hE : joinE (fs.take (1 + s % 3)) = 0
    ·rw [if_pos hE] at h
     obtain rfl := List.mem_singleton.1 h
     refine ⟨hE, ?_, ?_, fun f hm => List.mem_of_mem_take hm⟩
     ·cases fs with
      | nil => exact absurd rfl hf
      | cons a r => rw [Nat.add_comm, List.take_succ_cons]; simp
     ·rw [List.length_take]; omega
    ·rw [if_neg hE] at h
     cases h
   ·obtain ⟨h1, h2, h3, h4⟩ := grpL_mem k (s / 3) _ g h
    exact ⟨h1, h2, h3, fun f hm => List.mem_of_mem_drop (h4 f hm)⟩
theorem grpL_len : ∀ (k s : Nat) (fs : List Frm), (grpL k s fs).length ≤ fs.length
 | 0, _, _ => Nat.zero_le _
 | k + 1, s, fs => by
  by_cases hf : fs = []
  ·subst hf
   rw [grpL_nil]
   exact Nat.le_refl _
  ·have h := grpL_len k (s / 3) (fs.drop (1 + s % 3))
   have h0 : 0 < fs.length := List.length_pos_iff.2 hf
   rw [List.length_drop] at h
   rw [grpL, if_neg hf, List.length_append]
   have h1 : (if joinE (fs.take (1 + s % 3)) = 0 then [fs.take (1 + s % 3)] else []).length ≤ 1 := by split <;> simp
   omega
theorem joinE_iff {fs : List Frm} : joinE fs = 0 ↔ ∀ f ∈ fs, fE f = 0 := by
 induction fs with
 | nil => simp [joinE]
 | cons a r ih =>
  rw [joinE]
  by_cases h : fE a = 0
  ·rw [if_neg (by simpa using h), ih]
   simp [h]
  ·rw [if_pos h]
   simp [h]
/-- Of valid frames none is left out. -/
theorem grpL_flat : ∀ (k s : Nat) (fs : List Frm), fs.length ≤ k → (∀ f ∈ fs, fE f = 0) → (grpL k s fs).flatten = fs
 | 0, s, fs, h, _ => by
  obtain rfl := List.eq_nil_of_length_eq_zero (Nat.le_zero.1 h)
  rfl
 | k + 1, s, fs, h, h0 => by
  by_cases hf : fs = []
  ·subst hf
   rw [grpL_nil]
   rfl
  ·have hp : 0 < fs.length := List.length_pos_iff.2 hf
   rw [grpL, if_neg hf, if_pos (joinE_iff.2 fun f hm => h0 f (List.mem_of_mem_take hm)), List.flatten_append, grpL_flat k (s / 3) _ (by rw [List.length_drop]; omega) fun f hm => h0 f (List.mem_of_mem_drop hm)]
   simp
theorem joinS_of {g : List Frm} (h : joinE g = 0) : joinS g = strB (flatC (g.map msgOf)) := by rw [joinS, if_pos h]
theorem joinS_size {g : List Frm} (h : joinE g = 0) : (joinS g).size = 852 * g.length := by
 rw [joinS_of h, strB_size, flatC_len, List.length_map]
theorem pcsL_size {k s : Nat} {fs : List Frm} : ∀ x ∈ pcsL k s fs, 0 < x.size ∧ x.size ≤ 2556 := by
 intro x hx
 obtain ⟨g, hg, rfl⟩ := List.mem_map.1 hx
 obtain ⟨h1, h2, h3, _⟩ := grpL_mem k s fs g hg
 have := List.length_pos_iff.2 h2
 rw [joinS_size h1]
 omega

/-! cells made unreadable -/
def dmgB (D : List Nat) (L : List Nat) : List Nat := D.foldl (fun l d => l.set (d % L.length) 63) L
def dmgP (D : List Nat) : List ByteArray → List ByteArray
 | [] => []
 | s :: r => strB (dmgB D (bs s)) :: r
theorem dmgB_len (D L : List Nat) : (dmgB D L).length = L.length := by
 suffices h : ∀ (n : Nat) (D l : List Nat), (D.foldl (fun l d => l.set (d % n) 63) l).length = l.length from h L.length D L
 intro n D
 induction D with
 | nil => intro l; rfl
 | cons d r ih => intro l; rw [List.foldl_cons, ih, List.length_set]
theorem dmgB_snoc {D L : List Nat} {i d : Nat} (h : D[i]? = some d) : dmgB (D.take (i + 1)) L = (dmgB (D.take i) L).set (d % L.length) 63 := by
 unfold dmgB
 rw [List.take_add_one, h, Option.toList_some, List.foldl_append, List.foldl_cons, List.foldl_nil]
theorem dmgP_nil (l : List ByteArray) : dmgP [] l = l := by
 cases l with
 | nil => rfl
 | cons s r => rw [dmgP]; unfold dmgB; rw [List.foldl_nil, strB_bs]
theorem dmgP_len (D : List Nat) (l : List ByteArray) : (dmgP D l).length = l.length := by
 cases l <;> rfl
theorem dmgP_size {D : List Nat} {n : Nat} {l : List ByteArray} (h : ∀ x ∈ l, x.size ≤ n) : ∀ x ∈ dmgP D l, x.size ≤ n := by
 cases l with
 | nil => intro x hx; cases hx
 | cons s r =>
  intro x hx
  rcases List.mem_cons.1 hx with rfl | hx
  ·rw [strB_size, dmgB_len, bs_len]
   exact h s List.mem_cons_self
  ·exact h x (List.mem_cons_of_mem _ hx)

/-- A slice value that reads as these 16-bit numbers. -/
abbrev U16At (w : World) (v : Value) (xs : List Nat) : Prop := SlAt (PlainR fun x : Nat => .int .u16 (x : Int)) w v xs
theorem U16At.below {w w' : World} {v : Value} {xs : List Nat} (h : U16At w v xs) (hb : Below w.heap.size w w') : U16At w' v xs :=
 SlAt.keep h (fun _ _ => cell_below hb) plainR_keep
theorem U16At.nil (w : World) : U16At w (.slice none 0 0) [] := ⟨none, 0, rfl, Nat.le_refl _, by decide, fun i x h => by simp at h⟩

/-! strips -/
/-- Messages and unreadable cells. -/
def stripC (its : List (Option (List Nat))) : List Nat := its.flatMap fun o => match o with
 | none => [63]
 | some m => markL ++ bodyL m
theorem stripC_app (a b : List (Option (List Nat))) : stripC (a ++ b) = stripC a ++ stripC b := by unfold stripC; rw [List.flatMap_append]
theorem stripC_none (r : List (Option (List Nat))) : stripC (none :: r) = 63 :: stripC r := rfl
theorem stripC_some (m : List Nat) (r : List (Option (List Nat))) : stripC (some m :: r) = (markL ++ bodyL m) ++ stripC r := rfl
theorem stripC_bytes {its : List (Option (List Nat))} (h : ∀ m, some m ∈ its → Bytes m ∧ m.length = 44) : Bytes (stripC its) := fun x hx => by
 unfold stripC at hx
 obtain ⟨o, ho, hx⟩ := List.mem_flatMap.1 hx
 cases o with
 | none => rw [List.mem_singleton.1 hx]; decide
 | some m =>
  obtain ⟨h1, h2⟩ := h m ho
  exact bytes_app (b01_bytes markL_01) (bodyL_bytes h1 h2) x hx
theorem mt_tail (l : List Nat) (k i : Nat) : ∀ n, mt l k (i + n) ≤ mt l k i + n
 | 0 => Nat.le_refl _
 | n + 1 => by
  have := mt_tail l k i n
  rw [← Nat.add_assoc, mt]
  split <;> omega
/-- A mark is not read where an unreadable cell stands ahead of it. -/
theorem gap_miss : ∀ r : List (Option (List Nat)), (63 :: stripC r).length < 16 ∨ mt (63 :: stripC r) 0 16 ≤ 13
 | [] => .inl (by decide)
 | some m :: r => .inr (by
  rw [stripC_some, List.append_assoc, mt_congr (r := 63 :: markL) (k' := 0) 16 fun j hj => ?_]
  ·rw [markL_eq]; decide
  ·rw [← List.cons_append, Nat.zero_add]
   exact cf_app_left (by rw [List.length_cons, markL_len]; omega))
 | [none] => .inl (by decide)
 | none :: some m :: r => .inr (by
  rw [stripC_none, stripC_some, List.append_assoc, mt_congr (r := 63 :: 63 :: markL) (k' := 0) 16 fun j hj => ?_]
  ·rw [markL_eq]; decide
  ·rw [← List.cons_append, ← List.cons_append, Nat.zero_add]
   exact cf_app_left (by rw [List.length_cons, List.length_cons, markL_len]; omega))
 | none :: none :: r => .inr (by
  rw [stripC_none, stripC_none]
  have h : mt (63 :: 63 :: 63 :: stripC r) 0 16 ≤ mt (63 :: 63 :: 63 :: stripC r) 0 3 + 13 := mt_tail (63 :: 63 :: 63 :: stripC r) 0 3 13
  have h3 : mt (63 :: 63 :: 63 :: stripC r) 0 3 = 0 := by
   rw [mt_congr (r := [63, 63, 63]) (k' := 0) 3 fun j hj => by
    rw [Nat.zero_add, show (63 :: 63 :: 63 :: stripC r : List Nat) = [63, 63, 63] ++ stripC r from rfl]
    exact cf_app_left (by simpa using hj)]
   unfold mt mt mt mt
   rw [markL_eq]
   decide
  omega)
theorem scanL_next {s : ByteArray} {i : Nat} (h : s.size < i + 16 ∨ hit (bs s) i = false) : scanL s i = scanL s (i + 1) := by
 rcases h with h | h
 ·rw [scanL_end h, scanL_end (by omega)]
 ·have e : findL (bs s) i = findL (bs s) (i + 1) := by
   rw [findL_step]
   split
   ·rw [h]; rfl
   ·next hn => exact (findL_none (by omega)).symm
  cases hf : findL (bs s) (i + 1) with
  | none => rw [scanL_none hf, scanL_none (e.trans hf)]
  | some o =>
   cases ht : tryAt s o with
   | none => rw [scanL_miss hf ht, scanL_miss (e.trans hf) ht]
   | some x => rw [scanL_some hf ht, scanL_some (e.trans hf) ht]
/-- Scanning intact frames with unreadable cells between them. -/
theorem scan_strip : ∀ (suf pre : List (Option (List Nat))) (fs : List Frm), (∀ m, some m ∈ pre ++ suf → Bytes m ∧ m.length = 44) → Msgs (suf.filterMap id) fs → (scanL (strB (stripC (pre ++ suf))) (stripC pre).length).map Sgt.f = fs
 | [], pre, fs, _, h => by
  cases h
  rw [scanL_end (by rw [strB_size, List.append_nil]; omega)]
  rfl
 | none :: suf, pre, fs, hb, h => by
  have h4 := scan_strip suf (pre ++ [none]) fs (by rw [List.append_assoc]; exact hb) h
  rw [List.append_assoc, stripC_app pre [none], List.length_append] at h4
  rw [scanL_next]
  ·exact h4
  ·have hby := stripC_bytes hb
   rw [stripC_app, stripC_none] at hby
   rw [stripC_app, stripC_none, strB_size, bs_strB hby, List.length_append]
   rcases gap_miss suf with h | h
   ·left; omega
   ·right
    unfold hit
    rw [mt_congr (r := 63 :: stripC suf) (k' := 0) 16 fun j _ => by rw [Nat.zero_add, cf_app_right]]
    exact decide_eq_false (by omega)
 | some m :: suf, pre, fs, hb, h => by
  cases h with
  | @cons _ f _ fs h1 h2 =>
   have e : stripC (pre ++ some m :: suf) = stripC pre ++ (markL ++ bodyL m) ++ stripC suf := by
    rw [stripC_app, stripC_some]
    exact (List.append_assoc _ _ _).symm
   have hby := stripC_bytes hb
   rw [e] at hby
   have h3 := scan_at hby markL_len (by rw [bodyL_len]; exact Nat.le_refl _) (.inl (bodyL_len m)) mt_mark (by rw [bodyL_len, b01_no63 (bodyL_01 h1.bytes h1.len)]; decide) (body_dec h1)
   rw [← e] at h3
   rw [h3, List.map_cons]
   have h4 := scan_strip suf (pre ++ [some m]) fs (by rw [List.append_assoc]; exact hb) h2
   rw [List.append_assoc, stripC_app pre [some m], List.length_append, show (stripC [some m]).length = 852 by
    rw [stripC_some, List.length_append, List.length_append, markL_len, bodyL_len]; rfl] at h4
   exact congrArg _ h4
/-- The items of groups of frames, with unreadable cells behind each. -/
def gapI (n : Nat) (gs : List (List Frm)) : List (Option (List Nat)) := gs.flatMap fun g => g.map (fun f => some (msgOf f)) ++ List.replicate n none
theorem stripC_frames (g : List Frm) : stripC (g.map fun f => some (msgOf f)) = flatC (g.map msgOf) := by
 induction g with
 | nil => rfl
 | cons f r ih =>
  rw [List.map_cons, stripC_some, ih]
  rfl
theorem stripC_gap (n : Nat) : stripC (List.replicate n none) = List.replicate n 63 := by
 induction n with
 | zero => rfl
 | succ n ih => rw [List.replicate_succ, stripC_none, ih]; rfl
theorem filter_frames (g : List Frm) : (g.map fun f => some (msgOf f)).filterMap id = g.map msgOf := by
 rw [List.filterMap_map]
 induction g with
 | nil => rfl
 | cons f r ih => rw [List.filterMap_cons, ih]; rfl
theorem filter_gap (n : Nat) : (List.replicate n (none : Option (List Nat))).filterMap id = [] := by
 induction n with
 | zero => rfl
 | succ n ih => rw [List.replicate_succ, List.filterMap_cons, ih]; rfl
theorem filter_gapI (n : Nat) (gs : List (List Frm)) : (gapI n gs).filterMap id = gs.flatten.map msgOf := by
 induction gs with
 | nil => rfl
 | cons g r ih =>
  unfold gapI at ih ⊢
  rw [List.flatMap_cons, List.filterMap_append, List.filterMap_append, filter_frames, filter_gap, ih, List.flatten_cons, List.map_append, List.append_nil]
theorem gapI_msg {n : Nat} {gs : List (List Frm)} (h : ∀ f ∈ gs.flatten, fE f = 0 ∧ f.small) : ∀ m, some m ∈ gapI n gs → Bytes m ∧ m.length = 44 := by
 intro m hm
 unfold gapI at hm
 obtain ⟨g, hg, hm⟩ := List.mem_flatMap.1 hm
 rcases List.mem_append.1 hm with hm | hm
 ·obtain ⟨f, hf, e⟩ := List.mem_map.1 hm
  cases e
  obtain ⟨h1, h2⟩ := h f (List.mem_flatten.2 ⟨g, hg, hf⟩)
  have := (msgOf_msg h1 h2).1
  exact ⟨this.bytes, this.len⟩
 ·exact absurd (List.eq_of_mem_replicate hm) (by simp)
/-- One piece of all groups, with unreadable cells between them: the frames, one after the other. -/
theorem scan_gap (n : Nat) {gs : List (List Frm)} (h : ∀ f ∈ gs.flatten, fE f = 0 ∧ f.small) : (scanL (strB (stripC (gapI n gs))) 0).map Sgt.f = gs.flatten := by
 have := scan_strip (gapI n gs) [] gs.flatten (by rw [List.nil_append]; exact gapI_msg h) (by rw [filter_gapI]; exact msgs_of h)
 rwa [List.nil_append] at this
theorem sightsL_f : ∀ (j : Nat) (fs : List Frm), (sightsL j fs).map Sgt.f = fs
 | _, [] => rfl
 | j, f :: r => by rw [sightsL, List.map_cons, sightsL_f (j + 1) r]
/-- A piece of intact frames. -/
theorem scan_join {g : List Frm} (h : joinE g = 0) (hs : ∀ f ∈ g, f.small) : (scanL (joinS g) 0).map Sgt.f = g := by
 rw [joinS_of h, scan_frames (msgs_of fun f hf => ⟨joinE_iff.1 h f hf, hs f hf⟩), sightsL_f]

/-! sighted frames -/
theorem scanL_dec (s : ByteArray) : ∀ (n i : Nat), s.size - i = n → ∀ x ∈ scanL s i, ∃ o, decP (bodyAt s o) = (x.f, x.q, 0) := by
 intro n
 induction n using Nat.strongRecOn with
 | _ n ih =>
  intro i hn x hx
  cases hf : findL (bs s) i with
  | none => rw [scanL_none hf] at hx; cases hx
  | some o =>
   obtain ⟨h1, h2, h3, _⟩ := findL_some _ i rfl hf
   rw [bs_len] at h2
   cases ht : tryAt s o with
   | none =>
    rw [scanL_miss hf ht] at hx
    exact ih (s.size - (o + 1)) (by omega) (o + 1) rfl x hx
   | some y =>
    rw [scanL_some hf ht] at hx
    rcases List.mem_cons.1 hx with rfl | hx
    ·refine ⟨o, ?_⟩
     unfold tryAt at ht
     split at ht
     ·split at ht
      ·next h0 =>
       have e := Option.some.inj ht
       generalize decP (bodyAt s o) = D at h0 e ⊢
       obtain ⟨d1, d2, d3⟩ := D
       rw [← e]
       dsimp only at h0 ⊢
       rw [h0]
      ·exact nomatch ht
     ·exact nomatch ht
    ·by_cases hle : s.size < o + 852 + 16
     ·rw [scanL_end hle] at hx; cases hx
     ·exact ih (s.size - (o + 852)) (by omega) (o + 852) rfl x hx
theorem decP_unm {s : ByteArray} {f : Frm} {q : Qua} (h : decP s = (f, q, 0)) : ∃ o, f = unmS o := by
 unfold decP at h
 split at h
 ·next hc => simp only [Prod.mk.injEq] at h; exact absurd h.2.2 hc
 ·split at h
  ·simp only [Prod.mk.injEq] at h; exact absurd h.2.2 (by decide)
  ·split at h
   ·simp only [Prod.mk.injEq] at h; exact absurd h.2.2 (by decide)
   ·split at h
    ·simp only [Prod.mk.injEq] at h; exact ⟨_, h.1.symm⟩
    ·next hc => simp only [Prod.mk.injEq] at h; exact absurd h.2.2 hc
theorem valL_lt4 (s : ByteArray) (i j : Nat) (h : j ≤ i + 4) : valL (bs (s.extract i j)) < 4294967296 := by
 have h1 := valL_lt (bs (s.extract i j)) (fun x hx => bs_lt _ x hx)
 have h2 : (bs (s.extract i j)).length ≤ 4 := by rw [bs_len, ByteArray.size_extract]; omega
 have h3 : 256 ^ (bs (s.extract i j)).length ≤ 4294967296 := Nat.le_trans (Nat.pow_le_pow_right (by decide) h2) (by decide)
 omega
theorem wf_nat {n : Nat} (h : n < 4294967296) : (Lit.int .i64 (n : Int)).wf = true := by
 have h1 : IntKind.i64.min = -9223372036854775808 := by decide
 have h2 : IntKind.i64.max = 9223372036854775807 := by decide
 unfold Lit.wf
 simp only [h1, h2, Bool.and_eq_true, decide_eq_true_eq]
 omega
theorem wf_natU {n : Nat} (h : n < 4294967296) : (Lit.int .u32 (n : Int)).wf = true := by
 have h1 : IntKind.u32.min = 0 := by decide
 have h2 : IntKind.u32.max = 4294967295 := by decide
 unfold Lit.wf
 simp only [h1, h2, Bool.and_eq_true, decide_eq_true_eq]
 omega
theorem unmS_ok (s : ByteArray) : frmKey.OK (unmS s) ∧ (unmS s).small := by
 have h7 := cf_lt (p := bs s) (fun x hx => bs_lt s x hx) 7
 refine ⟨⟨wf_nat (valL_lt4 _ _ _ (by omega)), wf_nat (valL_lt4 _ _ _ (by omega)), wf_nat (valL_lt4 _ _ _ (by omega)), wf_nat (valL_lt4 _ _ _ (by omega)), wf_nat (valL_lt4 _ _ _ (by omega)), wf_nat (by omega), wf_nat (by omega), wf_natU (valL_lt4 _ _ _ (by omega)), ?_⟩, ?_⟩
 ·show (s.extract 12 40).size ≤ maxLen
  rw [ByteArray.size_extract]
  unfold maxLen
  omega
 ·have := valL_lt4 s 8 12 (by omega)
  unfold Frm.small
  show 0 ≤ ((valL (bs (s.extract 8 12)) : Nat) : Int) ∧ ((valL (bs (s.extract 8 12)) : Nat) : Int) < 4294967296
  omega
/-- Every sighted frame fits a map's key. -/
theorem scanL_ok {s : ByteArray} {i : Nat} {x : Sgt} (h : x ∈ scanL s i) : frmKey.OK x.f ∧ x.f.small := by
 obtain ⟨o, ho⟩ := scanL_dec s _ i rfl x h
 obtain ⟨u, hu⟩ := decP_unm ho
 rw [hu]
 exact unmS_ok u
end Go.Proofs.YtnlnmfkmbpihhaaGreatDoor
