/-
 PLAIN: a map of the frames seen: its size; what is collected from pieces.
-/
import Derived.Test.YtnlnmfkmbpihhaaGreatDoorCoV
import Derived.Test.YtnlnmfkmbpihhaaGreatDoorCoS
import Derived.Test.YtnlnmfkmbpihhaaGreatDoorScXp
import Derived.Maps.OwnSet
namespace Go.Proofs.YtnlnmfkmbpihhaaGreatDoor
open Go.RowKit Go.Maps

/-- A frame set behind the others, if it isn't among them. -/
def addF (L : List Frm) (f : Frm) : List Frm := if f ∈ L then L else L ++ [f]
theorem addF_mem {L : List Frm} {f y : Frm} : y ∈ addF L f ↔ y ∈ L ∨ y = f := by
 unfold addF
 split
 ·next h =>
  refine ⟨.inl, fun e => e.elim id fun e => by rw [e]; exact h⟩
 ·simp
theorem addF_nodup {L : List Frm} {f : Frm} (h : L.Nodup) : (addF L f).Nodup := by
 unfold addF
 split
 ·exact h
 ·next hn => exact List.nodup_append.2 ⟨h, List.pairwise_singleton _ _, fun a ha b hb e => hn (by rw [List.mem_singleton.1 hb] at e; rw [← e]; exact ha)⟩
/-- The map of the frames seen, each once. -/
structure Seen (D : DataW Unit) (L : List Frm) : Prop where
 nodup : L.Nodup
 met : frmKey.Met D L
 has : ∀ f, frmKey.OK f → Maps.has D (frmKey.K f) = decide (f ∈ L)
 size : Maps.size D = L.length
theorem Seen.empty : Seen (.map []) [] := ⟨List.nodup_nil, frmKey.Met.empty, fun f _ => by simp [Maps.has_eq], rfl⟩
theorem Seen.put {D : DataW Unit} {L : List Frm} (h : Seen D L) (ht : Tidy D) {f : Frm} (hf : frmKey.OK f) : Seen (D.put (frmKey.K f) (.lit (.bool true))) (addF L f) := by
 have hk : WideAt.IsKeyLit (frmKey.K f) := trivial
 refine ⟨addF_nodup h.nodup, ?_, fun g hg => ?_, ?_⟩
 ·obtain ⟨h1, h2⟩ := h.met.put hf
  refine ⟨h1, fun g hg => ?_⟩
  rw [h2 g hg]
  congr 2
  rw [decide_eq_decide, addF_mem]
  simp
 ·by_cases e : g = f
  ·subst e
   rw [has_put_same h.met.1 hk, eq_comm, decide_eq_true_eq, addF_mem]
   exact .inr rfl
  ·rw [has_put_other (fun e2 => e (frmKey.inj hg hf e2)), h.has g hg, decide_eq_decide, addF_mem]
   simp [e]
 ·rw [size_put ht, h.has f hf, h.size]
  unfold addF
  split <;> split <;> simp_all
/-- Two lists of the same members, neither with a repetition, are of one length. -/
theorem nodup_len : ∀ {l m : List Frm}, l.Nodup → m.Nodup → (∀ y, y ∈ l ↔ y ∈ m) → l.length = m.length := by
 intro l m h1 h2 h
 exact List.Perm.length_eq ((List.perm_ext_iff_of_nodup h1 h2).2 h)
theorem Srt.nodup {l : List Frm} (h : Srt l) : l.Nodup := h.imp fun {a b} hab e => by
 subst e
 exact cmp_irr hab hab
/-- The frames that are sighted in pieces. -/
def framesL (ss : List ByteArray) : List Frm := ss.flatMap fun s => (scanL s 0).map Sgt.f
theorem piecesL_f : ∀ (ss : List ByteArray) (k : Nat), (piecesL k ss).map Sgt.f = framesL ss
 | [], _ => rfl
 | s :: r, k => by
  rw [piecesL, List.map_append, piecesL_f r (k + 1), List.map_map]
  rfl
theorem of_iff {ar : Int} {xs : List Sgt} {y : Frm} : Of ar xs y ↔ y.a = ar ∧ y ∈ xs.map Sgt.f := by
 unfold Of
 rw [List.mem_map]
 constructor
 ·rintro ⟨x, hx, h, rfl⟩
  exact ⟨h, x, hx, rfl⟩
 ·rintro ⟨h, x, hx, rfl⟩
  exact ⟨x, hx, h, rfl⟩
/-- What is collected from pieces depends on the frames sighted alone. -/
theorem collF_pieces {ar : Int} {ss : List ByteArray} {k : Nat} {y : Frm} : y ∈ collF ar (piecesL k ss) ↔ y.a = ar ∧ y ∈ framesL ss := by
 rw [(collF_spec ar _).2 y, of_iff, piecesL_f]
theorem collF_same {ar : Int} {ss rr : List ByteArray} (h : ∀ y, y ∈ framesL ss ↔ y ∈ framesL rr) : collF ar (piecesL 0 ss) = collF ar (piecesL 0 rr) :=
 srt_ext _ _ (collF_spec ar _).1 (collF_spec ar _).1 fun y => by rw [collF_pieces, collF_pieces, h]
theorem piecesL_ok {ss : List ByteArray} {k : Nat} : ∀ x ∈ piecesL k ss, frmKey.OK x.f := by
 intro x hx
 have h : x.f ∈ (piecesL k ss).map Sgt.f := List.mem_map_of_mem hx
 rw [piecesL_f] at h
 obtain ⟨s, _, hs⟩ := List.mem_flatMap.1 h
 obtain ⟨z, hz, e⟩ := List.mem_map.1 hs
 rw [← e]
 exact (scanL_ok hz).1
theorem framesL_ok {ss : List ByteArray} : ∀ f ∈ framesL ss, frmKey.OK f := by
 intro f hf
 rw [← piecesL_f ss 0] at hf
 obtain ⟨x, hx, rfl⟩ := List.mem_map.1 hf
 exact piecesL_ok x hx
/-- The frames of intact pieces. -/
theorem framesL_groups : ∀ {gs : List (List Frm)}, (∀ g ∈ gs, joinE g = 0 ∧ ∀ f ∈ g, f.small) → framesL (gs.map joinS) = gs.flatten
 | [], _ => rfl
 | g :: r, h => by
  obtain ⟨h1, h2⟩ := h g List.mem_cons_self
  have ih := framesL_groups fun x hx => h x (List.mem_cons_of_mem _ hx)
  unfold framesL at ih ⊢
  rw [List.map_cons, List.flatMap_cons, scan_join h1 h2, ih, List.flatten_cons]
theorem framesL_pcs {k s : Nat} {fs : List Frm} (ha : ∀ f ∈ fs, f.small) : framesL (pcsL k s fs) = (grpL k s fs).flatten :=
 framesL_groups fun g hg => ⟨(grpL_mem k s fs g hg).1, fun f hf => ha f ((grpL_mem k s fs g hg).2.2.2 f hf)⟩

/-! one piece of all -/
def gapB (n : Nat) : ByteArray := strB (List.replicate n 63)
def catL (n : Nat) (ss : List ByteArray) : ByteArray := ss.foldl (fun a s => a ++ s ++ gapB n) ⟨#[]⟩
theorem catL_snoc {n k : Nat} {ss : List ByteArray} {s : ByteArray} (h : ss[k]? = some s) : catL n (ss.take (k + 1)) = catL n (ss.take k) ++ s ++ gapB n := by
 unfold catL
 rw [List.take_add_one, h, Option.toList_some, List.foldl_append]
 rfl
theorem catL_groups (n : Nat) : ∀ (gs : List (List Frm)) (pre : List (Option (List Nat))), (∀ g ∈ gs, joinE g = 0) → (gs.map joinS).foldl (fun a s => a ++ s ++ gapB n) (strB (stripC pre)) = strB (stripC (pre ++ gapI n gs))
 | [], pre, _ => by
  show strB (stripC pre) = strB (stripC (pre ++ []))
  rw [List.append_nil]
 | g :: r, pre, h => by
  have e1 : strB (stripC pre) ++ joinS g ++ gapB n = strB (stripC (pre ++ (g.map fun f => some (msgOf f)) ++ List.replicate n none)) := by
   rw [joinS_of (h g List.mem_cons_self), ← stripC_frames, strB_cat, ← stripC_app, show gapB n = strB (stripC (List.replicate n none)) by rw [stripC_gap]; rfl, strB_cat, ← stripC_app]
  rw [List.map_cons, List.foldl_cons, e1, catL_groups n r _ fun x hx => h x (List.mem_cons_of_mem _ hx)]
  unfold gapI
  rw [List.flatMap_cons]
  simp only [List.append_assoc]
theorem framesL_cat {n k s : Nat} {fs : List Frm} (ha : ∀ f ∈ fs, f.small) : framesL [catL n (pcsL k s fs)] = framesL (pcsL k s fs) := by
 rw [framesL_pcs ha]
 have hg := grpL_mem k s fs
 have e : catL n (pcsL k s fs) = strB (stripC (gapI n (grpL k s fs))) := catL_groups n (grpL k s fs) [] fun g hm => (hg g hm).1
 rw [e]
 unfold framesL
 rw [List.flatMap_cons, List.flatMap_nil, List.append_nil, scan_gap n fun f hf => ?_]
 obtain ⟨g, hm, hf⟩ := List.mem_flatten.1 hf
 obtain ⟨h1, _, _, h4⟩ := hg g hm
 exact ⟨joinE_iff.1 h1 f hf, ha f (h4 f hf)⟩
theorem catL_size {n m : Nat} : ∀ {ss : List ByteArray}, (∀ x ∈ ss, x.size ≤ m) → (catL n ss).size ≤ ss.length * (m + n) := by
 intro ss
 have h : ∀ (ss : List ByteArray) (a : ByteArray), (∀ x ∈ ss, x.size ≤ m) → (ss.foldl (fun a s => a ++ s ++ gapB n) a).size ≤ a.size + ss.length * (m + n) := by
  intro ss
  induction ss with
  | nil => intro a _; simp
  | cons s r ih =>
   intro a hs
   rw [List.foldl_cons]
   have h1 := ih (a ++ s ++ gapB n) fun x hx => hs x (List.mem_cons_of_mem _ hx)
   have h2 := hs s List.mem_cons_self
   rw [ByteArray.size_append, ByteArray.size_append, show (gapB n).size = n by unfold gapB; rw [strB_size, List.length_replicate]] at h1
   rw [List.length_cons, Nat.add_mul, Nat.one_mul]
   omega
 intro hs
 have := h ss ⟨#[]⟩ hs
 rw [show (⟨#[]⟩ : ByteArray).size = 0 from rfl, Nat.zero_add] at this
 exact this
end Go.Proofs.YtnlnmfkmbpihhaaGreatDoor
