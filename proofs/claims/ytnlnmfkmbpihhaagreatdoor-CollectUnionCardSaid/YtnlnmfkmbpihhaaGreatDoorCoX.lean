/-
 What collect.Collect gathers from the pieces of sound frames.
-/
import Derived.Test.YtnlnmfkmbpihhaaGreatDoorCoU
import Derived.Test.YtnlnmfkmbpihhaaGreatDoorCoW
import Derived.Test.YtnlnmfkmbpihhaaGreatDoorFrT
import Derived.Test.YtnlnmfkmbpihhaaGreatDoorCoT
namespace Go.Proofs.YtnlnmfkmbpihhaaGreatDoor
open Go.RowKit

/-- The pieces of frames without damage. -/
theorem pieces_sound (w : World) (v : Value) (fs : List Frm) (sp : Nat) (hv : FrmsAt w v fs) (hl : fs.length ≤ 100) (ha : ∀ f ∈ fs, f.small) (hsp : sp < 65536) :
  Calls Tryz.prog 24 #[v, .int .u16 (sp : Int), .slice none 0 0] w fun e w' => ∃ v', e = .returned v' ∧ w'.ownsRow w.heap.size 9 1 v' (pcsL fs.length sp fs).length ((pcsL fs.length sp fs).map .string) ∧ Below w.heap.size w w' := by
 have h := pieces_any w v (.slice none 0 0) fs [] sp hv (U16At.nil w) hl ha hsp (by simp) rjoin_any
 rwa [dmgP_nil] at h
/-- What collect.Collect gathers from pieces. -/
theorem coll_pieces (w : World) (vl : Value) (ar : Int) (ss : List ByteArray) (hv : StrvAt w vl ss) (hl : ss.length ≤ 100) (hs : ∀ s ∈ ss, s.size ≤ 900000) (hn : (piecesL 0 ss).length ≤ 900000) :
  Calls Tryz.prog 26 #[vl, .int .u32 ar] w fun e w' => ∃ v, e = .returned (.agg #[.int .u32 ar, v]) ∧ FrmsAt w' v (collF ar (piecesL 0 ss)) ∧ Below w.heap.size w w' :=
 (coll_any w vl ar (piecesL 0 ss) hn piecesL_ok fun W hb => scpieces_any W vl ss (hv.below hb) (by omega) hs).mono fun _ _ ⟨v, l2, e, h1, h2, h3, h4⟩ => ⟨v, e, by rw [← sorted_collF h1 h2]; exact h3, h4⟩
theorem strs_oneX (W : World) (s : ByteArray) : StrvAt (W.alloc (.cells #[.string s] 9)) (.slice (some ⟨W.heap.size, 0, none⟩) 1 1) [s] :=
 ⟨_, _, rfl, fun i x hx => ⟨W.heap.size, 0, rfl, by
  cases i with
  | zero =>
   obtain rfl : s = x := by simpa using hx
   exact (Blk.new W 9 [.string s]).cell (i := 0) rfl
  | succ j => simp at hx⟩⟩
theorem piecesL_small {ss : List ByteArray} {n : Nat} (hn : n * ss.length ≤ 900000) (h : ∀ s ∈ ss, s.size ≤ n) : (piecesL 0 ss).length ≤ 900000 := by
 have : ∀ (ss : List ByteArray) (k : Nat), (∀ s ∈ ss, s.size ≤ n) → (piecesL k ss).length ≤ n * ss.length := by
  intro ss
  induction ss with
  | nil => intro k _; simp [piecesL]
  | cons s r ih =>
   intro k h
   have h1 := ih (k + 1) fun x hx => h x (List.mem_cons_of_mem _ hx)
   have h2 := scanL_len s _ 0 rfl
   have h3 := h s List.mem_cons_self
   rw [piecesL, List.length_append, List.length_map, List.length_cons, Nat.mul_add, Nat.mul_one]
   omega
 exact Nat.le_trans (this ss 0 h) hn
theorem pcsL_few {k s : Nat} {fs : List Frm} (h : fs.length ≤ 5) : (pcsL k s fs).length ≤ 5 := by
 have := grpL_len k s fs
 rw [pcsL, List.length_map]
 omega
end Go.Proofs.YtnlnmfkmbpihhaaGreatDoor
