/-
 A frame as a map's key.
-/
import Derived.Test.YtnlnmfkmbpihhaaGreatDoorCoK
import Derived.DeepKeys4
import Derived.Maps.OwnOps
import Derived.Maps.OwnSet
import Derived.Maps.Views
namespace Go.Proofs.YtnlnmfkmbpihhaaGreatDoor.frmKey
open Go.RowKit Go.Maps

/-- The frames that are keys. -/
def OK (f : Frm) : Prop := (Lit.int .i64 f.k).wf = true ∧ (Lit.int .i64 f.r).wf = true ∧ (Lit.int .i64 f.s).wf = true ∧ (Lit.int .i64 f.i).wf = true ∧ (Lit.int .i64 f.l).wf = true ∧ (Lit.int .i64 f.d).wf = true ∧ (Lit.int .i64 f.p).wf = true ∧ (Lit.int .u32 f.a).wf = true ∧ f.t.size ≤ maxLen
def lits (f : Frm) : List Lit := [.int .i64 f.k, .int .i64 f.r, .int .i64 f.s, .int .i64 f.i, .int .i64 f.l, .int .i64 f.d, .int .i64 f.p, .int .u32 f.a, .string f.t.data.toList]
def K (f : Frm) : Lit := .string (keyBytes (lits f))
theorem keyTypeF : Tryz.prog.keyType 34 = true := by kernel_rfl
theorem cellsF : Tryz.prog.cellsOf 34 = 9 := by kernel_rfl
theorem cellsL : Tryz.prog.cellsOf 31 = 2 := by kernel_rfl
theorem cellsI : Tryz.prog.cellsOf 3 = 1 := by kernel_rfl
theorem cellsU : Tryz.prog.cellsOf 32 = 1 := by kernel_rfl
theorem cellsS : Tryz.prog.cellsOf 9 = 1 := by kernel_rfl
theorem some_types : 1 < Tryz.prog.types.size := of_decide_eq_true (by kernel_rfl)
theorem formedF (f : Frm) : f.v.formed Tryz.prog 34 = true := by
 unfold Frm.v frV
 simp [Value.formed, Tryz.underlying34, cellsF]
theorem litI (m : Nat) (n : Int) (h : (Lit.int .i64 n).wf = true) : Tryz.prog.keyLits (m + 1) 3 [.int .i64 n] = some [.int .i64 n] := by
 simp [Program.keyLits, Tryz.underlying3, h]
theorem litU (m : Nat) (n : Int) (h : (Lit.int .u32 n).wf = true) : Tryz.prog.keyLits (m + 1) 32 [.int .u32 n] = some [.int .u32 n] := by
 simp [Program.keyLits, Tryz.underlying32, h]
theorem litS (m : Nat) (t : ByteArray) (h : t.size ≤ maxLen) : Tryz.prog.keyLits (m + 1) 9 [.string t] = some [.string t.data.toList] := by
 simp [Program.keyLits, Tryz.underlying9, h]
theorem litL (m : Nat) (d p : Int) (hd : (Lit.int .i64 d).wf = true) (hp : (Lit.int .i64 p).wf = true) : Tryz.prog.keyLits (m + 1 + 1) 31 [.int .i64 d, .int .i64 p] = some [.int .i64 d, .int .i64 p] := by
 unfold Program.keyLits
 rw [Tryz.underlying31]
 simp [cellsL, cellsI, litI, hd, hp]
theorem litF (m : Nat) (f : Frm) (h : OK f) : Tryz.prog.keyLits (m + 1 + 1 + 1) 34 f.cells = some (lits f) := by
 obtain ⟨h0, h1, h2, h3, h4, h5, h6, h7, h8⟩ := h
 obtain ⟨k, r, s, i, l, d, p, a, t⟩ := f
 unfold Program.keyLits
 rw [Tryz.underlying34]
 simp [Frm.cells, lits, cellsF, cellsL, cellsI, cellsU, cellsS, litI, litU, litS, litL, h0, h1, h2, h3, h4, h5, h6, h7, h8]
theorem key {f : Frm} (h : OK f) : keyOf Tryz.prog 34 f.v = some (K f) := by
 obtain ⟨m, hm⟩ : ∃ m, Tryz.prog.types.size = m + 1 + 1 := ⟨Tryz.prog.types.size - 2, by have := some_types; omega⟩
 have hl := litF m f h
 rw [← hm] at hl
 unfold keyOf
 rw [Tryz.underlying34]
 dsimp only
 rw [keyTypeF, formedF, Bool.and_self, if_pos rfl]
 show Option.map _ (Tryz.prog.keyLits (Tryz.prog.types.size + 1) 34 f.cells) = _
 rw [hl]
 rfl
theorem keyed : Keyed Tryz.prog 34 := Keyed.of_law (deep_law_laid (m := 3) (by kernel_rfl) (by decide) (of_decide_eq_true (by kernel_rfl)) (by kernel_rfl) (by kernel_rfl))
theorem v_inj {f g : Frm} (h : f.v = g.v) : f = g := by
 obtain ⟨k, r, s, i, l, d, p, a, t⟩ := f
 obtain ⟨k', r', s', i', l', d', p', a', t'⟩ := g
 unfold Frm.v frV at h
 simp at h
 simpa using h
theorem inj {f g : Frm} (hf : OK f) (hg : OK g) (h : K f = K g) : f = g := v_inj (keyed.inj (key hf) (h ▸ key hg))
/-- The map of the frames met. -/
def Met (D : DataW Unit) (l : List Frm) : Prop := IsMap D ∧ ∀ f, OK f → D.atKey (K f) (.lit (.bool false)) = .lit (.bool (decide (f ∈ l)))
theorem Met.empty : Met (.map []) [] := ⟨isMap_empty, fun f _ => by simp [show (.map [] : DataW Unit).atKey (K f) (.lit (.bool false)) = .lit (.bool false) from rfl]⟩
theorem Met.put {D : DataW Unit} {l : List Frm} (h : Met D l) {f : Frm} (hf : OK f) : Met (D.put (K f) (.lit (.bool true))) (l ++ [f]) := by
 have hk : WideAt.IsKeyLit (K f) := trivial
 refine ⟨h.1.put _ _, fun g hg => ?_⟩
 by_cases e : g = f
 ·subst e
  rw [atKey_put_same h.1 hk]
  simp
 ·rw [atKey_put_other (fun e2 => e (inj hg hf e2)), h.2 g hg]
  simp [e]
end Go.Proofs.YtnlnmfkmbpihhaaGreatDoor.frmKey
