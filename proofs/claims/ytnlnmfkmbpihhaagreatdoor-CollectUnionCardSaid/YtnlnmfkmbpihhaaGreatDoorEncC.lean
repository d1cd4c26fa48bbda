/-
 WALKS: convcode.outputs, an iterator over a string's characters.
 WALKS: convcode.outputs, Encode.
-/
import Derived.Test.YtnlnmfkmbpihhaaGreatDoorRangeOwn
import Derived.Test.YtnlnmfkmbpihhaaGreatDoorVitA
import Derived.Test.YtnlnmfkmbpihhaaGreatDoorFrD
namespace Go.Proofs.YtnlnmfkmbpihhaaGreatDoor
open Go.RowKit Go.Shelf
attribute [local go_sem] Oper.semAt_some

theorem Bld.moved {A B : World} {K b : Nat} {l : List Nat} (h : Bld A K b l) (hc : ∀ (k : Nat) (o : Obj), A.heap[k]? = some o → o.isCells = true → B.heap[k]? = some o) : Bld B K b l := by
 have key : ∀ p, Lib.BuilderAtF 111 5 K b p (l.map u8V) A → Lib.BuilderAtF 111 5 K b p (l.map u8V) B := by
  rintro p ⟨hB, v, hb, hown, hne⟩
  refine ⟨hB, v, hc _ _ hb rfl, ⟨hown.1, ?_⟩, hne⟩
  rcases hown.2 with hn | ⟨g, cap, cur, fz, hv, hbg, hg, rest⟩
  ·exact .inl hn
  ·exact .inr ⟨g, cap, cur, fz, hv, hbg, hc _ _ hg rfl, rest⟩
 exact Or.elim h (fun x => .inl (key _ x)) (fun x => .inr (key _ x))
end Go.Proofs.YtnlnmfkmbpihhaaGreatDoor

namespace Go.Proofs.YtnlnmfkmbpihhaaGreatDoor
open Go.RowKit Go.Shelf
attribute [local go_sem] Oper.semAt_some

end Go.Proofs.YtnlnmfkmbpihhaaGreatDoor
