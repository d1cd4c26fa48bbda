/-
  No cell of these rows narrows 'for every input' (looked for: loops, veiled, ifaces, maps, wideKeys, modest, calm, conditions, laid).
  DERIVED. THE GIVEN ROWS OF THIS SEAT. 7 by the template 'for every input the law returns true; each argument reads behind the call as it read before'; 0 by the template 'total and deterministic' (their statements: YtgclbnfpipepfaaTotals.lean).
  GIVEN WITH THE SEED: the statements are not yours to turn. If you find one false, say at which input.
  Laid BY PROGRAM, IN A SANDBOX (cutbox-rows.mjs): the forced cells as the released guide's own fill.sh prints them over the translation b6bc732996d884e1… (all of the seat's roots in one cut). By AI agents, Wed Nov 11 2026. No macro, syntax, notation, axiom, sorry.
-/
import Derived.Test.YtgclbnfpipepfaaChecked
import GoSem.Claim
import GoSem.ClaimJoined
import GoSem.ClaimMapViews
import Derived.JoinedTies
import Derived.KernelRfl
namespace Go.Proofs.Ytgclbnfpipepfaa
/- THE CELL 'sum', in the pinned program and in every row, IS THE sha256 OF THE DUMP (.gsa) THAT YtgclbnfpipepfaaProg.lean LOADS. Nothing in Lean hashes anything: it is a label: what it is worth is what the hold of that sum in a sandbox is worth. -/
noncomputable def Try.pinned : Pinned := { name := "ytgclbnfpipepfaa", sum := "b6bc732996d884e1e17dc814b7b3cb6ba362e2dc02d4ba896ee051f1b3eba524", checked := Try.checked }
namespace Rows
def none {H : Type} : Left H := { results := [], args := [] }

/-- 'stelelaw56.RetrievalPlans': WHATEVER THE INPUT: true; the input reads as it did. -/
def retrievalPlansSpec : ChangeSpec := { name := "retrievalPlans", fn := fun _ => fun
  | [d1, d2, d3] => { results := [.lit (.bool true)], args := [d1, d2, d3] }
  | _ => none }
def retrievalPlansRow : OpenClaim := { program := "ytgclbnfpipepfaa", sum := "b6bc732996d884e1e17dc814b7b3cb6ba362e2dc02d4ba896ee051f1b3eba524", func := "stele/stelelaw56.RetrievalPlans", spec := "retrievalPlans", unfollowed := true, recurses := true, apart := false }
def RetrievalPlansSaid : Prop := retrievalPlansRow.holds Try.pinned (OpenSpec.ofChange retrievalPlansSpec)

/-- ITS FALSE NEIGHBOUR: 'it returns false'. Refute it at one input. -/
def retrievalPlansWrong : ChangeSpec := { name := "retrievalPlans", fn := fun _ => fun
  | [d1, d2, d3] => { results := [.lit (.bool false)], args := [d1, d2, d3] }
  | _ => none }
def RetrievalPlansWrongFalsely : Prop := retrievalPlansRow.holds Try.pinned (OpenSpec.ofChange retrievalPlansWrong)

/-- 'stelelaw56.RetrievalTells': WHATEVER THE INPUT: true; the input reads as it did. -/
def retrievalTellsSpec : ChangeSpec := { name := "retrievalTells", fn := fun _ => fun
  | [d1, d2, d3, d4] => { results := [.lit (.bool true)], args := [d1, d2, d3, d4] }
  | _ => none }
def retrievalTellsRow : OpenClaim := { program := "ytgclbnfpipepfaa", sum := "b6bc732996d884e1e17dc814b7b3cb6ba362e2dc02d4ba896ee051f1b3eba524", func := "stele/stelelaw56.RetrievalTells", spec := "retrievalTells", unfollowed := true, recurses := true, apart := false }
def RetrievalTellsSaid : Prop := retrievalTellsRow.holds Try.pinned (OpenSpec.ofChange retrievalTellsSpec)

/-- ITS FALSE NEIGHBOUR: 'it returns false'. Refute it at one input. -/
def retrievalTellsWrong : ChangeSpec := { name := "retrievalTells", fn := fun _ => fun
  | [d1, d2, d3, d4] => { results := [.lit (.bool false)], args := [d1, d2, d3, d4] }
  | _ => none }
def RetrievalTellsWrongFalsely : Prop := retrievalTellsRow.holds Try.pinned (OpenSpec.ofChange retrievalTellsWrong)

/-- 'stelelaw56.RetrievalOptimal': WHATEVER THE INPUT: true; the input reads as it did. -/
def retrievalOptimalSpec : ChangeSpec := { name := "retrievalOptimal", fn := fun _ => fun
  | [d1, d2, d3, d4] => { results := [.lit (.bool true)], args := [d1, d2, d3, d4] }
  | _ => none }
def retrievalOptimalRow : OpenClaim := { program := "ytgclbnfpipepfaa", sum := "b6bc732996d884e1e17dc814b7b3cb6ba362e2dc02d4ba896ee051f1b3eba524", func := "stele/stelelaw56.RetrievalOptimal", spec := "retrievalOptimal", unfollowed := true, recurses := true, apart := false }
def RetrievalOptimalSaid : Prop := retrievalOptimalRow.holds Try.pinned (OpenSpec.ofChange retrievalOptimalSpec)

/-- ITS FALSE NEIGHBOUR: 'it returns false'. Refute it at one input. -/
def retrievalOptimalWrong : ChangeSpec := { name := "retrievalOptimal", fn := fun _ => fun
  | [d1, d2, d3, d4] => { results := [.lit (.bool false)], args := [d1, d2, d3, d4] }
  | _ => none }
def RetrievalOptimalWrongFalsely : Prop := retrievalOptimalRow.holds Try.pinned (OpenSpec.ofChange retrievalOptimalWrong)

/-- 'stelelaw56.RetrievalMinimal': WHATEVER THE INPUT: true; the input reads as it did. -/
def retrievalMinimalSpec : ChangeSpec := { name := "retrievalMinimal", fn := fun _ => fun
  | [d1, d2, d3, d4, d5] => { results := [.lit (.bool true)], args := [d1, d2, d3, d4, d5] }
  | _ => none }
def retrievalMinimalRow : OpenClaim := { program := "ytgclbnfpipepfaa", sum := "b6bc732996d884e1e17dc814b7b3cb6ba362e2dc02d4ba896ee051f1b3eba524", func := "stele/stelelaw56.RetrievalMinimal", spec := "retrievalMinimal", unfollowed := true, recurses := true, apart := false }
def RetrievalMinimalSaid : Prop := retrievalMinimalRow.holds Try.pinned (OpenSpec.ofChange retrievalMinimalSpec)

/-- ITS FALSE NEIGHBOUR: 'it returns false'. Refute it at one input. -/
def retrievalMinimalWrong : ChangeSpec := { name := "retrievalMinimal", fn := fun _ => fun
  | [d1, d2, d3, d4, d5] => { results := [.lit (.bool false)], args := [d1, d2, d3, d4, d5] }
  | _ => none }
def RetrievalMinimalWrongFalsely : Prop := retrievalMinimalRow.holds Try.pinned (OpenSpec.ofChange retrievalMinimalWrong)

/-- 'stelelaw56.RetrievalCheaper': WHATEVER THE INPUT: true; the input reads as it did. -/
def retrievalCheaperSpec : ChangeSpec := { name := "retrievalCheaper", fn := fun _ => fun
  | [d1, d2, d3, d4, d5] => { results := [.lit (.bool true)], args := [d1, d2, d3, d4, d5] }
  | _ => none }
def retrievalCheaperRow : OpenClaim := { program := "ytgclbnfpipepfaa", sum := "b6bc732996d884e1e17dc814b7b3cb6ba362e2dc02d4ba896ee051f1b3eba524", func := "stele/stelelaw56.RetrievalCheaper", spec := "retrievalCheaper", unfollowed := true, recurses := true, apart := false }
def RetrievalCheaperSaid : Prop := retrievalCheaperRow.holds Try.pinned (OpenSpec.ofChange retrievalCheaperSpec)

/-- ITS FALSE NEIGHBOUR: 'it returns false'. Refute it at one input. -/
def retrievalCheaperWrong : ChangeSpec := { name := "retrievalCheaper", fn := fun _ => fun
  | [d1, d2, d3, d4, d5] => { results := [.lit (.bool false)], args := [d1, d2, d3, d4, d5] }
  | _ => none }
def RetrievalCheaperWrongFalsely : Prop := retrievalCheaperRow.holds Try.pinned (OpenSpec.ofChange retrievalCheaperWrong)

/-- 'stelelaw56.RetrievalSuffices': WHATEVER THE INPUT: true; the input reads as it did. -/
def retrievalSufficesSpec : ChangeSpec := { name := "retrievalSuffices", fn := fun _ => fun
  | [d1, d2, d3, d4] => { results := [.lit (.bool true)], args := [d1, d2, d3, d4] }
  | _ => none }
def retrievalSufficesRow : OpenClaim := { program := "ytgclbnfpipepfaa", sum := "b6bc732996d884e1e17dc814b7b3cb6ba362e2dc02d4ba896ee051f1b3eba524", func := "stele/stelelaw56.RetrievalSuffices", spec := "retrievalSuffices", unfollowed := true, recurses := true, apart := false }
def RetrievalSufficesSaid : Prop := retrievalSufficesRow.holds Try.pinned (OpenSpec.ofChange retrievalSufficesSpec)

/-- ITS FALSE NEIGHBOUR: 'it returns false'. Refute it at one input. -/
def retrievalSufficesWrong : ChangeSpec := { name := "retrievalSuffices", fn := fun _ => fun
  | [d1, d2, d3, d4] => { results := [.lit (.bool false)], args := [d1, d2, d3, d4] }
  | _ => none }
def RetrievalSufficesWrongFalsely : Prop := retrievalSufficesRow.holds Try.pinned (OpenSpec.ofChange retrievalSufficesWrong)

/-- 'stelelaw56.RetrievalRenaming': WHATEVER THE INPUT: true; the input reads as it did. -/
def retrievalRenamingSpec : ChangeSpec := { name := "retrievalRenaming", fn := fun _ => fun
  | [d1, d2, d3] => { results := [.lit (.bool true)], args := [d1, d2, d3] }
  | _ => none }
def retrievalRenamingRow : OpenClaim := { program := "ytgclbnfpipepfaa", sum := "b6bc732996d884e1e17dc814b7b3cb6ba362e2dc02d4ba896ee051f1b3eba524", func := "stele/stelelaw56.RetrievalRenaming", spec := "retrievalRenaming", unfollowed := true, recurses := true, apart := false }
def RetrievalRenamingSaid : Prop := retrievalRenamingRow.holds Try.pinned (OpenSpec.ofChange retrievalRenamingSpec)

/-- ITS FALSE NEIGHBOUR: 'it returns false'. Refute it at one input. -/
def retrievalRenamingWrong : ChangeSpec := { name := "retrievalRenaming", fn := fun _ => fun
  | [d1, d2, d3] => { results := [.lit (.bool false)], args := [d1, d2, d3] }
  | _ => none }
def RetrievalRenamingWrongFalsely : Prop := retrievalRenamingRow.holds Try.pinned (OpenSpec.ofChange retrievalRenamingWrong)

/- THE SECOND FORM. 'bulk': how many values and letters a reading holds, each counted each time it is reached (what is shared counts as often as it is met; a slice's spare places count too). A statement '..UptoSaid' is the law's where the arguments, and the package variables that the reading takes, are together of bulk at most 1048576: NARROWER than '..Said'. Prove '..Said' where nothing that the law and all that it calls make is longer than what came in: it says more and counts as full. Else prove '..UptoSaid'. A law counts once. -/
mutual
def uptoBulk {H : Type} : DataW H → Nat
  | .lit (.string bytes) => bytes.length + 1
  | .lit _ => 1
  | .nil => 1
  | .ptr d => uptoBulk d + 1
  | .slice elems spare => uptoBulkAll elems + uptoBulkAll spare + 1
  | .agg parts => uptoBulkAll parts + 1
  | .iface _ d => uptoBulk d + 1
  | .map entries => uptoBulkEntries entries + 1
  | .held _ => 1
def uptoBulkAll {H : Type} : List (DataW H) → Nat
  | [] => 0
  | d :: r => uptoBulk d + uptoBulkAll r
def uptoBulkEntries {H : Type} : List (Lit × DataW H) → Nat
  | [] => 0
  | x :: r => uptoBulkEntry x + uptoBulkEntries r
def uptoBulkEntry {H : Type} : Lit × DataW H → Nat
  | (.string bytes, d) => bytes.length + uptoBulk d + 1
  | (_, d) => uptoBulk d + 1
 end
def uptoSmall : (H : Type) → List (DataW H) → Bool := fun _ ds => decide (uptoBulkAll ds ≤ 1048576)
def OpenSpec.upto (s : _root_.Go.ChangeSpec) : _root_.Go.OpenSpec := { _root_.Go.OpenSpec.ofChange s with cond := some uptoSmall }

/-- 'stelelaw56.RetrievalPlans', WHERE WHAT IT READS IS OF BULK AT MOST 1048576: true; the input reads as it did. -/
def retrievalPlansUptoRow : OpenClaim := { program := "ytgclbnfpipepfaa", sum := "b6bc732996d884e1e17dc814b7b3cb6ba362e2dc02d4ba896ee051f1b3eba524", func := "stele/stelelaw56.RetrievalPlans", spec := "retrievalPlans", unfollowed := true, recurses := true, apart := false, narrowed := true }
def RetrievalPlansUptoSaid : Prop := retrievalPlansUptoRow.holds Try.pinned (OpenSpec.upto retrievalPlansSpec)

/-- 'stelelaw56.RetrievalTells', WHERE WHAT IT READS IS OF BULK AT MOST 1048576: true; the input reads as it did. -/
def retrievalTellsUptoRow : OpenClaim := { program := "ytgclbnfpipepfaa", sum := "b6bc732996d884e1e17dc814b7b3cb6ba362e2dc02d4ba896ee051f1b3eba524", func := "stele/stelelaw56.RetrievalTells", spec := "retrievalTells", unfollowed := true, recurses := true, apart := false, narrowed := true }
def RetrievalTellsUptoSaid : Prop := retrievalTellsUptoRow.holds Try.pinned (OpenSpec.upto retrievalTellsSpec)

/-- 'stelelaw56.RetrievalOptimal', WHERE WHAT IT READS IS OF BULK AT MOST 1048576: true; the input reads as it did. -/
def retrievalOptimalUptoRow : OpenClaim := { program := "ytgclbnfpipepfaa", sum := "b6bc732996d884e1e17dc814b7b3cb6ba362e2dc02d4ba896ee051f1b3eba524", func := "stele/stelelaw56.RetrievalOptimal", spec := "retrievalOptimal", unfollowed := true, recurses := true, apart := false, narrowed := true }
def RetrievalOptimalUptoSaid : Prop := retrievalOptimalUptoRow.holds Try.pinned (OpenSpec.upto retrievalOptimalSpec)

/-- 'stelelaw56.RetrievalMinimal', WHERE WHAT IT READS IS OF BULK AT MOST 1048576: true; the input reads as it did. -/
def retrievalMinimalUptoRow : OpenClaim := { program := "ytgclbnfpipepfaa", sum := "b6bc732996d884e1e17dc814b7b3cb6ba362e2dc02d4ba896ee051f1b3eba524", func := "stele/stelelaw56.RetrievalMinimal", spec := "retrievalMinimal", unfollowed := true, recurses := true, apart := false, narrowed := true }
def RetrievalMinimalUptoSaid : Prop := retrievalMinimalUptoRow.holds Try.pinned (OpenSpec.upto retrievalMinimalSpec)

/-- 'stelelaw56.RetrievalCheaper', WHERE WHAT IT READS IS OF BULK AT MOST 1048576: true; the input reads as it did. -/
def retrievalCheaperUptoRow : OpenClaim := { program := "ytgclbnfpipepfaa", sum := "b6bc732996d884e1e17dc814b7b3cb6ba362e2dc02d4ba896ee051f1b3eba524", func := "stele/stelelaw56.RetrievalCheaper", spec := "retrievalCheaper", unfollowed := true, recurses := true, apart := false, narrowed := true }
def RetrievalCheaperUptoSaid : Prop := retrievalCheaperUptoRow.holds Try.pinned (OpenSpec.upto retrievalCheaperSpec)

/-- 'stelelaw56.RetrievalSuffices', WHERE WHAT IT READS IS OF BULK AT MOST 1048576: true; the input reads as it did. -/
def retrievalSufficesUptoRow : OpenClaim := { program := "ytgclbnfpipepfaa", sum := "b6bc732996d884e1e17dc814b7b3cb6ba362e2dc02d4ba896ee051f1b3eba524", func := "stele/stelelaw56.RetrievalSuffices", spec := "retrievalSuffices", unfollowed := true, recurses := true, apart := false, narrowed := true }
def RetrievalSufficesUptoSaid : Prop := retrievalSufficesUptoRow.holds Try.pinned (OpenSpec.upto retrievalSufficesSpec)

/-- 'stelelaw56.RetrievalRenaming', WHERE WHAT IT READS IS OF BULK AT MOST 1048576: true; the input reads as it did. -/
def retrievalRenamingUptoRow : OpenClaim := { program := "ytgclbnfpipepfaa", sum := "b6bc732996d884e1e17dc814b7b3cb6ba362e2dc02d4ba896ee051f1b3eba524", func := "stele/stelelaw56.RetrievalRenaming", spec := "retrievalRenaming", unfollowed := true, recurses := true, apart := false, narrowed := true }
def RetrievalRenamingUptoSaid : Prop := retrievalRenamingUptoRow.holds Try.pinned (OpenSpec.upto retrievalRenamingSpec)

end Rows
end Go.Proofs.Ytgclbnfpipepfaa
