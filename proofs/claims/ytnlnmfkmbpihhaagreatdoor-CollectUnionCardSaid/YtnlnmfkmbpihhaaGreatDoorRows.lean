/-
  NARROWER THAN 'FOR EVERY INPUT', by the rows' own cells (each row's printed sentence says how): ScanPlacement: laid · ScanPieces: laid · CollectFrames: laid · CollectExact: laid · CollectOrder: laid · CollectPayload: laid · CollectConcatenation: laid · CollectUnion: laid · CollectSessions: laid.
  DERIVED. THE GIVEN ROWS OF THIS SEAT. 9 by the template 'for every input the law returns true; each argument reads behind the call as it read before'; 0 by the template 'total and deterministic' (their statements: YtnlnmfkmbpihhaaGreatDoorTotals.lean).
  GIVEN WITH THE SEED: the statements are not yours to turn. If you find one false, say at which input.
  Laid BY PROGRAM, IN A SANDBOX (cutbox-rows.mjs): the forced cells as the released guide's own fill.sh prints them over the translation cf7dac659b2c2fbe… (all of the seat's roots in one cut). By AI agents, Wed Nov 11 2026. No macro, syntax, notation, axiom, sorry.
-/
import Derived.Test.YtnlnmfkmbpihhaaGreatDoorChecked
import GoSem.PinnedTables
import GoSem.Claim
import GoSem.ClaimJoined
import GoSem.ClaimMapViews
import Derived.JoinedTies
import Derived.KernelRfl
namespace Go.Proofs.YtnlnmfkmbpihhaaGreatDoor
/- THE CELL 'sum', in the pinned program and in every row, IS THE sha256 OF THE DUMP (.gsa) THAT YtnlnmfkmbpihhaaGreatDoorProg.lean LOADS. Nothing in Lean hashes anything: it is a label: what it is worth is what the hold of that sum in a sandbox is worth. -/
noncomputable def Tryz.pinned : Pinned := { name := "ytnlnmfkmbpihhaagreatdoor", sum := "cf7dac659b2c2fbe1efa7ceaef645140b130d3ed009c618303f4ca06f19477e4", checked := Tryz.checked }
namespace Rows
def none {H : Type} : Left H := { results := [], args := [] }

/- WHAT THE LISTED PACKAGE-LEVEL VARIABLES READ AS WHEN THE CALL BEGINS. Each datum BY PROGRAM (the guide's laid-datum.mjs) off the statement by which the dump's own 'gosem.cut.vars' lays the variable. In a bare row this is a premise. The card (YtnlnmfkmbpihhaaGreatDoorCards.lean) ties it to the program's text. -/
def laid_unicode_utf8_acceptRanges {H : Type} : DataW H := .agg [.agg [.lit (.int .u8 128), .lit (.int .u8 191)], .agg [.lit (.int .u8 160), .lit (.int .u8 191)], .agg [.lit (.int .u8 128), .lit (.int .u8 159)], .agg [.lit (.int .u8 144), .lit (.int .u8 191)], .agg [.lit (.int .u8 128), .lit (.int .u8 143)], .agg [.lit (.int .u8 0), .lit (.int .u8 0)], .agg [.lit (.int .u8 0), .lit (.int .u8 0)], .agg [.lit (.int .u8 0), .lit (.int .u8 0)], .agg [.lit (.int .u8 0), .lit (.int .u8 0)], .agg [.lit (.int .u8 0), .lit (.int .u8 0)], .agg [.lit (.int .u8 0), .lit (.int .u8 0)], .agg [.lit (.int .u8 0), .lit (.int .u8 0)], .agg [.lit (.int .u8 0), .lit (.int .u8 0)], .agg [.lit (.int .u8 0), .lit (.int .u8 0)], .agg [.lit (.int .u8 0), .lit (.int .u8 0)], .agg [.lit (.int .u8 0), .lit (.int .u8 0)]]
/-- One of Go's own tables, pinned by name: the form's constant. -/
def laid_unicode_utf8_first : DataW Unit := Go.Pinned.utf8First

/-- 'stelelaw14.ScanPlacement': WHATEVER THE INPUT: true; the input reads as it did. -/
def scanPlacementSpec : ChangeSpec := { name := "scanPlacement", fn := fun _ => fun
  | [d] => { results := [.lit (.bool true)], args := [d] }
  | _ => none }
def scanPlacementRow : OpenClaim := { program := "ytnlnmfkmbpihhaagreatdoor", sum := "cf7dac659b2c2fbe1efa7ceaef645140b130d3ed009c618303f4ca06f19477e4", func := "stele/stelelaw14.ScanPlacement", spec := "scanPlacement", inPlace := ["internal/bytealg.IndexByteString", "internal/bytealg.IndexString", "internal/abi.NoEscape", "internal/bytealg.CountString", "internal/bytealg.MakeNoZero"], unfollowed := true, recurses := true, named := ["unicode/utf8.first", "unicode/utf8.acceptRanges", "internal/bytealg.MaxLen"], plainKeys := false, apart := false, laid := [("unicode/utf8.acceptRanges", laid_unicode_utf8_acceptRanges), ("unicode/utf8.first", laid_unicode_utf8_first)] }
def ScanPlacementSaid : Prop := scanPlacementRow.holds Tryz.pinned (OpenSpec.ofChange scanPlacementSpec)

/-- ITS FALSE NEIGHBOUR: 'it returns false'. Refute it at one input. -/
def scanPlacementWrong : ChangeSpec := { name := "scanPlacement", fn := fun _ => fun
  | [d] => { results := [.lit (.bool false)], args := [d] }
  | _ => none }
def ScanPlacementWrongFalsely : Prop := scanPlacementRow.holds Tryz.pinned (OpenSpec.ofChange scanPlacementWrong)

/-- 'stelelaw14.ScanPieces': WHATEVER THE INPUT: true; the input reads as it did. -/
def scanPiecesSpec : ChangeSpec := { name := "scanPieces", fn := fun _ => fun
  | [d1, d2] => { results := [.lit (.bool true)], args := [d1, d2] }
  | _ => none }
def scanPiecesRow : OpenClaim := { program := "ytnlnmfkmbpihhaagreatdoor", sum := "cf7dac659b2c2fbe1efa7ceaef645140b130d3ed009c618303f4ca06f19477e4", func := "stele/stelelaw14.ScanPieces", spec := "scanPieces", inPlace := ["internal/bytealg.IndexByteString", "internal/bytealg.IndexString", "internal/abi.NoEscape", "internal/bytealg.CountString", "internal/bytealg.MakeNoZero"], unfollowed := true, recurses := true, named := ["unicode/utf8.first", "unicode/utf8.acceptRanges", "internal/bytealg.MaxLen"], plainKeys := false, apart := false, laid := [("unicode/utf8.acceptRanges", laid_unicode_utf8_acceptRanges), ("unicode/utf8.first", laid_unicode_utf8_first)] }
def ScanPiecesSaid : Prop := scanPiecesRow.holds Tryz.pinned (OpenSpec.ofChange scanPiecesSpec)

/-- ITS FALSE NEIGHBOUR: 'it returns false'. Refute it at one input. -/
def scanPiecesWrong : ChangeSpec := { name := "scanPieces", fn := fun _ => fun
  | [d1, d2] => { results := [.lit (.bool false)], args := [d1, d2] }
  | _ => none }
def ScanPiecesWrongFalsely : Prop := scanPiecesRow.holds Tryz.pinned (OpenSpec.ofChange scanPiecesWrong)

/-- 'stelelaw44.CollectFrames': WHATEVER THE INPUT: true; the input reads as it did. -/
def collectFramesSpec : ChangeSpec := { name := "collectFrames", fn := fun _ => fun
  | [d1, d2, d3, d4, d5] => { results := [.lit (.bool true)], args := [d1, d2, d3, d4, d5] }
  | _ => none }
def collectFramesRow : OpenClaim := { program := "ytnlnmfkmbpihhaagreatdoor", sum := "cf7dac659b2c2fbe1efa7ceaef645140b130d3ed009c618303f4ca06f19477e4", func := "stele/stelelaw44.CollectFrames", spec := "collectFrames", inPlace := ["internal/bytealg.CountString", "internal/bytealg.IndexByteString", "internal/bytealg.IndexString", "internal/abi.NoEscape", "internal/bytealg.MakeNoZero", "internal/bytealg.abigen_runtime_cmpstring"], unfollowed := true, recurses := true, named := ["internal/bytealg.MaxLen", "unicode/utf8.first", "unicode/utf8.acceptRanges"], plainKeys := false, apart := false, laid := [("unicode/utf8.acceptRanges", laid_unicode_utf8_acceptRanges), ("unicode/utf8.first", laid_unicode_utf8_first)] }
def CollectFramesSaid : Prop := collectFramesRow.holds Tryz.pinned (OpenSpec.ofChange collectFramesSpec)

/-- ITS FALSE NEIGHBOUR: 'it returns false'. Refute it at one input. -/
def collectFramesWrong : ChangeSpec := { name := "collectFrames", fn := fun _ => fun
  | [d1, d2, d3, d4, d5] => { results := [.lit (.bool false)], args := [d1, d2, d3, d4, d5] }
  | _ => none }
def CollectFramesWrongFalsely : Prop := collectFramesRow.holds Tryz.pinned (OpenSpec.ofChange collectFramesWrong)

/-- 'stelelaw44.CollectExact': WHATEVER THE INPUT: true; the input reads as it did. -/
def collectExactSpec : ChangeSpec := { name := "collectExact", fn := fun _ => fun
  | [d1, d2, d3] => { results := [.lit (.bool true)], args := [d1, d2, d3] }
  | _ => none }
def collectExactRow : OpenClaim := { program := "ytnlnmfkmbpihhaagreatdoor", sum := "cf7dac659b2c2fbe1efa7ceaef645140b130d3ed009c618303f4ca06f19477e4", func := "stele/stelelaw44.CollectExact", spec := "collectExact", inPlace := ["internal/bytealg.CountString", "internal/bytealg.IndexByteString", "internal/bytealg.IndexString", "internal/abi.NoEscape", "internal/bytealg.MakeNoZero", "internal/bytealg.abigen_runtime_cmpstring"], unfollowed := true, recurses := true, named := ["internal/bytealg.MaxLen", "unicode/utf8.first", "unicode/utf8.acceptRanges"], plainKeys := false, apart := false, laid := [("unicode/utf8.acceptRanges", laid_unicode_utf8_acceptRanges), ("unicode/utf8.first", laid_unicode_utf8_first)] }
def CollectExactSaid : Prop := collectExactRow.holds Tryz.pinned (OpenSpec.ofChange collectExactSpec)

/-- ITS FALSE NEIGHBOUR: 'it returns false'. Refute it at one input. -/
def collectExactWrong : ChangeSpec := { name := "collectExact", fn := fun _ => fun
  | [d1, d2, d3] => { results := [.lit (.bool false)], args := [d1, d2, d3] }
  | _ => none }
def CollectExactWrongFalsely : Prop := collectExactRow.holds Tryz.pinned (OpenSpec.ofChange collectExactWrong)

/-- 'stelelaw44.CollectOrder': WHATEVER THE INPUT: true; the input reads as it did. -/
def collectOrderSpec : ChangeSpec := { name := "collectOrder", fn := fun _ => fun
  | [d1, d2, d3, d4] => { results := [.lit (.bool true)], args := [d1, d2, d3, d4] }
  | _ => none }
def collectOrderRow : OpenClaim := { program := "ytnlnmfkmbpihhaagreatdoor", sum := "cf7dac659b2c2fbe1efa7ceaef645140b130d3ed009c618303f4ca06f19477e4", func := "stele/stelelaw44.CollectOrder", spec := "collectOrder", inPlace := ["internal/bytealg.CountString", "internal/bytealg.IndexByteString", "internal/bytealg.IndexString", "internal/abi.NoEscape", "internal/bytealg.MakeNoZero", "internal/bytealg.abigen_runtime_cmpstring"], unfollowed := true, recurses := true, named := ["internal/bytealg.MaxLen", "unicode/utf8.first", "unicode/utf8.acceptRanges"], plainKeys := false, apart := false, laid := [("unicode/utf8.acceptRanges", laid_unicode_utf8_acceptRanges), ("unicode/utf8.first", laid_unicode_utf8_first)] }
def CollectOrderSaid : Prop := collectOrderRow.holds Tryz.pinned (OpenSpec.ofChange collectOrderSpec)

/-- ITS FALSE NEIGHBOUR: 'it returns false'. Refute it at one input. -/
def collectOrderWrong : ChangeSpec := { name := "collectOrder", fn := fun _ => fun
  | [d1, d2, d3, d4] => { results := [.lit (.bool false)], args := [d1, d2, d3, d4] }
  | _ => none }
def CollectOrderWrongFalsely : Prop := collectOrderRow.holds Tryz.pinned (OpenSpec.ofChange collectOrderWrong)

/-- 'stelelaw44.CollectPayload': WHATEVER THE INPUT: true; the input reads as it did. -/
def collectPayloadSpec : ChangeSpec := { name := "collectPayload", fn := fun _ => fun
  | [d1, d2, d3, d4, d5] => { results := [.lit (.bool true)], args := [d1, d2, d3, d4, d5] }
  | _ => none }
def collectPayloadRow : OpenClaim := { program := "ytnlnmfkmbpihhaagreatdoor", sum := "cf7dac659b2c2fbe1efa7ceaef645140b130d3ed009c618303f4ca06f19477e4", func := "stele/stelelaw44.CollectPayload", spec := "collectPayload", inPlace := ["internal/bytealg.CountString", "internal/bytealg.IndexByteString", "internal/bytealg.IndexString", "internal/abi.NoEscape", "internal/bytealg.MakeNoZero", "internal/bytealg.abigen_runtime_cmpstring"], unfollowed := true, recurses := true, named := ["internal/bytealg.MaxLen", "unicode/utf8.first", "unicode/utf8.acceptRanges"], plainKeys := false, apart := false, laid := [("unicode/utf8.acceptRanges", laid_unicode_utf8_acceptRanges), ("unicode/utf8.first", laid_unicode_utf8_first)] }
def CollectPayloadSaid : Prop := collectPayloadRow.holds Tryz.pinned (OpenSpec.ofChange collectPayloadSpec)

/-- ITS FALSE NEIGHBOUR: 'it returns false'. Refute it at one input. -/
def collectPayloadWrong : ChangeSpec := { name := "collectPayload", fn := fun _ => fun
  | [d1, d2, d3, d4, d5] => { results := [.lit (.bool false)], args := [d1, d2, d3, d4, d5] }
  | _ => none }
def CollectPayloadWrongFalsely : Prop := collectPayloadRow.holds Tryz.pinned (OpenSpec.ofChange collectPayloadWrong)

/-- 'stelelaw44.CollectConcatenation': WHATEVER THE INPUT: true; the input reads as it did. -/
def collectConcatenationSpec : ChangeSpec := { name := "collectConcatenation", fn := fun _ => fun
  | [d1, d2, d3, d4] => { results := [.lit (.bool true)], args := [d1, d2, d3, d4] }
  | _ => none }
def collectConcatenationRow : OpenClaim := { program := "ytnlnmfkmbpihhaagreatdoor", sum := "cf7dac659b2c2fbe1efa7ceaef645140b130d3ed009c618303f4ca06f19477e4", func := "stele/stelelaw44.CollectConcatenation", spec := "collectConcatenation", inPlace := ["internal/bytealg.CountString", "internal/bytealg.IndexByteString", "internal/bytealg.IndexString", "internal/abi.NoEscape", "internal/bytealg.MakeNoZero", "internal/bytealg.abigen_runtime_cmpstring"], unfollowed := true, recurses := true, named := ["internal/bytealg.MaxLen", "unicode/utf8.first", "unicode/utf8.acceptRanges"], plainKeys := false, apart := false, laid := [("unicode/utf8.acceptRanges", laid_unicode_utf8_acceptRanges), ("unicode/utf8.first", laid_unicode_utf8_first)] }
def CollectConcatenationSaid : Prop := collectConcatenationRow.holds Tryz.pinned (OpenSpec.ofChange collectConcatenationSpec)

/-- ITS FALSE NEIGHBOUR: 'it returns false'. Refute it at one input. -/
def collectConcatenationWrong : ChangeSpec := { name := "collectConcatenation", fn := fun _ => fun
  | [d1, d2, d3, d4] => { results := [.lit (.bool false)], args := [d1, d2, d3, d4] }
  | _ => none }
def CollectConcatenationWrongFalsely : Prop := collectConcatenationRow.holds Tryz.pinned (OpenSpec.ofChange collectConcatenationWrong)

/-- 'stelelaw44.CollectUnion': WHATEVER THE INPUT: true; the input reads as it did. -/
def collectUnionSpec : ChangeSpec := { name := "collectUnion", fn := fun _ => fun
  | [d1, d2, d3] => { results := [.lit (.bool true)], args := [d1, d2, d3] }
  | _ => none }
def collectUnionRow : OpenClaim := { program := "ytnlnmfkmbpihhaagreatdoor", sum := "cf7dac659b2c2fbe1efa7ceaef645140b130d3ed009c618303f4ca06f19477e4", func := "stele/stelelaw44.CollectUnion", spec := "collectUnion", inPlace := ["internal/bytealg.CountString", "internal/bytealg.IndexByteString", "internal/bytealg.IndexString", "internal/abi.NoEscape", "internal/bytealg.MakeNoZero", "internal/bytealg.abigen_runtime_cmpstring"], unfollowed := true, recurses := true, named := ["internal/bytealg.MaxLen", "unicode/utf8.first", "unicode/utf8.acceptRanges"], plainKeys := false, apart := false, laid := [("unicode/utf8.acceptRanges", laid_unicode_utf8_acceptRanges), ("unicode/utf8.first", laid_unicode_utf8_first)] }
def CollectUnionSaid : Prop := collectUnionRow.holds Tryz.pinned (OpenSpec.ofChange collectUnionSpec)

/-- ITS FALSE NEIGHBOUR: 'it returns false'. Refute it at one input. -/
def collectUnionWrong : ChangeSpec := { name := "collectUnion", fn := fun _ => fun
  | [d1, d2, d3] => { results := [.lit (.bool false)], args := [d1, d2, d3] }
  | _ => none }
def CollectUnionWrongFalsely : Prop := collectUnionRow.holds Tryz.pinned (OpenSpec.ofChange collectUnionWrong)

/-- 'stelelaw44.CollectSessions': WHATEVER THE INPUT: true; the input reads as it did. -/
def collectSessionsSpec : ChangeSpec := { name := "collectSessions", fn := fun _ => fun
  | [d1, d2] => { results := [.lit (.bool true)], args := [d1, d2] }
  | _ => none }
def collectSessionsRow : OpenClaim := { program := "ytnlnmfkmbpihhaagreatdoor", sum := "cf7dac659b2c2fbe1efa7ceaef645140b130d3ed009c618303f4ca06f19477e4", func := "stele/stelelaw44.CollectSessions", spec := "collectSessions", inPlace := ["internal/bytealg.CountString", "internal/bytealg.IndexByteString", "internal/bytealg.IndexString", "internal/abi.NoEscape", "internal/bytealg.MakeNoZero", "internal/bytealg.abigen_runtime_cmpstring"], unfollowed := true, recurses := true, named := ["internal/bytealg.MaxLen", "unicode/utf8.first", "unicode/utf8.acceptRanges"], plainKeys := false, apart := false, laid := [("unicode/utf8.acceptRanges", laid_unicode_utf8_acceptRanges), ("unicode/utf8.first", laid_unicode_utf8_first)] }
def CollectSessionsSaid : Prop := collectSessionsRow.holds Tryz.pinned (OpenSpec.ofChange collectSessionsSpec)

/-- ITS FALSE NEIGHBOUR: 'it returns false'. Refute it at one input. -/
def collectSessionsWrong : ChangeSpec := { name := "collectSessions", fn := fun _ => fun
  | [d1, d2] => { results := [.lit (.bool false)], args := [d1, d2] }
  | _ => none }
def CollectSessionsWrongFalsely : Prop := collectSessionsRow.holds Tryz.pinned (OpenSpec.ofChange collectSessionsWrong)

/- THE SECOND FORM. 'bulk': how many values and letters a reading holds, each counted each time it is reached (what is shared counts as often as it is met; a slice's spare places count too). A statement '..UptoSaid' is the law's where the arguments, and the package variables that the reading takes, are together of bulk at most 1048576: NARROWER than '..Said'. Prove '..Said' where nothing that the law and all that it calls make is longer than what came in: it says more and counts as full. Else prove '..UptoSaid'. A law counts once. -/
mutual
def uptoBulk {H : Type} : DataW H → Nat
  | .lit (.string bytes) => bytes.length + 1
  | .lit _ => 1
  | .nil => 1
  | .ptr d => uptoBulk d + 1
  | .slice elems spare => uptoBulkAll elems + uptoBulkAll spare + 1
  | .agg parts => uptoBulkAll parts + 1
  | .iface _ d => uptoBulk d + 1
  | .map entries => uptoBulkEntries entries + 1
  | .held _ => 1
def uptoBulkAll {H : Type} : List (DataW H) → Nat
  | [] => 0
  | d :: r => uptoBulk d + uptoBulkAll r
def uptoBulkEntries {H : Type} : List (Lit × DataW H) → Nat
  | [] => 0
  | x :: r => uptoBulkEntry x + uptoBulkEntries r
def uptoBulkEntry {H : Type} : Lit × DataW H → Nat
  | (.string bytes, d) => bytes.length + uptoBulk d + 1
  | (_, d) => uptoBulk d + 1
 end
def uptoSmall : (H : Type) → List (DataW H) → Bool := fun _ ds => decide (uptoBulkAll ds ≤ 1048576)
def OpenSpec.upto (s : _root_.Go.ChangeSpec) : _root_.Go.OpenSpec := { _root_.Go.OpenSpec.ofChange s with cond := some uptoSmall }

/-- 'stelelaw14.ScanPlacement', WHERE WHAT IT READS IS OF BULK AT MOST 1048576: true; the input reads as it did. -/
def scanPlacementUptoRow : OpenClaim := { program := "ytnlnmfkmbpihhaagreatdoor", sum := "cf7dac659b2c2fbe1efa7ceaef645140b130d3ed009c618303f4ca06f19477e4", func := "stele/stelelaw14.ScanPlacement", spec := "scanPlacement", inPlace := ["internal/bytealg.IndexByteString", "internal/bytealg.IndexString", "internal/abi.NoEscape", "internal/bytealg.CountString", "internal/bytealg.MakeNoZero"], unfollowed := true, recurses := true, named := ["unicode/utf8.first", "unicode/utf8.acceptRanges", "internal/bytealg.MaxLen"], plainKeys := false, apart := false, laid := [("unicode/utf8.acceptRanges", laid_unicode_utf8_acceptRanges), ("unicode/utf8.first", laid_unicode_utf8_first)], narrowed := true }
def ScanPlacementUptoSaid : Prop := scanPlacementUptoRow.holds Tryz.pinned (OpenSpec.upto scanPlacementSpec)

/-- 'stelelaw14.ScanPieces', WHERE WHAT IT READS IS OF BULK AT MOST 1048576: true; the input reads as it did. -/
def scanPiecesUptoRow : OpenClaim := { program := "ytnlnmfkmbpihhaagreatdoor", sum := "cf7dac659b2c2fbe1efa7ceaef645140b130d3ed009c618303f4ca06f19477e4", func := "stele/stelelaw14.ScanPieces", spec := "scanPieces", inPlace := ["internal/bytealg.IndexByteString", "internal/bytealg.IndexString", "internal/abi.NoEscape", "internal/bytealg.CountString", "internal/bytealg.MakeNoZero"], unfollowed := true, recurses := true, named := ["unicode/utf8.first", "unicode/utf8.acceptRanges", "internal/bytealg.MaxLen"], plainKeys := false, apart := false, laid := [("unicode/utf8.acceptRanges", laid_unicode_utf8_acceptRanges), ("unicode/utf8.first", laid_unicode_utf8_first)], narrowed := true }
def ScanPiecesUptoSaid : Prop := scanPiecesUptoRow.holds Tryz.pinned (OpenSpec.upto scanPiecesSpec)

/-- 'stelelaw44.CollectFrames', WHERE WHAT IT READS IS OF BULK AT MOST 1048576: true; the input reads as it did. -/
def collectFramesUptoRow : OpenClaim := { program := "ytnlnmfkmbpihhaagreatdoor", sum := "cf7dac659b2c2fbe1efa7ceaef645140b130d3ed009c618303f4ca06f19477e4", func := "stele/stelelaw44.CollectFrames", spec := "collectFrames", inPlace := ["internal/bytealg.CountString", "internal/bytealg.IndexByteString", "internal/bytealg.IndexString", "internal/abi.NoEscape", "internal/bytealg.MakeNoZero", "internal/bytealg.abigen_runtime_cmpstring"], unfollowed := true, recurses := true, named := ["internal/bytealg.MaxLen", "unicode/utf8.first", "unicode/utf8.acceptRanges"], plainKeys := false, apart := false, laid := [("unicode/utf8.acceptRanges", laid_unicode_utf8_acceptRanges), ("unicode/utf8.first", laid_unicode_utf8_first)], narrowed := true }
def CollectFramesUptoSaid : Prop := collectFramesUptoRow.holds Tryz.pinned (OpenSpec.upto collectFramesSpec)

/-- 'stelelaw44.CollectExact', WHERE WHAT IT READS IS OF BULK AT MOST 1048576: true; the input reads as it did. -/
def collectExactUptoRow : OpenClaim := { program := "ytnlnmfkmbpihhaagreatdoor", sum := "cf7dac659b2c2fbe1efa7ceaef645140b130d3ed009c618303f4ca06f19477e4", func := "stele/stelelaw44.CollectExact", spec := "collectExact", inPlace := ["internal/bytealg.CountString", "internal/bytealg.IndexByteString", "internal/bytealg.IndexString", "internal/abi.NoEscape", "internal/bytealg.MakeNoZero", "internal/bytealg.abigen_runtime_cmpstring"], unfollowed := true, recurses := true, named := ["internal/bytealg.MaxLen", "unicode/utf8.first", "unicode/utf8.acceptRanges"], plainKeys := false, apart := false, laid := [("unicode/utf8.acceptRanges", laid_unicode_utf8_acceptRanges), ("unicode/utf8.first", laid_unicode_utf8_first)], narrowed := true }
def CollectExactUptoSaid : Prop := collectExactUptoRow.holds Tryz.pinned (OpenSpec.upto collectExactSpec)

/-- 'stelelaw44.CollectOrder', WHERE WHAT IT READS IS OF BULK AT MOST 1048576: true; the input reads as it did. -/
def collectOrderUptoRow : OpenClaim := { program := "ytnlnmfkmbpihhaagreatdoor", sum := "cf7dac659b2c2fbe1efa7ceaef645140b130d3ed009c618303f4ca06f19477e4", func := "stele/stelelaw44.CollectOrder", spec := "collectOrder", inPlace := ["internal/bytealg.CountString", "internal/bytealg.IndexByteString", "internal/bytealg.IndexString", "internal/abi.NoEscape", "internal/bytealg.MakeNoZero", "internal/bytealg.abigen_runtime_cmpstring"], unfollowed := true, recurses := true, named := ["internal/bytealg.MaxLen", "unicode/utf8.first", "unicode/utf8.acceptRanges"], plainKeys := false, apart := false, laid := [("unicode/utf8.acceptRanges", laid_unicode_utf8_acceptRanges), ("unicode/utf8.first", laid_unicode_utf8_first)], narrowed := true }
def CollectOrderUptoSaid : Prop := collectOrderUptoRow.holds Tryz.pinned (OpenSpec.upto collectOrderSpec)

/-- 'stelelaw44.CollectPayload', WHERE WHAT IT READS IS OF BULK AT MOST 1048576: true; the input reads as it did. -/
def collectPayloadUptoRow : OpenClaim := { program := "ytnlnmfkmbpihhaagreatdoor", sum := "cf7dac659b2c2fbe1efa7ceaef645140b130d3ed009c618303f4ca06f19477e4", func := "stele/stelelaw44.CollectPayload", spec := "collectPayload", inPlace := ["internal/bytealg.CountString", "internal/bytealg.IndexByteString", "internal/bytealg.IndexString", "internal/abi.NoEscape", "internal/bytealg.MakeNoZero", "internal/bytealg.abigen_runtime_cmpstring"], unfollowed := true, recurses := true, named := ["internal/bytealg.MaxLen", "unicode/utf8.first", "unicode/utf8.acceptRanges"], plainKeys := false, apart := false, laid := [("unicode/utf8.acceptRanges", laid_unicode_utf8_acceptRanges), ("unicode/utf8.first", laid_unicode_utf8_first)], narrowed := true }
def CollectPayloadUptoSaid : Prop := collectPayloadUptoRow.holds Tryz.pinned (OpenSpec.upto collectPayloadSpec)

/-- 'stelelaw44.CollectConcatenation', WHERE WHAT IT READS IS OF BULK AT MOST 1048576: true; the input reads as it did. -/
def collectConcatenationUptoRow : OpenClaim := { program := "ytnlnmfkmbpihhaagreatdoor", sum := "cf7dac659b2c2fbe1efa7ceaef645140b130d3ed009c618303f4ca06f19477e4", func := "stele/stelelaw44.CollectConcatenation", spec := "collectConcatenation", inPlace := ["internal/bytealg.CountString", "internal/bytealg.IndexByteString", "internal/bytealg.IndexString", "internal/abi.NoEscape", "internal/bytealg.MakeNoZero", "internal/bytealg.abigen_runtime_cmpstring"], unfollowed := true, recurses := true, named := ["internal/bytealg.MaxLen", "unicode/utf8.first", "unicode/utf8.acceptRanges"], plainKeys := false, apart := false, laid := [("unicode/utf8.acceptRanges", laid_unicode_utf8_acceptRanges), ("unicode/utf8.first", laid_unicode_utf8_first)], narrowed := true }
def CollectConcatenationUptoSaid : Prop := collectConcatenationUptoRow.holds Tryz.pinned (OpenSpec.upto collectConcatenationSpec)

/-- 'stelelaw44.CollectUnion', WHERE WHAT IT READS IS OF BULK AT MOST 1048576: true; the input reads as it did. -/
def collectUnionUptoRow : OpenClaim := { program := "ytnlnmfkmbpihhaagreatdoor", sum := "cf7dac659b2c2fbe1efa7ceaef645140b130d3ed009c618303f4ca06f19477e4", func := "stele/stelelaw44.CollectUnion", spec := "collectUnion", inPlace := ["internal/bytealg.CountString", "internal/bytealg.IndexByteString", "internal/bytealg.IndexString", "internal/abi.NoEscape", "internal/bytealg.MakeNoZero", "internal/bytealg.abigen_runtime_cmpstring"], unfollowed := true, recurses := true, named := ["internal/bytealg.MaxLen", "unicode/utf8.first", "unicode/utf8.acceptRanges"], plainKeys := false, apart := false, laid := [("unicode/utf8.acceptRanges", laid_unicode_utf8_acceptRanges), ("unicode/utf8.first", laid_unicode_utf8_first)], narrowed := true }
def CollectUnionUptoSaid : Prop := collectUnionUptoRow.holds Tryz.pinned (OpenSpec.upto collectUnionSpec)

/-- 'stelelaw44.CollectSessions', WHERE WHAT IT READS IS OF BULK AT MOST 1048576: true; the input reads as it did. -/
def collectSessionsUptoRow : OpenClaim := { program := "ytnlnmfkmbpihhaagreatdoor", sum := "cf7dac659b2c2fbe1efa7ceaef645140b130d3ed009c618303f4ca06f19477e4", func := "stele/stelelaw44.CollectSessions", spec := "collectSessions", inPlace := ["internal/bytealg.CountString", "internal/bytealg.IndexByteString", "internal/bytealg.IndexString", "internal/abi.NoEscape", "internal/bytealg.MakeNoZero", "internal/bytealg.abigen_runtime_cmpstring"], unfollowed := true, recurses := true, named := ["internal/bytealg.MaxLen", "unicode/utf8.first", "unicode/utf8.acceptRanges"], plainKeys := false, apart := false, laid := [("unicode/utf8.acceptRanges", laid_unicode_utf8_acceptRanges), ("unicode/utf8.first", laid_unicode_utf8_first)], narrowed := true }
def CollectSessionsUptoSaid : Prop := collectSessionsUptoRow.holds Tryz.pinned (OpenSpec.upto collectSessionsSpec)

end Rows
end Go.Proofs.YtnlnmfkmbpihhaaGreatDoor
