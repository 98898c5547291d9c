/-
  No cell of these rows narrows 'for every input' (looked for: loops, veiled, ifaces, maps, wideKeys, modest, calm, conditions, laid).
  DERIVED. THE GIVEN ROWS OF THIS SEAT. 11 by the template 'for every input the law returns true; each argument reads behind the call as it read before'; 0 by the template 'total and deterministic' (their statements: YtfdalcklgfdadaaTotals.lean).
  GIVEN WITH THE SEED: the statements are not yours to turn. If you find one false, say at which input.
  Laid BY PROGRAM, IN A SANDBOX (cutbox-rows.mjs): the forced cells as the released guide's own fill.sh prints them over the translation ec514992e1a6ab69… (all of the seat's roots in one cut). By AI agents, Wed Nov 11 2026. No macro, syntax, notation, axiom, sorry.
-/
import Derived.Test.YtfdalcklgfdadaaChecked
import GoSem.Claim
import GoSem.ClaimJoined
import GoSem.ClaimMapViews
import Derived.JoinedTies
import Derived.KernelRfl
namespace Go.Proofs.Ytfdalcklgfdadaa
/- THE CELL 'sum', in the pinned program and in every row, IS THE sha256 OF THE DUMP (.gsa) THAT YtfdalcklgfdadaaProg.lean LOADS. Nothing in Lean hashes anything: it is a label: what it is worth is what the hold of that sum in a sandbox is worth. -/
noncomputable def Try.pinned : Pinned := { name := "ytfdalcklgfdadaa", sum := "ec514992e1a6ab6963226d258aa3fb0355a92c0869b578a08793704adfcf86b8", checked := Try.checked }
namespace Rows
def none {H : Type} : Left H := { results := [], args := [] }

/-- 'laws.FnExactMayAmend': WHATEVER THE INPUT: true; the input reads as it did. -/
def fnExactMayAmendSpec : ChangeSpec := { name := "fnExactMayAmend", fn := fun _ => fun
  | [d1, d2] => { results := [.lit (.bool true)], args := [d1, d2] }
  | _ => none }
def fnExactMayAmendRow : OpenClaim := { program := "ytfdalcklgfdadaa", sum := "ec514992e1a6ab6963226d258aa3fb0355a92c0869b578a08793704adfcf86b8", func := "loop.example/g03009/laws.FnExactMayAmend", spec := "fnExactMayAmend", apart := false }
def FnExactMayAmendSaid : Prop := fnExactMayAmendRow.holds Try.pinned (OpenSpec.ofChange fnExactMayAmendSpec)

/-- ITS FALSE NEIGHBOUR: 'it returns false'. Refute it at one input. -/
def fnExactMayAmendWrong : ChangeSpec := { name := "fnExactMayAmend", fn := fun _ => fun
  | [d1, d2] => { results := [.lit (.bool false)], args := [d1, d2] }
  | _ => none }
def FnExactMayAmendWrongFalsely : Prop := fnExactMayAmendRow.holds Try.pinned (OpenSpec.ofChange fnExactMayAmendWrong)

/-- 'laws.FnExactClash': WHATEVER THE INPUT: true; the input reads as it did. -/
def fnExactClashSpec : ChangeSpec := { name := "fnExactClash", fn := fun _ => fun
  | [d1, d2] => { results := [.lit (.bool true)], args := [d1, d2] }
  | _ => none }
def fnExactClashRow : OpenClaim := { program := "ytfdalcklgfdadaa", sum := "ec514992e1a6ab6963226d258aa3fb0355a92c0869b578a08793704adfcf86b8", func := "loop.example/g03009/laws.FnExactClash", spec := "fnExactClash", apart := false }
def FnExactClashSaid : Prop := fnExactClashRow.holds Try.pinned (OpenSpec.ofChange fnExactClashSpec)

/-- ITS FALSE NEIGHBOUR: 'it returns false'. Refute it at one input. -/
def fnExactClashWrong : ChangeSpec := { name := "fnExactClash", fn := fun _ => fun
  | [d1, d2] => { results := [.lit (.bool false)], args := [d1, d2] }
  | _ => none }
def FnExactClashWrongFalsely : Prop := fnExactClashRow.holds Try.pinned (OpenSpec.ofChange fnExactClashWrong)

/-- 'laws.FnExactDifference': WHATEVER THE INPUT: true; the input reads as it did. -/
def fnExactDifferenceSpec : ChangeSpec := { name := "fnExactDifference", fn := fun _ => fun
  | [d1, d2] => { results := [.lit (.bool true)], args := [d1, d2] }
  | _ => none }
def fnExactDifferenceRow : OpenClaim := { program := "ytfdalcklgfdadaa", sum := "ec514992e1a6ab6963226d258aa3fb0355a92c0869b578a08793704adfcf86b8", func := "loop.example/g03009/laws.FnExactDifference", spec := "fnExactDifference", apart := false }
def FnExactDifferenceSaid : Prop := fnExactDifferenceRow.holds Try.pinned (OpenSpec.ofChange fnExactDifferenceSpec)

/-- ITS FALSE NEIGHBOUR: 'it returns false'. Refute it at one input. -/
def fnExactDifferenceWrong : ChangeSpec := { name := "fnExactDifference", fn := fun _ => fun
  | [d1, d2] => { results := [.lit (.bool false)], args := [d1, d2] }
  | _ => none }
def FnExactDifferenceWrongFalsely : Prop := fnExactDifferenceRow.holds Try.pinned (OpenSpec.ofChange fnExactDifferenceWrong)

/-- 'laws.FnExactUndo': WHATEVER THE INPUT: true; the input reads as it did. -/
def fnExactUndoSpec : ChangeSpec := { name := "fnExactUndo", fn := fun _ => fun
  | [d1, d2] => { results := [.lit (.bool true)], args := [d1, d2] }
  | _ => none }
def fnExactUndoRow : OpenClaim := { program := "ytfdalcklgfdadaa", sum := "ec514992e1a6ab6963226d258aa3fb0355a92c0869b578a08793704adfcf86b8", func := "loop.example/g03009/laws.FnExactUndo", spec := "fnExactUndo", apart := false }
def FnExactUndoSaid : Prop := fnExactUndoRow.holds Try.pinned (OpenSpec.ofChange fnExactUndoSpec)

/-- ITS FALSE NEIGHBOUR: 'it returns false'. Refute it at one input. -/
def fnExactUndoWrong : ChangeSpec := { name := "fnExactUndo", fn := fun _ => fun
  | [d1, d2] => { results := [.lit (.bool false)], args := [d1, d2] }
  | _ => none }
def FnExactUndoWrongFalsely : Prop := fnExactUndoRow.holds Try.pinned (OpenSpec.ofChange fnExactUndoWrong)

/-- 'laws.FnExactAmended': WHATEVER THE INPUT: true; the input reads as it did. -/
def fnExactAmendedSpec : ChangeSpec := { name := "fnExactAmended", fn := fun _ => fun
  | [d1, d2] => { results := [.lit (.bool true)], args := [d1, d2] }
  | _ => none }
def fnExactAmendedRow : OpenClaim := { program := "ytfdalcklgfdadaa", sum := "ec514992e1a6ab6963226d258aa3fb0355a92c0869b578a08793704adfcf86b8", func := "loop.example/g03009/laws.FnExactAmended", spec := "fnExactAmended", apart := false }
def FnExactAmendedSaid : Prop := fnExactAmendedRow.holds Try.pinned (OpenSpec.ofChange fnExactAmendedSpec)

/-- ITS FALSE NEIGHBOUR: 'it returns false'. Refute it at one input. -/
def fnExactAmendedWrong : ChangeSpec := { name := "fnExactAmended", fn := fun _ => fun
  | [d1, d2] => { results := [.lit (.bool false)], args := [d1, d2] }
  | _ => none }
def FnExactAmendedWrongFalsely : Prop := fnExactAmendedRow.holds Try.pinned (OpenSpec.ofChange fnExactAmendedWrong)

/-- 'laws.FnExactAmendAll': WHATEVER THE INPUT: true; the input reads as it did. -/
def fnExactAmendAllSpec : ChangeSpec := { name := "fnExactAmendAll", fn := fun _ => fun
  | [d1, d2] => { results := [.lit (.bool true)], args := [d1, d2] }
  | _ => none }
def fnExactAmendAllRow : OpenClaim := { program := "ytfdalcklgfdadaa", sum := "ec514992e1a6ab6963226d258aa3fb0355a92c0869b578a08793704adfcf86b8", func := "loop.example/g03009/laws.FnExactAmendAll", spec := "fnExactAmendAll", apart := false }
def FnExactAmendAllSaid : Prop := fnExactAmendAllRow.holds Try.pinned (OpenSpec.ofChange fnExactAmendAllSpec)

/-- ITS FALSE NEIGHBOUR: 'it returns false'. Refute it at one input. -/
def fnExactAmendAllWrong : ChangeSpec := { name := "fnExactAmendAll", fn := fun _ => fun
  | [d1, d2] => { results := [.lit (.bool false)], args := [d1, d2] }
  | _ => none }
def FnExactAmendAllWrongFalsely : Prop := fnExactAmendAllRow.holds Try.pinned (OpenSpec.ofChange fnExactAmendAllWrong)

/-- 'laws.FnAmendments': WHATEVER THE INPUT: true; the input reads as it did. -/
def fnAmendmentsSpec : ChangeSpec := { name := "fnAmendments", fn := fun _ => fun
  | [d] => { results := [.lit (.bool true)], args := [d] }
  | _ => none }
def fnAmendmentsRow : OpenClaim := { program := "ytfdalcklgfdadaa", sum := "ec514992e1a6ab6963226d258aa3fb0355a92c0869b578a08793704adfcf86b8", func := "loop.example/g03009/laws.FnAmendments", spec := "fnAmendments", apart := false }
def FnAmendmentsSaid : Prop := fnAmendmentsRow.holds Try.pinned (OpenSpec.ofChange fnAmendmentsSpec)

/-- ITS FALSE NEIGHBOUR: 'it returns false'. Refute it at one input. -/
def fnAmendmentsWrong : ChangeSpec := { name := "fnAmendments", fn := fun _ => fun
  | [d] => { results := [.lit (.bool false)], args := [d] }
  | _ => none }
def FnAmendmentsWrongFalsely : Prop := fnAmendmentsRow.holds Try.pinned (OpenSpec.ofChange fnAmendmentsWrong)

/-- 'laws.FnExactLastSeal': WHATEVER THE INPUT: true; the input reads as it did. -/
def fnExactLastSealSpec : ChangeSpec := { name := "fnExactLastSeal", fn := fun _ => fun
  | [d] => { results := [.lit (.bool true)], args := [d] }
  | _ => none }
def fnExactLastSealRow : OpenClaim := { program := "ytfdalcklgfdadaa", sum := "ec514992e1a6ab6963226d258aa3fb0355a92c0869b578a08793704adfcf86b8", func := "loop.example/g03009/laws.FnExactLastSeal", spec := "fnExactLastSeal", apart := false }
def FnExactLastSealSaid : Prop := fnExactLastSealRow.holds Try.pinned (OpenSpec.ofChange fnExactLastSealSpec)

/-- ITS FALSE NEIGHBOUR: 'it returns false'. Refute it at one input. -/
def fnExactLastSealWrong : ChangeSpec := { name := "fnExactLastSeal", fn := fun _ => fun
  | [d] => { results := [.lit (.bool false)], args := [d] }
  | _ => none }
def FnExactLastSealWrongFalsely : Prop := fnExactLastSealRow.holds Try.pinned (OpenSpec.ofChange fnExactLastSealWrong)

/-- 'laws.FnExactLinesOf': WHATEVER THE INPUT: true; the input reads as it did. -/
def fnExactLinesOfSpec : ChangeSpec := { name := "fnExactLinesOf", fn := fun _ => fun
  | [d1, d2] => { results := [.lit (.bool true)], args := [d1, d2] }
  | _ => none }
def fnExactLinesOfRow : OpenClaim := { program := "ytfdalcklgfdadaa", sum := "ec514992e1a6ab6963226d258aa3fb0355a92c0869b578a08793704adfcf86b8", func := "loop.example/g03009/laws.FnExactLinesOf", spec := "fnExactLinesOf", apart := false }
def FnExactLinesOfSaid : Prop := fnExactLinesOfRow.holds Try.pinned (OpenSpec.ofChange fnExactLinesOfSpec)

/-- ITS FALSE NEIGHBOUR: 'it returns false'. Refute it at one input. -/
def fnExactLinesOfWrong : ChangeSpec := { name := "fnExactLinesOf", fn := fun _ => fun
  | [d1, d2] => { results := [.lit (.bool false)], args := [d1, d2] }
  | _ => none }
def FnExactLinesOfWrongFalsely : Prop := fnExactLinesOfRow.holds Try.pinned (OpenSpec.ofChange fnExactLinesOfWrong)

/-- 'laws.FnExactAreMinutes': WHATEVER THE INPUT: true; the input reads as it did. -/
def fnExactAreMinutesSpec : ChangeSpec := { name := "fnExactAreMinutes", fn := fun _ => fun
  | [d] => { results := [.lit (.bool true)], args := [d] }
  | _ => none }
def fnExactAreMinutesRow : OpenClaim := { program := "ytfdalcklgfdadaa", sum := "ec514992e1a6ab6963226d258aa3fb0355a92c0869b578a08793704adfcf86b8", func := "loop.example/g03009/laws.FnExactAreMinutes", spec := "fnExactAreMinutes", apart := false }
def FnExactAreMinutesSaid : Prop := fnExactAreMinutesRow.holds Try.pinned (OpenSpec.ofChange fnExactAreMinutesSpec)

/-- ITS FALSE NEIGHBOUR: 'it returns false'. Refute it at one input. -/
def fnExactAreMinutesWrong : ChangeSpec := { name := "fnExactAreMinutes", fn := fun _ => fun
  | [d] => { results := [.lit (.bool false)], args := [d] }
  | _ => none }
def FnExactAreMinutesWrongFalsely : Prop := fnExactAreMinutesRow.holds Try.pinned (OpenSpec.ofChange fnExactAreMinutesWrong)

/-- 'laws.FnExactExtends': WHATEVER THE INPUT: true; the input reads as it did. -/
def fnExactExtendsSpec : ChangeSpec := { name := "fnExactExtends", fn := fun _ => fun
  | [d1, d2] => { results := [.lit (.bool true)], args := [d1, d2] }
  | _ => none }
def fnExactExtendsRow : OpenClaim := { program := "ytfdalcklgfdadaa", sum := "ec514992e1a6ab6963226d258aa3fb0355a92c0869b578a08793704adfcf86b8", func := "loop.example/g03009/laws.FnExactExtends", spec := "fnExactExtends", apart := false }
def FnExactExtendsSaid : Prop := fnExactExtendsRow.holds Try.pinned (OpenSpec.ofChange fnExactExtendsSpec)

/-- ITS FALSE NEIGHBOUR: 'it returns false'. Refute it at one input. -/
def fnExactExtendsWrong : ChangeSpec := { name := "fnExactExtends", fn := fun _ => fun
  | [d1, d2] => { results := [.lit (.bool false)], args := [d1, d2] }
  | _ => none }
def FnExactExtendsWrongFalsely : Prop := fnExactExtendsRow.holds Try.pinned (OpenSpec.ofChange fnExactExtendsWrong)

/- THE SECOND FORM. 'bulk': how many values and letters a reading holds, each counted each time it is reached (what is shared counts as often as it is met; a slice's spare places count too). A statement '..UptoSaid' is the law's where the arguments, and the package variables that the reading takes, are together of bulk at most 1048576: NARROWER than '..Said'. Prove '..Said' where nothing that the law and all that it calls make is longer than what came in: it says more and counts as full. Else prove '..UptoSaid'. A law counts once. -/
mutual
def uptoBulk {H : Type} : DataW H → Nat
  | .lit (.string bytes) => bytes.length + 1
  | .lit _ => 1
  | .nil => 1
  | .ptr d => uptoBulk d + 1
  | .slice elems spare => uptoBulkAll elems + uptoBulkAll spare + 1
  | .agg parts => uptoBulkAll parts + 1
  | .iface _ d => uptoBulk d + 1
  | .map entries => uptoBulkEntries entries + 1
  | .held _ => 1
def uptoBulkAll {H : Type} : List (DataW H) → Nat
  | [] => 0
  | d :: r => uptoBulk d + uptoBulkAll r
def uptoBulkEntries {H : Type} : List (Lit × DataW H) → Nat
  | [] => 0
  | x :: r => uptoBulkEntry x + uptoBulkEntries r
def uptoBulkEntry {H : Type} : Lit × DataW H → Nat
  | (.string bytes, d) => bytes.length + uptoBulk d + 1
  | (_, d) => uptoBulk d + 1
 end
def uptoSmall : (H : Type) → List (DataW H) → Bool := fun _ ds => decide (uptoBulkAll ds ≤ 1048576)
def OpenSpec.upto (s : _root_.Go.ChangeSpec) : _root_.Go.OpenSpec := { _root_.Go.OpenSpec.ofChange s with cond := some uptoSmall }

/-- 'laws.FnExactMayAmend', WHERE WHAT IT READS IS OF BULK AT MOST 1048576: true; the input reads as it did. -/
def fnExactMayAmendUptoRow : OpenClaim := { program := "ytfdalcklgfdadaa", sum := "ec514992e1a6ab6963226d258aa3fb0355a92c0869b578a08793704adfcf86b8", func := "loop.example/g03009/laws.FnExactMayAmend", spec := "fnExactMayAmend", apart := false, narrowed := true }
def FnExactMayAmendUptoSaid : Prop := fnExactMayAmendUptoRow.holds Try.pinned (OpenSpec.upto fnExactMayAmendSpec)

/-- 'laws.FnExactClash', WHERE WHAT IT READS IS OF BULK AT MOST 1048576: true; the input reads as it did. -/
def fnExactClashUptoRow : OpenClaim := { program := "ytfdalcklgfdadaa", sum := "ec514992e1a6ab6963226d258aa3fb0355a92c0869b578a08793704adfcf86b8", func := "loop.example/g03009/laws.FnExactClash", spec := "fnExactClash", apart := false, narrowed := true }
def FnExactClashUptoSaid : Prop := fnExactClashUptoRow.holds Try.pinned (OpenSpec.upto fnExactClashSpec)

/-- 'laws.FnExactDifference', WHERE WHAT IT READS IS OF BULK AT MOST 1048576: true; the input reads as it did. -/
def fnExactDifferenceUptoRow : OpenClaim := { program := "ytfdalcklgfdadaa", sum := "ec514992e1a6ab6963226d258aa3fb0355a92c0869b578a08793704adfcf86b8", func := "loop.example/g03009/laws.FnExactDifference", spec := "fnExactDifference", apart := false, narrowed := true }
def FnExactDifferenceUptoSaid : Prop := fnExactDifferenceUptoRow.holds Try.pinned (OpenSpec.upto fnExactDifferenceSpec)

/-- 'laws.FnExactUndo', WHERE WHAT IT READS IS OF BULK AT MOST 1048576: true; the input reads as it did. -/
def fnExactUndoUptoRow : OpenClaim := { program := "ytfdalcklgfdadaa", sum := "ec514992e1a6ab6963226d258aa3fb0355a92c0869b578a08793704adfcf86b8", func := "loop.example/g03009/laws.FnExactUndo", spec := "fnExactUndo", apart := false, narrowed := true }
def FnExactUndoUptoSaid : Prop := fnExactUndoUptoRow.holds Try.pinned (OpenSpec.upto fnExactUndoSpec)

/-- 'laws.FnExactAmended', WHERE WHAT IT READS IS OF BULK AT MOST 1048576: true; the input reads as it did. -/
def fnExactAmendedUptoRow : OpenClaim := { program := "ytfdalcklgfdadaa", sum := "ec514992e1a6ab6963226d258aa3fb0355a92c0869b578a08793704adfcf86b8", func := "loop.example/g03009/laws.FnExactAmended", spec := "fnExactAmended", apart := false, narrowed := true }
def FnExactAmendedUptoSaid : Prop := fnExactAmendedUptoRow.holds Try.pinned (OpenSpec.upto fnExactAmendedSpec)

/-- 'laws.FnExactAmendAll', WHERE WHAT IT READS IS OF BULK AT MOST 1048576: true; the input reads as it did. -/
def fnExactAmendAllUptoRow : OpenClaim := { program := "ytfdalcklgfdadaa", sum := "ec514992e1a6ab6963226d258aa3fb0355a92c0869b578a08793704adfcf86b8", func := "loop.example/g03009/laws.FnExactAmendAll", spec := "fnExactAmendAll", apart := false, narrowed := true }
def FnExactAmendAllUptoSaid : Prop := fnExactAmendAllUptoRow.holds Try.pinned (OpenSpec.upto fnExactAmendAllSpec)

/-- 'laws.FnAmendments', WHERE WHAT IT READS IS OF BULK AT MOST 1048576: true; the input reads as it did. -/
def fnAmendmentsUptoRow : OpenClaim := { program := "ytfdalcklgfdadaa", sum := "ec514992e1a6ab6963226d258aa3fb0355a92c0869b578a08793704adfcf86b8", func := "loop.example/g03009/laws.FnAmendments", spec := "fnAmendments", apart := false, narrowed := true }
def FnAmendmentsUptoSaid : Prop := fnAmendmentsUptoRow.holds Try.pinned (OpenSpec.upto fnAmendmentsSpec)

/-- 'laws.FnExactLastSeal', WHERE WHAT IT READS IS OF BULK AT MOST 1048576: true; the input reads as it did. -/
def fnExactLastSealUptoRow : OpenClaim := { program := "ytfdalcklgfdadaa", sum := "ec514992e1a6ab6963226d258aa3fb0355a92c0869b578a08793704adfcf86b8", func := "loop.example/g03009/laws.FnExactLastSeal", spec := "fnExactLastSeal", apart := false, narrowed := true }
def FnExactLastSealUptoSaid : Prop := fnExactLastSealUptoRow.holds Try.pinned (OpenSpec.upto fnExactLastSealSpec)

/-- 'laws.FnExactLinesOf', WHERE WHAT IT READS IS OF BULK AT MOST 1048576: true; the input reads as it did. -/
def fnExactLinesOfUptoRow : OpenClaim := { program := "ytfdalcklgfdadaa", sum := "ec514992e1a6ab6963226d258aa3fb0355a92c0869b578a08793704adfcf86b8", func := "loop.example/g03009/laws.FnExactLinesOf", spec := "fnExactLinesOf", apart := false, narrowed := true }
def FnExactLinesOfUptoSaid : Prop := fnExactLinesOfUptoRow.holds Try.pinned (OpenSpec.upto fnExactLinesOfSpec)

/-- 'laws.FnExactAreMinutes', WHERE WHAT IT READS IS OF BULK AT MOST 1048576: true; the input reads as it did. -/
def fnExactAreMinutesUptoRow : OpenClaim := { program := "ytfdalcklgfdadaa", sum := "ec514992e1a6ab6963226d258aa3fb0355a92c0869b578a08793704adfcf86b8", func := "loop.example/g03009/laws.FnExactAreMinutes", spec := "fnExactAreMinutes", apart := false, narrowed := true }
def FnExactAreMinutesUptoSaid : Prop := fnExactAreMinutesUptoRow.holds Try.pinned (OpenSpec.upto fnExactAreMinutesSpec)

/-- 'laws.FnExactExtends', WHERE WHAT IT READS IS OF BULK AT MOST 1048576: true; the input reads as it did. -/
def fnExactExtendsUptoRow : OpenClaim := { program := "ytfdalcklgfdadaa", sum := "ec514992e1a6ab6963226d258aa3fb0355a92c0869b578a08793704adfcf86b8", func := "loop.example/g03009/laws.FnExactExtends", spec := "fnExactExtends", apart := false, narrowed := true }
def FnExactExtendsUptoSaid : Prop := fnExactExtendsUptoRow.holds Try.pinned (OpenSpec.upto fnExactExtendsSpec)

end Rows
end Go.Proofs.Ytfdalcklgfdadaa
