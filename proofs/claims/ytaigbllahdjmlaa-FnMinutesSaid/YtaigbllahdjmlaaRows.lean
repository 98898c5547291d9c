/-
  No cell of these rows narrows 'for every input' (looked for: loops, veiled, ifaces, maps, wideKeys, modest, calm, conditions, laid).
  DERIVED. THE GIVEN ROWS OF THIS SEAT. 5 by the template 'for every input the law returns true; each argument reads behind the call as it read before'; 0 by the template 'total and deterministic' (their statements: YtaigbllahdjmlaaTotals.lean).
  GIVEN WITH THE SEED: the statements are not yours to turn. If you find one false, say at which input.
  Laid BY PROGRAM, IN A SANDBOX (cutbox-rows.mjs): the forced cells as the released guide's own fill.sh prints them over the translation f0c7ed6116f0c653… (all of the seat's roots in one cut). By AI agents, Wed Nov 11 2026. No macro, syntax, notation, axiom, sorry.
-/
import Derived.Test.YtaigbllahdjmlaaChecked
import GoSem.Claim
import GoSem.ClaimJoined
import GoSem.ClaimMapViews
import Derived.JoinedTies
import Derived.KernelRfl
namespace Go.Proofs.Ytaigbllahdjmlaa
/- THE CELL 'sum', in the pinned program and in every row, IS THE sha256 OF THE DUMP (.gsa) THAT YtaigbllahdjmlaaProg.lean LOADS. Nothing in Lean hashes anything: it is a label: what it is worth is what the hold of that sum in a sandbox is worth. -/
noncomputable def Try.pinned : Pinned := { name := "ytaigbllahdjmlaa", sum := "f0c7ed6116f0c653bc845213efed548b90562f550cfaafa7302775b4d2e4649e", checked := Try.checked }
namespace Rows
def none {H : Type} : Left H := { results := [], args := [] }

/-- 'laws.FnExactWriteLine': WHATEVER THE INPUT: true; the input reads as it did. -/
def fnExactWriteLineSpec : ChangeSpec := { name := "fnExactWriteLine", fn := fun _ => fun
  | [d1, d2, d3] => { results := [.lit (.bool true)], args := [d1, d2, d3] }
  | _ => none }
def fnExactWriteLineRow : OpenClaim := { program := "ytaigbllahdjmlaa", sum := "f0c7ed6116f0c653bc845213efed548b90562f550cfaafa7302775b4d2e4649e", func := "loop.example/g03009/laws.FnExactWriteLine", spec := "fnExactWriteLine", apart := false }
def FnExactWriteLineSaid : Prop := fnExactWriteLineRow.holds Try.pinned (OpenSpec.ofChange fnExactWriteLineSpec)

/-- ITS FALSE NEIGHBOUR: 'it returns false'. Refute it at one input. -/
def fnExactWriteLineWrong : ChangeSpec := { name := "fnExactWriteLine", fn := fun _ => fun
  | [d1, d2, d3] => { results := [.lit (.bool false)], args := [d1, d2, d3] }
  | _ => none }
def FnExactWriteLineWrongFalsely : Prop := fnExactWriteLineRow.holds Try.pinned (OpenSpec.ofChange fnExactWriteLineWrong)

/-- 'laws.FnMinutes': WHATEVER THE INPUT: true; the input reads as it did. -/
def fnMinutesSpec : ChangeSpec := { name := "fnMinutes", fn := fun _ => fun
  | [d] => { results := [.lit (.bool true)], args := [d] }
  | _ => none }
def fnMinutesRow : OpenClaim := { program := "ytaigbllahdjmlaa", sum := "f0c7ed6116f0c653bc845213efed548b90562f550cfaafa7302775b4d2e4649e", func := "loop.example/g03009/laws.FnMinutes", spec := "fnMinutes", apart := false }
def FnMinutesSaid : Prop := fnMinutesRow.holds Try.pinned (OpenSpec.ofChange fnMinutesSpec)

/-- ITS FALSE NEIGHBOUR: 'it returns false'. Refute it at one input. -/
def fnMinutesWrong : ChangeSpec := { name := "fnMinutes", fn := fun _ => fun
  | [d] => { results := [.lit (.bool false)], args := [d] }
  | _ => none }
def FnMinutesWrongFalsely : Prop := fnMinutesRow.holds Try.pinned (OpenSpec.ofChange fnMinutesWrong)

/-- 'laws.FnExactNextRound': WHATEVER THE INPUT: true; the input reads as it did. -/
def fnExactNextRoundSpec : ChangeSpec := { name := "fnExactNextRound", fn := fun _ => fun
  | [d1, d2] => { results := [.lit (.bool true)], args := [d1, d2] }
  | _ => none }
def fnExactNextRoundRow : OpenClaim := { program := "ytaigbllahdjmlaa", sum := "f0c7ed6116f0c653bc845213efed548b90562f550cfaafa7302775b4d2e4649e", func := "loop.example/g03009/laws.FnExactNextRound", spec := "fnExactNextRound", apart := false }
def FnExactNextRoundSaid : Prop := fnExactNextRoundRow.holds Try.pinned (OpenSpec.ofChange fnExactNextRoundSpec)

/-- ITS FALSE NEIGHBOUR: 'it returns false'. Refute it at one input. -/
def fnExactNextRoundWrong : ChangeSpec := { name := "fnExactNextRound", fn := fun _ => fun
  | [d1, d2] => { results := [.lit (.bool false)], args := [d1, d2] }
  | _ => none }
def FnExactNextRoundWrongFalsely : Prop := fnExactNextRoundRow.holds Try.pinned (OpenSpec.ofChange fnExactNextRoundWrong)

/-- 'laws.FnExactFirstRound': WHATEVER THE INPUT: true; the input reads as it did. -/
def fnExactFirstRoundSpec : ChangeSpec := { name := "fnExactFirstRound", fn := fun _ => fun
  | [d] => { results := [.lit (.bool true)], args := [d] }
  | _ => none }
def fnExactFirstRoundRow : OpenClaim := { program := "ytaigbllahdjmlaa", sum := "f0c7ed6116f0c653bc845213efed548b90562f550cfaafa7302775b4d2e4649e", func := "loop.example/g03009/laws.FnExactFirstRound", spec := "fnExactFirstRound", recurses := true, apart := false }
def FnExactFirstRoundSaid : Prop := fnExactFirstRoundRow.holds Try.pinned (OpenSpec.ofChange fnExactFirstRoundSpec)

/-- ITS FALSE NEIGHBOUR: 'it returns false'. Refute it at one input. -/
def fnExactFirstRoundWrong : ChangeSpec := { name := "fnExactFirstRound", fn := fun _ => fun
  | [d] => { results := [.lit (.bool false)], args := [d] }
  | _ => none }
def FnExactFirstRoundWrongFalsely : Prop := fnExactFirstRoundRow.holds Try.pinned (OpenSpec.ofChange fnExactFirstRoundWrong)

/-- 'laws.FnBrackets': WHATEVER THE INPUT: true; the input reads as it did. -/
def fnBracketsSpec : ChangeSpec := { name := "fnBrackets", fn := fun _ => fun
  | [d] => { results := [.lit (.bool true)], args := [d] }
  | _ => none }
def fnBracketsRow : OpenClaim := { program := "ytaigbllahdjmlaa", sum := "f0c7ed6116f0c653bc845213efed548b90562f550cfaafa7302775b4d2e4649e", func := "loop.example/g03009/laws.FnBrackets", spec := "fnBrackets", recurses := true, apart := false }
def FnBracketsSaid : Prop := fnBracketsRow.holds Try.pinned (OpenSpec.ofChange fnBracketsSpec)

/-- ITS FALSE NEIGHBOUR: 'it returns false'. Refute it at one input. -/
def fnBracketsWrong : ChangeSpec := { name := "fnBrackets", fn := fun _ => fun
  | [d] => { results := [.lit (.bool false)], args := [d] }
  | _ => none }
def FnBracketsWrongFalsely : Prop := fnBracketsRow.holds Try.pinned (OpenSpec.ofChange fnBracketsWrong)

/- THE SECOND FORM. 'bulk': how many values and letters a reading holds, each counted each time it is reached (what is shared counts as often as it is met; a slice's spare places count too). A statement '..UptoSaid' is the law's where the arguments, and the package variables that the reading takes, are together of bulk at most 1048576: NARROWER than '..Said'. Prove '..Said' where nothing that the law and all that it calls make is longer than what came in: it says more and counts as full. Else prove '..UptoSaid'. A law counts once. -/
mutual
def uptoBulk {H : Type} : DataW H → Nat
  | .lit (.string bytes) => bytes.length + 1
  | .lit _ => 1
  | .nil => 1
  | .ptr d => uptoBulk d + 1
  | .slice elems spare => uptoBulkAll elems + uptoBulkAll spare + 1
  | .agg parts => uptoBulkAll parts + 1
  | .iface _ d => uptoBulk d + 1
  | .map entries => uptoBulkEntries entries + 1
  | .held _ => 1
def uptoBulkAll {H : Type} : List (DataW H) → Nat
  | [] => 0
  | d :: r => uptoBulk d + uptoBulkAll r
def uptoBulkEntries {H : Type} : List (Lit × DataW H) → Nat
  | [] => 0
  | x :: r => uptoBulkEntry x + uptoBulkEntries r
def uptoBulkEntry {H : Type} : Lit × DataW H → Nat
  | (.string bytes, d) => bytes.length + uptoBulk d + 1
  | (_, d) => uptoBulk d + 1
 end
def uptoSmall : (H : Type) → List (DataW H) → Bool := fun _ ds => decide (uptoBulkAll ds ≤ 1048576)
def OpenSpec.upto (s : _root_.Go.ChangeSpec) : _root_.Go.OpenSpec := { _root_.Go.OpenSpec.ofChange s with cond := some uptoSmall }

/-- 'laws.FnExactWriteLine', WHERE WHAT IT READS IS OF BULK AT MOST 1048576: true; the input reads as it did. -/
def fnExactWriteLineUptoRow : OpenClaim := { program := "ytaigbllahdjmlaa", sum := "f0c7ed6116f0c653bc845213efed548b90562f550cfaafa7302775b4d2e4649e", func := "loop.example/g03009/laws.FnExactWriteLine", spec := "fnExactWriteLine", apart := false, narrowed := true }
def FnExactWriteLineUptoSaid : Prop := fnExactWriteLineUptoRow.holds Try.pinned (OpenSpec.upto fnExactWriteLineSpec)

/-- 'laws.FnMinutes', WHERE WHAT IT READS IS OF BULK AT MOST 1048576: true; the input reads as it did. -/
def fnMinutesUptoRow : OpenClaim := { program := "ytaigbllahdjmlaa", sum := "f0c7ed6116f0c653bc845213efed548b90562f550cfaafa7302775b4d2e4649e", func := "loop.example/g03009/laws.FnMinutes", spec := "fnMinutes", apart := false, narrowed := true }
def FnMinutesUptoSaid : Prop := fnMinutesUptoRow.holds Try.pinned (OpenSpec.upto fnMinutesSpec)

/-- 'laws.FnExactNextRound', WHERE WHAT IT READS IS OF BULK AT MOST 1048576: true; the input reads as it did. -/
def fnExactNextRoundUptoRow : OpenClaim := { program := "ytaigbllahdjmlaa", sum := "f0c7ed6116f0c653bc845213efed548b90562f550cfaafa7302775b4d2e4649e", func := "loop.example/g03009/laws.FnExactNextRound", spec := "fnExactNextRound", apart := false, narrowed := true }
def FnExactNextRoundUptoSaid : Prop := fnExactNextRoundUptoRow.holds Try.pinned (OpenSpec.upto fnExactNextRoundSpec)

/-- 'laws.FnExactFirstRound', WHERE WHAT IT READS IS OF BULK AT MOST 1048576: true; the input reads as it did. -/
def fnExactFirstRoundUptoRow : OpenClaim := { program := "ytaigbllahdjmlaa", sum := "f0c7ed6116f0c653bc845213efed548b90562f550cfaafa7302775b4d2e4649e", func := "loop.example/g03009/laws.FnExactFirstRound", spec := "fnExactFirstRound", recurses := true, apart := false, narrowed := true }
def FnExactFirstRoundUptoSaid : Prop := fnExactFirstRoundUptoRow.holds Try.pinned (OpenSpec.upto fnExactFirstRoundSpec)

/-- 'laws.FnBrackets', WHERE WHAT IT READS IS OF BULK AT MOST 1048576: true; the input reads as it did. -/
def fnBracketsUptoRow : OpenClaim := { program := "ytaigbllahdjmlaa", sum := "f0c7ed6116f0c653bc845213efed548b90562f550cfaafa7302775b4d2e4649e", func := "loop.example/g03009/laws.FnBrackets", spec := "fnBrackets", recurses := true, apart := false, narrowed := true }
def FnBracketsUptoSaid : Prop := fnBracketsUptoRow.holds Try.pinned (OpenSpec.upto fnBracketsSpec)

end Rows
end Go.Proofs.Ytaigbllahdjmlaa
