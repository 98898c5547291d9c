/-
  No cell of these rows narrows 'for every input' (looked for: loops, veiled, ifaces, maps, wideKeys, modest, calm, conditions, laid).
  DERIVED. THE GIVEN ROWS OF THIS SEAT. 12 by the template 'for every input the law returns true; each argument reads behind the call as it read before'; 0 by the template 'total and deterministic' (their statements: YtimikonnmcgljaaTotals.lean).
  GIVEN WITH THE SEED: the statements are not yours to turn. If you find one false, say at which input.
  Laid BY PROGRAM, IN A SANDBOX (cutbox-rows.mjs): the forced cells as the released guide's own fill.sh prints them over the translation b458f3fe39007d45… (all of the seat's roots in one cut). By AI agents, Wed Nov 11 2026. No macro, syntax, notation, axiom, sorry.
-/
import Derived.Test.YtimikonnmcgljaaChecked
import GoSem.Claim
import GoSem.ClaimJoined
import GoSem.ClaimMapViews
import Derived.JoinedTies
import Derived.KernelRfl
namespace Go.Proofs.Ytimikonnmcgljaa
/- THE CELL 'sum', in the pinned program and in every row, IS THE sha256 OF THE DUMP (.gsa) THAT YtimikonnmcgljaaProg.lean LOADS. Nothing in Lean hashes anything: it is a label: what it is worth is what the hold of that sum in a sandbox is worth. -/
noncomputable def Try.pinned : Pinned := { name := "ytimikonnmcgljaa", sum := "b458f3fe39007d45df4379be0bb0cbbc7b7ee50cdd334286629e43f1e64eab1d", checked := Try.checked }
namespace Rows
def none {H : Type} : Left H := { results := [], args := [] }

/-- 'laws.FnExactMayOffer': WHATEVER THE INPUT: true; the input reads as it did. -/
def fnExactMayOfferSpec : ChangeSpec := { name := "fnExactMayOffer", fn := fun _ => fun
  | [d1, d2] => { results := [.lit (.bool true)], args := [d1, d2] }
  | _ => none }
def fnExactMayOfferRow : OpenClaim := { program := "ytimikonnmcgljaa", sum := "b458f3fe39007d45df4379be0bb0cbbc7b7ee50cdd334286629e43f1e64eab1d", func := "loop.example/g03009/laws.FnExactMayOffer", spec := "fnExactMayOffer", apart := false }
def FnExactMayOfferSaid : Prop := fnExactMayOfferRow.holds Try.pinned (OpenSpec.ofChange fnExactMayOfferSpec)

/-- ITS FALSE NEIGHBOUR: 'it returns false'. Refute it at one input. -/
def fnExactMayOfferWrong : ChangeSpec := { name := "fnExactMayOffer", fn := fun _ => fun
  | [d1, d2] => { results := [.lit (.bool false)], args := [d1, d2] }
  | _ => none }
def FnExactMayOfferWrongFalsely : Prop := fnExactMayOfferRow.holds Try.pinned (OpenSpec.ofChange fnExactMayOfferWrong)

/-- 'laws.FnExactTakenFrom': WHATEVER THE INPUT: true; the input reads as it did. -/
def fnExactTakenFromSpec : ChangeSpec := { name := "fnExactTakenFrom", fn := fun _ => fun
  | [d1, d2] => { results := [.lit (.bool true)], args := [d1, d2] }
  | _ => none }
def fnExactTakenFromRow : OpenClaim := { program := "ytimikonnmcgljaa", sum := "b458f3fe39007d45df4379be0bb0cbbc7b7ee50cdd334286629e43f1e64eab1d", func := "loop.example/g03009/laws.FnExactTakenFrom", spec := "fnExactTakenFrom", apart := false }
def FnExactTakenFromSaid : Prop := fnExactTakenFromRow.holds Try.pinned (OpenSpec.ofChange fnExactTakenFromSpec)

/-- ITS FALSE NEIGHBOUR: 'it returns false'. Refute it at one input. -/
def fnExactTakenFromWrong : ChangeSpec := { name := "fnExactTakenFrom", fn := fun _ => fun
  | [d1, d2] => { results := [.lit (.bool false)], args := [d1, d2] }
  | _ => none }
def FnExactTakenFromWrongFalsely : Prop := fnExactTakenFromRow.holds Try.pinned (OpenSpec.ofChange fnExactTakenFromWrong)

/-- 'laws.FnExactRefusedOf': WHATEVER THE INPUT: true; the input reads as it did. -/
def fnExactRefusedOfSpec : ChangeSpec := { name := "fnExactRefusedOf", fn := fun _ => fun
  | [d] => { results := [.lit (.bool true)], args := [d] }
  | _ => none }
def fnExactRefusedOfRow : OpenClaim := { program := "ytimikonnmcgljaa", sum := "b458f3fe39007d45df4379be0bb0cbbc7b7ee50cdd334286629e43f1e64eab1d", func := "loop.example/g03009/laws.FnExactRefusedOf", spec := "fnExactRefusedOf", recurses := true, apart := false }
def FnExactRefusedOfSaid : Prop := fnExactRefusedOfRow.holds Try.pinned (OpenSpec.ofChange fnExactRefusedOfSpec)

/-- ITS FALSE NEIGHBOUR: 'it returns false'. Refute it at one input. -/
def fnExactRefusedOfWrong : ChangeSpec := { name := "fnExactRefusedOf", fn := fun _ => fun
  | [d] => { results := [.lit (.bool false)], args := [d] }
  | _ => none }
def FnExactRefusedOfWrongFalsely : Prop := fnExactRefusedOfRow.holds Try.pinned (OpenSpec.ofChange fnExactRefusedOfWrong)

/-- 'laws.FnExactAreOffers': WHATEVER THE INPUT: true; the input reads as it did. -/
def fnExactAreOffersSpec : ChangeSpec := { name := "fnExactAreOffers", fn := fun _ => fun
  | [d1, d2] => { results := [.lit (.bool true)], args := [d1, d2] }
  | _ => none }
def fnExactAreOffersRow : OpenClaim := { program := "ytimikonnmcgljaa", sum := "b458f3fe39007d45df4379be0bb0cbbc7b7ee50cdd334286629e43f1e64eab1d", func := "loop.example/g03009/laws.FnExactAreOffers", spec := "fnExactAreOffers", apart := false }
def FnExactAreOffersSaid : Prop := fnExactAreOffersRow.holds Try.pinned (OpenSpec.ofChange fnExactAreOffersSpec)

/-- ITS FALSE NEIGHBOUR: 'it returns false'. Refute it at one input. -/
def fnExactAreOffersWrong : ChangeSpec := { name := "fnExactAreOffers", fn := fun _ => fun
  | [d1, d2] => { results := [.lit (.bool false)], args := [d1, d2] }
  | _ => none }
def FnExactAreOffersWrongFalsely : Prop := fnExactAreOffersRow.holds Try.pinned (OpenSpec.ofChange fnExactAreOffersWrong)

/-- 'laws.FnExactMakeOffer': WHATEVER THE INPUT: true; the input reads as it did. -/
def fnExactMakeOfferSpec : ChangeSpec := { name := "fnExactMakeOffer", fn := fun _ => fun
  | [d1, d2, d3] => { results := [.lit (.bool true)], args := [d1, d2, d3] }
  | _ => none }
def fnExactMakeOfferRow : OpenClaim := { program := "ytimikonnmcgljaa", sum := "b458f3fe39007d45df4379be0bb0cbbc7b7ee50cdd334286629e43f1e64eab1d", func := "loop.example/g03009/laws.FnExactMakeOffer", spec := "fnExactMakeOffer", apart := false }
def FnExactMakeOfferSaid : Prop := fnExactMakeOfferRow.holds Try.pinned (OpenSpec.ofChange fnExactMakeOfferSpec)

/-- ITS FALSE NEIGHBOUR: 'it returns false'. Refute it at one input. -/
def fnExactMakeOfferWrong : ChangeSpec := { name := "fnExactMakeOffer", fn := fun _ => fun
  | [d1, d2, d3] => { results := [.lit (.bool false)], args := [d1, d2, d3] }
  | _ => none }
def FnExactMakeOfferWrongFalsely : Prop := fnExactMakeOfferRow.holds Try.pinned (OpenSpec.ofChange fnExactMakeOfferWrong)

/-- 'laws.FnOffers': WHATEVER THE INPUT: true; the input reads as it did. -/
def fnOffersSpec : ChangeSpec := { name := "fnOffers", fn := fun _ => fun
  | [d] => { results := [.lit (.bool true)], args := [d] }
  | _ => none }
def fnOffersRow : OpenClaim := { program := "ytimikonnmcgljaa", sum := "b458f3fe39007d45df4379be0bb0cbbc7b7ee50cdd334286629e43f1e64eab1d", func := "loop.example/g03009/laws.FnOffers", spec := "fnOffers", recurses := true, apart := false }
def FnOffersSaid : Prop := fnOffersRow.holds Try.pinned (OpenSpec.ofChange fnOffersSpec)

/-- ITS FALSE NEIGHBOUR: 'it returns false'. Refute it at one input. -/
def fnOffersWrong : ChangeSpec := { name := "fnOffers", fn := fun _ => fun
  | [d] => { results := [.lit (.bool false)], args := [d] }
  | _ => none }
def FnOffersWrongFalsely : Prop := fnOffersRow.holds Try.pinned (OpenSpec.ofChange fnOffersWrong)

/-- 'laws.FnExactFirstChoice': WHATEVER THE INPUT: true; the input reads as it did. -/
def fnExactFirstChoiceSpec : ChangeSpec := { name := "fnExactFirstChoice", fn := fun _ => fun
  | [d1, d2] => { results := [.lit (.bool true)], args := [d1, d2] }
  | _ => none }
def fnExactFirstChoiceRow : OpenClaim := { program := "ytimikonnmcgljaa", sum := "b458f3fe39007d45df4379be0bb0cbbc7b7ee50cdd334286629e43f1e64eab1d", func := "loop.example/g03009/laws.FnExactFirstChoice", spec := "fnExactFirstChoice", apart := false }
def FnExactFirstChoiceSaid : Prop := fnExactFirstChoiceRow.holds Try.pinned (OpenSpec.ofChange fnExactFirstChoiceSpec)

/-- ITS FALSE NEIGHBOUR: 'it returns false'. Refute it at one input. -/
def fnExactFirstChoiceWrong : ChangeSpec := { name := "fnExactFirstChoice", fn := fun _ => fun
  | [d1, d2] => { results := [.lit (.bool false)], args := [d1, d2] }
  | _ => none }
def FnExactFirstChoiceWrongFalsely : Prop := fnExactFirstChoiceRow.holds Try.pinned (OpenSpec.ofChange fnExactFirstChoiceWrong)

/-- 'laws.FnExactLeastWanted': WHATEVER THE INPUT: true; the input reads as it did. -/
def fnExactLeastWantedSpec : ChangeSpec := { name := "fnExactLeastWanted", fn := fun _ => fun
  | [d1, d2] => { results := [.lit (.bool true)], args := [d1, d2] }
  | _ => none }
def fnExactLeastWantedRow : OpenClaim := { program := "ytimikonnmcgljaa", sum := "b458f3fe39007d45df4379be0bb0cbbc7b7ee50cdd334286629e43f1e64eab1d", func := "loop.example/g03009/laws.FnExactLeastWanted", spec := "fnExactLeastWanted", apart := false }
def FnExactLeastWantedSaid : Prop := fnExactLeastWantedRow.holds Try.pinned (OpenSpec.ofChange fnExactLeastWantedSpec)

/-- ITS FALSE NEIGHBOUR: 'it returns false'. Refute it at one input. -/
def fnExactLeastWantedWrong : ChangeSpec := { name := "fnExactLeastWanted", fn := fun _ => fun
  | [d1, d2] => { results := [.lit (.bool false)], args := [d1, d2] }
  | _ => none }
def FnExactLeastWantedWrongFalsely : Prop := fnExactLeastWantedRow.holds Try.pinned (OpenSpec.ofChange fnExactLeastWantedWrong)

/-- 'laws.FnExactStrike': WHATEVER THE INPUT: true; the input reads as it did. -/
def fnExactStrikeSpec : ChangeSpec := { name := "fnExactStrike", fn := fun _ => fun
  | [d1, d2] => { results := [.lit (.bool true)], args := [d1, d2] }
  | _ => none }
def fnExactStrikeRow : OpenClaim := { program := "ytimikonnmcgljaa", sum := "b458f3fe39007d45df4379be0bb0cbbc7b7ee50cdd334286629e43f1e64eab1d", func := "loop.example/g03009/laws.FnExactStrike", spec := "fnExactStrike", apart := false }
def FnExactStrikeSaid : Prop := fnExactStrikeRow.holds Try.pinned (OpenSpec.ofChange fnExactStrikeSpec)

/-- ITS FALSE NEIGHBOUR: 'it returns false'. Refute it at one input. -/
def fnExactStrikeWrong : ChangeSpec := { name := "fnExactStrike", fn := fun _ => fun
  | [d1, d2] => { results := [.lit (.bool false)], args := [d1, d2] }
  | _ => none }
def FnExactStrikeWrongFalsely : Prop := fnExactStrikeRow.holds Try.pinned (OpenSpec.ofChange fnExactStrikeWrong)

/-- 'laws.FnExactStrikeAll': WHATEVER THE INPUT: true; the input reads as it did. -/
def fnExactStrikeAllSpec : ChangeSpec := { name := "fnExactStrikeAll", fn := fun _ => fun
  | [d1, d2, d3] => { results := [.lit (.bool true)], args := [d1, d2, d3] }
  | _ => none }
def fnExactStrikeAllRow : OpenClaim := { program := "ytimikonnmcgljaa", sum := "b458f3fe39007d45df4379be0bb0cbbc7b7ee50cdd334286629e43f1e64eab1d", func := "loop.example/g03009/laws.FnExactStrikeAll", spec := "fnExactStrikeAll", apart := false }
def FnExactStrikeAllSaid : Prop := fnExactStrikeAllRow.holds Try.pinned (OpenSpec.ofChange fnExactStrikeAllSpec)

/-- ITS FALSE NEIGHBOUR: 'it returns false'. Refute it at one input. -/
def fnExactStrikeAllWrong : ChangeSpec := { name := "fnExactStrikeAll", fn := fun _ => fun
  | [d1, d2, d3] => { results := [.lit (.bool false)], args := [d1, d2, d3] }
  | _ => none }
def FnExactStrikeAllWrongFalsely : Prop := fnExactStrikeAllRow.holds Try.pinned (OpenSpec.ofChange fnExactStrikeAllWrong)

/-- 'laws.FnExactAgreed': WHATEVER THE INPUT: true; the input reads as it did. -/
def fnExactAgreedSpec : ChangeSpec := { name := "fnExactAgreed", fn := fun _ => fun
  | [d1, d2, d3] => { results := [.lit (.bool true)], args := [d1, d2, d3] }
  | _ => none }
def fnExactAgreedRow : OpenClaim := { program := "ytimikonnmcgljaa", sum := "b458f3fe39007d45df4379be0bb0cbbc7b7ee50cdd334286629e43f1e64eab1d", func := "loop.example/g03009/laws.FnExactAgreed", spec := "fnExactAgreed", apart := false }
def FnExactAgreedSaid : Prop := fnExactAgreedRow.holds Try.pinned (OpenSpec.ofChange fnExactAgreedSpec)

/-- ITS FALSE NEIGHBOUR: 'it returns false'. Refute it at one input. -/
def fnExactAgreedWrong : ChangeSpec := { name := "fnExactAgreed", fn := fun _ => fun
  | [d1, d2, d3] => { results := [.lit (.bool false)], args := [d1, d2, d3] }
  | _ => none }
def FnExactAgreedWrongFalsely : Prop := fnExactAgreedRow.holds Try.pinned (OpenSpec.ofChange fnExactAgreedWrong)

/-- 'laws.FnMotions': WHATEVER THE INPUT: true; the input reads as it did. -/
def fnMotionsSpec : ChangeSpec := { name := "fnMotions", fn := fun _ => fun
  | [d] => { results := [.lit (.bool true)], args := [d] }
  | _ => none }
def fnMotionsRow : OpenClaim := { program := "ytimikonnmcgljaa", sum := "b458f3fe39007d45df4379be0bb0cbbc7b7ee50cdd334286629e43f1e64eab1d", func := "loop.example/g03009/laws.FnMotions", spec := "fnMotions", apart := false }
def FnMotionsSaid : Prop := fnMotionsRow.holds Try.pinned (OpenSpec.ofChange fnMotionsSpec)

/-- ITS FALSE NEIGHBOUR: 'it returns false'. Refute it at one input. -/
def fnMotionsWrong : ChangeSpec := { name := "fnMotions", fn := fun _ => fun
  | [d] => { results := [.lit (.bool false)], args := [d] }
  | _ => none }
def FnMotionsWrongFalsely : Prop := fnMotionsRow.holds Try.pinned (OpenSpec.ofChange fnMotionsWrong)

/- THE SECOND FORM. 'bulk': how many values and letters a reading holds, each counted each time it is reached (what is shared counts as often as it is met; a slice's spare places count too). A statement '..UptoSaid' is the law's where the arguments, and the package variables that the reading takes, are together of bulk at most 1048576: NARROWER than '..Said'. Prove '..Said' where nothing that the law and all that it calls make is longer than what came in: it says more and counts as full. Else prove '..UptoSaid'. A law counts once. -/
mutual
def uptoBulk {H : Type} : DataW H → Nat
  | .lit (.string bytes) => bytes.length + 1
  | .lit _ => 1
  | .nil => 1
  | .ptr d => uptoBulk d + 1
  | .slice elems spare => uptoBulkAll elems + uptoBulkAll spare + 1
  | .agg parts => uptoBulkAll parts + 1
  | .iface _ d => uptoBulk d + 1
  | .map entries => uptoBulkEntries entries + 1
  | .held _ => 1
def uptoBulkAll {H : Type} : List (DataW H) → Nat
  | [] => 0
  | d :: r => uptoBulk d + uptoBulkAll r
def uptoBulkEntries {H : Type} : List (Lit × DataW H) → Nat
  | [] => 0
  | x :: r => uptoBulkEntry x + uptoBulkEntries r
def uptoBulkEntry {H : Type} : Lit × DataW H → Nat
  | (.string bytes, d) => bytes.length + uptoBulk d + 1
  | (_, d) => uptoBulk d + 1
 end
def uptoSmall : (H : Type) → List (DataW H) → Bool := fun _ ds => decide (uptoBulkAll ds ≤ 1048576)
def OpenSpec.upto (s : _root_.Go.ChangeSpec) : _root_.Go.OpenSpec := { _root_.Go.OpenSpec.ofChange s with cond := some uptoSmall }

/-- 'laws.FnExactMayOffer', WHERE WHAT IT READS IS OF BULK AT MOST 1048576: true; the input reads as it did. -/
def fnExactMayOfferUptoRow : OpenClaim := { program := "ytimikonnmcgljaa", sum := "b458f3fe39007d45df4379be0bb0cbbc7b7ee50cdd334286629e43f1e64eab1d", func := "loop.example/g03009/laws.FnExactMayOffer", spec := "fnExactMayOffer", apart := false, narrowed := true }
def FnExactMayOfferUptoSaid : Prop := fnExactMayOfferUptoRow.holds Try.pinned (OpenSpec.upto fnExactMayOfferSpec)

/-- 'laws.FnExactTakenFrom', WHERE WHAT IT READS IS OF BULK AT MOST 1048576: true; the input reads as it did. -/
def fnExactTakenFromUptoRow : OpenClaim := { program := "ytimikonnmcgljaa", sum := "b458f3fe39007d45df4379be0bb0cbbc7b7ee50cdd334286629e43f1e64eab1d", func := "loop.example/g03009/laws.FnExactTakenFrom", spec := "fnExactTakenFrom", apart := false, narrowed := true }
def FnExactTakenFromUptoSaid : Prop := fnExactTakenFromUptoRow.holds Try.pinned (OpenSpec.upto fnExactTakenFromSpec)

/-- 'laws.FnExactRefusedOf', WHERE WHAT IT READS IS OF BULK AT MOST 1048576: true; the input reads as it did. -/
def fnExactRefusedOfUptoRow : OpenClaim := { program := "ytimikonnmcgljaa", sum := "b458f3fe39007d45df4379be0bb0cbbc7b7ee50cdd334286629e43f1e64eab1d", func := "loop.example/g03009/laws.FnExactRefusedOf", spec := "fnExactRefusedOf", recurses := true, apart := false, narrowed := true }
def FnExactRefusedOfUptoSaid : Prop := fnExactRefusedOfUptoRow.holds Try.pinned (OpenSpec.upto fnExactRefusedOfSpec)

/-- 'laws.FnExactAreOffers', WHERE WHAT IT READS IS OF BULK AT MOST 1048576: true; the input reads as it did. -/
def fnExactAreOffersUptoRow : OpenClaim := { program := "ytimikonnmcgljaa", sum := "b458f3fe39007d45df4379be0bb0cbbc7b7ee50cdd334286629e43f1e64eab1d", func := "loop.example/g03009/laws.FnExactAreOffers", spec := "fnExactAreOffers", apart := false, narrowed := true }
def FnExactAreOffersUptoSaid : Prop := fnExactAreOffersUptoRow.holds Try.pinned (OpenSpec.upto fnExactAreOffersSpec)

/-- 'laws.FnExactMakeOffer', WHERE WHAT IT READS IS OF BULK AT MOST 1048576: true; the input reads as it did. -/
def fnExactMakeOfferUptoRow : OpenClaim := { program := "ytimikonnmcgljaa", sum := "b458f3fe39007d45df4379be0bb0cbbc7b7ee50cdd334286629e43f1e64eab1d", func := "loop.example/g03009/laws.FnExactMakeOffer", spec := "fnExactMakeOffer", apart := false, narrowed := true }
def FnExactMakeOfferUptoSaid : Prop := fnExactMakeOfferUptoRow.holds Try.pinned (OpenSpec.upto fnExactMakeOfferSpec)

/-- 'laws.FnOffers', WHERE WHAT IT READS IS OF BULK AT MOST 1048576: true; the input reads as it did. -/
def fnOffersUptoRow : OpenClaim := { program := "ytimikonnmcgljaa", sum := "b458f3fe39007d45df4379be0bb0cbbc7b7ee50cdd334286629e43f1e64eab1d", func := "loop.example/g03009/laws.FnOffers", spec := "fnOffers", recurses := true, apart := false, narrowed := true }
def FnOffersUptoSaid : Prop := fnOffersUptoRow.holds Try.pinned (OpenSpec.upto fnOffersSpec)

/-- 'laws.FnExactFirstChoice', WHERE WHAT IT READS IS OF BULK AT MOST 1048576: true; the input reads as it did. -/
def fnExactFirstChoiceUptoRow : OpenClaim := { program := "ytimikonnmcgljaa", sum := "b458f3fe39007d45df4379be0bb0cbbc7b7ee50cdd334286629e43f1e64eab1d", func := "loop.example/g03009/laws.FnExactFirstChoice", spec := "fnExactFirstChoice", apart := false, narrowed := true }
def FnExactFirstChoiceUptoSaid : Prop := fnExactFirstChoiceUptoRow.holds Try.pinned (OpenSpec.upto fnExactFirstChoiceSpec)

/-- 'laws.FnExactLeastWanted', WHERE WHAT IT READS IS OF BULK AT MOST 1048576: true; the input reads as it did. -/
def fnExactLeastWantedUptoRow : OpenClaim := { program := "ytimikonnmcgljaa", sum := "b458f3fe39007d45df4379be0bb0cbbc7b7ee50cdd334286629e43f1e64eab1d", func := "loop.example/g03009/laws.FnExactLeastWanted", spec := "fnExactLeastWanted", apart := false, narrowed := true }
def FnExactLeastWantedUptoSaid : Prop := fnExactLeastWantedUptoRow.holds Try.pinned (OpenSpec.upto fnExactLeastWantedSpec)

/-- 'laws.FnExactStrike', WHERE WHAT IT READS IS OF BULK AT MOST 1048576: true; the input reads as it did. -/
def fnExactStrikeUptoRow : OpenClaim := { program := "ytimikonnmcgljaa", sum := "b458f3fe39007d45df4379be0bb0cbbc7b7ee50cdd334286629e43f1e64eab1d", func := "loop.example/g03009/laws.FnExactStrike", spec := "fnExactStrike", apart := false, narrowed := true }
def FnExactStrikeUptoSaid : Prop := fnExactStrikeUptoRow.holds Try.pinned (OpenSpec.upto fnExactStrikeSpec)

/-- 'laws.FnExactStrikeAll', WHERE WHAT IT READS IS OF BULK AT MOST 1048576: true; the input reads as it did. -/
def fnExactStrikeAllUptoRow : OpenClaim := { program := "ytimikonnmcgljaa", sum := "b458f3fe39007d45df4379be0bb0cbbc7b7ee50cdd334286629e43f1e64eab1d", func := "loop.example/g03009/laws.FnExactStrikeAll", spec := "fnExactStrikeAll", apart := false, narrowed := true }
def FnExactStrikeAllUptoSaid : Prop := fnExactStrikeAllUptoRow.holds Try.pinned (OpenSpec.upto fnExactStrikeAllSpec)

/-- 'laws.FnExactAgreed', WHERE WHAT IT READS IS OF BULK AT MOST 1048576: true; the input reads as it did. -/
def fnExactAgreedUptoRow : OpenClaim := { program := "ytimikonnmcgljaa", sum := "b458f3fe39007d45df4379be0bb0cbbc7b7ee50cdd334286629e43f1e64eab1d", func := "loop.example/g03009/laws.FnExactAgreed", spec := "fnExactAgreed", apart := false, narrowed := true }
def FnExactAgreedUptoSaid : Prop := fnExactAgreedUptoRow.holds Try.pinned (OpenSpec.upto fnExactAgreedSpec)

/-- 'laws.FnMotions', WHERE WHAT IT READS IS OF BULK AT MOST 1048576: true; the input reads as it did. -/
def fnMotionsUptoRow : OpenClaim := { program := "ytimikonnmcgljaa", sum := "b458f3fe39007d45df4379be0bb0cbbc7b7ee50cdd334286629e43f1e64eab1d", func := "loop.example/g03009/laws.FnMotions", spec := "fnMotions", apart := false, narrowed := true }
def FnMotionsUptoSaid : Prop := fnMotionsUptoRow.holds Try.pinned (OpenSpec.upto fnMotionsSpec)

end Rows
end Go.Proofs.Ytimikonnmcgljaa
