/-
  No cell of these rows narrows 'for every input' (looked for: loops, veiled, ifaces, maps, wideKeys, modest, calm, conditions, laid).
  DERIVED. THE GIVEN ROWS OF THIS SEAT. 12 by the template 'for every input the law returns true; each argument reads behind the call as it read before'; 0 by the template 'total and deterministic' (their statements: YtfcidjlnokhkjaaTotals.lean).
  GIVEN WITH THE SEED: the statements are not yours to turn. If you find one false, say at which input.
  Laid BY PROGRAM, IN A SANDBOX (cutbox-rows.mjs): the forced cells as the released guide's own fill.sh prints them over the translation 2e0a9c1bc256141e… (all of the seat's roots in one cut). By AI agents, Wed Nov 11 2026. No macro, syntax, notation, axiom, sorry.
-/
import Derived.Test.YtfcidjlnokhkjaaChecked
import GoSem.Claim
import GoSem.ClaimJoined
import GoSem.ClaimMapViews
import Derived.JoinedTies
import Derived.KernelRfl
namespace Go.Proofs.Ytfcidjlnokhkjaa
/- THE CELL 'sum', in the pinned program and in every row, IS THE sha256 OF THE DUMP (.gsa) THAT YtfcidjlnokhkjaaProg.lean LOADS. Nothing in Lean hashes anything: it is a label: what it is worth is what the hold of that sum in a sandbox is worth. -/
noncomputable def Try.pinned : Pinned := { name := "ytfcidjlnokhkjaa", sum := "2e0a9c1bc256141e69e6a2ac0dbcd0b034e402d361d2dd50947af003560f2754", checked := Try.checked }
namespace Rows
def none {H : Type} : Left H := { results := [], args := [] }

/-- 'laws.FnExactAreSources': WHATEVER THE INPUT: true; the input reads as it did. -/
def fnExactAreSourcesSpec : ChangeSpec := { name := "fnExactAreSources", fn := fun _ => fun
  | [d] => { results := [.lit (.bool true)], args := [d] }
  | _ => none }
def fnExactAreSourcesRow : OpenClaim := { program := "ytfcidjlnokhkjaa", sum := "2e0a9c1bc256141e69e6a2ac0dbcd0b034e402d361d2dd50947af003560f2754", func := "loop.example/g03009/laws.FnExactAreSources", spec := "fnExactAreSources", unfollowed := true, recurses := true, apart := false }
def FnExactAreSourcesSaid : Prop := fnExactAreSourcesRow.holds Try.pinned (OpenSpec.ofChange fnExactAreSourcesSpec)

/-- ITS FALSE NEIGHBOUR: 'it returns false'. Refute it at one input. -/
def fnExactAreSourcesWrong : ChangeSpec := { name := "fnExactAreSources", fn := fun _ => fun
  | [d] => { results := [.lit (.bool false)], args := [d] }
  | _ => none }
def FnExactAreSourcesWrongFalsely : Prop := fnExactAreSourcesRow.holds Try.pinned (OpenSpec.ofChange fnExactAreSourcesWrong)

/-- 'laws.FnExactRootOf': WHATEVER THE INPUT: true; the input reads as it did. -/
def fnExactRootOfSpec : ChangeSpec := { name := "fnExactRootOf", fn := fun _ => fun
  | [d1, d2] => { results := [.lit (.bool true)], args := [d1, d2] }
  | _ => none }
def fnExactRootOfRow : OpenClaim := { program := "ytfcidjlnokhkjaa", sum := "2e0a9c1bc256141e69e6a2ac0dbcd0b034e402d361d2dd50947af003560f2754", func := "loop.example/g03009/laws.FnExactRootOf", spec := "fnExactRootOf", unfollowed := true, recurses := true, apart := false }
def FnExactRootOfSaid : Prop := fnExactRootOfRow.holds Try.pinned (OpenSpec.ofChange fnExactRootOfSpec)

/-- ITS FALSE NEIGHBOUR: 'it returns false'. Refute it at one input. -/
def fnExactRootOfWrong : ChangeSpec := { name := "fnExactRootOf", fn := fun _ => fun
  | [d1, d2] => { results := [.lit (.bool false)], args := [d1, d2] }
  | _ => none }
def FnExactRootOfWrongFalsely : Prop := fnExactRootOfRow.holds Try.pinned (OpenSpec.ofChange fnExactRootOfWrong)

/-- 'laws.FnExactBalanceOf': WHATEVER THE INPUT: true; the input reads as it did. -/
def fnExactBalanceOfSpec : ChangeSpec := { name := "fnExactBalanceOf", fn := fun _ => fun
  | [d] => { results := [.lit (.bool true)], args := [d] }
  | _ => none }
def fnExactBalanceOfRow : OpenClaim := { program := "ytfcidjlnokhkjaa", sum := "2e0a9c1bc256141e69e6a2ac0dbcd0b034e402d361d2dd50947af003560f2754", func := "loop.example/g03009/laws.FnExactBalanceOf", spec := "fnExactBalanceOf", unfollowed := true, recurses := true, apart := false }
def FnExactBalanceOfSaid : Prop := fnExactBalanceOfRow.holds Try.pinned (OpenSpec.ofChange fnExactBalanceOfSpec)

/-- ITS FALSE NEIGHBOUR: 'it returns false'. Refute it at one input. -/
def fnExactBalanceOfWrong : ChangeSpec := { name := "fnExactBalanceOf", fn := fun _ => fun
  | [d] => { results := [.lit (.bool false)], args := [d] }
  | _ => none }
def FnExactBalanceOfWrongFalsely : Prop := fnExactBalanceOfRow.holds Try.pinned (OpenSpec.ofChange fnExactBalanceOfWrong)

/-- 'laws.FnExactIsTwisted': WHATEVER THE INPUT: true; the input reads as it did. -/
def fnExactIsTwistedSpec : ChangeSpec := { name := "fnExactIsTwisted", fn := fun _ => fun
  | [d1, d2] => { results := [.lit (.bool true)], args := [d1, d2] }
  | _ => none }
def fnExactIsTwistedRow : OpenClaim := { program := "ytfcidjlnokhkjaa", sum := "2e0a9c1bc256141e69e6a2ac0dbcd0b034e402d361d2dd50947af003560f2754", func := "loop.example/g03009/laws.FnExactIsTwisted", spec := "fnExactIsTwisted", unfollowed := true, recurses := true, apart := false }
def FnExactIsTwistedSaid : Prop := fnExactIsTwistedRow.holds Try.pinned (OpenSpec.ofChange fnExactIsTwistedSpec)

/-- ITS FALSE NEIGHBOUR: 'it returns false'. Refute it at one input. -/
def fnExactIsTwistedWrong : ChangeSpec := { name := "fnExactIsTwisted", fn := fun _ => fun
  | [d1, d2] => { results := [.lit (.bool false)], args := [d1, d2] }
  | _ => none }
def FnExactIsTwistedWrongFalsely : Prop := fnExactIsTwistedRow.holds Try.pinned (OpenSpec.ofChange fnExactIsTwistedWrong)

/-- 'laws.FnExactAddSource': WHATEVER THE INPUT: true; the input reads as it did. -/
def fnExactAddSourceSpec : ChangeSpec := { name := "fnExactAddSource", fn := fun _ => fun
  | [d1, d2] => { results := [.lit (.bool true)], args := [d1, d2] }
  | _ => none }
def fnExactAddSourceRow : OpenClaim := { program := "ytfcidjlnokhkjaa", sum := "2e0a9c1bc256141e69e6a2ac0dbcd0b034e402d361d2dd50947af003560f2754", func := "loop.example/g03009/laws.FnExactAddSource", spec := "fnExactAddSource", unfollowed := true, recurses := true, apart := false }
def FnExactAddSourceSaid : Prop := fnExactAddSourceRow.holds Try.pinned (OpenSpec.ofChange fnExactAddSourceSpec)

/-- ITS FALSE NEIGHBOUR: 'it returns false'. Refute it at one input. -/
def fnExactAddSourceWrong : ChangeSpec := { name := "fnExactAddSource", fn := fun _ => fun
  | [d1, d2] => { results := [.lit (.bool false)], args := [d1, d2] }
  | _ => none }
def FnExactAddSourceWrongFalsely : Prop := fnExactAddSourceRow.holds Try.pinned (OpenSpec.ofChange fnExactAddSourceWrong)

/-- 'laws.FnSources': WHATEVER THE INPUT: true; the input reads as it did. -/
def fnSourcesSpec : ChangeSpec := { name := "fnSources", fn := fun _ => fun
  | [d] => { results := [.lit (.bool true)], args := [d] }
  | _ => none }
def fnSourcesRow : OpenClaim := { program := "ytfcidjlnokhkjaa", sum := "2e0a9c1bc256141e69e6a2ac0dbcd0b034e402d361d2dd50947af003560f2754", func := "loop.example/g03009/laws.FnSources", spec := "fnSources", unfollowed := true, recurses := true, apart := false }
def FnSourcesSaid : Prop := fnSourcesRow.holds Try.pinned (OpenSpec.ofChange fnSourcesSpec)

/-- ITS FALSE NEIGHBOUR: 'it returns false'. Refute it at one input. -/
def fnSourcesWrong : ChangeSpec := { name := "fnSources", fn := fun _ => fun
  | [d] => { results := [.lit (.bool false)], args := [d] }
  | _ => none }
def FnSourcesWrongFalsely : Prop := fnSourcesRow.holds Try.pinned (OpenSpec.ofChange fnSourcesWrong)

/-- 'laws.FnExactSeasonRound': WHATEVER THE INPUT: true; the input reads as it did. -/
def fnExactSeasonRoundSpec : ChangeSpec := { name := "fnExactSeasonRound", fn := fun _ => fun
  | [d1, d2] => { results := [.lit (.bool true)], args := [d1, d2] }
  | _ => none }
def fnExactSeasonRoundRow : OpenClaim := { program := "ytfcidjlnokhkjaa", sum := "2e0a9c1bc256141e69e6a2ac0dbcd0b034e402d361d2dd50947af003560f2754", func := "loop.example/g03009/laws.FnExactSeasonRound", spec := "fnExactSeasonRound", apart := false }
def FnExactSeasonRoundSaid : Prop := fnExactSeasonRoundRow.holds Try.pinned (OpenSpec.ofChange fnExactSeasonRoundSpec)

/-- ITS FALSE NEIGHBOUR: 'it returns false'. Refute it at one input. -/
def fnExactSeasonRoundWrong : ChangeSpec := { name := "fnExactSeasonRound", fn := fun _ => fun
  | [d1, d2] => { results := [.lit (.bool false)], args := [d1, d2] }
  | _ => none }
def FnExactSeasonRoundWrongFalsely : Prop := fnExactSeasonRoundRow.holds Try.pinned (OpenSpec.ofChange fnExactSeasonRoundWrong)

/-- 'laws.FnExactRoundWith': WHATEVER THE INPUT: true; the input reads as it did. -/
def fnExactRoundWithSpec : ChangeSpec := { name := "fnExactRoundWith", fn := fun _ => fun
  | [d1, d2, d3] => { results := [.lit (.bool true)], args := [d1, d2, d3] }
  | _ => none }
def fnExactRoundWithRow : OpenClaim := { program := "ytfcidjlnokhkjaa", sum := "2e0a9c1bc256141e69e6a2ac0dbcd0b034e402d361d2dd50947af003560f2754", func := "loop.example/g03009/laws.FnExactRoundWith", spec := "fnExactRoundWith", apart := false }
def FnExactRoundWithSaid : Prop := fnExactRoundWithRow.holds Try.pinned (OpenSpec.ofChange fnExactRoundWithSpec)

/-- ITS FALSE NEIGHBOUR: 'it returns false'. Refute it at one input. -/
def fnExactRoundWithWrong : ChangeSpec := { name := "fnExactRoundWith", fn := fun _ => fun
  | [d1, d2, d3] => { results := [.lit (.bool false)], args := [d1, d2, d3] }
  | _ => none }
def FnExactRoundWithWrongFalsely : Prop := fnExactRoundWithRow.holds Try.pinned (OpenSpec.ofChange fnExactRoundWithWrong)

/-- 'laws.FnExactRestOf': WHATEVER THE INPUT: true; the input reads as it did. -/
def fnExactRestOfSpec : ChangeSpec := { name := "fnExactRestOf", fn := fun _ => fun
  | [d1, d2] => { results := [.lit (.bool true)], args := [d1, d2] }
  | _ => none }
def fnExactRestOfRow : OpenClaim := { program := "ytfcidjlnokhkjaa", sum := "2e0a9c1bc256141e69e6a2ac0dbcd0b034e402d361d2dd50947af003560f2754", func := "loop.example/g03009/laws.FnExactRestOf", spec := "fnExactRestOf", unfollowed := true, recurses := true, apart := false }
def FnExactRestOfSaid : Prop := fnExactRestOfRow.holds Try.pinned (OpenSpec.ofChange fnExactRestOfSpec)

/-- ITS FALSE NEIGHBOUR: 'it returns false'. Refute it at one input. -/
def fnExactRestOfWrong : ChangeSpec := { name := "fnExactRestOf", fn := fun _ => fun
  | [d1, d2] => { results := [.lit (.bool false)], args := [d1, d2] }
  | _ => none }
def FnExactRestOfWrongFalsely : Prop := fnExactRestOfRow.holds Try.pinned (OpenSpec.ofChange fnExactRestOfWrong)

/-- 'laws.FnExactAllRounds': WHATEVER THE INPUT: true; the input reads as it did. -/
def fnExactAllRoundsSpec : ChangeSpec := { name := "fnExactAllRounds", fn := fun _ => fun
  | [d] => { results := [.lit (.bool true)], args := [d] }
  | _ => none }
def fnExactAllRoundsRow : OpenClaim := { program := "ytfcidjlnokhkjaa", sum := "2e0a9c1bc256141e69e6a2ac0dbcd0b034e402d361d2dd50947af003560f2754", func := "loop.example/g03009/laws.FnExactAllRounds", spec := "fnExactAllRounds", apart := false }
def FnExactAllRoundsSaid : Prop := fnExactAllRoundsRow.holds Try.pinned (OpenSpec.ofChange fnExactAllRoundsSpec)

/-- ITS FALSE NEIGHBOUR: 'it returns false'. Refute it at one input. -/
def fnExactAllRoundsWrong : ChangeSpec := { name := "fnExactAllRounds", fn := fun _ => fun
  | [d] => { results := [.lit (.bool false)], args := [d] }
  | _ => none }
def FnExactAllRoundsWrongFalsely : Prop := fnExactAllRoundsRow.holds Try.pinned (OpenSpec.ofChange fnExactAllRoundsWrong)

/-- 'laws.FnExactMeetOnce': WHATEVER THE INPUT: true; the input reads as it did. -/
def fnExactMeetOnceSpec : ChangeSpec := { name := "fnExactMeetOnce", fn := fun _ => fun
  | [d1, d2] => { results := [.lit (.bool true)], args := [d1, d2] }
  | _ => none }
def fnExactMeetOnceRow : OpenClaim := { program := "ytfcidjlnokhkjaa", sum := "2e0a9c1bc256141e69e6a2ac0dbcd0b034e402d361d2dd50947af003560f2754", func := "loop.example/g03009/laws.FnExactMeetOnce", spec := "fnExactMeetOnce", apart := false }
def FnExactMeetOnceSaid : Prop := fnExactMeetOnceRow.holds Try.pinned (OpenSpec.ofChange fnExactMeetOnceSpec)

/-- ITS FALSE NEIGHBOUR: 'it returns false'. Refute it at one input. -/
def fnExactMeetOnceWrong : ChangeSpec := { name := "fnExactMeetOnce", fn := fun _ => fun
  | [d1, d2] => { results := [.lit (.bool false)], args := [d1, d2] }
  | _ => none }
def FnExactMeetOnceWrongFalsely : Prop := fnExactMeetOnceRow.holds Try.pinned (OpenSpec.ofChange fnExactMeetOnceWrong)

/-- 'laws.FnSeasons': WHATEVER THE INPUT: true; the input reads as it did. -/
def fnSeasonsSpec : ChangeSpec := { name := "fnSeasons", fn := fun _ => fun
  | [d] => { results := [.lit (.bool true)], args := [d] }
  | _ => none }
def fnSeasonsRow : OpenClaim := { program := "ytfcidjlnokhkjaa", sum := "2e0a9c1bc256141e69e6a2ac0dbcd0b034e402d361d2dd50947af003560f2754", func := "loop.example/g03009/laws.FnSeasons", spec := "fnSeasons", unfollowed := true, recurses := true, apart := false }
def FnSeasonsSaid : Prop := fnSeasonsRow.holds Try.pinned (OpenSpec.ofChange fnSeasonsSpec)

/-- ITS FALSE NEIGHBOUR: 'it returns false'. Refute it at one input. -/
def fnSeasonsWrong : ChangeSpec := { name := "fnSeasons", fn := fun _ => fun
  | [d] => { results := [.lit (.bool false)], args := [d] }
  | _ => none }
def FnSeasonsWrongFalsely : Prop := fnSeasonsRow.holds Try.pinned (OpenSpec.ofChange fnSeasonsWrong)

/- THE SECOND FORM. 'bulk': how many values and letters a reading holds, each counted each time it is reached (what is shared counts as often as it is met; a slice's spare places count too). A statement '..UptoSaid' is the law's where the arguments, and the package variables that the reading takes, are together of bulk at most 1048576: NARROWER than '..Said'. Prove '..Said' where nothing that the law and all that it calls make is longer than what came in: it says more and counts as full. Else prove '..UptoSaid'. A law counts once. -/
mutual
def uptoBulk {H : Type} : DataW H → Nat
  | .lit (.string bytes) => bytes.length + 1
  | .lit _ => 1
  | .nil => 1
  | .ptr d => uptoBulk d + 1
  | .slice elems spare => uptoBulkAll elems + uptoBulkAll spare + 1
  | .agg parts => uptoBulkAll parts + 1
  | .iface _ d => uptoBulk d + 1
  | .map entries => uptoBulkEntries entries + 1
  | .held _ => 1
def uptoBulkAll {H : Type} : List (DataW H) → Nat
  | [] => 0
  | d :: r => uptoBulk d + uptoBulkAll r
def uptoBulkEntries {H : Type} : List (Lit × DataW H) → Nat
  | [] => 0
  | x :: r => uptoBulkEntry x + uptoBulkEntries r
def uptoBulkEntry {H : Type} : Lit × DataW H → Nat
  | (.string bytes, d) => bytes.length + uptoBulk d + 1
  | (_, d) => uptoBulk d + 1
 end
def uptoSmall : (H : Type) → List (DataW H) → Bool := fun _ ds => decide (uptoBulkAll ds ≤ 1048576)
def OpenSpec.upto (s : _root_.Go.ChangeSpec) : _root_.Go.OpenSpec := { _root_.Go.OpenSpec.ofChange s with cond := some uptoSmall }

/-- 'laws.FnExactAreSources', WHERE WHAT IT READS IS OF BULK AT MOST 1048576: true; the input reads as it did. -/
def fnExactAreSourcesUptoRow : OpenClaim := { program := "ytfcidjlnokhkjaa", sum := "2e0a9c1bc256141e69e6a2ac0dbcd0b034e402d361d2dd50947af003560f2754", func := "loop.example/g03009/laws.FnExactAreSources", spec := "fnExactAreSources", unfollowed := true, recurses := true, apart := false, narrowed := true }
def FnExactAreSourcesUptoSaid : Prop := fnExactAreSourcesUptoRow.holds Try.pinned (OpenSpec.upto fnExactAreSourcesSpec)

/-- 'laws.FnExactRootOf', WHERE WHAT IT READS IS OF BULK AT MOST 1048576: true; the input reads as it did. -/
def fnExactRootOfUptoRow : OpenClaim := { program := "ytfcidjlnokhkjaa", sum := "2e0a9c1bc256141e69e6a2ac0dbcd0b034e402d361d2dd50947af003560f2754", func := "loop.example/g03009/laws.FnExactRootOf", spec := "fnExactRootOf", unfollowed := true, recurses := true, apart := false, narrowed := true }
def FnExactRootOfUptoSaid : Prop := fnExactRootOfUptoRow.holds Try.pinned (OpenSpec.upto fnExactRootOfSpec)

/-- 'laws.FnExactBalanceOf', WHERE WHAT IT READS IS OF BULK AT MOST 1048576: true; the input reads as it did. -/
def fnExactBalanceOfUptoRow : OpenClaim := { program := "ytfcidjlnokhkjaa", sum := "2e0a9c1bc256141e69e6a2ac0dbcd0b034e402d361d2dd50947af003560f2754", func := "loop.example/g03009/laws.FnExactBalanceOf", spec := "fnExactBalanceOf", unfollowed := true, recurses := true, apart := false, narrowed := true }
def FnExactBalanceOfUptoSaid : Prop := fnExactBalanceOfUptoRow.holds Try.pinned (OpenSpec.upto fnExactBalanceOfSpec)

/-- 'laws.FnExactIsTwisted', WHERE WHAT IT READS IS OF BULK AT MOST 1048576: true; the input reads as it did. -/
def fnExactIsTwistedUptoRow : OpenClaim := { program := "ytfcidjlnokhkjaa", sum := "2e0a9c1bc256141e69e6a2ac0dbcd0b034e402d361d2dd50947af003560f2754", func := "loop.example/g03009/laws.FnExactIsTwisted", spec := "fnExactIsTwisted", unfollowed := true, recurses := true, apart := false, narrowed := true }
def FnExactIsTwistedUptoSaid : Prop := fnExactIsTwistedUptoRow.holds Try.pinned (OpenSpec.upto fnExactIsTwistedSpec)

/-- 'laws.FnExactAddSource', WHERE WHAT IT READS IS OF BULK AT MOST 1048576: true; the input reads as it did. -/
def fnExactAddSourceUptoRow : OpenClaim := { program := "ytfcidjlnokhkjaa", sum := "2e0a9c1bc256141e69e6a2ac0dbcd0b034e402d361d2dd50947af003560f2754", func := "loop.example/g03009/laws.FnExactAddSource", spec := "fnExactAddSource", unfollowed := true, recurses := true, apart := false, narrowed := true }
def FnExactAddSourceUptoSaid : Prop := fnExactAddSourceUptoRow.holds Try.pinned (OpenSpec.upto fnExactAddSourceSpec)

/-- 'laws.FnSources', WHERE WHAT IT READS IS OF BULK AT MOST 1048576: true; the input reads as it did. -/
def fnSourcesUptoRow : OpenClaim := { program := "ytfcidjlnokhkjaa", sum := "2e0a9c1bc256141e69e6a2ac0dbcd0b034e402d361d2dd50947af003560f2754", func := "loop.example/g03009/laws.FnSources", spec := "fnSources", unfollowed := true, recurses := true, apart := false, narrowed := true }
def FnSourcesUptoSaid : Prop := fnSourcesUptoRow.holds Try.pinned (OpenSpec.upto fnSourcesSpec)

/-- 'laws.FnExactSeasonRound', WHERE WHAT IT READS IS OF BULK AT MOST 1048576: true; the input reads as it did. -/
def fnExactSeasonRoundUptoRow : OpenClaim := { program := "ytfcidjlnokhkjaa", sum := "2e0a9c1bc256141e69e6a2ac0dbcd0b034e402d361d2dd50947af003560f2754", func := "loop.example/g03009/laws.FnExactSeasonRound", spec := "fnExactSeasonRound", apart := false, narrowed := true }
def FnExactSeasonRoundUptoSaid : Prop := fnExactSeasonRoundUptoRow.holds Try.pinned (OpenSpec.upto fnExactSeasonRoundSpec)

/-- 'laws.FnExactRoundWith', WHERE WHAT IT READS IS OF BULK AT MOST 1048576: true; the input reads as it did. -/
def fnExactRoundWithUptoRow : OpenClaim := { program := "ytfcidjlnokhkjaa", sum := "2e0a9c1bc256141e69e6a2ac0dbcd0b034e402d361d2dd50947af003560f2754", func := "loop.example/g03009/laws.FnExactRoundWith", spec := "fnExactRoundWith", apart := false, narrowed := true }
def FnExactRoundWithUptoSaid : Prop := fnExactRoundWithUptoRow.holds Try.pinned (OpenSpec.upto fnExactRoundWithSpec)

/-- 'laws.FnExactRestOf', WHERE WHAT IT READS IS OF BULK AT MOST 1048576: true; the input reads as it did. -/
def fnExactRestOfUptoRow : OpenClaim := { program := "ytfcidjlnokhkjaa", sum := "2e0a9c1bc256141e69e6a2ac0dbcd0b034e402d361d2dd50947af003560f2754", func := "loop.example/g03009/laws.FnExactRestOf", spec := "fnExactRestOf", unfollowed := true, recurses := true, apart := false, narrowed := true }
def FnExactRestOfUptoSaid : Prop := fnExactRestOfUptoRow.holds Try.pinned (OpenSpec.upto fnExactRestOfSpec)

/-- 'laws.FnExactAllRounds', WHERE WHAT IT READS IS OF BULK AT MOST 1048576: true; the input reads as it did. -/
def fnExactAllRoundsUptoRow : OpenClaim := { program := "ytfcidjlnokhkjaa", sum := "2e0a9c1bc256141e69e6a2ac0dbcd0b034e402d361d2dd50947af003560f2754", func := "loop.example/g03009/laws.FnExactAllRounds", spec := "fnExactAllRounds", apart := false, narrowed := true }
def FnExactAllRoundsUptoSaid : Prop := fnExactAllRoundsUptoRow.holds Try.pinned (OpenSpec.upto fnExactAllRoundsSpec)

/-- 'laws.FnExactMeetOnce', WHERE WHAT IT READS IS OF BULK AT MOST 1048576: true; the input reads as it did. -/
def fnExactMeetOnceUptoRow : OpenClaim := { program := "ytfcidjlnokhkjaa", sum := "2e0a9c1bc256141e69e6a2ac0dbcd0b034e402d361d2dd50947af003560f2754", func := "loop.example/g03009/laws.FnExactMeetOnce", spec := "fnExactMeetOnce", apart := false, narrowed := true }
def FnExactMeetOnceUptoSaid : Prop := fnExactMeetOnceUptoRow.holds Try.pinned (OpenSpec.upto fnExactMeetOnceSpec)

/-- 'laws.FnSeasons', WHERE WHAT IT READS IS OF BULK AT MOST 1048576: true; the input reads as it did. -/
def fnSeasonsUptoRow : OpenClaim := { program := "ytfcidjlnokhkjaa", sum := "2e0a9c1bc256141e69e6a2ac0dbcd0b034e402d361d2dd50947af003560f2754", func := "loop.example/g03009/laws.FnSeasons", spec := "fnSeasons", unfollowed := true, recurses := true, apart := false, narrowed := true }
def FnSeasonsUptoSaid : Prop := fnSeasonsUptoRow.holds Try.pinned (OpenSpec.upto fnSeasonsSpec)

end Rows
end Go.Proofs.Ytfcidjlnokhkjaa
