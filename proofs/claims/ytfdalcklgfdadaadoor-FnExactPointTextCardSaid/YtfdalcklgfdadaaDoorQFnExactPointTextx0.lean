-- Laid by this session's own program (wip/myprint.py), the kit's printer its engine; turned by hand where that fell. Lean checks it.
import Derived.Test.YtfdalcklgfdadaaDoorProg
import Derived.Below
import Derived.Deep.Draws
import Derived.Deep.AppendLies
import Derived.Maps.AppendAt
import Derived.OwnWalk
import Derived.Laws.BytesArg
import Derived.Laws.MakeOwn
import Derived.Laws.OwnMore
import Derived.Deep.OwnRows
import Derived.Tactics
import Derived.Lib.ConvBytes
import Derived.Laws.Slices
import Derived.WalkKit
import Derived.KernelRfl
import Derived.RowKit3
import Derived.Deep.LoopGhost
import Derived.Deep.QuietTactic
import Derived.BigQuiet
import Derived.WideLaws
import Derived.Deep.DeepCutAuto
import Derived.Deep.CutBlock
import Derived.Deep.RegionHeld3
import Derived.Laws.Rows
import Derived.Lib.AppendStr
import Derived.ArgAppend
import Derived.Laws.IdiomCopy
import Derived.OrdersHeld
import Derived.Laws.BitsLemmas
import Derived.RowKit
import Derived.Test.YtfdalcklgfdadaaDoorWWords
import Derived.Test.YtfdalcklgfdadaaDoorWLast
import Derived.Test.YtfdalcklgfdadaaDoorWTab
import Derived.Test.YtfdalcklgfdadaaDoorWFour
import Derived.Test.YtfdalcklgfdadaaDoorWQPut
import Derived.Test.YtfdalcklgfdadaaDoorWApart
import Derived.Test.YtfdalcklgfdadaaDoorWArr
import Derived.Test.YtfdalcklgfdadaaDoorWZeros
import Derived.Test.YtfdalcklgfdadaaDoorWFoot
import Derived.Test.YtfdalcklgfdadaaDoorWKept
import Derived.Test.YtfdalcklgfdadaaDoorWShare
import Derived.Test.YtfdalcklgfdadaaDoorWN
import Derived.Test.YtfdalcklgfdadaaDoorWFootNe
import Derived.Test.YtfdalcklgfdadaaDoorWAt
import Derived.Test.YtfdalcklgfdadaaDoorWEqStruct
import Derived.Test.YtfdalcklgfdadaaDoorWRepsOne
import Derived.Test.YtfdalcklgfdadaaDoorWInv
import Derived.Test.YtfdalcklgfdadaaDoorWInvWords
import Derived.Test.YtfdalcklgfdadaaDoorWGuard
import Derived.Test.YtfdalcklgfdadaaDoorWNEv
import Derived.Test.YtfdalcklgfdadaaDoorWMore
namespace Go.Proofs.YtfdalcklgfdadaaDoor.QFnExactPointText
open Go.RowKit Go.Proofs.YtfdalcklgfdadaaDoorW.PrintWords Go.Proofs.YtfdalcklgfdadaaDoorW.PrintLast Go.Proofs.YtfdalcklgfdadaaDoorW.PrintMore
attribute [local go_sem] max2_int min2_int max_two min_two max_three min_three max_four min_four   -- for this text's walks alone
set_option linter.unusedVariables false
set_option linter.unusedSimpArgs false



def errW : Option Int → Value
  | none => .nilIface
  | some c => .iface 0 (.int .i64 c)
theorem errW_none : errW none = .nilIface := rfl
theorem errW_some (c : Int) : errW (some c) = .iface 0 (.int .i64 c) := rfl

theorem info5 : (Tryd.prog.info? 5).map (fun i => (i.zero, i.size, i.bytes)) = some (some (.int .u8 0), 1, 1) := by kernel_rfl
-- the values' own types

end Go.Proofs.YtfdalcklgfdadaaDoor.QFnExactPointText
