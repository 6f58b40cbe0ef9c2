/- Plain functions, and that the Go code computes them: written by a program of this session over the seat's translation; the conditions stand in each theorem. -/
import Derived.Test.YtgpncpabgojbfaaProg
import Derived.Shelf.Abstract
import Derived.Below
import Derived.Deep.Draws
import Derived.Deep.AppendLies
import Derived.Maps.AppendAt
import Derived.OwnWalk
import Derived.Laws.BytesArg
import Derived.Laws.MakeOwn
import Derived.Laws.OwnMore
import Derived.Deep.OwnRows
import Derived.Tactics
import Derived.Lib.ConvBytes
import Derived.Laws.Slices
import Derived.WalkKit
import Derived.KernelRfl
import Derived.RowKit3
import Derived.Deep.LoopGhost
import Derived.Deep.QuietTactic
import Derived.BigQuiet
import Derived.WideLaws
import Derived.Deep.DeepCutAuto
import Derived.Deep.CutBlock
import Derived.Deep.RegionHeld3
import Derived.Laws.Rows
import Derived.Lib.AppendStr
import Derived.ArgAppend
import Derived.Laws.IdiomCopy
import Derived.OrdersHeld
import Derived.Laws.BitsLemmas
import Derived.RowKit
import Derived.Test.YtgpncpabgojbfaaHOpen
import Derived.Test.YtgpncpabgojbfaaHWords
import Derived.Test.YtgpncpabgojbfaaWWords
import Derived.Test.YtgpncpabgojbfaaWLast
import Derived.Test.YtgpncpabgojbfaaWTab
import Derived.Test.YtgpncpabgojbfaaWFour
import Derived.Test.YtgpncpabgojbfaaWQPut
import Derived.Test.YtgpncpabgojbfaaWApart
import Derived.Test.YtgpncpabgojbfaaWArr
import Derived.Test.YtgpncpabgojbfaaWZeros
import Derived.Test.YtgpncpabgojbfaaWFoot
import Derived.Test.YtgpncpabgojbfaaWKept
import Derived.Test.YtgpncpabgojbfaaWShare
import Derived.Test.YtgpncpabgojbfaaWN
import Derived.Test.YtgpncpabgojbfaaWFootNe
import Derived.Test.YtgpncpabgojbfaaWAt
import Derived.Test.YtgpncpabgojbfaaWEqStruct
import Derived.Test.YtgpncpabgojbfaaWRepsOne
import Derived.Test.YtgpncpabgojbfaaWInv
import Derived.Test.YtgpncpabgojbfaaWInvWords
import Derived.Test.YtgpncpabgojbfaaWGuard
import Derived.Test.YtgpncpabgojbfaaWNEv
import Derived.Test.YtgpncpabgojbfaaWMore
namespace Go.Proofs.Ytgpncpabgojbfaa.QFnExactFrmPot
open Go.RowKit Go.Proofs.YtgpncpabgojbfaaW.PrintWords Go.Proofs.YtgpncpabgojbfaaW.PrintLast Go.Proofs.YtgpncpabgojbfaaW.PrintMore Go.Proofs.Ytgpncpabgojbfaa.HWords
attribute [local go_sem] max2_int min2_int max_two min_two max_three min_three max_four min_four   -- for this text's walks alone
set_option linter.unusedVariables false
set_option linter.unusedSimpArgs false



def errW : Option Int → Value
  | none => .nilIface
  | some c => .iface 0 (.int .i64 c)
theorem errW_none : errW none = .nilIface := rfl
theorem errW_some (c : Int) : errW (some c) = .iface 0 (.int .i64 c) := rfl

theorem info3 : (Try.prog.info? 3).map (fun i => (i.zero, i.size, i.bytes)) = some (some (.int .i64 0), 1, 8) := by kernel_rfl
-- the values' own types

end Go.Proofs.Ytgpncpabgojbfaa.QFnExactFrmPot
