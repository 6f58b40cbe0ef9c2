/- Words of the print of the kit, cut down by a program of this session to what this claim comes to: plain definitions and theorems. -/
import Derived.Test.YtpmkbblibingiaaWInv
import Derived.Test.YtpmkbblibingiaaWFootNe
namespace Go.Proofs.YtpmkbblibingiaaW.PrintWords
open Go.RowKit
end Go.Proofs.YtpmkbblibingiaaW.PrintWords
namespace Go.Proofs.YtpmkbblibingiaaW.PrintLast
section
variable {ops : Array Oper} {a : Act} {o og : Oper} {g : Nat} {t : Tmp} {u : Bool}
end
end Go.Proofs.YtpmkbblibingiaaW.PrintLast
