/- Words of the print of the kit, cut down by a program of this session to what this claim comes to: plain definitions and theorems. -/
import Derived.Test.YtopbdoilpdpkmaaWInv
import Derived.Test.YtopbdoilpdpkmaaWFootNe
namespace Go.Proofs.YtopbdoilpdpkmaaW.PrintWords
open Go.RowKit
end Go.Proofs.YtopbdoilpdpkmaaW.PrintWords
namespace Go.Proofs.YtopbdoilpdpkmaaW.PrintLast
section
variable {ops : Array Oper} {a : Act} {o og : Oper} {g : Nat} {t : Tmp} {u : Bool}
end
end Go.Proofs.YtopbdoilpdpkmaaW.PrintLast
