/- Words of the print of the kit, cut down by a program of this session to what this claim comes to: plain definitions and theorems. -/
import Derived.Test.YtfbdjimcjoddgaaWInv
import Derived.Test.YtfbdjimcjoddgaaWFootNe
namespace Go.Proofs.YtfbdjimcjoddgaaW.PrintWords
open Go.RowKit
end Go.Proofs.YtfbdjimcjoddgaaW.PrintWords
namespace Go.Proofs.YtfbdjimcjoddgaaW.PrintLast
section
variable {ops : Array Oper} {a : Act} {o og : Oper} {g : Nat} {t : Tmp} {u : Bool}
end
end Go.Proofs.YtfbdjimcjoddgaaW.PrintLast
