/- Words of the print of the kit, cut down by a program of this session to what this claim comes to: plain definitions and theorems. -/
import Derived.Test.YteidbkbhigbfoaaWInv
import Derived.Test.YteidbkbhigbfoaaWFootNe
namespace Go.Proofs.YteidbkbhigbfoaaW.PrintWords
open Go.RowKit
end Go.Proofs.YteidbkbhigbfoaaW.PrintWords
namespace Go.Proofs.YteidbkbhigbfoaaW.PrintLast
section
variable {ops : Array Oper} {a : Act} {o og : Oper} {g : Nat} {t : Tmp} {u : Bool}
end
end Go.Proofs.YteidbkbhigbfoaaW.PrintLast
