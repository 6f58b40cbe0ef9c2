/- Words of the print of the kit, cut down by a program of this session to what this claim comes to: plain definitions and theorems. -/
import Derived.Test.YtjfjfdcmliaigaaWInv
import Derived.Test.YtjfjfdcmliaigaaWFootNe
namespace Go.Proofs.YtjfjfdcmliaigaaW.PrintWords
open Go.RowKit
end Go.Proofs.YtjfjfdcmliaigaaW.PrintWords
namespace Go.Proofs.YtjfjfdcmliaigaaW.PrintLast
section
variable {ops : Array Oper} {a : Act} {o og : Oper} {g : Nat} {t : Tmp} {u : Bool}
end
end Go.Proofs.YtjfjfdcmliaigaaW.PrintLast
