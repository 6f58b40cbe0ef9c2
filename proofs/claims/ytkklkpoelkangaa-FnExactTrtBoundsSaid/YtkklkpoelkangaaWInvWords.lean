/- Words of the print of the kit, cut down by a program of this session to what this claim comes to: plain definitions and theorems. -/
import Derived.Test.YtkklkpoelkangaaWInv
import Derived.Test.YtkklkpoelkangaaWFootNe
namespace Go.Proofs.YtkklkpoelkangaaW.PrintWords
open Go.RowKit
end Go.Proofs.YtkklkpoelkangaaW.PrintWords
namespace Go.Proofs.YtkklkpoelkangaaW.PrintLast
section
variable {ops : Array Oper} {a : Act} {o og : Oper} {g : Nat} {t : Tmp} {u : Bool}
end
end Go.Proofs.YtkklkpoelkangaaW.PrintLast
