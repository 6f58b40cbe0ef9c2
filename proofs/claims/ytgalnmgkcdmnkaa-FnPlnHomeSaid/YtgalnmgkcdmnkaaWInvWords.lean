/- Words of the kit's print, cut down by a program of this session to what this claim comes to: plain definitions and theorems. -/
import Derived.Test.YtgalnmgkcdmnkaaWInv
import Derived.Test.YtgalnmgkcdmnkaaWFootNe
namespace Go.Proofs.YtgalnmgkcdmnkaaW.PrintWords
open Go.RowKit
end Go.Proofs.YtgalnmgkcdmnkaaW.PrintWords
namespace Go.Proofs.YtgalnmgkcdmnkaaW.PrintLast
section
variable {ops : Array Oper} {a : Act} {o og : Oper} {g : Nat} {t : Tmp} {u : Bool}
end
end Go.Proofs.YtgalnmgkcdmnkaaW.PrintLast
