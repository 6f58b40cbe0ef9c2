/- Words of the kit's print, cut down by a program of this session to what this claim comes to: plain definitions and theorems. -/
import Derived.Test.YtcafmfmlnfaogaaDoorWInv
import Derived.Test.YtcafmfmlnfaogaaDoorWFootNe
namespace Go.Proofs.YtcafmfmlnfaogaaDoorW.PrintWords
open Go.RowKit
end Go.Proofs.YtcafmfmlnfaogaaDoorW.PrintWords
namespace Go.Proofs.YtcafmfmlnfaogaaDoorW.PrintLast
section
variable {ops : Array Oper} {a : Act} {o og : Oper} {g : Nat} {t : Tmp} {u : Bool}
end
end Go.Proofs.YtcafmfmlnfaogaaDoorW.PrintLast
