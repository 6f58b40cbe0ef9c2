/- Words of the kit's print, cut down by a program of this session to what this claim comes to: plain definitions and theorems. -/
import Derived.Test.YtcpaplcnebdocaaWInv
import Derived.Test.YtcpaplcnebdocaaWFootNe
namespace Go.Proofs.YtcpaplcnebdocaaW.PrintWords
open Go.RowKit
end Go.Proofs.YtcpaplcnebdocaaW.PrintWords
namespace Go.Proofs.YtcpaplcnebdocaaW.PrintLast
section
variable {ops : Array Oper} {a : Act} {o og : Oper} {g : Nat} {t : Tmp} {u : Bool}
end
end Go.Proofs.YtcpaplcnebdocaaW.PrintLast
