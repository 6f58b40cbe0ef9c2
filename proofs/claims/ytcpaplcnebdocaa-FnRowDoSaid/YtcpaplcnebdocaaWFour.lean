/- Words of the kit's print, cut down by a program of this session to what this claim comes to: plain definitions and theorems. -/
import Derived.Test.YtcpaplcnebdocaaWTab
namespace Go.Proofs.YtcpaplcnebdocaaW.PrintLast
section
variable {P : Program} {ops : Array Oper} {Q : Exit → Act → World → Prop} {md : Region.Mode} {S : World → Prop} {ds : List Nat} {T : Bool × List (List Nat × List Nat)}
end
end Go.Proofs.YtcpaplcnebdocaaW.PrintLast
