/- Words of the kit's print, cut down by a program of this session to what this claim comes to: plain definitions and theorems. -/
import Derived.Test.YtcpaplcnebdocaaWWords
import Derived.Laws.StructEq
namespace Go.Proofs.YtcpaplcnebdocaaW.PrintWords
open Go.RowKit
section
variable {P : Program} {d : Nat} {xs ys : Array Value} {f : Field} {fs : List Field} {a b : Value} {r s : Bool} {w : World}
end
end Go.Proofs.YtcpaplcnebdocaaW.PrintWords
