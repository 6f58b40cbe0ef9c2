/- Words of the kit's print, cut down by a program of this session to what this claim comes to: plain definitions and theorems. -/
import Derived.Test.YtcpaplcnebdocaaWInv
import Derived.Test.YtcpaplcnebdocaaWFootNe
namespace Go.Proofs.YtcpaplcnebdocaaW.PrintWords
open Go.RowKit
end Go.Proofs.YtcpaplcnebdocaaW.PrintWords
namespace Go.Proofs.YtcpaplcnebdocaaW.PrintLast
section
variable {ops : Array Oper} {a : Act} {o og : Oper} {g : Nat} {t : Tmp} {u : Bool}
theorem wanted_on (hg : o.guard = some (g, u)) (ho : ops[g]? = some og) (hd : og.dst = some t) (hv : a.tmps[t]? = some (.bool u)) : Region.wanted o (yielded ops a.tmps) = true := by
  simp [Region.wanted, hg, yielded, ho, hd, hv]
end
end Go.Proofs.YtcpaplcnebdocaaW.PrintLast
