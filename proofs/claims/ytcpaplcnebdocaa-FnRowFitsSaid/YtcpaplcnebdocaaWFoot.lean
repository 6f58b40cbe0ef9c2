/- Words of the kit's print, cut down by a program of this session to what this claim comes to: plain definitions and theorems. -/
import Derived.Test.YtcpaplcnebdocaaWApart
import Derived.Test.YtcpaplcnebdocaaWArr
namespace Go.Proofs.YtcpaplcnebdocaaW.PrintWords
open Go.RowKit
namespace Kd
section
variable {α : Type} {d : Kd α} {e base g n c : Nat} {ok : Nat → Prop} {w w0 W : World} {A : Option Addr} {xs : List α}
end
end Kd
end Go.Proofs.YtcpaplcnebdocaaW.PrintWords
