/- Words of the print of the kit, cut down by a program of this session to what this claim comes to: plain definitions and theorems. -/
import Derived.Test.YtfbdjimcjoddgaaWWords
/-! ### 58. A guarded operation whose guard is known to want it: the same goal without the guard -/
namespace Go.Proofs.YtfbdjimcjoddgaaW.PrintWords
open Go.RowKit
section
variable {P : Program} {ops : Array Oper} {rest : List Oper} {o : Oper} {a : Act} {Q : Exit → Act → World → Prop} {W : World}
end
end Go.Proofs.YtfbdjimcjoddgaaW.PrintWords
