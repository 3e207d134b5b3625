-- Words of the print, cut down by a program of this session (trimclaim.py) to those that this claim names
import Derived.Test.YtaeamdhkdiblmaaZDAWInv
import Derived.Test.YtaeamdhkdiblmaaZDAWFootNe
namespace Go.Proofs.YtaeamdhkdiblmaaW.PrintWords
open Go.RowKit
end Go.Proofs.YtaeamdhkdiblmaaW.PrintWords
namespace Go.Proofs.YtaeamdhkdiblmaaW.PrintLast
section
variable {ops : Array Oper} {a : Act} {o og : Oper} {g : Nat} {t : Tmp} {u : Bool}
end
end Go.Proofs.YtaeamdhkdiblmaaW.PrintLast
