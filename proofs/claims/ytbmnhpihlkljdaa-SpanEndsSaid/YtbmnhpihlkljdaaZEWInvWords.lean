-- Words of the print, cut down by a program of this session (trimclaim.py) to those that this claim names
import Derived.Test.YtbmnhpihlkljdaaZEWInv
import Derived.Test.YtbmnhpihlkljdaaZEWFootNe
namespace Go.Proofs.YtbmnhpihlkljdaaW.PrintWords
open Go.RowKit
end Go.Proofs.YtbmnhpihlkljdaaW.PrintWords
namespace Go.Proofs.YtbmnhpihlkljdaaW.PrintLast
section
variable {ops : Array Oper} {a : Act} {o og : Oper} {g : Nat} {t : Tmp} {u : Bool}
end
end Go.Proofs.YtbmnhpihlkljdaaW.PrintLast
