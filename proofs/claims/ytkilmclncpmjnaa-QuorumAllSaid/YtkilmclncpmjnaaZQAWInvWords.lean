-- Words of the print, cut down by a program of this session (trimclaim.py) to those that this claim names
import Derived.Test.YtkilmclncpmjnaaZQAWInv
import Derived.Test.YtkilmclncpmjnaaZQAWFootNe
namespace Go.Proofs.YtkilmclncpmjnaaW.PrintWords
open Go.RowKit
end Go.Proofs.YtkilmclncpmjnaaW.PrintWords
namespace Go.Proofs.YtkilmclncpmjnaaW.PrintLast
section
variable {ops : Array Oper} {a : Act} {o og : Oper} {g : Nat} {t : Tmp} {u : Bool}
end
end Go.Proofs.YtkilmclncpmjnaaW.PrintLast
