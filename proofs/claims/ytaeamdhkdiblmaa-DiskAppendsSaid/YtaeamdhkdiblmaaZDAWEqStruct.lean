-- Words of the print, cut down by a program of this session (trimclaim.py) to those that this claim names
import Derived.Test.YtaeamdhkdiblmaaZDAWWords
import Derived.Laws.StructEq
/-! ### 53. '==' of structs as_ one Bool -/
namespace Go.Proofs.YtaeamdhkdiblmaaW.PrintWords
open Go.RowKit
section
variable {P : Program} {d : Nat} {xs ys : Array Value} {f : Field} {fs : List Field} {a b : Value} {r s : Bool} {w : World}
end
end Go.Proofs.YtaeamdhkdiblmaaW.PrintWords
