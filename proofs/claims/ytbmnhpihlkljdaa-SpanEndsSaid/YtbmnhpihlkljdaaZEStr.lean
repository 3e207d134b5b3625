import Derived.Test.YtbmnhpihlkljdaaZEWWords
import Derived.Test.YtbmnhpihlkljdaaZEWMore
import Derived.Laws.Cover1
namespace Go.Proofs.Ytbmnhpihlkljdaa
open Go.Proofs.YtbmnhpihlkljdaaW.PrintWords
/-- max of two texts. -/
def smax (x y : ByteArray) : ByteArray := if Op.bytesLess x.toList y.toList then y else x
theorem max2_str (x y : ByteArray) : Builtin.max2 (.string x) (.string y) = pure (.string (smax x y)) := by
  unfold Builtin.max2 smax
  simp only [Op.stringOp]
  cases h : Op.bytesLess x.toList y.toList <;> simp [asBool]
theorem ne_nil_str (l : List UInt8) : (l != []) = !l.isEmpty := by cases l <;> rfl
end Go.Proofs.Ytbmnhpihlkljdaa
