/- Texts at their ends, in each place: a closed statement; no condition. -/
import Derived.Test.YtbmnhpihlkljdaaZEPureEu
import Derived.Test.YtbmnhpihlkljdaaZEP04ex13
namespace Go.Proofs.Ytbmnhpihlkljdaa.Pure
open Go.RowKit Go.Proofs.Ytbmnhpihlkljdaa.P04e Go.Proofs.YtbmnhpihlkljdaaW.PrintWords Go.Proofs.YtbmnhpihlkljdaaW.PrintLast
theorem SpanEnds : watershedlaw04_SpanEnds.Pure := spanEnds_true.rounds
end Go.Proofs.Ytbmnhpihlkljdaa.Pure
