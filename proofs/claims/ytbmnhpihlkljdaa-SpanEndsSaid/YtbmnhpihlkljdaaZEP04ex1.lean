-- Written by gprint.py, a program of this session, over the kit's print; the functions of my own contracts are marked GIVEN
import Derived.Test.YtbmnhpihlkljdaaZEP04ex0
namespace Go.Proofs.Ytbmnhpihlkljdaa.P04e
open Go.RowKit Go.Proofs.YtbmnhpihlkljdaaW.PrintWords Go.Proofs.YtbmnhpihlkljdaaW.PrintLast Go.Proofs.YtbmnhpihlkljdaaW.PrintMore
attribute [local go_sem] max2_str max2_int min2_int max_two min_two max_three min_three max_four min_four   -- for this text's walks alone
set_option linter.unusedVariables false
set_option linter.unusedSimpArgs false

theorem eqA26 (d : Nat) (w : World) (x0 y0 : ByteArray) (x1 y1 : ByteArray) :
    (Op.equalIn (d + 2) 26 (.agg #[.string x0, .string x1]) (.agg #[.string y0, .string y1])).run Try.prog w = .ok (x0.toList == y0.toList && (x1.toList == y1.toList)) w := by
  refine eqA_of Try.underlying26 (by kernel_rfl) ?_
  refine eqf_cons (by rfl) (by go_simp; rfl) (by go_simp; rfl) (by go_simp) ?_
  exact eqf_last (by rfl) (by go_simp; rfl) (by go_simp; rfl) (by go_simp)
end Go.Proofs.Ytbmnhpihlkljdaa.P04e
