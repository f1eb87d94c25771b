-- Made by wip/myprint.py of this repository, with the kit's print program, out of the translation: lines written by a program for this claim.
import Derived.Test.YtipgldfbjlhpoaaP0
namespace Go.Proofs.Ytipgldfbjlhpoaa.P
open Go.RowKit Go.Proofs.YtipgldfbjlhpoaaW.PrintWords Go.Proofs.YtipgldfbjlhpoaaW.PrintLast Go.Proofs.YtipgldfbjlhpoaaW.PrintMore
attribute [local go_sem] max2_int min2_int max_two min_two max_three min_three max_four min_four   -- for this text's walks alone
set_option linter.unusedVariables false
set_option linter.unusedSimpArgs false

theorem eqA72 (d : Nat) (w : World) (x0 y0 : ByteArray) (x1 y1 : ByteArray) :
    (Op.equalIn (d + 2) 72 (.agg #[.string x0, .string x1]) (.agg #[.string y0, .string y1])).run Try.prog w = .ok (x0.toList == y0.toList && (x1.toList == y1.toList)) w := by
  refine eqA_of Try.underlying72 (by kernel_rfl) ?_
  refine eqf_cons (by rfl) (by go_simp; rfl) (by go_simp; rfl) (by go_simp) ?_
  exact eqf_last (by rfl) (by go_simp; rfl) (by go_simp; rfl) (by go_simp)
end Go.Proofs.Ytipgldfbjlhpoaa.P
