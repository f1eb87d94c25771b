/- The plain side of ShaSums: both programs' sums are one function. -/
import Derived.Test.YtipgldfbjlhpoaaPLShaSums
namespace Go.Proofs.Ytipgldfbjlhpoaa.Pure
set_option linter.unusedVariables false
set_option linter.unusedSimpArgs false
open Go.RowKit Go.Proofs.Ytipgldfbjlhpoaa.P
theorem ShaSums : footbridgelaw04_ShaSums.Pure := by
  intro s hs
  unfold footbridgelaw04_ShaSums.f footbridgelaw04_awake.f sha_Sum.f footbridgeref04_Sum.f
  have h1 : s.size ≤ 1000000000000000 := by omega
  simp only [if_pos h1, Option.bind_some, if_true, ite_self]
end Go.Proofs.Ytipgldfbjlhpoaa.Pure
