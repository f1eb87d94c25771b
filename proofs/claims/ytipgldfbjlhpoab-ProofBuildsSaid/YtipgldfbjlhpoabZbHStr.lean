/- Strings that are compared by '>=' and '>'. -/
import Derived.Test.YtipgldfbjlhpoabZbP0
namespace Go.Proofs.Ytipgldfbjlhpoab.P
open Go.RowKit
theorem geq_str (a b : ByteArray) (W : World) : (binOp .geq 9 (.string a) (.string b)).run Try.prog W = .ok (.bool (!Op.bytesLess a.toList b.toList)) W := by
 simp only [binOp]
 first
 | (go_simp; done)
 | rfl
theorem gtr_str (a b : ByteArray) (W : World) : (binOp .gtr 9 (.string a) (.string b)).run Try.prog W = .ok (.bool (!(Op.bytesLess a.toList b.toList || a.toList == b.toList))) W := by
 simp only [binOp]
 first
 | (go_simp; done)
 | rfl
end Go.Proofs.Ytipgldfbjlhpoab.P
