/- MsgBytes: the plain side. -/
import Derived.Test.YtipgldfbjlhpoabPureMsg3
namespace Go.Proofs.Ytipgldfbjlhpoab.Pure
set_option linter.unusedVariables false
set_option linter.unusedSimpArgs false
open Go.RowKit Go.Proofs.Ytipgldfbjlhpoab.P Go.Proofs.Ytipgldfbjlhpoab.Wire Go.Proofs.Ytipgldfbjlhpoab.Sha Go.Proofs.Ytipgldfbjlhpoab.Msg Go.Proofs.YtipgldfbjlhpoabW.PrintWords Go.Proofs.YtipgldfbjlhpoabW.PrintLast
theorem MsgBytes (kind : Int) (f : ByteArray) (ts ls : List ByteArray) (ns : List Int) (s : ByteArray) (k : Nat) (hk : 80000 ≤ k) (hf : f.size ≤ 300) (hs : ¬ (s.size : Int) > 5000) :
    ∃ (r : ByteArray) (e c : Int) (kx : Int) (fx : ByteArray) (l2x l3x : List ByteArray) (l4x : List Int) (g : Int),
      msg_Put.f kind f ts ls ns = some (r, e) ∧ footbridgeref37_Put.f k kind f ts ls ns = some (r, e) ∧ msg_Read.f k s = some (kx, fx, l2x, l3x, l4x, g) ∧ footbridgeref37_Read.f k s = some (kx, fx, l2x, l3x, l4x, g) ∧
      msg_Check.f kind f ts ls ns = some c ∧ footbridgeref37_Check.f k kind f ts ls ns = some c ∧ footbridgeref37_Same.f k kx fx l2x l3x l4x kx fx l2x l3x l4x = some true := by
  obtain ⟨r, e, h1, h2, _, _⟩ := put_eq kind f ts ls ns k (by omega) (by omega)
  obtain ⟨c, h3, h4, _⟩ := check_eq kind f ts ls ns k (by omega) (by omega)
  obtain ⟨kx, fx, l2, l3, l4, g, q1, q2, q3, q4, q5, q6, q7⟩ := read_eq s k hk (by omega)
  exact ⟨r, e, c, kx, fx, l2, l3, l4, g, h1, h2, q1, q2, h3, h4, same_f kx fx l2 l3 l4 k (by omega) (by omega) (by omega) (by omega)⟩
end Go.Proofs.Ytipgldfbjlhpoab.Pure
