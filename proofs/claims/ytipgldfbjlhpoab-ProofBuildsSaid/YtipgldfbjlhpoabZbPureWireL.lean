/- The plain side of layer 1's lists: both readers tell the same. -/
import Derived.Test.YtipgldfbjlhpoabZbPureWireR
import Derived.Test.YtipgldfbjlhpoabZbPWireL
import Derived.Test.YtipgldfbjlhpoabZbPRWireL
namespace Go.Proofs.Ytipgldfbjlhpoab.Pure
set_option linter.unusedVariables false
set_option linter.unusedSimpArgs false
open Go.RowKit Go.Proofs.Ytipgldfbjlhpoab.P Go.Proofs.Ytipgldfbjlhpoab.Wire Go.Proofs.YtipgldfbjlhpoabW.PrintWords Go.Proofs.YtipgldfbjlhpoabW.PrintLast
theorem texts_l0 (l : List ByteArray) (hl : l.length ≤ 1000000000) : ∀ (d k i : Nat), i + d = l.length → d < k → footbridgeref01_Texts.l0 k l l (i : Int) = some true := by
 intro d
 induction d with
 | zero =>
  intro k i hi hk
  obtain ⟨k, rfl⟩ : ∃ q, k = q + 1 := ⟨k - 1, by omega⟩
  rw [footbridgeref01_Texts.l0, if_neg (by omega)]
 | succ d ih =>
  intro k i hi hk
  obtain ⟨k, rfl⟩ : ∃ q, k = q + 1 := ⟨k - 1, by omega⟩
  have this := ih k (i + 1) (by omega) (by omega)
  have w : wrap64 ((i : Int) + 1) = ((i + 1 : Nat) : Int) := by rw [w64 (by omega) (by omega)]; omega
  rw [footbridgeref01_Texts.l0, if_pos (by clear w; omega), if_pos (by clear w; omega), if_pos (by clear w; omega), if_pos rfl, w, this]
theorem texts_f (l : List ByteArray) (k : Nat) (hl : l.length ≤ 1000000000) (hk : l.length < k) : footbridgeref01_Texts.f k l l = some true := by
 unfold footbridgeref01_Texts.f
 rw [if_pos rfl]
 exact texts_l0 l hl l.length k 0 (by omega) hk
end Go.Proofs.Ytipgldfbjlhpoab.Pure
