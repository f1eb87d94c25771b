import Derived.Test.YtipgldfbjlhpoabZeP0
import Derived.Test.YtipgldfbjlhpoabZePRWireR
import Derived.Test.YtipgldfbjlhpoabZePRMerkle
-- Printed by wip/myprint.py.
namespace Go.Proofs.Ytipgldfbjlhpoab.P
open Go.RowKit Go.Proofs.YtipgldfbjlhpoabW.PrintWords Go.Proofs.YtipgldfbjlhpoabW.PrintLast Go.Proofs.YtipgldfbjlhpoabW.PrintMore
attribute [local go_sem] max2_int min2_int max_two min_two max_three min_three max_four min_four   -- for this text's walks alone
attribute [local go_sem] geq_str gtr_str
set_option linter.unusedVariables false
set_option linter.unusedSimpArgs false
def footbridgeref12_path.f : Nat → List (S86) → Int → Option (List ByteArray)
 | 0, _, _ => none
 | k + 1, l0, a1 => if (l0.length : Int) < 2 then (some ([] : List ByteArray)) else ((footbridgeref11_Split.f k (l0.length : Int)).bind fun t1071 => (if a1 < t1071 then (if 0 ≤ t1071 then (if t1071 ≤ (l0.length : Int) then ((footbridgeref11_Tree.f k (l0.drop (t1071 : Int).toNat)).bind fun bt1076 => ((footbridgeref12_path.f k (l0.take (t1071 : Int).toNat) a1).bind fun t1084 => (if t1084.length < 8796093022208 then (some (t1084 ++ [bt1076.1])) else (none)))) else (none)) else (none)) else (if 0 ≤ t1071 then (if t1071 ≤ (l0.length : Int) then ((footbridgeref11_Tree.f k (l0.take (t1071 : Int).toNat)).bind fun bt1094 => ((footbridgeref12_path.f k (l0.drop (t1071 : Int).toNat) (wrap64 (a1 - t1071))).bind fun t1102 => (if t1102.length < 8796093022208 then (some (t1102 ++ [bt1094.1])) else (none)))) else (none)) else (none))))
mutual
def footbridgeref12_Build.j1 : Nat → List (S86) → ByteArray → Int → Option (Int × Int × Bool × (List (S86)) × (List (List ByteArray)))
 | 0, _, _, _ => none
 | k + 1, x0, x1, x5 => if x5 < (x0.length : Int) then (if 0 ≤ x5 then (footbridgeref12_Build.j2 k x0 x5 (((rd_T86 x0 x5).f0).toList == x1.toList) (x0.length : Int) x5 false) else (none)) else (footbridgeref12_Build.j2 k x0 x5 false (x0.length : Int) x5 false)
def footbridgeref12_Build.j2 : Nat → List (S86) → Int → Bool → Int → Int → Bool → Option (Int × Int × Bool × (List (S86)) × (List (List ByteArray)))
 | 0, _, _, _, _, _, _ => none
 | k + 1, x0, x5, x43, x1112000, x1112001, x1112002 => if x43 = true then ((footbridgeref12_path.f k x0 x5).bind fun t1113 => (some (x1112000, x1112001, true, ([] : List (S86)), (([t1113] : List (List ByteArray)))))) else (footbridgeref12_Build.l1 k x0 x5 (mx 0 (wrap64 (x5 - 1))) x1112000 x1112001 x1112002 ([] : List (S86)) ([] : List (List ByteArray)))
def footbridgeref12_Build.l1 : Nat → List (S86) → Int → Int → Int → Int → Bool → List (S86) → List (List ByteArray) → Option (Int × Int × Bool × (List (S86)) × (List (List ByteArray)))
 | 0, _, _, _, _, _, _, _, _ => none
 | k + 1, x0, x5, x7, x1112000, x1112001, x1112002, x1112003, x1112004 => if x7 ≤ x5 then (if x7 < (x0.length : Int) then (if 0 ≤ x7 then (if x1112003.length < 4398046511104 then ((footbridgeref12_path.f k x0 x7).bind fun t1123 => (if x1112004.length < 5864062014805 then (footbridgeref12_Build.l1 k x0 x5 (wrap64 (x7 + 1)) x1112000 x1112001 x1112002 (x1112003 ++ [(⟨(rd_T86 x0 x7).f0, (rd_T86 x0 x7).f1⟩ : S86)]) (x1112004 ++ [t1123])) else (none))) else (none)) else (none)) else (some (x1112000, x1112001, x1112002, x1112003, x1112004))) else (some (x1112000, x1112001, x1112002, x1112003, x1112004))
def footbridgeref12_Build.l0 : Nat → List (S86) → ByteArray → Int → Option (Int × Int × Bool × (List (S86)) × (List (List ByteArray)))
 | 0, _, _, _ => none
 | k + 1, x0, x1, x5 => if x5 < (x0.length : Int) then (if 0 ≤ x5 then (if (Op.bytesLess (((rd_T86 x0 x5).f0).toList) x1.toList) = true then (footbridgeref12_Build.l0 k x0 x1 (wrap64 (x5 + 1))) else (footbridgeref12_Build.j1 k x0 x1 x5)) else (none)) else (footbridgeref12_Build.j1 k x0 x1 x5)
end
def footbridgeref12_Build.f (k : Nat) (l0 : List (S86)) (a1 : ByteArray) : Option (Int × Int × Bool × (List (S86)) × (List (List ByteArray))) := (footbridgeref12_Rises.f k l0).bind fun t1109 => (if t1109 = true then (footbridgeref12_Build.l0 k l0 a1 0) else (some (0, 0, false, ([] : List (S86)), ([] : List (List ByteArray)))))
end Go.Proofs.Ytipgldfbjlhpoab.P
