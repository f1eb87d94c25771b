/- What the functions of layer 12 answer at the example at the head of its statements. -/
import Derived.Test.YtipgldfbjlhpoabZbHPPut
import Derived.Test.YtipgldfbjlhpoabZbHBuild
import Derived.Test.YtipgldfbjlhpoabZbHMerkle
import Derived.Test.YtipgldfbjlhpoabZbPProof
import Derived.Test.YtipgldfbjlhpoabZbPProofR
import Derived.Test.YtipgldfbjlhpoabZbPR12S
namespace Go.Proofs.Ytipgldfbjlhpoab.Proof12
set_option linter.unusedVariables false
set_option linter.unusedSimpArgs false
open Go.RowKit Go.Proofs.Ytipgldfbjlhpoab.P Go.Proofs.YtipgldfbjlhpoabW.PrintWords Go.Proofs.YtipgldfbjlhpoabW.PrintLast Go.Proofs.YtipgldfbjlhpoabW.PrintMore
set_option maxRecDepth 100000
def pA : S86 := ⟨⟨#[97]⟩, ⟨#[49]⟩⟩
def pC : S86 := ⟨⟨#[99]⟩, ⟨#[50]⟩⟩
def la : ByteArray := ⟨#[206, 120, 46, 224, 226, 135, 219, 167, 159, 231, 12, 189, 104, 247, 15, 47, 210, 80, 107, 87, 68, 63, 191, 179, 17, 67, 60, 86, 247, 29, 181, 105]⟩
def lc : ByteArray := ⟨#[136, 143, 248, 234, 120, 149, 140, 233, 49, 136, 233, 33, 147, 251, 199, 82, 216, 76, 35, 46, 99, 203, 59, 105, 28, 7, 29, 218, 85, 149, 177, 87]⟩
def rt : ByteArray := ⟨#[48, 248, 68, 24, 249, 180, 234, 235, 110, 33, 189, 6, 156, 43, 232, 252, 4, 182, 171, 30, 208, 19, 47, 155, 0, 215, 207, 227, 119, 23, 223, 166]⟩
def rn : ByteArray := ⟨#[153, 190, 94, 251, 136, 202, 32, 19, 189, 142, 78, 176, 53, 253, 66, 213, 36, 84, 104, 254, 154, 250, 112, 216, 186, 156, 28, 65, 154, 72, 196, 232]⟩
def s12 : ByteArray := ⟨#[1, 2, 1, 1, 0, 1, 2, 1, 1, 97, 1, 1, 49, 1, 1, 99, 1, 1, 50, 1, 2, 1, 1, 1, 32, 136, 143, 248, 234, 120, 149, 140, 233, 49, 136, 233, 33, 147, 251, 199, 82, 216, 76, 35, 46, 99, 203, 59, 105, 28, 7, 29, 218, 85, 149, 177, 87, 1, 1, 1, 32, 206, 120, 46, 224, 226, 135, 219, 167, 159, 231, 12, 189, 104, 247, 15, 47, 210, 80, 107, 87, 68, 63, 191, 179, 17, 67, 60, 86, 247, 29, 181, 105]⟩
def s12x : ByteArray := ⟨#[1, 2, 1, 1, 0, 1, 2, 1, 1, 97, 1, 1, 49, 1, 1, 99, 1, 1, 50, 1, 2, 1, 1, 1, 32, 136, 143, 248, 234, 120, 149, 140, 233, 49, 136, 233, 33, 147, 251, 199, 82, 216, 76, 35, 46, 99, 203, 59, 105, 28, 7, 29, 218, 85, 149, 177, 87, 1, 1, 1, 32, 206, 120, 46, 224, 226, 135, 219, 167, 159, 231, 12, 189, 104, 247, 15, 47, 210, 80, 107, 87, 68, 63, 191, 179, 17, 67, 60, 86, 247, 29, 181, 105, 120]⟩
theorem leafA : merkle_Leaf.f pA.f0 pA.f1 = some la := by decide +kernel
theorem leafC : merkle_Leaf.f pC.f0 pC.f1 = some lc := by decide +kernel
theorem rootA : merkle_Root.f [pA, pC] = some rt := by decide +kernel
theorem rootN : merkle_Root.f [] = some rn := by decide +kernel
theorem risesA : proof_rises.f 5 [pA, pC] = some true := by decide +kernel
theorem risesN : proof_rises.f 5 [] = some true := by decide +kernel
theorem lvA : LeavesOk [pA, pC] [la, lc] := by
 refine ⟨rfl, fun i x hx => ?_⟩
 match i, hx with
 | 0, hx => obtain rfl := Option.some.inj hx; exact ⟨la, rfl, leafA⟩
 | 1, hx => obtain rfl := Option.some.inj hx; exact ⟨lc, rfl, leafC⟩
 | i + 2, hx => simp at hx
theorem path0 : proof_path.f 5 [la, lc] 0 = some [lc] := by decide +kernel
theorem path1 : proof_path.f 5 [la, lc] 1 = some [la] := by decide +kernel
theorem putA : proof_Put.f 5 2 1 false [pA, pC] [[lc], [la]] = some (s12, 0) := by decide +kernel
theorem readA : proof_Read.f 40 s12 = some (2, 1, false, [pA, pC], [[lc], [la]], 0) := by kernel_rfl
theorem readB : proof_Read.f 40 s12x = some (0, 0, false, [], [], 6) := by kernel_rfl
theorem s12x_eq : s12 ++ ⟨#[120]⟩ = s12x := by decide +kernel
theorem lacksA : proof_Lacks.f 40 rt ⟨#[98]⟩ 2 1 false [pA, pC] [[lc], [la]] = some true := by kernel_rfl
theorem lacksB : proof_Lacks.f 40 rt ⟨#[97]⟩ 2 1 false [pA, pC] [[lc], [la]] = some false := by kernel_rfl
theorem hasA : proof_Has.f 40 rt ⟨#[99]⟩ ⟨#[50]⟩ 2 1 true [] [[la]] = some true := by kernel_rfl
theorem hasB : proof_Has.f 40 rt ⟨#[97]⟩ ⟨#[49]⟩ 2 1 true [] [[la]] = some false := by kernel_rfl
theorem lacksN : proof_Lacks.f 40 rn ⟨#[98]⟩ 0 0 false [] [] = some true := by kernel_rfl
theorem sameA : footbridgeref12_Same.f 40 2 1 false [pA, pC] [[lc], [la]] 2 1 false [pA, pC] [[lc], [la]] = some true := by kernel_rfl
theorem build_b (A : Option Addr) (c : Nat) (w : World) (hC : Kd.C k86 w A 2 [pA, pC]) (hc : 2 ≤ c) :
  Calls Try.prog 53 #[.slice A 2 c, .string ⟨#[98]⟩] w (BuildPost 2 1 false [pA, pC] [[lc], [la]] w) := by
 refine build_yes A c [pA, pC] ⟨#[98]⟩ 5 1 [la, lc] false [pA, pC] [[lc], [la]] w hC hc risesA (by decide) lvA (by decide) ?_ (by decide +kernel) (fun h => nomatch h) (fun _ => ⟨rfl, rfl, ?_⟩)
 · intro i hi
   match i, hi with
   | 0, hi => decide +kernel
   | 1, hi => decide +kernel
   | i + 2, hi => exact absurd (show i + 2 < 2 from hi) (by omega)
 · intro j p hp
   match j, hp with
   | 0, hp => obtain rfl := Option.some.inj hp; exact path0
   | 1, hp => obtain rfl := Option.some.inj hp; exact path1
   | j + 2, hp => simp at hp
theorem build_c (A : Option Addr) (c : Nat) (w : World) (hC : Kd.C k86 w A 2 [pA, pC]) (hc : 2 ≤ c) :
  Calls Try.prog 53 #[.slice A 2 c, .string ⟨#[99]⟩] w (BuildPost 2 1 true [] [[la]] w) := by
 refine build_yes A c [pA, pC] ⟨#[99]⟩ 5 1 [la, lc] true [] [[la]] w hC hc risesA (by decide) lvA (by decide) ?_ (by decide +kernel) (fun _ => ⟨rfl, [la], rfl, path1⟩) (fun h => nomatch h)
 intro i hi
 match i, hi with
 | 0, hi => decide +kernel
 | 1, hi => decide +kernel
 | i + 2, hi => exact absurd (show i + 2 < 2 from hi) (by omega)
theorem build_n (w : World) :
  Calls Try.prog 53 #[.slice none 0 0, .string ⟨#[98]⟩] w (BuildPost 0 0 false [] [] w) := by
 refine build_yes none 0 [] ⟨#[98]⟩ 5 0 [] false [] [] w (Kd.C_nil _ _) (Nat.le_refl _) risesN (by decide) ⟨rfl, fun i x hx => by simp at hx⟩ (by decide) (fun i hi => absurd hi (by simp)) (by decide +kernel) (fun h => nomatch h) (fun _ => ⟨rfl, rfl, fun j p hp => by simp at hp⟩)
end Go.Proofs.Ytipgldfbjlhpoab.Proof12
