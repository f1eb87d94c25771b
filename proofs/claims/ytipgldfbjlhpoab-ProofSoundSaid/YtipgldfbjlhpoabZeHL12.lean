/- What the functions of layer 12 answer at the example at the head of its statements. -/
import Derived.Test.YtipgldfbjlhpoabZeHPPut
import Derived.Test.YtipgldfbjlhpoabZeHBuildF
import Derived.Test.YtipgldfbjlhpoabZeHMerkle
import Derived.Test.YtipgldfbjlhpoabZePureMerkle
import Derived.Test.YtipgldfbjlhpoabZePProofR
import Derived.Test.YtipgldfbjlhpoabZePR12S
import Derived.Deep.DrawnRows
import Derived.Deep.RegionHeld3
namespace Go.Proofs.Ytipgldfbjlhpoab.Proof12
set_option linter.unusedVariables false
set_option linter.unusedSimpArgs false
open Go.RowKit Go.Proofs.Ytipgldfbjlhpoab.P Go.Proofs.YtipgldfbjlhpoabW.PrintWords Go.Proofs.YtipgldfbjlhpoabW.PrintLast Go.Proofs.YtipgldfbjlhpoabW.PrintMore
set_option maxRecDepth 100000
def pA : S86 := ⟨⟨#[97]⟩, ⟨#[49]⟩⟩
def pC : S86 := ⟨⟨#[99]⟩, ⟨#[50]⟩⟩
def la : ByteArray := ⟨#[206, 120, 46, 224, 226, 135, 219, 167, 159, 231, 12, 189, 104, 247, 15, 47, 210, 80, 107, 87, 68, 63, 191, 179, 17, 67, 60, 86, 247, 29, 181, 105]⟩
def lc : ByteArray := ⟨#[136, 143, 248, 234, 120, 149, 140, 233, 49, 136, 233, 33, 147, 251, 199, 82, 216, 76, 35, 46, 99, 203, 59, 105, 28, 7, 29, 218, 85, 149, 177, 87]⟩
def rt : ByteArray := ⟨#[48, 248, 68, 24, 249, 180, 234, 235, 110, 33, 189, 6, 156, 43, 232, 252, 4, 182, 171, 30, 208, 19, 47, 155, 0, 215, 207, 227, 119, 23, 223, 166]⟩
def rn : ByteArray := ⟨#[153, 190, 94, 251, 136, 202, 32, 19, 189, 142, 78, 176, 53, 253, 66, 213, 36, 84, 104, 254, 154, 250, 112, 216, 186, 156, 28, 65, 154, 72, 196, 232]⟩
def s12 : ByteArray := ⟨#[1, 2, 1, 1, 0, 1, 2, 1, 1, 97, 1, 1, 49, 1, 1, 99, 1, 1, 50, 1, 2, 1, 1, 1, 32, 136, 143, 248, 234, 120, 149, 140, 233, 49, 136, 233, 33, 147, 251, 199, 82, 216, 76, 35, 46, 99, 203, 59, 105, 28, 7, 29, 218, 85, 149, 177, 87, 1, 1, 1, 32, 206, 120, 46, 224, 226, 135, 219, 167, 159, 231, 12, 189, 104, 247, 15, 47, 210, 80, 107, 87, 68, 63, 191, 179, 17, 67, 60, 86, 247, 29, 181, 105]⟩
def s12x : ByteArray := ⟨#[1, 2, 1, 1, 0, 1, 2, 1, 1, 97, 1, 1, 49, 1, 1, 99, 1, 1, 50, 1, 2, 1, 1, 1, 32, 136, 143, 248, 234, 120, 149, 140, 233, 49, 136, 233, 33, 147, 251, 199, 82, 216, 76, 35, 46, 99, 203, 59, 105, 28, 7, 29, 218, 85, 149, 177, 87, 1, 1, 1, 32, 206, 120, 46, 224, 226, 135, 219, 167, 159, 231, 12, 189, 104, 247, 15, 47, 210, 80, 107, 87, 68, 63, 191, 179, 17, 67, 60, 86, 247, 29, 181, 105, 120]⟩
theorem leafA : merkle_Leaf.f pA.f0 pA.f1 = some la := by decide +kernel
theorem leafC : merkle_Leaf.f pC.f0 pC.f1 = some lc := by decide +kernel
theorem rootA : merkle_Root.f [pA, pC] = some rt := by decide +kernel
theorem rootN : merkle_Root.f [] = some rn := by decide +kernel
theorem risesA : proof_rises.f 5 [pA, pC] = some true := by decide +kernel
theorem risesN : proof_rises.f 5 [] = some true := by decide +kernel
theorem lvA : LeavesOk [pA, pC] [la, lc] := by
 refine ⟨rfl, fun i x hx => ?_⟩
 match i, hx with
 | 0, hx => obtain rfl := Option.some.inj hx; exact ⟨la, rfl, leafA⟩
 | 1, hx => obtain rfl := Option.some.inj hx; exact ⟨lc, rfl, leafC⟩
 | i + 2, hx => simp at hx
theorem path0 : proof_path.f 5 [la, lc] 0 = some [lc] := by decide +kernel
theorem path1 : proof_path.f 5 [la, lc] 1 = some [la] := by decide +kernel
theorem putA : proof_Put.f 5 2 1 false [pA, pC] [[lc], [la]] = some (s12, 0) := by decide +kernel
theorem readA : proof_Read.f 40 s12 = some (2, 1, false, [pA, pC], [[lc], [la]], 0) := by kernel_rfl
theorem readB : proof_Read.f 40 s12x = some (0, 0, false, [], [], 6) := by kernel_rfl
theorem s12x_eq : s12 ++ ⟨#[120]⟩ = s12x := by decide +kernel
theorem lacksA : proof_Lacks.f 40 rt ⟨#[98]⟩ 2 1 false [pA, pC] [[lc], [la]] = some true := by kernel_rfl
theorem lacksB : proof_Lacks.f 40 rt ⟨#[97]⟩ 2 1 false [pA, pC] [[lc], [la]] = some false := by kernel_rfl
theorem hasA : proof_Has.f 40 rt ⟨#[99]⟩ ⟨#[50]⟩ 2 1 true [] [[la]] = some true := by kernel_rfl
theorem hasB : proof_Has.f 40 rt ⟨#[97]⟩ ⟨#[49]⟩ 2 1 true [] [[la]] = some false := by kernel_rfl
theorem lacksN : proof_Lacks.f 40 rn ⟨#[98]⟩ 0 0 false [] [] = some true := by kernel_rfl
theorem sameA : footbridgeref12_Same.f 40 2 1 false [pA, pC] [[lc], [la]] 2 1 false [pA, pC] [[lc], [la]] = some true := by kernel_rfl
theorem build_b (A : Option Addr) (c : Nat) (w : World) (hC : Kd.C k86 w A 2 [pA, pC]) (hc : 2 ≤ c) :
  Calls Try.prog 53 #[.slice A 2 c, .string ⟨#[98]⟩] w (BuildPost 2 1 false [pA, pC] [[lc], [la]] w) := by
 refine build_yes A c [pA, pC] ⟨#[98]⟩ 5 1 [la, lc] false [pA, pC] [[lc], [la]] w hC hc risesA (by decide) lvA (by decide) ?_ (by decide +kernel) (fun h => nomatch h) (fun _ => ⟨rfl, rfl, ?_⟩)
 · intro i hi
   match i, hi with
   | 0, hi => decide +kernel
   | 1, hi => decide +kernel
   | i + 2, hi => exact absurd (show i + 2 < 2 from hi) (by omega)
 · intro j p hp
   match j, hp with
   | 0, hp => obtain rfl := Option.some.inj hp; exact path0
   | 1, hp => obtain rfl := Option.some.inj hp; exact path1
   | j + 2, hp => simp at hp
theorem build_c (A : Option Addr) (c : Nat) (w : World) (hC : Kd.C k86 w A 2 [pA, pC]) (hc : 2 ≤ c) :
  Calls Try.prog 53 #[.slice A 2 c, .string ⟨#[99]⟩] w (BuildPost 2 1 true [] [[la]] w) := by
 refine build_yes A c [pA, pC] ⟨#[99]⟩ 5 1 [la, lc] true [] [[la]] w hC hc risesA (by decide) lvA (by decide) ?_ (by decide +kernel) (fun _ => ⟨rfl, [la], rfl, path1⟩) (fun h => nomatch h); intro i hi
 match i, hi with
 | 0, hi => decide +kernel
 | 1, hi => decide +kernel
 | i + 2, hi => exact absurd (show i + 2 < 2 from hi) (by omega)
theorem build_n (w : World) :
  Calls Try.prog 53 #[.slice none 0 0, .string ⟨#[98]⟩] w (BuildPost 0 0 false [] [] w) := by
 refine build_yes none 0 [] ⟨#[98]⟩ 5 0 [] false [] [] w (Kd.C_nil _ _) (Nat.le_refl _) risesN (by decide) ⟨rfl, fun i x hx => by simp at hx⟩ (by decide) (fun i hi => absurd hi (by simp)) (by decide +kernel) (fun h => nomatch h) (fun _ => ⟨rfl, rfl, fun j p hp => by simp at hp⟩)
end Go.Proofs.Ytipgldfbjlhpoab.Proof12
namespace Go.Proofs.Ytipgldfbjlhpoab.Proof12
set_option linter.unusedVariables false
set_option linter.unusedSimpArgs false
open Go.RowKit Go.Proofs.Ytipgldfbjlhpoab.P Go.Proofs.YtipgldfbjlhpoabW.PrintWords Go.Proofs.YtipgldfbjlhpoabW.PrintLast Go.Proofs.YtipgldfbjlhpoabW.PrintMore
set_option maxRecDepth 100000
theorem pairs2 {W : World} {b : Nat} {p q : S86} (h0 : W.cell? ⟨b, 0, none⟩ = some (.string p.f0)) (h1 : W.cell? ⟨b, 1, none⟩ = some (.string p.f1)) (h2 : W.cell? ⟨b, 2, none⟩ = some (.string q.f0)) (h3 : W.cell? ⟨b, 3, none⟩ = some (.string q.f1)) : Kd.C k86 W (some ⟨b, 0, none⟩) 2 [p, q] := by
 refine ⟨rfl, by decide, fun _ => ⟨_, rfl, fun j r hj => ?_⟩⟩; have hj2 : j < 2 := (List.getElem?_eq_some_iff.mp hj).1
 rcases (show j = 0 ∨ j = 1 by omega) with rfl | rfl
 · obtain rfl : p = r := Option.some.inj hj; refine ⟨_, rfl, k86_mk W p, fun i u hi => ?_⟩
   match i, hi with
   | 0, hi => obtain rfl := Option.some.inj hi; exact h0
   | 1, hi => obtain rfl := Option.some.inj hi; exact h1
   | i + 2, hi => simp at hi
 · obtain rfl : q = r := Option.some.inj hj; refine ⟨_, rfl, k86_mk W q, fun i u hi => ?_⟩
   match i, hi with
   | 0, hi => obtain rfl := Option.some.inj hi; exact h2
   | 1, hi => obtain rfl := Option.some.inj hi; exact h3
   | i + 2, hi => simp at hi
structure Prf (W : World) (A3 : Option Addr) (c3 : Nat) (near : List S86) (A4 : Option Addr) (c4 : Nat) (ps : List (List ByteArray)) : Prop where
 hN : Kd.C k86 W A3 near.length near
 cN : near.length ≤ c3
 hP : Kd.C (Kd.slice 9 Kd.string) W A4 ps.length ps
 cP : ps.length ≤ c4
theorem Prf.under {W W' : World} {A3 : Option Addr} {c3 : Nat} {near : List S86} {A4 : Option Addr} {c4 : Nat} {ps : List (List ByteArray)} (h : Prf W A3 c3 near A4 c4 ps) (hb : Below W.heap.size W W') : Prf W' A3 c3 near A4 c4 ps :=
 ⟨Kd.C_below h.hN hb, h.cN, Kd.C_below h.hP hb, h.cP⟩
structure M12 (w W : World) (A : Option Addr) : Prop where
 hA : Kd.C k86 W A 2 [pA, pC]
 hB : W.heap[w.heap.size]? = some (.cells #[.string ⟨#[97]⟩, .string ⟨#[49]⟩, .string ⟨#[99]⟩, .string ⟨#[50]⟩] 86 (0, 0))
 below : Below w.heap.size w W
theorem M12.under {w W W' : World} {A : Option Addr} (h : M12 w W A) (hb : Below W.heap.size W W') : M12 w W' A :=
 ⟨Kd.C_below h.hA hb, blk_below h.hB hb, h.below.trans (hb.mono h.below.size)⟩
structure All12 (w W : World) (b2 b3 b7 : Nat) (A3 : Option Addr) (c3 : Nat) (A4 : Option Addr) (c4 : Nat) (E3 : Option Addr) (d3 : Nat) (E4 : Option Addr) (d4 : Nat) (F3 : Option Addr) (e3 : Nat) (F4 : Option Addr) (e4 : Nat) : Prop where
 hM : M12 w W (some ⟨w.heap.size, 0, none⟩)
 hX : Prf W A3 c3 [pA, pC] A4 c4 [[lc], [la]]
 hY : Prf W E3 d3 [] E4 d4 [[la]]
 hZ : Prf W F3 e3 [pA, pC] F4 e4 [[lc], [la]]
 h2 : W.heap[b2]? = some (.cells #[.int .i64 2, .int .i64 1, .bool false, .slice A3 2 c3, .slice A4 2 c4] 82 (0, 0))
 h3 : W.heap[b3]? = some (.cells #[.int .i64 2, .int .i64 1, .bool true, .slice E3 0 d3, .slice E4 1 d4] 82 (0, 0))
 h7 : W.heap[b7]? = some (.cells #[.int .i64 2, .int .i64 1, .bool false, .slice F3 2 e3, .slice F4 2 e4] 82 (0, 0))
theorem All12.under {w W W' : World} {b2 b3 b7 : Nat} {A3 : Option Addr} {c3 : Nat} {A4 : Option Addr} {c4 : Nat} {E3 : Option Addr} {d3 : Nat} {E4 : Option Addr} {d4 : Nat} {F3 : Option Addr} {e3 : Nat} {F4 : Option Addr} {e4 : Nat} (h : All12 w W b2 b3 b7 A3 c3 A4 c4 E3 d3 E4 d4 F3 e3 F4 e4) (hb : Below W.heap.size W W') : All12 w W' b2 b3 b7 A3 c3 A4 c4 E3 d3 E4 d4 F3 e3 F4 e4 :=
 ⟨h.hM.under hb, h.hX.under hb, h.hY.under hb, h.hZ.under hb, blk_below h.h2 hb, blk_below h.h3 hb, blk_below h.h7 hb⟩
theorem Prf.drew {W : World} {A3 : Option Addr} {c3 : Nat} {near : List S86} {A4 : Option Addr} {c4 : Nat} {ps : List (List ByteArray)} (h : Prf W A3 c3 near A4 c4 ps) : Prf W.drew A3 c3 near A4 c4 ps := ⟨Kd.C_drew h.hN, h.cN, Kd.C_drew h.hP, h.cP⟩
theorem All12.drew {w W : World} {b2 b3 b7 : Nat} {A3 : Option Addr} {c3 : Nat} {A4 : Option Addr} {c4 : Nat} {E3 : Option Addr} {d3 : Nat} {E4 : Option Addr} {d4 : Nat} {F3 : Option Addr} {e3 : Nat} {F4 : Option Addr} {e4 : Nat} (h : All12 w W b2 b3 b7 A3 c3 A4 c4 E3 d3 E4 d4 F3 e3 F4 e4) : All12 w W.drew b2 b3 b7 A3 c3 A4 c4 E3 d3 E4 d4 F3 e3 F4 e4 :=
 ⟨⟨Kd.C_drew h.hM.hA, h.hM.hB, below_drew h.hM.below⟩, h.hX.drew, h.hY.drew, h.hZ.drew, h.h2, h.h3, h.h7⟩
theorem All12.cells {w W : World} {b2 b3 b7 : Nat} {A3 : Option Addr} {c3 : Nat} {A4 : Option Addr} {c4 : Nat} {E3 : Option Addr} {d3 : Nat} {E4 : Option Addr} {d4 : Nat} {F3 : Option Addr} {e3 : Nat} {F4 : Option Addr} {e4 : Nat} (h : All12 w W b2 b3 b7 A3 c3 A4 c4 E3 d3 E4 d4 F3 e3 F4 e4) :
  W.cell? ⟨b2, 0, none⟩ = some (.int .i64 2) ∧ W.cell? ⟨b2, 1, none⟩ = some (.int .i64 1) ∧ W.cell? ⟨b2, 2, none⟩ = some (.bool false) ∧ W.cell? ⟨b2, 3, none⟩ = some (.slice A3 2 c3) ∧ W.cell? ⟨b2, 4, none⟩ = some (.slice A4 2 c4) ∧ W.cell? ⟨b3, 0, none⟩ = some (.int .i64 2) ∧ W.cell? ⟨b3, 1, none⟩ = some (.int .i64 1) ∧ W.cell? ⟨b3, 2, none⟩ = some (.bool true) ∧ W.cell? ⟨b3, 3, none⟩ = some (.slice E3 0 d3) ∧ W.cell? ⟨b3, 4, none⟩ = some (.slice E4 1 d4) ∧ W.cell? ⟨b7, 0, none⟩ = some (.int .i64 2) ∧ W.cell? ⟨b7, 1, none⟩ = some (.int .i64 1) ∧ W.cell? ⟨b7, 2, none⟩ = some (.bool false) ∧ W.cell? ⟨b7, 3, none⟩ = some (.slice F3 2 e3) ∧ W.cell? ⟨b7, 4, none⟩ = some (.slice F4 2 e4) ∧ W.cell? ⟨w.heap.size, 0, none⟩ = some (.string ⟨#[97]⟩) ∧ W.cell? ⟨w.heap.size, 1, none⟩ = some (.string ⟨#[49]⟩) ∧ W.cell? ⟨w.heap.size, 2, none⟩ = some (.string ⟨#[99]⟩) ∧ W.cell? ⟨w.heap.size, 3, none⟩ = some (.string ⟨#[50]⟩) :=
 ⟨(cell_of_row _ _ _ _ _ _ h.h2).trans rfl, (cell_of_row _ _ _ _ _ _ h.h2).trans rfl, (cell_of_row _ _ _ _ _ _ h.h2).trans rfl, (cell_of_row _ _ _ _ _ _ h.h2).trans rfl, (cell_of_row _ _ _ _ _ _ h.h2).trans rfl, (cell_of_row _ _ _ _ _ _ h.h3).trans rfl, (cell_of_row _ _ _ _ _ _ h.h3).trans rfl, (cell_of_row _ _ _ _ _ _ h.h3).trans rfl, (cell_of_row _ _ _ _ _ _ h.h3).trans rfl, (cell_of_row _ _ _ _ _ _ h.h3).trans rfl, (cell_of_row _ _ _ _ _ _ h.h7).trans rfl, (cell_of_row _ _ _ _ _ _ h.h7).trans rfl, (cell_of_row _ _ _ _ _ _ h.h7).trans rfl, (cell_of_row _ _ _ _ _ _ h.h7).trans rfl, (cell_of_row _ _ _ _ _ _ h.h7).trans rfl, (cell_of_row _ _ _ _ _ _ h.hM.hB).trans rfl, (cell_of_row _ _ _ _ _ _ h.hM.hB).trans rfl, (cell_of_row _ _ _ _ _ _ h.hM.hB).trans rfl, (cell_of_row _ _ _ _ _ _ h.hM.hB).trans rfl⟩
theorem lk_b {W : World} {A3 : Option Addr} {c3 : Nat} {A4 : Option Addr} {c4 : Nat} (h : Prf W A3 c3 [pA, pC] A4 c4 [[lc], [la]]) : Calls Try.prog 59 #[.string rt, .string ⟨#[98]⟩, .agg #[.int .i64 2, .int .i64 1, .bool false, .slice A3 2 c3, .slice A4 2 c4]] W fun e w' => e = .returned (.bool true) ∧ Below W.heap.size W w' :=
 proof_Lacks.calls 40 rt ⟨#[98]⟩ 2 1 false A3 c3 [pA, pC] A4 c4 [[lc], [la]] _ W h.hN h.cN h.hP h.cP lacksA
theorem lk_a {W : World} {A3 : Option Addr} {c3 : Nat} {A4 : Option Addr} {c4 : Nat} (h : Prf W A3 c3 [pA, pC] A4 c4 [[lc], [la]]) : Calls Try.prog 59 #[.string rt, .string ⟨#[97]⟩, .agg #[.int .i64 2, .int .i64 1, .bool false, .slice A3 2 c3, .slice A4 2 c4]] W fun e w' => e = .returned (.bool false) ∧ Below W.heap.size W w' :=
 proof_Lacks.calls 40 rt ⟨#[97]⟩ 2 1 false A3 c3 [pA, pC] A4 c4 [[lc], [la]] _ W h.hN h.cN h.hP h.cP lacksB
theorem lk_n {W : World} {A3 : Option Addr} {c3 : Nat} {A4 : Option Addr} {c4 : Nat} (h : Prf W A3 c3 [] A4 c4 []) : Calls Try.prog 59 #[.string rn, .string ⟨#[98]⟩, .agg #[.int .i64 0, .int .i64 0, .bool false, .slice A3 0 c3, .slice A4 0 c4]] W fun e w' => e = .returned (.bool true) ∧ Below W.heap.size W w' :=
 proof_Lacks.calls 40 rn ⟨#[98]⟩ 0 0 false A3 c3 [] A4 c4 [] _ W h.hN h.cN h.hP h.cP lacksN
theorem hs_c {W : World} {A3 : Option Addr} {c3 : Nat} {A4 : Option Addr} {c4 : Nat} (h : Prf W A3 c3 [] A4 c4 [[la]]) : Calls Try.prog 58 #[.string rt, .agg #[.string ⟨#[99]⟩, .string ⟨#[50]⟩], .agg #[.int .i64 2, .int .i64 1, .bool true, .slice A3 0 c3, .slice A4 1 c4]] W fun e w' => e = .returned (.bool true) ∧ Below W.heap.size W w' :=
 proof_Has.calls 40 rt ⟨#[99]⟩ ⟨#[50]⟩ 2 1 true A3 c3 [] A4 c4 [[la]] _ W h.hN h.cN h.hP h.cP hasA
theorem hs_a {W : World} {A3 : Option Addr} {c3 : Nat} {A4 : Option Addr} {c4 : Nat} (h : Prf W A3 c3 [] A4 c4 [[la]]) : Calls Try.prog 58 #[.string rt, .agg #[.string ⟨#[97]⟩, .string ⟨#[49]⟩], .agg #[.int .i64 2, .int .i64 1, .bool true, .slice A3 0 c3, .slice A4 1 c4]] W fun e w' => e = .returned (.bool false) ∧ Below W.heap.size W w' :=
 proof_Has.calls 40 rt ⟨#[97]⟩ ⟨#[49]⟩ 2 1 true A3 c3 [] A4 c4 [[la]] _ W h.hN h.cN h.hP h.cP hasB
theorem sm_x {W : World} {A3 : Option Addr} {c3 : Nat} {A4 : Option Addr} {c4 : Nat} {F3 : Option Addr} {e3 : Nat} {F4 : Option Addr} {e4 : Nat} (g : Prf W F3 e3 [pA, pC] F4 e4 [[lc], [la]]) (h : Prf W A3 c3 [pA, pC] A4 c4 [[lc], [la]]) : Calls Try.prog 52 #[.agg #[.int .i64 2, .int .i64 1, .bool false, .slice F3 2 e3, .slice F4 2 e4], .agg #[.int .i64 2, .int .i64 1, .bool false, .slice A3 2 c3, .slice A4 2 c4]] W fun e w' => e = .returned (.bool true) ∧ Below W.heap.size W w' :=
 footbridgeref12_Same.calls 40 2 1 false F3 e3 [pA, pC] F4 e4 [[lc], [la]] 2 1 false A3 c3 [pA, pC] A4 c4 [[lc], [la]] _ W g.hN g.cN g.hP g.cP h.hN h.cN h.hP h.cP sameA
theorem rt_n (W : World) : Calls Try.prog 62 #[.slice none 0 0] W fun e w' => e = .returned (.string rn) ∧ Below W.heap.size W w' := merkle_Root.calls none 0 [] rn W (Kd.C_nil _ _) (Nat.le_refl _) rootN
theorem bd_n (W : World) : Calls Try.prog 53 #[.slice none 0 0, .string ⟨#[98]⟩] W fun e w' => ∃ (A3 : Option Addr) (c3 : Nat) (A4 : Option Addr) (c4 : Nat), e = .returned (.agg #[.int .i64 0, .int .i64 0, .bool false, .slice A3 0 c3, .slice A4 0 c4]) ∧ Prf w' A3 c3 [] A4 c4 [] ∧ Below W.heap.size W w' :=
 (build_n W).mono fun e w' ⟨G3, g3, G4, g4, he, hN, cN, hP, cP, hb⟩ => ⟨G3, g3, G4, g4, he, ⟨hN, cN, hP, cP⟩, hb⟩
set_option maxHeartbeats 20000000 in
theorem awake12_any (w : World) : Calls Try.prog 51 #[] w fun e w' => e = .returned (.bool true) ∧ Below w.heap.size w w' := by
 go_enter Try.func51, Try.ntmps51
 have hM : M12 w (w.alloc (.cells #[.string ⟨#[97]⟩, .string ⟨#[49]⟩, .string ⟨#[99]⟩, .string ⟨#[50]⟩] 86)) (some ⟨w.heap.size, 0, none⟩) := by
  have hA := heap_alloc_new w (.cells #[.string ⟨#[97]⟩, .string ⟨#[49]⟩, .string ⟨#[99]⟩, .string ⟨#[50]⟩] 86); refine ⟨pairs2 ?_ ?_ ?_ ?_, hA, (Below.refl _ _).alloc (Nat.le_refl _) _⟩
  · exact (cell_of_row _ _ _ _ _ _ hA).trans rfl
  · exact (cell_of_row _ _ _ _ _ _ hA).trans rfl
  · exact (cell_of_row _ _ _ _ _ _ hA).trans rfl
  · exact (cell_of_row _ _ _ _ _ _ hA).trans rfl
 have HM := Lib.hid hM; clear hM
 go_upto_region 2 with fail
 go_cut [1, 2, 3] (fun v1 v2 v3 wx => v1 = .slice (some ⟨w.heap.size, 0, none⟩) 2 2 ∧ ∃ (b2 b3 : Nat) (A3 : Option Addr) (c3 : Nat) (A4 : Option Addr) (c4 : Nat) (E3 : Option Addr) (d3 : Nat) (E4 : Option Addr) (d4 : Nat), v2 = .pointer (some ⟨b2, 0, none⟩) ∧ v3 = .pointer (some ⟨b3, 0, none⟩) ∧
  wx.heap[b2]? = some (.cells #[.int .i64 2, .int .i64 1, .bool false, .slice A3 2 c3, .slice A4 2 c4] 82 (0, 0)) ∧
  wx.heap[b3]? = some (.cells #[.int .i64 2, .int .i64 1, .bool true, .slice E3 0 d3, .slice E4 1 d4] 82 (0, 0)) ∧ Prf wx A3 c3 [pA, pC] A4 c4 [[lc], [la]] ∧ Prf wx E3 d3 [] E4 d4 [[la]] ∧ M12 w wx (some ⟨w.heap.size, 0, none⟩))
 case first =>
  have hcall := build_b _ 2 _ HM.out.hA (Nat.le_refl _)
  go_wp2_with fail
  refine hcall.mono ?_; clear hcall; rintro e w1 ⟨A3, c3, A4, c4, rfl, hN, cN, hP, cP, hb⟩; have X := Lib.hid (show Prf w1 A3 c3 [pA, pC] A4 c4 [[lc], [la]] from ⟨hN, cN, hP, cP⟩); replace HM := Lib.hid (HM.out.under hb); clear hN cN hP cP hb; have hcall := build_c _ 2 _ HM.out.hA (Nat.le_refl _)
  go_wp2_with fail
  refine hcall.mono ?_; clear hcall; rintro e w2 ⟨E3, d3, E4, d4, rfl, hN, cN, hP, cP, hb⟩; have Y := Lib.hid (show Prf w2 E3 d3 [] E4 d4 [[la]] from ⟨hN, cN, hP, cP⟩); replace HM := Lib.hid (HM.out.under hb); replace X := Lib.hid (X.out.under hb); clear hN cN hP cP hb
  go_wp2_with fail
  go_meet; have hb2 := (Below.refl w2.heap.size w2).alloc (Nat.le_refl _) (.cells #[.int .i64 2, .int .i64 1, .bool false, .slice A3 2 c3, .slice A4 2 c4] 82); have hb3 := hb2.alloc (by simp) (.cells #[.int .i64 2, .int .i64 1, .bool true, .slice E3 0 d3, .slice E4 1 d4] 82); exact ⟨rfl, _, _, A3, c3, A4, c4, E3, d3, E4, d4, rfl, rfl, heap_alloc2_old w2 _ _, heap_alloc2_new w2 _ _, X.out.under hb3, Y.out.under hb3, HM.out.under hb3⟩
 case rest =>
  clear HM; obtain ⟨rfl, b2, b3, A3, c3, A4, c4, E3, d3, E4, d4, rfl, rfl, h2, h3, hX, hY, hM⟩ := hcut; have HM := Lib.hid hM; have X := Lib.hid hX; have Y := Lib.hid hY; have H2 := Lib.hid h2; have H3 := Lib.hid h3; clear hM hX hY h2 h3; have hcall := merkle_Root.calls _ 2 [pA, pC] rt wc HM.out.hA (Nat.le_refl _) rootA
  go_wp2_with fail
  refine hcall.mono ?_; clear hcall; rintro e w1 ⟨rfl, hb⟩; replace HM := Lib.hid (HM.out.under hb); replace X := Lib.hid (X.out.under hb); replace Y := Lib.hid (Y.out.under hb); replace H2 := Lib.hid (blk_below H2.out hb); replace H3 := Lib.hid (blk_below H3.out hb); clear hb; have z0 : w1.cell? ⟨b2, 0, none⟩ = some (.int .i64 2) := (cell_of_row _ _ _ _ _ _ H2.out).trans rfl; have z1 : w1.cell? ⟨b2, 1, none⟩ = some (.int .i64 1) := (cell_of_row _ _ _ _ _ _ H2.out).trans rfl; have z2 : w1.cell? ⟨b2, 2, none⟩ = some (.bool false) := (cell_of_row _ _ _ _ _ _ H2.out).trans rfl; have z3 : w1.cell? ⟨b2, 3, none⟩ = some (.slice A3 2 c3) := (cell_of_row _ _ _ _ _ _ H2.out).trans rfl; have z4 : w1.cell? ⟨b2, 4, none⟩ = some (.slice A4 2 c4) := (cell_of_row _ _ _ _ _ _ H2.out).trans rfl; have hcall := proof_Put.calls 5 2 1 false A3 c3 [pA, pC] A4 c4 [[lc], [la]] _ _ w1 X.out.hN X.out.cN X.out.hP X.out.cP putA
  go_wp2_with fail
  refine hcall.mono ?_; clear hcall z0 z1 z2 z3 z4; rintro e w2 ⟨rfl, hb⟩; replace HM := Lib.hid (HM.out.under hb); replace X := Lib.hid (X.out.under hb); replace Y := Lib.hid (Y.out.under hb); replace H2 := Lib.hid (blk_below H2.out hb); replace H3 := Lib.hid (blk_below H3.out hb); clear hb; have hcall := proof_Read.calls 40 s12 _ _ _ _ _ _ w2 readA
  go_wp2_with fail
  refine hcall.mono ?_; clear hcall; rintro e w3 ⟨v3, v4, rfl, hR3, hR4, hb⟩; obtain ⟨F3, e3, rfl⟩ := Kd.R_slice hR3; obtain ⟨F4, e4, rfl⟩ := Kd.S_slice hR4; have Z := Lib.hid (show Prf w3 F3 e3 [pA, pC] F4 e4 [[lc], [la]] from ⟨(Kd.R_reads' hR3).2.2, (Kd.R_reads' hR3).2.1, (Kd.R_reads' (Kd.S_R hR4)).2.2, (Kd.R_reads' (Kd.S_R hR4)).2.1⟩); replace HM := Lib.hid (HM.out.under hb); replace X := Lib.hid (X.out.under hb); replace Y := Lib.hid (Y.out.under hb); replace H2 := Lib.hid (blk_below H2.out hb); replace H3 := Lib.hid (blk_below H3.out hb); clear hb hR3 hR4; have hba := (Below.refl w3.heap.size w3).alloc (Nat.le_refl _) (.cells #[.int .i64 2, .int .i64 1, .bool false, .slice F3 2 e3, .slice F4 2 e4] 82); have hcall := proof_Read.calls 40 s12x _ _ _ _ _ _ (w3.alloc (.cells #[.int .i64 2, .int .i64 1, .bool false, .slice F3 2 e3, .slice F4 2 e4] 82)) readB; rw [← s12x_eq] at hcall
  have H := Lib.hid (show All12 w (w3.alloc (.cells #[.int .i64 2, .int .i64 1, .bool false, .slice F3 2 e3, .slice F4 2 e4] 82)) b2 b3 w3.heap.size A3 c3 A4 c4 E3 d3 E4 d4 F3 e3 F4 e4 from
   ⟨HM.out.under hba, X.out.under hba, Y.out.under hba, Z.out.under hba, blk_below H2.out hba, blk_below H3.out hba, heap_alloc_new w3 _⟩)
  clear HM X Y Z H2 H3 hba
  obtain ⟨b7, hb7⟩ : ∃ b7 : Nat, b7 = w3.heap.size := ⟨_, rfl⟩
  go_wp2_with fail
  refine hcall.mono ?_; clear hcall; rintro e w4 ⟨v3, v4, rfl, hR3, hR4, hb⟩; obtain ⟨G3, g3, rfl⟩ := Kd.R_slice hR3; obtain ⟨G4, g4, rfl⟩ := Kd.S_slice hR4; replace H := Lib.hid (H.out.under hb); rw [← hb7] at H ⊢; clear hb hR3 hR4 hb7
  go_upto_region 7 with fail
  replace H := Lib.hid (H.out.under ((Below.refl w4.heap.size w4).alloc (Nat.le_refl _) (.cells #[.int .i64 0, .int .i64 0, .bool false, .slice G3 0 g3, .slice G4 0 g4] 82))).drew; obtain ⟨x0, x1, x2, x3, x4, y0, y1, y2, y3, y4, z0, z1, z2, z3, z4, p0, p1, p2, p3⟩ := H.out.cells; dsimp only [List.append]
  go_region_held3 (fun w' => w'.cell? ⟨b2, 0, none⟩ = some (.int .i64 2) ∧ w'.cell? ⟨b2, 1, none⟩ = some (.int .i64 1) ∧ w'.cell? ⟨b2, 2, none⟩ = some (.bool false) ∧ w'.cell? ⟨b2, 3, none⟩ = some (.slice A3 2 c3) ∧ w'.cell? ⟨b2, 4, none⟩ = some (.slice A4 2 c4) ∧ w'.cell? ⟨b3, 0, none⟩ = some (.int .i64 2) ∧ w'.cell? ⟨b3, 1, none⟩ = some (.int .i64 1) ∧ w'.cell? ⟨b3, 2, none⟩ = some (.bool true) ∧ w'.cell? ⟨b3, 3, none⟩ = some (.slice E3 0 d3) ∧ w'.cell? ⟨b3, 4, none⟩ = some (.slice E4 1 d4) ∧ w'.cell? ⟨b7, 0, none⟩ = some (.int .i64 2) ∧ w'.cell? ⟨b7, 1, none⟩ = some (.int .i64 1) ∧ w'.cell? ⟨b7, 2, none⟩ = some (.bool false) ∧ w'.cell? ⟨b7, 3, none⟩ = some (.slice F3 2 e3) ∧ w'.cell? ⟨b7, 4, none⟩ = some (.slice F4 2 e4) ∧ w'.cell? ⟨w.heap.size, 0, none⟩ = some (.string ⟨#[97]⟩) ∧ w'.cell? ⟨w.heap.size, 1, none⟩ = some (.string ⟨#[49]⟩) ∧ w'.cell? ⟨w.heap.size, 2, none⟩ = some (.string ⟨#[99]⟩) ∧ w'.cell? ⟨w.heap.size, 3, none⟩ = some (.string ⟨#[50]⟩))
    (first | exact ⟨x0, x1, x2, x3, x4, y0, y1, y2, y3, y4, z0, z1, z2, z3, z4, p0, p1, p2, p3⟩ | exact ⟨cell_keep1 x0 _, cell_keep1 x1 _, cell_keep1 x2 _, cell_keep1 x3 _, cell_keep1 x4 _, cell_keep1 y0 _, cell_keep1 y1 _, cell_keep1 y2 _, cell_keep1 y3 _, cell_keep1 y4 _, cell_keep1 z0 _, cell_keep1 z1 _, cell_keep1 z2 _, cell_keep1 z3 _, cell_keep1 z4 _, cell_keep1 p0 _, cell_keep1 p1 _, cell_keep1 p2 _, cell_keep1 p3 _⟩ | go_keep)
    (first
    | (go_at_call 59; (with_reducible refine (lk_b H.out.hX).mono ?_); rintro e wn ⟨rfl, hb⟩; replace H := Lib.hid (H.out.under hb); clear x0 x1 x2 x3 x4 y0 y1 y2 y3 y4 z0 z1 z2 z3 z4 p0 p1 p2 p3 hb; obtain ⟨x0, x1, x2, x3, x4, y0, y1, y2, y3, y4, z0, z1, z2, z3, z4, p0, p1, p2, p3⟩ := H.out.cells)
    | (go_at_call 59; (with_reducible refine (lk_a H.out.hX).mono ?_); rintro e wn ⟨rfl, hb⟩; replace H := Lib.hid (H.out.under hb); clear x0 x1 x2 x3 x4 y0 y1 y2 y3 y4 z0 z1 z2 z3 z4 p0 p1 p2 p3 hb; obtain ⟨x0, x1, x2, x3, x4, y0, y1, y2, y3, y4, z0, z1, z2, z3, z4, p0, p1, p2, p3⟩ := H.out.cells)
    | (go_at_call 58; (with_reducible refine (hs_c H.out.hY).mono ?_); rintro e wn ⟨rfl, hb⟩; replace H := Lib.hid (H.out.under hb); clear x0 x1 x2 x3 x4 y0 y1 y2 y3 y4 z0 z1 z2 z3 z4 p0 p1 p2 p3 hb; obtain ⟨x0, x1, x2, x3, x4, y0, y1, y2, y3, y4, z0, z1, z2, z3, z4, p0, p1, p2, p3⟩ := H.out.cells)
    | (go_at_call 58; (with_reducible refine (hs_a H.out.hY).mono ?_); rintro e wn ⟨rfl, hb⟩; replace H := Lib.hid (H.out.under hb); clear x0 x1 x2 x3 x4 y0 y1 y2 y3 y4 z0 z1 z2 z3 z4 p0 p1 p2 p3 hb; obtain ⟨x0, x1, x2, x3, x4, y0, y1, y2, y3, y4, z0, z1, z2, z3, z4, p0, p1, p2, p3⟩ := H.out.cells)
    | (go_at_call 52; (with_reducible refine (sm_x H.out.hZ H.out.hX).mono ?_); rintro e wn ⟨rfl, hb⟩; replace H := Lib.hid (H.out.under hb); clear x0 x1 x2 x3 x4 y0 y1 y2 y3 y4 z0 z1 z2 z3 z4 p0 p1 p2 p3 hb; obtain ⟨x0, x1, x2, x3, x4, y0, y1, y2, y3, y4, z0, z1, z2, z3, z4, p0, p1, p2, p3⟩ := H.out.cells)
    | (go_at_call 62; (with_reducible refine (rt_n _).mono ?_); rintro e wn ⟨rfl, hb⟩; replace H := Lib.hid (H.out.under hb); clear x0 x1 x2 x3 x4 y0 y1 y2 y3 y4 z0 z1 z2 z3 z4 p0 p1 p2 p3 hb; obtain ⟨x0, x1, x2, x3, x4, y0, y1, y2, y3, y4, z0, z1, z2, z3, z4, p0, p1, p2, p3⟩ := H.out.cells)
    | (go_at_call 53; (with_reducible refine (bd_n _).mono ?_); rintro e wn ⟨G3, g3, G4, g4, rfl, hN, hb⟩; have N := Lib.hid hN; clear hN; replace H := Lib.hid (H.out.under hb); clear x0 x1 x2 x3 x4 y0 y1 y2 y3 y4 z0 z1 z2 z3 z4 p0 p1 p2 p3 hb; obtain ⟨x0, x1, x2, x3, x4, y0, y1, y2, y3, y4, z0, z1, z2, z3, z4, p0, p1, p2, p3⟩ := H.out.cells)
    | (go_at_call 59; (with_reducible refine (lk_n N.out).mono ?_); rintro e wn ⟨rfl, hb⟩; replace H := Lib.hid (H.out.under hb); clear x0 x1 x2 x3 x4 y0 y1 y2 y3 y4 z0 z1 z2 z3 z4 p0 p1 p2 p3 hb; obtain ⟨x0, x1, x2, x3, x4, y0, y1, y2, y3, y4, z0, z1, z2, z3, z4, p0, p1, p2, p3⟩ := H.out.cells))
  all_goals go_wp2_with fail
  all_goals go_ret
  all_goals exact ⟨rfl, H.out.hM.below⟩
end Go.Proofs.Ytipgldfbjlhpoab.Proof12
namespace Go.Proofs.Ytipgldfbjlhpoab.P
open Go.RowKit
def footbridgelaw12_awake.f : Option Bool := some true
theorem footbridgelaw12_awake.calls (r : Bool) (w : World) (h : footbridgelaw12_awake.f = some r) :
  Calls Try.prog 51 #[] w fun e w' => e = .returned (.bool r) ∧ Below w.heap.size w w' := by
 obtain rfl := Option.some.inj h; exact Proof12.awake12_any w
end Go.Proofs.Ytipgldfbjlhpoab.P
