import Derived.Test.YtipgldfbjlhpoabZeP0
import Derived.Test.YtipgldfbjlhpoabZePRWireR
-- Printed by wip/myprint.py.
namespace Go.Proofs.Ytipgldfbjlhpoab.P
open Go.RowKit Go.Proofs.YtipgldfbjlhpoabW.PrintWords Go.Proofs.YtipgldfbjlhpoabW.PrintLast Go.Proofs.YtipgldfbjlhpoabW.PrintMore
attribute [local go_sem] max2_int min2_int max_two min_two max_three min_three max_four min_four   -- for this text's walks alone
attribute [local go_sem] geq_str gtr_str
set_option linter.unusedVariables false
set_option linter.unusedSimpArgs false
def footbridgeref09_at.l0 : Nat → List (S86) → ByteArray → Int → Option (Int)
 | 0, _, _, _ => none
 | k + 1, x0, x1, x5 => if x5 < (x0.length : Int) then (if 0 ≤ x5 then (if (Op.bytesLess (((rd_T86 x0 x5).f0).toList) x1.toList) = true then (footbridgeref09_at.l0 k x0 x1 (wrap64 (x5 + 1))) else (some x5)) else (none)) else (some x5)
def footbridgeref09_at.f (k : Nat) (l0 : List (S86)) (a1 : ByteArray) : Option (Int) := footbridgeref09_at.l0 k l0 a1 0
set_option maxHeartbeats 8000000 in
set_option maxRecDepth 100000 in
theorem footbridgeref09_at.calls (k : Nat) (A0 : Option Addr) (c0 : Nat) (l0 : List (S86)) (a1 : ByteArray) (r : Int) (w : World) (hr0 : Kd.C k86 w A0 l0.length l0) (hc0 : l0.length ≤ c0) (h : footbridgeref09_at.f k l0 a1 = some r) :
  Calls Try.prog 105 #[.slice A0 l0.length c0, .string a1] w fun e w' => e = .returned (.int .i64 r) ∧ Drawn0 w w' := by
 have HR0 := Aside0.mk hr0; have HC0 := Aside0.mk hc0; clear hr0 hc0; have H : (footbridgeref09_at.l0 k l0 a1 0) = some r := h; clear h; have H' := Aside0.mk H; clear H
 go_enter Try.func105, Try.ntmps105
 go_wp2
 go_loopg [5] k (fun kq v5 w' => ∃ (x5_1 : Int), v5 = .int .i64 x5_1 ∧ Aside0 (footbridgeref09_at.l0 kq l0 a1 x5_1 = some r) ∧ Aside0 (kq ≤ k) ∧ Drawn0 w w')
 case atStart => exact ⟨(0), (by first | rfl | (simp; done) | (simp [*]; done)), H', ⟨Nat.le_refl _⟩, by repeat (first | exact Drawn0.refl _ | apply Drawn0.step)⟩
 case round =>
  clear H'; (try clear c1); (try clear p2); obtain ⟨x5_1, rfl, HA, HK1, ⟨m1, rfl⟩⟩ := hrel
  cases gk with
  | zero => exact absurd HA.out (by simp [footbridgeref09_at.l0])
  | succ k1 =>
   have H := HA.out; clear HA; simp only [footbridgeref09_at.l0] at H
   by_cases c3 : x5_1 < (l0.length : Int)
   · rw [if_pos c3] at H; have c3b0 : decide (x5_1 < (l0.length : Int)) = true := decide_eq_true c3; clear c3
     by_cases c4 : 0 ≤ x5_1
     · rw [if_pos c4] at H; have c4b0 : decide (0 ≤ x5_1) = true := decide_eq_true c4; clear c4
       by_cases c5 : (Op.bytesLess (((rd_T86 l0 x5_1).f0).toList) a1.toList) = true
       · rw [if_pos c5] at H; have c5b0 : (Op.bytesLess (((rd_T86 l0 x5_1).f0).toList) a1.toList) = true := c5; clear c5; have H' := Aside0.mk H; clear H; have p386 : 0 ≤ (x5_1 : Int) := zq; have q386 : x5_1 < (l0.length : Int) := zq; obtain ⟨ad386, e386, hx386_0, hx386_1⟩ := at_T86 HR0.out x5_1 p386 q386; cases e386; replace p386 := eq_true p386; replace q386 := eq_true q386; go_wp2
         go_roundg k1
         case measure => have := HK1.out; omega
         case rel => exact ⟨(wrap64 (x5_1 + 1)), (by first | rfl | (simp; done) | (simp [*]; done)), H', ⟨by have := HK1.out; omega⟩, by repeat (first | exact Drawn0.refl _ | apply Drawn0.step)⟩
       · rw [if_neg c5] at H
         have c5b0 : (Op.bytesLess (((rd_T86 l0 x5_1).f0).toList) a1.toList) = false := by simpa using c5
         clear c5; obtain rfl := Option.some.inj H; have p386 : 0 ≤ (x5_1 : Int) := zq; have q386 : x5_1 < (l0.length : Int) := zq; obtain ⟨ad386, e386, hx386_0, hx386_1⟩ := at_T86 HR0.out x5_1 p386 q386; cases e386; replace p386 := eq_true p386; replace q386 := eq_true q386; go_wp2; go_ret; exact ⟨by first | rfl | (simp; done) | (simp [*]; done), by repeat (first | exact Drawn0.refl _ | apply Drawn0.step)⟩
     · rw [if_neg c4] at H; exact absurd H (by simp)
   · rw [if_neg c3] at H; have c3b0 : decide (x5_1 < (l0.length : Int)) = false := decide_eq_false c3; clear c3; obtain rfl := Option.some.inj H; go_wp2; go_ret; exact ⟨by first | rfl | (simp; done) | (simp [*]; done), by repeat (first | exact Drawn0.refl _ | apply Drawn0.step)⟩
def footbridgeref09_Get.f (k : Nat) (l0 : List (S86)) (a1 : ByteArray) : Option (ByteArray × Bool) := (footbridgeref09_at.f k l0 a1).bind fun t387 => (if t387 < (l0.length : Int) then (if 0 ≤ t387 then (if ((rd_T86 l0 t387).f0).toList = a1.toList then (some ((rd_T86 l0 t387).f1, true)) else (some ((⟨#[]⟩ : ByteArray), false))) else (none)) else (some ((⟨#[]⟩ : ByteArray), false)))
set_option maxHeartbeats 8000000 in
set_option maxRecDepth 100000 in
theorem footbridgeref09_Get.calls (k : Nat) (A0 : Option Addr) (c0 : Nat) (l0 : List (S86)) (a1 : ByteArray) (r1 : ByteArray) (r2 : Bool) (w : World) (hr0 : Kd.C k86 w A0 l0.length l0) (hc0 : l0.length ≤ c0) (h : footbridgeref09_Get.f k l0 a1 = some (r1, r2)) :
  Calls Try.prog 40 #[.slice A0 l0.length c0, .string a1] w fun e w' => e = .returned (.tuple #[.string r1, .bool r2]) ∧ Drawn0 w w' := by
 have HR0 := Aside0.mk hr0; have HC0 := Aside0.mk hc0; clear hr0 hc0; have H : ((footbridgeref09_at.f k l0 a1).bind fun t387 => (if t387 < (l0.length : Int) then (if 0 ≤ t387 then (if ((rd_T86 l0 t387).f0).toList = a1.toList then (some ((rd_T86 l0 t387).f1, true)) else (some ((⟨#[]⟩ : ByteArray), false))) else (none)) else (some ((⟨#[]⟩ : ByteArray), false)))) = some (r1, r2) := h; clear h; replace H := Option.bind_eq_some_iff.mp H; obtain ⟨t387, A30, H⟩ := H; replace H : (if t387 < (l0.length : Int) then (if 0 ≤ t387 then (if ((rd_T86 l0 t387).f0).toList = a1.toList then (some ((rd_T86 l0 t387).f1, true)) else (some ((⟨#[]⟩ : ByteArray), false))) else (none)) else (some ((⟨#[]⟩ : ByteArray), false))) = some (r1, r2) := H; have A3 := Aside0.mk A30; clear A30
 by_cases c4 : t387 < (l0.length : Int)
 · rw [if_pos c4] at H; have c4b0 : decide (t387 < (l0.length : Int)) = true := decide_eq_true c4; clear c4
   by_cases c5 : 0 ≤ t387
   · rw [if_pos c5] at H; have c5b0 : decide (0 ≤ t387) = true := decide_eq_true c5; clear c5
     by_cases c6 : ((rd_T86 l0 t387).f0).toList = a1.toList
     · rw [if_pos c6] at H; have c6b0 : (((rd_T86 l0 t387).f0).toList == a1.toList) = true := beq_iff_eq.mpr c6; have c6b1 : (((rd_T86 l0 t387).f0).toList != a1.toList) = false := bne_eq_false_iff_eq.mpr c6; clear c6; simp only [Option.some.injEq, Prod.mk.injEq] at H; obtain ⟨rfl, rfl⟩ := H
       go_enter Try.func40, Try.ntmps40
       go_wp2_with (first | ((with_reducible refine gate_callee (f := 105) rfl ?_); refine goesL_ (some 9) rfl rfl Try.func105 (by kernel_rfl) rfl #[.slice A0 l0.length c0, .string a1] rfl (by (try simp only [List.map_toArray, List.map_cons, List.map_nil]); first | done | rfl | (simp only [List.length_drop, List.length_take]; rfl)) ?_; (with_reducible refine (footbridgeref09_at.calls k _ _ l0 a1 t387 _ ?side1 ?side2 A3.out).mono ?_); (case side1 => repeat (first | exact HR0.out | (with_reducible refine Kd.C_alloc ?_ _) | (with_reducible refine Kd.C_drewN ?_ _) | (with_reducible refine Kd.C_drew ?_))); (case side2 => exact HC0.out); rintro e w' ⟨rfl, ⟨nd, rfl⟩⟩; refine ⟨_, rfl, ?_⟩; have p388 : 0 ≤ (t387 : Int) := zq; have q388 : t387 < (l0.length : Int) := zq; obtain ⟨ad388, e388, hx388_0, hx388_1⟩ := at_T86 HR0.out t387 p388 q388; cases e388; replace p388 := eq_true p388; replace q388 := eq_true q388; have p389 : 0 ≤ (t387 : Int) := zq; have q389 : t387 < (l0.length : Int) := zq; obtain ⟨ad389, e389, hx389_0, hx389_1⟩ := at_T86 HR0.out t387 p389 q389; obtain rfl : ad388 = ad389 := (by injection e389); replace p389 := eq_true p389; replace q389 := eq_true q389))
       go_ret2
       exact ⟨by first | rfl | (simp; done) | (simp [*]; done), by repeat (first | exact Drawn0.refl _ | apply Drawn0.step)⟩
     · rw [if_neg c6] at H; have c6b0 : (((rd_T86 l0 t387).f0).toList == a1.toList) = false := beq_eq_false_iff_ne.mpr c6; have c6b1 : (((rd_T86 l0 t387).f0).toList != a1.toList) = true := bne_iff_ne.mpr c6; simp only [Option.some.injEq, Prod.mk.injEq] at H; obtain ⟨rfl, rfl⟩ := H
       go_enter Try.func40, Try.ntmps40
       go_wp2_with (first | ((with_reducible refine gate_callee (f := 105) rfl ?_); refine goesL_ (some 9) rfl rfl Try.func105 (by kernel_rfl) rfl #[.slice A0 l0.length c0, .string a1] rfl (by (try simp only [List.map_toArray, List.map_cons, List.map_nil]); first | done | rfl | (simp only [List.length_drop, List.length_take]; rfl)) ?_; (with_reducible refine (footbridgeref09_at.calls k _ _ l0 a1 t387 _ ?side1 ?side2 A3.out).mono ?_); (case side1 => repeat (first | exact HR0.out | (with_reducible refine Kd.C_alloc ?_ _) | (with_reducible refine Kd.C_drewN ?_ _) | (with_reducible refine Kd.C_drew ?_))); (case side2 => exact HC0.out); rintro e w' ⟨rfl, ⟨nd, rfl⟩⟩; refine ⟨_, rfl, ?_⟩; have p388 : 0 ≤ (t387 : Int) := zq; have q388 : t387 < (l0.length : Int) := zq; obtain ⟨ad388, e388, hx388_0, hx388_1⟩ := at_T86 HR0.out t387 p388 q388; cases e388; replace p388 := eq_true p388; replace q388 := eq_true q388))
       go_ret2
       exact ⟨by first | rfl | (simp; done) | (simp [*]; done), by repeat (first | exact Drawn0.refl _ | apply Drawn0.step)⟩
   · rw [if_neg c5] at H; exact absurd H (by simp)
 · rw [if_neg c4] at H; have c4b0 : decide (t387 < (l0.length : Int)) = false := decide_eq_false c4; clear c4; simp only [Option.some.injEq, Prod.mk.injEq] at H; obtain ⟨rfl, rfl⟩ := H
   go_enter Try.func40, Try.ntmps40
   go_wp2_with (first | ((with_reducible refine gate_callee (f := 105) rfl ?_); refine goesL_ (some 9) rfl rfl Try.func105 (by kernel_rfl) rfl #[.slice A0 l0.length c0, .string a1] rfl (by (try simp only [List.map_toArray, List.map_cons, List.map_nil]); first | done | rfl | (simp only [List.length_drop, List.length_take]; rfl)) ?_; (with_reducible refine (footbridgeref09_at.calls k _ _ l0 a1 t387 _ ?side1 ?side2 A3.out).mono ?_); (case side1 => repeat (first | exact HR0.out | (with_reducible refine Kd.C_alloc ?_ _) | (with_reducible refine Kd.C_drewN ?_ _) | (with_reducible refine Kd.C_drew ?_))); (case side2 => exact HC0.out); rintro e w' ⟨rfl, ⟨nd, rfl⟩⟩; refine ⟨_, rfl, ?_⟩))
   go_ret2
   exact ⟨by first | rfl | (simp; done) | (simp [*]; done), by repeat (first | exact Drawn0.refl _ | apply Drawn0.step)⟩
end Go.Proofs.Ytipgldfbjlhpoab.P
