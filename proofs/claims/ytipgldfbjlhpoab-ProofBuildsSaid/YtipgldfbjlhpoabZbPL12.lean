-- Printed by wip/myprint.py.
import Derived.Test.YtipgldfbjlhpoabZbP0
namespace Go.Proofs.Ytipgldfbjlhpoab.P
open Go.RowKit Go.Proofs.YtipgldfbjlhpoabW.PrintWords Go.Proofs.YtipgldfbjlhpoabW.PrintLast Go.Proofs.YtipgldfbjlhpoabW.PrintMore
attribute [local go_sem] max2_int min2_int max_two min_two max_three min_three max_four min_four   -- for this text's walks alone
set_option linter.unusedVariables false
set_option linter.unusedSimpArgs false
def footbridgelaw12_few.l0 : Nat → List (S86) → Int → Option (Bool)
 | 0, _, _ => none
 | k + 1, x0, x5 => if x5 < (x0.length : Int) then (if 0 ≤ x5 then (if (((rd_T86 x0 x5).f0).size : Int) > 100 then (some false) else (if (((rd_T86 x0 x5).f1).size : Int) > 100 then (some false) else (footbridgelaw12_few.l0 k x0 (wrap64 (x5 + 1))))) else (none)) else (some true)
def footbridgelaw12_few.f (k : Nat) (l0 : List (S86)) (a1 : Int) : Option (Bool) := if (l0.length : Int) > a1 then (some false) else (footbridgelaw12_few.l0 k l0 0)
set_option maxHeartbeats 8000000 in
set_option maxRecDepth 100000 in
theorem footbridgelaw12_few.calls (k : Nat) (A0 : Option Addr) (c0 : Nat) (l0 : List (S86)) (a1 : Int) (r : Bool) (w : World) (hr0 : Kd.C k86 w A0 l0.length l0) (hc0 : l0.length ≤ c0) (h : footbridgelaw12_few.f k l0 a1 = some r) :
  Calls Try.prog 50 #[.slice A0 l0.length c0, .int .i64 a1] w fun e w' => e = .returned (.bool r) ∧ Drawn0 w w' := by
 have HR0 := Aside0.mk hr0
 have HC0 := Aside0.mk hc0
 clear hr0 hc0
 have H : (if (l0.length : Int) > a1 then (some false) else (footbridgelaw12_few.l0 k l0 0)) = some r := h
 clear h
 by_cases c3 : (l0.length : Int) > a1
 · rw [if_pos c3] at H
   have c3b0 : decide (a1 < (l0.length : Int)) = true := decide_eq_true c3
   clear c3
   obtain rfl := Option.some.inj H
   go_enter Try.func50, Try.ntmps50
   go_wp2
   go_ret
   exact ⟨by first | rfl | (simp; done) | (simp [*]; done), by repeat (first | exact Drawn0.refl _ | apply Drawn0.step)⟩
 · rw [if_neg c3] at H
   have c3b0 : decide (a1 < (l0.length : Int)) = false := decide_eq_false c3
   clear c3
   have H' := Aside0.mk H
   clear H
   go_enter Try.func50, Try.ntmps50
   go_wp2
   go_loopg [5] k (fun kq v5 w' => ∃ (x5_1 : Int), v5 = .int .i64 x5_1 ∧ Aside0 (footbridgelaw12_few.l0 kq l0 x5_1 = some r) ∧ Aside0 (kq ≤ k) ∧ Drawn0 w w')
   case atStart => exact ⟨(0), (by first | rfl | (simp; done) | (simp [*]; done)), H', ⟨Nat.le_refl _⟩, by repeat (first | exact Drawn0.refl _ | apply Drawn0.step)⟩
   case round =>
    clear H'
    try clear p2
    try clear c3
    try clear c3b0
    obtain ⟨x5_1, rfl, HA, HK1, ⟨m1, rfl⟩⟩ := hrel
    cases gk with
    | zero => exact absurd HA.out (by simp [footbridgelaw12_few.l0])
    | succ k1 =>
     have H := HA.out
     clear HA
     simp only [footbridgelaw12_few.l0] at H
     by_cases c4 : x5_1 < (l0.length : Int)
     · rw [if_pos c4] at H
       have c4b0 : decide (x5_1 < (l0.length : Int)) = true := decide_eq_true c4
       clear c4
       by_cases c5 : 0 ≤ x5_1
       · rw [if_pos c5] at H
         have c5b0 : decide (0 ≤ x5_1) = true := decide_eq_true c5
         clear c5
         by_cases c6 : (((rd_T86 l0 x5_1).f0).size : Int) > 100
         · rw [if_pos c6] at H
           have c6b0 : decide (100 < (((rd_T86 l0 x5_1).f0).size : Int)) = true := decide_eq_true c6
           have c6b1 : decide (100 < ((rd_T86 l0 x5_1).f0).size) = true := decide_eq_true (by omega)
           clear c6
           obtain rfl := Option.some.inj H
           have p899 : 0 ≤ (x5_1 : Int) := of_decide_eq_true (by first | (with_reducible assumption) | assumption)
           have q899 : x5_1 < (l0.length : Int) := of_decide_eq_true (by first | (with_reducible assumption) | assumption)
           obtain ⟨ad899, e899, hx899_0, hx899_1⟩ := at_T86 HR0.out x5_1 p899 q899
           cases e899
           replace p899 := eq_true p899
           replace q899 := eq_true q899
           go_wp2
           go_ret
           exact ⟨by first | rfl | (simp; done) | (simp [*]; done), by repeat (first | exact Drawn0.refl _ | apply Drawn0.step)⟩
         · rw [if_neg c6] at H
           have c6b0 : decide (100 < (((rd_T86 l0 x5_1).f0).size : Int)) = false := decide_eq_false c6
           have c6b1 : decide (100 < ((rd_T86 l0 x5_1).f0).size) = false := decide_eq_false (by omega)
           clear c6
           by_cases c7 : (((rd_T86 l0 x5_1).f1).size : Int) > 100
           · rw [if_pos c7] at H
             have c7b0 : decide (100 < (((rd_T86 l0 x5_1).f1).size : Int)) = true := decide_eq_true c7
             have c7b1 : decide (100 < ((rd_T86 l0 x5_1).f1).size) = true := decide_eq_true (by omega)
             clear c7
             obtain rfl := Option.some.inj H
             have p899 : 0 ≤ (x5_1 : Int) := of_decide_eq_true (by first | (with_reducible assumption) | assumption)
             have q899 : x5_1 < (l0.length : Int) := of_decide_eq_true (by first | (with_reducible assumption) | assumption)
             obtain ⟨ad899, e899, hx899_0, hx899_1⟩ := at_T86 HR0.out x5_1 p899 q899
             cases e899
             replace p899 := eq_true p899
             replace q899 := eq_true q899
             have p900 : 0 ≤ (x5_1 : Int) := of_decide_eq_true (by first | (with_reducible assumption) | assumption)
             have q900 : x5_1 < (l0.length : Int) := of_decide_eq_true (by first | (with_reducible assumption) | assumption)
             obtain ⟨ad900, e900, hx900_0, hx900_1⟩ := at_T86 HR0.out x5_1 p900 q900
             obtain rfl : ad899 = ad900 := (by injection e900)
             replace p900 := eq_true p900
             replace q900 := eq_true q900
             go_wp2
             go_ret
             exact ⟨by first | rfl | (simp; done) | (simp [*]; done), by repeat (first | exact Drawn0.refl _ | apply Drawn0.step)⟩
           · rw [if_neg c7] at H
             have c7b0 : decide (100 < (((rd_T86 l0 x5_1).f1).size : Int)) = false := decide_eq_false c7
             have c7b1 : decide (100 < ((rd_T86 l0 x5_1).f1).size) = false := decide_eq_false (by omega)
             clear c7
             have H' := Aside0.mk H
             clear H
             have p899 : 0 ≤ (x5_1 : Int) := of_decide_eq_true (by first | (with_reducible assumption) | assumption)
             have q899 : x5_1 < (l0.length : Int) := of_decide_eq_true (by first | (with_reducible assumption) | assumption)
             obtain ⟨ad899, e899, hx899_0, hx899_1⟩ := at_T86 HR0.out x5_1 p899 q899
             cases e899
             replace p899 := eq_true p899
             replace q899 := eq_true q899
             have p900 : 0 ≤ (x5_1 : Int) := of_decide_eq_true (by first | (with_reducible assumption) | assumption)
             have q900 : x5_1 < (l0.length : Int) := of_decide_eq_true (by first | (with_reducible assumption) | assumption)
             obtain ⟨ad900, e900, hx900_0, hx900_1⟩ := at_T86 HR0.out x5_1 p900 q900
             obtain rfl : ad899 = ad900 := (by injection e900)
             replace p900 := eq_true p900
             replace q900 := eq_true q900
             go_wp2
             go_roundg k1
             case measure => have := HK1.out; omega
             case rel => exact ⟨(wrap64 (x5_1 + 1)), (by first | rfl | (simp; done) | (simp [*]; done)), H', ⟨by have := HK1.out; omega⟩, by repeat (first | exact Drawn0.refl _ | apply Drawn0.step)⟩
       · rw [if_neg c5] at H
         exact absurd H (by simp)
     · rw [if_neg c4] at H
       have c4b0 : decide (x5_1 < (l0.length : Int)) = false := decide_eq_false c4
       clear c4
       obtain rfl := Option.some.inj H
       go_wp2
       go_ret
       exact ⟨by first | rfl | (simp; done) | (simp [*]; done), by repeat (first | exact Drawn0.refl _ | apply Drawn0.step)⟩
end Go.Proofs.Ytipgldfbjlhpoab.P
