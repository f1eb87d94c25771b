import Derived.Test.YtipgldfbjlhpoabZeP0
import Derived.Test.YtipgldfbjlhpoabZePRWire
import Derived.Test.YtipgldfbjlhpoabZePRWireR
-- Printed by wip/myprint.py.
namespace Go.Proofs.Ytipgldfbjlhpoab.P
open Go.RowKit Go.Proofs.YtipgldfbjlhpoabW.PrintWords Go.Proofs.YtipgldfbjlhpoabW.PrintLast Go.Proofs.YtipgldfbjlhpoabW.PrintMore
attribute [local go_sem] max2_int min2_int max_two min_two max_three min_three max_four min_four   -- for this text's walks alone
set_option linter.unusedVariables false
set_option linter.unusedSimpArgs false
def footbridgeref01_Texts.l0 : Nat → List ByteArray → List ByteArray → Int → Option (Bool)
 | 0, _, _, _ => none
 | k + 1, x0, x1, x5 => if x5 < (x0.length : Int) then (if 0 ≤ x5 then (if x5 < (x1.length : Int) then (if (rdOf ByteArray.empty x0 x5).toList = (rdOf ByteArray.empty x1 x5).toList then (footbridgeref01_Texts.l0 k x0 x1 (wrap64 (x5 + 1))) else (some false)) else (none)) else (none)) else (some true)
def footbridgeref01_Texts.f (k : Nat) (l0 : List ByteArray) (l1 : List ByteArray) : Option (Bool) := if (l0.length : Int) = (l1.length : Int) then (footbridgeref01_Texts.l0 k l0 l1 0) else (some false)
set_option maxHeartbeats 8000000 in
set_option maxRecDepth 100000 in
theorem footbridgeref01_Texts.calls (k : Nat) (A0 : Option Addr) (c0 : Nat) (l0 : List ByteArray) (A1 : Option Addr) (c1 : Nat) (l1 : List ByteArray) (r : Bool) (w : World) (hr0 : Kd.C Kd.string w A0 l0.length l0) (hc0 : l0.length ≤ c0) (hr1 : Kd.C Kd.string w A1 l1.length l1) (hc1 : l1.length ≤ c1) (h : footbridgeref01_Texts.f k l0 l1 = some r) :
  Calls Try.prog 117 #[.slice A0 l0.length c0, .slice A1 l1.length c1] w fun e w' => e = .returned (.bool r) ∧ Drawn0 w w' := by
 have HR0 := Aside0.mk hr0; have HC0 := Aside0.mk hc0; clear hr0 hc0; have HR1 := Aside0.mk hr1; have HC1 := Aside0.mk hc1; clear hr1 hc1; have H : (if (l0.length : Int) = (l1.length : Int) then (footbridgeref01_Texts.l0 k l0 l1 0) else (some false)) = some r := h; clear h
 by_cases c3 : (l0.length : Int) = (l1.length : Int)
 · rw [if_pos c3] at H; have c3b0 : ((l0.length : Int) == (l1.length : Int)) = true := beq_iff_eq.mpr c3; have c3b1 : ((l0.length : Int) != (l1.length : Int)) = false := bne_eq_false_iff_eq.mpr c3
   have c3b2 : (l0.length == l1.length) = true := by first | simpa using c3 | (simp at c3 ⊢; omega)
   clear c3; have H' := Aside0.mk H; clear H
   go_enter Try.func117, Try.ntmps117
   go_wp2
   repeat (go_quiet (fail); try go_wp2)
   go_loopg [5] k (fun kq v5 w' => ∃ (x5_1 : Int), v5 = .int .i64 x5_1 ∧ Aside0 (footbridgeref01_Texts.l0 kq l0 l1 x5_1 = some r) ∧ Aside0 (kq ≤ k) ∧ Drawn0 w w')
   case atStart => exact ⟨(0), (by first | rfl | (simp; done) | (simp [*]; done)), H', ⟨Nat.le_refl _⟩, by repeat (first | exact Drawn0.refl _ | apply Drawn0.step)⟩
   case round =>
    clear H'; (try clear c1); (try clear p2); (try clear c3); (try clear c3b0); (try clear c3b1); (try clear c3b2); obtain ⟨x5_1, rfl, HA, HK1, ⟨m1, rfl⟩⟩ := hrel
    cases gk with
    | zero => exact absurd HA.out (by simp [footbridgeref01_Texts.l0])
    | succ k1 =>
     have H := HA.out; clear HA; simp only [footbridgeref01_Texts.l0] at H
     by_cases c4 : x5_1 < (l0.length : Int)
     · rw [if_pos c4] at H; have c4b0 : decide (x5_1 < (l0.length : Int)) = true := decide_eq_true c4; clear c4
       by_cases c5 : 0 ≤ x5_1
       · rw [if_pos c5] at H; have c5b0 : decide (0 ≤ x5_1) = true := decide_eq_true c5; clear c5
         by_cases c6 : x5_1 < (l1.length : Int)
         · rw [if_pos c6] at H; have c6b0 : decide (x5_1 < (l1.length : Int)) = true := decide_eq_true c6; clear c6
           by_cases c7 : (rdOf ByteArray.empty l0 x5_1).toList = (rdOf ByteArray.empty l1 x5_1).toList
           · rw [if_pos c7] at H; have c7b0 : ((rdOf ByteArray.empty l0 x5_1).toList == (rdOf ByteArray.empty l1 x5_1).toList) = true := beq_iff_eq.mpr c7; have c7b1 : ((rdOf ByteArray.empty l0 x5_1).toList != (rdOf ByteArray.empty l1 x5_1).toList) = false := bne_eq_false_iff_eq.mpr c7; clear c7; have H' := Aside0.mk H; clear H; have p816 : 0 ≤ (x5_1 : Int) := zq; have q816 : x5_1 < (l0.length : Int) := zq; obtain ⟨ad816, e816, hx816_0⟩ := Kd.at_string HR0.out x5_1 p816 q816; cases e816; replace p816 := eq_true p816; replace q816 := eq_true q816; have p817 : 0 ≤ (x5_1 : Int) := zq; have q817 : x5_1 < (l1.length : Int) := zq; obtain ⟨ad817, e817, hx817_0⟩ := Kd.at_string HR1.out x5_1 p817 q817; cases e817; replace p817 := eq_true p817; replace q817 := eq_true q817; go_wp2
             repeat (go_quiet (fail); try go_wp2)
             go_roundg k1
             case measure => have := HK1.out; omega
             case rel => exact ⟨(wrap64 (x5_1 + 1)), (by first | rfl | (simp; done) | (simp [*]; done)), H', ⟨by have := HK1.out; omega⟩, by repeat (first | exact Drawn0.refl _ | apply Drawn0.step)⟩
           · rw [if_neg c7] at H; have c7b0 : ((rdOf ByteArray.empty l0 x5_1).toList == (rdOf ByteArray.empty l1 x5_1).toList) = false := beq_eq_false_iff_ne.mpr c7; have c7b1 : ((rdOf ByteArray.empty l0 x5_1).toList != (rdOf ByteArray.empty l1 x5_1).toList) = true := bne_iff_ne.mpr c7; obtain rfl := Option.some.inj H; have p816 : 0 ≤ (x5_1 : Int) := zq; have q816 : x5_1 < (l0.length : Int) := zq; obtain ⟨ad816, e816, hx816_0⟩ := Kd.at_string HR0.out x5_1 p816 q816; cases e816; replace p816 := eq_true p816; replace q816 := eq_true q816; have p817 : 0 ≤ (x5_1 : Int) := zq; have q817 : x5_1 < (l1.length : Int) := zq; obtain ⟨ad817, e817, hx817_0⟩ := Kd.at_string HR1.out x5_1 p817 q817; cases e817; replace p817 := eq_true p817; replace q817 := eq_true q817; go_wp2
             repeat (go_quiet (fail); try go_wp2)
             go_ret; exact ⟨by first | rfl | (simp; done) | (simp [*]; done), by repeat (first | exact Drawn0.refl _ | apply Drawn0.step)⟩
         · rw [if_neg c6] at H; exact absurd H (by simp)
       · rw [if_neg c5] at H; exact absurd H (by simp)
     · rw [if_neg c4] at H; have c4b0 : decide (x5_1 < (l0.length : Int)) = false := decide_eq_false c4; clear c4; obtain rfl := Option.some.inj H; go_wp2
       repeat (go_quiet (fail); try go_wp2)
       go_ret; exact ⟨by first | rfl | (simp; done) | (simp [*]; done), by repeat (first | exact Drawn0.refl _ | apply Drawn0.step)⟩
 · rw [if_neg c3] at H; have c3b0 : ((l0.length : Int) == (l1.length : Int)) = false := beq_eq_false_iff_ne.mpr c3; have c3b1 : ((l0.length : Int) != (l1.length : Int)) = true := bne_iff_ne.mpr c3
   have c3b2 : (l0.length == l1.length) = false := by first | simpa using c3 | (simp at c3 ⊢; omega)
   obtain rfl := Option.some.inj H
   go_enter Try.func117, Try.ntmps117
   go_wp2
   repeat (go_quiet (fail); try go_wp2)
   go_ret; exact ⟨by first | rfl | (simp; done) | (simp [*]; done), by repeat (first | exact Drawn0.refl _ | apply Drawn0.step)⟩
end Go.Proofs.Ytipgldfbjlhpoab.P
-- Printed by wip/myprint.py.
namespace Go.Proofs.Ytipgldfbjlhpoab.P
open Go.RowKit Go.Proofs.YtipgldfbjlhpoabW.PrintWords Go.Proofs.YtipgldfbjlhpoabW.PrintLast Go.Proofs.YtipgldfbjlhpoabW.PrintMore
attribute [local go_sem] max2_int min2_int max_two min_two max_three min_three max_four min_four   -- for this text's walks alone
set_option linter.unusedVariables false
set_option linter.unusedSimpArgs false
def footbridgelaw12_few.l0 : Nat → List (S86) → Int → Option (Bool)
 | 0, _, _ => none
 | k + 1, x0, x5 => if x5 < (x0.length : Int) then (if 0 ≤ x5 then (if (((rd_T86 x0 x5).f0).size : Int) > 100 then (some false) else (if (((rd_T86 x0 x5).f1).size : Int) > 100 then (some false) else (footbridgelaw12_few.l0 k x0 (wrap64 (x5 + 1))))) else (none)) else (some true)
def footbridgelaw12_few.f (k : Nat) (l0 : List (S86)) (a1 : Int) : Option (Bool) := if (l0.length : Int) > a1 then (some false) else (footbridgelaw12_few.l0 k l0 0)
set_option maxHeartbeats 8000000 in
set_option maxRecDepth 100000 in
theorem footbridgelaw12_few.calls (k : Nat) (A0 : Option Addr) (c0 : Nat) (l0 : List (S86)) (a1 : Int) (r : Bool) (w : World) (hr0 : Kd.C k86 w A0 l0.length l0) (hc0 : l0.length ≤ c0) (h : footbridgelaw12_few.f k l0 a1 = some r) :
  Calls Try.prog 50 #[.slice A0 l0.length c0, .int .i64 a1] w fun e w' => e = .returned (.bool r) ∧ Drawn0 w w' := by
 have HR0 := Aside0.mk hr0; have HC0 := Aside0.mk hc0; clear hr0 hc0; have H : (if (l0.length : Int) > a1 then (some false) else (footbridgelaw12_few.l0 k l0 0)) = some r := h; clear h
 by_cases c3 : (l0.length : Int) > a1
 · rw [if_pos c3] at H; have c3b0 : decide (a1 < (l0.length : Int)) = true := decide_eq_true c3; clear c3; obtain rfl := Option.some.inj H
   go_enter Try.func50, Try.ntmps50
   go_wp2; go_ret; exact ⟨by first | rfl | (simp; done) | (simp [*]; done), by repeat (first | exact Drawn0.refl _ | apply Drawn0.step)⟩
 · rw [if_neg c3] at H; have c3b0 : decide (a1 < (l0.length : Int)) = false := decide_eq_false c3; clear c3; have H' := Aside0.mk H; clear H
   go_enter Try.func50, Try.ntmps50
   go_wp2
   go_loopg [5] k (fun kq v5 w' => ∃ (x5_1 : Int), v5 = .int .i64 x5_1 ∧ Aside0 (footbridgelaw12_few.l0 kq l0 x5_1 = some r) ∧ Aside0 (kq ≤ k) ∧ Drawn0 w w')
   case atStart => exact ⟨(0), (by first | rfl | (simp; done) | (simp [*]; done)), H', ⟨Nat.le_refl _⟩, by repeat (first | exact Drawn0.refl _ | apply Drawn0.step)⟩
   case round =>
    clear H'; (try clear p2); (try clear c3); (try clear c3b0); obtain ⟨x5_1, rfl, HA, HK1, ⟨m1, rfl⟩⟩ := hrel
    cases gk with
    | zero => exact absurd HA.out (by simp [footbridgelaw12_few.l0])
    | succ k1 =>
     have H := HA.out; clear HA; simp only [footbridgelaw12_few.l0] at H
     by_cases c4 : x5_1 < (l0.length : Int)
     · rw [if_pos c4] at H; have c4b0 : decide (x5_1 < (l0.length : Int)) = true := decide_eq_true c4; clear c4
       by_cases c5 : 0 ≤ x5_1
       · rw [if_pos c5] at H; have c5b0 : decide (0 ≤ x5_1) = true := decide_eq_true c5; clear c5
         by_cases c6 : (((rd_T86 l0 x5_1).f0).size : Int) > 100
         · rw [if_pos c6] at H; have c6b0 : decide (100 < (((rd_T86 l0 x5_1).f0).size : Int)) = true := decide_eq_true c6; have c6b1 : decide (100 < ((rd_T86 l0 x5_1).f0).size) = true := decide_eq_true (by omega); clear c6; obtain rfl := Option.some.inj H; have p899 : 0 ≤ (x5_1 : Int) := zq; have q899 : x5_1 < (l0.length : Int) := zq; obtain ⟨ad899, e899, hx899_0, hx899_1⟩ := at_T86 HR0.out x5_1 p899 q899; cases e899; replace p899 := eq_true p899; replace q899 := eq_true q899; go_wp2; go_ret; exact ⟨by first | rfl | (simp; done) | (simp [*]; done), by repeat (first | exact Drawn0.refl _ | apply Drawn0.step)⟩
         · rw [if_neg c6] at H; have c6b0 : decide (100 < (((rd_T86 l0 x5_1).f0).size : Int)) = false := decide_eq_false c6; have c6b1 : decide (100 < ((rd_T86 l0 x5_1).f0).size) = false := decide_eq_false (by omega); clear c6
           by_cases c7 : (((rd_T86 l0 x5_1).f1).size : Int) > 100
           · rw [if_pos c7] at H; have c7b0 : decide (100 < (((rd_T86 l0 x5_1).f1).size : Int)) = true := decide_eq_true c7; have c7b1 : decide (100 < ((rd_T86 l0 x5_1).f1).size) = true := decide_eq_true (by omega); clear c7; obtain rfl := Option.some.inj H; have p899 : 0 ≤ (x5_1 : Int) := zq; have q899 : x5_1 < (l0.length : Int) := zq; obtain ⟨ad899, e899, hx899_0, hx899_1⟩ := at_T86 HR0.out x5_1 p899 q899; cases e899; replace p899 := eq_true p899; replace q899 := eq_true q899; have p900 : 0 ≤ (x5_1 : Int) := zq; have q900 : x5_1 < (l0.length : Int) := zq; obtain ⟨ad900, e900, hx900_0, hx900_1⟩ := at_T86 HR0.out x5_1 p900 q900; obtain rfl : ad899 = ad900 := (by injection e900); replace p900 := eq_true p900; replace q900 := eq_true q900; go_wp2; go_ret; exact ⟨by first | rfl | (simp; done) | (simp [*]; done), by repeat (first | exact Drawn0.refl _ | apply Drawn0.step)⟩
           · rw [if_neg c7] at H; have c7b0 : decide (100 < (((rd_T86 l0 x5_1).f1).size : Int)) = false := decide_eq_false c7; have c7b1 : decide (100 < ((rd_T86 l0 x5_1).f1).size) = false := decide_eq_false (by omega); clear c7; have H' := Aside0.mk H; clear H; have p899 : 0 ≤ (x5_1 : Int) := zq; have q899 : x5_1 < (l0.length : Int) := zq; obtain ⟨ad899, e899, hx899_0, hx899_1⟩ := at_T86 HR0.out x5_1 p899 q899; cases e899; replace p899 := eq_true p899; replace q899 := eq_true q899; have p900 : 0 ≤ (x5_1 : Int) := zq; have q900 : x5_1 < (l0.length : Int) := zq; obtain ⟨ad900, e900, hx900_0, hx900_1⟩ := at_T86 HR0.out x5_1 p900 q900; obtain rfl : ad899 = ad900 := (by injection e900); replace p900 := eq_true p900; replace q900 := eq_true q900; go_wp2
             go_roundg k1
             case measure => have := HK1.out; omega
             case rel => exact ⟨(wrap64 (x5_1 + 1)), (by first | rfl | (simp; done) | (simp [*]; done)), H', ⟨by have := HK1.out; omega⟩, by repeat (first | exact Drawn0.refl _ | apply Drawn0.step)⟩
       · rw [if_neg c5] at H; exact absurd H (by simp)
     · rw [if_neg c4] at H; have c4b0 : decide (x5_1 < (l0.length : Int)) = false := decide_eq_false c4; clear c4; obtain rfl := Option.some.inj H; go_wp2; go_ret; exact ⟨by first | rfl | (simp; done) | (simp [*]; done), by repeat (first | exact Drawn0.refl _ | apply Drawn0.step)⟩
mutual
def footbridgelaw12_small.j0 : Nat → Bool → Int → Int → Bool → List (S86) → List (List ByteArray) → Option (Bool)
 | 0, _, _, _, _, _, _ => none
 | k + 1, x15, x1132000, x1132001, x1132002, x1132003, x1132004 => if x15 = true then (some false) else (footbridgelaw12_small.l0 k 0 x1132000 x1132001 x1132002 x1132003 x1132004)
def footbridgelaw12_small.l0 : Nat → Int → Int → Int → Bool → List (S86) → List (List ByteArray) → Option (Bool)
 | 0, _, _, _, _, _, _ => none
 | k + 1, x3, x1132000, x1132001, x1132002, x1132003, x1132004 => if x3 < (x1132003.length : Int) then (if 0 ≤ x3 then (if (((rd_T86 x1132003 x3).f0).size : Int) > 200 then (some false) else (if (((rd_T86 x1132003 x3).f1).size : Int) > 200 then (some false) else (footbridgelaw12_small.l0 k (wrap64 (x3 + 1)) x1132000 x1132001 x1132002 x1132003 x1132004))) else (none)) else (footbridgelaw12_small.l1 k 0 x1132000 x1132001 x1132002 x1132003 x1132004)
def footbridgelaw12_small.l1 : Nat → Int → Int → Int → Bool → List (S86) → List (List ByteArray) → Option (Bool)
 | 0, _, _, _, _, _, _ => none
 | k + 1, x4, x1132000, x1132001, x1132002, x1132003, x1132004 => if x4 < (x1132004.length : Int) then (if 0 ≤ x4 then (if ((rd_L10 x1132004 x4).length : Int) > 60 then (some false) else (footbridgelaw12_small.l2 k x4 0 x1132000 x1132001 x1132002 x1132003 x1132004)) else (none)) else (some true)
def footbridgelaw12_small.l2 : Nat → Int → Int → Int → Int → Bool → List (S86) → List (List ByteArray) → Option (Bool)
 | 0, _, _, _, _, _, _, _ => none
 | k + 1, x4, x5, x1132000, x1132001, x1132002, x1132003, x1132004 => if 0 ≤ x4 then (if x4 < (x1132004.length : Int) then (if x5 < ((rd_L10 x1132004 x4).length : Int) then (if 0 ≤ x5 then (if ((rdOf ByteArray.empty (rd_L10 x1132004 x4) x5).size : Int) > 100 then (some false) else (footbridgelaw12_small.l2 k x4 (wrap64 (x5 + 1)) x1132000 x1132001 x1132002 x1132003 x1132004)) else (none)) else (footbridgelaw12_small.l1 k (wrap64 (x4 + 1)) x1132000 x1132001 x1132002 x1132003 x1132004)) else (none)) else (none)
end
def footbridgelaw12_small.f (k : Nat) (a0_0 : Int) (a0_1 : Int) (a0_2 : Bool) (l0_3 : List (S86)) (l0_4 : List (List ByteArray)) : Option (Bool) := if (l0_3.length : Int) > 4 then (footbridgelaw12_small.j0 k true a0_0 a0_1 a0_2 l0_3 l0_4) else (footbridgelaw12_small.j0 k (decide ((l0_4.length : Int) > 4)) a0_0 a0_1 a0_2 l0_3 l0_4)
set_option maxHeartbeats 8000000 in
set_option maxRecDepth 100000 in
theorem footbridgelaw12_small.calls (k : Nat) (a0_0 : Int) (a0_1 : Int) (a0_2 : Bool) (A0_3 : Option Addr) (c0_3 : Nat) (l0_3 : List (S86)) (A0_4 : Option Addr) (c0_4 : Nat) (l0_4 : List (List ByteArray)) (r : Bool) (w : World) (hr0_3 : Kd.C k86 w A0_3 l0_3.length l0_3) (hc0_3 : l0_3.length ≤ c0_3) (hr0_4 : Kd.C (Kd.slice 9 Kd.string) w A0_4 l0_4.length l0_4) (hc0_4 : l0_4.length ≤ c0_4) (h : footbridgelaw12_small.f k a0_0 a0_1 a0_2 l0_3 l0_4 = some r) :
  Calls Try.prog 55 #[.agg #[.int .i64 a0_0, .int .i64 a0_1, .bool a0_2, .slice A0_3 l0_3.length c0_3, .slice A0_4 l0_4.length c0_4]] w fun e w' => e = .returned (.bool r) ∧ Below w.heap.size w w' := by
 have hu82 := Try.underlying82; have HR0_3 := Aside0.mk hr0_3; have HC0_3 := Aside0.mk hc0_3; clear hr0_3 hc0_3; have HR0_4 := Aside0.mk hr0_4; have HC0_4 := Aside0.mk hc0_4; clear hr0_4 hc0_4; have HB := Aside0.mk (Below.refl w.heap.size w); have H : (if (l0_3.length : Int) > 4 then (footbridgelaw12_small.j0 k true a0_0 a0_1 a0_2 l0_3 l0_4) else (footbridgelaw12_small.j0 k (decide ((l0_4.length : Int) > 4)) a0_0 a0_1 a0_2 l0_3 l0_4)) = some r := h; clear h; have HC2 := Aside0.mk H; clear H
 go_enter Try.func55, Try.ntmps55
 go_upto_region 1 with (first | ((with_reducible refine gate_dst (N := 1) rfl ?_); refine box_event ?hg (N := 1) ?hd (cs := #[.int .i64 a0_0, .int .i64 a0_1, .bool a0_2, .slice A0_3 l0_3.length c0_3, .slice A0_4 l0_4.length c0_4]) (t := 82) ?hr ?_; (case hd => rfl); (case hg => rfl); (case hr => first | (go_simp; done) | (go_simp; rfl)); intro gb1131 hg w3 hbox hb; have n0_ := Aside0.mk (below_step (zh HB.out) hb); have n1_ := Aside0.mk (hbox); have n2_ := Aside0.mk ((by rw [hg]; exact (below_size (zh HB.out)) : w.heap.size ≤ gb1131)); have n3_ := Aside0.mk ((by rw [hg]; exact (below_size (zh HB.out)) : w.heap.size ≤ gb1131)); clear HB; have HB := n0_; have BK1131 := n1_; have GW1131 := n2_; have GE1131 := n3_; clear n0_ n1_ n2_ n3_; clear hb hbox hg))
 (try simp only [Act.put, zA, zB, zC])
 go_cut [15] (fun v15 wc => ∃ (kq : Nat) (x15_1 : Bool), v15 = .bool x15_1 ∧ Aside0 (footbridgelaw12_small.j0 kq x15_1 a0_0 a0_1 a0_2 l0_3 l0_4 = some r) ∧ Aside0 (kq ≤ k) ∧ Aside0 (wc.heap[gb1131]? = some (.cells #[.int .i64 a0_0, .int .i64 a0_1, .bool a0_2, (.slice A0_3 l0_3.length c0_3), (.slice A0_4 l0_4.length c0_4)] 82 (0, 0))) ∧ Aside0 (Below w.heap.size w wc))
 case first =>
  have H := HC2.out; clear HC2
  by_cases c4 : (l0_3.length : Int) > 4
  · rw [if_pos c4] at H; have c4b0 : decide (4 < (l0_3.length : Int)) = true := decide_eq_true c4; have c4b1 : decide (4 < l0_3.length) = true := decide_eq_true (by omega); clear c4; (first | rw [c4b0] | (simp only [i64_w, i32_w]; rw [c4b0]) | skip); have H' := Aside0.mk H; clear H; obtain ⟨hcz5_0, hcz5_1, hcz5_2, hcz5_3, hcz5_4⟩ := zf BK1131.out; have hfz5_0 := pkF BK1131.out 0; have hfz5_1 := pkF BK1131.out 1; have hfz5_2 := pkF BK1131.out 2; have hfz5_3 := pkF BK1131.out 3; have hfz5_4 := pkF BK1131.out 4; go_wp2; go_meet
    case rel => exact ⟨_, (true), (by first | rfl | (simp; done) | (simp [*]; done)), H', ⟨by first | omega | exact Nat.le_refl _⟩, ⟨zk BK1131.out⟩, ⟨by repeat (first | (with_reducible first | exact HB.out | apply pbA | apply pbN | apply pbD | refine pbS ?_ GE1131.out) | exact HB.out)⟩⟩
  · rw [if_neg c4] at H; have c4b0 : decide (4 < (l0_3.length : Int)) = false := decide_eq_false c4; have c4b1 : decide (4 < l0_3.length) = false := decide_eq_false (by omega); clear c4; (first | rw [c4b0] | (simp only [i64_w, i32_w]; rw [c4b0]) | skip); have H' := Aside0.mk H; clear H; obtain ⟨hcz6_0, hcz6_1, hcz6_2, hcz6_3, hcz6_4⟩ := zf BK1131.out; have hfz6_0 := pkF BK1131.out 0; have hfz6_1 := pkF BK1131.out 1; have hfz6_2 := pkF BK1131.out 2; have hfz6_3 := pkF BK1131.out 3; have hfz6_4 := pkF BK1131.out 4; go_wp2; go_meet
    case rel => exact ⟨_, (decide ((l0_4.length : Int) > 4)), (by first | rfl | (simp; done) | (simp [*]; done)), H', ⟨by first | omega | exact Nat.le_refl _⟩, ⟨zk BK1131.out⟩, ⟨by repeat (first | (with_reducible first | exact HB.out | apply pbA | apply pbN | apply pbD | refine pbS ?_ GE1131.out) | exact HB.out)⟩⟩
 case rest =>
  clear HC2; (try clear p2); (try clear c4); (try clear c4b0); (try clear c4b1); (try clear c5); (try clear hcz5_0); (try clear hcz5_1); (try clear hcz5_2); (try clear hcz5_3); (try clear hcz5_4); (try clear hcz6_0); (try clear hcz6_1); (try clear hcz6_2); (try clear hcz6_3); (try clear hcz6_4); (try clear hfz5_0); (try clear hfz5_1); (try clear hfz5_2); (try clear hfz5_3); (try clear hfz5_4); (try clear hfz6_0); (try clear hfz6_1); (try clear hfz6_2); (try clear hfz6_3); (try clear hfz6_4); obtain ⟨kq, x15_1, rfl, HA, HJ1, BK1131, HB⟩ := hcut
  cases kq with
  | zero => exact absurd HA.out (by simp [footbridgelaw12_small.j0])
  | succ kj1 =>
   have H := HA.out; clear HA; simp only [footbridgelaw12_small.j0] at H
   by_cases c7 : x15_1 = true
   · subst c7
     have H1 : (some false) = some r := by rw [if_pos rfl] at H; exact H
     clear H; have H := H1; clear H1; obtain rfl := Option.some.inj H; go_wp2; go_ret; exact ⟨by first | rfl | (simp [errW_none, errW_some] <;> rfl) | (simp [*, errW_none, errW_some] <;> rfl), by repeat (first | (with_reducible first | exact HB.out | apply pbA | apply pbN | apply pbD | refine pbS ?_ GE1131.out) | exact HB.out)⟩
   · replace c7 := Bool.eq_false_iff.mpr c7; subst c7
     have H1 : (footbridgelaw12_small.l0 kj1 0 a0_0 a0_1 a0_2 l0_3 l0_4) = some r := by rw [if_neg (show ¬ (false = true) by decide)] at H; exact H
     clear H; have H := H1; clear H1; have H' := Aside0.mk H; clear H; go_wp2
     go_loopg [3] kj1 (fun kq v3 w' => ∃ (x3_2 : Int), v3 = .int .i64 x3_2 ∧ Aside0 (footbridgelaw12_small.l0 kq x3_2 a0_0 a0_1 a0_2 l0_3 l0_4 = some r) ∧ Aside0 (kq ≤ kj1) ∧ Aside0 (w'.heap[gb1131]? = some (.cells #[.int .i64 a0_0, .int .i64 a0_1, .bool a0_2, (.slice A0_3 l0_3.length c0_3), (.slice A0_4 l0_4.length c0_4)] 82 (0, 0))) ∧ Aside0 (Below w.heap.size w w'))
     case atStart => exact ⟨(0), (by first | rfl | (simp; done) | (simp [*]; done)), H', ⟨Nat.le_refl _⟩, ⟨zk BK1131.out⟩, ⟨by repeat (first | (with_reducible first | exact HB.out | apply pbA | apply pbN | apply pbD | refine pbS ?_ GE1131.out) | exact HB.out)⟩⟩
     case round =>
      clear H'; (try clear p2); (try clear c4); (try clear c4b0); (try clear c4b1); (try clear c5); (try clear c7); (try clear hcz5_0); (try clear hcz5_1); (try clear hcz5_2); (try clear hcz5_3); (try clear hcz5_4); (try clear hcz6_0); (try clear hcz6_1); (try clear hcz6_2); (try clear hcz6_3); (try clear hcz6_4); (try clear hfz5_0); (try clear hfz5_1); (try clear hfz5_2); (try clear hfz5_3); (try clear hfz5_4); (try clear hfz6_0); (try clear hfz6_1); (try clear hfz6_2); (try clear hfz6_3); (try clear hfz6_4); (try clear p2); obtain ⟨x3_2, rfl, HA, HK2, BK1131, HB⟩ := hrel
      cases gk with
      | zero => exact absurd HA.out (by simp [footbridgelaw12_small.l0])
      | succ k2 =>
       have H := HA.out; clear HA; simp only [footbridgelaw12_small.l0] at H
       by_cases c8 : x3_2 < (l0_3.length : Int)
       · rw [if_pos c8] at H; have c8b0 : decide (x3_2 < (l0_3.length : Int)) = true := decide_eq_true c8; clear c8
         by_cases c9 : 0 ≤ x3_2
         · rw [if_pos c9] at H; have c9b0 : decide (0 ≤ x3_2) = true := decide_eq_true c9; clear c9
           by_cases c10 : (((rd_T86 l0_3 x3_2).f0).size : Int) > 200
           · rw [if_pos c10] at H; have c10b0 : decide (200 < (((rd_T86 l0_3 x3_2).f0).size : Int)) = true := decide_eq_true c10; have c10b1 : decide (200 < ((rd_T86 l0_3 x3_2).f0).size) = true := decide_eq_true (by omega); clear c10; obtain rfl := Option.some.inj H; obtain ⟨hcz11_0, hcz11_1, hcz11_2, hcz11_3, hcz11_4⟩ := zf BK1131.out; have hfz11_0 := pkF BK1131.out 0; have hfz11_1 := pkF BK1131.out 1; have hfz11_2 := pkF BK1131.out 2; have hfz11_3 := pkF BK1131.out 3; have hfz11_4 := pkF BK1131.out 4; have p1132 : 0 ≤ (x3_2 : Int) := zq; have q1132 : x3_2 < (l0_3.length : Int) := zq; obtain ⟨ad1132, e1132, hx1132_0, hx1132_1⟩ := at_T86 HR0_3.out x3_2 p1132 q1132; cases e1132; replace hx1132_0 := (HB.out.cell (World.block_lt_of_cell? w _ hx1132_0)).trans hx1132_0; replace hx1132_1 := (HB.out.cell (World.block_lt_of_cell? w _ hx1132_1)).trans hx1132_1; replace p1132 := eq_true p1132; replace q1132 := eq_true q1132; go_wp2; go_ret; exact ⟨by first | rfl | (simp [errW_none, errW_some] <;> rfl) | (simp [*, errW_none, errW_some] <;> rfl), by repeat (first | (with_reducible first | exact HB.out | apply pbA | apply pbN | apply pbD | refine pbS ?_ GE1131.out) | exact HB.out)⟩
           · rw [if_neg c10] at H; have c10b0 : decide (200 < (((rd_T86 l0_3 x3_2).f0).size : Int)) = false := decide_eq_false c10; have c10b1 : decide (200 < ((rd_T86 l0_3 x3_2).f0).size) = false := decide_eq_false (by omega); clear c10
             by_cases c12 : (((rd_T86 l0_3 x3_2).f1).size : Int) > 200
             · rw [if_pos c12] at H; have c12b0 : decide (200 < (((rd_T86 l0_3 x3_2).f1).size : Int)) = true := decide_eq_true c12; have c12b1 : decide (200 < ((rd_T86 l0_3 x3_2).f1).size) = true := decide_eq_true (by omega); clear c12; obtain rfl := Option.some.inj H; obtain ⟨hcz13_0, hcz13_1, hcz13_2, hcz13_3, hcz13_4⟩ := zf BK1131.out; have hfz13_0 := pkF BK1131.out 0; have hfz13_1 := pkF BK1131.out 1; have hfz13_2 := pkF BK1131.out 2; have hfz13_3 := pkF BK1131.out 3; have hfz13_4 := pkF BK1131.out 4; have p1132 : 0 ≤ (x3_2 : Int) := zq; have q1132 : x3_2 < (l0_3.length : Int) := zq; obtain ⟨ad1132, e1132, hx1132_0, hx1132_1⟩ := at_T86 HR0_3.out x3_2 p1132 q1132; cases e1132; replace hx1132_0 := (HB.out.cell (World.block_lt_of_cell? w _ hx1132_0)).trans hx1132_0; replace hx1132_1 := (HB.out.cell (World.block_lt_of_cell? w _ hx1132_1)).trans hx1132_1; replace p1132 := eq_true p1132; replace q1132 := eq_true q1132; have p1133 : 0 ≤ (x3_2 : Int) := zq; have q1133 : x3_2 < (l0_3.length : Int) := zq; obtain ⟨ad1133, e1133, hx1133_0, hx1133_1⟩ := at_T86 HR0_3.out x3_2 p1133 q1133; obtain rfl : ad1132 = ad1133 := (by injection e1133); replace hx1133_0 := (HB.out.cell (World.block_lt_of_cell? w _ hx1133_0)).trans hx1133_0; replace hx1133_1 := (HB.out.cell (World.block_lt_of_cell? w _ hx1133_1)).trans hx1133_1; replace p1133 := eq_true p1133; replace q1133 := eq_true q1133; go_wp2; go_ret; exact ⟨by first | rfl | (simp [errW_none, errW_some] <;> rfl) | (simp [*, errW_none, errW_some] <;> rfl), by repeat (first | (with_reducible first | exact HB.out | apply pbA | apply pbN | apply pbD | refine pbS ?_ GE1131.out) | exact HB.out)⟩
             · rw [if_neg c12] at H; have c12b0 : decide (200 < (((rd_T86 l0_3 x3_2).f1).size : Int)) = false := decide_eq_false c12; have c12b1 : decide (200 < ((rd_T86 l0_3 x3_2).f1).size) = false := decide_eq_false (by omega); clear c12; have H' := Aside0.mk H; clear H; obtain ⟨hcz14_0, hcz14_1, hcz14_2, hcz14_3, hcz14_4⟩ := zf BK1131.out; have hfz14_0 := pkF BK1131.out 0; have hfz14_1 := pkF BK1131.out 1; have hfz14_2 := pkF BK1131.out 2; have hfz14_3 := pkF BK1131.out 3; have hfz14_4 := pkF BK1131.out 4; have p1132 : 0 ≤ (x3_2 : Int) := zq; have q1132 : x3_2 < (l0_3.length : Int) := zq; obtain ⟨ad1132, e1132, hx1132_0, hx1132_1⟩ := at_T86 HR0_3.out x3_2 p1132 q1132; cases e1132; replace hx1132_0 := (HB.out.cell (World.block_lt_of_cell? w _ hx1132_0)).trans hx1132_0; replace hx1132_1 := (HB.out.cell (World.block_lt_of_cell? w _ hx1132_1)).trans hx1132_1; replace p1132 := eq_true p1132; replace q1132 := eq_true q1132; have p1133 : 0 ≤ (x3_2 : Int) := zq; have q1133 : x3_2 < (l0_3.length : Int) := zq; obtain ⟨ad1133, e1133, hx1133_0, hx1133_1⟩ := at_T86 HR0_3.out x3_2 p1133 q1133; obtain rfl : ad1132 = ad1133 := (by injection e1133); replace hx1133_0 := (HB.out.cell (World.block_lt_of_cell? w _ hx1133_0)).trans hx1133_0; replace hx1133_1 := (HB.out.cell (World.block_lt_of_cell? w _ hx1133_1)).trans hx1133_1; replace p1133 := eq_true p1133; replace q1133 := eq_true q1133; go_wp2
               go_roundg k2
               case measure => have := HJ1.out; have := HK2.out; omega
               case rel => exact ⟨(wrap64 (x3_2 + 1)), (by first | rfl | (simp; done) | (simp [*]; done)), H', ⟨by have := HJ1.out; have := HK2.out; omega⟩, ⟨zk BK1131.out⟩, ⟨by repeat (first | (with_reducible first | exact HB.out | apply pbA | apply pbN | apply pbD | refine pbS ?_ GE1131.out) | exact HB.out)⟩⟩
         · rw [if_neg c9] at H; exact absurd H (by simp)
       · rw [if_neg c8] at H; have c8b0 : decide (x3_2 < (l0_3.length : Int)) = false := decide_eq_false c8; clear c8; have H' := Aside0.mk H; clear H; obtain ⟨hcz15_0, hcz15_1, hcz15_2, hcz15_3, hcz15_4⟩ := zf BK1131.out; have hfz15_0 := pkF BK1131.out 0; have hfz15_1 := pkF BK1131.out 1; have hfz15_2 := pkF BK1131.out 2; have hfz15_3 := pkF BK1131.out 3; have hfz15_4 := pkF BK1131.out 4; go_wp2
         go_loopg [4] k2 (fun kq v4 w' => ∃ (x4_3 : Int), v4 = .int .i64 x4_3 ∧ Aside0 (footbridgelaw12_small.l1 kq x4_3 a0_0 a0_1 a0_2 l0_3 l0_4 = some r) ∧ Aside0 (kq ≤ k2) ∧ Aside0 (w'.heap[gb1131]? = some (.cells #[.int .i64 a0_0, .int .i64 a0_1, .bool a0_2, (.slice A0_3 l0_3.length c0_3), (.slice A0_4 l0_4.length c0_4)] 82 (0, 0))) ∧ Aside0 (Below w.heap.size w w'))
         case atStart => exact ⟨(0), (by first | rfl | (simp; done) | (simp [*]; done)), H', ⟨Nat.le_refl _⟩, ⟨zk BK1131.out⟩, ⟨by repeat (first | (with_reducible first | exact HB.out | apply pbA | apply pbN | apply pbD | refine pbS ?_ GE1131.out) | exact HB.out)⟩⟩
         case round =>
          clear H'; (try clear c1); (try clear p1); (try clear q1); (try clear hx1); (try clear p2); (try clear c4); (try clear c4b0); (try clear c4b1); (try clear c5); (try clear p6); (try clear c7); (try clear c8); (try clear c8b0); (try clear c9); (try clear c9b0); (try clear c10); (try clear c10b0); (try clear c10b1); (try clear p11); (try clear q11); (try clear hx11); (try clear c12); (try clear c12b0); (try clear c12b1); (try clear hcz11_0); (try clear hcz11_1); (try clear hcz11_2); (try clear hcz11_3); (try clear hcz11_4); (try clear hcz13_0); (try clear hcz13_1); (try clear hcz13_2); (try clear hcz13_3); (try clear hcz13_4); (try clear hcz14_0); (try clear hcz14_1); (try clear hcz14_2); (try clear hcz14_3); (try clear hcz14_4); (try clear hcz15_0); (try clear hcz15_1); (try clear hcz15_2); (try clear hcz15_3); (try clear hcz15_4); (try clear hcz5_0); (try clear hcz5_1); (try clear hcz5_2); (try clear hcz5_3); (try clear hcz5_4); (try clear hcz6_0); (try clear hcz6_1); (try clear hcz6_2); (try clear hcz6_3); (try clear hcz6_4); (try clear hfz11_0); (try clear hfz11_1); (try clear hfz11_2); (try clear hfz11_3); (try clear hfz11_4); (try clear hfz13_0); (try clear hfz13_1); (try clear hfz13_2); (try clear hfz13_3); (try clear hfz13_4); (try clear hfz14_0); (try clear hfz14_1); (try clear hfz14_2); (try clear hfz14_3); (try clear hfz14_4); (try clear hfz15_0); (try clear hfz15_1); (try clear hfz15_2); (try clear hfz15_3); (try clear hfz15_4); (try clear hfz5_0); (try clear hfz5_1); (try clear hfz5_2); (try clear hfz5_3); (try clear hfz5_4); (try clear hfz6_0); (try clear hfz6_1); (try clear hfz6_2); (try clear hfz6_3); (try clear hfz6_4); (try clear hx1132_0); (try clear hx1132_1); (try clear hx1133_0); (try clear hx1133_1); (try clear p1132); (try clear p1133); (try clear p2); (try clear q1132); (try clear q1133); obtain ⟨x4_3, rfl, HA, HK3, BK1131, HB⟩ := hrel
          cases gk with
          | zero => exact absurd HA.out (by simp [footbridgelaw12_small.l1])
          | succ k3 =>
           have H := HA.out; clear HA; simp only [footbridgelaw12_small.l1] at H
           by_cases c16 : x4_3 < (l0_4.length : Int)
           · rw [if_pos c16] at H; have c16b0 : decide (x4_3 < (l0_4.length : Int)) = true := decide_eq_true c16; clear c16
             by_cases c17 : 0 ≤ x4_3
             · rw [if_pos c17] at H; have c17b0 : decide (0 ≤ x4_3) = true := decide_eq_true c17; clear c17
               by_cases c18 : ((rd_L10 l0_4 x4_3).length : Int) > 60
               · rw [if_pos c18] at H; have c18b0 : decide (60 < ((rd_L10 l0_4 x4_3).length : Int)) = true := decide_eq_true c18; have c18b1 : decide (60 < (rd_L10 l0_4 x4_3).length) = true := decide_eq_true (by omega); clear c18; obtain rfl := Option.some.inj H; obtain ⟨hcz19_0, hcz19_1, hcz19_2, hcz19_3, hcz19_4⟩ := zf BK1131.out; have hfz19_0 := pkF BK1131.out 0; have hfz19_1 := pkF BK1131.out 1; have hfz19_2 := pkF BK1131.out 2; have hfz19_3 := pkF BK1131.out 3; have hfz19_4 := pkF BK1131.out 4; have p1134 : 0 ≤ (x4_3 : Int) := zq; have q1134 : x4_3 < (l0_4.length : Int) := zq; obtain ⟨ad1134, A1134_0, c1134_0, e1134, hx1134_0, hl1134_0, hi1134_0⟩ := at_L10 HR0_4.out x4_3 p1134 q1134; cases e1134; replace hx1134_0 := (HB.out.cell (World.block_lt_of_cell? w _ hx1134_0)).trans hx1134_0; have HR1134_0 := Aside0.mk hi1134_0; have HC1134_0 := Aside0.mk hl1134_0; clear hi1134_0 hl1134_0; replace p1134 := eq_true p1134; replace q1134 := eq_true q1134; go_wp2; go_ret; exact ⟨by first | rfl | (simp [errW_none, errW_some] <;> rfl) | (simp [*, errW_none, errW_some] <;> rfl), by repeat (first | (with_reducible first | exact HB.out | apply pbA | apply pbN | apply pbD | refine pbS ?_ GE1131.out) | exact HB.out)⟩
               · rw [if_neg c18] at H; have c18b0 : decide (60 < ((rd_L10 l0_4 x4_3).length : Int)) = false := decide_eq_false c18; have c18b1 : decide (60 < (rd_L10 l0_4 x4_3).length) = false := decide_eq_false (by omega); clear c18; have H' := Aside0.mk H; clear H; obtain ⟨hcz20_0, hcz20_1, hcz20_2, hcz20_3, hcz20_4⟩ := zf BK1131.out; have hfz20_0 := pkF BK1131.out 0; have hfz20_1 := pkF BK1131.out 1; have hfz20_2 := pkF BK1131.out 2; have hfz20_3 := pkF BK1131.out 3; have hfz20_4 := pkF BK1131.out 4; have p1134 : 0 ≤ (x4_3 : Int) := zq; have q1134 : x4_3 < (l0_4.length : Int) := zq; obtain ⟨ad1134, A1134_0, c1134_0, e1134, hx1134_0, hl1134_0, hi1134_0⟩ := at_L10 HR0_4.out x4_3 p1134 q1134; cases e1134; replace hx1134_0 := (HB.out.cell (World.block_lt_of_cell? w _ hx1134_0)).trans hx1134_0; have HR1134_0 := Aside0.mk hi1134_0; have HC1134_0 := Aside0.mk hl1134_0; clear hi1134_0 hl1134_0; replace p1134 := eq_true p1134; replace q1134 := eq_true q1134; go_wp2
                 go_loopg [5] k3 (fun kq v5 w' => ∃ (x5_4 : Int), v5 = .int .i64 x5_4 ∧ Aside0 (footbridgelaw12_small.l2 kq x4_3 x5_4 a0_0 a0_1 a0_2 l0_3 l0_4 = some r) ∧ Aside0 (kq ≤ k3) ∧ Aside0 (w'.heap[gb1131]? = some (.cells #[.int .i64 a0_0, .int .i64 a0_1, .bool a0_2, (.slice A0_3 l0_3.length c0_3), (.slice (some ad1134) l0_4.length c0_4)] 82 (0, 0))) ∧ Aside0 (Below w.heap.size w w'))
                 case atStart => exact ⟨(0), (by first | rfl | (simp; done) | (simp [*]; done)), H', ⟨Nat.le_refl _⟩, ⟨zk BK1131.out⟩, ⟨by repeat (first | (with_reducible first | exact HB.out | apply pbA | apply pbN | apply pbD | refine pbS ?_ GE1131.out) | exact HB.out)⟩⟩
                 case round =>
                  clear H'; (try clear c1); (try clear p1); (try clear q1); (try clear hx1); (try clear p2); (try clear c4); (try clear c4b0); (try clear c4b1); (try clear c5); (try clear p6); (try clear c7); (try clear c8); (try clear c8b0); (try clear c9); (try clear c9b0); (try clear c10); (try clear c10b0); (try clear c10b1); (try clear c11); (try clear p11); (try clear q11); (try clear hx11); (try clear c12); (try clear c12b0); (try clear c12b1); (try clear c16); (try clear c16b0); (try clear c17); (try clear c17b0); (try clear c18); (try clear c18b0); (try clear c18b1); (try clear hcz11_0); (try clear hcz11_1); (try clear hcz11_2); (try clear hcz11_3); (try clear hcz11_4); (try clear hcz13_0); (try clear hcz13_1); (try clear hcz13_2); (try clear hcz13_3); (try clear hcz13_4); (try clear hcz14_0); (try clear hcz14_1); (try clear hcz14_2); (try clear hcz14_3); (try clear hcz14_4); (try clear hcz15_0); (try clear hcz15_1); (try clear hcz15_2); (try clear hcz15_3); (try clear hcz15_4); (try clear hcz19_0); (try clear hcz19_1); (try clear hcz19_2); (try clear hcz19_3); (try clear hcz19_4); (try clear hcz20_0); (try clear hcz20_1); (try clear hcz20_2); (try clear hcz20_3); (try clear hcz20_4); (try clear hcz5_0); (try clear hcz5_1); (try clear hcz5_2); (try clear hcz5_3); (try clear hcz5_4); (try clear hcz6_0); (try clear hcz6_1); (try clear hcz6_2); (try clear hcz6_3); (try clear hcz6_4); (try clear hfz11_0); (try clear hfz11_1); (try clear hfz11_2); (try clear hfz11_3); (try clear hfz11_4); (try clear hfz13_0); (try clear hfz13_1); (try clear hfz13_2); (try clear hfz13_3); (try clear hfz13_4); (try clear hfz14_0); (try clear hfz14_1); (try clear hfz14_2); (try clear hfz14_3); (try clear hfz14_4); (try clear hfz15_0); (try clear hfz15_1); (try clear hfz15_2); (try clear hfz15_3); (try clear hfz15_4); (try clear hfz19_0); (try clear hfz19_1); (try clear hfz19_2); (try clear hfz19_3); (try clear hfz19_4); (try clear hfz20_0); (try clear hfz20_1); (try clear hfz20_2); (try clear hfz20_3); (try clear hfz20_4); (try clear hfz5_0); (try clear hfz5_1); (try clear hfz5_2); (try clear hfz5_3); (try clear hfz5_4); (try clear hfz6_0); (try clear hfz6_1); (try clear hfz6_2); (try clear hfz6_3); (try clear hfz6_4); (try clear hx1132_0); (try clear hx1132_1); (try clear hx1133_0); (try clear hx1133_1); (try clear hx1134_0); (try clear p1); (try clear p11); (try clear p1132); (try clear p1133); (try clear p1134); (try clear p2); (try clear p6); (try clear q1); (try clear q11); (try clear q1132); (try clear q1133); (try clear q1134); obtain ⟨x5_4, rfl, HA, HK4, BK1131, HB⟩ := hrel
                  cases gk with
                  | zero => exact absurd HA.out (by simp [footbridgelaw12_small.l2])
                  | succ k4 =>
                   have H := HA.out; clear HA; simp only [footbridgelaw12_small.l2] at H
                   by_cases c21 : 0 ≤ x4_3
                   · rw [if_pos c21] at H; have c21b0 : decide (0 ≤ x4_3) = true := decide_eq_true c21; clear c21
                     by_cases c22 : x4_3 < (l0_4.length : Int)
                     · rw [if_pos c22] at H; have c22b0 : decide (x4_3 < (l0_4.length : Int)) = true := decide_eq_true c22; clear c22
                       by_cases c23 : x5_4 < ((rd_L10 l0_4 x4_3).length : Int)
                       · rw [if_pos c23] at H; have c23b0 : decide (x5_4 < ((rd_L10 l0_4 x4_3).length : Int)) = true := decide_eq_true c23; clear c23
                         by_cases c24 : 0 ≤ x5_4
                         · rw [if_pos c24] at H; have c24b0 : decide (0 ≤ x5_4) = true := decide_eq_true c24; clear c24
                           by_cases c25 : ((rdOf ByteArray.empty (rd_L10 l0_4 x4_3) x5_4).size : Int) > 100
                           · rw [if_pos c25] at H; have c25b0 : decide (100 < ((rdOf ByteArray.empty (rd_L10 l0_4 x4_3) x5_4).size : Int)) = true := decide_eq_true c25; have c25b1 : decide (100 < (rdOf ByteArray.empty (rd_L10 l0_4 x4_3) x5_4).size) = true := decide_eq_true (by omega); clear c25; obtain rfl := Option.some.inj H; obtain ⟨hcz26_0, hcz26_1, hcz26_2, hcz26_3, hcz26_4⟩ := zf BK1131.out; have hfz26_0 := pkF BK1131.out 0; have hfz26_1 := pkF BK1131.out 1; have hfz26_2 := pkF BK1131.out 2; have hfz26_3 := pkF BK1131.out 3; have hfz26_4 := pkF BK1131.out 4; have p1135 : 0 ≤ (x4_3 : Int) := zq; have q1135 : x4_3 < (l0_4.length : Int) := zq; obtain ⟨ad1135, A1135_0, c1135_0, e1135, hx1135_0, hl1135_0, hi1135_0⟩ := at_L10 HR0_4.out x4_3 p1135 q1135; obtain rfl : ad1134 = ad1135 := (by injection e1135); replace hx1135_0 := (HB.out.cell (World.block_lt_of_cell? w _ hx1135_0)).trans hx1135_0; have HR1135_0 := Aside0.mk hi1135_0; have HC1135_0 := Aside0.mk hl1135_0; clear hi1135_0 hl1135_0; replace p1135 := eq_true p1135; replace q1135 := eq_true q1135; have p1136 : 0 ≤ (x4_3 : Int) := zq; have q1136 : x4_3 < (l0_4.length : Int) := zq; obtain ⟨ad1136, A1136_0, c1136_0, e1136, hx1136_0, hl1136_0, hi1136_0⟩ := at_L10 HR0_4.out x4_3 p1136 q1136; obtain rfl : ad1134 = ad1136 := (by injection e1136); replace hx1136_0 := (HB.out.cell (World.block_lt_of_cell? w _ hx1136_0)).trans hx1136_0; have HR1136_0 := Aside0.mk hi1136_0; have HC1136_0 := Aside0.mk hl1136_0; clear hi1136_0 hl1136_0; replace p1136 := eq_true p1136; replace q1136 := eq_true q1136; have ea_ := Option.some.inj (hx1135_0.symm.trans hx1136_0)
                             injection ea_ with ea_ en_ ec_
                             subst ea_; subst ec_; clear en_; have p1137 : 0 ≤ (x5_4 : Int) := zq; have q1137 : x5_4 < ((rd_L10 l0_4 x4_3).length : Int) := zq; obtain ⟨ad1137, e1137, hx1137_0⟩ := Kd.at_string HR1136_0.out x5_4 p1137 q1137; cases e1137; replace hx1137_0 := (HB.out.cell (World.block_lt_of_cell? w _ hx1137_0)).trans hx1137_0; replace p1137 := eq_true p1137; replace q1137 := eq_true q1137; go_wp2; go_ret; exact ⟨by first | rfl | (simp [errW_none, errW_some] <;> rfl) | (simp [*, errW_none, errW_some] <;> rfl), by repeat (first | (with_reducible first | exact HB.out | apply pbA | apply pbN | apply pbD | refine pbS ?_ GE1131.out) | exact HB.out)⟩
                           · rw [if_neg c25] at H; have c25b0 : decide (100 < ((rdOf ByteArray.empty (rd_L10 l0_4 x4_3) x5_4).size : Int)) = false := decide_eq_false c25; have c25b1 : decide (100 < (rdOf ByteArray.empty (rd_L10 l0_4 x4_3) x5_4).size) = false := decide_eq_false (by omega); clear c25; have H' := Aside0.mk H; clear H; obtain ⟨hcz27_0, hcz27_1, hcz27_2, hcz27_3, hcz27_4⟩ := zf BK1131.out; have hfz27_0 := pkF BK1131.out 0; have hfz27_1 := pkF BK1131.out 1; have hfz27_2 := pkF BK1131.out 2; have hfz27_3 := pkF BK1131.out 3; have hfz27_4 := pkF BK1131.out 4; have p1135 : 0 ≤ (x4_3 : Int) := zq; have q1135 : x4_3 < (l0_4.length : Int) := zq; obtain ⟨ad1135, A1135_0, c1135_0, e1135, hx1135_0, hl1135_0, hi1135_0⟩ := at_L10 HR0_4.out x4_3 p1135 q1135; obtain rfl : ad1134 = ad1135 := (by injection e1135); replace hx1135_0 := (HB.out.cell (World.block_lt_of_cell? w _ hx1135_0)).trans hx1135_0; have HR1135_0 := Aside0.mk hi1135_0; have HC1135_0 := Aside0.mk hl1135_0; clear hi1135_0 hl1135_0; replace p1135 := eq_true p1135; replace q1135 := eq_true q1135; have p1136 : 0 ≤ (x4_3 : Int) := zq; have q1136 : x4_3 < (l0_4.length : Int) := zq; obtain ⟨ad1136, A1136_0, c1136_0, e1136, hx1136_0, hl1136_0, hi1136_0⟩ := at_L10 HR0_4.out x4_3 p1136 q1136; obtain rfl : ad1134 = ad1136 := (by injection e1136); replace hx1136_0 := (HB.out.cell (World.block_lt_of_cell? w _ hx1136_0)).trans hx1136_0; have HR1136_0 := Aside0.mk hi1136_0; have HC1136_0 := Aside0.mk hl1136_0; clear hi1136_0 hl1136_0; replace p1136 := eq_true p1136; replace q1136 := eq_true q1136; have ea_ := Option.some.inj (hx1135_0.symm.trans hx1136_0)
                             injection ea_ with ea_ en_ ec_
                             subst ea_; subst ec_; clear en_; have p1137 : 0 ≤ (x5_4 : Int) := zq; have q1137 : x5_4 < ((rd_L10 l0_4 x4_3).length : Int) := zq; obtain ⟨ad1137, e1137, hx1137_0⟩ := Kd.at_string HR1136_0.out x5_4 p1137 q1137; cases e1137; replace hx1137_0 := (HB.out.cell (World.block_lt_of_cell? w _ hx1137_0)).trans hx1137_0; replace p1137 := eq_true p1137; replace q1137 := eq_true q1137; go_wp2
                             go_roundg k4
                             case measure => have := HJ1.out; have := HK2.out; have := HK3.out; have := HK4.out; omega
                             case rel => exact ⟨(wrap64 (x5_4 + 1)), (by first | rfl | (simp; done) | (simp [*]; done)), H', ⟨by have := HJ1.out; have := HK2.out; have := HK3.out; have := HK4.out; omega⟩, ⟨zk BK1131.out⟩, ⟨by repeat (first | (with_reducible first | exact HB.out | apply pbA | apply pbN | apply pbD | refine pbS ?_ GE1131.out) | exact HB.out)⟩⟩
                         · rw [if_neg c24] at H; exact absurd H (by simp)
                       · rw [if_neg c23] at H; have c23b0 : decide (x5_4 < ((rd_L10 l0_4 x4_3).length : Int)) = false := decide_eq_false c23; clear c23; have H' := Aside0.mk H; clear H; obtain ⟨hcz28_0, hcz28_1, hcz28_2, hcz28_3, hcz28_4⟩ := zf BK1131.out; have hfz28_0 := pkF BK1131.out 0; have hfz28_1 := pkF BK1131.out 1; have hfz28_2 := pkF BK1131.out 2; have hfz28_3 := pkF BK1131.out 3; have hfz28_4 := pkF BK1131.out 4; have p1135 : 0 ≤ (x4_3 : Int) := zq; have q1135 : x4_3 < (l0_4.length : Int) := zq; obtain ⟨ad1135, A1135_0, c1135_0, e1135, hx1135_0, hl1135_0, hi1135_0⟩ := at_L10 HR0_4.out x4_3 p1135 q1135; obtain rfl : ad1134 = ad1135 := (by injection e1135); replace hx1135_0 := (HB.out.cell (World.block_lt_of_cell? w _ hx1135_0)).trans hx1135_0; have HR1135_0 := Aside0.mk hi1135_0; have HC1135_0 := Aside0.mk hl1135_0; clear hi1135_0 hl1135_0; replace p1135 := eq_true p1135; replace q1135 := eq_true q1135; go_wp2
                         go_roundg k4
                         case measure => have := HJ1.out; have := HK2.out; have := HK3.out; have := HK4.out; omega
                         case rel => exact ⟨(wrap64 (x4_3 + 1)), (by first | rfl | (simp; done) | (simp [*]; done)), H', ⟨by have := HJ1.out; have := HK2.out; have := HK3.out; have := HK4.out; omega⟩, ⟨zk BK1131.out⟩, ⟨by repeat (first | (with_reducible first | exact HB.out | apply pbA | apply pbN | apply pbD | refine pbS ?_ GE1131.out) | exact HB.out)⟩⟩
                     · rw [if_neg c22] at H; exact absurd H (by simp)
                   · rw [if_neg c21] at H; exact absurd H (by simp)
             · rw [if_neg c17] at H; exact absurd H (by simp)
           · rw [if_neg c16] at H; have c16b0 : decide (x4_3 < (l0_4.length : Int)) = false := decide_eq_false c16; clear c16; obtain rfl := Option.some.inj H; obtain ⟨hcz29_0, hcz29_1, hcz29_2, hcz29_3, hcz29_4⟩ := zf BK1131.out; have hfz29_0 := pkF BK1131.out 0; have hfz29_1 := pkF BK1131.out 1; have hfz29_2 := pkF BK1131.out 2; have hfz29_3 := pkF BK1131.out 3; have hfz29_4 := pkF BK1131.out 4; go_wp2; go_ret; exact ⟨by first | rfl | (simp [errW_none, errW_some] <;> rfl) | (simp [*, errW_none, errW_some] <;> rfl), by repeat (first | (with_reducible first | exact HB.out | apply pbA | apply pbN | apply pbD | refine pbS ?_ GE1131.out) | exact HB.out)⟩
end Go.Proofs.Ytipgldfbjlhpoab.P
-- Printed by wip/myprint.py.
namespace Go.Proofs.Ytipgldfbjlhpoab.P
open Go.RowKit Go.Proofs.YtipgldfbjlhpoabW.PrintWords Go.Proofs.YtipgldfbjlhpoabW.PrintLast Go.Proofs.YtipgldfbjlhpoabW.PrintMore
attribute [local go_sem] max2_int min2_int max_two min_two max_three min_three max_four min_four   -- for this text's walks alone
set_option linter.unusedVariables false
set_option linter.unusedSimpArgs false
theorem eqA86 (d : Nat) (w : World) (x0 y0 : ByteArray) (x1 y1 : ByteArray) :
  (Op.equalIn (d + 2) 86 (.agg #[.string x0, .string x1]) (.agg #[.string y0, .string y1])).run Try.prog w = .ok (x0.toList == y0.toList && (x1.toList == y1.toList)) w := by
 refine eqA_of Try.underlying86 (by kernel_rfl) ?_; refine eqf_cons (by rfl) (by go_simp; rfl) (by go_simp; rfl) (by go_simp) ?_; exact eqf_last (by rfl) (by go_simp; rfl) (by go_simp; rfl) (by go_simp)
end Go.Proofs.Ytipgldfbjlhpoab.P
-- Printed by wip/myprint.py.
namespace Go.Proofs.Ytipgldfbjlhpoab.P
open Go.RowKit Go.Proofs.YtipgldfbjlhpoabW.PrintWords Go.Proofs.YtipgldfbjlhpoabW.PrintLast Go.Proofs.YtipgldfbjlhpoabW.PrintMore
attribute [local go_sem] max2_int min2_int max_two min_two max_three min_three max_four min_four   -- for this text's walks alone
set_option linter.unusedVariables false
set_option linter.unusedSimpArgs false
attribute [local go_sem high] eqA86
def footbridgeref09_Same.l0 : Nat → List (S86) → List (S86) → Int → Option (Bool)
 | 0, _, _, _ => none
 | k + 1, x0, x1, x5 => if x5 < (x0.length : Int) then (if 0 ≤ x5 then (if x5 < (x1.length : Int) then (if (!((((rd_T86 x0 x5).f0).toList) == (((rd_T86 x1 x5).f0).toList)) || (!((((rd_T86 x0 x5).f1).toList) == (((rd_T86 x1 x5).f1).toList)))) = true then (some false) else (footbridgeref09_Same.l0 k x0 x1 (wrap64 (x5 + 1)))) else (none)) else (none)) else (some true)
def footbridgeref09_Same.f (k : Nat) (l0 : List (S86)) (l1 : List (S86)) : Option (Bool) := if (l0.length : Int) = (l1.length : Int) then (footbridgeref09_Same.l0 k l0 l1 0) else (some false)
set_option maxHeartbeats 8000000 in
set_option maxRecDepth 100000 in
theorem footbridgeref09_Same.calls (k : Nat) (A0 : Option Addr) (c0 : Nat) (l0 : List (S86)) (A1 : Option Addr) (c1 : Nat) (l1 : List (S86)) (r : Bool) (w : World) (hr0 : Kd.C k86 w A0 l0.length l0) (hc0 : l0.length ≤ c0) (hr1 : Kd.C k86 w A1 l1.length l1) (hc1 : l1.length ≤ c1) (h : footbridgeref09_Same.f k l0 l1 = some r) :
  Calls Try.prog 34 #[.slice A0 l0.length c0, .slice A1 l1.length c1] w fun e w' => e = .returned (.bool r) ∧ Drawn0 w w' := by
 have hu86 := Try.underlying86; have HR0 := Aside0.mk hr0; have HC0 := Aside0.mk hc0; clear hr0 hc0; have HR1 := Aside0.mk hr1; have HC1 := Aside0.mk hc1; clear hr1 hc1; have H : (if (l0.length : Int) = (l1.length : Int) then (footbridgeref09_Same.l0 k l0 l1 0) else (some false)) = some r := h; clear h
 by_cases c3 : (l0.length : Int) = (l1.length : Int)
 · rw [if_pos c3] at H; have c3b0 : ((l0.length : Int) == (l1.length : Int)) = true := beq_iff_eq.mpr c3; have c3b1 : ((l0.length : Int) != (l1.length : Int)) = false := bne_eq_false_iff_eq.mpr c3
   have c3b2 : (l0.length == l1.length) = true := by first | simpa using c3 | (simp at c3 ⊢; omega)
   clear c3; have H' := Aside0.mk H; clear H
   go_enter Try.func34, Try.ntmps34
   go_wp2
   repeat (go_quiet (fail); try go_wp2)
   go_loopg [5] k (fun kq v5 w' => ∃ (x5_1 : Int), v5 = .int .i64 x5_1 ∧ Aside0 (footbridgeref09_Same.l0 kq l0 l1 x5_1 = some r) ∧ Aside0 (kq ≤ k) ∧ Drawn0 w w')
   case atStart => exact ⟨(0), (by first | rfl | (simp; done) | (simp [*]; done)), H', ⟨Nat.le_refl _⟩, by repeat (first | exact Drawn0.refl _ | apply Drawn0.step)⟩
   case round =>
    clear H'; (try clear c1); (try clear p2); (try clear c3); (try clear c3b0); (try clear c3b1); (try clear c3b2); obtain ⟨x5_1, rfl, HA, HK1, ⟨m1, rfl⟩⟩ := hrel
    cases gk with
    | zero => exact absurd HA.out (by simp [footbridgeref09_Same.l0])
    | succ k1 =>
     have H := HA.out; clear HA; simp only [footbridgeref09_Same.l0] at H
     by_cases c4 : x5_1 < (l0.length : Int)
     · rw [if_pos c4] at H; have c4b0 : decide (x5_1 < (l0.length : Int)) = true := decide_eq_true c4; clear c4
       by_cases c5 : 0 ≤ x5_1
       · rw [if_pos c5] at H; have c5b0 : decide (0 ≤ x5_1) = true := decide_eq_true c5; clear c5
         by_cases c6 : x5_1 < (l1.length : Int)
         · rw [if_pos c6] at H; have c6b0 : decide (x5_1 < (l1.length : Int)) = true := decide_eq_true c6; clear c6
           by_cases c7 : (!((((rd_T86 l0 x5_1).f0).toList) == (((rd_T86 l1 x5_1).f0).toList)) || (!((((rd_T86 l0 x5_1).f1).toList) == (((rd_T86 l1 x5_1).f1).toList)))) = true
           · rw [if_pos c7] at H; have c7b0 : (!((((rd_T86 l0 x5_1).f0).toList) == (((rd_T86 l1 x5_1).f0).toList)) || (!((((rd_T86 l0 x5_1).f1).toList) == (((rd_T86 l1 x5_1).f1).toList)))) = true := c7; clear c7; obtain rfl := Option.some.inj H; have p333 : 0 ≤ (x5_1 : Int) := zq; have q333 : x5_1 < (l0.length : Int) := zq; obtain ⟨ad333, e333, hx333_0, hx333_1⟩ := at_T86 HR0.out x5_1 p333 q333; cases e333; replace p333 := eq_true p333; replace q333 := eq_true q333; have p334 : 0 ≤ (x5_1 : Int) := zq; have q334 : x5_1 < (l1.length : Int) := zq; obtain ⟨ad334, e334, hx334_0, hx334_1⟩ := at_T86 HR1.out x5_1 p334 q334; cases e334; replace p334 := eq_true p334; replace q334 := eq_true q334; go_wp2
             repeat (go_quiet (fail); try go_wp2)
             go_ret; exact ⟨by first | rfl | (simp; done) | (simp [*]; done), by repeat (first | exact Drawn0.refl _ | apply Drawn0.step)⟩
           · rw [if_neg c7] at H
             have c7b0 : (!((((rd_T86 l0 x5_1).f0).toList) == (((rd_T86 l1 x5_1).f0).toList)) || (!((((rd_T86 l0 x5_1).f1).toList) == (((rd_T86 l1 x5_1).f1).toList)))) = false := by simpa using c7
             clear c7; have H' := Aside0.mk H; clear H; have p333 : 0 ≤ (x5_1 : Int) := zq; have q333 : x5_1 < (l0.length : Int) := zq; obtain ⟨ad333, e333, hx333_0, hx333_1⟩ := at_T86 HR0.out x5_1 p333 q333; cases e333; replace p333 := eq_true p333; replace q333 := eq_true q333; have p334 : 0 ≤ (x5_1 : Int) := zq; have q334 : x5_1 < (l1.length : Int) := zq; obtain ⟨ad334, e334, hx334_0, hx334_1⟩ := at_T86 HR1.out x5_1 p334 q334; cases e334; replace p334 := eq_true p334; replace q334 := eq_true q334; go_wp2
             repeat (go_quiet (fail); try go_wp2)
             go_roundg k1
             case measure => have := HK1.out; omega
             case rel => exact ⟨(wrap64 (x5_1 + 1)), (by first | rfl | (simp; done) | (simp [*]; done)), H', ⟨by have := HK1.out; omega⟩, by repeat (first | exact Drawn0.refl _ | apply Drawn0.step)⟩
         · rw [if_neg c6] at H; exact absurd H (by simp)
       · rw [if_neg c5] at H; exact absurd H (by simp)
     · rw [if_neg c4] at H; have c4b0 : decide (x5_1 < (l0.length : Int)) = false := decide_eq_false c4; clear c4; obtain rfl := Option.some.inj H; go_wp2
       repeat (go_quiet (fail); try go_wp2)
       go_ret; exact ⟨by first | rfl | (simp; done) | (simp [*]; done), by repeat (first | exact Drawn0.refl _ | apply Drawn0.step)⟩
 · rw [if_neg c3] at H; have c3b0 : ((l0.length : Int) == (l1.length : Int)) = false := beq_eq_false_iff_ne.mpr c3; have c3b1 : ((l0.length : Int) != (l1.length : Int)) = true := bne_iff_ne.mpr c3
   have c3b2 : (l0.length == l1.length) = false := by first | simpa using c3 | (simp at c3 ⊢; omega)
   obtain rfl := Option.some.inj H
   go_enter Try.func34, Try.ntmps34
   go_wp2
   repeat (go_quiet (fail); try go_wp2)
   go_ret; exact ⟨by first | rfl | (simp; done) | (simp [*]; done), by repeat (first | exact Drawn0.refl _ | apply Drawn0.step)⟩
end Go.Proofs.Ytipgldfbjlhpoab.P
