import Derived.Test.YtipgldfbjlhpoabZdP0
import Derived.Test.YtipgldfbjlhpoabZdPR09S
import Derived.Test.YtipgldfbjlhpoabZdPEq
-- Printed by wip/myprint.py.
namespace Go.Proofs.Ytipgldfbjlhpoab.P
open Go.RowKit Go.Proofs.YtipgldfbjlhpoabW.PrintWords Go.Proofs.YtipgldfbjlhpoabW.PrintLast Go.Proofs.YtipgldfbjlhpoabW.PrintMore
attribute [local go_sem] max2_int min2_int max_two min_two max_three min_three max_four min_four   -- for this text's walks alone
set_option linter.unusedVariables false
set_option linter.unusedSimpArgs false
mutual
def footbridgeref12_Same.j0 : Nat → Bool → Int → Int → Bool → List (S86) → List (List ByteArray) → Int → Int → Bool → List (S86) → List (List ByteArray) → Option (Bool)
 | 0, _, _, _, _, _, _, _, _, _, _, _ => none
 | k + 1, x41, x902000, x902001, x902002, x902003, x902004, x903000, x903001, x903002, x903003, x903004 => if x41 = true then (some false) else (footbridgeref12_Same.l0 k 0 x902000 x902001 x902002 x902003 x902004 x903000 x903001 x903002 x903003 x903004)
def footbridgeref12_Same.l0 : Nat → Int → Int → Int → Bool → List (S86) → List (List ByteArray) → Int → Int → Bool → List (S86) → List (List ByteArray) → Option (Bool)
 | 0, _, _, _, _, _, _, _, _, _, _, _ => none
 | k + 1, x5, x902000, x902001, x902002, x902003, x902004, x903000, x903001, x903002, x903003, x903004 => if x5 < (x902004.length : Int) then (if 0 ≤ x5 then (if x5 < (x903004.length : Int) then ((footbridgeref01_Texts.f k (rd_L10 x902004 x5) (rd_L10 x903004 x5)).bind fun t906 => (if t906 = true then (footbridgeref12_Same.l0 k (wrap64 (x5 + 1)) x902000 x902001 x902002 x902003 x902004 x903000 x903001 x903002 x903003 x903004) else (some false))) else (none)) else (none)) else (some true)
end
def footbridgeref12_Same.f (k : Nat) (a0_0 : Int) (a0_1 : Int) (a0_2 : Bool) (l0_3 : List (S86)) (l0_4 : List (List ByteArray)) (a1_0 : Int) (a1_1 : Int) (a1_2 : Bool) (l1_3 : List (S86)) (l1_4 : List (List ByteArray)) : Option (Bool) := if a0_0 = a1_0 then (if a0_1 = a1_1 then (if (a0_2 != a1_2) = true then (footbridgeref12_Same.j0 k true a0_0 a0_1 a0_2 l0_3 l0_4 a1_0 a1_1 a1_2 l1_3 l1_4) else ((footbridgeref09_Same.f k l0_3 l1_3).bind fun t903 => (if t903 = true then (footbridgeref12_Same.j0 k ((l0_4.length : Int) != (l1_4.length : Int)) a0_0 a0_1 a0_2 l0_3 l0_4 a1_0 a1_1 a1_2 l1_3 l1_4) else (footbridgeref12_Same.j0 k true a0_0 a0_1 a0_2 l0_3 l0_4 a1_0 a1_1 a1_2 l1_3 l1_4)))) else (footbridgeref12_Same.j0 k true a0_0 a0_1 a0_2 l0_3 l0_4 a1_0 a1_1 a1_2 l1_3 l1_4)) else (footbridgeref12_Same.j0 k true a0_0 a0_1 a0_2 l0_3 l0_4 a1_0 a1_1 a1_2 l1_3 l1_4)
set_option maxHeartbeats 8000000 in
set_option maxRecDepth 100000 in
theorem footbridgeref12_Same.calls (k : Nat) (a0_0 : Int) (a0_1 : Int) (a0_2 : Bool) (A0_3 : Option Addr) (c0_3 : Nat) (l0_3 : List (S86)) (A0_4 : Option Addr) (c0_4 : Nat) (l0_4 : List (List ByteArray)) (a1_0 : Int) (a1_1 : Int) (a1_2 : Bool) (A1_3 : Option Addr) (c1_3 : Nat) (l1_3 : List (S86)) (A1_4 : Option Addr) (c1_4 : Nat) (l1_4 : List (List ByteArray)) (r : Bool) (w : World) (hr0_3 : Kd.C k86 w A0_3 l0_3.length l0_3) (hc0_3 : l0_3.length ≤ c0_3) (hr0_4 : Kd.C (Kd.slice 9 Kd.string) w A0_4 l0_4.length l0_4) (hc0_4 : l0_4.length ≤ c0_4) (hr1_3 : Kd.C k86 w A1_3 l1_3.length l1_3) (hc1_3 : l1_3.length ≤ c1_3) (hr1_4 : Kd.C (Kd.slice 9 Kd.string) w A1_4 l1_4.length l1_4) (hc1_4 : l1_4.length ≤ c1_4) (h : footbridgeref12_Same.f k a0_0 a0_1 a0_2 l0_3 l0_4 a1_0 a1_1 a1_2 l1_3 l1_4 = some r) :
  Calls Try.prog 52 #[.agg #[.int .i64 a0_0, .int .i64 a0_1, .bool a0_2, .slice A0_3 l0_3.length c0_3, .slice A0_4 l0_4.length c0_4], .agg #[.int .i64 a1_0, .int .i64 a1_1, .bool a1_2, .slice A1_3 l1_3.length c1_3, .slice A1_4 l1_4.length c1_4]] w fun e w' => e = .returned (.bool r) ∧ Below w.heap.size w w' := by
 have hu82 := Try.underlying82
 have HR0_3 := Aside0.mk hr0_3
 have HC0_3 := Aside0.mk hc0_3
 clear hr0_3 hc0_3
 have HR0_4 := Aside0.mk hr0_4
 have HC0_4 := Aside0.mk hc0_4
 clear hr0_4 hc0_4
 have HR1_3 := Aside0.mk hr1_3
 have HC1_3 := Aside0.mk hc1_3
 clear hr1_3 hc1_3
 have HR1_4 := Aside0.mk hr1_4
 have HC1_4 := Aside0.mk hc1_4
 clear hr1_4 hc1_4
 have HB := Aside0.mk (Below.refl w.heap.size w)
 have H : (if a0_0 = a1_0 then (if a0_1 = a1_1 then (if (a0_2 != a1_2) = true then (footbridgeref12_Same.j0 k true a0_0 a0_1 a0_2 l0_3 l0_4 a1_0 a1_1 a1_2 l1_3 l1_4) else ((footbridgeref09_Same.f k l0_3 l1_3).bind fun t903 => (if t903 = true then (footbridgeref12_Same.j0 k ((l0_4.length : Int) != (l1_4.length : Int)) a0_0 a0_1 a0_2 l0_3 l0_4 a1_0 a1_1 a1_2 l1_3 l1_4) else (footbridgeref12_Same.j0 k true a0_0 a0_1 a0_2 l0_3 l0_4 a1_0 a1_1 a1_2 l1_3 l1_4)))) else (footbridgeref12_Same.j0 k true a0_0 a0_1 a0_2 l0_3 l0_4 a1_0 a1_1 a1_2 l1_3 l1_4)) else (footbridgeref12_Same.j0 k true a0_0 a0_1 a0_2 l0_3 l0_4 a1_0 a1_1 a1_2 l1_3 l1_4)) = some r := h
 clear h
 have HC3 := Aside0.mk H
 clear H
 go_enter Try.func52, Try.ntmps52
 go_upto_region 1 with (first | ((with_reducible refine gate_dst (N := 2) rfl ?_); refine box_event ?hg (N := 2) ?hd (cs := #[.int .i64 a0_0, .int .i64 a0_1, .bool a0_2, .slice A0_3 l0_3.length c0_3, .slice A0_4 l0_4.length c0_4]) (t := 82) ?hr ?_; (case hd => rfl); (case hg => rfl); (case hr => first | (go_simp; done) | (go_simp; rfl)); intro gb901 hg w4 hbox hb; have n0_ := Aside0.mk (below_step (by repeat (first | (with_reducible first | exact HB.out | apply pbA | apply pbN | apply pbD) | exact HB.out)) hb); have n1_ := Aside0.mk (hbox); have n2_ := Aside0.mk ((by rw [hg]; exact (below_size (by repeat (first | (with_reducible first | exact HB.out | apply pbA | apply pbN | apply pbD) | exact HB.out))) : w.heap.size ≤ gb901)); have n3_ := Aside0.mk ((by rw [hg]; exact (below_size (by repeat (first | (with_reducible first | exact HB.out | apply pbA | apply pbN | apply pbD) | exact HB.out))) : w.heap.size ≤ gb901)); clear HB; have HB := n0_; have BK901 := n1_; have GW901 := n2_; have GE901 := n3_; clear n0_ n1_ n2_ n3_; clear hb hbox hg) | ((with_reducible refine gate_dst (N := 3) rfl ?_); refine box_event ?hg (N := 3) ?hd (cs := #[.int .i64 a1_0, .int .i64 a1_1, .bool a1_2, .slice A1_3 l1_3.length c1_3, .slice A1_4 l1_4.length c1_4]) (t := 82) ?hr ?_; (case hd => rfl); (case hg => rfl); (case hr => first | (go_simp; done) | (go_simp; rfl)); intro gb902 hg w5 hbox hb; have n0_ := Aside0.mk (blk_below (g := gb901) (o := .cells #[.int .i64 a0_0, .int .i64 a0_1, .bool a0_2, .slice A0_3 l0_3.length c0_3, .slice A0_4 l0_4.length c0_4] 82 (0, 0)) (by (with_reducible repeat (first | refine pkN ?_ _ | refine pkD ?_ | refine pkA ?_ _)); exact BK901.out) hb); have n1_ := Aside0.mk (below_step (by repeat (first | (with_reducible first | exact HB.out | apply pbA | apply pbN | apply pbD | refine pbS ?_ GE901.out) | exact HB.out)) hb); have n2_ := Aside0.mk (hbox); have n3_ := Aside0.mk ((by rw [hg]; exact (below_size (by repeat (first | (with_reducible first | exact HB.out | apply pbA | apply pbN | apply pbD | refine pbS ?_ GE901.out) | exact HB.out))) : w.heap.size ≤ gb902)); have n4_ := Aside0.mk ((by rw [hg]; exact (below_size (by repeat (first | (with_reducible first | exact HB.out | apply pbA | apply pbN | apply pbD | refine pbS ?_ GE901.out) | exact HB.out))) : w.heap.size ≤ gb902)); have n5_ := Aside0.mk ((by rw [hg]; exact Nat.ne_of_lt (blk_lt (g := gb901) (o := .cells #[.int .i64 a0_0, .int .i64 a0_1, .bool a0_2, .slice A0_3 l0_3.length c0_3, .slice A0_4 l0_4.length c0_4] 82 (0, 0)) (by (with_reducible repeat (first | refine pkN ?_ _ | refine pkD ?_ | refine pkA ?_ _)); exact BK901.out)) : gb901 ≠ gb902)); have n6_ := Aside0.mk ((by rw [hg]; exact Nat.ne_of_gt (blk_lt (g := gb901) (o := .cells #[.int .i64 a0_0, .int .i64 a0_1, .bool a0_2, .slice A0_3 l0_3.length c0_3, .slice A0_4 l0_4.length c0_4] 82 (0, 0)) (by (with_reducible repeat (first | refine pkN ?_ _ | refine pkD ?_ | refine pkA ?_ _)); exact BK901.out)) : gb902 ≠ gb901)); clear BK901; clear HB; have BK901 := n0_; have HB := n1_; have BK902 := n2_; have GW902 := n3_; have GE902 := n4_; have NB901_902 := n5_; have NB902_901 := n6_; clear n0_ n1_ n2_ n3_ n4_ n5_ n6_; clear hb hbox hg))
 repeat (go_quiet (first | ((with_reducible refine gate_dst (N := 2) rfl ?_); refine box_event ?hg (N := 2) ?hd (cs := #[.int .i64 a0_0, .int .i64 a0_1, .bool a0_2, .slice A0_3 l0_3.length c0_3, .slice A0_4 l0_4.length c0_4]) (t := 82) ?hr ?_; (case hd => rfl); (case hg => rfl); (case hr => first | (go_simp; done) | (go_simp; rfl)); intro gb901 hg w4 hbox hb; have n0_ := Aside0.mk (below_step (by repeat (first | (with_reducible first | exact HB.out | apply pbA | apply pbN | apply pbD) | exact HB.out)) hb); have n1_ := Aside0.mk (hbox); have n2_ := Aside0.mk ((by rw [hg]; exact (below_size (by repeat (first | (with_reducible first | exact HB.out | apply pbA | apply pbN | apply pbD) | exact HB.out))) : w.heap.size ≤ gb901)); have n3_ := Aside0.mk ((by rw [hg]; exact (below_size (by repeat (first | (with_reducible first | exact HB.out | apply pbA | apply pbN | apply pbD) | exact HB.out))) : w.heap.size ≤ gb901)); clear HB; have HB := n0_; have BK901 := n1_; have GW901 := n2_; have GE901 := n3_; clear n0_ n1_ n2_ n3_; clear hb hbox hg) | ((with_reducible refine gate_dst (N := 3) rfl ?_); refine box_event ?hg (N := 3) ?hd (cs := #[.int .i64 a1_0, .int .i64 a1_1, .bool a1_2, .slice A1_3 l1_3.length c1_3, .slice A1_4 l1_4.length c1_4]) (t := 82) ?hr ?_; (case hd => rfl); (case hg => rfl); (case hr => first | (go_simp; done) | (go_simp; rfl)); intro gb902 hg w5 hbox hb; have n0_ := Aside0.mk (blk_below (g := gb901) (o := .cells #[.int .i64 a0_0, .int .i64 a0_1, .bool a0_2, .slice A0_3 l0_3.length c0_3, .slice A0_4 l0_4.length c0_4] 82 (0, 0)) (by (with_reducible repeat (first | refine pkN ?_ _ | refine pkD ?_ | refine pkA ?_ _)); exact BK901.out) hb); have n1_ := Aside0.mk (below_step (by repeat (first | (with_reducible first | exact HB.out | apply pbA | apply pbN | apply pbD | refine pbS ?_ GE901.out) | exact HB.out)) hb); have n2_ := Aside0.mk (hbox); have n3_ := Aside0.mk ((by rw [hg]; exact (below_size (by repeat (first | (with_reducible first | exact HB.out | apply pbA | apply pbN | apply pbD | refine pbS ?_ GE901.out) | exact HB.out))) : w.heap.size ≤ gb902)); have n4_ := Aside0.mk ((by rw [hg]; exact (below_size (by repeat (first | (with_reducible first | exact HB.out | apply pbA | apply pbN | apply pbD | refine pbS ?_ GE901.out) | exact HB.out))) : w.heap.size ≤ gb902)); have n5_ := Aside0.mk ((by rw [hg]; exact Nat.ne_of_lt (blk_lt (g := gb901) (o := .cells #[.int .i64 a0_0, .int .i64 a0_1, .bool a0_2, .slice A0_3 l0_3.length c0_3, .slice A0_4 l0_4.length c0_4] 82 (0, 0)) (by (with_reducible repeat (first | refine pkN ?_ _ | refine pkD ?_ | refine pkA ?_ _)); exact BK901.out)) : gb901 ≠ gb902)); have n6_ := Aside0.mk ((by rw [hg]; exact Nat.ne_of_gt (blk_lt (g := gb901) (o := .cells #[.int .i64 a0_0, .int .i64 a0_1, .bool a0_2, .slice A0_3 l0_3.length c0_3, .slice A0_4 l0_4.length c0_4] 82 (0, 0)) (by (with_reducible repeat (first | refine pkN ?_ _ | refine pkD ?_ | refine pkA ?_ _)); exact BK901.out)) : gb902 ≠ gb901)); clear BK901; clear HB; have BK901 := n0_; have HB := n1_; have BK902 := n2_; have GW902 := n3_; have GE902 := n4_; have NB901_902 := n5_; have NB902_901 := n6_; clear n0_ n1_ n2_ n3_ n4_ n5_ n6_; clear hb hbox hg)); go_upto_region 1 with (first | ((with_reducible refine gate_dst (N := 2) rfl ?_); refine box_event ?hg (N := 2) ?hd (cs := #[.int .i64 a0_0, .int .i64 a0_1, .bool a0_2, .slice A0_3 l0_3.length c0_3, .slice A0_4 l0_4.length c0_4]) (t := 82) ?hr ?_; (case hd => rfl); (case hg => rfl); (case hr => first | (go_simp; done) | (go_simp; rfl)); intro gb901 hg w4 hbox hb; have n0_ := Aside0.mk (below_step (by repeat (first | (with_reducible first | exact HB.out | apply pbA | apply pbN | apply pbD) | exact HB.out)) hb); have n1_ := Aside0.mk (hbox); have n2_ := Aside0.mk ((by rw [hg]; exact (below_size (by repeat (first | (with_reducible first | exact HB.out | apply pbA | apply pbN | apply pbD) | exact HB.out))) : w.heap.size ≤ gb901)); have n3_ := Aside0.mk ((by rw [hg]; exact (below_size (by repeat (first | (with_reducible first | exact HB.out | apply pbA | apply pbN | apply pbD) | exact HB.out))) : w.heap.size ≤ gb901)); clear HB; have HB := n0_; have BK901 := n1_; have GW901 := n2_; have GE901 := n3_; clear n0_ n1_ n2_ n3_; clear hb hbox hg) | ((with_reducible refine gate_dst (N := 3) rfl ?_); refine box_event ?hg (N := 3) ?hd (cs := #[.int .i64 a1_0, .int .i64 a1_1, .bool a1_2, .slice A1_3 l1_3.length c1_3, .slice A1_4 l1_4.length c1_4]) (t := 82) ?hr ?_; (case hd => rfl); (case hg => rfl); (case hr => first | (go_simp; done) | (go_simp; rfl)); intro gb902 hg w5 hbox hb; have n0_ := Aside0.mk (blk_below (g := gb901) (o := .cells #[.int .i64 a0_0, .int .i64 a0_1, .bool a0_2, .slice A0_3 l0_3.length c0_3, .slice A0_4 l0_4.length c0_4] 82 (0, 0)) (by (with_reducible repeat (first | refine pkN ?_ _ | refine pkD ?_ | refine pkA ?_ _)); exact BK901.out) hb); have n1_ := Aside0.mk (below_step (by repeat (first | (with_reducible first | exact HB.out | apply pbA | apply pbN | apply pbD | refine pbS ?_ GE901.out) | exact HB.out)) hb); have n2_ := Aside0.mk (hbox); have n3_ := Aside0.mk ((by rw [hg]; exact (below_size (by repeat (first | (with_reducible first | exact HB.out | apply pbA | apply pbN | apply pbD | refine pbS ?_ GE901.out) | exact HB.out))) : w.heap.size ≤ gb902)); have n4_ := Aside0.mk ((by rw [hg]; exact (below_size (by repeat (first | (with_reducible first | exact HB.out | apply pbA | apply pbN | apply pbD | refine pbS ?_ GE901.out) | exact HB.out))) : w.heap.size ≤ gb902)); have n5_ := Aside0.mk ((by rw [hg]; exact Nat.ne_of_lt (blk_lt (g := gb901) (o := .cells #[.int .i64 a0_0, .int .i64 a0_1, .bool a0_2, .slice A0_3 l0_3.length c0_3, .slice A0_4 l0_4.length c0_4] 82 (0, 0)) (by (with_reducible repeat (first | refine pkN ?_ _ | refine pkD ?_ | refine pkA ?_ _)); exact BK901.out)) : gb901 ≠ gb902)); have n6_ := Aside0.mk ((by rw [hg]; exact Nat.ne_of_gt (blk_lt (g := gb901) (o := .cells #[.int .i64 a0_0, .int .i64 a0_1, .bool a0_2, .slice A0_3 l0_3.length c0_3, .slice A0_4 l0_4.length c0_4] 82 (0, 0)) (by (with_reducible repeat (first | refine pkN ?_ _ | refine pkD ?_ | refine pkA ?_ _)); exact BK901.out)) : gb902 ≠ gb901)); clear BK901; clear HB; have BK901 := n0_; have HB := n1_; have BK902 := n2_; have GW902 := n3_; have GE902 := n4_; have NB901_902 := n5_; have NB902_901 := n6_; clear n0_ n1_ n2_ n3_ n4_ n5_ n6_; clear hb hbox hg)))
 (try simp only [Act.put, zA, zB, zC])
 go_cut [41] (fun v41 wc => ∃ (kq : Nat) (x41_2 : Bool), v41 = .bool x41_2 ∧ Aside0 (footbridgeref12_Same.j0 kq x41_2 a0_0 a0_1 a0_2 l0_3 l0_4 a1_0 a1_1 a1_2 l1_3 l1_4 = some r) ∧ Aside0 (kq ≤ k) ∧ Aside0 (wc.heap[gb901]? = some (.cells #[.int .i64 a0_0, .int .i64 a0_1, .bool a0_2, (.slice A0_3 l0_3.length c0_3), (.slice A0_4 l0_4.length c0_4)] 82 (0, 0))) ∧ Aside0 (wc.heap[gb902]? = some (.cells #[.int .i64 a1_0, .int .i64 a1_1, .bool a1_2, (.slice A1_3 l1_3.length c1_3), (.slice A1_4 l1_4.length c1_4)] 82 (0, 0))) ∧ Aside0 (Below w.heap.size w wc))
 case first =>
  have H := HC3.out
  clear HC3
  by_cases c6 : a0_0 = a1_0
  · rw [if_pos c6] at H
    have c6b0 : (a0_0 == a1_0) = true := beq_iff_eq.mpr c6
    have c6b1 : (a0_0 != a1_0) = false := bne_eq_false_iff_eq.mpr c6
    clear c6
    (first | rw [c6b0] | (simp only [i64_w, i32_w]; rw [c6b0]) | skip)
    by_cases c7 : a0_1 = a1_1
    · rw [if_pos c7] at H
      have c7b0 : (a0_1 == a1_1) = true := beq_iff_eq.mpr c7
      have c7b1 : (a0_1 != a1_1) = false := bne_eq_false_iff_eq.mpr c7
      clear c7
      by_cases c8 : (a0_2 != a1_2) = true
      · rw [if_pos c8] at H
        have c8b0 : (a0_2 != a1_2) = true := c8
        (try (have c8b1 : decide (a0_2 = a1_2) = false := by simpa using c8))
        (try (have c8b2 : (a0_2 == a1_2) = false := by simpa using c8))
        (try (have c8b3 : ¬ (a0_2 = a1_2) := by simpa using c8))
        clear c8
        have H' := Aside0.mk H
        clear H
        have hnb9 := NB901_902.out
        have hnc9 := NB902_901.out
        have hcz10_0 : w5.cell? ⟨gb901, 0, none⟩ = some (.int .i64 a0_0) := (pkC BK901.out 0).trans rfl
        have hcz10_1 : w5.cell? ⟨gb901, 1, none⟩ = some (.int .i64 a0_1) := (pkC BK901.out 1).trans rfl
        have hcz10_2 : w5.cell? ⟨gb901, 2, none⟩ = some (.bool a0_2) := (pkC BK901.out 2).trans rfl
        have hcz10_3 : w5.cell? ⟨gb901, 3, none⟩ = some (.slice A0_3 l0_3.length c0_3) := (pkC BK901.out 3).trans rfl
        have hcz10_4 : w5.cell? ⟨gb901, 4, none⟩ = some (.slice A0_4 l0_4.length c0_4) := (pkC BK901.out 4).trans rfl
        have hfz10_0 := pkF BK901.out 0
        have hfz10_1 := pkF BK901.out 1
        have hfz10_2 := pkF BK901.out 2
        have hfz10_3 := pkF BK901.out 3
        have hfz10_4 := pkF BK901.out 4
        have hcz11_0 : w5.cell? ⟨gb902, 0, none⟩ = some (.int .i64 a1_0) := (pkC BK902.out 0).trans rfl
        have hcz11_1 : w5.cell? ⟨gb902, 1, none⟩ = some (.int .i64 a1_1) := (pkC BK902.out 1).trans rfl
        have hcz11_2 : w5.cell? ⟨gb902, 2, none⟩ = some (.bool a1_2) := (pkC BK902.out 2).trans rfl
        have hcz11_3 : w5.cell? ⟨gb902, 3, none⟩ = some (.slice A1_3 l1_3.length c1_3) := (pkC BK902.out 3).trans rfl
        have hcz11_4 : w5.cell? ⟨gb902, 4, none⟩ = some (.slice A1_4 l1_4.length c1_4) := (pkC BK902.out 4).trans rfl
        have hfz11_0 := pkF BK902.out 0
        have hfz11_1 := pkF BK902.out 1
        have hfz11_2 := pkF BK902.out 2
        have hfz11_3 := pkF BK902.out 3
        have hfz11_4 := pkF BK902.out 4
        go_wp2
        repeat (go_quiet (fail); try go_wp2)
        go_meet
        case rel => exact ⟨_, (true), (by first | rfl | (simp; done) | (simp [*]; done)), H', ⟨by first | omega | exact Nat.le_refl _⟩, ⟨by (with_reducible repeat (first | refine pkN ?_ _ | refine pkD ?_ | refine pkA ?_ _)); exact BK901.out⟩, ⟨by (with_reducible repeat (first | refine pkN ?_ _ | refine pkD ?_ | refine pkA ?_ _)); exact BK902.out⟩, ⟨by repeat (first | (with_reducible first | exact HB.out | apply pbA | apply pbN | apply pbD | refine pbS ?_ GE901.out | refine pbS ?_ GE902.out) | exact HB.out)⟩⟩
      · rw [if_neg c8] at H
        have c8b0 : (a0_2 != a1_2) = false := by simpa using c8
        (try (have c8b1 : decide (a0_2 = a1_2) = true := by simpa using c8))
        (try (have c8b2 : (a0_2 == a1_2) = true := by simpa using c8))
        clear c8
        replace H := Option.bind_eq_some_iff.mp H
        obtain ⟨t903, A120, H⟩ := H
        replace H : (if t903 = true then (footbridgeref12_Same.j0 k ((l0_4.length : Int) != (l1_4.length : Int)) a0_0 a0_1 a0_2 l0_3 l0_4 a1_0 a1_1 a1_2 l1_3 l1_4) else (footbridgeref12_Same.j0 k true a0_0 a0_1 a0_2 l0_3 l0_4 a1_0 a1_1 a1_2 l1_3 l1_4)) = some r := H
        have A12 := Aside0.mk A120
        clear A120
        by_cases c13 : t903 = true
        · subst c13
          have H1 : (footbridgeref12_Same.j0 k ((l0_4.length : Int) != (l1_4.length : Int)) a0_0 a0_1 a0_2 l0_3 l0_4 a1_0 a1_1 a1_2 l1_3 l1_4) = some r := by rw [if_pos rfl] at H; exact H
          clear H
          have H := H1
          clear H1
          have H' := Aside0.mk H
          clear H
          have hnb14 := NB901_902.out
          have hnc14 := NB902_901.out
          have hcz15_0 : w5.cell? ⟨gb901, 0, none⟩ = some (.int .i64 a0_0) := (pkC BK901.out 0).trans rfl
          have hcz15_1 : w5.cell? ⟨gb901, 1, none⟩ = some (.int .i64 a0_1) := (pkC BK901.out 1).trans rfl
          have hcz15_2 : w5.cell? ⟨gb901, 2, none⟩ = some (.bool a0_2) := (pkC BK901.out 2).trans rfl
          have hcz15_3 : w5.cell? ⟨gb901, 3, none⟩ = some (.slice A0_3 l0_3.length c0_3) := (pkC BK901.out 3).trans rfl
          have hcz15_4 : w5.cell? ⟨gb901, 4, none⟩ = some (.slice A0_4 l0_4.length c0_4) := (pkC BK901.out 4).trans rfl
          have hfz15_0 := pkF BK901.out 0
          have hfz15_1 := pkF BK901.out 1
          have hfz15_2 := pkF BK901.out 2
          have hfz15_3 := pkF BK901.out 3
          have hfz15_4 := pkF BK901.out 4
          have hcz16_0 : w5.cell? ⟨gb902, 0, none⟩ = some (.int .i64 a1_0) := (pkC BK902.out 0).trans rfl
          have hcz16_1 : w5.cell? ⟨gb902, 1, none⟩ = some (.int .i64 a1_1) := (pkC BK902.out 1).trans rfl
          have hcz16_2 : w5.cell? ⟨gb902, 2, none⟩ = some (.bool a1_2) := (pkC BK902.out 2).trans rfl
          have hcz16_3 : w5.cell? ⟨gb902, 3, none⟩ = some (.slice A1_3 l1_3.length c1_3) := (pkC BK902.out 3).trans rfl
          have hcz16_4 : w5.cell? ⟨gb902, 4, none⟩ = some (.slice A1_4 l1_4.length c1_4) := (pkC BK902.out 4).trans rfl
          have hfz16_0 := pkF BK902.out 0
          have hfz16_1 := pkF BK902.out 1
          have hfz16_2 := pkF BK902.out 2
          have hfz16_3 := pkF BK902.out 3
          have hfz16_4 := pkF BK902.out 4
          go_wp2_with (first | (go_at_call 34; (with_reducible refine (footbridgeref09_Same.calls k _ _ l0_3 _ _ l1_3 true _ ?side1 ?side2 ?side3 ?side4 A12.out).mono ?_); (case side1 => repeat (first | exact (Kd.C_below HR0_3.out HB.out) | (with_reducible refine Kd.C_alloc ?_ _) | (with_reducible refine Kd.C_drewN ?_ _) | (with_reducible refine Kd.C_drew ?_))); (case side2 => exact HC0_3.out); (case side3 => repeat (first | exact (Kd.C_below HR1_3.out HB.out) | (with_reducible refine Kd.C_alloc ?_ _) | (with_reducible refine Kd.C_drewN ?_ _) | (with_reducible refine Kd.C_drew ?_))); (case side4 => exact HC1_3.out); rintro e w' ⟨rfl, ⟨nd, rfl⟩⟩; (try first | exact ⟨rfl, _, World.drewN_drewN _ _ _⟩ | exact ⟨rfl, _, Eq.trans (World.drewN_drewN _ _ _) (congrArg (World.drewN _) (Nat.add_assoc _ _ _))⟩)))
          repeat (go_quiet (first | (go_at_call 34; (with_reducible refine (footbridgeref09_Same.calls k _ _ l0_3 _ _ l1_3 true _ ?side1 ?side2 ?side3 ?side4 A12.out).mono ?_); (case side1 => repeat (first | exact (Kd.C_below HR0_3.out HB.out) | (with_reducible refine Kd.C_alloc ?_ _) | (with_reducible refine Kd.C_drewN ?_ _) | (with_reducible refine Kd.C_drew ?_))); (case side2 => exact HC0_3.out); (case side3 => repeat (first | exact (Kd.C_below HR1_3.out HB.out) | (with_reducible refine Kd.C_alloc ?_ _) | (with_reducible refine Kd.C_drewN ?_ _) | (with_reducible refine Kd.C_drew ?_))); (case side4 => exact HC1_3.out); rintro e w' ⟨rfl, ⟨nd, rfl⟩⟩; (try first | exact ⟨rfl, _, World.drewN_drewN _ _ _⟩ | exact ⟨rfl, _, Eq.trans (World.drewN_drewN _ _ _) (congrArg (World.drewN _) (Nat.add_assoc _ _ _))⟩))); try go_wp2_with (first | (go_at_call 34; (with_reducible refine (footbridgeref09_Same.calls k _ _ l0_3 _ _ l1_3 true _ ?side1 ?side2 ?side3 ?side4 A12.out).mono ?_); (case side1 => repeat (first | exact (Kd.C_below HR0_3.out HB.out) | (with_reducible refine Kd.C_alloc ?_ _) | (with_reducible refine Kd.C_drewN ?_ _) | (with_reducible refine Kd.C_drew ?_))); (case side2 => exact HC0_3.out); (case side3 => repeat (first | exact (Kd.C_below HR1_3.out HB.out) | (with_reducible refine Kd.C_alloc ?_ _) | (with_reducible refine Kd.C_drewN ?_ _) | (with_reducible refine Kd.C_drew ?_))); (case side4 => exact HC1_3.out); rintro e w' ⟨rfl, ⟨nd, rfl⟩⟩; (try first | exact ⟨rfl, _, World.drewN_drewN _ _ _⟩ | exact ⟨rfl, _, Eq.trans (World.drewN_drewN _ _ _) (congrArg (World.drewN _) (Nat.add_assoc _ _ _))⟩))))
          go_meet
          case rel => exact ⟨_, (((l0_4.length : Int) != (l1_4.length : Int))), (by first | rfl | (simp; done) | (simp [*]; done)), H', ⟨by first | omega | exact Nat.le_refl _⟩, ⟨by (with_reducible repeat (first | refine pkN ?_ _ | refine pkD ?_ | refine pkA ?_ _)); exact BK901.out⟩, ⟨by (with_reducible repeat (first | refine pkN ?_ _ | refine pkD ?_ | refine pkA ?_ _)); exact BK902.out⟩, ⟨by repeat (first | (with_reducible first | exact HB.out | apply pbA | apply pbN | apply pbD | refine pbS ?_ GE901.out | refine pbS ?_ GE902.out) | exact HB.out)⟩⟩
        · replace c13 := Bool.eq_false_iff.mpr c13
          subst c13
          have H1 : (footbridgeref12_Same.j0 k true a0_0 a0_1 a0_2 l0_3 l0_4 a1_0 a1_1 a1_2 l1_3 l1_4) = some r := by rw [if_neg (show ¬ (false = true) by decide)] at H; exact H
          clear H
          have H := H1
          clear H1
          have H' := Aside0.mk H
          clear H
          have hnb17 := NB901_902.out
          have hnc17 := NB902_901.out
          have hcz18_0 : w5.cell? ⟨gb901, 0, none⟩ = some (.int .i64 a0_0) := (pkC BK901.out 0).trans rfl
          have hcz18_1 : w5.cell? ⟨gb901, 1, none⟩ = some (.int .i64 a0_1) := (pkC BK901.out 1).trans rfl
          have hcz18_2 : w5.cell? ⟨gb901, 2, none⟩ = some (.bool a0_2) := (pkC BK901.out 2).trans rfl
          have hcz18_3 : w5.cell? ⟨gb901, 3, none⟩ = some (.slice A0_3 l0_3.length c0_3) := (pkC BK901.out 3).trans rfl
          have hcz18_4 : w5.cell? ⟨gb901, 4, none⟩ = some (.slice A0_4 l0_4.length c0_4) := (pkC BK901.out 4).trans rfl
          have hfz18_0 := pkF BK901.out 0
          have hfz18_1 := pkF BK901.out 1
          have hfz18_2 := pkF BK901.out 2
          have hfz18_3 := pkF BK901.out 3
          have hfz18_4 := pkF BK901.out 4
          have hcz19_0 : w5.cell? ⟨gb902, 0, none⟩ = some (.int .i64 a1_0) := (pkC BK902.out 0).trans rfl
          have hcz19_1 : w5.cell? ⟨gb902, 1, none⟩ = some (.int .i64 a1_1) := (pkC BK902.out 1).trans rfl
          have hcz19_2 : w5.cell? ⟨gb902, 2, none⟩ = some (.bool a1_2) := (pkC BK902.out 2).trans rfl
          have hcz19_3 : w5.cell? ⟨gb902, 3, none⟩ = some (.slice A1_3 l1_3.length c1_3) := (pkC BK902.out 3).trans rfl
          have hcz19_4 : w5.cell? ⟨gb902, 4, none⟩ = some (.slice A1_4 l1_4.length c1_4) := (pkC BK902.out 4).trans rfl
          have hfz19_0 := pkF BK902.out 0
          have hfz19_1 := pkF BK902.out 1
          have hfz19_2 := pkF BK902.out 2
          have hfz19_3 := pkF BK902.out 3
          have hfz19_4 := pkF BK902.out 4
          go_wp2_with (first | (go_at_call 34; (with_reducible refine (footbridgeref09_Same.calls k _ _ l0_3 _ _ l1_3 false _ ?side1 ?side2 ?side3 ?side4 A12.out).mono ?_); (case side1 => repeat (first | exact (Kd.C_below HR0_3.out HB.out) | (with_reducible refine Kd.C_alloc ?_ _) | (with_reducible refine Kd.C_drewN ?_ _) | (with_reducible refine Kd.C_drew ?_))); (case side2 => exact HC0_3.out); (case side3 => repeat (first | exact (Kd.C_below HR1_3.out HB.out) | (with_reducible refine Kd.C_alloc ?_ _) | (with_reducible refine Kd.C_drewN ?_ _) | (with_reducible refine Kd.C_drew ?_))); (case side4 => exact HC1_3.out); rintro e w' ⟨rfl, ⟨nd, rfl⟩⟩; (try first | exact ⟨rfl, _, World.drewN_drewN _ _ _⟩ | exact ⟨rfl, _, Eq.trans (World.drewN_drewN _ _ _) (congrArg (World.drewN _) (Nat.add_assoc _ _ _))⟩)))
          repeat (go_quiet (first | (go_at_call 34; (with_reducible refine (footbridgeref09_Same.calls k _ _ l0_3 _ _ l1_3 false _ ?side1 ?side2 ?side3 ?side4 A12.out).mono ?_); (case side1 => repeat (first | exact (Kd.C_below HR0_3.out HB.out) | (with_reducible refine Kd.C_alloc ?_ _) | (with_reducible refine Kd.C_drewN ?_ _) | (with_reducible refine Kd.C_drew ?_))); (case side2 => exact HC0_3.out); (case side3 => repeat (first | exact (Kd.C_below HR1_3.out HB.out) | (with_reducible refine Kd.C_alloc ?_ _) | (with_reducible refine Kd.C_drewN ?_ _) | (with_reducible refine Kd.C_drew ?_))); (case side4 => exact HC1_3.out); rintro e w' ⟨rfl, ⟨nd, rfl⟩⟩; (try first | exact ⟨rfl, _, World.drewN_drewN _ _ _⟩ | exact ⟨rfl, _, Eq.trans (World.drewN_drewN _ _ _) (congrArg (World.drewN _) (Nat.add_assoc _ _ _))⟩))); try go_wp2_with (first | (go_at_call 34; (with_reducible refine (footbridgeref09_Same.calls k _ _ l0_3 _ _ l1_3 false _ ?side1 ?side2 ?side3 ?side4 A12.out).mono ?_); (case side1 => repeat (first | exact (Kd.C_below HR0_3.out HB.out) | (with_reducible refine Kd.C_alloc ?_ _) | (with_reducible refine Kd.C_drewN ?_ _) | (with_reducible refine Kd.C_drew ?_))); (case side2 => exact HC0_3.out); (case side3 => repeat (first | exact (Kd.C_below HR1_3.out HB.out) | (with_reducible refine Kd.C_alloc ?_ _) | (with_reducible refine Kd.C_drewN ?_ _) | (with_reducible refine Kd.C_drew ?_))); (case side4 => exact HC1_3.out); rintro e w' ⟨rfl, ⟨nd, rfl⟩⟩; (try first | exact ⟨rfl, _, World.drewN_drewN _ _ _⟩ | exact ⟨rfl, _, Eq.trans (World.drewN_drewN _ _ _) (congrArg (World.drewN _) (Nat.add_assoc _ _ _))⟩))))
          go_meet
          case rel => exact ⟨_, (true), (by first | rfl | (simp; done) | (simp [*]; done)), H', ⟨by first | omega | exact Nat.le_refl _⟩, ⟨by (with_reducible repeat (first | refine pkN ?_ _ | refine pkD ?_ | refine pkA ?_ _)); exact BK901.out⟩, ⟨by (with_reducible repeat (first | refine pkN ?_ _ | refine pkD ?_ | refine pkA ?_ _)); exact BK902.out⟩, ⟨by repeat (first | (with_reducible first | exact HB.out | apply pbA | apply pbN | apply pbD | refine pbS ?_ GE901.out | refine pbS ?_ GE902.out) | exact HB.out)⟩⟩
    · rw [if_neg c7] at H
      have c7b0 : (a0_1 == a1_1) = false := beq_eq_false_iff_ne.mpr c7
      have c7b1 : (a0_1 != a1_1) = true := bne_iff_ne.mpr c7
      have H' := Aside0.mk H
      clear H
      have hnb20 := NB901_902.out
      have hnc20 := NB902_901.out
      have hcz21_0 : w5.cell? ⟨gb901, 0, none⟩ = some (.int .i64 a0_0) := (pkC BK901.out 0).trans rfl
      have hcz21_1 : w5.cell? ⟨gb901, 1, none⟩ = some (.int .i64 a0_1) := (pkC BK901.out 1).trans rfl
      have hcz21_2 : w5.cell? ⟨gb901, 2, none⟩ = some (.bool a0_2) := (pkC BK901.out 2).trans rfl
      have hcz21_3 : w5.cell? ⟨gb901, 3, none⟩ = some (.slice A0_3 l0_3.length c0_3) := (pkC BK901.out 3).trans rfl
      have hcz21_4 : w5.cell? ⟨gb901, 4, none⟩ = some (.slice A0_4 l0_4.length c0_4) := (pkC BK901.out 4).trans rfl
      have hfz21_0 := pkF BK901.out 0
      have hfz21_1 := pkF BK901.out 1
      have hfz21_2 := pkF BK901.out 2
      have hfz21_3 := pkF BK901.out 3
      have hfz21_4 := pkF BK901.out 4
      have hcz22_0 : w5.cell? ⟨gb902, 0, none⟩ = some (.int .i64 a1_0) := (pkC BK902.out 0).trans rfl
      have hcz22_1 : w5.cell? ⟨gb902, 1, none⟩ = some (.int .i64 a1_1) := (pkC BK902.out 1).trans rfl
      have hcz22_2 : w5.cell? ⟨gb902, 2, none⟩ = some (.bool a1_2) := (pkC BK902.out 2).trans rfl
      have hcz22_3 : w5.cell? ⟨gb902, 3, none⟩ = some (.slice A1_3 l1_3.length c1_3) := (pkC BK902.out 3).trans rfl
      have hcz22_4 : w5.cell? ⟨gb902, 4, none⟩ = some (.slice A1_4 l1_4.length c1_4) := (pkC BK902.out 4).trans rfl
      have hfz22_0 := pkF BK902.out 0
      have hfz22_1 := pkF BK902.out 1
      have hfz22_2 := pkF BK902.out 2
      have hfz22_3 := pkF BK902.out 3
      have hfz22_4 := pkF BK902.out 4
      go_wp2
      repeat (go_quiet (fail); try go_wp2)
      go_meet
      case rel => exact ⟨_, (true), (by first | rfl | (simp; done) | (simp [*]; done)), H', ⟨by first | omega | exact Nat.le_refl _⟩, ⟨by (with_reducible repeat (first | refine pkN ?_ _ | refine pkD ?_ | refine pkA ?_ _)); exact BK901.out⟩, ⟨by (with_reducible repeat (first | refine pkN ?_ _ | refine pkD ?_ | refine pkA ?_ _)); exact BK902.out⟩, ⟨by repeat (first | (with_reducible first | exact HB.out | apply pbA | apply pbN | apply pbD | refine pbS ?_ GE901.out | refine pbS ?_ GE902.out) | exact HB.out)⟩⟩
  · rw [if_neg c6] at H
    have c6b0 : (a0_0 == a1_0) = false := beq_eq_false_iff_ne.mpr c6
    have c6b1 : (a0_0 != a1_0) = true := bne_iff_ne.mpr c6
    (first | rw [c6b0] | (simp only [i64_w, i32_w]; rw [c6b0]) | skip)
    have H' := Aside0.mk H
    clear H
    have hnb23 := NB901_902.out
    have hnc23 := NB902_901.out
    have hcz24_0 : w5.cell? ⟨gb901, 0, none⟩ = some (.int .i64 a0_0) := (pkC BK901.out 0).trans rfl
    have hcz24_1 : w5.cell? ⟨gb901, 1, none⟩ = some (.int .i64 a0_1) := (pkC BK901.out 1).trans rfl
    have hcz24_2 : w5.cell? ⟨gb901, 2, none⟩ = some (.bool a0_2) := (pkC BK901.out 2).trans rfl
    have hcz24_3 : w5.cell? ⟨gb901, 3, none⟩ = some (.slice A0_3 l0_3.length c0_3) := (pkC BK901.out 3).trans rfl
    have hcz24_4 : w5.cell? ⟨gb901, 4, none⟩ = some (.slice A0_4 l0_4.length c0_4) := (pkC BK901.out 4).trans rfl
    have hfz24_0 := pkF BK901.out 0
    have hfz24_1 := pkF BK901.out 1
    have hfz24_2 := pkF BK901.out 2
    have hfz24_3 := pkF BK901.out 3
    have hfz24_4 := pkF BK901.out 4
    have hcz25_0 : w5.cell? ⟨gb902, 0, none⟩ = some (.int .i64 a1_0) := (pkC BK902.out 0).trans rfl
    have hcz25_1 : w5.cell? ⟨gb902, 1, none⟩ = some (.int .i64 a1_1) := (pkC BK902.out 1).trans rfl
    have hcz25_2 : w5.cell? ⟨gb902, 2, none⟩ = some (.bool a1_2) := (pkC BK902.out 2).trans rfl
    have hcz25_3 : w5.cell? ⟨gb902, 3, none⟩ = some (.slice A1_3 l1_3.length c1_3) := (pkC BK902.out 3).trans rfl
    have hcz25_4 : w5.cell? ⟨gb902, 4, none⟩ = some (.slice A1_4 l1_4.length c1_4) := (pkC BK902.out 4).trans rfl
    have hfz25_0 := pkF BK902.out 0
    have hfz25_1 := pkF BK902.out 1
    have hfz25_2 := pkF BK902.out 2
    have hfz25_3 := pkF BK902.out 3
    have hfz25_4 := pkF BK902.out 4
    go_wp2
    repeat (go_quiet (fail); try go_wp2)
    go_meet
    case rel => exact ⟨_, (true), (by first | rfl | (simp; done) | (simp [*]; done)), H', ⟨by first | omega | exact Nat.le_refl _⟩, ⟨by (with_reducible repeat (first | refine pkN ?_ _ | refine pkD ?_ | refine pkA ?_ _)); exact BK901.out⟩, ⟨by (with_reducible repeat (first | refine pkN ?_ _ | refine pkD ?_ | refine pkA ?_ _)); exact BK902.out⟩, ⟨by repeat (first | (with_reducible first | exact HB.out | apply pbA | apply pbN | apply pbD | refine pbS ?_ GE901.out | refine pbS ?_ GE902.out) | exact HB.out)⟩⟩
 case rest =>
  clear HC3
  try clear c1
  try clear c2
  try clear p2
  try clear c5
  try clear c6
  try clear c6b0
  try clear c6b1
  try clear c7
  try clear c7b0
  try clear c7b1
  try clear c8
  try clear c8b0
  try clear c8b1
  try clear c8b2
  try clear c9
  try clear c13
  try clear c14
  try clear c17
  try clear c20
  try clear c23
  try clear hcz10_0
  try clear hcz10_1
  try clear hcz10_2
  try clear hcz10_3
  try clear hcz10_4
  try clear hcz11_0
  try clear hcz11_1
  try clear hcz11_2
  try clear hcz11_3
  try clear hcz11_4
  try clear hcz15_0
  try clear hcz15_1
  try clear hcz15_2
  try clear hcz15_3
  try clear hcz15_4
  try clear hcz16_0
  try clear hcz16_1
  try clear hcz16_2
  try clear hcz16_3
  try clear hcz16_4
  try clear hcz18_0
  try clear hcz18_1
  try clear hcz18_2
  try clear hcz18_3
  try clear hcz18_4
  try clear hcz19_0
  try clear hcz19_1
  try clear hcz19_2
  try clear hcz19_3
  try clear hcz19_4
  try clear hcz21_0
  try clear hcz21_1
  try clear hcz21_2
  try clear hcz21_3
  try clear hcz21_4
  try clear hcz22_0
  try clear hcz22_1
  try clear hcz22_2
  try clear hcz22_3
  try clear hcz22_4
  try clear hcz24_0
  try clear hcz24_1
  try clear hcz24_2
  try clear hcz24_3
  try clear hcz24_4
  try clear hcz25_0
  try clear hcz25_1
  try clear hcz25_2
  try clear hcz25_3
  try clear hcz25_4
  try clear hfz10_0
  try clear hfz10_1
  try clear hfz10_2
  try clear hfz10_3
  try clear hfz10_4
  try clear hfz11_0
  try clear hfz11_1
  try clear hfz11_2
  try clear hfz11_3
  try clear hfz11_4
  try clear hfz15_0
  try clear hfz15_1
  try clear hfz15_2
  try clear hfz15_3
  try clear hfz15_4
  try clear hfz16_0
  try clear hfz16_1
  try clear hfz16_2
  try clear hfz16_3
  try clear hfz16_4
  try clear hfz18_0
  try clear hfz18_1
  try clear hfz18_2
  try clear hfz18_3
  try clear hfz18_4
  try clear hfz19_0
  try clear hfz19_1
  try clear hfz19_2
  try clear hfz19_3
  try clear hfz19_4
  try clear hfz21_0
  try clear hfz21_1
  try clear hfz21_2
  try clear hfz21_3
  try clear hfz21_4
  try clear hfz22_0
  try clear hfz22_1
  try clear hfz22_2
  try clear hfz22_3
  try clear hfz22_4
  try clear hfz24_0
  try clear hfz24_1
  try clear hfz24_2
  try clear hfz24_3
  try clear hfz24_4
  try clear hfz25_0
  try clear hfz25_1
  try clear hfz25_2
  try clear hfz25_3
  try clear hfz25_4
  obtain ⟨kq, x41_2, rfl, HA, HJ2, BK901, BK902, HB⟩ := hcut
  cases kq with
  | zero => exact absurd HA.out (by simp [footbridgeref12_Same.j0])
  | succ kj2 =>
   have H := HA.out
   clear HA
   simp only [footbridgeref12_Same.j0] at H
   by_cases c26 : x41_2 = true
   · subst c26
     have H1 : (some false) = some r := by rw [if_pos rfl] at H; exact H
     clear H
     have H := H1
     clear H1
     obtain rfl := Option.some.inj H
     go_wp2
     repeat (go_quiet (fail); try go_wp2)
     go_ret
     exact ⟨by first | rfl | (simp [errW_none, errW_some] <;> rfl) | (simp [*, errW_none, errW_some] <;> rfl), by repeat (first | (with_reducible first | exact HB.out | apply pbA | apply pbN | apply pbD | refine pbS ?_ GE901.out | refine pbS ?_ GE902.out) | exact HB.out)⟩
   · replace c26 := Bool.eq_false_iff.mpr c26
     subst c26
     have H1 : (footbridgeref12_Same.l0 kj2 0 a0_0 a0_1 a0_2 l0_3 l0_4 a1_0 a1_1 a1_2 l1_3 l1_4) = some r := by rw [if_neg (show ¬ (false = true) by decide)] at H; exact H
     clear H
     have H := H1
     clear H1
     have H' := Aside0.mk H
     clear H
     go_wp2
     repeat (go_quiet (fail); try go_wp2)
     go_loopg [5] kj2 (fun kq v5 w' => ∃ (x5_2 : Int), v5 = .int .i64 x5_2 ∧ Aside0 (footbridgeref12_Same.l0 kq x5_2 a0_0 a0_1 a0_2 l0_3 l0_4 a1_0 a1_1 a1_2 l1_3 l1_4 = some r) ∧ Aside0 (kq ≤ kj2) ∧ Aside0 (w'.heap[gb901]? = some (.cells #[.int .i64 a0_0, .int .i64 a0_1, .bool a0_2, (.slice A0_3 l0_3.length c0_3), (.slice A0_4 l0_4.length c0_4)] 82 (0, 0))) ∧ Aside0 (w'.heap[gb902]? = some (.cells #[.int .i64 a1_0, .int .i64 a1_1, .bool a1_2, (.slice A1_3 l1_3.length c1_3), (.slice A1_4 l1_4.length c1_4)] 82 (0, 0))) ∧ Aside0 (Below w.heap.size w w'))
     case atStart => exact ⟨(0), (by first | rfl | (simp; done) | (simp [*]; done)), H', ⟨Nat.le_refl _⟩, ⟨by (with_reducible repeat (first | refine pkN ?_ _ | refine pkD ?_ | refine pkA ?_ _)); exact BK901.out⟩, ⟨by (with_reducible repeat (first | refine pkN ?_ _ | refine pkD ?_ | refine pkA ?_ _)); exact BK902.out⟩, ⟨by repeat (first | (with_reducible first | exact HB.out | apply pbA | apply pbN | apply pbD | refine pbS ?_ GE901.out | refine pbS ?_ GE902.out) | exact HB.out)⟩⟩
     case round =>
      clear H'
      try clear c1
      try clear c2
      try clear p2
      try clear c5
      try clear c6
      try clear c6b0
      try clear c6b1
      try clear c7
      try clear c7b0
      try clear c7b1
      try clear c8
      try clear c8b0
      try clear c8b1
      try clear c8b2
      try clear c9
      try clear c13
      try clear c14
      try clear c17
      try clear c20
      try clear c23
      try clear c26
      try clear hcz10_0
      try clear hcz10_1
      try clear hcz10_2
      try clear hcz10_3
      try clear hcz10_4
      try clear hcz11_0
      try clear hcz11_1
      try clear hcz11_2
      try clear hcz11_3
      try clear hcz11_4
      try clear hcz15_0
      try clear hcz15_1
      try clear hcz15_2
      try clear hcz15_3
      try clear hcz15_4
      try clear hcz16_0
      try clear hcz16_1
      try clear hcz16_2
      try clear hcz16_3
      try clear hcz16_4
      try clear hcz18_0
      try clear hcz18_1
      try clear hcz18_2
      try clear hcz18_3
      try clear hcz18_4
      try clear hcz19_0
      try clear hcz19_1
      try clear hcz19_2
      try clear hcz19_3
      try clear hcz19_4
      try clear hcz21_0
      try clear hcz21_1
      try clear hcz21_2
      try clear hcz21_3
      try clear hcz21_4
      try clear hcz22_0
      try clear hcz22_1
      try clear hcz22_2
      try clear hcz22_3
      try clear hcz22_4
      try clear hcz24_0
      try clear hcz24_1
      try clear hcz24_2
      try clear hcz24_3
      try clear hcz24_4
      try clear hcz25_0
      try clear hcz25_1
      try clear hcz25_2
      try clear hcz25_3
      try clear hcz25_4
      try clear hfz10_0
      try clear hfz10_1
      try clear hfz10_2
      try clear hfz10_3
      try clear hfz10_4
      try clear hfz11_0
      try clear hfz11_1
      try clear hfz11_2
      try clear hfz11_3
      try clear hfz11_4
      try clear hfz15_0
      try clear hfz15_1
      try clear hfz15_2
      try clear hfz15_3
      try clear hfz15_4
      try clear hfz16_0
      try clear hfz16_1
      try clear hfz16_2
      try clear hfz16_3
      try clear hfz16_4
      try clear hfz18_0
      try clear hfz18_1
      try clear hfz18_2
      try clear hfz18_3
      try clear hfz18_4
      try clear hfz19_0
      try clear hfz19_1
      try clear hfz19_2
      try clear hfz19_3
      try clear hfz19_4
      try clear hfz21_0
      try clear hfz21_1
      try clear hfz21_2
      try clear hfz21_3
      try clear hfz21_4
      try clear hfz22_0
      try clear hfz22_1
      try clear hfz22_2
      try clear hfz22_3
      try clear hfz22_4
      try clear hfz24_0
      try clear hfz24_1
      try clear hfz24_2
      try clear hfz24_3
      try clear hfz24_4
      try clear hfz25_0
      try clear hfz25_1
      try clear hfz25_2
      try clear hfz25_3
      try clear hfz25_4
      try clear p2
      obtain ⟨x5_2, rfl, HA, HK2, BK901, BK902, HB⟩ := hrel
      cases gk with
      | zero => exact absurd HA.out (by simp [footbridgeref12_Same.l0])
      | succ k2 =>
       have H := HA.out
       clear HA
       simp only [footbridgeref12_Same.l0] at H
       by_cases c27 : x5_2 < (l0_4.length : Int)
       · rw [if_pos c27] at H
         have c27b0 : decide (x5_2 < (l0_4.length : Int)) = true := decide_eq_true c27
         clear c27
         by_cases c28 : 0 ≤ x5_2
         · rw [if_pos c28] at H
           have c28b0 : decide (0 ≤ x5_2) = true := decide_eq_true c28
           clear c28
           by_cases c29 : x5_2 < (l1_4.length : Int)
           · rw [if_pos c29] at H
             have c29b0 : decide (x5_2 < (l1_4.length : Int)) = true := decide_eq_true c29
             clear c29
             replace H := Option.bind_eq_some_iff.mp H
             obtain ⟨t906, A300, H⟩ := H
             replace H : (if t906 = true then (footbridgeref12_Same.l0 k2 (wrap64 (x5_2 + 1)) a0_0 a0_1 a0_2 l0_3 l0_4 a1_0 a1_1 a1_2 l1_3 l1_4) else (some false)) = some r := H
             have A30 := Aside0.mk A300
             clear A300
             by_cases c31 : t906 = true
             · subst c31
               have H1 : (footbridgeref12_Same.l0 k2 (wrap64 (x5_2 + 1)) a0_0 a0_1 a0_2 l0_3 l0_4 a1_0 a1_1 a1_2 l1_3 l1_4) = some r := by rw [if_pos rfl] at H; exact H
               clear H
               have H := H1
               clear H1
               have H' := Aside0.mk H
               clear H
               have hnb32 := NB901_902.out
               have hnc32 := NB902_901.out
               have hcz33_0 : wr.cell? ⟨gb901, 0, none⟩ = some (.int .i64 a0_0) := (pkC BK901.out 0).trans rfl
               have hcz33_1 : wr.cell? ⟨gb901, 1, none⟩ = some (.int .i64 a0_1) := (pkC BK901.out 1).trans rfl
               have hcz33_2 : wr.cell? ⟨gb901, 2, none⟩ = some (.bool a0_2) := (pkC BK901.out 2).trans rfl
               have hcz33_3 : wr.cell? ⟨gb901, 3, none⟩ = some (.slice A0_3 l0_3.length c0_3) := (pkC BK901.out 3).trans rfl
               have hcz33_4 : wr.cell? ⟨gb901, 4, none⟩ = some (.slice A0_4 l0_4.length c0_4) := (pkC BK901.out 4).trans rfl
               have hfz33_0 := pkF BK901.out 0
               have hfz33_1 := pkF BK901.out 1
               have hfz33_2 := pkF BK901.out 2
               have hfz33_3 := pkF BK901.out 3
               have hfz33_4 := pkF BK901.out 4
               have p904 : 0 ≤ (x5_2 : Int) := of_decide_eq_true (by first | (with_reducible assumption) | assumption)
               have q904 : x5_2 < (l0_4.length : Int) := of_decide_eq_true (by first | (with_reducible assumption) | assumption)
               obtain ⟨ad904, A904_0, c904_0, e904, hx904_0, hl904_0, hi904_0⟩ := at_L10 HR0_4.out x5_2 p904 q904
               cases e904
               replace hx904_0 := (HB.out.cell (World.block_lt_of_cell? w _ hx904_0)).trans hx904_0
               have HR904_0 := Aside0.mk hi904_0
               have HC904_0 := Aside0.mk hl904_0
               clear hi904_0 hl904_0
               replace p904 := eq_true p904
               replace q904 := eq_true q904
               have hcz34_0 : wr.cell? ⟨gb902, 0, none⟩ = some (.int .i64 a1_0) := (pkC BK902.out 0).trans rfl
               have hcz34_1 : wr.cell? ⟨gb902, 1, none⟩ = some (.int .i64 a1_1) := (pkC BK902.out 1).trans rfl
               have hcz34_2 : wr.cell? ⟨gb902, 2, none⟩ = some (.bool a1_2) := (pkC BK902.out 2).trans rfl
               have hcz34_3 : wr.cell? ⟨gb902, 3, none⟩ = some (.slice A1_3 l1_3.length c1_3) := (pkC BK902.out 3).trans rfl
               have hcz34_4 : wr.cell? ⟨gb902, 4, none⟩ = some (.slice A1_4 l1_4.length c1_4) := (pkC BK902.out 4).trans rfl
               have hfz34_0 := pkF BK902.out 0
               have hfz34_1 := pkF BK902.out 1
               have hfz34_2 := pkF BK902.out 2
               have hfz34_3 := pkF BK902.out 3
               have hfz34_4 := pkF BK902.out 4
               have p905 : 0 ≤ (x5_2 : Int) := of_decide_eq_true (by first | (with_reducible assumption) | assumption)
               have q905 : x5_2 < (l1_4.length : Int) := of_decide_eq_true (by first | (with_reducible assumption) | assumption)
               obtain ⟨ad905, A905_0, c905_0, e905, hx905_0, hl905_0, hi905_0⟩ := at_L10 HR1_4.out x5_2 p905 q905
               cases e905
               replace hx905_0 := (HB.out.cell (World.block_lt_of_cell? w _ hx905_0)).trans hx905_0
               have HR905_0 := Aside0.mk hi905_0
               have HC905_0 := Aside0.mk hl905_0
               clear hi905_0 hl905_0
               replace p905 := eq_true p905
               replace q905 := eq_true q905
               go_wp2_with (first | (go_at_call 117; (with_reducible refine (footbridgeref01_Texts.calls k2 _ _ (rd_L10 l0_4 x5_2) _ _ (rd_L10 l1_4 x5_2) true _ ?side1 ?side2 ?side3 ?side4 A30.out).mono ?_); (case side1 => repeat (first | exact (Kd.C_below HR904_0.out HB.out) | (with_reducible refine Kd.C_alloc ?_ _) | (with_reducible refine Kd.C_drewN ?_ _) | (with_reducible refine Kd.C_drew ?_))); (case side2 => exact HC904_0.out); (case side3 => repeat (first | exact (Kd.C_below HR905_0.out HB.out) | (with_reducible refine Kd.C_alloc ?_ _) | (with_reducible refine Kd.C_drewN ?_ _) | (with_reducible refine Kd.C_drew ?_))); (case side4 => exact HC905_0.out); rintro e w' ⟨rfl, ⟨nd, rfl⟩⟩; (try first | exact ⟨rfl, _, World.drewN_drewN _ _ _⟩ | exact ⟨rfl, _, Eq.trans (World.drewN_drewN _ _ _) (congrArg (World.drewN _) (Nat.add_assoc _ _ _))⟩)))
               repeat (go_quiet (first | (go_at_call 117; (with_reducible refine (footbridgeref01_Texts.calls k2 _ _ (rd_L10 l0_4 x5_2) _ _ (rd_L10 l1_4 x5_2) true _ ?side1 ?side2 ?side3 ?side4 A30.out).mono ?_); (case side1 => repeat (first | exact (Kd.C_below HR904_0.out HB.out) | (with_reducible refine Kd.C_alloc ?_ _) | (with_reducible refine Kd.C_drewN ?_ _) | (with_reducible refine Kd.C_drew ?_))); (case side2 => exact HC904_0.out); (case side3 => repeat (first | exact (Kd.C_below HR905_0.out HB.out) | (with_reducible refine Kd.C_alloc ?_ _) | (with_reducible refine Kd.C_drewN ?_ _) | (with_reducible refine Kd.C_drew ?_))); (case side4 => exact HC905_0.out); rintro e w' ⟨rfl, ⟨nd, rfl⟩⟩; (try first | exact ⟨rfl, _, World.drewN_drewN _ _ _⟩ | exact ⟨rfl, _, Eq.trans (World.drewN_drewN _ _ _) (congrArg (World.drewN _) (Nat.add_assoc _ _ _))⟩))); try go_wp2_with (first | (go_at_call 117; (with_reducible refine (footbridgeref01_Texts.calls k2 _ _ (rd_L10 l0_4 x5_2) _ _ (rd_L10 l1_4 x5_2) true _ ?side1 ?side2 ?side3 ?side4 A30.out).mono ?_); (case side1 => repeat (first | exact (Kd.C_below HR904_0.out HB.out) | (with_reducible refine Kd.C_alloc ?_ _) | (with_reducible refine Kd.C_drewN ?_ _) | (with_reducible refine Kd.C_drew ?_))); (case side2 => exact HC904_0.out); (case side3 => repeat (first | exact (Kd.C_below HR905_0.out HB.out) | (with_reducible refine Kd.C_alloc ?_ _) | (with_reducible refine Kd.C_drewN ?_ _) | (with_reducible refine Kd.C_drew ?_))); (case side4 => exact HC905_0.out); rintro e w' ⟨rfl, ⟨nd, rfl⟩⟩; (try first | exact ⟨rfl, _, World.drewN_drewN _ _ _⟩ | exact ⟨rfl, _, Eq.trans (World.drewN_drewN _ _ _) (congrArg (World.drewN _) (Nat.add_assoc _ _ _))⟩))))
               go_roundg k2
               case measure => have := HJ2.out; have := HK2.out; omega
               case rel => exact ⟨(wrap64 (x5_2 + 1)), (by first | rfl | (simp; done) | (simp [*]; done)), H', ⟨by have := HJ2.out; have := HK2.out; omega⟩, ⟨by (with_reducible repeat (first | refine pkN ?_ _ | refine pkD ?_ | refine pkA ?_ _)); exact BK901.out⟩, ⟨by (with_reducible repeat (first | refine pkN ?_ _ | refine pkD ?_ | refine pkA ?_ _)); exact BK902.out⟩, ⟨by repeat (first | (with_reducible first | exact HB.out | apply pbA | apply pbN | apply pbD | refine pbS ?_ GE901.out | refine pbS ?_ GE902.out) | exact HB.out)⟩⟩
             · replace c31 := Bool.eq_false_iff.mpr c31
               subst c31
               have H1 : (some false) = some r := by rw [if_neg (show ¬ (false = true) by decide)] at H; exact H
               clear H
               have H := H1
               clear H1
               obtain rfl := Option.some.inj H
               have hnb35 := NB901_902.out
               have hnc35 := NB902_901.out
               have hcz36_0 : wr.cell? ⟨gb901, 0, none⟩ = some (.int .i64 a0_0) := (pkC BK901.out 0).trans rfl
               have hcz36_1 : wr.cell? ⟨gb901, 1, none⟩ = some (.int .i64 a0_1) := (pkC BK901.out 1).trans rfl
               have hcz36_2 : wr.cell? ⟨gb901, 2, none⟩ = some (.bool a0_2) := (pkC BK901.out 2).trans rfl
               have hcz36_3 : wr.cell? ⟨gb901, 3, none⟩ = some (.slice A0_3 l0_3.length c0_3) := (pkC BK901.out 3).trans rfl
               have hcz36_4 : wr.cell? ⟨gb901, 4, none⟩ = some (.slice A0_4 l0_4.length c0_4) := (pkC BK901.out 4).trans rfl
               have hfz36_0 := pkF BK901.out 0
               have hfz36_1 := pkF BK901.out 1
               have hfz36_2 := pkF BK901.out 2
               have hfz36_3 := pkF BK901.out 3
               have hfz36_4 := pkF BK901.out 4
               have p904 : 0 ≤ (x5_2 : Int) := of_decide_eq_true (by first | (with_reducible assumption) | assumption)
               have q904 : x5_2 < (l0_4.length : Int) := of_decide_eq_true (by first | (with_reducible assumption) | assumption)
               obtain ⟨ad904, A904_0, c904_0, e904, hx904_0, hl904_0, hi904_0⟩ := at_L10 HR0_4.out x5_2 p904 q904
               cases e904
               replace hx904_0 := (HB.out.cell (World.block_lt_of_cell? w _ hx904_0)).trans hx904_0
               have HR904_0 := Aside0.mk hi904_0
               have HC904_0 := Aside0.mk hl904_0
               clear hi904_0 hl904_0
               replace p904 := eq_true p904
               replace q904 := eq_true q904
               have hcz37_0 : wr.cell? ⟨gb902, 0, none⟩ = some (.int .i64 a1_0) := (pkC BK902.out 0).trans rfl
               have hcz37_1 : wr.cell? ⟨gb902, 1, none⟩ = some (.int .i64 a1_1) := (pkC BK902.out 1).trans rfl
               have hcz37_2 : wr.cell? ⟨gb902, 2, none⟩ = some (.bool a1_2) := (pkC BK902.out 2).trans rfl
               have hcz37_3 : wr.cell? ⟨gb902, 3, none⟩ = some (.slice A1_3 l1_3.length c1_3) := (pkC BK902.out 3).trans rfl
               have hcz37_4 : wr.cell? ⟨gb902, 4, none⟩ = some (.slice A1_4 l1_4.length c1_4) := (pkC BK902.out 4).trans rfl
               have hfz37_0 := pkF BK902.out 0
               have hfz37_1 := pkF BK902.out 1
               have hfz37_2 := pkF BK902.out 2
               have hfz37_3 := pkF BK902.out 3
               have hfz37_4 := pkF BK902.out 4
               have p905 : 0 ≤ (x5_2 : Int) := of_decide_eq_true (by first | (with_reducible assumption) | assumption)
               have q905 : x5_2 < (l1_4.length : Int) := of_decide_eq_true (by first | (with_reducible assumption) | assumption)
               obtain ⟨ad905, A905_0, c905_0, e905, hx905_0, hl905_0, hi905_0⟩ := at_L10 HR1_4.out x5_2 p905 q905
               cases e905
               replace hx905_0 := (HB.out.cell (World.block_lt_of_cell? w _ hx905_0)).trans hx905_0
               have HR905_0 := Aside0.mk hi905_0
               have HC905_0 := Aside0.mk hl905_0
               clear hi905_0 hl905_0
               replace p905 := eq_true p905
               replace q905 := eq_true q905
               go_wp2_with (first | (go_at_call 117; (with_reducible refine (footbridgeref01_Texts.calls k2 _ _ (rd_L10 l0_4 x5_2) _ _ (rd_L10 l1_4 x5_2) false _ ?side1 ?side2 ?side3 ?side4 A30.out).mono ?_); (case side1 => repeat (first | exact (Kd.C_below HR904_0.out HB.out) | (with_reducible refine Kd.C_alloc ?_ _) | (with_reducible refine Kd.C_drewN ?_ _) | (with_reducible refine Kd.C_drew ?_))); (case side2 => exact HC904_0.out); (case side3 => repeat (first | exact (Kd.C_below HR905_0.out HB.out) | (with_reducible refine Kd.C_alloc ?_ _) | (with_reducible refine Kd.C_drewN ?_ _) | (with_reducible refine Kd.C_drew ?_))); (case side4 => exact HC905_0.out); rintro e w' ⟨rfl, ⟨nd, rfl⟩⟩; (try first | exact ⟨rfl, _, World.drewN_drewN _ _ _⟩ | exact ⟨rfl, _, Eq.trans (World.drewN_drewN _ _ _) (congrArg (World.drewN _) (Nat.add_assoc _ _ _))⟩)))
               repeat (go_quiet (first | (go_at_call 117; (with_reducible refine (footbridgeref01_Texts.calls k2 _ _ (rd_L10 l0_4 x5_2) _ _ (rd_L10 l1_4 x5_2) false _ ?side1 ?side2 ?side3 ?side4 A30.out).mono ?_); (case side1 => repeat (first | exact (Kd.C_below HR904_0.out HB.out) | (with_reducible refine Kd.C_alloc ?_ _) | (with_reducible refine Kd.C_drewN ?_ _) | (with_reducible refine Kd.C_drew ?_))); (case side2 => exact HC904_0.out); (case side3 => repeat (first | exact (Kd.C_below HR905_0.out HB.out) | (with_reducible refine Kd.C_alloc ?_ _) | (with_reducible refine Kd.C_drewN ?_ _) | (with_reducible refine Kd.C_drew ?_))); (case side4 => exact HC905_0.out); rintro e w' ⟨rfl, ⟨nd, rfl⟩⟩; (try first | exact ⟨rfl, _, World.drewN_drewN _ _ _⟩ | exact ⟨rfl, _, Eq.trans (World.drewN_drewN _ _ _) (congrArg (World.drewN _) (Nat.add_assoc _ _ _))⟩))); try go_wp2_with (first | (go_at_call 117; (with_reducible refine (footbridgeref01_Texts.calls k2 _ _ (rd_L10 l0_4 x5_2) _ _ (rd_L10 l1_4 x5_2) false _ ?side1 ?side2 ?side3 ?side4 A30.out).mono ?_); (case side1 => repeat (first | exact (Kd.C_below HR904_0.out HB.out) | (with_reducible refine Kd.C_alloc ?_ _) | (with_reducible refine Kd.C_drewN ?_ _) | (with_reducible refine Kd.C_drew ?_))); (case side2 => exact HC904_0.out); (case side3 => repeat (first | exact (Kd.C_below HR905_0.out HB.out) | (with_reducible refine Kd.C_alloc ?_ _) | (with_reducible refine Kd.C_drewN ?_ _) | (with_reducible refine Kd.C_drew ?_))); (case side4 => exact HC905_0.out); rintro e w' ⟨rfl, ⟨nd, rfl⟩⟩; (try first | exact ⟨rfl, _, World.drewN_drewN _ _ _⟩ | exact ⟨rfl, _, Eq.trans (World.drewN_drewN _ _ _) (congrArg (World.drewN _) (Nat.add_assoc _ _ _))⟩))))
               go_ret
               exact ⟨by first | rfl | (simp [errW_none, errW_some] <;> rfl) | (simp [*, errW_none, errW_some] <;> rfl), by repeat (first | (with_reducible first | exact HB.out | apply pbA | apply pbN | apply pbD | refine pbS ?_ GE901.out | refine pbS ?_ GE902.out) | exact HB.out)⟩
           · rw [if_neg c29] at H
             exact absurd H (by simp)
         · rw [if_neg c28] at H
           exact absurd H (by simp)
       · rw [if_neg c27] at H
         have c27b0 : decide (x5_2 < (l0_4.length : Int)) = false := decide_eq_false c27
         clear c27
         obtain rfl := Option.some.inj H
         have hnb38 := NB901_902.out
         have hnc38 := NB902_901.out
         have hcz39_0 : wr.cell? ⟨gb901, 0, none⟩ = some (.int .i64 a0_0) := (pkC BK901.out 0).trans rfl
         have hcz39_1 : wr.cell? ⟨gb901, 1, none⟩ = some (.int .i64 a0_1) := (pkC BK901.out 1).trans rfl
         have hcz39_2 : wr.cell? ⟨gb901, 2, none⟩ = some (.bool a0_2) := (pkC BK901.out 2).trans rfl
         have hcz39_3 : wr.cell? ⟨gb901, 3, none⟩ = some (.slice A0_3 l0_3.length c0_3) := (pkC BK901.out 3).trans rfl
         have hcz39_4 : wr.cell? ⟨gb901, 4, none⟩ = some (.slice A0_4 l0_4.length c0_4) := (pkC BK901.out 4).trans rfl
         have hfz39_0 := pkF BK901.out 0
         have hfz39_1 := pkF BK901.out 1
         have hfz39_2 := pkF BK901.out 2
         have hfz39_3 := pkF BK901.out 3
         have hfz39_4 := pkF BK901.out 4
         go_wp2
         repeat (go_quiet (fail); try go_wp2)
         go_ret
         exact ⟨by first | rfl | (simp [errW_none, errW_some] <;> rfl) | (simp [*, errW_none, errW_some] <;> rfl), by repeat (first | (with_reducible first | exact HB.out | apply pbA | apply pbN | apply pbD | refine pbS ?_ GE901.out | refine pbS ?_ GE902.out) | exact HB.out)⟩
end Go.Proofs.Ytipgldfbjlhpoab.P
