-- Made by wip/myprint.py of this repository, with the kit's print program, out of the translation: lines written by a program for this claim.
import Derived.Test.YtipgldfbjlhpoabP0
import Derived.Test.YtipgldfbjlhpoabPRWireL
namespace Go.Proofs.Ytipgldfbjlhpoab.P
open Go.RowKit Go.Proofs.YtipgldfbjlhpoabW.PrintWords Go.Proofs.YtipgldfbjlhpoabW.PrintLast Go.Proofs.YtipgldfbjlhpoabW.PrintMore
attribute [local go_sem] max2_int min2_int max_two min_two max_three min_three max_four min_four   -- for this text's walks alone
set_option linter.unusedVariables false
set_option linter.unusedSimpArgs false

/-! ### footbridgeref37_Same: function 49 -/
mutual
def footbridgeref37_Same.j0 : Nat → Bool → Int → ByteArray → List ByteArray → List ByteArray → List Int → Int → ByteArray → List ByteArray → List ByteArray → List Int → Option (Bool)
  | 0, _, _, _, _, _, _, _, _, _, _, _ => none
  | k + 1, x42, x759000, x759001, x759002, x759003, x759004, x760000, x760001, x760002, x760003, x760004 => if x42 = true then (some false) else (footbridgeref37_Same.l0 k 0 x759000 x759001 x759002 x759003 x759004 x760000 x760001 x760002 x760003 x760004)
def footbridgeref37_Same.l0 : Nat → Int → Int → ByteArray → List ByteArray → List ByteArray → List Int → Int → ByteArray → List ByteArray → List ByteArray → List Int → Option (Bool)
  | 0, _, _, _, _, _, _, _, _, _, _, _ => none
  | k + 1, x5, x759000, x759001, x759002, x759003, x759004, x760000, x760001, x760002, x760003, x760004 => if x5 < (x759004.length : Int) then (if 0 ≤ x5 then (if x5 < (x760004.length : Int) then (if (rd x759004 x5) = (rd x760004 x5) then (footbridgeref37_Same.l0 k (wrap64 (x5 + 1)) x759000 x759001 x759002 x759003 x759004 x760000 x760001 x760002 x760003 x760004) else (some false)) else (none)) else (none)) else (some true)
end
def footbridgeref37_Same.f (k : Nat) (a0_0 : Int) (a0_1 : ByteArray) (l0_2 : List ByteArray) (l0_3 : List ByteArray) (l0_4 : List Int) (a1_0 : Int) (a1_1 : ByteArray) (l1_2 : List ByteArray) (l1_3 : List ByteArray) (l1_4 : List Int) : Option (Bool) := if a0_0 = a1_0 then (if a0_1.toList = a1_1.toList then (if (l0_4.length : Int) = (l1_4.length : Int) then ((footbridgeref01_Texts.f k l0_2 l1_2).bind fun t760 => (if t760 = true then ((footbridgeref01_Texts.f k l0_3 l1_3).bind fun t761 => (footbridgeref37_Same.j0 k (!t761) a0_0 a0_1 l0_2 l0_3 l0_4 a1_0 a1_1 l1_2 l1_3 l1_4)) else (footbridgeref37_Same.j0 k true a0_0 a0_1 l0_2 l0_3 l0_4 a1_0 a1_1 l1_2 l1_3 l1_4))) else (footbridgeref37_Same.j0 k true a0_0 a0_1 l0_2 l0_3 l0_4 a1_0 a1_1 l1_2 l1_3 l1_4)) else (footbridgeref37_Same.j0 k true a0_0 a0_1 l0_2 l0_3 l0_4 a1_0 a1_1 l1_2 l1_3 l1_4)) else (footbridgeref37_Same.j0 k true a0_0 a0_1 l0_2 l0_3 l0_4 a1_0 a1_1 l1_2 l1_3 l1_4)
theorem footbridgeref37_Same.mono_l : ∀ k, (∀ y0 y1 y2 y3 y4 y5 y6 y7 y8 y9 y10, LeO (footbridgeref37_Same.j0 k y0 y1 y2 y3 y4 y5 y6 y7 y8 y9 y10) (footbridgeref37_Same.j0 (k + 1) y0 y1 y2 y3 y4 y5 y6 y7 y8 y9 y10)) ∧ (∀ y0 y1 y2 y3 y4 y5 y6 y7 y8 y9 y10, LeO (footbridgeref37_Same.l0 k y0 y1 y2 y3 y4 y5 y6 y7 y8 y9 y10) (footbridgeref37_Same.l0 (k + 1) y0 y1 y2 y3 y4 y5 y6 y7 y8 y9 y10))
  | 0 => ⟨fun _ _ _ _ _ _ _ _ _ _ _ r h => by simp [footbridgeref37_Same.j0] at h, fun _ _ _ _ _ _ _ _ _ _ _ r h => by simp [footbridgeref37_Same.l0] at h⟩
  | k + 1 => by
    obtain ⟨ih0, ih1⟩ := footbridgeref37_Same.mono_l k
    refine ⟨?_, ?_⟩
    · intro y0 y1 y2 y3 y4 y5 y6 y7 y8 y9 y10
      unfold footbridgeref37_Same.j0
      repeat' first
      | (with_reducible exact ih0 _ _ _ _ _ _ _ _ _ _ _)
      | (with_reducible exact ih1 _ _ _ _ _ _ _ _ _ _ _)
      | (with_reducible exact footbridgeref01_Texts.mono _ _ _)
      | (with_reducible exact LeO.refl _)
      | (with_reducible exact LeO.none _)
      | (with_reducible refine LeO.ite ?_ ?_)
      | (with_reducible refine LeO.bind ?_ (fun _ => ?_))
      | exact ih0 _ _ _ _ _ _ _ _ _ _ _
      | exact ih1 _ _ _ _ _ _ _ _ _ _ _
      | exact footbridgeref01_Texts.mono _ _ _
      | exact LeO.none _
      | refine LeO.ite ?_ ?_
      | refine LeO.bind ?_ (fun _ => ?_)
    · intro y0 y1 y2 y3 y4 y5 y6 y7 y8 y9 y10
      unfold footbridgeref37_Same.l0
      repeat' first
      | (with_reducible exact ih0 _ _ _ _ _ _ _ _ _ _ _)
      | (with_reducible exact ih1 _ _ _ _ _ _ _ _ _ _ _)
      | (with_reducible exact footbridgeref01_Texts.mono _ _ _)
      | (with_reducible exact LeO.refl _)
      | (with_reducible exact LeO.none _)
      | (with_reducible refine LeO.ite ?_ ?_)
      | (with_reducible refine LeO.bind ?_ (fun _ => ?_))
      | exact ih0 _ _ _ _ _ _ _ _ _ _ _
      | exact ih1 _ _ _ _ _ _ _ _ _ _ _
      | exact footbridgeref01_Texts.mono _ _ _
      | exact LeO.none _
      | refine LeO.ite ?_ ?_
      | refine LeO.bind ?_ (fun _ => ?_)
theorem footbridgeref37_Same.mono : ∀ a0 a1 a2 a3 a4 a5 a6 a7 a8 a9 k, LeO (footbridgeref37_Same.f k a0 a1 a2 a3 a4 a5 a6 a7 a8 a9) (footbridgeref37_Same.f (k + 1) a0 a1 a2 a3 a4 a5 a6 a7 a8 a9) := by
  intro a0 a1 a2 a3 a4 a5 a6 a7 a8 a9 k
  obtain ⟨ih0, ih1⟩ := footbridgeref37_Same.mono_l k
  unfold footbridgeref37_Same.f
  repeat' first
      | (with_reducible exact ih0 _ _ _ _ _ _ _ _ _ _ _)
      | (with_reducible exact ih1 _ _ _ _ _ _ _ _ _ _ _)
      | (with_reducible exact footbridgeref01_Texts.mono _ _ _)
      | (with_reducible exact LeO.refl _)
      | (with_reducible exact LeO.none _)
      | (with_reducible refine LeO.ite ?_ ?_)
      | (with_reducible refine LeO.bind ?_ (fun _ => ?_))
      | exact ih0 _ _ _ _ _ _ _ _ _ _ _
      | exact ih1 _ _ _ _ _ _ _ _ _ _ _
      | exact footbridgeref01_Texts.mono _ _ _
      | exact LeO.none _
      | refine LeO.ite ?_ ?_
      | refine LeO.bind ?_ (fun _ => ?_)
set_option maxHeartbeats 8000000 in
set_option maxRecDepth 100000 in
theorem footbridgeref37_Same.calls (k : Nat) (a0_0 : Int) (a0_1 : ByteArray) (A0_2 : Option Addr) (c0_2 : Nat) (l0_2 : List ByteArray) (A0_3 : Option Addr) (c0_3 : Nat) (l0_3 : List ByteArray) (A0_4 : Option Addr) (c0_4 : Nat) (l0_4 : List Int) (a1_0 : Int) (a1_1 : ByteArray) (A1_2 : Option Addr) (c1_2 : Nat) (l1_2 : List ByteArray) (A1_3 : Option Addr) (c1_3 : Nat) (l1_3 : List ByteArray) (A1_4 : Option Addr) (c1_4 : Nat) (l1_4 : List Int) (r : Bool) (w : World) (hr0_2 : Kd.C Kd.string w A0_2 l0_2.length l0_2) (hc0_2 : l0_2.length ≤ c0_2) (hr0_3 : Kd.C Kd.string w A0_3 l0_3.length l0_3) (hc0_3 : l0_3.length ≤ c0_3) (hr0_4 : Kd.C (Kd.int .i64) w A0_4 l0_4.length l0_4) (hc0_4 : l0_4.length ≤ c0_4) (hr1_2 : Kd.C Kd.string w A1_2 l1_2.length l1_2) (hc1_2 : l1_2.length ≤ c1_2) (hr1_3 : Kd.C Kd.string w A1_3 l1_3.length l1_3) (hc1_3 : l1_3.length ≤ c1_3) (hr1_4 : Kd.C (Kd.int .i64) w A1_4 l1_4.length l1_4) (hc1_4 : l1_4.length ≤ c1_4) (h : footbridgeref37_Same.f k a0_0 a0_1 l0_2 l0_3 l0_4 a1_0 a1_1 l1_2 l1_3 l1_4 = some r) :
    Calls Try.prog 49 #[.agg #[.int .i64 a0_0, .string a0_1, .slice A0_2 l0_2.length c0_2, .slice A0_3 l0_3.length c0_3, .slice A0_4 l0_4.length c0_4], .agg #[.int .i64 a1_0, .string a1_1, .slice A1_2 l1_2.length c1_2, .slice A1_3 l1_3.length c1_3, .slice A1_4 l1_4.length c1_4]] w fun e w' => e = .returned (.bool r) ∧ Below w.heap.size w w' := by
  have hu66 := Try.underlying66
  have HR0_2 := Aside0.mk hr0_2
  have HC0_2 := Aside0.mk hc0_2
  clear hr0_2 hc0_2
  have HR0_3 := Aside0.mk hr0_3
  have HC0_3 := Aside0.mk hc0_3
  clear hr0_3 hc0_3
  have HR0_4 := Aside0.mk hr0_4
  have HC0_4 := Aside0.mk hc0_4
  clear hr0_4 hc0_4
  have HR1_2 := Aside0.mk hr1_2
  have HC1_2 := Aside0.mk hc1_2
  clear hr1_2 hc1_2
  have HR1_3 := Aside0.mk hr1_3
  have HC1_3 := Aside0.mk hc1_3
  clear hr1_3 hc1_3
  have HR1_4 := Aside0.mk hr1_4
  have HC1_4 := Aside0.mk hc1_4
  clear hr1_4 hc1_4
  have HB := Aside0.mk (Below.refl w.heap.size w)
  have H : (if a0_0 = a1_0 then (if a0_1.toList = a1_1.toList then (if (l0_4.length : Int) = (l1_4.length : Int) then ((footbridgeref01_Texts.f k l0_2 l1_2).bind fun t760 => (if t760 = true then ((footbridgeref01_Texts.f k l0_3 l1_3).bind fun t761 => (footbridgeref37_Same.j0 k (!t761) a0_0 a0_1 l0_2 l0_3 l0_4 a1_0 a1_1 l1_2 l1_3 l1_4)) else (footbridgeref37_Same.j0 k true a0_0 a0_1 l0_2 l0_3 l0_4 a1_0 a1_1 l1_2 l1_3 l1_4))) else (footbridgeref37_Same.j0 k true a0_0 a0_1 l0_2 l0_3 l0_4 a1_0 a1_1 l1_2 l1_3 l1_4)) else (footbridgeref37_Same.j0 k true a0_0 a0_1 l0_2 l0_3 l0_4 a1_0 a1_1 l1_2 l1_3 l1_4)) else (footbridgeref37_Same.j0 k true a0_0 a0_1 l0_2 l0_3 l0_4 a1_0 a1_1 l1_2 l1_3 l1_4)) = some r := h
  clear h
  have HC3 := Aside0.mk H
  clear H
  go_enter Try.func49, Try.ntmps49
  go_upto_region 1 with (first | ((with_reducible refine gate_dst (N := 2) rfl ?_); refine box_event ?hg (N := 2) ?hd (cs := #[.int .i64 a0_0, .string a0_1, .slice A0_2 l0_2.length c0_2, .slice A0_3 l0_3.length c0_3, .slice A0_4 l0_4.length c0_4]) (t := 66) ?hr ?_; (case hd => rfl); (case hg => rfl); (case hr => first | (go_simp; done) | (go_simp; rfl)); intro gb758 hg w4 hbox hb; have n0_ := Aside0.mk (below_step (by repeat (first | (with_reducible first | exact HB.out | apply below_alloc | apply pw_below_drewN | apply below_drew1) | exact HB.out)) hb); have n1_ := Aside0.mk (hbox); have n2_ := Aside0.mk ((by rw [hg]; exact (below_size (by repeat (first | (with_reducible first | exact HB.out | apply below_alloc | apply pw_below_drewN | apply below_drew1) | exact HB.out))) : w.heap.size ≤ gb758)); have n3_ := Aside0.mk ((by rw [hg]; exact (below_size (by repeat (first | (with_reducible first | exact HB.out | apply below_alloc | apply pw_below_drewN | apply below_drew1) | exact HB.out))) : w.heap.size ≤ gb758)); clear HB; have HB := n0_; have BK758 := n1_; have GW758 := n2_; have GE758 := n3_; clear n0_ n1_ n2_ n3_; clear hb hbox hg) | ((with_reducible refine gate_dst (N := 3) rfl ?_); refine box_event ?hg (N := 3) ?hd (cs := #[.int .i64 a1_0, .string a1_1, .slice A1_2 l1_2.length c1_2, .slice A1_3 l1_3.length c1_3, .slice A1_4 l1_4.length c1_4]) (t := 66) ?hr ?_; (case hd => rfl); (case hg => rfl); (case hr => first | (go_simp; done) | (go_simp; rfl)); intro gb759 hg w5 hbox hb; have n0_ := Aside0.mk (blk_below (g := gb758) (o := .cells #[.int .i64 a0_0, .string a0_1, .slice A0_2 l0_2.length c0_2, .slice A0_3 l0_3.length c0_3, .slice A0_4 l0_4.length c0_4] 66 (0, 0)) (by (with_reducible repeat (first | refine blk_drewN ?_ _ | refine blk_drew ?_ | refine blk_alloc ?_ _)); exact BK758.out) hb); have n1_ := Aside0.mk (below_step (by repeat (first | (with_reducible first | exact HB.out | apply below_alloc | apply pw_below_drewN | apply below_drew1 | refine below_set ?_ GE758.out) | exact HB.out)) hb); have n2_ := Aside0.mk (hbox); have n3_ := Aside0.mk ((by rw [hg]; exact (below_size (by repeat (first | (with_reducible first | exact HB.out | apply below_alloc | apply pw_below_drewN | apply below_drew1 | refine below_set ?_ GE758.out) | exact HB.out))) : w.heap.size ≤ gb759)); have n4_ := Aside0.mk ((by rw [hg]; exact (below_size (by repeat (first | (with_reducible first | exact HB.out | apply below_alloc | apply pw_below_drewN | apply below_drew1 | refine below_set ?_ GE758.out) | exact HB.out))) : w.heap.size ≤ gb759)); have n5_ := Aside0.mk ((by rw [hg]; exact Nat.ne_of_lt (blk_lt (g := gb758) (o := .cells #[.int .i64 a0_0, .string a0_1, .slice A0_2 l0_2.length c0_2, .slice A0_3 l0_3.length c0_3, .slice A0_4 l0_4.length c0_4] 66 (0, 0)) (by (with_reducible repeat (first | refine blk_drewN ?_ _ | refine blk_drew ?_ | refine blk_alloc ?_ _)); exact BK758.out)) : gb758 ≠ gb759)); have n6_ := Aside0.mk ((by rw [hg]; exact Nat.ne_of_gt (blk_lt (g := gb758) (o := .cells #[.int .i64 a0_0, .string a0_1, .slice A0_2 l0_2.length c0_2, .slice A0_3 l0_3.length c0_3, .slice A0_4 l0_4.length c0_4] 66 (0, 0)) (by (with_reducible repeat (first | refine blk_drewN ?_ _ | refine blk_drew ?_ | refine blk_alloc ?_ _)); exact BK758.out)) : gb759 ≠ gb758)); clear BK758; clear HB; have BK758 := n0_; have HB := n1_; have BK759 := n2_; have GW759 := n3_; have GE759 := n4_; have NB758_759 := n5_; have NB759_758 := n6_; clear n0_ n1_ n2_ n3_ n4_ n5_ n6_; clear hb hbox hg))
  repeat (go_quiet (first | ((with_reducible refine gate_dst (N := 2) rfl ?_); refine box_event ?hg (N := 2) ?hd (cs := #[.int .i64 a0_0, .string a0_1, .slice A0_2 l0_2.length c0_2, .slice A0_3 l0_3.length c0_3, .slice A0_4 l0_4.length c0_4]) (t := 66) ?hr ?_; (case hd => rfl); (case hg => rfl); (case hr => first | (go_simp; done) | (go_simp; rfl)); intro gb758 hg w4 hbox hb; have n0_ := Aside0.mk (below_step (by repeat (first | (with_reducible first | exact HB.out | apply below_alloc | apply pw_below_drewN | apply below_drew1) | exact HB.out)) hb); have n1_ := Aside0.mk (hbox); have n2_ := Aside0.mk ((by rw [hg]; exact (below_size (by repeat (first | (with_reducible first | exact HB.out | apply below_alloc | apply pw_below_drewN | apply below_drew1) | exact HB.out))) : w.heap.size ≤ gb758)); have n3_ := Aside0.mk ((by rw [hg]; exact (below_size (by repeat (first | (with_reducible first | exact HB.out | apply below_alloc | apply pw_below_drewN | apply below_drew1) | exact HB.out))) : w.heap.size ≤ gb758)); clear HB; have HB := n0_; have BK758 := n1_; have GW758 := n2_; have GE758 := n3_; clear n0_ n1_ n2_ n3_; clear hb hbox hg) | ((with_reducible refine gate_dst (N := 3) rfl ?_); refine box_event ?hg (N := 3) ?hd (cs := #[.int .i64 a1_0, .string a1_1, .slice A1_2 l1_2.length c1_2, .slice A1_3 l1_3.length c1_3, .slice A1_4 l1_4.length c1_4]) (t := 66) ?hr ?_; (case hd => rfl); (case hg => rfl); (case hr => first | (go_simp; done) | (go_simp; rfl)); intro gb759 hg w5 hbox hb; have n0_ := Aside0.mk (blk_below (g := gb758) (o := .cells #[.int .i64 a0_0, .string a0_1, .slice A0_2 l0_2.length c0_2, .slice A0_3 l0_3.length c0_3, .slice A0_4 l0_4.length c0_4] 66 (0, 0)) (by (with_reducible repeat (first | refine blk_drewN ?_ _ | refine blk_drew ?_ | refine blk_alloc ?_ _)); exact BK758.out) hb); have n1_ := Aside0.mk (below_step (by repeat (first | (with_reducible first | exact HB.out | apply below_alloc | apply pw_below_drewN | apply below_drew1 | refine below_set ?_ GE758.out) | exact HB.out)) hb); have n2_ := Aside0.mk (hbox); have n3_ := Aside0.mk ((by rw [hg]; exact (below_size (by repeat (first | (with_reducible first | exact HB.out | apply below_alloc | apply pw_below_drewN | apply below_drew1 | refine below_set ?_ GE758.out) | exact HB.out))) : w.heap.size ≤ gb759)); have n4_ := Aside0.mk ((by rw [hg]; exact (below_size (by repeat (first | (with_reducible first | exact HB.out | apply below_alloc | apply pw_below_drewN | apply below_drew1 | refine below_set ?_ GE758.out) | exact HB.out))) : w.heap.size ≤ gb759)); have n5_ := Aside0.mk ((by rw [hg]; exact Nat.ne_of_lt (blk_lt (g := gb758) (o := .cells #[.int .i64 a0_0, .string a0_1, .slice A0_2 l0_2.length c0_2, .slice A0_3 l0_3.length c0_3, .slice A0_4 l0_4.length c0_4] 66 (0, 0)) (by (with_reducible repeat (first | refine blk_drewN ?_ _ | refine blk_drew ?_ | refine blk_alloc ?_ _)); exact BK758.out)) : gb758 ≠ gb759)); have n6_ := Aside0.mk ((by rw [hg]; exact Nat.ne_of_gt (blk_lt (g := gb758) (o := .cells #[.int .i64 a0_0, .string a0_1, .slice A0_2 l0_2.length c0_2, .slice A0_3 l0_3.length c0_3, .slice A0_4 l0_4.length c0_4] 66 (0, 0)) (by (with_reducible repeat (first | refine blk_drewN ?_ _ | refine blk_drew ?_ | refine blk_alloc ?_ _)); exact BK758.out)) : gb759 ≠ gb758)); clear BK758; clear HB; have BK758 := n0_; have HB := n1_; have BK759 := n2_; have GW759 := n3_; have GE759 := n4_; have NB758_759 := n5_; have NB759_758 := n6_; clear n0_ n1_ n2_ n3_ n4_ n5_ n6_; clear hb hbox hg)); go_upto_region 1 with (first | ((with_reducible refine gate_dst (N := 2) rfl ?_); refine box_event ?hg (N := 2) ?hd (cs := #[.int .i64 a0_0, .string a0_1, .slice A0_2 l0_2.length c0_2, .slice A0_3 l0_3.length c0_3, .slice A0_4 l0_4.length c0_4]) (t := 66) ?hr ?_; (case hd => rfl); (case hg => rfl); (case hr => first | (go_simp; done) | (go_simp; rfl)); intro gb758 hg w4 hbox hb; have n0_ := Aside0.mk (below_step (by repeat (first | (with_reducible first | exact HB.out | apply below_alloc | apply pw_below_drewN | apply below_drew1) | exact HB.out)) hb); have n1_ := Aside0.mk (hbox); have n2_ := Aside0.mk ((by rw [hg]; exact (below_size (by repeat (first | (with_reducible first | exact HB.out | apply below_alloc | apply pw_below_drewN | apply below_drew1) | exact HB.out))) : w.heap.size ≤ gb758)); have n3_ := Aside0.mk ((by rw [hg]; exact (below_size (by repeat (first | (with_reducible first | exact HB.out | apply below_alloc | apply pw_below_drewN | apply below_drew1) | exact HB.out))) : w.heap.size ≤ gb758)); clear HB; have HB := n0_; have BK758 := n1_; have GW758 := n2_; have GE758 := n3_; clear n0_ n1_ n2_ n3_; clear hb hbox hg) | ((with_reducible refine gate_dst (N := 3) rfl ?_); refine box_event ?hg (N := 3) ?hd (cs := #[.int .i64 a1_0, .string a1_1, .slice A1_2 l1_2.length c1_2, .slice A1_3 l1_3.length c1_3, .slice A1_4 l1_4.length c1_4]) (t := 66) ?hr ?_; (case hd => rfl); (case hg => rfl); (case hr => first | (go_simp; done) | (go_simp; rfl)); intro gb759 hg w5 hbox hb; have n0_ := Aside0.mk (blk_below (g := gb758) (o := .cells #[.int .i64 a0_0, .string a0_1, .slice A0_2 l0_2.length c0_2, .slice A0_3 l0_3.length c0_3, .slice A0_4 l0_4.length c0_4] 66 (0, 0)) (by (with_reducible repeat (first | refine blk_drewN ?_ _ | refine blk_drew ?_ | refine blk_alloc ?_ _)); exact BK758.out) hb); have n1_ := Aside0.mk (below_step (by repeat (first | (with_reducible first | exact HB.out | apply below_alloc | apply pw_below_drewN | apply below_drew1 | refine below_set ?_ GE758.out) | exact HB.out)) hb); have n2_ := Aside0.mk (hbox); have n3_ := Aside0.mk ((by rw [hg]; exact (below_size (by repeat (first | (with_reducible first | exact HB.out | apply below_alloc | apply pw_below_drewN | apply below_drew1 | refine below_set ?_ GE758.out) | exact HB.out))) : w.heap.size ≤ gb759)); have n4_ := Aside0.mk ((by rw [hg]; exact (below_size (by repeat (first | (with_reducible first | exact HB.out | apply below_alloc | apply pw_below_drewN | apply below_drew1 | refine below_set ?_ GE758.out) | exact HB.out))) : w.heap.size ≤ gb759)); have n5_ := Aside0.mk ((by rw [hg]; exact Nat.ne_of_lt (blk_lt (g := gb758) (o := .cells #[.int .i64 a0_0, .string a0_1, .slice A0_2 l0_2.length c0_2, .slice A0_3 l0_3.length c0_3, .slice A0_4 l0_4.length c0_4] 66 (0, 0)) (by (with_reducible repeat (first | refine blk_drewN ?_ _ | refine blk_drew ?_ | refine blk_alloc ?_ _)); exact BK758.out)) : gb758 ≠ gb759)); have n6_ := Aside0.mk ((by rw [hg]; exact Nat.ne_of_gt (blk_lt (g := gb758) (o := .cells #[.int .i64 a0_0, .string a0_1, .slice A0_2 l0_2.length c0_2, .slice A0_3 l0_3.length c0_3, .slice A0_4 l0_4.length c0_4] 66 (0, 0)) (by (with_reducible repeat (first | refine blk_drewN ?_ _ | refine blk_drew ?_ | refine blk_alloc ?_ _)); exact BK758.out)) : gb759 ≠ gb758)); clear BK758; clear HB; have BK758 := n0_; have HB := n1_; have BK759 := n2_; have GW759 := n3_; have GE759 := n4_; have NB758_759 := n5_; have NB759_758 := n6_; clear n0_ n1_ n2_ n3_ n4_ n5_ n6_; clear hb hbox hg)))
  (try simp only [Act.put, List.setIfInBounds_toArray, List.set_cons_zero, List.set_cons_succ])
  go_cut [42] (fun v42 wc => ∃ (kq : Nat) (x42_2 : Bool), v42 = .bool x42_2 ∧ Aside0 (footbridgeref37_Same.j0 kq x42_2 a0_0 a0_1 l0_2 l0_3 l0_4 a1_0 a1_1 l1_2 l1_3 l1_4 = some r) ∧ Aside0 (kq ≤ k) ∧ Aside0 (wc.heap[gb758]? = some (.cells #[.int .i64 a0_0, .string a0_1, (.slice A0_2 l0_2.length c0_2), (.slice A0_3 l0_3.length c0_3), (.slice A0_4 l0_4.length c0_4)] 66 (0, 0))) ∧ Aside0 (wc.heap[gb759]? = some (.cells #[.int .i64 a1_0, .string a1_1, (.slice A1_2 l1_2.length c1_2), (.slice A1_3 l1_3.length c1_3), (.slice A1_4 l1_4.length c1_4)] 66 (0, 0))) ∧ Aside0 (Below w.heap.size w wc))
  case first =>
    have H := HC3.out
    clear HC3
    by_cases c6 : a0_0 = a1_0
    · rw [if_pos c6] at H
      have c6b0 : (a0_0 == a1_0) = true := beq_iff_eq.mpr c6
      have c6b1 : (a0_0 != a1_0) = false := bne_eq_false_iff_eq.mpr c6
      clear c6
      (first | rw [c6b0] | (simp only [i64_w, i32_w]; rw [c6b0]) | skip)
      by_cases c7 : a0_1.toList = a1_1.toList
      · rw [if_pos c7] at H
        have c7b0 : (a0_1.toList == a1_1.toList) = true := beq_iff_eq.mpr c7
        have c7b1 : (a0_1.toList != a1_1.toList) = false := bne_eq_false_iff_eq.mpr c7
        clear c7
        by_cases c8 : (l0_4.length : Int) = (l1_4.length : Int)
        · rw [if_pos c8] at H
          have c8b0 : ((l0_4.length : Int) == (l1_4.length : Int)) = true := beq_iff_eq.mpr c8
          have c8b1 : ((l0_4.length : Int) != (l1_4.length : Int)) = false := bne_eq_false_iff_eq.mpr c8
          have c8b2 : (l0_4.length == l1_4.length) = true := by first | simpa using c8 | (simp at c8 ⊢; omega)
          clear c8
          replace H := Option.bind_eq_some_iff.mp H
          obtain ⟨t760, A90, H⟩ := H
          replace H : (if t760 = true then ((footbridgeref01_Texts.f k l0_3 l1_3).bind fun t761 => (footbridgeref37_Same.j0 k (!t761) a0_0 a0_1 l0_2 l0_3 l0_4 a1_0 a1_1 l1_2 l1_3 l1_4)) else (footbridgeref37_Same.j0 k true a0_0 a0_1 l0_2 l0_3 l0_4 a1_0 a1_1 l1_2 l1_3 l1_4)) = some r := H
          have A9 := Aside0.mk A90
          clear A90
          by_cases c10 : t760 = true
          · subst c10
            have H1 : ((footbridgeref01_Texts.f k l0_3 l1_3).bind fun t761 => (footbridgeref37_Same.j0 k (!t761) a0_0 a0_1 l0_2 l0_3 l0_4 a1_0 a1_1 l1_2 l1_3 l1_4)) = some r := by rw [if_pos rfl] at H; exact H
            clear H
            have H := H1
            clear H1
            replace H := Option.bind_eq_some_iff.mp H
            obtain ⟨t761, A110, H⟩ := H
            replace H : (footbridgeref37_Same.j0 k (!t761) a0_0 a0_1 l0_2 l0_3 l0_4 a1_0 a1_1 l1_2 l1_3 l1_4) = some r := H
            have A11 := Aside0.mk A110
            clear A110
            have H' := Aside0.mk H
            clear H
            have hnb12 := NB758_759.out
            have hnc12 := NB759_758.out
            have hcz13_0 : w5.cell? ⟨gb758, 0, none⟩ = some (.int .i64 a0_0) := (blk_cell BK758.out 0).trans rfl
            have hcz13_1 : w5.cell? ⟨gb758, 1, none⟩ = some (.string a0_1) := (blk_cell BK758.out 1).trans rfl
            have hcz13_2 : w5.cell? ⟨gb758, 2, none⟩ = some (.slice A0_2 l0_2.length c0_2) := (blk_cell BK758.out 2).trans rfl
            have hcz13_3 : w5.cell? ⟨gb758, 3, none⟩ = some (.slice A0_3 l0_3.length c0_3) := (blk_cell BK758.out 3).trans rfl
            have hcz13_4 : w5.cell? ⟨gb758, 4, none⟩ = some (.slice A0_4 l0_4.length c0_4) := (blk_cell BK758.out 4).trans rfl
            have hfz13_0 := blk_frozen BK758.out 0
            have hfz13_1 := blk_frozen BK758.out 1
            have hfz13_2 := blk_frozen BK758.out 2
            have hfz13_3 := blk_frozen BK758.out 3
            have hfz13_4 := blk_frozen BK758.out 4
            have hcz14_0 : w5.cell? ⟨gb759, 0, none⟩ = some (.int .i64 a1_0) := (blk_cell BK759.out 0).trans rfl
            have hcz14_1 : w5.cell? ⟨gb759, 1, none⟩ = some (.string a1_1) := (blk_cell BK759.out 1).trans rfl
            have hcz14_2 : w5.cell? ⟨gb759, 2, none⟩ = some (.slice A1_2 l1_2.length c1_2) := (blk_cell BK759.out 2).trans rfl
            have hcz14_3 : w5.cell? ⟨gb759, 3, none⟩ = some (.slice A1_3 l1_3.length c1_3) := (blk_cell BK759.out 3).trans rfl
            have hcz14_4 : w5.cell? ⟨gb759, 4, none⟩ = some (.slice A1_4 l1_4.length c1_4) := (blk_cell BK759.out 4).trans rfl
            have hfz14_0 := blk_frozen BK759.out 0
            have hfz14_1 := blk_frozen BK759.out 1
            have hfz14_2 := blk_frozen BK759.out 2
            have hfz14_3 := blk_frozen BK759.out 3
            have hfz14_4 := blk_frozen BK759.out 4
            go_wp2_with (first | (go_at_call 117; (with_reducible refine (footbridgeref01_Texts.calls k _ _ l0_2 _ _ l1_2 true _ ?side1 ?side2 ?side3 ?side4 A9.out).mono ?_); (case side1 => repeat (first | exact (Kd.C_below HR0_2.out HB.out) | (with_reducible refine Kd.C_alloc ?_ _) | (with_reducible refine Kd.C_drewN ?_ _) | (with_reducible refine Kd.C_drew ?_))); (case side2 => exact HC0_2.out); (case side3 => repeat (first | exact (Kd.C_below HR1_2.out HB.out) | (with_reducible refine Kd.C_alloc ?_ _) | (with_reducible refine Kd.C_drewN ?_ _) | (with_reducible refine Kd.C_drew ?_))); (case side4 => exact HC1_2.out); rintro e w' ⟨rfl, ⟨nd, rfl⟩⟩; (try first | exact ⟨rfl, _, World.drewN_drewN _ _ _⟩ | exact ⟨rfl, _, Eq.trans (World.drewN_drewN _ _ _) (congrArg (World.drewN _) (Nat.add_assoc _ _ _))⟩)) | (go_at_call 117; (with_reducible refine (footbridgeref01_Texts.calls k _ _ l0_3 _ _ l1_3 t761 _ ?side1 ?side2 ?side3 ?side4 A11.out).mono ?_); (case side1 => repeat (first | exact (Kd.C_below HR0_3.out (by repeat (first | (with_reducible first | exact HB.out | apply below_alloc | apply pw_below_drewN | apply below_drew1 | refine below_set ?_ GE758.out | refine below_set ?_ GE759.out) | exact HB.out))) | (with_reducible refine Kd.C_alloc ?_ _) | (with_reducible refine Kd.C_drewN ?_ _) | (with_reducible refine Kd.C_drew ?_))); (case side2 => exact HC0_3.out); (case side3 => repeat (first | exact (Kd.C_below HR1_3.out (by repeat (first | (with_reducible first | exact HB.out | apply below_alloc | apply pw_below_drewN | apply below_drew1 | refine below_set ?_ GE758.out | refine below_set ?_ GE759.out) | exact HB.out))) | (with_reducible refine Kd.C_alloc ?_ _) | (with_reducible refine Kd.C_drewN ?_ _) | (with_reducible refine Kd.C_drew ?_))); (case side4 => exact HC1_3.out); rintro e w' ⟨rfl, ⟨nd, rfl⟩⟩; (try first | exact ⟨rfl, _, World.drewN_drewN _ _ _⟩ | exact ⟨rfl, _, Eq.trans (World.drewN_drewN _ _ _) (congrArg (World.drewN _) (Nat.add_assoc _ _ _))⟩)))
            repeat (go_quiet (first | (go_at_call 117; (with_reducible refine (footbridgeref01_Texts.calls k _ _ l0_2 _ _ l1_2 true _ ?side1 ?side2 ?side3 ?side4 A9.out).mono ?_); (case side1 => repeat (first | exact (Kd.C_below HR0_2.out HB.out) | (with_reducible refine Kd.C_alloc ?_ _) | (with_reducible refine Kd.C_drewN ?_ _) | (with_reducible refine Kd.C_drew ?_))); (case side2 => exact HC0_2.out); (case side3 => repeat (first | exact (Kd.C_below HR1_2.out HB.out) | (with_reducible refine Kd.C_alloc ?_ _) | (with_reducible refine Kd.C_drewN ?_ _) | (with_reducible refine Kd.C_drew ?_))); (case side4 => exact HC1_2.out); rintro e w' ⟨rfl, ⟨nd, rfl⟩⟩; (try first | exact ⟨rfl, _, World.drewN_drewN _ _ _⟩ | exact ⟨rfl, _, Eq.trans (World.drewN_drewN _ _ _) (congrArg (World.drewN _) (Nat.add_assoc _ _ _))⟩)) | (go_at_call 117; (with_reducible refine (footbridgeref01_Texts.calls k _ _ l0_3 _ _ l1_3 t761 _ ?side1 ?side2 ?side3 ?side4 A11.out).mono ?_); (case side1 => repeat (first | exact (Kd.C_below HR0_3.out (by repeat (first | (with_reducible first | exact HB.out | apply below_alloc | apply pw_below_drewN | apply below_drew1 | refine below_set ?_ GE758.out | refine below_set ?_ GE759.out) | exact HB.out))) | (with_reducible refine Kd.C_alloc ?_ _) | (with_reducible refine Kd.C_drewN ?_ _) | (with_reducible refine Kd.C_drew ?_))); (case side2 => exact HC0_3.out); (case side3 => repeat (first | exact (Kd.C_below HR1_3.out (by repeat (first | (with_reducible first | exact HB.out | apply below_alloc | apply pw_below_drewN | apply below_drew1 | refine below_set ?_ GE758.out | refine below_set ?_ GE759.out) | exact HB.out))) | (with_reducible refine Kd.C_alloc ?_ _) | (with_reducible refine Kd.C_drewN ?_ _) | (with_reducible refine Kd.C_drew ?_))); (case side4 => exact HC1_3.out); rintro e w' ⟨rfl, ⟨nd, rfl⟩⟩; (try first | exact ⟨rfl, _, World.drewN_drewN _ _ _⟩ | exact ⟨rfl, _, Eq.trans (World.drewN_drewN _ _ _) (congrArg (World.drewN _) (Nat.add_assoc _ _ _))⟩))); try go_wp2_with (first | (go_at_call 117; (with_reducible refine (footbridgeref01_Texts.calls k _ _ l0_2 _ _ l1_2 true _ ?side1 ?side2 ?side3 ?side4 A9.out).mono ?_); (case side1 => repeat (first | exact (Kd.C_below HR0_2.out HB.out) | (with_reducible refine Kd.C_alloc ?_ _) | (with_reducible refine Kd.C_drewN ?_ _) | (with_reducible refine Kd.C_drew ?_))); (case side2 => exact HC0_2.out); (case side3 => repeat (first | exact (Kd.C_below HR1_2.out HB.out) | (with_reducible refine Kd.C_alloc ?_ _) | (with_reducible refine Kd.C_drewN ?_ _) | (with_reducible refine Kd.C_drew ?_))); (case side4 => exact HC1_2.out); rintro e w' ⟨rfl, ⟨nd, rfl⟩⟩; (try first | exact ⟨rfl, _, World.drewN_drewN _ _ _⟩ | exact ⟨rfl, _, Eq.trans (World.drewN_drewN _ _ _) (congrArg (World.drewN _) (Nat.add_assoc _ _ _))⟩)) | (go_at_call 117; (with_reducible refine (footbridgeref01_Texts.calls k _ _ l0_3 _ _ l1_3 t761 _ ?side1 ?side2 ?side3 ?side4 A11.out).mono ?_); (case side1 => repeat (first | exact (Kd.C_below HR0_3.out (by repeat (first | (with_reducible first | exact HB.out | apply below_alloc | apply pw_below_drewN | apply below_drew1 | refine below_set ?_ GE758.out | refine below_set ?_ GE759.out) | exact HB.out))) | (with_reducible refine Kd.C_alloc ?_ _) | (with_reducible refine Kd.C_drewN ?_ _) | (with_reducible refine Kd.C_drew ?_))); (case side2 => exact HC0_3.out); (case side3 => repeat (first | exact (Kd.C_below HR1_3.out (by repeat (first | (with_reducible first | exact HB.out | apply below_alloc | apply pw_below_drewN | apply below_drew1 | refine below_set ?_ GE758.out | refine below_set ?_ GE759.out) | exact HB.out))) | (with_reducible refine Kd.C_alloc ?_ _) | (with_reducible refine Kd.C_drewN ?_ _) | (with_reducible refine Kd.C_drew ?_))); (case side4 => exact HC1_3.out); rintro e w' ⟨rfl, ⟨nd, rfl⟩⟩; (try first | exact ⟨rfl, _, World.drewN_drewN _ _ _⟩ | exact ⟨rfl, _, Eq.trans (World.drewN_drewN _ _ _) (congrArg (World.drewN _) (Nat.add_assoc _ _ _))⟩))))
            go_meet
            case rel => exact ⟨_, (!t761), (by first | rfl | (simp; done) | (simp [*]; done)), H', ⟨by first | omega | exact Nat.le_refl _⟩, ⟨by (with_reducible repeat (first | refine blk_drewN ?_ _ | refine blk_drew ?_ | refine blk_alloc ?_ _)); exact BK758.out⟩, ⟨by (with_reducible repeat (first | refine blk_drewN ?_ _ | refine blk_drew ?_ | refine blk_alloc ?_ _)); exact BK759.out⟩, ⟨by repeat (first | (with_reducible first | exact HB.out | apply below_alloc | apply pw_below_drewN | apply below_drew1 | refine below_set ?_ GE758.out | refine below_set ?_ GE759.out) | exact HB.out)⟩⟩
          · replace c10 := Bool.eq_false_iff.mpr c10
            subst c10
            have H1 : (footbridgeref37_Same.j0 k true a0_0 a0_1 l0_2 l0_3 l0_4 a1_0 a1_1 l1_2 l1_3 l1_4) = some r := by rw [if_neg (show ¬ (false = true) by decide)] at H; exact H
            clear H
            have H := H1
            clear H1
            have H' := Aside0.mk H
            clear H
            have hnb15 := NB758_759.out
            have hnc15 := NB759_758.out
            have hcz16_0 : w5.cell? ⟨gb758, 0, none⟩ = some (.int .i64 a0_0) := (blk_cell BK758.out 0).trans rfl
            have hcz16_1 : w5.cell? ⟨gb758, 1, none⟩ = some (.string a0_1) := (blk_cell BK758.out 1).trans rfl
            have hcz16_2 : w5.cell? ⟨gb758, 2, none⟩ = some (.slice A0_2 l0_2.length c0_2) := (blk_cell BK758.out 2).trans rfl
            have hcz16_3 : w5.cell? ⟨gb758, 3, none⟩ = some (.slice A0_3 l0_3.length c0_3) := (blk_cell BK758.out 3).trans rfl
            have hcz16_4 : w5.cell? ⟨gb758, 4, none⟩ = some (.slice A0_4 l0_4.length c0_4) := (blk_cell BK758.out 4).trans rfl
            have hfz16_0 := blk_frozen BK758.out 0
            have hfz16_1 := blk_frozen BK758.out 1
            have hfz16_2 := blk_frozen BK758.out 2
            have hfz16_3 := blk_frozen BK758.out 3
            have hfz16_4 := blk_frozen BK758.out 4
            have hcz17_0 : w5.cell? ⟨gb759, 0, none⟩ = some (.int .i64 a1_0) := (blk_cell BK759.out 0).trans rfl
            have hcz17_1 : w5.cell? ⟨gb759, 1, none⟩ = some (.string a1_1) := (blk_cell BK759.out 1).trans rfl
            have hcz17_2 : w5.cell? ⟨gb759, 2, none⟩ = some (.slice A1_2 l1_2.length c1_2) := (blk_cell BK759.out 2).trans rfl
            have hcz17_3 : w5.cell? ⟨gb759, 3, none⟩ = some (.slice A1_3 l1_3.length c1_3) := (blk_cell BK759.out 3).trans rfl
            have hcz17_4 : w5.cell? ⟨gb759, 4, none⟩ = some (.slice A1_4 l1_4.length c1_4) := (blk_cell BK759.out 4).trans rfl
            have hfz17_0 := blk_frozen BK759.out 0
            have hfz17_1 := blk_frozen BK759.out 1
            have hfz17_2 := blk_frozen BK759.out 2
            have hfz17_3 := blk_frozen BK759.out 3
            have hfz17_4 := blk_frozen BK759.out 4
            go_wp2_with (first | (go_at_call 117; (with_reducible refine (footbridgeref01_Texts.calls k _ _ l0_2 _ _ l1_2 false _ ?side1 ?side2 ?side3 ?side4 A9.out).mono ?_); (case side1 => repeat (first | exact (Kd.C_below HR0_2.out HB.out) | (with_reducible refine Kd.C_alloc ?_ _) | (with_reducible refine Kd.C_drewN ?_ _) | (with_reducible refine Kd.C_drew ?_))); (case side2 => exact HC0_2.out); (case side3 => repeat (first | exact (Kd.C_below HR1_2.out HB.out) | (with_reducible refine Kd.C_alloc ?_ _) | (with_reducible refine Kd.C_drewN ?_ _) | (with_reducible refine Kd.C_drew ?_))); (case side4 => exact HC1_2.out); rintro e w' ⟨rfl, ⟨nd, rfl⟩⟩; (try first | exact ⟨rfl, _, World.drewN_drewN _ _ _⟩ | exact ⟨rfl, _, Eq.trans (World.drewN_drewN _ _ _) (congrArg (World.drewN _) (Nat.add_assoc _ _ _))⟩)))
            repeat (go_quiet (first | (go_at_call 117; (with_reducible refine (footbridgeref01_Texts.calls k _ _ l0_2 _ _ l1_2 false _ ?side1 ?side2 ?side3 ?side4 A9.out).mono ?_); (case side1 => repeat (first | exact (Kd.C_below HR0_2.out HB.out) | (with_reducible refine Kd.C_alloc ?_ _) | (with_reducible refine Kd.C_drewN ?_ _) | (with_reducible refine Kd.C_drew ?_))); (case side2 => exact HC0_2.out); (case side3 => repeat (first | exact (Kd.C_below HR1_2.out HB.out) | (with_reducible refine Kd.C_alloc ?_ _) | (with_reducible refine Kd.C_drewN ?_ _) | (with_reducible refine Kd.C_drew ?_))); (case side4 => exact HC1_2.out); rintro e w' ⟨rfl, ⟨nd, rfl⟩⟩; (try first | exact ⟨rfl, _, World.drewN_drewN _ _ _⟩ | exact ⟨rfl, _, Eq.trans (World.drewN_drewN _ _ _) (congrArg (World.drewN _) (Nat.add_assoc _ _ _))⟩))); try go_wp2_with (first | (go_at_call 117; (with_reducible refine (footbridgeref01_Texts.calls k _ _ l0_2 _ _ l1_2 false _ ?side1 ?side2 ?side3 ?side4 A9.out).mono ?_); (case side1 => repeat (first | exact (Kd.C_below HR0_2.out HB.out) | (with_reducible refine Kd.C_alloc ?_ _) | (with_reducible refine Kd.C_drewN ?_ _) | (with_reducible refine Kd.C_drew ?_))); (case side2 => exact HC0_2.out); (case side3 => repeat (first | exact (Kd.C_below HR1_2.out HB.out) | (with_reducible refine Kd.C_alloc ?_ _) | (with_reducible refine Kd.C_drewN ?_ _) | (with_reducible refine Kd.C_drew ?_))); (case side4 => exact HC1_2.out); rintro e w' ⟨rfl, ⟨nd, rfl⟩⟩; (try first | exact ⟨rfl, _, World.drewN_drewN _ _ _⟩ | exact ⟨rfl, _, Eq.trans (World.drewN_drewN _ _ _) (congrArg (World.drewN _) (Nat.add_assoc _ _ _))⟩))))
            go_meet
            case rel => exact ⟨_, (true), (by first | rfl | (simp; done) | (simp [*]; done)), H', ⟨by first | omega | exact Nat.le_refl _⟩, ⟨by (with_reducible repeat (first | refine blk_drewN ?_ _ | refine blk_drew ?_ | refine blk_alloc ?_ _)); exact BK758.out⟩, ⟨by (with_reducible repeat (first | refine blk_drewN ?_ _ | refine blk_drew ?_ | refine blk_alloc ?_ _)); exact BK759.out⟩, ⟨by repeat (first | (with_reducible first | exact HB.out | apply below_alloc | apply pw_below_drewN | apply below_drew1 | refine below_set ?_ GE758.out | refine below_set ?_ GE759.out) | exact HB.out)⟩⟩
        · rw [if_neg c8] at H
          have c8b0 : ((l0_4.length : Int) == (l1_4.length : Int)) = false := beq_eq_false_iff_ne.mpr c8
          have c8b1 : ((l0_4.length : Int) != (l1_4.length : Int)) = true := bne_iff_ne.mpr c8
          have c8b2 : (l0_4.length == l1_4.length) = false := by first | simpa using c8 | (simp at c8 ⊢; omega)
          have H' := Aside0.mk H
          clear H
          have hnb18 := NB758_759.out
          have hnc18 := NB759_758.out
          have hcz19_0 : w5.cell? ⟨gb758, 0, none⟩ = some (.int .i64 a0_0) := (blk_cell BK758.out 0).trans rfl
          have hcz19_1 : w5.cell? ⟨gb758, 1, none⟩ = some (.string a0_1) := (blk_cell BK758.out 1).trans rfl
          have hcz19_2 : w5.cell? ⟨gb758, 2, none⟩ = some (.slice A0_2 l0_2.length c0_2) := (blk_cell BK758.out 2).trans rfl
          have hcz19_3 : w5.cell? ⟨gb758, 3, none⟩ = some (.slice A0_3 l0_3.length c0_3) := (blk_cell BK758.out 3).trans rfl
          have hcz19_4 : w5.cell? ⟨gb758, 4, none⟩ = some (.slice A0_4 l0_4.length c0_4) := (blk_cell BK758.out 4).trans rfl
          have hfz19_0 := blk_frozen BK758.out 0
          have hfz19_1 := blk_frozen BK758.out 1
          have hfz19_2 := blk_frozen BK758.out 2
          have hfz19_3 := blk_frozen BK758.out 3
          have hfz19_4 := blk_frozen BK758.out 4
          have hcz20_0 : w5.cell? ⟨gb759, 0, none⟩ = some (.int .i64 a1_0) := (blk_cell BK759.out 0).trans rfl
          have hcz20_1 : w5.cell? ⟨gb759, 1, none⟩ = some (.string a1_1) := (blk_cell BK759.out 1).trans rfl
          have hcz20_2 : w5.cell? ⟨gb759, 2, none⟩ = some (.slice A1_2 l1_2.length c1_2) := (blk_cell BK759.out 2).trans rfl
          have hcz20_3 : w5.cell? ⟨gb759, 3, none⟩ = some (.slice A1_3 l1_3.length c1_3) := (blk_cell BK759.out 3).trans rfl
          have hcz20_4 : w5.cell? ⟨gb759, 4, none⟩ = some (.slice A1_4 l1_4.length c1_4) := (blk_cell BK759.out 4).trans rfl
          have hfz20_0 := blk_frozen BK759.out 0
          have hfz20_1 := blk_frozen BK759.out 1
          have hfz20_2 := blk_frozen BK759.out 2
          have hfz20_3 := blk_frozen BK759.out 3
          have hfz20_4 := blk_frozen BK759.out 4
          go_wp2
          repeat (go_quiet (fail); try go_wp2)
          go_meet
          case rel => exact ⟨_, (true), (by first | rfl | (simp; done) | (simp [*]; done)), H', ⟨by first | omega | exact Nat.le_refl _⟩, ⟨by (with_reducible repeat (first | refine blk_drewN ?_ _ | refine blk_drew ?_ | refine blk_alloc ?_ _)); exact BK758.out⟩, ⟨by (with_reducible repeat (first | refine blk_drewN ?_ _ | refine blk_drew ?_ | refine blk_alloc ?_ _)); exact BK759.out⟩, ⟨by repeat (first | (with_reducible first | exact HB.out | apply below_alloc | apply pw_below_drewN | apply below_drew1 | refine below_set ?_ GE758.out | refine below_set ?_ GE759.out) | exact HB.out)⟩⟩
      · rw [if_neg c7] at H
        have c7b0 : (a0_1.toList == a1_1.toList) = false := beq_eq_false_iff_ne.mpr c7
        have c7b1 : (a0_1.toList != a1_1.toList) = true := bne_iff_ne.mpr c7
        have H' := Aside0.mk H
        clear H
        have hnb21 := NB758_759.out
        have hnc21 := NB759_758.out
        have hcz22_0 : w5.cell? ⟨gb758, 0, none⟩ = some (.int .i64 a0_0) := (blk_cell BK758.out 0).trans rfl
        have hcz22_1 : w5.cell? ⟨gb758, 1, none⟩ = some (.string a0_1) := (blk_cell BK758.out 1).trans rfl
        have hcz22_2 : w5.cell? ⟨gb758, 2, none⟩ = some (.slice A0_2 l0_2.length c0_2) := (blk_cell BK758.out 2).trans rfl
        have hcz22_3 : w5.cell? ⟨gb758, 3, none⟩ = some (.slice A0_3 l0_3.length c0_3) := (blk_cell BK758.out 3).trans rfl
        have hcz22_4 : w5.cell? ⟨gb758, 4, none⟩ = some (.slice A0_4 l0_4.length c0_4) := (blk_cell BK758.out 4).trans rfl
        have hfz22_0 := blk_frozen BK758.out 0
        have hfz22_1 := blk_frozen BK758.out 1
        have hfz22_2 := blk_frozen BK758.out 2
        have hfz22_3 := blk_frozen BK758.out 3
        have hfz22_4 := blk_frozen BK758.out 4
        have hcz23_0 : w5.cell? ⟨gb759, 0, none⟩ = some (.int .i64 a1_0) := (blk_cell BK759.out 0).trans rfl
        have hcz23_1 : w5.cell? ⟨gb759, 1, none⟩ = some (.string a1_1) := (blk_cell BK759.out 1).trans rfl
        have hcz23_2 : w5.cell? ⟨gb759, 2, none⟩ = some (.slice A1_2 l1_2.length c1_2) := (blk_cell BK759.out 2).trans rfl
        have hcz23_3 : w5.cell? ⟨gb759, 3, none⟩ = some (.slice A1_3 l1_3.length c1_3) := (blk_cell BK759.out 3).trans rfl
        have hcz23_4 : w5.cell? ⟨gb759, 4, none⟩ = some (.slice A1_4 l1_4.length c1_4) := (blk_cell BK759.out 4).trans rfl
        have hfz23_0 := blk_frozen BK759.out 0
        have hfz23_1 := blk_frozen BK759.out 1
        have hfz23_2 := blk_frozen BK759.out 2
        have hfz23_3 := blk_frozen BK759.out 3
        have hfz23_4 := blk_frozen BK759.out 4
        go_wp2
        repeat (go_quiet (fail); try go_wp2)
        go_meet
        case rel => exact ⟨_, (true), (by first | rfl | (simp; done) | (simp [*]; done)), H', ⟨by first | omega | exact Nat.le_refl _⟩, ⟨by (with_reducible repeat (first | refine blk_drewN ?_ _ | refine blk_drew ?_ | refine blk_alloc ?_ _)); exact BK758.out⟩, ⟨by (with_reducible repeat (first | refine blk_drewN ?_ _ | refine blk_drew ?_ | refine blk_alloc ?_ _)); exact BK759.out⟩, ⟨by repeat (first | (with_reducible first | exact HB.out | apply below_alloc | apply pw_below_drewN | apply below_drew1 | refine below_set ?_ GE758.out | refine below_set ?_ GE759.out) | exact HB.out)⟩⟩
    · rw [if_neg c6] at H
      have c6b0 : (a0_0 == a1_0) = false := beq_eq_false_iff_ne.mpr c6
      have c6b1 : (a0_0 != a1_0) = true := bne_iff_ne.mpr c6
      (first | rw [c6b0] | (simp only [i64_w, i32_w]; rw [c6b0]) | skip)
      have H' := Aside0.mk H
      clear H
      have hnb24 := NB758_759.out
      have hnc24 := NB759_758.out
      have hcz25_0 : w5.cell? ⟨gb758, 0, none⟩ = some (.int .i64 a0_0) := (blk_cell BK758.out 0).trans rfl
      have hcz25_1 : w5.cell? ⟨gb758, 1, none⟩ = some (.string a0_1) := (blk_cell BK758.out 1).trans rfl
      have hcz25_2 : w5.cell? ⟨gb758, 2, none⟩ = some (.slice A0_2 l0_2.length c0_2) := (blk_cell BK758.out 2).trans rfl
      have hcz25_3 : w5.cell? ⟨gb758, 3, none⟩ = some (.slice A0_3 l0_3.length c0_3) := (blk_cell BK758.out 3).trans rfl
      have hcz25_4 : w5.cell? ⟨gb758, 4, none⟩ = some (.slice A0_4 l0_4.length c0_4) := (blk_cell BK758.out 4).trans rfl
      have hfz25_0 := blk_frozen BK758.out 0
      have hfz25_1 := blk_frozen BK758.out 1
      have hfz25_2 := blk_frozen BK758.out 2
      have hfz25_3 := blk_frozen BK758.out 3
      have hfz25_4 := blk_frozen BK758.out 4
      have hcz26_0 : w5.cell? ⟨gb759, 0, none⟩ = some (.int .i64 a1_0) := (blk_cell BK759.out 0).trans rfl
      have hcz26_1 : w5.cell? ⟨gb759, 1, none⟩ = some (.string a1_1) := (blk_cell BK759.out 1).trans rfl
      have hcz26_2 : w5.cell? ⟨gb759, 2, none⟩ = some (.slice A1_2 l1_2.length c1_2) := (blk_cell BK759.out 2).trans rfl
      have hcz26_3 : w5.cell? ⟨gb759, 3, none⟩ = some (.slice A1_3 l1_3.length c1_3) := (blk_cell BK759.out 3).trans rfl
      have hcz26_4 : w5.cell? ⟨gb759, 4, none⟩ = some (.slice A1_4 l1_4.length c1_4) := (blk_cell BK759.out 4).trans rfl
      have hfz26_0 := blk_frozen BK759.out 0
      have hfz26_1 := blk_frozen BK759.out 1
      have hfz26_2 := blk_frozen BK759.out 2
      have hfz26_3 := blk_frozen BK759.out 3
      have hfz26_4 := blk_frozen BK759.out 4
      go_wp2
      repeat (go_quiet (fail); try go_wp2)
      go_meet
      case rel => exact ⟨_, (true), (by first | rfl | (simp; done) | (simp [*]; done)), H', ⟨by first | omega | exact Nat.le_refl _⟩, ⟨by (with_reducible repeat (first | refine blk_drewN ?_ _ | refine blk_drew ?_ | refine blk_alloc ?_ _)); exact BK758.out⟩, ⟨by (with_reducible repeat (first | refine blk_drewN ?_ _ | refine blk_drew ?_ | refine blk_alloc ?_ _)); exact BK759.out⟩, ⟨by repeat (first | (with_reducible first | exact HB.out | apply below_alloc | apply pw_below_drewN | apply below_drew1 | refine below_set ?_ GE758.out | refine below_set ?_ GE759.out) | exact HB.out)⟩⟩
  case rest =>
    clear HC3
    try clear c1
    try clear c2
    try clear p2
    try clear c4
    try clear c6
    try clear c6b0
    try clear c6b1
    try clear c7
    try clear c7b0
    try clear c7b1
    try clear c8
    try clear c8b0
    try clear c8b1
    try clear c8b2
    try clear c10
    try clear c12
    try clear c15
    try clear c18
    try clear c21
    try clear c24
    try clear hcz13_0
    try clear hcz13_1
    try clear hcz13_2
    try clear hcz13_3
    try clear hcz13_4
    try clear hcz14_0
    try clear hcz14_1
    try clear hcz14_2
    try clear hcz14_3
    try clear hcz14_4
    try clear hcz16_0
    try clear hcz16_1
    try clear hcz16_2
    try clear hcz16_3
    try clear hcz16_4
    try clear hcz17_0
    try clear hcz17_1
    try clear hcz17_2
    try clear hcz17_3
    try clear hcz17_4
    try clear hcz19_0
    try clear hcz19_1
    try clear hcz19_2
    try clear hcz19_3
    try clear hcz19_4
    try clear hcz20_0
    try clear hcz20_1
    try clear hcz20_2
    try clear hcz20_3
    try clear hcz20_4
    try clear hcz22_0
    try clear hcz22_1
    try clear hcz22_2
    try clear hcz22_3
    try clear hcz22_4
    try clear hcz23_0
    try clear hcz23_1
    try clear hcz23_2
    try clear hcz23_3
    try clear hcz23_4
    try clear hcz25_0
    try clear hcz25_1
    try clear hcz25_2
    try clear hcz25_3
    try clear hcz25_4
    try clear hcz26_0
    try clear hcz26_1
    try clear hcz26_2
    try clear hcz26_3
    try clear hcz26_4
    try clear hfz13_0
    try clear hfz13_1
    try clear hfz13_2
    try clear hfz13_3
    try clear hfz13_4
    try clear hfz14_0
    try clear hfz14_1
    try clear hfz14_2
    try clear hfz14_3
    try clear hfz14_4
    try clear hfz16_0
    try clear hfz16_1
    try clear hfz16_2
    try clear hfz16_3
    try clear hfz16_4
    try clear hfz17_0
    try clear hfz17_1
    try clear hfz17_2
    try clear hfz17_3
    try clear hfz17_4
    try clear hfz19_0
    try clear hfz19_1
    try clear hfz19_2
    try clear hfz19_3
    try clear hfz19_4
    try clear hfz20_0
    try clear hfz20_1
    try clear hfz20_2
    try clear hfz20_3
    try clear hfz20_4
    try clear hfz22_0
    try clear hfz22_1
    try clear hfz22_2
    try clear hfz22_3
    try clear hfz22_4
    try clear hfz23_0
    try clear hfz23_1
    try clear hfz23_2
    try clear hfz23_3
    try clear hfz23_4
    try clear hfz25_0
    try clear hfz25_1
    try clear hfz25_2
    try clear hfz25_3
    try clear hfz25_4
    try clear hfz26_0
    try clear hfz26_1
    try clear hfz26_2
    try clear hfz26_3
    try clear hfz26_4
    obtain ⟨kq, x42_2, rfl, HA, HJ2, BK758, BK759, HB⟩ := hcut
    cases kq with
    | zero => exact absurd HA.out (by simp [footbridgeref37_Same.j0])
    | succ kj2 =>
      have H := HA.out
      clear HA
      simp only [footbridgeref37_Same.j0] at H
      by_cases c27 : x42_2 = true
      · subst c27
        have H1 : (some false) = some r := by rw [if_pos rfl] at H; exact H
        clear H
        have H := H1
        clear H1
        obtain rfl := Option.some.inj H
        go_wp2
        repeat (go_quiet (fail); try go_wp2)
        go_ret
        exact ⟨by first | rfl | (simp [errW_none, errW_some] <;> rfl) | (simp [*, errW_none, errW_some] <;> rfl), by repeat (first | (with_reducible first | exact HB.out | apply below_alloc | apply pw_below_drewN | apply below_drew1 | refine below_set ?_ GE758.out | refine below_set ?_ GE759.out) | exact HB.out)⟩
      · replace c27 := Bool.eq_false_iff.mpr c27
        subst c27
        have H1 : (footbridgeref37_Same.l0 kj2 0 a0_0 a0_1 l0_2 l0_3 l0_4 a1_0 a1_1 l1_2 l1_3 l1_4) = some r := by rw [if_neg (show ¬ (false = true) by decide)] at H; exact H
        clear H
        have H := H1
        clear H1
        have H' := Aside0.mk H
        clear H
        go_wp2
        repeat (go_quiet (fail); try go_wp2)
        go_loopg [5] kj2 (fun kq v5 w' => ∃ (x5_2 : Int), v5 = .int .i64 x5_2 ∧ Aside0 (footbridgeref37_Same.l0 kq x5_2 a0_0 a0_1 l0_2 l0_3 l0_4 a1_0 a1_1 l1_2 l1_3 l1_4 = some r) ∧ Aside0 (kq ≤ kj2) ∧ Aside0 (w'.heap[gb758]? = some (.cells #[.int .i64 a0_0, .string a0_1, (.slice A0_2 l0_2.length c0_2), (.slice A0_3 l0_3.length c0_3), (.slice A0_4 l0_4.length c0_4)] 66 (0, 0))) ∧ Aside0 (w'.heap[gb759]? = some (.cells #[.int .i64 a1_0, .string a1_1, (.slice A1_2 l1_2.length c1_2), (.slice A1_3 l1_3.length c1_3), (.slice A1_4 l1_4.length c1_4)] 66 (0, 0))) ∧ Aside0 (Below w.heap.size w w'))
        case atStart => exact ⟨(0), (by first | rfl | (simp; done) | (simp [*]; done)), H', ⟨Nat.le_refl _⟩, ⟨by (with_reducible repeat (first | refine blk_drewN ?_ _ | refine blk_drew ?_ | refine blk_alloc ?_ _)); exact BK758.out⟩, ⟨by (with_reducible repeat (first | refine blk_drewN ?_ _ | refine blk_drew ?_ | refine blk_alloc ?_ _)); exact BK759.out⟩, ⟨by repeat (first | (with_reducible first | exact HB.out | apply below_alloc | apply pw_below_drewN | apply below_drew1 | refine below_set ?_ GE758.out | refine below_set ?_ GE759.out) | exact HB.out)⟩⟩
        case round =>
          clear H'
          try clear c1
          try clear c2
          try clear p2
          try clear c4
          try clear c6
          try clear c6b0
          try clear c6b1
          try clear c7
          try clear c7b0
          try clear c7b1
          try clear c8
          try clear c8b0
          try clear c8b1
          try clear c8b2
          try clear c10
          try clear c12
          try clear c15
          try clear c18
          try clear c21
          try clear c24
          try clear c27
          try clear hcz13_0
          try clear hcz13_1
          try clear hcz13_2
          try clear hcz13_3
          try clear hcz13_4
          try clear hcz14_0
          try clear hcz14_1
          try clear hcz14_2
          try clear hcz14_3
          try clear hcz14_4
          try clear hcz16_0
          try clear hcz16_1
          try clear hcz16_2
          try clear hcz16_3
          try clear hcz16_4
          try clear hcz17_0
          try clear hcz17_1
          try clear hcz17_2
          try clear hcz17_3
          try clear hcz17_4
          try clear hcz19_0
          try clear hcz19_1
          try clear hcz19_2
          try clear hcz19_3
          try clear hcz19_4
          try clear hcz20_0
          try clear hcz20_1
          try clear hcz20_2
          try clear hcz20_3
          try clear hcz20_4
          try clear hcz22_0
          try clear hcz22_1
          try clear hcz22_2
          try clear hcz22_3
          try clear hcz22_4
          try clear hcz23_0
          try clear hcz23_1
          try clear hcz23_2
          try clear hcz23_3
          try clear hcz23_4
          try clear hcz25_0
          try clear hcz25_1
          try clear hcz25_2
          try clear hcz25_3
          try clear hcz25_4
          try clear hcz26_0
          try clear hcz26_1
          try clear hcz26_2
          try clear hcz26_3
          try clear hcz26_4
          try clear hfz13_0
          try clear hfz13_1
          try clear hfz13_2
          try clear hfz13_3
          try clear hfz13_4
          try clear hfz14_0
          try clear hfz14_1
          try clear hfz14_2
          try clear hfz14_3
          try clear hfz14_4
          try clear hfz16_0
          try clear hfz16_1
          try clear hfz16_2
          try clear hfz16_3
          try clear hfz16_4
          try clear hfz17_0
          try clear hfz17_1
          try clear hfz17_2
          try clear hfz17_3
          try clear hfz17_4
          try clear hfz19_0
          try clear hfz19_1
          try clear hfz19_2
          try clear hfz19_3
          try clear hfz19_4
          try clear hfz20_0
          try clear hfz20_1
          try clear hfz20_2
          try clear hfz20_3
          try clear hfz20_4
          try clear hfz22_0
          try clear hfz22_1
          try clear hfz22_2
          try clear hfz22_3
          try clear hfz22_4
          try clear hfz23_0
          try clear hfz23_1
          try clear hfz23_2
          try clear hfz23_3
          try clear hfz23_4
          try clear hfz25_0
          try clear hfz25_1
          try clear hfz25_2
          try clear hfz25_3
          try clear hfz25_4
          try clear hfz26_0
          try clear hfz26_1
          try clear hfz26_2
          try clear hfz26_3
          try clear hfz26_4
          try clear p2
          obtain ⟨x5_2, rfl, HA, HK2, BK758, BK759, HB⟩ := hrel
          cases gk with
          | zero => exact absurd HA.out (by simp [footbridgeref37_Same.l0])
          | succ k2 =>
            have H := HA.out
            clear HA
            simp only [footbridgeref37_Same.l0] at H
            by_cases c28 : x5_2 < (l0_4.length : Int)
            · rw [if_pos c28] at H
              have c28b0 : decide (x5_2 < (l0_4.length : Int)) = true := decide_eq_true c28
              clear c28
              by_cases c29 : 0 ≤ x5_2
              · rw [if_pos c29] at H
                have c29b0 : decide (0 ≤ x5_2) = true := decide_eq_true c29
                clear c29
                by_cases c30 : x5_2 < (l1_4.length : Int)
                · rw [if_pos c30] at H
                  have c30b0 : decide (x5_2 < (l1_4.length : Int)) = true := decide_eq_true c30
                  clear c30
                  by_cases c31 : (rd l0_4 x5_2) = (rd l1_4 x5_2)
                  · rw [if_pos c31] at H
                    have c31b0 : ((rd l0_4 x5_2) == (rd l1_4 x5_2)) = true := beq_iff_eq.mpr c31
                    have c31b1 : ((rd l0_4 x5_2) != (rd l1_4 x5_2)) = false := bne_eq_false_iff_eq.mpr c31
                    clear c31
                    have H' := Aside0.mk H
                    clear H
                    have hnb32 := NB758_759.out
                    have hnc32 := NB759_758.out
                    have hcz33_0 : wr.cell? ⟨gb758, 0, none⟩ = some (.int .i64 a0_0) := (blk_cell BK758.out 0).trans rfl
                    have hcz33_1 : wr.cell? ⟨gb758, 1, none⟩ = some (.string a0_1) := (blk_cell BK758.out 1).trans rfl
                    have hcz33_2 : wr.cell? ⟨gb758, 2, none⟩ = some (.slice A0_2 l0_2.length c0_2) := (blk_cell BK758.out 2).trans rfl
                    have hcz33_3 : wr.cell? ⟨gb758, 3, none⟩ = some (.slice A0_3 l0_3.length c0_3) := (blk_cell BK758.out 3).trans rfl
                    have hcz33_4 : wr.cell? ⟨gb758, 4, none⟩ = some (.slice A0_4 l0_4.length c0_4) := (blk_cell BK758.out 4).trans rfl
                    have hfz33_0 := blk_frozen BK758.out 0
                    have hfz33_1 := blk_frozen BK758.out 1
                    have hfz33_2 := blk_frozen BK758.out 2
                    have hfz33_3 := blk_frozen BK758.out 3
                    have hfz33_4 := blk_frozen BK758.out 4
                    have p762 : 0 ≤ (x5_2 : Int) := of_decide_eq_true (by first | (with_reducible assumption) | assumption)
                    have q762 : x5_2 < (l0_4.length : Int) := of_decide_eq_true (by first | (with_reducible assumption) | assumption)
                    obtain ⟨ad762, e762, hx762_0⟩ := Kd.at_int HR0_4.out x5_2 p762 q762
                    cases e762
                    replace hx762_0 := (HB.out.cell (World.block_lt_of_cell? w _ hx762_0)).trans hx762_0
                    replace p762 := eq_true p762
                    replace q762 := eq_true q762
                    have hcz34_0 : wr.cell? ⟨gb759, 0, none⟩ = some (.int .i64 a1_0) := (blk_cell BK759.out 0).trans rfl
                    have hcz34_1 : wr.cell? ⟨gb759, 1, none⟩ = some (.string a1_1) := (blk_cell BK759.out 1).trans rfl
                    have hcz34_2 : wr.cell? ⟨gb759, 2, none⟩ = some (.slice A1_2 l1_2.length c1_2) := (blk_cell BK759.out 2).trans rfl
                    have hcz34_3 : wr.cell? ⟨gb759, 3, none⟩ = some (.slice A1_3 l1_3.length c1_3) := (blk_cell BK759.out 3).trans rfl
                    have hcz34_4 : wr.cell? ⟨gb759, 4, none⟩ = some (.slice A1_4 l1_4.length c1_4) := (blk_cell BK759.out 4).trans rfl
                    have hfz34_0 := blk_frozen BK759.out 0
                    have hfz34_1 := blk_frozen BK759.out 1
                    have hfz34_2 := blk_frozen BK759.out 2
                    have hfz34_3 := blk_frozen BK759.out 3
                    have hfz34_4 := blk_frozen BK759.out 4
                    have p763 : 0 ≤ (x5_2 : Int) := of_decide_eq_true (by first | (with_reducible assumption) | assumption)
                    have q763 : x5_2 < (l1_4.length : Int) := of_decide_eq_true (by first | (with_reducible assumption) | assumption)
                    obtain ⟨ad763, e763, hx763_0⟩ := Kd.at_int HR1_4.out x5_2 p763 q763
                    cases e763
                    replace hx763_0 := (HB.out.cell (World.block_lt_of_cell? w _ hx763_0)).trans hx763_0
                    replace p763 := eq_true p763
                    replace q763 := eq_true q763
                    go_wp2
                    repeat (go_quiet (fail); try go_wp2)
                    go_roundg k2
                    case measure => have := HJ2.out; have := HK2.out; omega
                    case rel => exact ⟨(wrap64 (x5_2 + 1)), (by first | rfl | (simp; done) | (simp [*]; done)), H', ⟨by have := HJ2.out; have := HK2.out; omega⟩, ⟨by (with_reducible repeat (first | refine blk_drewN ?_ _ | refine blk_drew ?_ | refine blk_alloc ?_ _)); exact BK758.out⟩, ⟨by (with_reducible repeat (first | refine blk_drewN ?_ _ | refine blk_drew ?_ | refine blk_alloc ?_ _)); exact BK759.out⟩, ⟨by repeat (first | (with_reducible first | exact HB.out | apply below_alloc | apply pw_below_drewN | apply below_drew1 | refine below_set ?_ GE758.out | refine below_set ?_ GE759.out) | exact HB.out)⟩⟩
                  · rw [if_neg c31] at H
                    have c31b0 : ((rd l0_4 x5_2) == (rd l1_4 x5_2)) = false := beq_eq_false_iff_ne.mpr c31
                    have c31b1 : ((rd l0_4 x5_2) != (rd l1_4 x5_2)) = true := bne_iff_ne.mpr c31
                    obtain rfl := Option.some.inj H
                    have hnb35 := NB758_759.out
                    have hnc35 := NB759_758.out
                    have hcz36_0 : wr.cell? ⟨gb758, 0, none⟩ = some (.int .i64 a0_0) := (blk_cell BK758.out 0).trans rfl
                    have hcz36_1 : wr.cell? ⟨gb758, 1, none⟩ = some (.string a0_1) := (blk_cell BK758.out 1).trans rfl
                    have hcz36_2 : wr.cell? ⟨gb758, 2, none⟩ = some (.slice A0_2 l0_2.length c0_2) := (blk_cell BK758.out 2).trans rfl
                    have hcz36_3 : wr.cell? ⟨gb758, 3, none⟩ = some (.slice A0_3 l0_3.length c0_3) := (blk_cell BK758.out 3).trans rfl
                    have hcz36_4 : wr.cell? ⟨gb758, 4, none⟩ = some (.slice A0_4 l0_4.length c0_4) := (blk_cell BK758.out 4).trans rfl
                    have hfz36_0 := blk_frozen BK758.out 0
                    have hfz36_1 := blk_frozen BK758.out 1
                    have hfz36_2 := blk_frozen BK758.out 2
                    have hfz36_3 := blk_frozen BK758.out 3
                    have hfz36_4 := blk_frozen BK758.out 4
                    have p762 : 0 ≤ (x5_2 : Int) := of_decide_eq_true (by first | (with_reducible assumption) | assumption)
                    have q762 : x5_2 < (l0_4.length : Int) := of_decide_eq_true (by first | (with_reducible assumption) | assumption)
                    obtain ⟨ad762, e762, hx762_0⟩ := Kd.at_int HR0_4.out x5_2 p762 q762
                    cases e762
                    replace hx762_0 := (HB.out.cell (World.block_lt_of_cell? w _ hx762_0)).trans hx762_0
                    replace p762 := eq_true p762
                    replace q762 := eq_true q762
                    have hcz37_0 : wr.cell? ⟨gb759, 0, none⟩ = some (.int .i64 a1_0) := (blk_cell BK759.out 0).trans rfl
                    have hcz37_1 : wr.cell? ⟨gb759, 1, none⟩ = some (.string a1_1) := (blk_cell BK759.out 1).trans rfl
                    have hcz37_2 : wr.cell? ⟨gb759, 2, none⟩ = some (.slice A1_2 l1_2.length c1_2) := (blk_cell BK759.out 2).trans rfl
                    have hcz37_3 : wr.cell? ⟨gb759, 3, none⟩ = some (.slice A1_3 l1_3.length c1_3) := (blk_cell BK759.out 3).trans rfl
                    have hcz37_4 : wr.cell? ⟨gb759, 4, none⟩ = some (.slice A1_4 l1_4.length c1_4) := (blk_cell BK759.out 4).trans rfl
                    have hfz37_0 := blk_frozen BK759.out 0
                    have hfz37_1 := blk_frozen BK759.out 1
                    have hfz37_2 := blk_frozen BK759.out 2
                    have hfz37_3 := blk_frozen BK759.out 3
                    have hfz37_4 := blk_frozen BK759.out 4
                    have p763 : 0 ≤ (x5_2 : Int) := of_decide_eq_true (by first | (with_reducible assumption) | assumption)
                    have q763 : x5_2 < (l1_4.length : Int) := of_decide_eq_true (by first | (with_reducible assumption) | assumption)
                    obtain ⟨ad763, e763, hx763_0⟩ := Kd.at_int HR1_4.out x5_2 p763 q763
                    cases e763
                    replace hx763_0 := (HB.out.cell (World.block_lt_of_cell? w _ hx763_0)).trans hx763_0
                    replace p763 := eq_true p763
                    replace q763 := eq_true q763
                    go_wp2
                    repeat (go_quiet (fail); try go_wp2)
                    go_ret
                    exact ⟨by first | rfl | (simp [errW_none, errW_some] <;> rfl) | (simp [*, errW_none, errW_some] <;> rfl), by repeat (first | (with_reducible first | exact HB.out | apply below_alloc | apply pw_below_drewN | apply below_drew1 | refine below_set ?_ GE758.out | refine below_set ?_ GE759.out) | exact HB.out)⟩
                · rw [if_neg c30] at H
                  exact absurd H (by simp)
              · rw [if_neg c29] at H
                exact absurd H (by simp)
            · rw [if_neg c28] at H
              have c28b0 : decide (x5_2 < (l0_4.length : Int)) = false := decide_eq_false c28
              clear c28
              obtain rfl := Option.some.inj H
              have hnb38 := NB758_759.out
              have hnc38 := NB759_758.out
              have hcz39_0 : wr.cell? ⟨gb758, 0, none⟩ = some (.int .i64 a0_0) := (blk_cell BK758.out 0).trans rfl
              have hcz39_1 : wr.cell? ⟨gb758, 1, none⟩ = some (.string a0_1) := (blk_cell BK758.out 1).trans rfl
              have hcz39_2 : wr.cell? ⟨gb758, 2, none⟩ = some (.slice A0_2 l0_2.length c0_2) := (blk_cell BK758.out 2).trans rfl
              have hcz39_3 : wr.cell? ⟨gb758, 3, none⟩ = some (.slice A0_3 l0_3.length c0_3) := (blk_cell BK758.out 3).trans rfl
              have hcz39_4 : wr.cell? ⟨gb758, 4, none⟩ = some (.slice A0_4 l0_4.length c0_4) := (blk_cell BK758.out 4).trans rfl
              have hfz39_0 := blk_frozen BK758.out 0
              have hfz39_1 := blk_frozen BK758.out 1
              have hfz39_2 := blk_frozen BK758.out 2
              have hfz39_3 := blk_frozen BK758.out 3
              have hfz39_4 := blk_frozen BK758.out 4
              go_wp2
              repeat (go_quiet (fail); try go_wp2)
              go_ret
              exact ⟨by first | rfl | (simp [errW_none, errW_some] <;> rfl) | (simp [*, errW_none, errW_some] <;> rfl), by repeat (first | (with_reducible first | exact HB.out | apply below_alloc | apply pw_below_drewN | apply below_drew1 | refine below_set ?_ GE758.out | refine below_set ?_ GE759.out) | exact HB.out)⟩

end Go.Proofs.Ytipgldfbjlhpoab.P
