-- Made by wip/myprint.py of this repository, with the kit's print program, out of the translation: lines written by a program for this claim.
import Derived.Test.YtipgldfbjlhpoabP0
import Derived.Test.YtipgldfbjlhpoabPR14N
import Derived.Test.YtipgldfbjlhpoabPR37
import Derived.Test.YtipgldfbjlhpoabPRWireL
namespace Go.Proofs.Ytipgldfbjlhpoab.P
open Go.RowKit Go.Proofs.YtipgldfbjlhpoabW.PrintWords Go.Proofs.YtipgldfbjlhpoabW.PrintLast Go.Proofs.YtipgldfbjlhpoabW.PrintMore
attribute [local go_sem] max2_int min2_int max_two min_two max_three min_three max_four min_four   -- for this text's walks alone
set_option linter.unusedVariables false
set_option linter.unusedSimpArgs false

/-! ### footbridgeref37_Put: function 44 -/
def footbridgeref37_Put.l0 : Nat → ByteArray → Int → Int → ByteArray → List ByteArray → List ByteArray → List Int → Option (ByteArray × Int)
  | 0, _, _, _, _, _, _, _ => none
  | k + 1, x9, x10, x705000, x705001, x705002, x705003, x705004 => if x10 < (x705004.length : Int) then (if 0 ≤ x10 then ((footbridgeref14_Num.f k (rd x705004 x10)).bind fun t713 => (if x9.size + t713.size ≤ 9223372036854775807 then (footbridgeref37_Put.l0 k (x9 ++ t713) (wrap64 (x10 + 1)) x705000 x705001 x705002 x705003 x705004) else (none))) else (none)) else (some (x9, 0))
def footbridgeref37_Put.f (k : Nat) (a0_0 : Int) (a0_1 : ByteArray) (l0_2 : List ByteArray) (l0_3 : List ByteArray) (l0_4 : List Int) : Option (ByteArray × Int) := (footbridgeref37_Check.f k a0_0 a0_1 l0_2 l0_3 l0_4).bind fun t705 => (if t705 = 0 then ((footbridgeref01_Join.f k l0_2).bind fun bt706 => ((footbridgeref01_Join.f k l0_3).bind fun bt708 => ((footbridgeref14_Num.f k a0_0).bind fun t710 => ((footbridgeref14_Text.f k a0_1).bind fun t711 => (if t710.size + t711.size ≤ 9223372036854775807 then (if (t710 ++ t711).size + bt706.1.size ≤ 9223372036854775807 then (if ((t710 ++ t711) ++ bt706.1).size + bt708.1.size ≤ 9223372036854775807 then (footbridgeref37_Put.l0 k (((t710 ++ t711) ++ bt706.1) ++ bt708.1) 0 a0_0 a0_1 l0_2 l0_3 l0_4) else (none)) else (none)) else (none)))))) else (some ((⟨#[]⟩ : ByteArray), t705)))
theorem footbridgeref37_Put.mono_l : ∀ k, (∀ y0 y1 y2 y3 y4 y5 y6, LeO (footbridgeref37_Put.l0 k y0 y1 y2 y3 y4 y5 y6) (footbridgeref37_Put.l0 (k + 1) y0 y1 y2 y3 y4 y5 y6))
  | 0 => fun _ _ _ _ _ _ _ r h => by simp [footbridgeref37_Put.l0] at h
  | k + 1 => by
    have ih0 := footbridgeref37_Put.mono_l k
    · intro y0 y1 y2 y3 y4 y5 y6
      unfold footbridgeref37_Put.l0
      repeat' first
      | (with_reducible exact ih0 _ _ _ _ _ _ _)
      | (with_reducible exact footbridgeref01_Join.mono _ _)
      | (with_reducible exact footbridgeref14_Num.mono _ _)
      | (with_reducible exact footbridgeref14_Text.mono _ _)
      | (with_reducible exact footbridgeref37_Check.mono _ _ _ _ _ _)
      | (with_reducible exact LeO.refl _)
      | (with_reducible exact LeO.none _)
      | (with_reducible refine LeO.ite ?_ ?_)
      | (with_reducible refine LeO.bind ?_ (fun _ => ?_))
      | exact ih0 _ _ _ _ _ _ _
      | exact footbridgeref01_Join.mono _ _
      | exact footbridgeref14_Num.mono _ _
      | exact footbridgeref14_Text.mono _ _
      | exact footbridgeref37_Check.mono _ _ _ _ _ _
      | exact LeO.none _
      | refine LeO.ite ?_ ?_
      | refine LeO.bind ?_ (fun _ => ?_)
theorem footbridgeref37_Put.mono : ∀ a0 a1 a2 a3 a4 k, LeO (footbridgeref37_Put.f k a0 a1 a2 a3 a4) (footbridgeref37_Put.f (k + 1) a0 a1 a2 a3 a4) := by
  intro a0 a1 a2 a3 a4 k
  have ih0 := footbridgeref37_Put.mono_l k
  unfold footbridgeref37_Put.f
  repeat' first
      | (with_reducible exact ih0 _ _ _ _ _ _ _)
      | (with_reducible exact footbridgeref01_Join.mono _ _)
      | (with_reducible exact footbridgeref14_Num.mono _ _)
      | (with_reducible exact footbridgeref14_Text.mono _ _)
      | (with_reducible exact footbridgeref37_Check.mono _ _ _ _ _ _)
      | (with_reducible exact LeO.refl _)
      | (with_reducible exact LeO.none _)
      | (with_reducible refine LeO.ite ?_ ?_)
      | (with_reducible refine LeO.bind ?_ (fun _ => ?_))
      | exact ih0 _ _ _ _ _ _ _
      | exact footbridgeref01_Join.mono _ _
      | exact footbridgeref14_Num.mono _ _
      | exact footbridgeref14_Text.mono _ _
      | exact footbridgeref37_Check.mono _ _ _ _ _ _
      | exact LeO.none _
      | refine LeO.ite ?_ ?_
      | refine LeO.bind ?_ (fun _ => ?_)
def footbridgeref37_Put.T6 : Bool × List (List Nat × List Nat) := (true, [([], []), ([0], [0]), ([1], [1]), ([], []), ([3], [3]), ([4, 2], [4]), ([2, 5], [2, 5]), ([], []), ([6, 7], [6, 7]), ([], []), ([8, 9], [8, 9]), ([10, 5, 0, 1, 2, 3, 4, 5, 6, 7, 8, 9, 10], [10])])
def footbridgeref37_Put.B6 : List Nat := [0, 1, 3, 0, 8, 31, 63, 0, 255, 0, 1023, 2047]
theorem footbridgeref37_Put.tab6 : rtab .any (opsOf Try.f44 6) = footbridgeref37_Put.T6 := by kernel_rfl
theorem footbridgeref37_Put.bits6 : waitsOk footbridgeref37_Put.T6.2 footbridgeref37_Put.B6 = true := by kernel_rfl
set_option maxHeartbeats 8000000 in
set_option maxRecDepth 100000 in
theorem footbridgeref37_Put.calls (k : Nat) (a0_0 : Int) (a0_1 : ByteArray) (A0_2 : Option Addr) (c0_2 : Nat) (l0_2 : List ByteArray) (A0_3 : Option Addr) (c0_3 : Nat) (l0_3 : List ByteArray) (A0_4 : Option Addr) (c0_4 : Nat) (l0_4 : List Int) (r1 : ByteArray) (r2 : Int) (w : World) (hr0_2 : Kd.C Kd.string w A0_2 l0_2.length l0_2) (hc0_2 : l0_2.length ≤ c0_2) (hr0_3 : Kd.C Kd.string w A0_3 l0_3.length l0_3) (hc0_3 : l0_3.length ≤ c0_3) (hr0_4 : Kd.C (Kd.int .i64) w A0_4 l0_4.length l0_4) (hc0_4 : l0_4.length ≤ c0_4) (h : footbridgeref37_Put.f k a0_0 a0_1 l0_2 l0_3 l0_4 = some (r1, r2)) :
    Calls Try.prog 44 #[.agg #[.int .i64 a0_0, .string a0_1, .slice A0_2 l0_2.length c0_2, .slice A0_3 l0_3.length c0_3, .slice A0_4 l0_4.length c0_4]] w fun e w' => e = .returned (.tuple #[.string r1, .int .i64 r2]) ∧ Below w.heap.size w w' := by
  have hu66 := Try.underlying66
  have HR0_2 := Aside0.mk hr0_2
  have HC0_2 := Aside0.mk hc0_2
  clear hr0_2 hc0_2
  have HR0_3 := Aside0.mk hr0_3
  have HC0_3 := Aside0.mk hc0_3
  clear hr0_3 hc0_3
  have HR0_4 := Aside0.mk hr0_4
  have HC0_4 := Aside0.mk hc0_4
  clear hr0_4 hc0_4
  have HB := Aside0.mk (Below.refl w.heap.size w)
  have H : ((footbridgeref37_Check.f k a0_0 a0_1 l0_2 l0_3 l0_4).bind fun t705 => (if t705 = 0 then ((footbridgeref01_Join.f k l0_2).bind fun bt706 => ((footbridgeref01_Join.f k l0_3).bind fun bt708 => ((footbridgeref14_Num.f k a0_0).bind fun t710 => ((footbridgeref14_Text.f k a0_1).bind fun t711 => (if t710.size + t711.size ≤ 9223372036854775807 then (if (t710 ++ t711).size + bt706.1.size ≤ 9223372036854775807 then (if ((t710 ++ t711) ++ bt706.1).size + bt708.1.size ≤ 9223372036854775807 then (footbridgeref37_Put.l0 k (((t710 ++ t711) ++ bt706.1) ++ bt708.1) 0 a0_0 a0_1 l0_2 l0_3 l0_4) else (none)) else (none)) else (none)))))) else (some ((⟨#[]⟩ : ByteArray), t705)))) = some (r1, r2) := h
  clear h
  replace H := Option.bind_eq_some_iff.mp H
  obtain ⟨t705, A20, H⟩ := H
  replace H : (if t705 = 0 then ((footbridgeref01_Join.f k l0_2).bind fun bt706 => ((footbridgeref01_Join.f k l0_3).bind fun bt708 => ((footbridgeref14_Num.f k a0_0).bind fun t710 => ((footbridgeref14_Text.f k a0_1).bind fun t711 => (if t710.size + t711.size ≤ 9223372036854775807 then (if (t710 ++ t711).size + bt706.1.size ≤ 9223372036854775807 then (if ((t710 ++ t711) ++ bt706.1).size + bt708.1.size ≤ 9223372036854775807 then (footbridgeref37_Put.l0 k (((t710 ++ t711) ++ bt706.1) ++ bt708.1) 0 a0_0 a0_1 l0_2 l0_3 l0_4) else (none)) else (none)) else (none)))))) else (some ((⟨#[]⟩ : ByteArray), t705))) = some (r1, r2) := H
  have A2 := Aside0.mk A20
  clear A20
  by_cases c3 : t705 = 0
  · rw [if_pos c3] at H
    have c3b0 : (t705 == 0) = true := beq_iff_eq.mpr c3
    have c3b1 : (t705 != 0) = false := bne_eq_false_iff_eq.mpr c3
    clear c3
    replace H := Option.bind_eq_some_iff.mp H
    obtain ⟨⟨t706, t707⟩, A40, H⟩ := H
    replace H : ((footbridgeref01_Join.f k l0_3).bind fun bt708 => ((footbridgeref14_Num.f k a0_0).bind fun t710 => ((footbridgeref14_Text.f k a0_1).bind fun t711 => (if t710.size + t711.size ≤ 9223372036854775807 then (if (t710 ++ t711).size + t706.size ≤ 9223372036854775807 then (if ((t710 ++ t711) ++ t706).size + bt708.1.size ≤ 9223372036854775807 then (footbridgeref37_Put.l0 k (((t710 ++ t711) ++ t706) ++ bt708.1) 0 a0_0 a0_1 l0_2 l0_3 l0_4) else (none)) else (none)) else (none))))) = some (r1, r2) := H
    have A4 := Aside0.mk A40
    clear A40
    replace H := Option.bind_eq_some_iff.mp H
    obtain ⟨⟨t708, t709⟩, A50, H⟩ := H
    replace H : ((footbridgeref14_Num.f k a0_0).bind fun t710 => ((footbridgeref14_Text.f k a0_1).bind fun t711 => (if t710.size + t711.size ≤ 9223372036854775807 then (if (t710 ++ t711).size + t706.size ≤ 9223372036854775807 then (if ((t710 ++ t711) ++ t706).size + t708.size ≤ 9223372036854775807 then (footbridgeref37_Put.l0 k (((t710 ++ t711) ++ t706) ++ t708) 0 a0_0 a0_1 l0_2 l0_3 l0_4) else (none)) else (none)) else (none)))) = some (r1, r2) := H
    have A5 := Aside0.mk A50
    clear A50
    replace H := Option.bind_eq_some_iff.mp H
    obtain ⟨t710, A60, H⟩ := H
    replace H : ((footbridgeref14_Text.f k a0_1).bind fun t711 => (if t710.size + t711.size ≤ 9223372036854775807 then (if (t710 ++ t711).size + t706.size ≤ 9223372036854775807 then (if ((t710 ++ t711) ++ t706).size + t708.size ≤ 9223372036854775807 then (footbridgeref37_Put.l0 k (((t710 ++ t711) ++ t706) ++ t708) 0 a0_0 a0_1 l0_2 l0_3 l0_4) else (none)) else (none)) else (none))) = some (r1, r2) := H
    have A6 := Aside0.mk A60
    clear A60
    replace H := Option.bind_eq_some_iff.mp H
    obtain ⟨t711, A70, H⟩ := H
    replace H : (if t710.size + t711.size ≤ 9223372036854775807 then (if (t710 ++ t711).size + t706.size ≤ 9223372036854775807 then (if ((t710 ++ t711) ++ t706).size + t708.size ≤ 9223372036854775807 then (footbridgeref37_Put.l0 k (((t710 ++ t711) ++ t706) ++ t708) 0 a0_0 a0_1 l0_2 l0_3 l0_4) else (none)) else (none)) else (none)) = some (r1, r2) := H
    have A7 := Aside0.mk A70
    clear A70
    by_cases c8 : t710.size + t711.size ≤ 9223372036854775807
    · rw [if_pos c8] at H
      have c8b0 := eq_true c8
      have c8b1 : decide (t710.size + t711.size ≤ 9223372036854775807) = true := decide_eq_true c8
      try have c8b2 : (9223372036854775807 < t710.size + t711.size) = False := eq_false (Nat.not_lt.2 c8)
      by_cases c9 : (t710 ++ t711).size + t706.size ≤ 9223372036854775807
      · rw [if_pos c9] at H
        have c9b0 := eq_true c9
        have c9b1 : decide ((t710 ++ t711).size + t706.size ≤ 9223372036854775807) = true := decide_eq_true c9
        try have c9b2 : (9223372036854775807 < (t710 ++ t711).size + t706.size) = False := eq_false (Nat.not_lt.2 c9)
        try (have c9b8 := c9b2; simp only [ByteArray.size_append] at c9b8)
        by_cases c10 : ((t710 ++ t711) ++ t706).size + t708.size ≤ 9223372036854775807
        · rw [if_pos c10] at H
          have c10b0 := eq_true c10
          have c10b1 : decide (((t710 ++ t711) ++ t706).size + t708.size ≤ 9223372036854775807) = true := decide_eq_true c10
          try have c10b2 : (9223372036854775807 < ((t710 ++ t711) ++ t706).size + t708.size) = False := eq_false (Nat.not_lt.2 c10)
          try (have c10b8 := c10b2; simp only [ByteArray.size_append] at c10b8)
          have H' := Aside0.mk H
          clear H
          go_enter Try.func44, Try.ntmps44
          try go_wp2_with (first | ((with_reducible refine gate_dst (N := 1) rfl ?_); refine box_event ?hg (N := 1) ?hd (cs := #[.int .i64 a0_0, .string a0_1, .slice A0_2 l0_2.length c0_2, .slice A0_3 l0_3.length c0_3, .slice A0_4 l0_4.length c0_4]) (t := 66) ?hr ?_; (case hd => rfl); (case hg => rfl); (case hr => first | (go_simp; done) | (go_simp; rfl)); intro gb704 hg w11 hbox hb; have n0_ := Aside0.mk (below_step (by repeat (first | (with_reducible first | exact HB.out | apply below_alloc | apply pw_below_drewN | apply below_drew1) | exact HB.out)) hb); have n1_ := Aside0.mk (hbox); have n2_ := Aside0.mk ((by rw [hg]; exact (below_size (by repeat (first | (with_reducible first | exact HB.out | apply below_alloc | apply pw_below_drewN | apply below_drew1) | exact HB.out))) : w.heap.size ≤ gb704)); have n3_ := Aside0.mk ((by rw [hg]; exact (below_size (by repeat (first | (with_reducible first | exact HB.out | apply below_alloc | apply pw_below_drewN | apply below_drew1) | exact HB.out))) : w.heap.size ≤ gb704)); clear HB; have HB := n0_; have BK704 := n1_; have GW704 := n2_; have GE704 := n3_; clear n0_ n1_ n2_ n3_; clear hb hbox hg; have hcz12_0 : w11.cell? ⟨gb704, 0, none⟩ = some (.int .i64 a0_0) := (blk_cell BK704.out 0).trans rfl; have hcz12_1 : w11.cell? ⟨gb704, 1, none⟩ = some (.string a0_1) := (blk_cell BK704.out 1).trans rfl; have hcz12_2 : w11.cell? ⟨gb704, 2, none⟩ = some (.slice A0_2 l0_2.length c0_2) := (blk_cell BK704.out 2).trans rfl; have hcz12_3 : w11.cell? ⟨gb704, 3, none⟩ = some (.slice A0_3 l0_3.length c0_3) := (blk_cell BK704.out 3).trans rfl; have hcz12_4 : w11.cell? ⟨gb704, 4, none⟩ = some (.slice A0_4 l0_4.length c0_4) := (blk_cell BK704.out 4).trans rfl; have hfz12_0 := blk_frozen BK704.out 0; have hfz12_1 := blk_frozen BK704.out 1; have hfz12_2 := blk_frozen BK704.out 2; have hfz12_3 := blk_frozen BK704.out 3; have hfz12_4 := blk_frozen BK704.out 4) | ((with_reducible refine gate_callee (f := 48) rfl ?_); refine goesL_ (some 12) rfl rfl Try.func48 (by kernel_rfl) rfl #[.agg #[.int .i64 a0_0, .string a0_1, .slice A0_2 l0_2.length c0_2, .slice A0_3 l0_3.length c0_3, .slice A0_4 l0_4.length c0_4]] rfl (by (try simp only [List.map_toArray, List.map_cons, List.map_nil]); first | done | rfl | (simp only [List.length_drop, List.length_take]; rfl)) ?_; (with_reducible refine (footbridgeref37_Check.calls k a0_0 a0_1 _ _ l0_2 _ _ l0_3 _ _ l0_4 t705 _ ?side1 ?side2 ?side3 ?side4 ?side5 ?side6 A2.out).mono ?_); (case side1 => repeat (first | exact (Kd.C_below HR0_2.out HB.out) | (with_reducible refine Kd.C_alloc ?_ _) | (with_reducible refine Kd.C_drewN ?_ _) | (with_reducible refine Kd.C_drew ?_))); (case side2 => exact HC0_2.out); (case side3 => repeat (first | exact (Kd.C_below HR0_3.out HB.out) | (with_reducible refine Kd.C_alloc ?_ _) | (with_reducible refine Kd.C_drewN ?_ _) | (with_reducible refine Kd.C_drew ?_))); (case side4 => exact HC0_3.out); (case side5 => repeat (first | exact (Kd.C_below HR0_4.out HB.out) | (with_reducible refine Kd.C_alloc ?_ _) | (with_reducible refine Kd.C_drewN ?_ _) | (with_reducible refine Kd.C_drew ?_))); (case side6 => exact HC0_4.out); rintro e w13 ⟨rfl, hb⟩; refine ⟨_, rfl, ?_⟩; have n0_ := Aside0.mk (blk_below (g := gb704) (o := .cells #[.int .i64 a0_0, .string a0_1, .slice A0_2 l0_2.length c0_2, .slice A0_3 l0_3.length c0_3, .slice A0_4 l0_4.length c0_4] 66 (0, 0)) (by (with_reducible repeat (first | refine blk_drewN ?_ _ | refine blk_drew ?_ | refine blk_alloc ?_ _)); exact BK704.out) hb); have n1_ := Aside0.mk (below_step (by repeat (first | (with_reducible first | exact HB.out | apply below_alloc | apply pw_below_drewN | apply below_drew1 | refine below_set ?_ GE704.out) | exact HB.out)) hb); clear BK704; clear HB; have BK704 := n0_; have HB := n1_; clear n0_ n1_; (try clear hb); (try clear hb2); (try clear hk); (try clear hi); have hcz14_0 : w13.cell? ⟨gb704, 0, none⟩ = some (.int .i64 a0_0) := (blk_cell BK704.out 0).trans rfl; have hcz14_1 : w13.cell? ⟨gb704, 1, none⟩ = some (.string a0_1) := (blk_cell BK704.out 1).trans rfl; have hcz14_2 : w13.cell? ⟨gb704, 2, none⟩ = some (.slice A0_2 l0_2.length c0_2) := (blk_cell BK704.out 2).trans rfl; have hcz14_3 : w13.cell? ⟨gb704, 3, none⟩ = some (.slice A0_3 l0_3.length c0_3) := (blk_cell BK704.out 3).trans rfl; have hcz14_4 : w13.cell? ⟨gb704, 4, none⟩ = some (.slice A0_4 l0_4.length c0_4) := (blk_cell BK704.out 4).trans rfl; have hfz14_0 := blk_frozen BK704.out 0; have hfz14_1 := blk_frozen BK704.out 1; have hfz14_2 := blk_frozen BK704.out 2; have hfz14_3 := blk_frozen BK704.out 3; have hfz14_4 := blk_frozen BK704.out 4) | ((with_reducible refine gate_callee (f := 108) rfl ?_); refine goesL_ (some 19) rfl rfl Try.func108 (by kernel_rfl) rfl #[.slice A0_2 l0_2.length c0_2] rfl (by (try simp only [List.map_toArray, List.map_cons, List.map_nil]); first | done | rfl | (simp only [List.length_drop, List.length_take]; rfl)) ?_; (with_reducible refine (footbridgeref01_Join.calls k _ _ l0_2 t706 t707 _ ?side1 ?side2 A4.out).mono ?_); (case side1 => repeat (first | exact (Kd.C_below HR0_2.out HB.out) | (with_reducible refine Kd.C_alloc ?_ _) | (with_reducible refine Kd.C_drewN ?_ _) | (with_reducible refine Kd.C_drew ?_))); (case side2 => exact HC0_2.out); rintro e w15 ⟨rfl, hb⟩; refine ⟨_, rfl, ?_⟩; have n0_ := Aside0.mk (blk_below (g := gb704) (o := .cells #[.int .i64 a0_0, .string a0_1, .slice A0_2 l0_2.length c0_2, .slice A0_3 l0_3.length c0_3, .slice A0_4 l0_4.length c0_4] 66 (0, 0)) (by (with_reducible repeat (first | refine blk_drewN ?_ _ | refine blk_drew ?_ | refine blk_alloc ?_ _)); exact BK704.out) hb); have n1_ := Aside0.mk (below_step (by repeat (first | (with_reducible first | exact HB.out | apply below_alloc | apply pw_below_drewN | apply below_drew1 | refine below_set ?_ GE704.out) | exact HB.out)) hb); clear BK704; clear HB; have BK704 := n0_; have HB := n1_; clear n0_ n1_; (try clear hb); (try clear hb2); (try clear hk); (try clear hi); have hcz16_0 : w15.cell? ⟨gb704, 0, none⟩ = some (.int .i64 a0_0) := (blk_cell BK704.out 0).trans rfl; have hcz16_1 : w15.cell? ⟨gb704, 1, none⟩ = some (.string a0_1) := (blk_cell BK704.out 1).trans rfl; have hcz16_2 : w15.cell? ⟨gb704, 2, none⟩ = some (.slice A0_2 l0_2.length c0_2) := (blk_cell BK704.out 2).trans rfl; have hcz16_3 : w15.cell? ⟨gb704, 3, none⟩ = some (.slice A0_3 l0_3.length c0_3) := (blk_cell BK704.out 3).trans rfl; have hcz16_4 : w15.cell? ⟨gb704, 4, none⟩ = some (.slice A0_4 l0_4.length c0_4) := (blk_cell BK704.out 4).trans rfl; have hfz16_0 := blk_frozen BK704.out 0; have hfz16_1 := blk_frozen BK704.out 1; have hfz16_2 := blk_frozen BK704.out 2; have hfz16_3 := blk_frozen BK704.out 3; have hfz16_4 := blk_frozen BK704.out 4) | ((with_reducible refine gate_callee (f := 108) rfl ?_); refine goesL_ (some 25) rfl rfl Try.func108 (by kernel_rfl) rfl #[.slice A0_3 l0_3.length c0_3] rfl (by (try simp only [List.map_toArray, List.map_cons, List.map_nil]); first | done | rfl | (simp only [List.length_drop, List.length_take]; rfl)) ?_; (with_reducible refine (footbridgeref01_Join.calls k _ _ l0_3 t708 t709 _ ?side1 ?side2 A5.out).mono ?_); (case side1 => repeat (first | exact (Kd.C_below HR0_3.out HB.out) | (with_reducible refine Kd.C_alloc ?_ _) | (with_reducible refine Kd.C_drewN ?_ _) | (with_reducible refine Kd.C_drew ?_))); (case side2 => exact HC0_3.out); rintro e w17 ⟨rfl, hb⟩; refine ⟨_, rfl, ?_⟩; have n0_ := Aside0.mk (blk_below (g := gb704) (o := .cells #[.int .i64 a0_0, .string a0_1, .slice A0_2 l0_2.length c0_2, .slice A0_3 l0_3.length c0_3, .slice A0_4 l0_4.length c0_4] 66 (0, 0)) (by (with_reducible repeat (first | refine blk_drewN ?_ _ | refine blk_drew ?_ | refine blk_alloc ?_ _)); exact BK704.out) hb); have n1_ := Aside0.mk (below_step (by repeat (first | (with_reducible first | exact HB.out | apply below_alloc | apply pw_below_drewN | apply below_drew1 | refine below_set ?_ GE704.out) | exact HB.out)) hb); clear BK704; clear HB; have BK704 := n0_; have HB := n1_; clear n0_ n1_; (try clear hb); (try clear hb2); (try clear hk); (try clear hi)))
          have n0_ := Aside0.mk (blk_drew BK704.out)
          have n1_ := Aside0.mk (below_drew1 HB.out)
          clear BK704
          clear HB
          have BK704 := n0_
          have HB := n1_
          clear n0_ n1_
          refine start_ (n := 12) (S := fun w' => w'.cell? ⟨gb704, 0, none⟩ = some (.int .i64 a0_0) ∧ w'.cell? ⟨gb704, 1, none⟩ = some (.string a0_1) ∧ w'.cell? ⟨gb704, 2, none⟩ = some (.slice A0_2 l0_2.length c0_2) ∧ w'.cell? ⟨gb704, 3, none⟩ = some (.slice A0_3 l0_3.length c0_3) ∧ w'.cell? ⟨gb704, 4, none⟩ = some (.slice A0_4 l0_4.length c0_4)) (ds := []) #[false, false, false, false, false, false, false, false, false, false, false, false] (by kernel_rfl) rfl rfl ⟨(blk_cell BK704.out 0).trans rfl, (blk_cell BK704.out 1).trans rfl, (blk_cell BK704.out 2).trans rfl, (blk_cell BK704.out 3).trans rfl, (blk_cell BK704.out 4).trans rfl⟩ (fun hHeld => ?_); refine with_tabW footbridgeref37_Put.tab6 footbridgeref37_Put.bits6 (fun HT_ HW_ => ?_)
          generalize w17.drew = w18 at BK704 HB hHeld ⊢
          refine pure_ (i := 0) (N := some 28) (v := ?_) (a' := ?_) #[true, false, false, false, false, false, false, false, false, false, false, false] rfl rfl (any_of HT_.out (by kernel_rfl)) (fun _ _ _ h => h) (Or.inl ⟨by rfl, ?_⟩) ?_ ?_
          rotate_left
          · intro w'
            go_simp
            with_reducible rfl
          rotate_left
          · simp only [Act.put, List.setIfInBounds_toArray, List.set_cons_zero, List.set_cons_succ, i64_w, i32_w]
            rfl
          refine pure_ (i := 3) (N := some 31) (v := ?_) (a' := ?_) #[true, false, false, true, false, false, false, false, false, false, false, false] rfl rfl (any_of HT_.out (by kernel_rfl)) (fun _ _ _ h => h) (Or.inl ⟨by rfl, ?_⟩) ?_ ?_
          rotate_left
          · intro w'
            go_simp
            with_reducible rfl
          rotate_left
          · simp only [Act.put, List.setIfInBounds_toArray, List.set_cons_zero, List.set_cons_succ, i64_w, i32_w]
            rfl
          refine pure_ (i := 7) (N := some 35) (v := ?_) (a' := ?_) #[true, false, false, true, false, false, false, true, false, false, false, false] rfl rfl (any_of HT_.out (by kernel_rfl)) (fun _ _ _ h => h) (Or.inl ⟨by rfl, ?_⟩) ?_ ?_
          rotate_left
          · intro w'
            go_simp
            with_reducible rfl
          rotate_left
          · simp only [Act.put, List.setIfInBounds_toArray, List.set_cons_zero, List.set_cons_succ, i64_w, i32_w]
            rfl
          refine pure_ (i := 9) (N := some 37) (v := ?_) (a' := ?_) #[true, false, false, true, false, false, false, true, false, true, false, false] rfl rfl (any_of HT_.out (by kernel_rfl)) (fun _ _ _ h => h) (Or.inl ⟨by rfl, ?_⟩) ?_ ?_
          rotate_left
          · intro w'
            go_simp
            with_reducible rfl
          rotate_left
          · simp only [Act.put, List.setIfInBounds_toArray, List.set_cons_zero, List.set_cons_succ, i64_w, i32_w]
            rfl
          refine take_ (i := 1) (N := some 29) (v := ?_) (a' := ?_) #[true, true, false, true, false, false, false, true, false, true, false, false] rfl rfl (take_ofW HT_.out HW_.out (by kernel_rfl)) (fun _ _ _ h => h) (Or.inl ⟨by rfl, ?_⟩) hHeld ?_ ?_
          rotate_left
          · rintro w' ⟨s0, s1, s2, s3, s4⟩
            go_simp
            with_reducible rfl
          rotate_left
          · simp only [Act.put, List.setIfInBounds_toArray, List.set_cons_zero, List.set_cons_succ, i64_w, i32_w]
            rfl
          refine take_ (i := 4) (N := some 32) (v := ?_) (a' := ?_) #[true, true, false, true, true, false, false, true, false, true, false, false] rfl rfl (take_ofW HT_.out HW_.out (by kernel_rfl)) (fun _ _ _ h => h) (Or.inl ⟨by rfl, ?_⟩) hHeld ?_ ?_
          rotate_left
          · rintro w' ⟨s0, s1, s2, s3, s4⟩
            go_simp
            with_reducible rfl
          rotate_left
          · simp only [Act.put, List.setIfInBounds_toArray, List.set_cons_zero, List.set_cons_succ, i64_w, i32_w]
            rfl
          refine one_ (i := 2) (N := some 30) #[true, true, true, true, true, false, false, true, false, true, false, false] rfl rfl (one_of HT_.out (by kernel_rfl)) (by decide) (fun K hK => ?_)
          refine goes_ Try.func102 (by kernel_rfl) rfl #[.int .i64 a0_0] (by rfl) rfl rfl (by (try simp only [List.map_toArray, List.map_cons, List.map_nil]); first | done | rfl | (simp only [List.length_drop, List.length_take]; rfl)) ?_
          with_reducible refine (footbridgeref14_Num.calls k a0_0 t710 _ A6.out).mono ?_
          rintro e w19 ⟨rfl, hb⟩
          refine ⟨_, rfl, ?_⟩
          have n0_ := Aside0.mk (blk_below (g := gb704) (o := .cells #[.int .i64 a0_0, .string a0_1, .slice A0_2 l0_2.length c0_2, .slice A0_3 l0_3.length c0_3, .slice A0_4 l0_4.length c0_4] 66 (0, 0)) (by (with_reducible repeat (first | refine blk_drewN ?_ _ | refine blk_drew ?_ | refine blk_alloc ?_ _)); exact BK704.out) hb)
          have n1_ := Aside0.mk (below_step (by repeat (first | (with_reducible first | exact HB.out | apply below_alloc | apply pw_below_drewN | apply below_drew1 | refine below_set ?_ GE704.out) | exact HB.out)) hb)
          clear BK704
          clear HB
          have BK704 := n0_
          have HB := n1_
          clear n0_ n1_
          (try clear hb)
          (try clear hb2)
          (try clear hk)
          (try clear hi)
          refine hK.out _ _ ⟨(blk_cell BK704.out 0).trans rfl, (blk_cell BK704.out 1).trans rfl, (blk_cell BK704.out 2).trans rfl, (blk_cell BK704.out 3).trans rfl, (blk_cell BK704.out 4).trans rfl⟩ (fun hHeld => ?_)
          clear hK K
          refine norm_ (a' := ?_) ?_ ?_
          rotate_left
          · show Act.put _ (some 30) _ = _
            simp only [Act.put, List.setIfInBounds_toArray, List.set_cons_zero, List.set_cons_succ, i64_w, i32_w]
            rfl
          refine one_ (i := 5) (N := some 33) #[true, true, true, true, true, true, false, true, false, true, false, false] rfl rfl (one_of HT_.out (by kernel_rfl)) (by decide) (fun K hK => ?_)
          refine goes_ Try.func109 (by kernel_rfl) rfl #[.string a0_1] (by rfl) rfl rfl (by (try simp only [List.map_toArray, List.map_cons, List.map_nil]); first | done | rfl | (simp only [List.length_drop, List.length_take]; rfl)) ?_
          with_reducible refine (footbridgeref14_Text.calls k a0_1 t711 _ A7.out).mono ?_
          rintro e w20 ⟨rfl, hb⟩
          refine ⟨_, rfl, ?_⟩
          have n0_ := Aside0.mk (blk_below (g := gb704) (o := .cells #[.int .i64 a0_0, .string a0_1, .slice A0_2 l0_2.length c0_2, .slice A0_3 l0_3.length c0_3, .slice A0_4 l0_4.length c0_4] 66 (0, 0)) (by (with_reducible repeat (first | refine blk_drewN ?_ _ | refine blk_drew ?_ | refine blk_alloc ?_ _)); exact BK704.out) hb)
          have n1_ := Aside0.mk (below_step (by repeat (first | (with_reducible first | exact HB.out | apply below_alloc | apply pw_below_drewN | apply below_drew1 | refine below_set ?_ GE704.out) | exact HB.out)) hb)
          clear BK704
          clear HB
          have BK704 := n0_
          have HB := n1_
          clear n0_ n1_
          (try clear hb)
          (try clear hb2)
          (try clear hk)
          (try clear hi)
          refine hK.out _ _ ⟨(blk_cell BK704.out 0).trans rfl, (blk_cell BK704.out 1).trans rfl, (blk_cell BK704.out 2).trans rfl, (blk_cell BK704.out 3).trans rfl, (blk_cell BK704.out 4).trans rfl⟩ (fun hHeld => ?_)
          clear hK K
          refine norm_ (a' := ?_) ?_ ?_
          rotate_left
          · show Act.put _ (some 33) _ = _
            simp only [Act.put, List.setIfInBounds_toArray, List.set_cons_zero, List.set_cons_succ, i64_w, i32_w]
            rfl
          refine pure_ (i := 6) (N := some 34) (v := ?_) (a' := ?_) #[true, true, true, true, true, true, true, true, false, true, false, false] rfl rfl (any_of HT_.out (by kernel_rfl)) (fun _ _ _ h => h) (Or.inl ⟨by rfl, ?_⟩) ?_ ?_
          rotate_left
          · intro w'
            go_simp
            with_reducible rfl
          rotate_left
          · simp only [Act.put, List.setIfInBounds_toArray, List.set_cons_zero, List.set_cons_succ, i64_w, i32_w]
            rfl
          refine pure_ (i := 8) (N := some 36) (v := ?_) (a' := ?_) #[true, true, true, true, true, true, true, true, true, true, false, false] rfl rfl (any_of HT_.out (by kernel_rfl)) (fun _ _ _ h => h) (Or.inl ⟨by rfl, ?_⟩) ?_ ?_
          rotate_left
          · intro w'
            go_simp
            with_reducible rfl
          rotate_left
          · simp only [Act.put, List.setIfInBounds_toArray, List.set_cons_zero, List.set_cons_succ, i64_w, i32_w]
            rfl
          refine pure_ (i := 10) (N := some 38) (v := ?_) (a' := ?_) #[true, true, true, true, true, true, true, true, true, true, true, false] rfl rfl (any_of HT_.out (by kernel_rfl)) (fun _ _ _ h => h) (Or.inl ⟨by rfl, ?_⟩) ?_ ?_
          rotate_left
          · intro w'
            go_simp
            with_reducible rfl
          rotate_left
          · simp only [Act.put, List.setIfInBounds_toArray, List.set_cons_zero, List.set_cons_succ, i64_w, i32_w]
            rfl
          refine pure_ (i := 11) (N := some 9) (v := ?_) (a' := ?_) #[true, true, true, true, true, true, true, true, true, true, true, true] rfl rfl (any_of HT_.out (by kernel_rfl)) (fun _ _ _ h => h) (Or.inl ⟨by rfl, ?_⟩) ?_ ?_
          rotate_left
          · intro w'
            go_simp
            with_reducible rfl
          rotate_left
          · simp only [Act.put, List.setIfInBounds_toArray, List.set_cons_zero, List.set_cons_succ, i64_w, i32_w]
            rfl
          refine done_ (done_of HT_.out (by kernel_rfl)) ?_
          try go_wp2
          go_loopg [9, 10] k (fun kq v9 v10 w' => ∃ (x9_1 : ByteArray) (x10_1 : Int), v9 = .string x9_1 ∧ v10 = .int .i64 x10_1 ∧ Aside0 (footbridgeref37_Put.l0 kq x9_1 x10_1 a0_0 a0_1 l0_2 l0_3 l0_4 = some (r1, r2)) ∧ Aside0 (kq ≤ k) ∧ Aside0 (w'.heap[gb704]? = some (.cells #[.int .i64 a0_0, .string a0_1, (.slice A0_2 l0_2.length c0_2), (.slice A0_3 l0_3.length c0_3), (.slice A0_4 l0_4.length c0_4)] 66 (0, 0))) ∧ Aside0 (Below w.heap.size w w'))
          case atStart => exact ⟨(((t710 ++ t711) ++ t706) ++ t708), (0), (by first | rfl | (simp; done) | (simp [*]; done)), (by first | rfl | (simp; done) | (simp [*]; done)), H', ⟨Nat.le_refl _⟩, ⟨by (with_reducible repeat (first | refine blk_drewN ?_ _ | refine blk_drew ?_ | refine blk_alloc ?_ _)); exact BK704.out⟩, ⟨by repeat (first | (with_reducible first | exact HB.out | apply below_alloc | apply pw_below_drewN | apply below_drew1 | refine below_set ?_ GE704.out) | exact HB.out)⟩⟩
          case round =>
            clear H'
            try clear c1
            try clear p2
            try clear c3
            try clear c3b0
            try clear c3b1
            try clear c4
            try clear c8
            try clear c8b0
            try clear c8b1
            try clear c8b2
            try clear c9
            try clear c9b0
            try clear c9b1
            try clear c9b2
            try clear c10
            try clear c10b0
            try clear c10b1
            try clear c10b2
            try clear hcz12_0
            try clear hcz12_1
            try clear hcz12_2
            try clear hcz12_3
            try clear hcz12_4
            try clear hcz14_0
            try clear hcz14_1
            try clear hcz14_2
            try clear hcz14_3
            try clear hcz14_4
            try clear hcz16_0
            try clear hcz16_1
            try clear hcz16_2
            try clear hcz16_3
            try clear hcz16_4
            try clear hfz12_0
            try clear hfz12_1
            try clear hfz12_2
            try clear hfz12_3
            try clear hfz12_4
            try clear hfz14_0
            try clear hfz14_1
            try clear hfz14_2
            try clear hfz14_3
            try clear hfz14_4
            try clear hfz16_0
            try clear hfz16_1
            try clear hfz16_2
            try clear hfz16_3
            try clear hfz16_4
            obtain ⟨x9_1, x10_1, rfl, rfl, HA, HK1, BK704, HB⟩ := hrel
            cases gk with
            | zero => exact absurd HA.out (by simp [footbridgeref37_Put.l0])
            | succ k1 =>
              have H := HA.out
              clear HA
              simp only [footbridgeref37_Put.l0] at H
              by_cases c21 : x10_1 < (l0_4.length : Int)
              · rw [if_pos c21] at H
                have c21b0 : decide (x10_1 < (l0_4.length : Int)) = true := decide_eq_true c21
                clear c21
                by_cases c22 : 0 ≤ x10_1
                · rw [if_pos c22] at H
                  have c22b0 : decide (0 ≤ x10_1) = true := decide_eq_true c22
                  clear c22
                  replace H := Option.bind_eq_some_iff.mp H
                  obtain ⟨t713, A230, H⟩ := H
                  replace H : (if x9_1.size + t713.size ≤ 9223372036854775807 then (footbridgeref37_Put.l0 k1 (x9_1 ++ t713) (wrap64 (x10_1 + 1)) a0_0 a0_1 l0_2 l0_3 l0_4) else (none)) = some (r1, r2) := H
                  have A23 := Aside0.mk A230
                  clear A230
                  by_cases c24 : x9_1.size + t713.size ≤ 9223372036854775807
                  · rw [if_pos c24] at H
                    have c24b0 := eq_true c24
                    have c24b1 : decide (x9_1.size + t713.size ≤ 9223372036854775807) = true := decide_eq_true c24
                    try have c24b2 : (9223372036854775807 < x9_1.size + t713.size) = False := eq_false (Nat.not_lt.2 c24)
                    have H' := Aside0.mk H
                    clear H
                    have hcz25_0 : wr.cell? ⟨gb704, 0, none⟩ = some (.int .i64 a0_0) := (blk_cell BK704.out 0).trans rfl
                    have hcz25_1 : wr.cell? ⟨gb704, 1, none⟩ = some (.string a0_1) := (blk_cell BK704.out 1).trans rfl
                    have hcz25_2 : wr.cell? ⟨gb704, 2, none⟩ = some (.slice A0_2 l0_2.length c0_2) := (blk_cell BK704.out 2).trans rfl
                    have hcz25_3 : wr.cell? ⟨gb704, 3, none⟩ = some (.slice A0_3 l0_3.length c0_3) := (blk_cell BK704.out 3).trans rfl
                    have hcz25_4 : wr.cell? ⟨gb704, 4, none⟩ = some (.slice A0_4 l0_4.length c0_4) := (blk_cell BK704.out 4).trans rfl
                    have hfz25_0 := blk_frozen BK704.out 0
                    have hfz25_1 := blk_frozen BK704.out 1
                    have hfz25_2 := blk_frozen BK704.out 2
                    have hfz25_3 := blk_frozen BK704.out 3
                    have hfz25_4 := blk_frozen BK704.out 4
                    have p712 : 0 ≤ (x10_1 : Int) := of_decide_eq_true (by first | (with_reducible assumption) | assumption)
                    have q712 : x10_1 < (l0_4.length : Int) := of_decide_eq_true (by first | (with_reducible assumption) | assumption)
                    obtain ⟨ad712, e712, hx712_0⟩ := Kd.at_int HR0_4.out x10_1 p712 q712
                    cases e712
                    replace hx712_0 := (HB.out.cell (World.block_lt_of_cell? w _ hx712_0)).trans hx712_0
                    replace p712 := eq_true p712
                    replace q712 := eq_true q712
                    go_wp2_with (first | ((with_reducible refine gate_callee (f := 102) rfl ?_); refine goesL_ (some 52) rfl rfl Try.func102 (by kernel_rfl) rfl #[.int .i64 (rd l0_4 x10_1)] rfl (by (try simp only [List.map_toArray, List.map_cons, List.map_nil]); first | done | rfl | (simp only [List.length_drop, List.length_take]; rfl)) ?_; (with_reducible refine (footbridgeref14_Num.calls k1 (rd l0_4 x10_1) t713 _ A23.out).mono ?_); rintro e w26 ⟨rfl, hb⟩; refine ⟨_, rfl, ?_⟩; have n0_ := Aside0.mk (blk_below (g := gb704) (o := .cells #[.int .i64 a0_0, .string a0_1, .slice A0_2 l0_2.length c0_2, .slice A0_3 l0_3.length c0_3, .slice (some ad712) l0_4.length c0_4] 66 (0, 0)) (by (with_reducible repeat (first | refine blk_drewN ?_ _ | refine blk_drew ?_ | refine blk_alloc ?_ _)); exact BK704.out) hb); have n1_ := Aside0.mk (below_step (by repeat (first | (with_reducible first | exact HB.out | apply below_alloc | apply pw_below_drewN | apply below_drew1 | refine below_set ?_ GE704.out) | exact HB.out)) hb); clear BK704; clear HB; have BK704 := n0_; have HB := n1_; clear n0_ n1_; (try clear hb); (try clear hb2); (try clear hk); (try clear hi)))
                    go_roundg k1
                    case measure => have := HK1.out; omega
                    case rel => exact ⟨(x9_1 ++ t713), (wrap64 (x10_1 + 1)), (by first | rfl | (simp; done) | (simp [*]; done)), (by first | rfl | (simp; done) | (simp [*]; done)), H', ⟨by have := HK1.out; omega⟩, ⟨by (with_reducible repeat (first | refine blk_drewN ?_ _ | refine blk_drew ?_ | refine blk_alloc ?_ _)); exact BK704.out⟩, ⟨by repeat (first | (with_reducible first | exact HB.out | apply below_alloc | apply pw_below_drewN | apply below_drew1 | refine below_set ?_ GE704.out) | exact HB.out)⟩⟩
                  · rw [if_neg c24] at H
                    exact absurd H (by simp)
                · rw [if_neg c22] at H
                  exact absurd H (by simp)
              · rw [if_neg c21] at H
                have c21b0 : decide (x10_1 < (l0_4.length : Int)) = false := decide_eq_false c21
                clear c21
                simp only [Option.some.injEq, Prod.mk.injEq] at H
                obtain ⟨rfl, rfl⟩ := H
                have hcz27_0 : wr.cell? ⟨gb704, 0, none⟩ = some (.int .i64 a0_0) := (blk_cell BK704.out 0).trans rfl
                have hcz27_1 : wr.cell? ⟨gb704, 1, none⟩ = some (.string a0_1) := (blk_cell BK704.out 1).trans rfl
                have hcz27_2 : wr.cell? ⟨gb704, 2, none⟩ = some (.slice A0_2 l0_2.length c0_2) := (blk_cell BK704.out 2).trans rfl
                have hcz27_3 : wr.cell? ⟨gb704, 3, none⟩ = some (.slice A0_3 l0_3.length c0_3) := (blk_cell BK704.out 3).trans rfl
                have hcz27_4 : wr.cell? ⟨gb704, 4, none⟩ = some (.slice A0_4 l0_4.length c0_4) := (blk_cell BK704.out 4).trans rfl
                have hfz27_0 := blk_frozen BK704.out 0
                have hfz27_1 := blk_frozen BK704.out 1
                have hfz27_2 := blk_frozen BK704.out 2
                have hfz27_3 := blk_frozen BK704.out 3
                have hfz27_4 := blk_frozen BK704.out 4
                go_wp2
                go_ret2
                exact ⟨by first | rfl | (simp [errW_none, errW_some] <;> rfl) | (simp [*, errW_none, errW_some] <;> rfl), by repeat (first | (with_reducible first | exact HB.out | apply below_alloc | apply pw_below_drewN | apply below_drew1 | refine below_set ?_ GE704.out) | exact HB.out)⟩
        · rw [if_neg c10] at H
          exact absurd H (by simp)
      · rw [if_neg c9] at H
        exact absurd H (by simp)
    · rw [if_neg c8] at H
      exact absurd H (by simp)
  · rw [if_neg c3] at H
    have c3b0 : (t705 == 0) = false := beq_eq_false_iff_ne.mpr c3
    have c3b1 : (t705 != 0) = true := bne_iff_ne.mpr c3
    simp only [Option.some.injEq, Prod.mk.injEq] at H
    obtain ⟨rfl, rfl⟩ := H
    go_enter Try.func44, Try.ntmps44
    go_wp2_with (first | ((with_reducible refine gate_dst (N := 1) rfl ?_); refine box_event ?hg (N := 1) ?hd (cs := #[.int .i64 a0_0, .string a0_1, .slice A0_2 l0_2.length c0_2, .slice A0_3 l0_3.length c0_3, .slice A0_4 l0_4.length c0_4]) (t := 66) ?hr ?_; (case hd => rfl); (case hg => rfl); (case hr => first | (go_simp; done) | (go_simp; rfl)); intro gb704 hg w28 hbox hb; have n0_ := Aside0.mk (below_step (by repeat (first | (with_reducible first | exact HB.out | apply below_alloc | apply pw_below_drewN | apply below_drew1) | exact HB.out)) hb); have n1_ := Aside0.mk (hbox); have n2_ := Aside0.mk ((by rw [hg]; exact (below_size (by repeat (first | (with_reducible first | exact HB.out | apply below_alloc | apply pw_below_drewN | apply below_drew1) | exact HB.out))) : w.heap.size ≤ gb704)); have n3_ := Aside0.mk ((by rw [hg]; exact (below_size (by repeat (first | (with_reducible first | exact HB.out | apply below_alloc | apply pw_below_drewN | apply below_drew1) | exact HB.out))) : w.heap.size ≤ gb704)); clear HB; have HB := n0_; have BK704 := n1_; have GW704 := n2_; have GE704 := n3_; clear n0_ n1_ n2_ n3_; clear hb hbox hg; have hcz29_0 : w28.cell? ⟨gb704, 0, none⟩ = some (.int .i64 a0_0) := (blk_cell BK704.out 0).trans rfl; have hcz29_1 : w28.cell? ⟨gb704, 1, none⟩ = some (.string a0_1) := (blk_cell BK704.out 1).trans rfl; have hcz29_2 : w28.cell? ⟨gb704, 2, none⟩ = some (.slice A0_2 l0_2.length c0_2) := (blk_cell BK704.out 2).trans rfl; have hcz29_3 : w28.cell? ⟨gb704, 3, none⟩ = some (.slice A0_3 l0_3.length c0_3) := (blk_cell BK704.out 3).trans rfl; have hcz29_4 : w28.cell? ⟨gb704, 4, none⟩ = some (.slice A0_4 l0_4.length c0_4) := (blk_cell BK704.out 4).trans rfl; have hfz29_0 := blk_frozen BK704.out 0; have hfz29_1 := blk_frozen BK704.out 1; have hfz29_2 := blk_frozen BK704.out 2; have hfz29_3 := blk_frozen BK704.out 3; have hfz29_4 := blk_frozen BK704.out 4) | ((with_reducible refine gate_callee (f := 48) rfl ?_); refine goesL_ (some 12) rfl rfl Try.func48 (by kernel_rfl) rfl #[.agg #[.int .i64 a0_0, .string a0_1, .slice A0_2 l0_2.length c0_2, .slice A0_3 l0_3.length c0_3, .slice A0_4 l0_4.length c0_4]] rfl (by (try simp only [List.map_toArray, List.map_cons, List.map_nil]); first | done | rfl | (simp only [List.length_drop, List.length_take]; rfl)) ?_; (with_reducible refine (footbridgeref37_Check.calls k a0_0 a0_1 _ _ l0_2 _ _ l0_3 _ _ l0_4 t705 _ ?side1 ?side2 ?side3 ?side4 ?side5 ?side6 A2.out).mono ?_); (case side1 => repeat (first | exact (Kd.C_below HR0_2.out HB.out) | (with_reducible refine Kd.C_alloc ?_ _) | (with_reducible refine Kd.C_drewN ?_ _) | (with_reducible refine Kd.C_drew ?_))); (case side2 => exact HC0_2.out); (case side3 => repeat (first | exact (Kd.C_below HR0_3.out HB.out) | (with_reducible refine Kd.C_alloc ?_ _) | (with_reducible refine Kd.C_drewN ?_ _) | (with_reducible refine Kd.C_drew ?_))); (case side4 => exact HC0_3.out); (case side5 => repeat (first | exact (Kd.C_below HR0_4.out HB.out) | (with_reducible refine Kd.C_alloc ?_ _) | (with_reducible refine Kd.C_drewN ?_ _) | (with_reducible refine Kd.C_drew ?_))); (case side6 => exact HC0_4.out); rintro e w30 ⟨rfl, hb⟩; refine ⟨_, rfl, ?_⟩; have n0_ := Aside0.mk (blk_below (g := gb704) (o := .cells #[.int .i64 a0_0, .string a0_1, .slice A0_2 l0_2.length c0_2, .slice A0_3 l0_3.length c0_3, .slice A0_4 l0_4.length c0_4] 66 (0, 0)) (by (with_reducible repeat (first | refine blk_drewN ?_ _ | refine blk_drew ?_ | refine blk_alloc ?_ _)); exact BK704.out) hb); have n1_ := Aside0.mk (below_step (by repeat (first | (with_reducible first | exact HB.out | apply below_alloc | apply pw_below_drewN | apply below_drew1 | refine below_set ?_ GE704.out) | exact HB.out)) hb); clear BK704; clear HB; have BK704 := n0_; have HB := n1_; clear n0_ n1_; (try clear hb); (try clear hb2); (try clear hk); (try clear hi)))
    go_ret2
    exact ⟨by first | rfl | (simp [errW_none, errW_some] <;> rfl) | (simp [*, errW_none, errW_some] <;> rfl), by repeat (first | (with_reducible first | exact HB.out | apply below_alloc | apply pw_below_drewN | apply below_drew1 | refine below_set ?_ GE704.out) | exact HB.out)⟩

end Go.Proofs.Ytipgldfbjlhpoab.P
