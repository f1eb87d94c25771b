-- Made by wip/myprint.py of this repository, with the kit's print program, out of the translation: lines written by a program for this claim.
import Derived.Test.YtipgldfbjlhpoabP0
import Derived.Test.YtipgldfbjlhpoabHDApply
import Derived.Test.YtipgldfbjlhpoabHDOf
import Derived.Test.YtipgldfbjlhpoabHDPut
import Derived.Test.YtipgldfbjlhpoabHL51
import Derived.Test.YtipgldfbjlhpoabPDiff
import Derived.Test.YtipgldfbjlhpoabPL51
import Derived.Test.YtipgldfbjlhpoabPR09G
import Derived.Test.YtipgldfbjlhpoabPR09S
import Derived.Test.YtipgldfbjlhpoabPR12I
namespace Go.Proofs.Ytipgldfbjlhpoab.P
open Go.RowKit Go.Proofs.YtipgldfbjlhpoabW.PrintWords Go.Proofs.YtipgldfbjlhpoabW.PrintLast Go.Proofs.YtipgldfbjlhpoabW.PrintMore
attribute [local go_sem] max2_int min2_int max_two min_two max_three min_three max_four min_four   -- for this text's walks alone
set_option linter.unusedVariables false
set_option linter.unusedSimpArgs false

/-! ### footbridgelaw51_DiffBack: function 8 -/
mutual
def footbridgelaw51_DiffBack.j0 : Nat → List (S86) → List (S86) → Bool → Option (Bool)
  | 0, _, _, _ => none
  | k + 1, x0, x1, x33 => if x33 = true then ((footbridgelaw51_awake.f).bind fun t625 => (some t625)) else ((diff_Of.f x0 x1).bind fun bt626 => ((diff_Put.f bt626.1).bind fun bt630 => ((diff_Read.f k bt630.1).bind fun bt632 => ((diff_Apply.f x0 bt632.1).bind fun bt636 => (if bt626.2 = 0 then (if bt630.2 = 0 then (if bt632.2 = 0 then (if bt636.2 = 0 then ((footbridgeref09_Same.f k bt636.1 x1).bind fun t640 => (footbridgelaw51_DiffBack.j1 k x0 bt626.1 (!t640))) else (footbridgelaw51_DiffBack.j1 k x0 bt626.1 true)) else (footbridgelaw51_DiffBack.j1 k x0 bt626.1 true)) else (footbridgelaw51_DiffBack.j1 k x0 bt626.1 true)) else (footbridgelaw51_DiffBack.j1 k x0 bt626.1 true))))))
def footbridgelaw51_DiffBack.j1 : Nat → List (S86) → List (S62) → Bool → Option (Bool)
  | 0, _, _, _ => none
  | k + 1, x0, x5, x76 => if x76 = true then (some false) else (footbridgelaw51_DiffBack.l0 k x0 x5 0)
def footbridgelaw51_DiffBack.l0 : Nat → List (S86) → List (S62) → Int → Option (Bool)
  | 0, _, _, _ => none
  | k + 1, x0, x5, x13 => if x13 < (x5.length : Int) then (if 0 ≤ x13 then ((footbridgeref09_Get.f k x0 ((rd_T62 x5 x13).f0)).bind fun bt642 => (if (((rd_T62 x5 x13).f2) != bt642.2) = true then (if ((rd_T62 x5 x13).f2 = true) then (if (rd_T62 x5 x13).f2 = true then (if bt642.2 = true then (footbridgelaw51_DiffBack.l0 k x0 x5 (wrap64 (x13 + 1))) else (some false)) else (footbridgelaw51_DiffBack.l0 k x0 x5 (wrap64 (x13 + 1)))) else (if bt642.2 = true then (if bt642.1.toList = ((rd_T62 x5 x13).f1).toList then (some false) else (if (rd_T62 x5 x13).f2 = true then (footbridgelaw51_DiffBack.l0 k x0 x5 (wrap64 (x13 + 1))) else (footbridgelaw51_DiffBack.l0 k x0 x5 (wrap64 (x13 + 1))))) else (if (rd_T62 x5 x13).f2 = true then (some false) else (footbridgelaw51_DiffBack.l0 k x0 x5 (wrap64 (x13 + 1)))))) else (if (rd_T62 x5 x13).f2 = true then (if bt642.2 = true then (footbridgelaw51_DiffBack.l0 k x0 x5 (wrap64 (x13 + 1))) else (some false)) else (footbridgelaw51_DiffBack.l0 k x0 x5 (wrap64 (x13 + 1)))))) else (none)) else ((footbridgelaw51_awake.f).bind fun t651 => (some t651))
end
def footbridgelaw51_DiffBack.f (k : Nat) (l0 : List (S86)) (l1 : List (S86)) : Option (Bool) := (footbridgelaw51_few.f k l0).bind fun t621 => (if t621 = true then ((footbridgelaw51_few.f k l1).bind fun t622 => (if t622 = true then ((footbridgeref12_Rises.f k l0).bind fun t623 => (if t623 = true then ((footbridgeref12_Rises.f k l1).bind fun t624 => (footbridgelaw51_DiffBack.j0 k l0 l1 (!t624))) else (footbridgelaw51_DiffBack.j0 k l0 l1 true))) else (footbridgelaw51_DiffBack.j0 k l0 l1 true))) else (footbridgelaw51_DiffBack.j0 k l0 l1 true))
theorem footbridgelaw51_DiffBack.mono_l : ∀ k, (∀ y0 y1 y2, LeO (footbridgelaw51_DiffBack.j0 k y0 y1 y2) (footbridgelaw51_DiffBack.j0 (k + 1) y0 y1 y2)) ∧ (∀ y0 y1 y2, LeO (footbridgelaw51_DiffBack.j1 k y0 y1 y2) (footbridgelaw51_DiffBack.j1 (k + 1) y0 y1 y2)) ∧ (∀ y0 y1 y2, LeO (footbridgelaw51_DiffBack.l0 k y0 y1 y2) (footbridgelaw51_DiffBack.l0 (k + 1) y0 y1 y2))
  | 0 => ⟨fun _ _ _ r h => by simp [footbridgelaw51_DiffBack.j0] at h, fun _ _ _ r h => by simp [footbridgelaw51_DiffBack.j1] at h, fun _ _ _ r h => by simp [footbridgelaw51_DiffBack.l0] at h⟩
  | k + 1 => by
    obtain ⟨ih0, ih1, ih2⟩ := footbridgelaw51_DiffBack.mono_l k
    refine ⟨?_, ?_, ?_⟩
    · intro y0 y1 y2
      unfold footbridgelaw51_DiffBack.j0
      repeat' first
      | (with_reducible exact ih0 _ _ _)
      | (with_reducible exact ih1 _ _ _)
      | (with_reducible exact ih2 _ _ _)
      | (with_reducible exact diff_Read.mono _ _)
      | (with_reducible exact footbridgelaw51_few.mono _ _)
      | (with_reducible exact footbridgeref09_Get.mono _ _ _)
      | (with_reducible exact footbridgeref09_Same.mono _ _ _)
      | (with_reducible exact footbridgeref12_Rises.mono _ _)
      | (with_reducible exact LeO.refl _)
      | (with_reducible exact LeO.none _)
      | (with_reducible refine LeO.ite ?_ ?_)
      | (with_reducible refine LeO.bind ?_ (fun _ => ?_))
      | exact ih0 _ _ _
      | exact ih1 _ _ _
      | exact ih2 _ _ _
      | exact diff_Read.mono _ _
      | exact footbridgelaw51_few.mono _ _
      | exact footbridgeref09_Get.mono _ _ _
      | exact footbridgeref09_Same.mono _ _ _
      | exact footbridgeref12_Rises.mono _ _
      | exact LeO.none _
      | refine LeO.ite ?_ ?_
      | refine LeO.bind ?_ (fun _ => ?_)
    · intro y0 y1 y2
      unfold footbridgelaw51_DiffBack.j1
      repeat' first
      | (with_reducible exact ih0 _ _ _)
      | (with_reducible exact ih1 _ _ _)
      | (with_reducible exact ih2 _ _ _)
      | (with_reducible exact diff_Read.mono _ _)
      | (with_reducible exact footbridgelaw51_few.mono _ _)
      | (with_reducible exact footbridgeref09_Get.mono _ _ _)
      | (with_reducible exact footbridgeref09_Same.mono _ _ _)
      | (with_reducible exact footbridgeref12_Rises.mono _ _)
      | (with_reducible exact LeO.refl _)
      | (with_reducible exact LeO.none _)
      | (with_reducible refine LeO.ite ?_ ?_)
      | (with_reducible refine LeO.bind ?_ (fun _ => ?_))
      | exact ih0 _ _ _
      | exact ih1 _ _ _
      | exact ih2 _ _ _
      | exact diff_Read.mono _ _
      | exact footbridgelaw51_few.mono _ _
      | exact footbridgeref09_Get.mono _ _ _
      | exact footbridgeref09_Same.mono _ _ _
      | exact footbridgeref12_Rises.mono _ _
      | exact LeO.none _
      | refine LeO.ite ?_ ?_
      | refine LeO.bind ?_ (fun _ => ?_)
    · intro y0 y1 y2
      unfold footbridgelaw51_DiffBack.l0
      repeat' first
      | (with_reducible exact ih0 _ _ _)
      | (with_reducible exact ih1 _ _ _)
      | (with_reducible exact ih2 _ _ _)
      | (with_reducible exact diff_Read.mono _ _)
      | (with_reducible exact footbridgelaw51_few.mono _ _)
      | (with_reducible exact footbridgeref09_Get.mono _ _ _)
      | (with_reducible exact footbridgeref09_Same.mono _ _ _)
      | (with_reducible exact footbridgeref12_Rises.mono _ _)
      | (with_reducible exact LeO.refl _)
      | (with_reducible exact LeO.none _)
      | (with_reducible refine LeO.ite ?_ ?_)
      | (with_reducible refine LeO.bind ?_ (fun _ => ?_))
      | exact ih0 _ _ _
      | exact ih1 _ _ _
      | exact ih2 _ _ _
      | exact diff_Read.mono _ _
      | exact footbridgelaw51_few.mono _ _
      | exact footbridgeref09_Get.mono _ _ _
      | exact footbridgeref09_Same.mono _ _ _
      | exact footbridgeref12_Rises.mono _ _
      | exact LeO.none _
      | refine LeO.ite ?_ ?_
      | refine LeO.bind ?_ (fun _ => ?_)
theorem footbridgelaw51_DiffBack.mono : ∀ a0 a1 k, LeO (footbridgelaw51_DiffBack.f k a0 a1) (footbridgelaw51_DiffBack.f (k + 1) a0 a1) := by
  intro a0 a1 k
  obtain ⟨ih0, ih1, ih2⟩ := footbridgelaw51_DiffBack.mono_l k
  unfold footbridgelaw51_DiffBack.f
  repeat' first
      | (with_reducible exact ih0 _ _ _)
      | (with_reducible exact ih1 _ _ _)
      | (with_reducible exact ih2 _ _ _)
      | (with_reducible exact diff_Read.mono _ _)
      | (with_reducible exact footbridgelaw51_few.mono _ _)
      | (with_reducible exact footbridgeref09_Get.mono _ _ _)
      | (with_reducible exact footbridgeref09_Same.mono _ _ _)
      | (with_reducible exact footbridgeref12_Rises.mono _ _)
      | (with_reducible exact LeO.refl _)
      | (with_reducible exact LeO.none _)
      | (with_reducible refine LeO.ite ?_ ?_)
      | (with_reducible refine LeO.bind ?_ (fun _ => ?_))
      | exact ih0 _ _ _
      | exact ih1 _ _ _
      | exact ih2 _ _ _
      | exact diff_Read.mono _ _
      | exact footbridgelaw51_few.mono _ _
      | exact footbridgeref09_Get.mono _ _ _
      | exact footbridgeref09_Same.mono _ _ _
      | exact footbridgeref12_Rises.mono _ _
      | exact LeO.none _
      | refine LeO.ite ?_ ?_
      | refine LeO.bind ?_ (fun _ => ?_)
set_option maxHeartbeats 8000000 in
set_option maxRecDepth 100000 in
theorem footbridgelaw51_DiffBack.calls (k : Nat) (A0 : Option Addr) (c0 : Nat) (l0 : List (S86)) (A1 : Option Addr) (c1 : Nat) (l1 : List (S86)) (r : Bool) (w : World) (hr0 : Kd.C k86 w A0 l0.length l0) (hc0 : l0.length ≤ c0) (hr1 : Kd.C k86 w A1 l1.length l1) (hc1 : l1.length ≤ c1) (h : footbridgelaw51_DiffBack.f k l0 l1 = some r) :
    Calls Try.prog 8 #[.slice A0 l0.length c0, .slice A1 l1.length c1] w fun e w' => e = .returned (.bool r) ∧ Below w.heap.size w w' := by
  have HR0 := Aside0.mk hr0
  have HC0 := Aside0.mk hc0
  clear hr0 hc0
  have HR1 := Aside0.mk hr1
  have HC1 := Aside0.mk hc1
  clear hr1 hc1
  have HB := Aside0.mk (Below.refl w.heap.size w)
  have H : ((footbridgelaw51_few.f k l0).bind fun t621 => (if t621 = true then ((footbridgelaw51_few.f k l1).bind fun t622 => (if t622 = true then ((footbridgeref12_Rises.f k l0).bind fun t623 => (if t623 = true then ((footbridgeref12_Rises.f k l1).bind fun t624 => (footbridgelaw51_DiffBack.j0 k l0 l1 (!t624))) else (footbridgelaw51_DiffBack.j0 k l0 l1 true))) else (footbridgelaw51_DiffBack.j0 k l0 l1 true))) else (footbridgelaw51_DiffBack.j0 k l0 l1 true))) = some r := h
  clear h
  have HC3 := Aside0.mk H
  clear H
  go_enter Try.func8, Try.ntmps8
  go_upto_region 1 with (fail)
  go_cut [33] (fun v33 wc => ∃ (kq : Nat) (x33_2 : Bool), v33 = .bool x33_2 ∧ Aside0 (footbridgelaw51_DiffBack.j0 kq l0 l1 x33_2 = some r) ∧ Aside0 (kq ≤ k) ∧ Aside0 (Below w.heap.size w wc))
  case first =>
    have H := HC3.out
    clear HC3
    replace H := Option.bind_eq_some_iff.mp H
    obtain ⟨t621, A40, H⟩ := H
    replace H : (if t621 = true then ((footbridgelaw51_few.f k l1).bind fun t622 => (if t622 = true then ((footbridgeref12_Rises.f k l0).bind fun t623 => (if t623 = true then ((footbridgeref12_Rises.f k l1).bind fun t624 => (footbridgelaw51_DiffBack.j0 k l0 l1 (!t624))) else (footbridgelaw51_DiffBack.j0 k l0 l1 true))) else (footbridgelaw51_DiffBack.j0 k l0 l1 true))) else (footbridgelaw51_DiffBack.j0 k l0 l1 true)) = some r := H
    have A4 := Aside0.mk A40
    clear A40
    by_cases c5 : t621 = true
    · subst c5
      have H1 : ((footbridgelaw51_few.f k l1).bind fun t622 => (if t622 = true then ((footbridgeref12_Rises.f k l0).bind fun t623 => (if t623 = true then ((footbridgeref12_Rises.f k l1).bind fun t624 => (footbridgelaw51_DiffBack.j0 k l0 l1 (!t624))) else (footbridgelaw51_DiffBack.j0 k l0 l1 true))) else (footbridgelaw51_DiffBack.j0 k l0 l1 true))) = some r := by rw [if_pos rfl] at H; exact H
      clear H
      have H := H1
      clear H1
      replace H := Option.bind_eq_some_iff.mp H
      obtain ⟨t622, A60, H⟩ := H
      replace H : (if t622 = true then ((footbridgeref12_Rises.f k l0).bind fun t623 => (if t623 = true then ((footbridgeref12_Rises.f k l1).bind fun t624 => (footbridgelaw51_DiffBack.j0 k l0 l1 (!t624))) else (footbridgelaw51_DiffBack.j0 k l0 l1 true))) else (footbridgelaw51_DiffBack.j0 k l0 l1 true)) = some r := H
      have A6 := Aside0.mk A60
      clear A60
      by_cases c7 : t622 = true
      · subst c7
        have H1 : ((footbridgeref12_Rises.f k l0).bind fun t623 => (if t623 = true then ((footbridgeref12_Rises.f k l1).bind fun t624 => (footbridgelaw51_DiffBack.j0 k l0 l1 (!t624))) else (footbridgelaw51_DiffBack.j0 k l0 l1 true))) = some r := by rw [if_pos rfl] at H; exact H
        clear H
        have H := H1
        clear H1
        replace H := Option.bind_eq_some_iff.mp H
        obtain ⟨t623, A80, H⟩ := H
        replace H : (if t623 = true then ((footbridgeref12_Rises.f k l1).bind fun t624 => (footbridgelaw51_DiffBack.j0 k l0 l1 (!t624))) else (footbridgelaw51_DiffBack.j0 k l0 l1 true)) = some r := H
        have A8 := Aside0.mk A80
        clear A80
        by_cases c9 : t623 = true
        · subst c9
          have H1 : ((footbridgeref12_Rises.f k l1).bind fun t624 => (footbridgelaw51_DiffBack.j0 k l0 l1 (!t624))) = some r := by rw [if_pos rfl] at H; exact H
          clear H
          have H := H1
          clear H1
          replace H := Option.bind_eq_some_iff.mp H
          obtain ⟨t624, A100, H⟩ := H
          replace H : (footbridgelaw51_DiffBack.j0 k l0 l1 (!t624)) = some r := H
          have A10 := Aside0.mk A100
          clear A100
          have H' := Aside0.mk H
          clear H
          go_wp2_with (first | ((with_reducible refine gate_callee (f := 26) rfl ?_); refine goesL_ (some 17) rfl rfl Try.func26 (by kernel_rfl) rfl #[.slice A0 l0.length c0] rfl (by (try simp only [List.map_toArray, List.map_cons, List.map_nil]); first | done | rfl | (simp only [List.length_drop, List.length_take]; rfl)) ?_; (with_reducible refine (footbridgelaw51_few.calls k _ _ l0 true _ ?side1 ?side2 A4.out).mono ?_); (case side1 => repeat (first | exact (Kd.C_below HR0.out HB.out) | (with_reducible refine Kd.C_alloc ?_ _) | (with_reducible refine Kd.C_drewN ?_ _) | (with_reducible refine Kd.C_drew ?_))); (case side2 => exact HC0.out); rintro e w' ⟨rfl, ⟨nd, rfl⟩⟩; refine ⟨_, rfl, ?_⟩) | (go_at_call 26; (with_reducible refine (footbridgelaw51_few.calls k _ _ l1 true _ ?side1 ?side2 A6.out).mono ?_); (case side1 => repeat (first | exact (Kd.C_below HR1.out (by repeat (first | (with_reducible first | exact HB.out | apply below_alloc | apply pw_below_drewN | apply below_drew1) | exact HB.out))) | (with_reducible refine Kd.C_alloc ?_ _) | (with_reducible refine Kd.C_drewN ?_ _) | (with_reducible refine Kd.C_drew ?_))); (case side2 => exact HC1.out); rintro e w' ⟨rfl, ⟨nd, rfl⟩⟩) | (go_at_call 39; (with_reducible refine (footbridgeref12_Rises.calls k _ _ l0 true _ ?side1 ?side2 A8.out).mono ?_); (case side1 => repeat (first | exact (Kd.C_below HR0.out (by repeat (first | (with_reducible first | exact HB.out | apply below_alloc | apply pw_below_drewN | apply below_drew1) | exact HB.out))) | (with_reducible refine Kd.C_alloc ?_ _) | (with_reducible refine Kd.C_drewN ?_ _) | (with_reducible refine Kd.C_drew ?_))); (case side2 => exact HC0.out); rintro e w' ⟨rfl, ⟨nd, rfl⟩⟩) | (go_at_call 39; (with_reducible refine (footbridgeref12_Rises.calls k _ _ l1 t624 _ ?side1 ?side2 A10.out).mono ?_); (case side1 => repeat (first | exact (Kd.C_below HR1.out (by repeat (first | (with_reducible first | exact HB.out | apply below_alloc | apply pw_below_drewN | apply below_drew1) | exact HB.out))) | (with_reducible refine Kd.C_alloc ?_ _) | (with_reducible refine Kd.C_drewN ?_ _) | (with_reducible refine Kd.C_drew ?_))); (case side2 => exact HC1.out); rintro e w' ⟨rfl, ⟨nd, rfl⟩⟩))
          go_meet
          case rel => exact ⟨_, (!t624), (by first | rfl | (simp; done) | (simp [*]; done)), H', ⟨by first | omega | exact Nat.le_refl _⟩, ⟨by repeat (first | (with_reducible first | exact HB.out | apply below_alloc | apply pw_below_drewN | apply below_drew1) | exact HB.out)⟩⟩
        · replace c9 := Bool.eq_false_iff.mpr c9
          subst c9
          have H1 : (footbridgelaw51_DiffBack.j0 k l0 l1 true) = some r := by rw [if_neg (show ¬ (false = true) by decide)] at H; exact H
          clear H
          have H := H1
          clear H1
          have H' := Aside0.mk H
          clear H
          go_wp2_with (first | ((with_reducible refine gate_callee (f := 26) rfl ?_); refine goesL_ (some 17) rfl rfl Try.func26 (by kernel_rfl) rfl #[.slice A0 l0.length c0] rfl (by (try simp only [List.map_toArray, List.map_cons, List.map_nil]); first | done | rfl | (simp only [List.length_drop, List.length_take]; rfl)) ?_; (with_reducible refine (footbridgelaw51_few.calls k _ _ l0 true _ ?side1 ?side2 A4.out).mono ?_); (case side1 => repeat (first | exact (Kd.C_below HR0.out HB.out) | (with_reducible refine Kd.C_alloc ?_ _) | (with_reducible refine Kd.C_drewN ?_ _) | (with_reducible refine Kd.C_drew ?_))); (case side2 => exact HC0.out); rintro e w' ⟨rfl, ⟨nd, rfl⟩⟩; refine ⟨_, rfl, ?_⟩) | (go_at_call 26; (with_reducible refine (footbridgelaw51_few.calls k _ _ l1 true _ ?side1 ?side2 A6.out).mono ?_); (case side1 => repeat (first | exact (Kd.C_below HR1.out (by repeat (first | (with_reducible first | exact HB.out | apply below_alloc | apply pw_below_drewN | apply below_drew1) | exact HB.out))) | (with_reducible refine Kd.C_alloc ?_ _) | (with_reducible refine Kd.C_drewN ?_ _) | (with_reducible refine Kd.C_drew ?_))); (case side2 => exact HC1.out); rintro e w' ⟨rfl, ⟨nd, rfl⟩⟩) | (go_at_call 39; (with_reducible refine (footbridgeref12_Rises.calls k _ _ l0 false _ ?side1 ?side2 A8.out).mono ?_); (case side1 => repeat (first | exact (Kd.C_below HR0.out (by repeat (first | (with_reducible first | exact HB.out | apply below_alloc | apply pw_below_drewN | apply below_drew1) | exact HB.out))) | (with_reducible refine Kd.C_alloc ?_ _) | (with_reducible refine Kd.C_drewN ?_ _) | (with_reducible refine Kd.C_drew ?_))); (case side2 => exact HC0.out); rintro e w' ⟨rfl, ⟨nd, rfl⟩⟩))
          go_meet
          case rel => exact ⟨_, (true), (by first | rfl | (simp; done) | (simp [*]; done)), H', ⟨by first | omega | exact Nat.le_refl _⟩, ⟨by repeat (first | (with_reducible first | exact HB.out | apply below_alloc | apply pw_below_drewN | apply below_drew1) | exact HB.out)⟩⟩
      · replace c7 := Bool.eq_false_iff.mpr c7
        subst c7
        have H1 : (footbridgelaw51_DiffBack.j0 k l0 l1 true) = some r := by rw [if_neg (show ¬ (false = true) by decide)] at H; exact H
        clear H
        have H := H1
        clear H1
        have H' := Aside0.mk H
        clear H
        go_wp2_with (first | ((with_reducible refine gate_callee (f := 26) rfl ?_); refine goesL_ (some 17) rfl rfl Try.func26 (by kernel_rfl) rfl #[.slice A0 l0.length c0] rfl (by (try simp only [List.map_toArray, List.map_cons, List.map_nil]); first | done | rfl | (simp only [List.length_drop, List.length_take]; rfl)) ?_; (with_reducible refine (footbridgelaw51_few.calls k _ _ l0 true _ ?side1 ?side2 A4.out).mono ?_); (case side1 => repeat (first | exact (Kd.C_below HR0.out HB.out) | (with_reducible refine Kd.C_alloc ?_ _) | (with_reducible refine Kd.C_drewN ?_ _) | (with_reducible refine Kd.C_drew ?_))); (case side2 => exact HC0.out); rintro e w' ⟨rfl, ⟨nd, rfl⟩⟩; refine ⟨_, rfl, ?_⟩) | (go_at_call 26; (with_reducible refine (footbridgelaw51_few.calls k _ _ l1 false _ ?side1 ?side2 A6.out).mono ?_); (case side1 => repeat (first | exact (Kd.C_below HR1.out (by repeat (first | (with_reducible first | exact HB.out | apply below_alloc | apply pw_below_drewN | apply below_drew1) | exact HB.out))) | (with_reducible refine Kd.C_alloc ?_ _) | (with_reducible refine Kd.C_drewN ?_ _) | (with_reducible refine Kd.C_drew ?_))); (case side2 => exact HC1.out); rintro e w' ⟨rfl, ⟨nd, rfl⟩⟩))
        go_meet
        case rel => exact ⟨_, (true), (by first | rfl | (simp; done) | (simp [*]; done)), H', ⟨by first | omega | exact Nat.le_refl _⟩, ⟨by repeat (first | (with_reducible first | exact HB.out | apply below_alloc | apply pw_below_drewN | apply below_drew1) | exact HB.out)⟩⟩
    · replace c5 := Bool.eq_false_iff.mpr c5
      subst c5
      have H1 : (footbridgelaw51_DiffBack.j0 k l0 l1 true) = some r := by rw [if_neg (show ¬ (false = true) by decide)] at H; exact H
      clear H
      have H := H1
      clear H1
      have H' := Aside0.mk H
      clear H
      go_wp2_with (first | ((with_reducible refine gate_callee (f := 26) rfl ?_); refine goesL_ (some 17) rfl rfl Try.func26 (by kernel_rfl) rfl #[.slice A0 l0.length c0] rfl (by (try simp only [List.map_toArray, List.map_cons, List.map_nil]); first | done | rfl | (simp only [List.length_drop, List.length_take]; rfl)) ?_; (with_reducible refine (footbridgelaw51_few.calls k _ _ l0 false _ ?side1 ?side2 A4.out).mono ?_); (case side1 => repeat (first | exact (Kd.C_below HR0.out HB.out) | (with_reducible refine Kd.C_alloc ?_ _) | (with_reducible refine Kd.C_drewN ?_ _) | (with_reducible refine Kd.C_drew ?_))); (case side2 => exact HC0.out); rintro e w' ⟨rfl, ⟨nd, rfl⟩⟩; refine ⟨_, rfl, ?_⟩))
      go_meet
      case rel => exact ⟨_, (true), (by first | rfl | (simp; done) | (simp [*]; done)), H', ⟨by first | omega | exact Nat.le_refl _⟩, ⟨by repeat (first | (with_reducible first | exact HB.out | apply below_alloc | apply pw_below_drewN | apply below_drew1) | exact HB.out)⟩⟩
  case rest =>
    clear HC3
    try clear c1
    try clear c2
    try clear p2
    try clear c5
    try clear c7
    try clear c8
    try clear c9
    obtain ⟨kq, x33_2, rfl, HA, HJ2, HB⟩ := hcut
    cases kq with
    | zero => exact absurd HA.out (by simp [footbridgelaw51_DiffBack.j0])
    | succ kj2 =>
      have H := HA.out
      clear HA
      simp only [footbridgelaw51_DiffBack.j0] at H
      by_cases c11 : x33_2 = true
      · subst c11
        have H1 : ((footbridgelaw51_awake.f).bind fun t625 => (some t625)) = some r := by rw [if_pos rfl] at H; exact H
        clear H
        have H := H1
        clear H1
        replace H := Option.bind_eq_some_iff.mp H
        obtain ⟨t625, A120, H⟩ := H
        replace H : (some t625) = some r := H
        have A12 := Aside0.mk A120
        clear A120
        obtain rfl := Option.some.inj H
        go_wp2_with (first | ((with_reducible refine gate_callee (f := 28) rfl ?_); refine goesL_ (some 34) rfl rfl Try.func28 (by kernel_rfl) rfl #[] rfl (by (try simp only [List.map_toArray, List.map_cons, List.map_nil]); first | done | rfl | (simp only [List.length_drop, List.length_take]; rfl)) ?_; (with_reducible refine (footbridgelaw51_awake.calls  t625 _ A12.out).mono ?_); rintro e w13 ⟨rfl, hb⟩; refine ⟨_, rfl, ?_⟩; have n0_ := Aside0.mk (below_step (by repeat (first | (with_reducible first | exact HB.out | apply below_alloc | apply pw_below_drewN | apply below_drew1) | exact HB.out)) hb); clear HB; have HB := n0_; clear n0_; (try clear hb); (try clear hb2); (try clear hk); (try clear hi)))
        go_ret
        exact ⟨by first | rfl | (simp [errW_none, errW_some] <;> rfl) | (simp [*, errW_none, errW_some] <;> rfl), by repeat (first | (with_reducible first | exact HB.out | apply below_alloc | apply pw_below_drewN | apply below_drew1) | exact HB.out)⟩
      · replace c11 := Bool.eq_false_iff.mpr c11
        subst c11
        have H1 : ((diff_Of.f l0 l1).bind fun bt626 => ((diff_Put.f bt626.1).bind fun bt630 => ((diff_Read.f kj2 bt630.1).bind fun bt632 => ((diff_Apply.f l0 bt632.1).bind fun bt636 => (if bt626.2 = 0 then (if bt630.2 = 0 then (if bt632.2 = 0 then (if bt636.2 = 0 then ((footbridgeref09_Same.f kj2 bt636.1 l1).bind fun t640 => (footbridgelaw51_DiffBack.j1 kj2 l0 bt626.1 (!t640))) else (footbridgelaw51_DiffBack.j1 kj2 l0 bt626.1 true)) else (footbridgelaw51_DiffBack.j1 kj2 l0 bt626.1 true)) else (footbridgelaw51_DiffBack.j1 kj2 l0 bt626.1 true)) else (footbridgelaw51_DiffBack.j1 kj2 l0 bt626.1 true)))))) = some r := by rw [if_neg (show ¬ (false = true) by decide)] at H; exact H
        clear H
        have H := H1
        clear H1
        replace H := Option.bind_eq_some_iff.mp H
        obtain ⟨⟨t626, t627⟩, A140, H⟩ := H
        replace H : ((diff_Put.f t626).bind fun bt630 => ((diff_Read.f kj2 bt630.1).bind fun bt632 => ((diff_Apply.f l0 bt632.1).bind fun bt636 => (if t627 = 0 then (if bt630.2 = 0 then (if bt632.2 = 0 then (if bt636.2 = 0 then ((footbridgeref09_Same.f kj2 bt636.1 l1).bind fun t640 => (footbridgelaw51_DiffBack.j1 kj2 l0 t626 (!t640))) else (footbridgelaw51_DiffBack.j1 kj2 l0 t626 true)) else (footbridgelaw51_DiffBack.j1 kj2 l0 t626 true)) else (footbridgelaw51_DiffBack.j1 kj2 l0 t626 true)) else (footbridgelaw51_DiffBack.j1 kj2 l0 t626 true))))) = some r := H
        have A14 := Aside0.mk A140
        clear A140
        replace H := Option.bind_eq_some_iff.mp H
        obtain ⟨⟨t630, t631⟩, A150, H⟩ := H
        replace H : ((diff_Read.f kj2 t630).bind fun bt632 => ((diff_Apply.f l0 bt632.1).bind fun bt636 => (if t627 = 0 then (if t631 = 0 then (if bt632.2 = 0 then (if bt636.2 = 0 then ((footbridgeref09_Same.f kj2 bt636.1 l1).bind fun t640 => (footbridgelaw51_DiffBack.j1 kj2 l0 t626 (!t640))) else (footbridgelaw51_DiffBack.j1 kj2 l0 t626 true)) else (footbridgelaw51_DiffBack.j1 kj2 l0 t626 true)) else (footbridgelaw51_DiffBack.j1 kj2 l0 t626 true)) else (footbridgelaw51_DiffBack.j1 kj2 l0 t626 true)))) = some r := H
        have A15 := Aside0.mk A150
        clear A150
        replace H := Option.bind_eq_some_iff.mp H
        obtain ⟨⟨t632, t633⟩, A160, H⟩ := H
        replace H : ((diff_Apply.f l0 t632).bind fun bt636 => (if t627 = 0 then (if t631 = 0 then (if t633 = 0 then (if bt636.2 = 0 then ((footbridgeref09_Same.f kj2 bt636.1 l1).bind fun t640 => (footbridgelaw51_DiffBack.j1 kj2 l0 t626 (!t640))) else (footbridgelaw51_DiffBack.j1 kj2 l0 t626 true)) else (footbridgelaw51_DiffBack.j1 kj2 l0 t626 true)) else (footbridgelaw51_DiffBack.j1 kj2 l0 t626 true)) else (footbridgelaw51_DiffBack.j1 kj2 l0 t626 true))) = some r := H
        have A16 := Aside0.mk A160
        clear A160
        replace H := Option.bind_eq_some_iff.mp H
        obtain ⟨⟨t636, t637⟩, A170, H⟩ := H
        replace H : (if t627 = 0 then (if t631 = 0 then (if t633 = 0 then (if t637 = 0 then ((footbridgeref09_Same.f kj2 t636 l1).bind fun t640 => (footbridgelaw51_DiffBack.j1 kj2 l0 t626 (!t640))) else (footbridgelaw51_DiffBack.j1 kj2 l0 t626 true)) else (footbridgelaw51_DiffBack.j1 kj2 l0 t626 true)) else (footbridgelaw51_DiffBack.j1 kj2 l0 t626 true)) else (footbridgelaw51_DiffBack.j1 kj2 l0 t626 true)) = some r := H
        have A17 := Aside0.mk A170
        clear A170
        have HC18 := Aside0.mk H
        clear H
        go_upto_region 7 with (first | ((with_reducible refine gate_callee (f := 29) rfl ?_); refine goesL_ (some 38) rfl rfl Try.func29 (by kernel_rfl) rfl #[.slice A0 l0.length c0, .slice A1 l1.length c1] rfl (by (try simp only [List.map_toArray, List.map_cons, List.map_nil]); first | done | rfl | (simp only [List.length_drop, List.length_take]; rfl)) ?_; (with_reducible refine (diff_Of.calls _ _ l0 _ _ l1 t626 t627 _ ?side1 ?side2 ?side3 ?side4 A14.out).mono ?_); (case side1 => repeat (first | exact (Kd.C_below HR0.out HB.out) | (with_reducible refine Kd.C_alloc ?_ _) | (with_reducible refine Kd.C_drewN ?_ _) | (with_reducible refine Kd.C_drew ?_))); (case side2 => exact HC0.out); (case side3 => repeat (first | exact (Kd.C_below HR1.out HB.out) | (with_reducible refine Kd.C_alloc ?_ _) | (with_reducible refine Kd.C_drewN ?_ _) | (with_reducible refine Kd.C_drew ?_))); (case side4 => exact HC1.out); rintro e w19 ⟨v628, rfl, ho0, hb⟩; refine ⟨_, rfl, ?_⟩; have n0_ := Aside0.mk (Kd.R_lower ho0 (below_size (by repeat (first | (with_reducible first | exact HB.out | apply below_alloc | apply pw_below_drewN | apply below_drew1) | exact HB.out)))); have n1_ := Aside0.mk (below_step (by repeat (first | (with_reducible first | exact HB.out | apply below_alloc | apply pw_below_drewN | apply below_drew1) | exact HB.out)) hb); clear HB; have HO629 := n0_; have HB := n1_; clear n0_ n1_; (try clear hb); (try clear hb2); (try clear hk); (try clear hi); (try clear ho0); obtain ⟨Ao20, co20, eo20⟩ := Kd.R_slice HO629.out; subst eo20) | ((with_reducible refine gate_callee (f := 35) rfl ?_); refine goesL_ (some 43) rfl rfl Try.func35 (by kernel_rfl) rfl #[.slice Ao20 t626.length co20] rfl (by (try simp only [List.map_toArray, List.map_cons, List.map_nil]); first | done | rfl | (simp only [List.length_drop, List.length_take]; rfl)) ?_; (with_reducible refine (diff_Put.calls _ _ t626 t630 t631 _ ?side1 ?side2 A15.out).mono ?_); (case side1 => repeat (first | exact (Kd.R_reads' HO629.out).2.2 | (with_reducible refine Kd.C_alloc ?_ _) | (with_reducible refine Kd.C_drewN ?_ _) | (with_reducible refine Kd.C_drew ?_))); (case side2 => exact (Kd.R_reads' HO629.out).2.1); rintro e w21 ⟨rfl, hb⟩; refine ⟨_, rfl, ?_⟩; have n0_ := Aside0.mk (Kd.R_below (by (with_reducible repeat (first | apply Kd.R_alloc | apply Kd.R_drewN | apply Kd.R_drew)); exact HO629.out) hb); have n1_ := Aside0.mk (below_step (by repeat (first | (with_reducible first | exact HB.out | apply below_alloc | apply pw_below_drewN | apply below_drew1) | exact HB.out)) hb); clear HO629; clear HB; have HO629 := n0_; have HB := n1_; clear n0_ n1_; (try clear hb); (try clear hb2); (try clear hk); (try clear hi)) | ((with_reducible refine gate_callee (f := 37) rfl ?_); refine goesL_ (some 48) rfl rfl Try.func37 (by kernel_rfl) rfl #[.string t630] rfl (by (try simp only [List.map_toArray, List.map_cons, List.map_nil]); first | done | rfl | (simp only [List.length_drop, List.length_take]; rfl)) ?_; (with_reducible refine (diff_Read.calls kj2 t630 t632 t633 _ A16.out).mono ?_); rintro e w22 ⟨v634, rfl, ho0, hb⟩; refine ⟨_, rfl, ?_⟩; have n0_ := Aside0.mk (Kd.R_elder' (by (with_reducible repeat (first | apply Kd.R_alloc | apply Kd.R_drewN | apply Kd.R_drew)); exact HO629.out) (Kd.R_base ho0) hb); have n1_ := Aside0.mk (Kd.R_lower (Kd.R_new' ho0 (Kd.R_lt (by (with_reducible repeat (first | apply Kd.R_alloc | apply Kd.R_drewN | apply Kd.R_drew)); exact HO629.out))) (below_size (by repeat (first | (with_reducible first | exact HB.out | apply below_alloc | apply pw_below_drewN | apply below_drew1) | exact HB.out)))); have n2_ := Aside0.mk (below_step (by repeat (first | (with_reducible first | exact HB.out | apply below_alloc | apply pw_below_drewN | apply below_drew1) | exact HB.out)) hb); clear HO629; clear HB; have HO629 := n0_; have HO635 := n1_; have HB := n2_; clear n0_ n1_ n2_; (try clear hb); (try clear hb2); (try clear hk); (try clear hi); (try clear ho0); obtain ⟨Ao23, co23, eo23⟩ := Kd.R_slice HO635.out; subst eo23) | ((with_reducible refine gate_callee (f := 31) rfl ?_); refine goesL_ (some 54) rfl rfl Try.func31 (by kernel_rfl) rfl #[.slice A0 l0.length c0, .slice Ao23 t632.length co23] rfl (by (try simp only [List.map_toArray, List.map_cons, List.map_nil]); first | done | rfl | (simp only [List.length_drop, List.length_take]; rfl)) ?_; (with_reducible refine (diff_Apply.calls _ _ l0 _ _ t632 t636 t637 _ ?side1 ?side2 ?side3 ?side4 A17.out).mono ?_); (case side1 => repeat (first | exact (Kd.C_below HR0.out HB.out) | (with_reducible refine Kd.C_alloc ?_ _) | (with_reducible refine Kd.C_drewN ?_ _) | (with_reducible refine Kd.C_drew ?_))); (case side2 => exact HC0.out); (case side3 => repeat (first | exact (Kd.R_reads' HO635.out).2.2 | (with_reducible refine Kd.C_alloc ?_ _) | (with_reducible refine Kd.C_drewN ?_ _) | (with_reducible refine Kd.C_drew ?_))); (case side4 => exact (Kd.R_reads' HO635.out).2.1); rintro e w24 ⟨v638, rfl, ho0, hb⟩; refine ⟨_, rfl, ?_⟩; have n0_ := Aside0.mk (Kd.R_below (by (with_reducible repeat (first | apply Kd.R_alloc | apply Kd.R_drewN | apply Kd.R_drew)); exact HO629.out) hb); have n1_ := Aside0.mk (Kd.R_below (by (with_reducible repeat (first | apply Kd.R_alloc | apply Kd.R_drewN | apply Kd.R_drew)); exact HO635.out) hb); have n2_ := Aside0.mk (Kd.R_lower ho0 (below_size (by repeat (first | (with_reducible first | exact HB.out | apply below_alloc | apply pw_below_drewN | apply below_drew1) | exact HB.out)))); have n3_ := Aside0.mk (below_step (by repeat (first | (with_reducible first | exact HB.out | apply below_alloc | apply pw_below_drewN | apply below_drew1) | exact HB.out)) hb); clear HO629; clear HO635; clear HB; have HO629 := n0_; have HO635 := n1_; have HO639 := n2_; have HB := n3_; clear n0_ n1_ n2_ n3_; (try clear hb); (try clear hb2); (try clear hk); (try clear hi); (try clear ho0)))
        (try simp only [Act.put, List.setIfInBounds_toArray, List.set_cons_zero, List.set_cons_succ])
        go_cut [76] (fun v76 wc => ∃ (kq : Nat) (x76_17 : Bool), v76 = .bool x76_17 ∧ Aside0 (footbridgelaw51_DiffBack.j1 kq l0 t626 x76_17 = some r) ∧ Aside0 (kq ≤ kj2) ∧ Aside0 (Kd.R k62 62 wc w.heap.size (fun _ => True) (.slice Ao20 t626.length co20) t626) ∧ Aside0 (Below w.heap.size w wc))
        case first =>
          have H := HC18.out
          clear HC18
          by_cases c25 : t627 = 0
          · rw [if_pos c25] at H
            have c25b0 : (t627 == 0) = true := beq_iff_eq.mpr c25
            have c25b1 : (t627 != 0) = false := bne_eq_false_iff_eq.mpr c25
            clear c25
            (first | rw [c25b0] | (simp only [i64_w, i32_w]; rw [c25b0]) | skip)
            by_cases c26 : t631 = 0
            · rw [if_pos c26] at H
              have c26b0 : (t631 == 0) = true := beq_iff_eq.mpr c26
              have c26b1 : (t631 != 0) = false := bne_eq_false_iff_eq.mpr c26
              clear c26
              by_cases c27 : t633 = 0
              · rw [if_pos c27] at H
                have c27b0 : (t633 == 0) = true := beq_iff_eq.mpr c27
                have c27b1 : (t633 != 0) = false := bne_eq_false_iff_eq.mpr c27
                clear c27
                by_cases c28 : t637 = 0
                · rw [if_pos c28] at H
                  have c28b0 : (t637 == 0) = true := beq_iff_eq.mpr c28
                  have c28b1 : (t637 != 0) = false := bne_eq_false_iff_eq.mpr c28
                  clear c28
                  replace H := Option.bind_eq_some_iff.mp H
                  obtain ⟨t640, A290, H⟩ := H
                  replace H : (footbridgelaw51_DiffBack.j1 kj2 l0 t626 (!t640)) = some r := H
                  have A29 := Aside0.mk A290
                  clear A290
                  have H' := Aside0.mk H
                  clear H
                  obtain ⟨Ao30, co30, eo30⟩ := Kd.R_slice HO639.out
                  subst eo30
                  go_wp2_with (first | (go_at_call 34; (with_reducible refine (footbridgeref09_Same.calls kj2 _ _ t636 _ _ l1 t640 _ ?side1 ?side2 ?side3 ?side4 A29.out).mono ?_); (case side1 => repeat (first | exact (Kd.R_reads' HO639.out).2.2 | (with_reducible refine Kd.C_alloc ?_ _) | (with_reducible refine Kd.C_drewN ?_ _) | (with_reducible refine Kd.C_drew ?_))); (case side2 => exact (Kd.R_reads' HO639.out).2.1); (case side3 => repeat (first | exact (Kd.C_below HR1.out HB.out) | (with_reducible refine Kd.C_alloc ?_ _) | (with_reducible refine Kd.C_drewN ?_ _) | (with_reducible refine Kd.C_drew ?_))); (case side4 => exact HC1.out); rintro e w' ⟨rfl, ⟨nd, rfl⟩⟩))
                  go_meet
                  case rel => exact ⟨_, (!t640), (by first | rfl | (simp; done) | (simp [*]; done)), H', ⟨by have := HJ2.out; first | omega | exact Nat.le_refl _⟩, ⟨by (with_reducible repeat (first | apply Kd.R_alloc | apply Kd.R_drewN | apply Kd.R_drew)); exact Kd.R_mono HO629.out (fun _ hk => trivial)⟩, ⟨by repeat (first | (with_reducible first | exact HB.out | apply below_alloc | apply pw_below_drewN | apply below_drew1) | exact HB.out)⟩⟩
                · rw [if_neg c28] at H
                  have c28b0 : (t637 == 0) = false := beq_eq_false_iff_ne.mpr c28
                  have c28b1 : (t637 != 0) = true := bne_iff_ne.mpr c28
                  have H' := Aside0.mk H
                  clear H
                  go_wp2
                  go_meet
                  case rel => exact ⟨_, (true), (by first | rfl | (simp; done) | (simp [*]; done)), H', ⟨by have := HJ2.out; first | omega | exact Nat.le_refl _⟩, ⟨by (with_reducible repeat (first | apply Kd.R_alloc | apply Kd.R_drewN | apply Kd.R_drew)); exact Kd.R_mono HO629.out (fun _ hk => trivial)⟩, ⟨by repeat (first | (with_reducible first | exact HB.out | apply below_alloc | apply pw_below_drewN | apply below_drew1) | exact HB.out)⟩⟩
              · rw [if_neg c27] at H
                have c27b0 : (t633 == 0) = false := beq_eq_false_iff_ne.mpr c27
                have c27b1 : (t633 != 0) = true := bne_iff_ne.mpr c27
                have H' := Aside0.mk H
                clear H
                go_wp2
                go_meet
                case rel => exact ⟨_, (true), (by first | rfl | (simp; done) | (simp [*]; done)), H', ⟨by have := HJ2.out; first | omega | exact Nat.le_refl _⟩, ⟨by (with_reducible repeat (first | apply Kd.R_alloc | apply Kd.R_drewN | apply Kd.R_drew)); exact Kd.R_mono HO629.out (fun _ hk => trivial)⟩, ⟨by repeat (first | (with_reducible first | exact HB.out | apply below_alloc | apply pw_below_drewN | apply below_drew1) | exact HB.out)⟩⟩
            · rw [if_neg c26] at H
              have c26b0 : (t631 == 0) = false := beq_eq_false_iff_ne.mpr c26
              have c26b1 : (t631 != 0) = true := bne_iff_ne.mpr c26
              have H' := Aside0.mk H
              clear H
              go_wp2
              go_meet
              case rel => exact ⟨_, (true), (by first | rfl | (simp; done) | (simp [*]; done)), H', ⟨by have := HJ2.out; first | omega | exact Nat.le_refl _⟩, ⟨by (with_reducible repeat (first | apply Kd.R_alloc | apply Kd.R_drewN | apply Kd.R_drew)); exact Kd.R_mono HO629.out (fun _ hk => trivial)⟩, ⟨by repeat (first | (with_reducible first | exact HB.out | apply below_alloc | apply pw_below_drewN | apply below_drew1) | exact HB.out)⟩⟩
          · rw [if_neg c25] at H
            have c25b0 : (t627 == 0) = false := beq_eq_false_iff_ne.mpr c25
            have c25b1 : (t627 != 0) = true := bne_iff_ne.mpr c25
            (first | rw [c25b0] | (simp only [i64_w, i32_w]; rw [c25b0]) | skip)
            have H' := Aside0.mk H
            clear H
            go_wp2
            go_meet
            case rel => exact ⟨_, (true), (by first | rfl | (simp; done) | (simp [*]; done)), H', ⟨by have := HJ2.out; first | omega | exact Nat.le_refl _⟩, ⟨by (with_reducible repeat (first | apply Kd.R_alloc | apply Kd.R_drewN | apply Kd.R_drew)); exact Kd.R_mono HO629.out (fun _ hk => trivial)⟩, ⟨by repeat (first | (with_reducible first | exact HB.out | apply below_alloc | apply pw_below_drewN | apply below_drew1) | exact HB.out)⟩⟩
        case rest =>
          clear HC18
          try clear c1
          try clear c2
          try clear p2
          try clear c3
          try clear c5
          try clear c7
          try clear c8
          try clear c9
          try clear c11
          try clear c25
          try clear c25b0
          try clear c25b1
          try clear c26
          try clear c26b0
          try clear c26b1
          try clear c27
          try clear c27b0
          try clear c27b1
          try clear c28
          try clear c28b0
          try clear c28b1
          try clear c29
          try clear p2
          obtain ⟨kq, x76_17, rfl, HA, HJ17, HO_5, HB⟩ := hcut
          cases kq with
          | zero => exact absurd HA.out (by simp [footbridgelaw51_DiffBack.j1])
          | succ kj17 =>
            have H := HA.out
            clear HA
            simp only [footbridgelaw51_DiffBack.j1] at H
            by_cases c31 : x76_17 = true
            · subst c31
              have H1 : (some false) = some r := by rw [if_pos rfl] at H; exact H
              clear H
              have H := H1
              clear H1
              obtain rfl := Option.some.inj H
              go_wp2
              go_ret
              exact ⟨by first | rfl | (simp [errW_none, errW_some] <;> rfl) | (simp [*, errW_none, errW_some] <;> rfl), by repeat (first | (with_reducible first | exact HB.out | apply below_alloc | apply pw_below_drewN | apply below_drew1) | exact HB.out)⟩
            · replace c31 := Bool.eq_false_iff.mpr c31
              subst c31
              have H1 : (footbridgelaw51_DiffBack.l0 kj17 l0 t626 0) = some r := by rw [if_neg (show ¬ (false = true) by decide)] at H; exact H
              clear H
              have H := H1
              clear H1
              have H' := Aside0.mk H
              clear H
              go_wp2
              go_loopg [13] kj17 (fun kq v13 w' => ∃ (x13_3 : Int), v13 = .int .i64 x13_3 ∧ Aside0 (footbridgelaw51_DiffBack.l0 kq l0 t626 x13_3 = some r) ∧ Aside0 (kq ≤ kj17) ∧ Aside0 (Kd.R k62 62 w' w.heap.size (fun _ => True) (.slice Ao20 t626.length co20) t626) ∧ Aside0 (Below w.heap.size w w'))
              case atStart => exact ⟨(0), (by first | rfl | (simp; done) | (simp [*]; done)), H', ⟨Nat.le_refl _⟩, ⟨by (with_reducible repeat (first | apply Kd.R_alloc | apply Kd.R_drewN | apply Kd.R_drew)); exact HO_5.out⟩, ⟨by repeat (first | (with_reducible first | exact HB.out | apply below_alloc | apply pw_below_drewN | apply below_drew1) | exact HB.out)⟩⟩
              case round =>
                clear H'
                try clear c1
                try clear c2
                try clear p2
                try clear c3
                try clear c5
                try clear c7
                try clear c8
                try clear c9
                try clear c11
                try clear c25
                try clear c25b0
                try clear c25b1
                try clear c26
                try clear c26b0
                try clear c26b1
                try clear c27
                try clear c27b0
                try clear c27b1
                try clear c28
                try clear c28b0
                try clear c28b1
                try clear c29
                try clear c31
                try clear p2
                obtain ⟨x13_3, rfl, HA, HK3, HO_5, HB⟩ := hrel
                cases gk with
                | zero => exact absurd HA.out (by simp [footbridgelaw51_DiffBack.l0])
                | succ k3 =>
                  have H := HA.out
                  clear HA
                  simp only [footbridgelaw51_DiffBack.l0] at H
                  by_cases c32 : x13_3 < (t626.length : Int)
                  · rw [if_pos c32] at H
                    have c32b0 : decide (x13_3 < (t626.length : Int)) = true := decide_eq_true c32
                    clear c32
                    by_cases c33 : 0 ≤ x13_3
                    · rw [if_pos c33] at H
                      have c33b0 : decide (0 ≤ x13_3) = true := decide_eq_true c33
                      clear c33
                      replace H := Option.bind_eq_some_iff.mp H
                      obtain ⟨⟨t642, t643⟩, A340, H⟩ := H
                      replace H : (if (((rd_T62 t626 x13_3).f2) != t643) = true then (if ((rd_T62 t626 x13_3).f2 = true) then (if (rd_T62 t626 x13_3).f2 = true then (if t643 = true then (footbridgelaw51_DiffBack.l0 k3 l0 t626 (wrap64 (x13_3 + 1))) else (some false)) else (footbridgelaw51_DiffBack.l0 k3 l0 t626 (wrap64 (x13_3 + 1)))) else (if t643 = true then (if t642.toList = ((rd_T62 t626 x13_3).f1).toList then (some false) else (if (rd_T62 t626 x13_3).f2 = true then (footbridgelaw51_DiffBack.l0 k3 l0 t626 (wrap64 (x13_3 + 1))) else (footbridgelaw51_DiffBack.l0 k3 l0 t626 (wrap64 (x13_3 + 1))))) else (if (rd_T62 t626 x13_3).f2 = true then (some false) else (footbridgelaw51_DiffBack.l0 k3 l0 t626 (wrap64 (x13_3 + 1)))))) else (if (rd_T62 t626 x13_3).f2 = true then (if t643 = true then (footbridgelaw51_DiffBack.l0 k3 l0 t626 (wrap64 (x13_3 + 1))) else (some false)) else (footbridgelaw51_DiffBack.l0 k3 l0 t626 (wrap64 (x13_3 + 1))))) = some r := H
                      have A34 := Aside0.mk A340
                      clear A340
                      have p641 : 0 ≤ (x13_3 : Int) := of_decide_eq_true c33b0
                      have q641 : x13_3 < (t626.length : Int) := of_decide_eq_true c32b0
                      obtain ⟨ad641, e641, hx0, hx1, hx2⟩ := at_T62 (Kd.R_reads' HO_5.out).2.2 x13_3 p641 q641
                      cases e641
                      have hq := A34.out
                      clear A34
                      obtain ⟨Pc, hP⟩ : ∃ P_, P_ = rd_T62 t626 x13_3 := ⟨_, rfl⟩
                      rw [← hP] at H hq hx0 hx1 hx2
                      clear hP
                      obtain ⟨pk, pv, g⟩ := Pc
                      dsimp only at hq hx0 hx1 hx2
                      have hcall := footbridgeref09_Get.calls k3 _ _ l0 pk t642 t643 wr (Kd.C_below HR0.out HB.out) HC0.out hq
                      clear hq
                      have HH := Lib.hid H
                      clear H
                      replace p641 := eq_true p641
                      replace q641 := eq_true q641
                      cases g with
                      | false =>
                        cases t643 with
                        | false =>
                          have H : (footbridgelaw51_DiffBack.l0 k3 l0 t626 (wrap64 (x13_3 + 1))) = some r := HH.out
                          have H' := Aside0.mk H
                          clear H HH
                          go_wp2_with fail
                          refine hcall.mono ?_
                          rintro e w' ⟨rfl, ⟨nd, rfl⟩⟩
                          clear hcall
                          go_wp2
                          go_roundg k3
                          case measure => have := HJ2.out; have := HJ17.out; have := HK3.out; omega
                          case rel => exact ⟨(wrap64 (x13_3 + 1)), (by first | rfl | (simp; done) | (simp [*]; done)), H', ⟨by have := HJ2.out; have := HJ17.out; have := HK3.out; omega⟩, ⟨by (with_reducible repeat (first | apply Kd.R_alloc | apply Kd.R_drewN | apply Kd.R_drew)); exact HO_5.out⟩, ⟨by repeat (first | (with_reducible first | exact HB.out | apply below_alloc | apply pw_below_drewN | apply below_drew1) | exact HB.out)⟩⟩
                        | true =>
                          have H : (if t642.toList = pv.toList then (some false) else (footbridgelaw51_DiffBack.l0 k3 l0 t626 (wrap64 (x13_3 + 1)))) = some r := HH.out
                          by_cases hv : t642.toList = pv.toList
                          · rw [if_pos hv] at H
                            have hv2 : (t642.toList == pv.toList) = true := by rw [hv]; exact beq_self_eq_true _
                            obtain rfl := Option.some.inj H
                            clear H HH
                            go_wp2_with fail
                            refine hcall.mono ?_
                            rintro e w' ⟨rfl, ⟨nd, rfl⟩⟩
                            clear hcall
                            go_wp2
                            go_ret
                            exact ⟨by first | rfl | (simp [errW_none, errW_some] <;> rfl) | (simp [*, errW_none, errW_some] <;> rfl), by repeat (first | (with_reducible first | exact HB.out | apply below_alloc | apply pw_below_drewN | apply below_drew1) | exact HB.out)⟩
                          · rw [if_neg hv] at H
                            have hv2 : (t642.toList == pv.toList) = false := beq_eq_false_iff_ne.mpr hv
                            have H' := Aside0.mk H
                            clear H HH
                            go_wp2_with fail
                            refine hcall.mono ?_
                            rintro e w' ⟨rfl, ⟨nd, rfl⟩⟩
                            clear hcall
                            go_wp2
                            go_roundg k3
                            case measure => have := HJ2.out; have := HJ17.out; have := HK3.out; omega
                            case rel => exact ⟨(wrap64 (x13_3 + 1)), (by first | rfl | (simp; done) | (simp [*]; done)), H', ⟨by have := HJ2.out; have := HJ17.out; have := HK3.out; omega⟩, ⟨by (with_reducible repeat (first | apply Kd.R_alloc | apply Kd.R_drewN | apply Kd.R_drew)); exact HO_5.out⟩, ⟨by repeat (first | (with_reducible first | exact HB.out | apply below_alloc | apply pw_below_drewN | apply below_drew1) | exact HB.out)⟩⟩
                      | true =>
                        cases t643 with
                        | false =>
                          have H : (some false) = some r := HH.out
                          obtain rfl := Option.some.inj H
                          clear H HH
                          go_wp2_with fail
                          refine hcall.mono ?_
                          rintro e w' ⟨rfl, ⟨nd, rfl⟩⟩
                          clear hcall
                          go_wp2
                          go_ret
                          exact ⟨by first | rfl | (simp [errW_none, errW_some] <;> rfl) | (simp [*, errW_none, errW_some] <;> rfl), by repeat (first | (with_reducible first | exact HB.out | apply below_alloc | apply pw_below_drewN | apply below_drew1) | exact HB.out)⟩
                        | true =>
                          have H : (footbridgelaw51_DiffBack.l0 k3 l0 t626 (wrap64 (x13_3 + 1))) = some r := HH.out
                          have H' := Aside0.mk H
                          clear H HH
                          go_wp2_with fail
                          refine hcall.mono ?_
                          rintro e w' ⟨rfl, ⟨nd, rfl⟩⟩
                          clear hcall
                          go_wp2
                          go_roundg k3
                          case measure => have := HJ2.out; have := HJ17.out; have := HK3.out; omega
                          case rel => exact ⟨(wrap64 (x13_3 + 1)), (by first | rfl | (simp; done) | (simp [*]; done)), H', ⟨by have := HJ2.out; have := HJ17.out; have := HK3.out; omega⟩, ⟨by (with_reducible repeat (first | apply Kd.R_alloc | apply Kd.R_drewN | apply Kd.R_drew)); exact HO_5.out⟩, ⟨by repeat (first | (with_reducible first | exact HB.out | apply below_alloc | apply pw_below_drewN | apply below_drew1) | exact HB.out)⟩⟩
                    · rw [if_neg c33] at H
                      exact absurd H (by simp)
                  · rw [if_neg c32] at H
                    have c32b0 : decide (x13_3 < (t626.length : Int)) = false := decide_eq_false c32
                    clear c32
                    replace H := Option.bind_eq_some_iff.mp H
                    obtain ⟨t651, A470, H⟩ := H
                    replace H : (some t651) = some r := H
                    have A47 := Aside0.mk A470
                    clear A470
                    obtain rfl := Option.some.inj H
                    go_wp2_with (first | ((with_reducible refine gate_callee (f := 28) rfl ?_); refine goesL_ (some 131) rfl rfl Try.func28 (by kernel_rfl) rfl #[] rfl (by (try simp only [List.map_toArray, List.map_cons, List.map_nil]); first | done | rfl | (simp only [List.length_drop, List.length_take]; rfl)) ?_; (with_reducible refine (footbridgelaw51_awake.calls  t651 _ A47.out).mono ?_); rintro e w48 ⟨rfl, hb⟩; refine ⟨_, rfl, ?_⟩; have n0_ := Aside0.mk (Kd.R_below (by (with_reducible repeat (first | apply Kd.R_alloc | apply Kd.R_drewN | apply Kd.R_drew)); exact HO_5.out) hb); have n1_ := Aside0.mk (below_step (by repeat (first | (with_reducible first | exact HB.out | apply below_alloc | apply pw_below_drewN | apply below_drew1) | exact HB.out)) hb); clear HO_5; clear HB; have HO_5 := n0_; have HB := n1_; clear n0_ n1_; (try clear hb); (try clear hb2); (try clear hk); (try clear hi)))
                    go_ret
                    exact ⟨by first | rfl | (simp [errW_none, errW_some] <;> rfl) | (simp [*, errW_none, errW_some] <;> rfl), by repeat (first | (with_reducible first | exact HB.out | apply below_alloc | apply pw_below_drewN | apply below_drew1) | exact HB.out)⟩

end Go.Proofs.Ytipgldfbjlhpoab.P
