-- Made by wip/myprint.py of this repository, with the kit's print program, out of the translation: lines written by a program for this claim.
import Derived.Test.YtipgldfbjlhpoabP0
import Derived.Test.YtipgldfbjlhpoabHStr
import Derived.Test.YtipgldfbjlhpoabPR14N
import Derived.Test.YtipgldfbjlhpoabPRWire
namespace Go.Proofs.Ytipgldfbjlhpoab.P
open Go.RowKit Go.Proofs.YtipgldfbjlhpoabW.PrintWords Go.Proofs.YtipgldfbjlhpoabW.PrintLast Go.Proofs.YtipgldfbjlhpoabW.PrintMore
attribute [local go_sem] max2_int min2_int max_two min_two max_three min_three max_four min_four   -- for this text's walks alone
attribute [local go_sem] geq_str gtr_str
set_option linter.unusedVariables false
set_option linter.unusedSimpArgs false

/-! ### footbridgeref51_fine: function 95 -/
def footbridgeref51_fine.l0 : Nat → List (S62) → Int → Option (Bool)
  | 0, _, _ => none
  | k + 1, x0, x3 => if x3 < (x0.length : Int) then (if x3 > 0 then (if 0 ≤ (wrap64 (x3 - 1)) then (if (wrap64 (x3 - 1)) < (x0.length : Int) then (if 0 ≤ x3 then (if ((Op.bytesLess (((rd_T62 x0 (wrap64 (x3 - 1))).f0).toList) (((rd_T62 x0 x3).f0).toList)) = true) then (if (rd_T62 x0 x3).f2 = true then (if ((rd_T62 x0 x3).f1).toList = ([] : List UInt8) then (footbridgeref51_fine.l0 k x0 (wrap64 (x3 + 1))) else (some false)) else (footbridgeref51_fine.l0 k x0 (wrap64 (x3 + 1)))) else (some false)) else (none)) else (none)) else (none)) else (if 0 ≤ x3 then (if (rd_T62 x0 x3).f2 = true then (if ((rd_T62 x0 x3).f1).toList = ([] : List UInt8) then (footbridgeref51_fine.l0 k x0 (wrap64 (x3 + 1))) else (some false)) else (footbridgeref51_fine.l0 k x0 (wrap64 (x3 + 1)))) else (none))) else (some true)
def footbridgeref51_fine.f (k : Nat) (l0 : List (S62)) : Option (Bool) := footbridgeref51_fine.l0 k l0 0
theorem footbridgeref51_fine.mono_l : ∀ k, (∀ y0 y1, LeO (footbridgeref51_fine.l0 k y0 y1) (footbridgeref51_fine.l0 (k + 1) y0 y1))
  | 0 => fun _ _ r h => by simp [footbridgeref51_fine.l0] at h
  | k + 1 => by
    have ih0 := footbridgeref51_fine.mono_l k
    · intro y0 y1
      unfold footbridgeref51_fine.l0
      repeat' first
      | (with_reducible exact ih0 _ _)
      | (with_reducible exact LeO.refl _)
      | (with_reducible exact LeO.none _)
      | (with_reducible refine LeO.ite ?_ ?_)
      | (with_reducible refine LeO.bind ?_ (fun _ => ?_))
      | exact ih0 _ _
      | exact LeO.none _
      | refine LeO.ite ?_ ?_
      | refine LeO.bind ?_ (fun _ => ?_)
theorem footbridgeref51_fine.mono : ∀ a0 k, LeO (footbridgeref51_fine.f k a0) (footbridgeref51_fine.f (k + 1) a0) := by
  intro a0 k
  have ih0 := footbridgeref51_fine.mono_l k
  unfold footbridgeref51_fine.f
  repeat' first
      | (with_reducible exact ih0 _ _)
      | (with_reducible exact LeO.refl _)
      | (with_reducible exact LeO.none _)
      | (with_reducible refine LeO.ite ?_ ?_)
      | (with_reducible refine LeO.bind ?_ (fun _ => ?_))
      | exact ih0 _ _
      | exact LeO.none _
      | refine LeO.ite ?_ ?_
      | refine LeO.bind ?_ (fun _ => ?_)
set_option maxHeartbeats 8000000 in
set_option maxRecDepth 100000 in
theorem footbridgeref51_fine.calls (k : Nat) (A0 : Option Addr) (c0 : Nat) (l0 : List (S62)) (r : Bool) (w : World) (hr0 : Kd.C k62 w A0 l0.length l0) (hc0 : l0.length ≤ c0) (h : footbridgeref51_fine.f k l0 = some r) :
    Calls Try.prog 95 #[.slice A0 l0.length c0] w fun e w' => e = .returned (.bool r) ∧ Drawn0 w w' := by
  have HR0 := Aside0.mk hr0
  have HC0 := Aside0.mk hc0
  clear hr0 hc0
  have H : (footbridgeref51_fine.l0 k l0 0) = some r := h
  clear h
  have H' := Aside0.mk H
  clear H
  go_enter Try.func95, Try.ntmps95
  go_wp2
  repeat (go_quiet (fail); try go_wp2)
  go_loopg [3] k (fun kq v3 w' => ∃ (x3_1 : Int), v3 = .int .i64 x3_1 ∧ Aside0 (footbridgeref51_fine.l0 kq l0 x3_1 = some r) ∧ Aside0 (kq ≤ k) ∧ Drawn0 w w')
  case atStart => exact ⟨(0), (by first | rfl | (simp; done) | (simp [*]; done)), H', ⟨Nat.le_refl _⟩, by repeat (first | exact Drawn0.refl _ | apply Drawn0.step)⟩
  case round =>
    clear H'
    obtain ⟨x3_1, rfl, HA, HK1, ⟨m1, rfl⟩⟩ := hrel
    cases gk with
    | zero => exact absurd HA.out (by simp [footbridgeref51_fine.l0])
    | succ k1 =>
      have H := HA.out
      clear HA
      simp only [footbridgeref51_fine.l0] at H
      by_cases c2 : x3_1 < (l0.length : Int)
      · rw [if_pos c2] at H
        have c2b0 : decide (x3_1 < (l0.length : Int)) = true := decide_eq_true c2
        clear c2
        by_cases c3 : x3_1 > 0
        · rw [if_pos c3] at H
          have c3b0 : decide (0 < x3_1) = true := decide_eq_true c3
          clear c3
          obtain ⟨ji4, hji4⟩ : ∃ j_ : Int, (wrap64 (x3_1 - 1)) = j_ := ⟨_, rfl⟩
          replace H : (if 0 ≤ (ji4) then (if (ji4) < (l0.length : Int) then (if 0 ≤ x3_1 then (if ((Op.bytesLess (((rd_T62 l0 (ji4)).f0).toList) (((rd_T62 l0 x3_1).f0).toList)) = true) then (if (rd_T62 l0 x3_1).f2 = true then (if ((rd_T62 l0 x3_1).f1).toList = ([] : List UInt8) then (footbridgeref51_fine.l0 k1 l0 (wrap64 (x3_1 + 1))) else (some false)) else (footbridgeref51_fine.l0 k1 l0 (wrap64 (x3_1 + 1)))) else (some false)) else (none)) else (none)) else (none)) = some r := by first | (rw [hji4] at H; exact H) | (simp only [hji4] at H ⊢; exact H)
          have hji4w : (IntKind.i64.wrap (x3_1 - 1)) = ji4 := (i64_w _).trans hji4
          by_cases c5 : 0 ≤ (ji4)
          · rw [if_pos c5] at H
            have c5b0 : decide (0 ≤ (ji4)) = true := decide_eq_true c5
            clear c5
            by_cases c6 : (ji4) < (l0.length : Int)
            · rw [if_pos c6] at H
              have c6b0 : decide ((ji4) < (l0.length : Int)) = true := decide_eq_true c6
              clear c6
              by_cases c7 : 0 ≤ x3_1
              · rw [if_pos c7] at H
                have c7b0 : decide (0 ≤ x3_1) = true := decide_eq_true c7
                clear c7
                by_cases c8 : ((Op.bytesLess (((rd_T62 l0 (ji4)).f0).toList) (((rd_T62 l0 x3_1).f0).toList)) = true)
                · rw [if_pos c8] at H
                  have c8b0 : (Op.bytesLess (((rd_T62 l0 (ji4)).f0).toList) (((rd_T62 l0 x3_1).f0).toList)) = true := c8
                  clear c8
                  obtain ⟨bq9, hbq9⟩ : ∃ b_ : Bool, b_ = ((rd_T62 l0 x3_1).f2) := ⟨_, rfl⟩
                  replace H : (if bq9 = true then (if ((rd_T62 l0 x3_1).f1).toList = ([] : List UInt8) then (footbridgeref51_fine.l0 k1 l0 (wrap64 (x3_1 + 1))) else (some false)) else (footbridgeref51_fine.l0 k1 l0 (wrap64 (x3_1 + 1)))) = some r := by rw [← hbq9] at H; exact H
                  have Nbq9 := Aside0.mk hbq9
                  clear hbq9
                  by_cases c10 : bq9 = true
                  · subst c10
                    have H1 : (if ((rd_T62 l0 x3_1).f1).toList = ([] : List UInt8) then (footbridgeref51_fine.l0 k1 l0 (wrap64 (x3_1 + 1))) else (some false)) = some r := by rw [if_pos rfl] at H; exact H
                    clear H
                    have H := H1
                    clear H1
                    by_cases c11 : ((rd_T62 l0 x3_1).f1).toList = ([] : List UInt8)
                    · rw [if_pos c11] at H
                      have c11b0 : (((rd_T62 l0 x3_1).f1).toList == ([] : List UInt8)) = true := beq_iff_eq.mpr c11
                      have c11b1 : (((rd_T62 l0 x3_1).f1).toList != ([] : List UInt8)) = false := bne_eq_false_iff_eq.mpr c11
                      clear c11
                      have H' := Aside0.mk H
                      clear H
                      have p449 : 0 ≤ ((ji4) : Int) := of_decide_eq_true (by first | (with_reducible assumption) | assumption)
                      have q449 : (ji4) < (l0.length : Int) := of_decide_eq_true (by first | (with_reducible assumption) | assumption)
                      obtain ⟨ad449, e449, hx449_0, hx449_1, hx449_2⟩ := at_T62 HR0.out (ji4) p449 q449
                      (try rw [← Nbq9.out] at hx449_2)
                      cases e449
                      replace p449 := eq_true p449
                      replace q449 := eq_true q449
                      have p450 : 0 ≤ (x3_1 : Int) := of_decide_eq_true (by first | (with_reducible assumption) | assumption)
                      have q450 : x3_1 < (l0.length : Int) := of_decide_eq_true (by first | (with_reducible assumption) | assumption)
                      obtain ⟨ad450, e450, hx450_0, hx450_1, hx450_2⟩ := at_T62 HR0.out x3_1 p450 q450
                      (try rw [← Nbq9.out] at hx450_2)
                      obtain rfl : ad449 = ad450 := (by injection e450)
                      replace p450 := eq_true p450
                      replace q450 := eq_true q450
                      have p451 : 0 ≤ (x3_1 : Int) := of_decide_eq_true (by first | (with_reducible assumption) | assumption)
                      have q451 : x3_1 < (l0.length : Int) := of_decide_eq_true (by first | (with_reducible assumption) | assumption)
                      obtain ⟨ad451, e451, hx451_0, hx451_1, hx451_2⟩ := at_T62 HR0.out x3_1 p451 q451
                      (try rw [← Nbq9.out] at hx451_2)
                      obtain rfl : ad449 = ad451 := (by injection e451)
                      replace p451 := eq_true p451
                      replace q451 := eq_true q451
                      have p452 : 0 ≤ (x3_1 : Int) := of_decide_eq_true (by first | (with_reducible assumption) | assumption)
                      have q452 : x3_1 < (l0.length : Int) := of_decide_eq_true (by first | (with_reducible assumption) | assumption)
                      obtain ⟨ad452, e452, hx452_0, hx452_1, hx452_2⟩ := at_T62 HR0.out x3_1 p452 q452
                      (try rw [← Nbq9.out] at hx452_2)
                      obtain rfl : ad449 = ad452 := (by injection e452)
                      replace p452 := eq_true p452
                      replace q452 := eq_true q452
                      go_wp2
                      repeat (go_quiet (fail); try go_wp2)
                      go_roundg k1
                      case measure => have := HK1.out; omega
                      case rel => exact ⟨(wrap64 (x3_1 + 1)), (by first | rfl | (simp; done) | (simp [*]; done)), H', ⟨by have := HK1.out; omega⟩, by repeat (first | exact Drawn0.refl _ | apply Drawn0.step)⟩
                    · rw [if_neg c11] at H
                      have c11b0 : (((rd_T62 l0 x3_1).f1).toList == ([] : List UInt8)) = false := beq_eq_false_iff_ne.mpr c11
                      have c11b1 : (((rd_T62 l0 x3_1).f1).toList != ([] : List UInt8)) = true := bne_iff_ne.mpr c11
                      obtain rfl := Option.some.inj H
                      have p449 : 0 ≤ ((ji4) : Int) := of_decide_eq_true (by first | (with_reducible assumption) | assumption)
                      have q449 : (ji4) < (l0.length : Int) := of_decide_eq_true (by first | (with_reducible assumption) | assumption)
                      obtain ⟨ad449, e449, hx449_0, hx449_1, hx449_2⟩ := at_T62 HR0.out (ji4) p449 q449
                      (try rw [← Nbq9.out] at hx449_2)
                      cases e449
                      replace p449 := eq_true p449
                      replace q449 := eq_true q449
                      have p450 : 0 ≤ (x3_1 : Int) := of_decide_eq_true (by first | (with_reducible assumption) | assumption)
                      have q450 : x3_1 < (l0.length : Int) := of_decide_eq_true (by first | (with_reducible assumption) | assumption)
                      obtain ⟨ad450, e450, hx450_0, hx450_1, hx450_2⟩ := at_T62 HR0.out x3_1 p450 q450
                      (try rw [← Nbq9.out] at hx450_2)
                      obtain rfl : ad449 = ad450 := (by injection e450)
                      replace p450 := eq_true p450
                      replace q450 := eq_true q450
                      have p451 : 0 ≤ (x3_1 : Int) := of_decide_eq_true (by first | (with_reducible assumption) | assumption)
                      have q451 : x3_1 < (l0.length : Int) := of_decide_eq_true (by first | (with_reducible assumption) | assumption)
                      obtain ⟨ad451, e451, hx451_0, hx451_1, hx451_2⟩ := at_T62 HR0.out x3_1 p451 q451
                      (try rw [← Nbq9.out] at hx451_2)
                      obtain rfl : ad449 = ad451 := (by injection e451)
                      replace p451 := eq_true p451
                      replace q451 := eq_true q451
                      have p452 : 0 ≤ (x3_1 : Int) := of_decide_eq_true (by first | (with_reducible assumption) | assumption)
                      have q452 : x3_1 < (l0.length : Int) := of_decide_eq_true (by first | (with_reducible assumption) | assumption)
                      obtain ⟨ad452, e452, hx452_0, hx452_1, hx452_2⟩ := at_T62 HR0.out x3_1 p452 q452
                      (try rw [← Nbq9.out] at hx452_2)
                      obtain rfl : ad449 = ad452 := (by injection e452)
                      replace p452 := eq_true p452
                      replace q452 := eq_true q452
                      go_wp2
                      repeat (go_quiet (fail); try go_wp2)
                      go_ret
                      exact ⟨by first | rfl | (simp; done) | (simp only [← hji4] <;> (first | rfl | simp)) | (simp [*]; done), by repeat (first | exact Drawn0.refl _ | apply Drawn0.step)⟩
                  · replace c10 := Bool.eq_false_iff.mpr c10
                    subst c10
                    have H1 : (footbridgeref51_fine.l0 k1 l0 (wrap64 (x3_1 + 1))) = some r := by rw [if_neg (show ¬ (false = true) by decide)] at H; exact H
                    clear H
                    have H := H1
                    clear H1
                    have H' := Aside0.mk H
                    clear H
                    have p449 : 0 ≤ ((ji4) : Int) := of_decide_eq_true (by first | (with_reducible assumption) | assumption)
                    have q449 : (ji4) < (l0.length : Int) := of_decide_eq_true (by first | (with_reducible assumption) | assumption)
                    obtain ⟨ad449, e449, hx449_0, hx449_1, hx449_2⟩ := at_T62 HR0.out (ji4) p449 q449
                    (try rw [← Nbq9.out] at hx449_2)
                    cases e449
                    replace p449 := eq_true p449
                    replace q449 := eq_true q449
                    have p450 : 0 ≤ (x3_1 : Int) := of_decide_eq_true (by first | (with_reducible assumption) | assumption)
                    have q450 : x3_1 < (l0.length : Int) := of_decide_eq_true (by first | (with_reducible assumption) | assumption)
                    obtain ⟨ad450, e450, hx450_0, hx450_1, hx450_2⟩ := at_T62 HR0.out x3_1 p450 q450
                    (try rw [← Nbq9.out] at hx450_2)
                    obtain rfl : ad449 = ad450 := (by injection e450)
                    replace p450 := eq_true p450
                    replace q450 := eq_true q450
                    have p451 : 0 ≤ (x3_1 : Int) := of_decide_eq_true (by first | (with_reducible assumption) | assumption)
                    have q451 : x3_1 < (l0.length : Int) := of_decide_eq_true (by first | (with_reducible assumption) | assumption)
                    obtain ⟨ad451, e451, hx451_0, hx451_1, hx451_2⟩ := at_T62 HR0.out x3_1 p451 q451
                    (try rw [← Nbq9.out] at hx451_2)
                    obtain rfl : ad449 = ad451 := (by injection e451)
                    replace p451 := eq_true p451
                    replace q451 := eq_true q451
                    go_wp2
                    repeat (go_quiet (fail); try go_wp2)
                    go_roundg k1
                    case measure => have := HK1.out; omega
                    case rel => exact ⟨(wrap64 (x3_1 + 1)), (by first | rfl | (simp; done) | (simp [*]; done)), H', ⟨by have := HK1.out; omega⟩, by repeat (first | exact Drawn0.refl _ | apply Drawn0.step)⟩
                · rw [if_neg c8] at H
                  have c8b0 : (Op.bytesLess (((rd_T62 l0 (ji4)).f0).toList) (((rd_T62 l0 x3_1).f0).toList)) = false := by simpa using c8
                  clear c8
                  obtain rfl := Option.some.inj H
                  have p449 : 0 ≤ ((ji4) : Int) := of_decide_eq_true (by first | (with_reducible assumption) | assumption)
                  have q449 : (ji4) < (l0.length : Int) := of_decide_eq_true (by first | (with_reducible assumption) | assumption)
                  obtain ⟨ad449, e449, hx449_0, hx449_1, hx449_2⟩ := at_T62 HR0.out (ji4) p449 q449
                  cases e449
                  replace p449 := eq_true p449
                  replace q449 := eq_true q449
                  have p450 : 0 ≤ (x3_1 : Int) := of_decide_eq_true (by first | (with_reducible assumption) | assumption)
                  have q450 : x3_1 < (l0.length : Int) := of_decide_eq_true (by first | (with_reducible assumption) | assumption)
                  obtain ⟨ad450, e450, hx450_0, hx450_1, hx450_2⟩ := at_T62 HR0.out x3_1 p450 q450
                  obtain rfl : ad449 = ad450 := (by injection e450)
                  replace p450 := eq_true p450
                  replace q450 := eq_true q450
                  go_wp2
                  repeat (go_quiet (fail); try go_wp2)
                  go_ret
                  exact ⟨by first | rfl | (simp; done) | (simp only [← hji4] <;> (first | rfl | simp)) | (simp [*]; done), by repeat (first | exact Drawn0.refl _ | apply Drawn0.step)⟩
              · rw [if_neg c7] at H
                exact absurd H (by simp)
            · rw [if_neg c6] at H
              exact absurd H (by simp)
          · rw [if_neg c5] at H
            exact absurd H (by simp)
        · rw [if_neg c3] at H
          have c3b0 : decide (0 < x3_1) = false := decide_eq_false c3
          clear c3
          by_cases c12 : 0 ≤ x3_1
          · rw [if_pos c12] at H
            have c12b0 : decide (0 ≤ x3_1) = true := decide_eq_true c12
            clear c12
            obtain ⟨bq13, hbq13⟩ : ∃ b_ : Bool, b_ = ((rd_T62 l0 x3_1).f2) := ⟨_, rfl⟩
            replace H : (if bq13 = true then (if ((rd_T62 l0 x3_1).f1).toList = ([] : List UInt8) then (footbridgeref51_fine.l0 k1 l0 (wrap64 (x3_1 + 1))) else (some false)) else (footbridgeref51_fine.l0 k1 l0 (wrap64 (x3_1 + 1)))) = some r := by rw [← hbq13] at H; exact H
            have Nbq13 := Aside0.mk hbq13
            clear hbq13
            by_cases c14 : bq13 = true
            · subst c14
              have H1 : (if ((rd_T62 l0 x3_1).f1).toList = ([] : List UInt8) then (footbridgeref51_fine.l0 k1 l0 (wrap64 (x3_1 + 1))) else (some false)) = some r := by rw [if_pos rfl] at H; exact H
              clear H
              have H := H1
              clear H1
              by_cases c15 : ((rd_T62 l0 x3_1).f1).toList = ([] : List UInt8)
              · rw [if_pos c15] at H
                have c15b0 : (((rd_T62 l0 x3_1).f1).toList == ([] : List UInt8)) = true := beq_iff_eq.mpr c15
                have c15b1 : (((rd_T62 l0 x3_1).f1).toList != ([] : List UInt8)) = false := bne_eq_false_iff_eq.mpr c15
                clear c15
                have H' := Aside0.mk H
                clear H
                have p453 : 0 ≤ (x3_1 : Int) := of_decide_eq_true (by first | (with_reducible assumption) | assumption)
                have q453 : x3_1 < (l0.length : Int) := of_decide_eq_true (by first | (with_reducible assumption) | assumption)
                obtain ⟨ad453, e453, hx453_0, hx453_1, hx453_2⟩ := at_T62 HR0.out x3_1 p453 q453
                (try rw [← Nbq13.out] at hx453_2)
                cases e453
                replace p453 := eq_true p453
                replace q453 := eq_true q453
                have p454 : 0 ≤ (x3_1 : Int) := of_decide_eq_true (by first | (with_reducible assumption) | assumption)
                have q454 : x3_1 < (l0.length : Int) := of_decide_eq_true (by first | (with_reducible assumption) | assumption)
                obtain ⟨ad454, e454, hx454_0, hx454_1, hx454_2⟩ := at_T62 HR0.out x3_1 p454 q454
                (try rw [← Nbq13.out] at hx454_2)
                obtain rfl : ad453 = ad454 := (by injection e454)
                replace p454 := eq_true p454
                replace q454 := eq_true q454
                go_wp2
                repeat (go_quiet (fail); try go_wp2)
                go_roundg k1
                case measure => have := HK1.out; omega
                case rel => exact ⟨(wrap64 (x3_1 + 1)), (by first | rfl | (simp; done) | (simp [*]; done)), H', ⟨by have := HK1.out; omega⟩, by repeat (first | exact Drawn0.refl _ | apply Drawn0.step)⟩
              · rw [if_neg c15] at H
                have c15b0 : (((rd_T62 l0 x3_1).f1).toList == ([] : List UInt8)) = false := beq_eq_false_iff_ne.mpr c15
                have c15b1 : (((rd_T62 l0 x3_1).f1).toList != ([] : List UInt8)) = true := bne_iff_ne.mpr c15
                obtain rfl := Option.some.inj H
                have p453 : 0 ≤ (x3_1 : Int) := of_decide_eq_true (by first | (with_reducible assumption) | assumption)
                have q453 : x3_1 < (l0.length : Int) := of_decide_eq_true (by first | (with_reducible assumption) | assumption)
                obtain ⟨ad453, e453, hx453_0, hx453_1, hx453_2⟩ := at_T62 HR0.out x3_1 p453 q453
                (try rw [← Nbq13.out] at hx453_2)
                cases e453
                replace p453 := eq_true p453
                replace q453 := eq_true q453
                have p454 : 0 ≤ (x3_1 : Int) := of_decide_eq_true (by first | (with_reducible assumption) | assumption)
                have q454 : x3_1 < (l0.length : Int) := of_decide_eq_true (by first | (with_reducible assumption) | assumption)
                obtain ⟨ad454, e454, hx454_0, hx454_1, hx454_2⟩ := at_T62 HR0.out x3_1 p454 q454
                (try rw [← Nbq13.out] at hx454_2)
                obtain rfl : ad453 = ad454 := (by injection e454)
                replace p454 := eq_true p454
                replace q454 := eq_true q454
                go_wp2
                repeat (go_quiet (fail); try go_wp2)
                go_ret
                exact ⟨by first | rfl | (simp; done) | (simp [*]; done), by repeat (first | exact Drawn0.refl _ | apply Drawn0.step)⟩
            · replace c14 := Bool.eq_false_iff.mpr c14
              subst c14
              have H1 : (footbridgeref51_fine.l0 k1 l0 (wrap64 (x3_1 + 1))) = some r := by rw [if_neg (show ¬ (false = true) by decide)] at H; exact H
              clear H
              have H := H1
              clear H1
              have H' := Aside0.mk H
              clear H
              have p453 : 0 ≤ (x3_1 : Int) := of_decide_eq_true (by first | (with_reducible assumption) | assumption)
              have q453 : x3_1 < (l0.length : Int) := of_decide_eq_true (by first | (with_reducible assumption) | assumption)
              obtain ⟨ad453, e453, hx453_0, hx453_1, hx453_2⟩ := at_T62 HR0.out x3_1 p453 q453
              (try rw [← Nbq13.out] at hx453_2)
              cases e453
              replace p453 := eq_true p453
              replace q453 := eq_true q453
              go_wp2
              repeat (go_quiet (fail); try go_wp2)
              go_roundg k1
              case measure => have := HK1.out; omega
              case rel => exact ⟨(wrap64 (x3_1 + 1)), (by first | rfl | (simp; done) | (simp [*]; done)), H', ⟨by have := HK1.out; omega⟩, by repeat (first | exact Drawn0.refl _ | apply Drawn0.step)⟩
          · rw [if_neg c12] at H
            exact absurd H (by simp)
      · rw [if_neg c2] at H
        have c2b0 : decide (x3_1 < (l0.length : Int)) = false := decide_eq_false c2
        clear c2
        obtain rfl := Option.some.inj H
        go_wp2
        repeat (go_quiet (fail); try go_wp2)
        go_ret
        exact ⟨by first | rfl | (simp; done) | (simp [*]; done), by repeat (first | exact Drawn0.refl _ | apply Drawn0.step)⟩

/-! ### footbridgeref51_Put: function 36 -/
mutual
def footbridgeref51_Put.l0 : Nat → List (S62) → ByteArray → Int → Option (ByteArray × Int)
  | 0, _, _, _ => none
  | k + 1, x0, x4, x5 => if x5 < (x0.length : Int) then (if 0 ≤ x5 then ((footbridgeref01_Text.f k ((rd_T62 x0 x5).f0)).bind fun bt572 => ((footbridgeref01_Text.f k ((rd_T62 x0 x5).f1)).bind fun bt575 => (if bt572.2 = 0 then (footbridgeref51_Put.j1 k x0 x4 x5 bt572.1 bt575.1 (bt575.2 != 0)) else (footbridgeref51_Put.j1 k x0 x4 x5 bt572.1 bt575.1 true)))) else (none)) else (some (x4, 0))
def footbridgeref51_Put.j1 : Nat → List (S62) → ByteArray → Int → ByteArray → ByteArray → Bool → Option (ByteArray × Int)
  | 0, _, _, _, _, _, _ => none
  | k + 1, x0, x4, x5, x6, x8, x50 => if x50 = true then (some ((⟨#[]⟩ : ByteArray), 4)) else (if 0 ≤ x5 then (if x5 < (x0.length : Int) then (if (rd_T62 x0 x5).f2 = true then (if x4.size + x6.size ≤ 9223372036854775807 then ((footbridgeref14_Num.f k 1).bind fun t578 => (if (x4 ++ x6).size + t578.size ≤ 9223372036854775807 then (footbridgeref51_Put.l0 k x0 ((x4 ++ x6) ++ t578) (wrap64 (x5 + 1))) else (none))) else (none)) else (if x4.size + x6.size ≤ 9223372036854775807 then ((footbridgeref14_Num.f k 0).bind fun t579 => (if (x4 ++ x6).size + t579.size ≤ 9223372036854775807 then (if ((x4 ++ x6) ++ t579).size + x8.size ≤ 9223372036854775807 then (footbridgeref51_Put.l0 k x0 (((x4 ++ x6) ++ t579) ++ x8) (wrap64 (x5 + 1))) else (none)) else (none))) else (none))) else (none)) else (none))
end
def footbridgeref51_Put.f (k : Nat) (l0 : List (S62)) : Option (ByteArray × Int) := (footbridgeref51_fine.f k l0).bind fun t569 => (if t569 = true then (if (l0.length : Int) > 256 then (some ((⟨#[]⟩ : ByteArray), 4)) else ((footbridgeref14_Num.f k (l0.length : Int)).bind fun t570 => (footbridgeref51_Put.l0 k l0 t570 0))) else (some ((⟨#[]⟩ : ByteArray), 6)))
theorem footbridgeref51_Put.mono_l : ∀ k, (∀ y0 y1 y2, LeO (footbridgeref51_Put.l0 k y0 y1 y2) (footbridgeref51_Put.l0 (k + 1) y0 y1 y2)) ∧ (∀ y0 y1 y2 y3 y4 y5, LeO (footbridgeref51_Put.j1 k y0 y1 y2 y3 y4 y5) (footbridgeref51_Put.j1 (k + 1) y0 y1 y2 y3 y4 y5))
  | 0 => ⟨fun _ _ _ r h => by simp [footbridgeref51_Put.l0] at h, fun _ _ _ _ _ _ r h => by simp [footbridgeref51_Put.j1] at h⟩
  | k + 1 => by
    obtain ⟨ih0, ih1⟩ := footbridgeref51_Put.mono_l k
    refine ⟨?_, ?_⟩
    · intro y0 y1 y2
      unfold footbridgeref51_Put.l0
      repeat' first
      | (with_reducible exact ih0 _ _ _)
      | (with_reducible exact ih1 _ _ _ _ _ _)
      | (with_reducible exact footbridgeref01_Text.mono _ _)
      | (with_reducible exact footbridgeref14_Num.mono _ _)
      | (with_reducible exact footbridgeref51_fine.mono _ _)
      | (with_reducible exact LeO.refl _)
      | (with_reducible exact LeO.none _)
      | (with_reducible refine LeO.ite ?_ ?_)
      | (with_reducible refine LeO.bind ?_ (fun _ => ?_))
      | exact ih0 _ _ _
      | exact ih1 _ _ _ _ _ _
      | exact footbridgeref01_Text.mono _ _
      | exact footbridgeref14_Num.mono _ _
      | exact footbridgeref51_fine.mono _ _
      | exact LeO.none _
      | refine LeO.ite ?_ ?_
      | refine LeO.bind ?_ (fun _ => ?_)
    · intro y0 y1 y2 y3 y4 y5
      unfold footbridgeref51_Put.j1
      repeat' first
      | (with_reducible exact ih0 _ _ _)
      | (with_reducible exact ih1 _ _ _ _ _ _)
      | (with_reducible exact footbridgeref01_Text.mono _ _)
      | (with_reducible exact footbridgeref14_Num.mono _ _)
      | (with_reducible exact footbridgeref51_fine.mono _ _)
      | (with_reducible exact LeO.refl _)
      | (with_reducible exact LeO.none _)
      | (with_reducible refine LeO.ite ?_ ?_)
      | (with_reducible refine LeO.bind ?_ (fun _ => ?_))
      | exact ih0 _ _ _
      | exact ih1 _ _ _ _ _ _
      | exact footbridgeref01_Text.mono _ _
      | exact footbridgeref14_Num.mono _ _
      | exact footbridgeref51_fine.mono _ _
      | exact LeO.none _
      | refine LeO.ite ?_ ?_
      | refine LeO.bind ?_ (fun _ => ?_)
theorem footbridgeref51_Put.mono : ∀ a0 k, LeO (footbridgeref51_Put.f k a0) (footbridgeref51_Put.f (k + 1) a0) := by
  intro a0 k
  obtain ⟨ih0, ih1⟩ := footbridgeref51_Put.mono_l k
  unfold footbridgeref51_Put.f
  repeat' first
      | (with_reducible exact ih0 _ _ _)
      | (with_reducible exact ih1 _ _ _ _ _ _)
      | (with_reducible exact footbridgeref01_Text.mono _ _)
      | (with_reducible exact footbridgeref14_Num.mono _ _)
      | (with_reducible exact footbridgeref51_fine.mono _ _)
      | (with_reducible exact LeO.refl _)
      | (with_reducible exact LeO.none _)
      | (with_reducible refine LeO.ite ?_ ?_)
      | (with_reducible refine LeO.bind ?_ (fun _ => ?_))
      | exact ih0 _ _ _
      | exact ih1 _ _ _ _ _ _
      | exact footbridgeref01_Text.mono _ _
      | exact footbridgeref14_Num.mono _ _
      | exact footbridgeref51_fine.mono _ _
      | exact LeO.none _
      | refine LeO.ite ?_ ?_
      | refine LeO.bind ?_ (fun _ => ?_)
set_option maxHeartbeats 8000000 in
set_option maxRecDepth 100000 in
theorem footbridgeref51_Put.calls (k : Nat) (A0 : Option Addr) (c0 : Nat) (l0 : List (S62)) (r1 : ByteArray) (r2 : Int) (w : World) (hr0 : Kd.C k62 w A0 l0.length l0) (hc0 : l0.length ≤ c0) (h : footbridgeref51_Put.f k l0 = some (r1, r2)) :
    Calls Try.prog 36 #[.slice A0 l0.length c0] w fun e w' => e = .returned (.tuple #[.string r1, .int .i64 r2]) ∧ Below w.heap.size w w' := by
  have HR0 := Aside0.mk hr0
  have HC0 := Aside0.mk hc0
  clear hr0 hc0
  have HB := Aside0.mk (Below.refl w.heap.size w)
  have H : ((footbridgeref51_fine.f k l0).bind fun t569 => (if t569 = true then (if (l0.length : Int) > 256 then (some ((⟨#[]⟩ : ByteArray), 4)) else ((footbridgeref14_Num.f k (l0.length : Int)).bind fun t570 => (footbridgeref51_Put.l0 k l0 t570 0))) else (some ((⟨#[]⟩ : ByteArray), 6)))) = some (r1, r2) := h
  clear h
  replace H := Option.bind_eq_some_iff.mp H
  obtain ⟨t569, A20, H⟩ := H
  replace H : (if t569 = true then (if (l0.length : Int) > 256 then (some ((⟨#[]⟩ : ByteArray), 4)) else ((footbridgeref14_Num.f k (l0.length : Int)).bind fun t570 => (footbridgeref51_Put.l0 k l0 t570 0))) else (some ((⟨#[]⟩ : ByteArray), 6))) = some (r1, r2) := H
  have A2 := Aside0.mk A20
  clear A20
  by_cases c3 : t569 = true
  · subst c3
    have H1 : (if (l0.length : Int) > 256 then (some ((⟨#[]⟩ : ByteArray), 4)) else ((footbridgeref14_Num.f k (l0.length : Int)).bind fun t570 => (footbridgeref51_Put.l0 k l0 t570 0))) = some (r1, r2) := by rw [if_pos rfl] at H; exact H
    clear H
    have H := H1
    clear H1
    by_cases c4 : (l0.length : Int) > 256
    · rw [if_pos c4] at H
      have c4b0 : decide (256 < (l0.length : Int)) = true := decide_eq_true c4
      have c4b1 : decide (256 < l0.length) = true := decide_eq_true (by omega)
      clear c4
      simp only [Option.some.injEq, Prod.mk.injEq] at H
      obtain ⟨rfl, rfl⟩ := H
      go_enter Try.func36, Try.ntmps36
      go_wp2_with (first | ((with_reducible refine gate_callee (f := 95) rfl ?_); refine goesL_ (some 12) rfl rfl Try.func95 (by kernel_rfl) rfl #[.slice A0 l0.length c0] rfl (by (try simp only [List.map_toArray, List.map_cons, List.map_nil]); first | done | rfl | (simp only [List.length_drop, List.length_take]; rfl)) ?_; (with_reducible refine (footbridgeref51_fine.calls k _ _ l0 true _ ?side1 ?side2 A2.out).mono ?_); (case side1 => repeat (first | exact HR0.out | (with_reducible refine Kd.C_alloc ?_ _) | (with_reducible refine Kd.C_drewN ?_ _) | (with_reducible refine Kd.C_drew ?_))); (case side2 => exact HC0.out); rintro e w' ⟨rfl, ⟨nd, rfl⟩⟩; refine ⟨_, rfl, ?_⟩))
      go_ret2
      exact ⟨by first | rfl | (simp [errW_none, errW_some] <;> rfl) | (simp [*, errW_none, errW_some] <;> rfl), by repeat (first | (with_reducible first | exact HB.out | apply below_alloc | apply pw_below_drewN | apply below_drew1) | exact HB.out)⟩
    · rw [if_neg c4] at H
      have c4b0 : decide (256 < (l0.length : Int)) = false := decide_eq_false c4
      have c4b1 : decide (256 < l0.length) = false := decide_eq_false (by omega)
      clear c4
      replace H := Option.bind_eq_some_iff.mp H
      obtain ⟨t570, A50, H⟩ := H
      replace H : (footbridgeref51_Put.l0 k l0 t570 0) = some (r1, r2) := H
      have A5 := Aside0.mk A50
      clear A50
      have H' := Aside0.mk H
      clear H
      go_enter Try.func36, Try.ntmps36
      go_wp2_with (first | ((with_reducible refine gate_callee (f := 95) rfl ?_); refine goesL_ (some 12) rfl rfl Try.func95 (by kernel_rfl) rfl #[.slice A0 l0.length c0] rfl (by (try simp only [List.map_toArray, List.map_cons, List.map_nil]); first | done | rfl | (simp only [List.length_drop, List.length_take]; rfl)) ?_; (with_reducible refine (footbridgeref51_fine.calls k _ _ l0 true _ ?side1 ?side2 A2.out).mono ?_); (case side1 => repeat (first | exact HR0.out | (with_reducible refine Kd.C_alloc ?_ _) | (with_reducible refine Kd.C_drewN ?_ _) | (with_reducible refine Kd.C_drew ?_))); (case side2 => exact HC0.out); rintro e w' ⟨rfl, ⟨nd, rfl⟩⟩; refine ⟨_, rfl, ?_⟩) | ((with_reducible refine gate_callee (f := 102) rfl ?_); refine goesL_ (some 20) rfl rfl Try.func102 (by kernel_rfl) rfl #[.int .i64 (l0.length : Int)] rfl (by (try simp only [List.map_toArray, List.map_cons, List.map_nil]); first | done | rfl | (simp only [List.length_drop, List.length_take]; rfl)) ?_; (with_reducible refine (footbridgeref14_Num.calls k (l0.length : Int) t570 _ A5.out).mono ?_); rintro e w6 ⟨rfl, hb⟩; refine ⟨_, rfl, ?_⟩; have n0_ := Aside0.mk (below_step (by repeat (first | (with_reducible first | exact HB.out | apply below_alloc | apply pw_below_drewN | apply below_drew1) | exact HB.out)) hb); clear HB; have HB := n0_; clear n0_; (try clear hb); (try clear hb2); (try clear hk); (try clear hi)))
      go_loopg [4, 5] k (fun kq v4 v5 w' => ∃ (x4_1 : ByteArray) (x5_1 : Int), v4 = .string x4_1 ∧ v5 = .int .i64 x5_1 ∧ Aside0 (footbridgeref51_Put.l0 kq l0 x4_1 x5_1 = some (r1, r2)) ∧ Aside0 (kq ≤ k) ∧ Aside0 (Below w.heap.size w w'))
      case atStart => exact ⟨(t570), (0), (by first | rfl | (simp; done) | (simp [*]; done)), (by first | rfl | (simp; done) | (simp [*]; done)), H', ⟨Nat.le_refl _⟩, ⟨by repeat (first | (with_reducible first | exact HB.out | apply below_alloc | apply pw_below_drewN | apply below_drew1) | exact HB.out)⟩⟩
      case round =>
        clear H'
        try clear c1
        try clear p2
        try clear c3
        try clear c4
        try clear c4b0
        try clear c4b1
        obtain ⟨x4_1, x5_1, rfl, rfl, HA, HK1, HB⟩ := hrel
        cases gk with
        | zero => exact absurd HA.out (by simp [footbridgeref51_Put.l0])
        | succ k1 =>
          have H := HA.out
          clear HA
          simp only [footbridgeref51_Put.l0] at H
          by_cases c7 : x5_1 < (l0.length : Int)
          · rw [if_pos c7] at H
            have c7b0 : decide (x5_1 < (l0.length : Int)) = true := decide_eq_true c7
            clear c7
            by_cases c8 : 0 ≤ x5_1
            · rw [if_pos c8] at H
              have c8b0 : decide (0 ≤ x5_1) = true := decide_eq_true c8
              clear c8
              replace H := Option.bind_eq_some_iff.mp H
              obtain ⟨⟨t572, t573⟩, A90, H⟩ := H
              replace H : ((footbridgeref01_Text.f k1 ((rd_T62 l0 x5_1).f1)).bind fun bt575 => (if t573 = 0 then (footbridgeref51_Put.j1 k1 l0 x4_1 x5_1 t572 bt575.1 (bt575.2 != 0)) else (footbridgeref51_Put.j1 k1 l0 x4_1 x5_1 t572 bt575.1 true))) = some (r1, r2) := H
              have A9 := Aside0.mk A90
              clear A90
              replace H := Option.bind_eq_some_iff.mp H
              obtain ⟨⟨t575, t576⟩, A100, H⟩ := H
              replace H : (if t573 = 0 then (footbridgeref51_Put.j1 k1 l0 x4_1 x5_1 t572 t575 (t576 != 0)) else (footbridgeref51_Put.j1 k1 l0 x4_1 x5_1 t572 t575 true)) = some (r1, r2) := H
              have A10 := Aside0.mk A100
              clear A100
              have HC11 := Aside0.mk H
              clear H
              have p571 : 0 ≤ (x5_1 : Int) := of_decide_eq_true (by first | (with_reducible assumption) | assumption)
              have q571 : x5_1 < (l0.length : Int) := of_decide_eq_true (by first | (with_reducible assumption) | assumption)
              obtain ⟨ad571, e571, hx571_0, hx571_1, hx571_2⟩ := at_T62 HR0.out x5_1 p571 q571
              cases e571
              replace hx571_0 := (HB.out.cell (World.block_lt_of_cell? w _ hx571_0)).trans hx571_0
              replace hx571_1 := (HB.out.cell (World.block_lt_of_cell? w _ hx571_1)).trans hx571_1
              replace hx571_2 := (HB.out.cell (World.block_lt_of_cell? w _ hx571_2)).trans hx571_2
              replace p571 := eq_true p571
              replace q571 := eq_true q571
              go_upto_region 11 with (first | ((with_reducible refine gate_callee (f := 103) rfl ?_); refine goesL_ (some 33) rfl rfl Try.func103 (by kernel_rfl) rfl #[.string ((rd_T62 l0 x5_1).f0)] rfl (by (try simp only [List.map_toArray, List.map_cons, List.map_nil]); first | done | rfl | (simp only [List.length_drop, List.length_take]; rfl)) ?_; (with_reducible refine (footbridgeref01_Text.calls k1 ((rd_T62 l0 x5_1).f0) t572 t573 _ A9.out).mono ?_); rintro e w12 ⟨rfl, hb⟩; refine ⟨_, rfl, ?_⟩; have n0_ := Aside0.mk (below_step (by repeat (first | (with_reducible first | exact HB.out | apply below_alloc | apply pw_below_drewN | apply below_drew1) | exact HB.out)) hb); clear HB; have HB := n0_; clear n0_; (try clear hb); (try clear hb2); (try clear hk); (try clear hi); have p574 : 0 ≤ (x5_1 : Int) := of_decide_eq_true (by first | (with_reducible assumption) | assumption); have q574 : x5_1 < (l0.length : Int) := of_decide_eq_true (by first | (with_reducible assumption) | assumption); obtain ⟨ad574, e574, hx574_0, hx574_1, hx574_2⟩ := at_T62 HR0.out x5_1 p574 q574; obtain rfl : ad571 = ad574 := (by injection e574); replace hx574_0 := (HB.out.cell (World.block_lt_of_cell? w _ hx574_0)).trans hx574_0; replace hx574_1 := (HB.out.cell (World.block_lt_of_cell? w _ hx574_1)).trans hx574_1; replace hx574_2 := (HB.out.cell (World.block_lt_of_cell? w _ hx574_2)).trans hx574_2; replace p574 := eq_true p574; replace q574 := eq_true q574) | ((with_reducible refine gate_callee (f := 103) rfl ?_); refine goesL_ (some 42) rfl rfl Try.func103 (by kernel_rfl) rfl #[.string ((rd_T62 l0 x5_1).f1)] rfl (by (try simp only [List.map_toArray, List.map_cons, List.map_nil]); first | done | rfl | (simp only [List.length_drop, List.length_take]; rfl)) ?_; (with_reducible refine (footbridgeref01_Text.calls k1 ((rd_T62 l0 x5_1).f1) t575 t576 _ A10.out).mono ?_); rintro e w13 ⟨rfl, hb⟩; refine ⟨_, rfl, ?_⟩; have n0_ := Aside0.mk (below_step (by repeat (first | (with_reducible first | exact HB.out | apply below_alloc | apply pw_below_drewN | apply below_drew1) | exact HB.out)) hb); clear HB; have HB := n0_; clear n0_; (try clear hb); (try clear hb2); (try clear hk); (try clear hi)))
              (try simp only [Act.put, List.setIfInBounds_toArray, List.set_cons_zero, List.set_cons_succ])
              go_cut [50] (fun v50 wc => ∃ (kq : Nat) (x50_10 : Bool), v50 = .bool x50_10 ∧ Aside0 (footbridgeref51_Put.j1 kq l0 x4_1 x5_1 t572 t575 x50_10 = some (r1, r2)) ∧ Aside0 (kq ≤ k1) ∧ Aside0 (Below w.heap.size w wc))
              case first =>
                have H := HC11.out
                clear HC11
                by_cases c14 : t573 = 0
                · rw [if_pos c14] at H
                  have c14b0 : (t573 == 0) = true := beq_iff_eq.mpr c14
                  have c14b1 : (t573 != 0) = false := bne_eq_false_iff_eq.mpr c14
                  clear c14
                  (first | rw [c14b0] | (simp only [i64_w, i32_w]; rw [c14b0]) | skip)
                  have H' := Aside0.mk H
                  clear H
                  go_wp2
                  go_meet
                  case rel => exact ⟨_, ((t576 != 0)), (by first | rfl | (simp; done) | (simp [*]; done)), H', ⟨by have := HK1.out; first | omega | exact Nat.le_refl _⟩, ⟨by repeat (first | (with_reducible first | exact HB.out | apply below_alloc | apply pw_below_drewN | apply below_drew1) | exact HB.out)⟩⟩
                · rw [if_neg c14] at H
                  have c14b0 : (t573 == 0) = false := beq_eq_false_iff_ne.mpr c14
                  have c14b1 : (t573 != 0) = true := bne_iff_ne.mpr c14
                  (first | rw [c14b0] | (simp only [i64_w, i32_w]; rw [c14b0]) | skip)
                  have H' := Aside0.mk H
                  clear H
                  go_wp2
                  go_meet
                  case rel => exact ⟨_, (true), (by first | rfl | (simp; done) | (simp [*]; done)), H', ⟨by have := HK1.out; first | omega | exact Nat.le_refl _⟩, ⟨by repeat (first | (with_reducible first | exact HB.out | apply below_alloc | apply pw_below_drewN | apply below_drew1) | exact HB.out)⟩⟩
              case rest =>
                clear HC11
                try clear c1
                try clear p2
                try clear c3
                try clear c4
                try clear c4b0
                try clear c4b1
                try clear p5
                try clear q5
                try clear hx5
                try clear c7
                try clear c7b0
                try clear c8
                try clear c8b0
                try clear c9
                try clear c10
                try clear c14
                try clear c14b0
                try clear c14b1
                try clear hx571_0
                try clear hx571_1
                try clear hx571_2
                try clear hx574_0
                try clear hx574_1
                try clear hx574_2
                try clear p2
                try clear p571
                try clear p574
                try clear q571
                try clear q574
                obtain ⟨kq, x50_10, rfl, HA, HJ10, HB⟩ := hcut
                cases kq with
                | zero => exact absurd HA.out (by simp [footbridgeref51_Put.j1])
                | succ kj10 =>
                  have H := HA.out
                  clear HA
                  simp only [footbridgeref51_Put.j1] at H
                  by_cases c15 : x50_10 = true
                  · subst c15
                    have H1 : (some ((⟨#[]⟩ : ByteArray), 4)) = some (r1, r2) := by rw [if_pos rfl] at H; exact H
                    clear H
                    have H := H1
                    clear H1
                    simp only [Option.some.injEq, Prod.mk.injEq] at H
                    obtain ⟨rfl, rfl⟩ := H
                    go_wp2
                    go_ret2
                    exact ⟨by first | rfl | (simp [errW_none, errW_some] <;> rfl) | (simp [*, errW_none, errW_some] <;> rfl), by repeat (first | (with_reducible first | exact HB.out | apply below_alloc | apply pw_below_drewN | apply below_drew1) | exact HB.out)⟩
                  · replace c15 := Bool.eq_false_iff.mpr c15
                    subst c15
                    have H1 : (if 0 ≤ x5_1 then (if x5_1 < (l0.length : Int) then (if (rd_T62 l0 x5_1).f2 = true then (if x4_1.size + t572.size ≤ 9223372036854775807 then ((footbridgeref14_Num.f kj10 1).bind fun t578 => (if (x4_1 ++ t572).size + t578.size ≤ 9223372036854775807 then (footbridgeref51_Put.l0 kj10 l0 ((x4_1 ++ t572) ++ t578) (wrap64 (x5_1 + 1))) else (none))) else (none)) else (if x4_1.size + t572.size ≤ 9223372036854775807 then ((footbridgeref14_Num.f kj10 0).bind fun t579 => (if (x4_1 ++ t572).size + t579.size ≤ 9223372036854775807 then (if ((x4_1 ++ t572) ++ t579).size + t575.size ≤ 9223372036854775807 then (footbridgeref51_Put.l0 kj10 l0 (((x4_1 ++ t572) ++ t579) ++ t575) (wrap64 (x5_1 + 1))) else (none)) else (none))) else (none))) else (none)) else (none)) = some (r1, r2) := by rw [if_neg (show ¬ (false = true) by decide)] at H; exact H
                    clear H
                    have H := H1
                    clear H1
                    by_cases c16 : 0 ≤ x5_1
                    · rw [if_pos c16] at H
                      have c16b0 : decide (0 ≤ x5_1) = true := decide_eq_true c16
                      clear c16
                      by_cases c17 : x5_1 < (l0.length : Int)
                      · rw [if_pos c17] at H
                        have c17b0 : decide (x5_1 < (l0.length : Int)) = true := decide_eq_true c17
                        clear c17
                        obtain ⟨bq18, hbq18⟩ : ∃ b_ : Bool, b_ = ((rd_T62 l0 x5_1).f2) := ⟨_, rfl⟩
                        replace H : (if bq18 = true then (if x4_1.size + t572.size ≤ 9223372036854775807 then ((footbridgeref14_Num.f kj10 1).bind fun t578 => (if (x4_1 ++ t572).size + t578.size ≤ 9223372036854775807 then (footbridgeref51_Put.l0 kj10 l0 ((x4_1 ++ t572) ++ t578) (wrap64 (x5_1 + 1))) else (none))) else (none)) else (if x4_1.size + t572.size ≤ 9223372036854775807 then ((footbridgeref14_Num.f kj10 0).bind fun t579 => (if (x4_1 ++ t572).size + t579.size ≤ 9223372036854775807 then (if ((x4_1 ++ t572) ++ t579).size + t575.size ≤ 9223372036854775807 then (footbridgeref51_Put.l0 kj10 l0 (((x4_1 ++ t572) ++ t579) ++ t575) (wrap64 (x5_1 + 1))) else (none)) else (none))) else (none))) = some (r1, r2) := by rw [← hbq18] at H; exact H
                        have Nbq18 := Aside0.mk hbq18
                        clear hbq18
                        by_cases c19 : bq18 = true
                        · subst c19
                          have H1 : (if x4_1.size + t572.size ≤ 9223372036854775807 then ((footbridgeref14_Num.f kj10 1).bind fun t578 => (if (x4_1 ++ t572).size + t578.size ≤ 9223372036854775807 then (footbridgeref51_Put.l0 kj10 l0 ((x4_1 ++ t572) ++ t578) (wrap64 (x5_1 + 1))) else (none))) else (none)) = some (r1, r2) := by rw [if_pos rfl] at H; exact H
                          clear H
                          have H := H1
                          clear H1
                          by_cases c20 : x4_1.size + t572.size ≤ 9223372036854775807
                          · rw [if_pos c20] at H
                            have c20b0 := eq_true c20
                            have c20b1 : decide (x4_1.size + t572.size ≤ 9223372036854775807) = true := decide_eq_true c20
                            try have c20b2 : (9223372036854775807 < x4_1.size + t572.size) = False := eq_false (Nat.not_lt.2 c20)
                            replace H := Option.bind_eq_some_iff.mp H
                            obtain ⟨t578, A210, H⟩ := H
                            replace H : (if (x4_1 ++ t572).size + t578.size ≤ 9223372036854775807 then (footbridgeref51_Put.l0 kj10 l0 ((x4_1 ++ t572) ++ t578) (wrap64 (x5_1 + 1))) else (none)) = some (r1, r2) := H
                            have A21 := Aside0.mk A210
                            clear A210
                            by_cases c22 : (x4_1 ++ t572).size + t578.size ≤ 9223372036854775807
                            · rw [if_pos c22] at H
                              have c22b0 := eq_true c22
                              have c22b1 : decide ((x4_1 ++ t572).size + t578.size ≤ 9223372036854775807) = true := decide_eq_true c22
                              try have c22b2 : (9223372036854775807 < (x4_1 ++ t572).size + t578.size) = False := eq_false (Nat.not_lt.2 c22)
                              try (have c22b8 := c22b2; simp only [ByteArray.size_append] at c22b8)
                              have H' := Aside0.mk H
                              clear H
                              have p577 : 0 ≤ (x5_1 : Int) := of_decide_eq_true (by first | (with_reducible assumption) | assumption)
                              have q577 : x5_1 < (l0.length : Int) := of_decide_eq_true (by first | (with_reducible assumption) | assumption)
                              obtain ⟨ad577, e577, hx577_0, hx577_1, hx577_2⟩ := at_T62 HR0.out x5_1 p577 q577
                              (try rw [← Nbq18.out] at hx577_2)
                              obtain rfl : ad571 = ad577 := (by injection e577)
                              replace hx577_0 := (HB.out.cell (World.block_lt_of_cell? w _ hx577_0)).trans hx577_0
                              replace hx577_1 := (HB.out.cell (World.block_lt_of_cell? w _ hx577_1)).trans hx577_1
                              replace hx577_2 := (HB.out.cell (World.block_lt_of_cell? w _ hx577_2)).trans hx577_2
                              replace p577 := eq_true p577
                              replace q577 := eq_true q577
                              go_wp2_with (first | ((with_reducible refine gate_callee (f := 102) rfl ?_); refine goesL_ (some 59) rfl rfl Try.func102 (by kernel_rfl) rfl #[.int .i64 1] rfl (by (try simp only [List.map_toArray, List.map_cons, List.map_nil]); first | done | rfl | (simp only [List.length_drop, List.length_take]; rfl)) ?_; (with_reducible refine (footbridgeref14_Num.calls kj10 1 t578 _ A21.out).mono ?_); rintro e w23 ⟨rfl, hb⟩; refine ⟨_, rfl, ?_⟩; have n0_ := Aside0.mk (below_step (by repeat (first | (with_reducible first | exact HB.out | apply below_alloc | apply pw_below_drewN | apply below_drew1) | exact HB.out)) hb); clear HB; have HB := n0_; clear n0_; (try clear hb); (try clear hb2); (try clear hk); (try clear hi)))
                              go_roundg kj10
                              case measure => have := HK1.out; have := HJ10.out; omega
                              case rel => exact ⟨((x4_1 ++ t572) ++ t578), (wrap64 (x5_1 + 1)), (by first | rfl | (simp; done) | (simp [*]; done)), (by first | rfl | (simp; done) | (simp [*]; done)), H', ⟨by have := HK1.out; have := HJ10.out; omega⟩, ⟨by repeat (first | (with_reducible first | exact HB.out | apply below_alloc | apply pw_below_drewN | apply below_drew1) | exact HB.out)⟩⟩
                            · rw [if_neg c22] at H
                              exact absurd H (by simp)
                          · rw [if_neg c20] at H
                            exact absurd H (by simp)
                        · replace c19 := Bool.eq_false_iff.mpr c19
                          subst c19
                          have H1 : (if x4_1.size + t572.size ≤ 9223372036854775807 then ((footbridgeref14_Num.f kj10 0).bind fun t579 => (if (x4_1 ++ t572).size + t579.size ≤ 9223372036854775807 then (if ((x4_1 ++ t572) ++ t579).size + t575.size ≤ 9223372036854775807 then (footbridgeref51_Put.l0 kj10 l0 (((x4_1 ++ t572) ++ t579) ++ t575) (wrap64 (x5_1 + 1))) else (none)) else (none))) else (none)) = some (r1, r2) := by rw [if_neg (show ¬ (false = true) by decide)] at H; exact H
                          clear H
                          have H := H1
                          clear H1
                          by_cases c24 : x4_1.size + t572.size ≤ 9223372036854775807
                          · rw [if_pos c24] at H
                            have c24b0 := eq_true c24
                            have c24b1 : decide (x4_1.size + t572.size ≤ 9223372036854775807) = true := decide_eq_true c24
                            try have c24b2 : (9223372036854775807 < x4_1.size + t572.size) = False := eq_false (Nat.not_lt.2 c24)
                            replace H := Option.bind_eq_some_iff.mp H
                            obtain ⟨t579, A250, H⟩ := H
                            replace H : (if (x4_1 ++ t572).size + t579.size ≤ 9223372036854775807 then (if ((x4_1 ++ t572) ++ t579).size + t575.size ≤ 9223372036854775807 then (footbridgeref51_Put.l0 kj10 l0 (((x4_1 ++ t572) ++ t579) ++ t575) (wrap64 (x5_1 + 1))) else (none)) else (none)) = some (r1, r2) := H
                            have A25 := Aside0.mk A250
                            clear A250
                            by_cases c26 : (x4_1 ++ t572).size + t579.size ≤ 9223372036854775807
                            · rw [if_pos c26] at H
                              have c26b0 := eq_true c26
                              have c26b1 : decide ((x4_1 ++ t572).size + t579.size ≤ 9223372036854775807) = true := decide_eq_true c26
                              try have c26b2 : (9223372036854775807 < (x4_1 ++ t572).size + t579.size) = False := eq_false (Nat.not_lt.2 c26)
                              try (have c26b8 := c26b2; simp only [ByteArray.size_append] at c26b8)
                              by_cases c27 : ((x4_1 ++ t572) ++ t579).size + t575.size ≤ 9223372036854775807
                              · rw [if_pos c27] at H
                                have c27b0 := eq_true c27
                                have c27b1 : decide (((x4_1 ++ t572) ++ t579).size + t575.size ≤ 9223372036854775807) = true := decide_eq_true c27
                                try have c27b2 : (9223372036854775807 < ((x4_1 ++ t572) ++ t579).size + t575.size) = False := eq_false (Nat.not_lt.2 c27)
                                try (have c27b8 := c27b2; simp only [ByteArray.size_append] at c27b8)
                                have H' := Aside0.mk H
                                clear H
                                have p577 : 0 ≤ (x5_1 : Int) := of_decide_eq_true (by first | (with_reducible assumption) | assumption)
                                have q577 : x5_1 < (l0.length : Int) := of_decide_eq_true (by first | (with_reducible assumption) | assumption)
                                obtain ⟨ad577, e577, hx577_0, hx577_1, hx577_2⟩ := at_T62 HR0.out x5_1 p577 q577
                                (try rw [← Nbq18.out] at hx577_2)
                                obtain rfl : ad571 = ad577 := (by injection e577)
                                replace hx577_0 := (HB.out.cell (World.block_lt_of_cell? w _ hx577_0)).trans hx577_0
                                replace hx577_1 := (HB.out.cell (World.block_lt_of_cell? w _ hx577_1)).trans hx577_1
                                replace hx577_2 := (HB.out.cell (World.block_lt_of_cell? w _ hx577_2)).trans hx577_2
                                replace p577 := eq_true p577
                                replace q577 := eq_true q577
                                go_wp2_with (first | ((with_reducible refine gate_callee (f := 102) rfl ?_); refine goesL_ (some 64) rfl rfl Try.func102 (by kernel_rfl) rfl #[.int .i64 0] rfl (by (try simp only [List.map_toArray, List.map_cons, List.map_nil]); first | done | rfl | (simp only [List.length_drop, List.length_take]; rfl)) ?_; (with_reducible refine (footbridgeref14_Num.calls kj10 0 t579 _ A25.out).mono ?_); rintro e w28 ⟨rfl, hb⟩; refine ⟨_, rfl, ?_⟩; have n0_ := Aside0.mk (below_step (by repeat (first | (with_reducible first | exact HB.out | apply below_alloc | apply pw_below_drewN | apply below_drew1) | exact HB.out)) hb); clear HB; have HB := n0_; clear n0_; (try clear hb); (try clear hb2); (try clear hk); (try clear hi)))
                                go_roundg kj10
                                case measure => have := HK1.out; have := HJ10.out; omega
                                case rel => exact ⟨(((x4_1 ++ t572) ++ t579) ++ t575), (wrap64 (x5_1 + 1)), (by first | rfl | (simp; done) | (simp [*]; done)), (by first | rfl | (simp; done) | (simp [*]; done)), H', ⟨by have := HK1.out; have := HJ10.out; omega⟩, ⟨by repeat (first | (with_reducible first | exact HB.out | apply below_alloc | apply pw_below_drewN | apply below_drew1) | exact HB.out)⟩⟩
                              · rw [if_neg c27] at H
                                exact absurd H (by simp)
                            · rw [if_neg c26] at H
                              exact absurd H (by simp)
                          · rw [if_neg c24] at H
                            exact absurd H (by simp)
                      · rw [if_neg c17] at H
                        exact absurd H (by simp)
                    · rw [if_neg c16] at H
                      exact absurd H (by simp)
            · rw [if_neg c8] at H
              exact absurd H (by simp)
          · rw [if_neg c7] at H
            have c7b0 : decide (x5_1 < (l0.length : Int)) = false := decide_eq_false c7
            clear c7
            simp only [Option.some.injEq, Prod.mk.injEq] at H
            obtain ⟨rfl, rfl⟩ := H
            go_wp2
            go_ret2
            exact ⟨by first | rfl | (simp [errW_none, errW_some] <;> rfl) | (simp [*, errW_none, errW_some] <;> rfl), by repeat (first | (with_reducible first | exact HB.out | apply below_alloc | apply pw_below_drewN | apply below_drew1) | exact HB.out)⟩
  · replace c3 := Bool.eq_false_iff.mpr c3
    subst c3
    have H1 : (some ((⟨#[]⟩ : ByteArray), 6)) = some (r1, r2) := by rw [if_neg (show ¬ (false = true) by decide)] at H; exact H
    clear H
    have H := H1
    clear H1
    simp only [Option.some.injEq, Prod.mk.injEq] at H
    obtain ⟨rfl, rfl⟩ := H
    go_enter Try.func36, Try.ntmps36
    go_wp2_with (first | ((with_reducible refine gate_callee (f := 95) rfl ?_); refine goesL_ (some 12) rfl rfl Try.func95 (by kernel_rfl) rfl #[.slice A0 l0.length c0] rfl (by (try simp only [List.map_toArray, List.map_cons, List.map_nil]); first | done | rfl | (simp only [List.length_drop, List.length_take]; rfl)) ?_; (with_reducible refine (footbridgeref51_fine.calls k _ _ l0 false _ ?side1 ?side2 A2.out).mono ?_); (case side1 => repeat (first | exact HR0.out | (with_reducible refine Kd.C_alloc ?_ _) | (with_reducible refine Kd.C_drewN ?_ _) | (with_reducible refine Kd.C_drew ?_))); (case side2 => exact HC0.out); rintro e w' ⟨rfl, ⟨nd, rfl⟩⟩; refine ⟨_, rfl, ?_⟩))
    go_ret2
    exact ⟨by first | rfl | (simp [errW_none, errW_some] <;> rfl) | (simp [*, errW_none, errW_some] <;> rfl), by repeat (first | (with_reducible first | exact HB.out | apply below_alloc | apply pw_below_drewN | apply below_drew1) | exact HB.out)⟩

end Go.Proofs.Ytipgldfbjlhpoab.P
