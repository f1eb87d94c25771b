-- Made by wip/myprint.py of this repository, with the kit's print program, out of the translation: lines written by a program for this claim.
import Derived.Test.YtipgldfbjlhpoabP0
import Derived.Test.YtipgldfbjlhpoabPR09G
namespace Go.Proofs.Ytipgldfbjlhpoab.P
open Go.RowKit Go.Proofs.YtipgldfbjlhpoabW.PrintWords Go.Proofs.YtipgldfbjlhpoabW.PrintLast Go.Proofs.YtipgldfbjlhpoabW.PrintMore
attribute [local go_sem] max2_int min2_int max_two min_two max_three min_three max_four min_four   -- for this text's walks alone
set_option linter.unusedVariables false
set_option linter.unusedSimpArgs false

/-! ### footbridgeref09_Set: function 148 -/
def footbridgeref09_Set.f (k : Nat) (l0 : List (S86)) (a1 : ByteArray) (a2 : ByteArray) : Option ((List (S86)) × Bool) := (footbridgeref09_at.f k l0 a1).bind fun t455 => (if t455 = (l0.length : Int) then (if 0 ≤ t455 then (if t455 ≤ (l0.length : Int) then ((some (l0.drop (t455 : Int).toNat : List (S86))).bind fun y456 => ((some (l0.take (t455 : Int).toNat : List (S86))).bind fun y460 => (if ([] : List (S86)).length + y460.length < 4398046511104 then ((some (([] : List (S86)) ++ y460 : List (S86))).bind fun y464 => (if y464.length < 4398046511104 then ((some (y464 ++ [(⟨a1, a2⟩ : S86)] : List (S86))).bind fun y467 => (if y467.length + y456.length < 4398046511104 then (some ((y467 ++ y456), true)) else (none))) else (none))) else (none)))) else (none)) else (none)) else (if 0 ≤ t455 then (if t455 < (l0.length : Int) then (if t455 ≤ (l0.length : Int) then ((some (l0.drop (t455 : Int).toNat : List (S86))).bind fun y474 => (if (¬ ((rd_T86 l0 t455).f0).toList = a1.toList) then ((some (l0.take (t455 : Int).toNat : List (S86))).bind fun y478 => (if ([] : List (S86)).length + y478.length < 4398046511104 then ((some (([] : List (S86)) ++ y478 : List (S86))).bind fun y482 => (if y482.length < 4398046511104 then ((some (y482 ++ [(⟨a1, a2⟩ : S86)] : List (S86))).bind fun y485 => (if y485.length + y474.length < 4398046511104 then (some ((y485 ++ y474), (((rd_T86 l0 t455).f0).toList != a1.toList))) else (none))) else (none))) else (none))) else (if 0 ≤ (wrap64 (t455 + 1)) then (if (wrap64 (t455 + 1)) ≤ (l0.length : Int) then ((some (l0.drop ((wrap64 (t455 + 1)) : Int).toNat : List (S86))).bind fun y491 => ((some (l0.take (t455 : Int).toNat : List (S86))).bind fun y495 => (if ([] : List (S86)).length + y495.length < 4398046511104 then ((some (([] : List (S86)) ++ y495 : List (S86))).bind fun y499 => (if y499.length < 4398046511104 then ((some (y499 ++ [(⟨a1, a2⟩ : S86)] : List (S86))).bind fun y502 => (if y502.length + y491.length < 4398046511104 then (some ((y502 ++ y491), (((rd_T86 l0 t455).f0).toList != a1.toList))) else (none))) else (none))) else (none)))) else (none)) else (none)))) else (none)) else (none)) else (none)))
theorem footbridgeref09_Set.mono : ∀ a0 a1 a2 k, LeO (footbridgeref09_Set.f k a0 a1 a2) (footbridgeref09_Set.f (k + 1) a0 a1 a2) := by
  intro a0 a1 a2 k
  unfold footbridgeref09_Set.f
  repeat' first
      | (with_reducible exact footbridgeref09_at.mono _ _ _)
      | (with_reducible exact LeO.refl _)
      | (with_reducible exact LeO.none _)
      | (with_reducible refine LeO.ite ?_ ?_)
      | (with_reducible refine LeO.bind ?_ (fun _ => ?_))
      | exact footbridgeref09_at.mono _ _ _
      | exact LeO.none _
      | refine LeO.ite ?_ ?_
      | refine LeO.bind ?_ (fun _ => ?_)
set_option maxHeartbeats 8000000 in
set_option maxRecDepth 100000 in
theorem footbridgeref09_Set.calls (k : Nat) (A0 : Option Addr) (c0 : Nat) (l0 : List (S86)) (a1 : ByteArray) (a2 : ByteArray) (r1 : List (S86)) (r2 : Bool) (w : World) (hr0 : Kd.C k86 w A0 l0.length l0) (hc0 : l0.length ≤ c0) (h : footbridgeref09_Set.f k l0 a1 a2 = some (r1, r2)) :
    Calls Try.prog 148 #[.slice A0 l0.length c0, .string a1, .string a2] w fun e w' => ∃ v0_ : Value, e = .returned (.tuple #[v0_, .bool r2]) ∧ Kd.R k86 86 w' w.heap.size (fun _ => True) v0_ r1 ∧ Below w.heap.size w w' := by
  have hu86 := Try.underlying86
  have HR0 := Aside0.mk hr0
  have HC0 := Aside0.mk hc0
  clear hr0 hc0
  have HB := Aside0.mk (Below.refl w.heap.size w)
  have H : ((footbridgeref09_at.f k l0 a1).bind fun t455 => (if t455 = (l0.length : Int) then (if 0 ≤ t455 then (if t455 ≤ (l0.length : Int) then ((some (l0.drop (t455 : Int).toNat : List (S86))).bind fun y456 => ((some (l0.take (t455 : Int).toNat : List (S86))).bind fun y460 => (if ([] : List (S86)).length + y460.length < 4398046511104 then ((some (([] : List (S86)) ++ y460 : List (S86))).bind fun y464 => (if y464.length < 4398046511104 then ((some (y464 ++ [(⟨a1, a2⟩ : S86)] : List (S86))).bind fun y467 => (if y467.length + y456.length < 4398046511104 then (some ((y467 ++ y456), true)) else (none))) else (none))) else (none)))) else (none)) else (none)) else (if 0 ≤ t455 then (if t455 < (l0.length : Int) then (if t455 ≤ (l0.length : Int) then ((some (l0.drop (t455 : Int).toNat : List (S86))).bind fun y474 => (if (¬ ((rd_T86 l0 t455).f0).toList = a1.toList) then ((some (l0.take (t455 : Int).toNat : List (S86))).bind fun y478 => (if ([] : List (S86)).length + y478.length < 4398046511104 then ((some (([] : List (S86)) ++ y478 : List (S86))).bind fun y482 => (if y482.length < 4398046511104 then ((some (y482 ++ [(⟨a1, a2⟩ : S86)] : List (S86))).bind fun y485 => (if y485.length + y474.length < 4398046511104 then (some ((y485 ++ y474), (((rd_T86 l0 t455).f0).toList != a1.toList))) else (none))) else (none))) else (none))) else (if 0 ≤ (wrap64 (t455 + 1)) then (if (wrap64 (t455 + 1)) ≤ (l0.length : Int) then ((some (l0.drop ((wrap64 (t455 + 1)) : Int).toNat : List (S86))).bind fun y491 => ((some (l0.take (t455 : Int).toNat : List (S86))).bind fun y495 => (if ([] : List (S86)).length + y495.length < 4398046511104 then ((some (([] : List (S86)) ++ y495 : List (S86))).bind fun y499 => (if y499.length < 4398046511104 then ((some (y499 ++ [(⟨a1, a2⟩ : S86)] : List (S86))).bind fun y502 => (if y502.length + y491.length < 4398046511104 then (some ((y502 ++ y491), (((rd_T86 l0 t455).f0).toList != a1.toList))) else (none))) else (none))) else (none)))) else (none)) else (none)))) else (none)) else (none)) else (none)))) = some (r1, r2) := h
  clear h
  replace H := Option.bind_eq_some_iff.mp H
  obtain ⟨t455, A40, H⟩ := H
  replace H : (if t455 = (l0.length : Int) then (if 0 ≤ t455 then (if t455 ≤ (l0.length : Int) then ((some (l0.drop (t455 : Int).toNat : List (S86))).bind fun y456 => ((some (l0.take (t455 : Int).toNat : List (S86))).bind fun y460 => (if ([] : List (S86)).length + y460.length < 4398046511104 then ((some (([] : List (S86)) ++ y460 : List (S86))).bind fun y464 => (if y464.length < 4398046511104 then ((some (y464 ++ [(⟨a1, a2⟩ : S86)] : List (S86))).bind fun y467 => (if y467.length + y456.length < 4398046511104 then (some ((y467 ++ y456), true)) else (none))) else (none))) else (none)))) else (none)) else (none)) else (if 0 ≤ t455 then (if t455 < (l0.length : Int) then (if t455 ≤ (l0.length : Int) then ((some (l0.drop (t455 : Int).toNat : List (S86))).bind fun y474 => (if (¬ ((rd_T86 l0 t455).f0).toList = a1.toList) then ((some (l0.take (t455 : Int).toNat : List (S86))).bind fun y478 => (if ([] : List (S86)).length + y478.length < 4398046511104 then ((some (([] : List (S86)) ++ y478 : List (S86))).bind fun y482 => (if y482.length < 4398046511104 then ((some (y482 ++ [(⟨a1, a2⟩ : S86)] : List (S86))).bind fun y485 => (if y485.length + y474.length < 4398046511104 then (some ((y485 ++ y474), (((rd_T86 l0 t455).f0).toList != a1.toList))) else (none))) else (none))) else (none))) else (if 0 ≤ (wrap64 (t455 + 1)) then (if (wrap64 (t455 + 1)) ≤ (l0.length : Int) then ((some (l0.drop ((wrap64 (t455 + 1)) : Int).toNat : List (S86))).bind fun y491 => ((some (l0.take (t455 : Int).toNat : List (S86))).bind fun y495 => (if ([] : List (S86)).length + y495.length < 4398046511104 then ((some (([] : List (S86)) ++ y495 : List (S86))).bind fun y499 => (if y499.length < 4398046511104 then ((some (y499 ++ [(⟨a1, a2⟩ : S86)] : List (S86))).bind fun y502 => (if y502.length + y491.length < 4398046511104 then (some ((y502 ++ y491), (((rd_T86 l0 t455).f0).toList != a1.toList))) else (none))) else (none))) else (none)))) else (none)) else (none)))) else (none)) else (none)) else (none))) = some (r1, r2) := H
  have A4 := Aside0.mk A40
  clear A40
  by_cases c5 : t455 = (l0.length : Int)
  · rw [if_pos c5] at H
    have c5b0 : (t455 == (l0.length : Int)) = true := beq_iff_eq.mpr c5
    have c5b1 : (t455 != (l0.length : Int)) = false := bne_eq_false_iff_eq.mpr c5
    clear c5
    by_cases c6 : 0 ≤ t455
    · rw [if_pos c6] at H
      have c6b0 := eq_true c6
      have c6b1 : decide (0 ≤ t455) = true := decide_eq_true c6
      clear c6
      by_cases c7 : t455 ≤ (l0.length : Int)
      · rw [if_pos c7] at H
        have c7b0 := eq_true c7
        have c7b1 : decide (t455 ≤ (l0.length : Int)) = true := decide_eq_true c7
        clear c7
        obtain ⟨y456, hy456⟩ : ∃ y_ : List (S86), y_ = (l0.drop (t455 : Int).toNat) := ⟨_, rfl⟩
        replace H : ((some (l0.take (t455 : Int).toNat : List (S86))).bind fun y460 => (if ([] : List (S86)).length + y460.length < 4398046511104 then ((some (([] : List (S86)) ++ y460 : List (S86))).bind fun y464 => (if y464.length < 4398046511104 then ((some (y464 ++ [(⟨a1, a2⟩ : S86)] : List (S86))).bind fun y467 => (if y467.length + y456.length < 4398046511104 then (some ((y467 ++ y456), true)) else (none))) else (none))) else (none))) = some (r1, r2) := by first | (rw [hy456]; with_reducible exact H) | (have H2_ := (Option.bind_some _ _).symm.trans H; rw [hy456]; with_reducible exact H2_) | (have H2_ := (Option.bind_some _ _).symm.trans H; with_reducible exact H2_) | with_reducible exact H | (rw [hy456]; exact H) | exact H
        have Ny456 := Aside0.mk hy456
        clear hy456
        have c8b0 := eq_true (of_decide_eq_true (by first | (with_reducible assumption) | assumption) : 0 ≤ t455)
        have c9b0 := eq_true (of_decide_eq_true (by first | (with_reducible assumption) | assumption) : t455 ≤ (l0.length : Int))
        obtain ⟨y460, hy460⟩ : ∃ y_ : List (S86), y_ = (l0.take (t455 : Int).toNat) := ⟨_, rfl⟩
        replace H : (if ([] : List (S86)).length + y460.length < 4398046511104 then ((some (([] : List (S86)) ++ y460 : List (S86))).bind fun y464 => (if y464.length < 4398046511104 then ((some (y464 ++ [(⟨a1, a2⟩ : S86)] : List (S86))).bind fun y467 => (if y467.length + y456.length < 4398046511104 then (some ((y467 ++ y456), true)) else (none))) else (none))) else (none)) = some (r1, r2) := by first | (rw [hy460]; with_reducible exact H) | (have H2_ := (Option.bind_some _ _).symm.trans H; rw [hy460]; with_reducible exact H2_) | (have H2_ := (Option.bind_some _ _).symm.trans H; with_reducible exact H2_) | with_reducible exact H | (rw [hy460]; exact H) | exact H
        have Ny460 := Aside0.mk hy460
        clear hy460
        by_cases c10 : ([] : List (S86)).length + y460.length < 4398046511104
        · rw [if_pos c10] at H
          have LMc10 := Aside0.mk c10
          clear c10
          obtain ⟨y464, hy464⟩ : ∃ y_ : List (S86), y_ = (([] : List (S86)) ++ y460) := ⟨_, rfl⟩
          replace H : (if y464.length < 4398046511104 then ((some (y464 ++ [(⟨a1, a2⟩ : S86)] : List (S86))).bind fun y467 => (if y467.length + y456.length < 4398046511104 then (some ((y467 ++ y456), true)) else (none))) else (none)) = some (r1, r2) := by first | (rw [hy464]; with_reducible exact H) | (have H2_ := (Option.bind_some _ _).symm.trans H; rw [hy464]; with_reducible exact H2_) | (have H2_ := (Option.bind_some _ _).symm.trans H; with_reducible exact H2_) | with_reducible exact H | (rw [hy464]; exact H) | exact H
          have Ny464 := Aside0.mk hy464
          clear hy464
          by_cases c11 : y464.length < 4398046511104
          · rw [if_pos c11] at H
            have LMc11 := Aside0.mk c11
            clear c11
            obtain ⟨y467, hy467⟩ : ∃ y_ : List (S86), y_ = (y464 ++ [(⟨a1, a2⟩ : S86)]) := ⟨_, rfl⟩
            replace H : (if y467.length + y456.length < 4398046511104 then (some ((y467 ++ y456), true)) else (none)) = some (r1, r2) := by first | (rw [hy467]; with_reducible exact H) | (have H2_ := (Option.bind_some _ _).symm.trans H; rw [hy467]; with_reducible exact H2_) | (have H2_ := (Option.bind_some _ _).symm.trans H; with_reducible exact H2_) | with_reducible exact H | (rw [hy467]; exact H) | exact H
            have Ny467 := Aside0.mk hy467
            clear hy467
            by_cases c12 : y467.length + y456.length < 4398046511104
            · rw [if_pos c12] at H
              have LMc12 := Aside0.mk c12
              clear c12
              obtain ⟨y470, hy470⟩ : ∃ y_ : List (S86), y_ = (y467 ++ y456) := ⟨_, rfl⟩
              replace H : (some (y470, true)) = some (r1, r2) := by first | (rw [hy470]; with_reducible exact H) | (have H2_ := (Option.bind_some _ _).symm.trans H; rw [hy470]; with_reducible exact H2_) | (have H2_ := (Option.bind_some _ _).symm.trans H; with_reducible exact H2_) | with_reducible exact H | (rw [hy470]; exact H) | exact H
              have Ny470 := Aside0.mk hy470
              clear hy470
              simp only [Option.some.injEq, Prod.mk.injEq] at H
              obtain ⟨rfl, rfl⟩ := H
              go_enter Try.func148, Try.ntmps148
              go_wp2_with (first | ((with_reducible refine gate_callee (f := 105) rfl ?_); refine goesL_ (some 14) rfl rfl Try.func105 (by kernel_rfl) rfl #[.slice A0 l0.length c0, .string a1] rfl (by (try simp only [List.map_toArray, List.map_cons, List.map_nil]); first | done | rfl | (simp only [List.length_drop, List.length_take]; rfl)) ?_; (with_reducible refine (footbridgeref09_at.calls k _ _ l0 a1 t455 _ ?side1 ?side2 A4.out).mono ?_); (case side1 => repeat (first | exact HR0.out | (with_reducible refine Kd.C_alloc ?_ _) | (with_reducible refine Kd.C_drewN ?_ _) | (with_reducible refine Kd.C_drew ?_))); (case side2 => exact HC0.out); rintro e w' ⟨rfl, ⟨nd, rfl⟩⟩; refine ⟨_, rfl, ?_⟩; have q13 : (t455 : Int) ≤ ((l0.length : Int) : Int) := of_decide_eq_true (by first | (with_reducible assumption) | assumption); obtain ⟨i013, hi013, _, hsz13, _⟩ := info_parts info86; have hroom13 : l0.length ≤ c0 := HC0.out; have hC13 : Kd.C k86 _ A0 l0.length l0 := HR0.out; have q013 : (0 : Int) ≤ (t455 : Int) := of_decide_eq_true (by first | (with_reducible assumption) | assumption); have hcut13 := cut_from (P := Try.prog) 137 86 .i64 Try.underlying137 hi013 2 hsz13 A0 l0.length c0 t455 q013 q13; have hr13 := Kd.C_drop (m := (t455 : Int).toNat) (c := c0) hC13 (by omega) hroom13; obtain ⟨A13, hA13⟩ : ∃ A1, A1 = (if c0 = (t455 : Int).toNat then A0 else (A0 : Option Addr).map (·.add ((t455 : Int).toNat * 2))) := ⟨_, rfl⟩; obtain ⟨c13, hc13⟩ : ∃ c1, c1 = c0 - (t455 : Int).toNat := ⟨_, rfl⟩; have hy13 : y456.length = l0.length - (t455 : Int).toNat := (by rw [Ny456.out, List.length_drop] <;> omega); rw [show (l0).drop (t455 : Int).toNat = y456 from Ny456.out.symm] at hr13; replace hr13 : Kd.C k86 _ A13 y456.length y456 := (by rw [hA13]; exact hr13); rw [← hy13, ← hA13, ← hc13] at hcut13; have HR459 := Aside0.mk hr13; have HC459 := Aside0.mk (show y456.length ≤ c13 from by rw [hy13, hc13]; exact Nat.sub_le_sub_right hroom13 _); clear hr13 hC13 hroom13 hi013 hsz13 hc13; have KY13 := Aside0.mk hy13; have KA13 := Aside0.mk hA13; clear hy13 hA13; replace q13 := eq_true q13; have q14 : (t455 : Int) ≤ ((l0.length : Int) : Int) := of_decide_eq_true (by first | (with_reducible assumption) | assumption); obtain ⟨i014, hi014, _, hsz14, _⟩ := info_parts info86; have hroom14 : l0.length ≤ c0 := HC0.out; have hC14 : Kd.C k86 _ A0 l0.length l0 := HR0.out; have hcut14 := cut_to (P := Try.prog) 137 86 .i64 Try.underlying137 hi014 A0 l0.length c0 t455 (of_decide_eq_true (by first | (with_reducible assumption) | assumption)) q14 hroom14; have hr14 := Kd.C_take (m := (t455 : Int).toNat) hC14 (by omega); have hy14 : y460.length = (t455 : Int).toNat := (by rw [Ny460.out, List.length_take]; omega); rw [← Ny460.out] at hr14; rw [← hy14] at hcut14; have HR463 := Aside0.mk hr14; have HC463 := Aside0.mk (show y460.length ≤ c0 from by omega); clear hr14 hC14 hroom14 hi014 hsz14; have KY14 := Aside0.mk hy14; clear hy14; replace q14 := eq_true q14) | ((with_reducible refine gate_builtin (b := .append) (xs := #[.tmp 37, .tmp 40]) rfl ?_); at_builtin; refine Kd.R_append_rows k86 (w0 := w) w.heap.size rfl (.tmp 37) (.tmp 40) 137 86 (.agg #[(.string ⟨#[]⟩), (.string ⟨#[]⟩)]) 32 rfl Try.underlying137 info86 rfl (by decide) (by omega) (.slice none 0 0) ([] : List (S86)) y460 _ _ _ (fun _ => True) (fun _ => False) rfl rfl ?aO ?aR (fun _ _ h => h) (fun _ h => h.elim) ?aF ?aB ?aS ?aL ?_; (case aR => repeat (first | exact HR463.out | (with_reducible refine Kd.C_alloc ?_ _) | (with_reducible refine Kd.C_drewN ?_ _) | (with_reducible refine Kd.C_drew ?_))); (case aB => exact (by repeat (first | (with_reducible first | exact HB.out | apply below_alloc | apply pw_below_drewN | apply below_drew1) | exact HB.out))); (case aF => exact (fun _ _ => trivial)); (case aO => exact ((Kd.R_nil _ _ _ _ (fun _ => True)))); (case aS => exact (below_size (by repeat (first | (with_reducible first | exact HB.out | apply below_alloc | apply pw_below_drewN | apply below_drew1) | exact HB.out)))); (case aL => have := LMc10.out; omega); intro v465 w15 ho hb hg hat; rw [← Ny464.out] at ho; have n0_ := Aside0.mk (hb); have n1_ := Aside0.mk (ho); clear HB; have HB := n0_; have HO466 := n1_; clear n0_ n1_; clear ho hb hg hat) | ((with_reducible refine gate_builtin (b := .append) (xs := #[.tmp 42, .tmp 46]) rfl ?_); at_builtin; refine Kd.R_append k86 (w0 := w) w.heap.size rfl (.tmp 42) (.tmp 46) 137 86 (.agg #[(.string ⟨#[]⟩), (.string ⟨#[]⟩)]) 32 rfl Try.underlying137 info86 rfl (by decide) (by omega) v465 y464 (⟨a1, a2⟩ : S86) [.string a1, .string a2] (fun _ => True) (fun _ => False) rfl rfl ?aP (fun _ hk => hk.elim) ?aF ?aO ?aB ?aS ?aL ?_; (case aP => exact k86_mkM _ _ _ (⟨a1, a2⟩ : S86)); (case aB => exact (by repeat (first | (with_reducible first | exact HB.out | apply below_alloc | apply pw_below_drewN | apply below_drew1) | exact HB.out))); (case aF => exact (fun _ _ => trivial)); (case aO => exact (by (with_reducible repeat (first | apply Kd.R_alloc | apply Kd.R_drewN | apply Kd.R_drew)); exact HO466.out)); (case aS => exact (below_size (by repeat (first | (with_reducible first | exact HB.out | apply below_alloc | apply pw_below_drewN | apply below_drew1) | exact HB.out)))); (case aL => have := LMc11.out; omega); intro v468 w16 ho hb hg hat; rw [← Ny467.out] at ho; have n0_ := Aside0.mk (hb); have n1_ := Aside0.mk (ho); clear HB; clear HO466; have HB := n0_; have HO469 := n1_; clear n0_ n1_; clear ho hb hg hat) | ((with_reducible refine gate_builtin (b := .append) (xs := #[.tmp 48, .tmp 49]) rfl ?_); at_builtin; refine Kd.R_append_rows k86 (w0 := w) w.heap.size rfl (.tmp 48) (.tmp 49) 137 86 (.agg #[(.string ⟨#[]⟩), (.string ⟨#[]⟩)]) 32 rfl Try.underlying137 info86 rfl (by decide) (by omega) v468 y467 y456 _ _ _ (fun _ => True) (fun _ => False) rfl rfl ?aO ?aR (fun _ _ h => h) (fun _ h => h.elim) ?aF ?aB ?aS ?aL ?_; (case aR => repeat (first | exact (Kd.C_below HR459.out HB.out) | exact (Kd.C_drewN (Kd.C_below HR459.out HB.out) _) | (with_reducible refine Kd.C_alloc ?_ _) | (with_reducible refine Kd.C_drewN ?_ _) | (with_reducible refine Kd.C_drew ?_))); (case aB => exact (by repeat (first | (with_reducible first | exact HB.out | apply below_alloc | apply pw_below_drewN | apply below_drew1) | exact HB.out))); (case aF => exact (fun _ _ => trivial)); (case aO => exact (by (with_reducible repeat (first | apply Kd.R_alloc | apply Kd.R_drewN | apply Kd.R_drew)); exact HO469.out)); (case aS => exact (below_size (by repeat (first | (with_reducible first | exact HB.out | apply below_alloc | apply pw_below_drewN | apply below_drew1) | exact HB.out)))); (case aL => have := LMc12.out; omega); intro v471 w17 ho hb hg hat; rw [← Ny470.out] at ho; have n0_ := Aside0.mk (hb); have n1_ := Aside0.mk (ho); clear HB; clear HO469; have HB := n0_; have HO472 := n1_; clear n0_ n1_; clear ho hb hg hat))
              go_ret2
              exact ⟨_, by first | rfl | (simp [errW_none, errW_some] <;> rfl) | (simp [*, errW_none, errW_some] <;> rfl), by (with_reducible repeat (first | apply Kd.R_alloc | apply Kd.R_drewN | apply Kd.R_drew)); exact HO472.out, by repeat (first | (with_reducible first | exact HB.out | apply below_alloc | apply pw_below_drewN | apply below_drew1) | exact HB.out)⟩
            · rw [if_neg c12] at H
              exact absurd H (by simp)
          · rw [if_neg c11] at H
            exact absurd H (by simp)
        · rw [if_neg c10] at H
          exact absurd H (by simp)
      · rw [if_neg c7] at H
        exact absurd H (by simp)
    · rw [if_neg c6] at H
      exact absurd H (by simp)
  · rw [if_neg c5] at H
    have c5b0 : (t455 == (l0.length : Int)) = false := beq_eq_false_iff_ne.mpr c5
    have c5b1 : (t455 != (l0.length : Int)) = true := bne_iff_ne.mpr c5
    by_cases c18 : 0 ≤ t455
    · rw [if_pos c18] at H
      have c18b0 : decide (0 ≤ t455) = true := decide_eq_true c18
      clear c18
      by_cases c19 : t455 < (l0.length : Int)
      · rw [if_pos c19] at H
        have c19b0 : decide (t455 < (l0.length : Int)) = true := decide_eq_true c19
        clear c19
        have c20b0 := eq_true (of_decide_eq_true (by first | (with_reducible assumption) | assumption) : 0 ≤ t455)
        by_cases c21 : t455 ≤ (l0.length : Int)
        · rw [if_pos c21] at H
          have c21b0 := eq_true c21
          have c21b1 : decide (t455 ≤ (l0.length : Int)) = true := decide_eq_true c21
          clear c21
          obtain ⟨y474, hy474⟩ : ∃ y_ : List (S86), y_ = (l0.drop (t455 : Int).toNat) := ⟨_, rfl⟩
          replace H : (if (¬ ((rd_T86 l0 t455).f0).toList = a1.toList) then ((some (l0.take (t455 : Int).toNat : List (S86))).bind fun y478 => (if ([] : List (S86)).length + y478.length < 4398046511104 then ((some (([] : List (S86)) ++ y478 : List (S86))).bind fun y482 => (if y482.length < 4398046511104 then ((some (y482 ++ [(⟨a1, a2⟩ : S86)] : List (S86))).bind fun y485 => (if y485.length + y474.length < 4398046511104 then (some ((y485 ++ y474), (((rd_T86 l0 t455).f0).toList != a1.toList))) else (none))) else (none))) else (none))) else (if 0 ≤ (wrap64 (t455 + 1)) then (if (wrap64 (t455 + 1)) ≤ (l0.length : Int) then ((some (l0.drop ((wrap64 (t455 + 1)) : Int).toNat : List (S86))).bind fun y491 => ((some (l0.take (t455 : Int).toNat : List (S86))).bind fun y495 => (if ([] : List (S86)).length + y495.length < 4398046511104 then ((some (([] : List (S86)) ++ y495 : List (S86))).bind fun y499 => (if y499.length < 4398046511104 then ((some (y499 ++ [(⟨a1, a2⟩ : S86)] : List (S86))).bind fun y502 => (if y502.length + y491.length < 4398046511104 then (some ((y502 ++ y491), (((rd_T86 l0 t455).f0).toList != a1.toList))) else (none))) else (none))) else (none)))) else (none)) else (none))) = some (r1, r2) := by first | (rw [hy474]; with_reducible exact H) | (have H2_ := (Option.bind_some _ _).symm.trans H; rw [hy474]; with_reducible exact H2_) | (have H2_ := (Option.bind_some _ _).symm.trans H; with_reducible exact H2_) | with_reducible exact H | (rw [hy474]; exact H) | exact H
          have Ny474 := Aside0.mk hy474
          clear hy474
          by_cases c22 : (¬ ((rd_T86 l0 t455).f0).toList = a1.toList)
          · rw [if_pos c22] at H
            have c22b0 : (((rd_T86 l0 t455).f0).toList == a1.toList) = false := beq_eq_false_iff_ne.mpr c22
            have c22b1 : (((rd_T86 l0 t455).f0).toList != a1.toList) = true := bne_iff_ne.mpr c22
            clear c22
            have c23b0 := eq_true (of_decide_eq_true (by first | (with_reducible assumption) | assumption) : 0 ≤ t455)
            have c24b0 := eq_true (of_decide_eq_true (by first | (with_reducible assumption) | assumption) : t455 ≤ (l0.length : Int))
            obtain ⟨y478, hy478⟩ : ∃ y_ : List (S86), y_ = (l0.take (t455 : Int).toNat) := ⟨_, rfl⟩
            replace H : (if ([] : List (S86)).length + y478.length < 4398046511104 then ((some (([] : List (S86)) ++ y478 : List (S86))).bind fun y482 => (if y482.length < 4398046511104 then ((some (y482 ++ [(⟨a1, a2⟩ : S86)] : List (S86))).bind fun y485 => (if y485.length + y474.length < 4398046511104 then (some ((y485 ++ y474), (((rd_T86 l0 t455).f0).toList != a1.toList))) else (none))) else (none))) else (none)) = some (r1, r2) := by first | (rw [hy478]; with_reducible exact H) | (have H2_ := (Option.bind_some _ _).symm.trans H; rw [hy478]; with_reducible exact H2_) | (have H2_ := (Option.bind_some _ _).symm.trans H; with_reducible exact H2_) | with_reducible exact H | (rw [hy478]; exact H) | exact H
            have Ny478 := Aside0.mk hy478
            clear hy478
            by_cases c25 : ([] : List (S86)).length + y478.length < 4398046511104
            · rw [if_pos c25] at H
              have LMc25 := Aside0.mk c25
              clear c25
              obtain ⟨y482, hy482⟩ : ∃ y_ : List (S86), y_ = (([] : List (S86)) ++ y478) := ⟨_, rfl⟩
              replace H : (if y482.length < 4398046511104 then ((some (y482 ++ [(⟨a1, a2⟩ : S86)] : List (S86))).bind fun y485 => (if y485.length + y474.length < 4398046511104 then (some ((y485 ++ y474), (((rd_T86 l0 t455).f0).toList != a1.toList))) else (none))) else (none)) = some (r1, r2) := by first | (rw [hy482]; with_reducible exact H) | (have H2_ := (Option.bind_some _ _).symm.trans H; rw [hy482]; with_reducible exact H2_) | (have H2_ := (Option.bind_some _ _).symm.trans H; with_reducible exact H2_) | with_reducible exact H | (rw [hy482]; exact H) | exact H
              have Ny482 := Aside0.mk hy482
              clear hy482
              by_cases c26 : y482.length < 4398046511104
              · rw [if_pos c26] at H
                have LMc26 := Aside0.mk c26
                clear c26
                obtain ⟨y485, hy485⟩ : ∃ y_ : List (S86), y_ = (y482 ++ [(⟨a1, a2⟩ : S86)]) := ⟨_, rfl⟩
                replace H : (if y485.length + y474.length < 4398046511104 then (some ((y485 ++ y474), (((rd_T86 l0 t455).f0).toList != a1.toList))) else (none)) = some (r1, r2) := by first | (rw [hy485]; with_reducible exact H) | (have H2_ := (Option.bind_some _ _).symm.trans H; rw [hy485]; with_reducible exact H2_) | (have H2_ := (Option.bind_some _ _).symm.trans H; with_reducible exact H2_) | with_reducible exact H | (rw [hy485]; exact H) | exact H
                have Ny485 := Aside0.mk hy485
                clear hy485
                by_cases c27 : y485.length + y474.length < 4398046511104
                · rw [if_pos c27] at H
                  have LMc27 := Aside0.mk c27
                  clear c27
                  obtain ⟨y488, hy488⟩ : ∃ y_ : List (S86), y_ = (y485 ++ y474) := ⟨_, rfl⟩
                  replace H : (some (y488, (((rd_T86 l0 t455).f0).toList != a1.toList))) = some (r1, r2) := by first | (rw [hy488]; with_reducible exact H) | (have H2_ := (Option.bind_some _ _).symm.trans H; rw [hy488]; with_reducible exact H2_) | (have H2_ := (Option.bind_some _ _).symm.trans H; with_reducible exact H2_) | with_reducible exact H | (rw [hy488]; exact H) | exact H
                  have Ny488 := Aside0.mk hy488
                  clear hy488
                  simp only [Option.some.injEq, Prod.mk.injEq] at H
                  obtain ⟨rfl, rfl⟩ := H
                  go_enter Try.func148, Try.ntmps148
                  go_wp2_with (first | ((with_reducible refine gate_callee (f := 105) rfl ?_); refine goesL_ (some 14) rfl rfl Try.func105 (by kernel_rfl) rfl #[.slice A0 l0.length c0, .string a1] rfl (by (try simp only [List.map_toArray, List.map_cons, List.map_nil]); first | done | rfl | (simp only [List.length_drop, List.length_take]; rfl)) ?_; (with_reducible refine (footbridgeref09_at.calls k _ _ l0 a1 t455 _ ?side1 ?side2 A4.out).mono ?_); (case side1 => repeat (first | exact HR0.out | (with_reducible refine Kd.C_alloc ?_ _) | (with_reducible refine Kd.C_drewN ?_ _) | (with_reducible refine Kd.C_drew ?_))); (case side2 => exact HC0.out); rintro e w' ⟨rfl, ⟨nd, rfl⟩⟩; refine ⟨_, rfl, ?_⟩; have p473 : 0 ≤ (t455 : Int) := of_decide_eq_true (by first | (with_reducible assumption) | assumption); have q473 : t455 < (l0.length : Int) := of_decide_eq_true (by first | (with_reducible assumption) | assumption); obtain ⟨ad473, e473, hx473_0, hx473_1⟩ := at_T86 HR0.out t455 p473 q473; cases e473; replace p473 := eq_true p473; replace q473 := eq_true q473; have q28 : (t455 : Int) ≤ ((l0.length : Int) : Int) := of_decide_eq_true (by first | (with_reducible assumption) | assumption); obtain ⟨i028, hi028, _, hsz28, _⟩ := info_parts info86; have hroom28 : l0.length ≤ c0 := HC0.out; have hC28 : Kd.C k86 _ (some ad473) l0.length l0 := HR0.out; have q028 : (0 : Int) ≤ (t455 : Int) := of_decide_eq_true (by first | (with_reducible assumption) | assumption); have hcut28 := cut_from (P := Try.prog) 137 86 .i64 Try.underlying137 hi028 2 hsz28 (some ad473) l0.length c0 t455 q028 q28; have hr28 := Kd.C_drop (m := (t455 : Int).toNat) (c := c0) hC28 (by omega) hroom28; obtain ⟨A28, hA28⟩ : ∃ A1, A1 = (if c0 = (t455 : Int).toNat then (some ad473) else ((some ad473) : Option Addr).map (·.add ((t455 : Int).toNat * 2))) := ⟨_, rfl⟩; obtain ⟨c28, hc28⟩ : ∃ c1, c1 = c0 - (t455 : Int).toNat := ⟨_, rfl⟩; have hy28 : y474.length = l0.length - (t455 : Int).toNat := (by rw [Ny474.out, List.length_drop] <;> omega); rw [show (l0).drop (t455 : Int).toNat = y474 from Ny474.out.symm] at hr28; replace hr28 : Kd.C k86 _ A28 y474.length y474 := (by rw [hA28]; exact hr28); rw [← hy28, ← hA28, ← hc28] at hcut28; have HR477 := Aside0.mk hr28; have HC477 := Aside0.mk (show y474.length ≤ c28 from by rw [hy28, hc28]; exact Nat.sub_le_sub_right hroom28 _); clear hr28 hC28 hroom28 hi028 hsz28 hc28; have KY28 := Aside0.mk hy28; have KA28 := Aside0.mk hA28; clear hy28 hA28; replace q28 := eq_true q28; have q29 : (t455 : Int) ≤ ((l0.length : Int) : Int) := of_decide_eq_true (by first | (with_reducible assumption) | assumption); obtain ⟨i029, hi029, _, hsz29, _⟩ := info_parts info86; have hroom29 : l0.length ≤ c0 := HC0.out; have hC29 : Kd.C k86 _ (some ad473) l0.length l0 := HR0.out; have hcut29 := cut_to (P := Try.prog) 137 86 .i64 Try.underlying137 hi029 (some ad473) l0.length c0 t455 (of_decide_eq_true (by first | (with_reducible assumption) | assumption)) q29 hroom29; have hr29 := Kd.C_take (m := (t455 : Int).toNat) hC29 (by omega); have hy29 : y478.length = (t455 : Int).toNat := (by rw [Ny478.out, List.length_take]; omega); rw [← Ny478.out] at hr29; rw [← hy29] at hcut29; have HR481 := Aside0.mk hr29; have HC481 := Aside0.mk (show y478.length ≤ c0 from by omega); clear hr29 hC29 hroom29 hi029 hsz29; have KY29 := Aside0.mk hy29; clear hy29; replace q29 := eq_true q29) | ((with_reducible refine gate_builtin (b := .append) (xs := #[.tmp 37, .tmp 40]) rfl ?_); at_builtin; refine Kd.R_append_rows k86 (w0 := w) w.heap.size rfl (.tmp 37) (.tmp 40) 137 86 (.agg #[(.string ⟨#[]⟩), (.string ⟨#[]⟩)]) 32 rfl Try.underlying137 info86 rfl (by decide) (by omega) (.slice none 0 0) ([] : List (S86)) y478 _ _ _ (fun _ => True) (fun _ => False) rfl rfl ?aO ?aR (fun _ _ h => h) (fun _ h => h.elim) ?aF ?aB ?aS ?aL ?_; (case aR => repeat (first | exact HR481.out | (with_reducible refine Kd.C_alloc ?_ _) | (with_reducible refine Kd.C_drewN ?_ _) | (with_reducible refine Kd.C_drew ?_))); (case aB => exact (by repeat (first | (with_reducible first | exact HB.out | apply below_alloc | apply pw_below_drewN | apply below_drew1) | exact HB.out))); (case aF => exact (fun _ _ => trivial)); (case aO => exact ((Kd.R_nil _ _ _ _ (fun _ => True)))); (case aS => exact (below_size (by repeat (first | (with_reducible first | exact HB.out | apply below_alloc | apply pw_below_drewN | apply below_drew1) | exact HB.out)))); (case aL => have := LMc25.out; omega); intro v483 w30 ho hb hg hat; rw [← Ny482.out] at ho; have n0_ := Aside0.mk (hb); have n1_ := Aside0.mk (ho); clear HB; have HB := n0_; have HO484 := n1_; clear n0_ n1_; clear ho hb hg hat) | ((with_reducible refine gate_builtin (b := .append) (xs := #[.tmp 42, .tmp 46]) rfl ?_); at_builtin; refine Kd.R_append k86 (w0 := w) w.heap.size rfl (.tmp 42) (.tmp 46) 137 86 (.agg #[(.string ⟨#[]⟩), (.string ⟨#[]⟩)]) 32 rfl Try.underlying137 info86 rfl (by decide) (by omega) v483 y482 (⟨a1, a2⟩ : S86) [.string a1, .string a2] (fun _ => True) (fun _ => False) rfl rfl ?aP (fun _ hk => hk.elim) ?aF ?aO ?aB ?aS ?aL ?_; (case aP => exact k86_mkM _ _ _ (⟨a1, a2⟩ : S86)); (case aB => exact (by repeat (first | (with_reducible first | exact HB.out | apply below_alloc | apply pw_below_drewN | apply below_drew1) | exact HB.out))); (case aF => exact (fun _ _ => trivial)); (case aO => exact (by (with_reducible repeat (first | apply Kd.R_alloc | apply Kd.R_drewN | apply Kd.R_drew)); exact HO484.out)); (case aS => exact (below_size (by repeat (first | (with_reducible first | exact HB.out | apply below_alloc | apply pw_below_drewN | apply below_drew1) | exact HB.out)))); (case aL => have := LMc26.out; omega); intro v486 w31 ho hb hg hat; rw [← Ny485.out] at ho; have n0_ := Aside0.mk (hb); have n1_ := Aside0.mk (ho); clear HB; clear HO484; have HB := n0_; have HO487 := n1_; clear n0_ n1_; clear ho hb hg hat) | ((with_reducible refine gate_builtin (b := .append) (xs := #[.tmp 48, .tmp 49]) rfl ?_); at_builtin; refine Kd.R_append_rows k86 (w0 := w) w.heap.size rfl (.tmp 48) (.tmp 49) 137 86 (.agg #[(.string ⟨#[]⟩), (.string ⟨#[]⟩)]) 32 rfl Try.underlying137 info86 rfl (by decide) (by omega) v486 y485 y474 _ _ _ (fun _ => True) (fun _ => False) rfl rfl ?aO ?aR (fun _ _ h => h) (fun _ h => h.elim) ?aF ?aB ?aS ?aL ?_; (case aR => repeat (first | exact (Kd.C_below HR477.out HB.out) | exact (Kd.C_drewN (Kd.C_below HR477.out HB.out) _) | (with_reducible refine Kd.C_alloc ?_ _) | (with_reducible refine Kd.C_drewN ?_ _) | (with_reducible refine Kd.C_drew ?_))); (case aB => exact (by repeat (first | (with_reducible first | exact HB.out | apply below_alloc | apply pw_below_drewN | apply below_drew1) | exact HB.out))); (case aF => exact (fun _ _ => trivial)); (case aO => exact (by (with_reducible repeat (first | apply Kd.R_alloc | apply Kd.R_drewN | apply Kd.R_drew)); exact HO487.out)); (case aS => exact (below_size (by repeat (first | (with_reducible first | exact HB.out | apply below_alloc | apply pw_below_drewN | apply below_drew1) | exact HB.out)))); (case aL => have := LMc27.out; omega); intro v489 w32 ho hb hg hat; rw [← Ny488.out] at ho; have n0_ := Aside0.mk (hb); have n1_ := Aside0.mk (ho); clear HB; clear HO487; have HB := n0_; have HO490 := n1_; clear n0_ n1_; clear ho hb hg hat))
                  go_ret2
                  exact ⟨_, by first | rfl | (simp [errW_none, errW_some] <;> rfl) | (simp [*, errW_none, errW_some] <;> rfl), by (with_reducible repeat (first | apply Kd.R_alloc | apply Kd.R_drewN | apply Kd.R_drew)); exact HO490.out, by repeat (first | (with_reducible first | exact HB.out | apply below_alloc | apply pw_below_drewN | apply below_drew1) | exact HB.out)⟩
                · rw [if_neg c27] at H
                  exact absurd H (by simp)
              · rw [if_neg c26] at H
                exact absurd H (by simp)
            · rw [if_neg c25] at H
              exact absurd H (by simp)
          · rw [if_neg c22] at H
            have c22b0 : (((rd_T86 l0 t455).f0).toList == a1.toList) = true := beq_iff_eq.mpr (Classical.not_not.mp c22)
            have c22b1 : (((rd_T86 l0 t455).f0).toList != a1.toList) = false := bne_eq_false_iff_eq.mpr (Classical.not_not.mp c22)
            obtain ⟨ji33, hji33⟩ : ∃ j_ : Int, (wrap64 (t455 + 1)) = j_ := ⟨_, rfl⟩
            replace H : (if 0 ≤ (ji33) then (if (ji33) ≤ (l0.length : Int) then ((some (l0.drop ((ji33) : Int).toNat : List (S86))).bind fun y491 => ((some (l0.take (t455 : Int).toNat : List (S86))).bind fun y495 => (if ([] : List (S86)).length + y495.length < 4398046511104 then ((some (([] : List (S86)) ++ y495 : List (S86))).bind fun y499 => (if y499.length < 4398046511104 then ((some (y499 ++ [(⟨a1, a2⟩ : S86)] : List (S86))).bind fun y502 => (if y502.length + y491.length < 4398046511104 then (some ((y502 ++ y491), (((rd_T86 l0 t455).f0).toList != a1.toList))) else (none))) else (none))) else (none)))) else (none)) else (none)) = some (r1, r2) := by first | (rw [hji33] at H; exact H) | (simp only [hji33] at H ⊢; exact H)
            (try rw [hji33] at A4)
            have hji33w : (IntKind.i64.wrap (t455 + 1)) = ji33 := (i64_w _).trans hji33
            by_cases c34 : 0 ≤ (ji33)
            · rw [if_pos c34] at H
              have c34b0 := eq_true c34
              have c34b1 : decide (0 ≤ (ji33)) = true := decide_eq_true c34
              clear c34
              by_cases c35 : (ji33) ≤ (l0.length : Int)
              · rw [if_pos c35] at H
                have c35b0 := eq_true c35
                have c35b1 : decide ((ji33) ≤ (l0.length : Int)) = true := decide_eq_true c35
                clear c35
                obtain ⟨y491, hy491⟩ : ∃ y_ : List (S86), y_ = (l0.drop ((ji33) : Int).toNat) := ⟨_, rfl⟩
                replace H : ((some (l0.take (t455 : Int).toNat : List (S86))).bind fun y495 => (if ([] : List (S86)).length + y495.length < 4398046511104 then ((some (([] : List (S86)) ++ y495 : List (S86))).bind fun y499 => (if y499.length < 4398046511104 then ((some (y499 ++ [(⟨a1, a2⟩ : S86)] : List (S86))).bind fun y502 => (if y502.length + y491.length < 4398046511104 then (some ((y502 ++ y491), (((rd_T86 l0 t455).f0).toList != a1.toList))) else (none))) else (none))) else (none))) = some (r1, r2) := by first | (rw [hy491]; with_reducible exact H) | (have H2_ := (Option.bind_some _ _).symm.trans H; rw [hy491]; with_reducible exact H2_) | (have H2_ := (Option.bind_some _ _).symm.trans H; with_reducible exact H2_) | with_reducible exact H | (rw [hy491]; exact H) | exact H
                have Ny491 := Aside0.mk hy491
                clear hy491
                have c36b0 := eq_true (of_decide_eq_true (by first | (with_reducible assumption) | assumption) : 0 ≤ t455)
                have c37b0 := eq_true (of_decide_eq_true (by first | (with_reducible assumption) | assumption) : t455 ≤ (l0.length : Int))
                obtain ⟨y495, hy495⟩ : ∃ y_ : List (S86), y_ = (l0.take (t455 : Int).toNat) := ⟨_, rfl⟩
                replace H : (if ([] : List (S86)).length + y495.length < 4398046511104 then ((some (([] : List (S86)) ++ y495 : List (S86))).bind fun y499 => (if y499.length < 4398046511104 then ((some (y499 ++ [(⟨a1, a2⟩ : S86)] : List (S86))).bind fun y502 => (if y502.length + y491.length < 4398046511104 then (some ((y502 ++ y491), (((rd_T86 l0 t455).f0).toList != a1.toList))) else (none))) else (none))) else (none)) = some (r1, r2) := by first | (rw [hy495]; with_reducible exact H) | (have H2_ := (Option.bind_some _ _).symm.trans H; rw [hy495]; with_reducible exact H2_) | (have H2_ := (Option.bind_some _ _).symm.trans H; with_reducible exact H2_) | with_reducible exact H | (rw [hy495]; exact H) | exact H
                have Ny495 := Aside0.mk hy495
                clear hy495
                by_cases c38 : ([] : List (S86)).length + y495.length < 4398046511104
                · rw [if_pos c38] at H
                  have LMc38 := Aside0.mk c38
                  clear c38
                  obtain ⟨y499, hy499⟩ : ∃ y_ : List (S86), y_ = (([] : List (S86)) ++ y495) := ⟨_, rfl⟩
                  replace H : (if y499.length < 4398046511104 then ((some (y499 ++ [(⟨a1, a2⟩ : S86)] : List (S86))).bind fun y502 => (if y502.length + y491.length < 4398046511104 then (some ((y502 ++ y491), (((rd_T86 l0 t455).f0).toList != a1.toList))) else (none))) else (none)) = some (r1, r2) := by first | (rw [hy499]; with_reducible exact H) | (have H2_ := (Option.bind_some _ _).symm.trans H; rw [hy499]; with_reducible exact H2_) | (have H2_ := (Option.bind_some _ _).symm.trans H; with_reducible exact H2_) | with_reducible exact H | (rw [hy499]; exact H) | exact H
                  have Ny499 := Aside0.mk hy499
                  clear hy499
                  by_cases c39 : y499.length < 4398046511104
                  · rw [if_pos c39] at H
                    have LMc39 := Aside0.mk c39
                    clear c39
                    obtain ⟨y502, hy502⟩ : ∃ y_ : List (S86), y_ = (y499 ++ [(⟨a1, a2⟩ : S86)]) := ⟨_, rfl⟩
                    replace H : (if y502.length + y491.length < 4398046511104 then (some ((y502 ++ y491), (((rd_T86 l0 t455).f0).toList != a1.toList))) else (none)) = some (r1, r2) := by first | (rw [hy502]; with_reducible exact H) | (have H2_ := (Option.bind_some _ _).symm.trans H; rw [hy502]; with_reducible exact H2_) | (have H2_ := (Option.bind_some _ _).symm.trans H; with_reducible exact H2_) | with_reducible exact H | (rw [hy502]; exact H) | exact H
                    have Ny502 := Aside0.mk hy502
                    clear hy502
                    by_cases c40 : y502.length + y491.length < 4398046511104
                    · rw [if_pos c40] at H
                      have LMc40 := Aside0.mk c40
                      clear c40
                      obtain ⟨y505, hy505⟩ : ∃ y_ : List (S86), y_ = (y502 ++ y491) := ⟨_, rfl⟩
                      replace H : (some (y505, (((rd_T86 l0 t455).f0).toList != a1.toList))) = some (r1, r2) := by first | (rw [hy505]; with_reducible exact H) | (have H2_ := (Option.bind_some _ _).symm.trans H; rw [hy505]; with_reducible exact H2_) | (have H2_ := (Option.bind_some _ _).symm.trans H; with_reducible exact H2_) | with_reducible exact H | (rw [hy505]; exact H) | exact H
                      have Ny505 := Aside0.mk hy505
                      clear hy505
                      simp only [Option.some.injEq, Prod.mk.injEq] at H
                      obtain ⟨rfl, rfl⟩ := H
                      go_enter Try.func148, Try.ntmps148
                      go_wp2_with (first | ((with_reducible refine gate_callee (f := 105) rfl ?_); refine goesL_ (some 14) rfl rfl Try.func105 (by kernel_rfl) rfl #[.slice A0 l0.length c0, .string a1] rfl (by (try simp only [List.map_toArray, List.map_cons, List.map_nil]); first | done | rfl | (simp only [List.length_drop, List.length_take]; rfl)) ?_; (with_reducible refine (footbridgeref09_at.calls k _ _ l0 a1 t455 _ ?side1 ?side2 A4.out).mono ?_); (case side1 => repeat (first | exact HR0.out | (with_reducible refine Kd.C_alloc ?_ _) | (with_reducible refine Kd.C_drewN ?_ _) | (with_reducible refine Kd.C_drew ?_))); (case side2 => exact HC0.out); rintro e w' ⟨rfl, ⟨nd, rfl⟩⟩; refine ⟨_, rfl, ?_⟩; have p473 : 0 ≤ (t455 : Int) := of_decide_eq_true (by first | (with_reducible assumption) | assumption); have q473 : t455 < (l0.length : Int) := of_decide_eq_true (by first | (with_reducible assumption) | assumption); obtain ⟨ad473, e473, hx473_0, hx473_1⟩ := at_T86 HR0.out t455 p473 q473; cases e473; replace p473 := eq_true p473; replace q473 := eq_true q473; have q41 : (t455 : Int) ≤ ((l0.length : Int) : Int) := of_decide_eq_true (by first | (with_reducible assumption) | assumption); obtain ⟨i041, hi041, _, hsz41, _⟩ := info_parts info86; have hroom41 : l0.length ≤ c0 := HC0.out; have hC41 : Kd.C k86 _ (some ad473) l0.length l0 := HR0.out; have q041 : (0 : Int) ≤ (t455 : Int) := of_decide_eq_true (by first | (with_reducible assumption) | assumption); have hcut41 := cut_from (P := Try.prog) 137 86 .i64 Try.underlying137 hi041 2 hsz41 (some ad473) l0.length c0 t455 q041 q41; have hr41 := Kd.C_drop (m := (t455 : Int).toNat) (c := c0) hC41 (by omega) hroom41; obtain ⟨A41, hA41⟩ : ∃ A1, A1 = (if c0 = (t455 : Int).toNat then (some ad473) else ((some ad473) : Option Addr).map (·.add ((t455 : Int).toNat * 2))) := ⟨_, rfl⟩; obtain ⟨c41, hc41⟩ : ∃ c1, c1 = c0 - (t455 : Int).toNat := ⟨_, rfl⟩; have hy41 : y474.length = l0.length - (t455 : Int).toNat := (by rw [Ny474.out, List.length_drop] <;> omega); rw [show (l0).drop (t455 : Int).toNat = y474 from Ny474.out.symm] at hr41; replace hr41 : Kd.C k86 _ A41 y474.length y474 := (by rw [hA41]; exact hr41); rw [← hy41, ← hA41, ← hc41] at hcut41; have HR477 := Aside0.mk hr41; have HC477 := Aside0.mk (show y474.length ≤ c41 from by rw [hy41, hc41]; exact Nat.sub_le_sub_right hroom41 _); clear hr41 hC41 hroom41 hi041 hsz41 hc41; have KY41 := Aside0.mk hy41; have KA41 := Aside0.mk hA41; clear hy41 hA41; replace q41 := eq_true q41; have q42 : ((ji33) : Int) ≤ ((l0.length : Int) : Int) := of_decide_eq_true (by first | (with_reducible assumption) | assumption); obtain ⟨i042, hi042, _, hsz42, _⟩ := info_parts info86; have hroom42 : l0.length ≤ c0 := HC0.out; have hC42 : Kd.C k86 _ (some ad473) l0.length l0 := HR0.out; have q042 : (0 : Int) ≤ ((ji33) : Int) := of_decide_eq_true (by first | (with_reducible assumption) | assumption); have hcut42 := cut_from (P := Try.prog) 137 86 .i64 Try.underlying137 hi042 2 hsz42 (some ad473) l0.length c0 (ji33) q042 q42; have hr42 := Kd.C_drop (m := ((ji33) : Int).toNat) (c := c0) hC42 (by omega) hroom42; obtain ⟨A42, hA42⟩ : ∃ A1, A1 = (if c0 = ((ji33) : Int).toNat then (some ad473) else ((some ad473) : Option Addr).map (·.add (((ji33) : Int).toNat * 2))) := ⟨_, rfl⟩; obtain ⟨c42, hc42⟩ : ∃ c1, c1 = c0 - ((ji33) : Int).toNat := ⟨_, rfl⟩; have hy42 : y491.length = l0.length - ((ji33) : Int).toNat := (by rw [Ny491.out, List.length_drop] <;> omega); rw [show (l0).drop ((ji33) : Int).toNat = y491 from Ny491.out.symm] at hr42; replace hr42 : Kd.C k86 _ A42 y491.length y491 := (by rw [hA42]; exact hr42); rw [← hy42, ← hA42, ← hc42] at hcut42; have HR494 := Aside0.mk hr42; have HC494 := Aside0.mk (show y491.length ≤ c42 from by rw [hy42, hc42]; exact Nat.sub_le_sub_right hroom42 _); clear hr42 hC42 hroom42 hi042 hsz42 hc42; have KY42 := Aside0.mk hy42; have KA42 := Aside0.mk hA42; clear hy42 hA42; replace q42 := eq_true q42; have q43 : (t455 : Int) ≤ ((l0.length : Int) : Int) := of_decide_eq_true (by first | (with_reducible assumption) | assumption); obtain ⟨i043, hi043, _, hsz43, _⟩ := info_parts info86; have hroom43 : l0.length ≤ c0 := HC0.out; have hC43 : Kd.C k86 _ (some ad473) l0.length l0 := HR0.out; have hcut43 := cut_to (P := Try.prog) 137 86 .i64 Try.underlying137 hi043 (some ad473) l0.length c0 t455 (of_decide_eq_true (by first | (with_reducible assumption) | assumption)) q43 hroom43; have hr43 := Kd.C_take (m := (t455 : Int).toNat) hC43 (by omega); have hy43 : y495.length = (t455 : Int).toNat := (by rw [Ny495.out, List.length_take]; omega); rw [← Ny495.out] at hr43; rw [← hy43] at hcut43; have HR498 := Aside0.mk hr43; have HC498 := Aside0.mk (show y495.length ≤ c0 from by omega); clear hr43 hC43 hroom43 hi043 hsz43; have KY43 := Aside0.mk hy43; clear hy43; replace q43 := eq_true q43) | ((with_reducible refine gate_builtin (b := .append) (xs := #[.tmp 37, .tmp 40]) rfl ?_); at_builtin; refine Kd.R_append_rows k86 (w0 := w) w.heap.size rfl (.tmp 37) (.tmp 40) 137 86 (.agg #[(.string ⟨#[]⟩), (.string ⟨#[]⟩)]) 32 rfl Try.underlying137 info86 rfl (by decide) (by omega) (.slice none 0 0) ([] : List (S86)) y495 _ _ _ (fun _ => True) (fun _ => False) rfl rfl ?aO ?aR (fun _ _ h => h) (fun _ h => h.elim) ?aF ?aB ?aS ?aL ?_; (case aR => repeat (first | exact HR498.out | (with_reducible refine Kd.C_alloc ?_ _) | (with_reducible refine Kd.C_drewN ?_ _) | (with_reducible refine Kd.C_drew ?_))); (case aB => exact (by repeat (first | (with_reducible first | exact HB.out | apply below_alloc | apply pw_below_drewN | apply below_drew1) | exact HB.out))); (case aF => exact (fun _ _ => trivial)); (case aO => exact ((Kd.R_nil _ _ _ _ (fun _ => True)))); (case aS => exact (below_size (by repeat (first | (with_reducible first | exact HB.out | apply below_alloc | apply pw_below_drewN | apply below_drew1) | exact HB.out)))); (case aL => have := LMc38.out; omega); intro v500 w44 ho hb hg hat; rw [← Ny499.out] at ho; have n0_ := Aside0.mk (hb); have n1_ := Aside0.mk (ho); clear HB; have HB := n0_; have HO501 := n1_; clear n0_ n1_; clear ho hb hg hat) | ((with_reducible refine gate_builtin (b := .append) (xs := #[.tmp 42, .tmp 46]) rfl ?_); at_builtin; refine Kd.R_append k86 (w0 := w) w.heap.size rfl (.tmp 42) (.tmp 46) 137 86 (.agg #[(.string ⟨#[]⟩), (.string ⟨#[]⟩)]) 32 rfl Try.underlying137 info86 rfl (by decide) (by omega) v500 y499 (⟨a1, a2⟩ : S86) [.string a1, .string a2] (fun _ => True) (fun _ => False) rfl rfl ?aP (fun _ hk => hk.elim) ?aF ?aO ?aB ?aS ?aL ?_; (case aP => exact k86_mkM _ _ _ (⟨a1, a2⟩ : S86)); (case aB => exact (by repeat (first | (with_reducible first | exact HB.out | apply below_alloc | apply pw_below_drewN | apply below_drew1) | exact HB.out))); (case aF => exact (fun _ _ => trivial)); (case aO => exact (by (with_reducible repeat (first | apply Kd.R_alloc | apply Kd.R_drewN | apply Kd.R_drew)); exact HO501.out)); (case aS => exact (below_size (by repeat (first | (with_reducible first | exact HB.out | apply below_alloc | apply pw_below_drewN | apply below_drew1) | exact HB.out)))); (case aL => have := LMc39.out; omega); intro v503 w45 ho hb hg hat; rw [← Ny502.out] at ho; have n0_ := Aside0.mk (hb); have n1_ := Aside0.mk (ho); clear HB; clear HO501; have HB := n0_; have HO504 := n1_; clear n0_ n1_; clear ho hb hg hat) | ((with_reducible refine gate_builtin (b := .append) (xs := #[.tmp 48, .tmp 49]) rfl ?_); at_builtin; refine Kd.R_append_rows k86 (w0 := w) w.heap.size rfl (.tmp 48) (.tmp 49) 137 86 (.agg #[(.string ⟨#[]⟩), (.string ⟨#[]⟩)]) 32 rfl Try.underlying137 info86 rfl (by decide) (by omega) v503 y502 y491 _ _ _ (fun _ => True) (fun _ => False) rfl rfl ?aO ?aR (fun _ _ h => h) (fun _ h => h.elim) ?aF ?aB ?aS ?aL ?_; (case aR => repeat (first | exact (Kd.C_below HR494.out HB.out) | exact (Kd.C_drewN (Kd.C_below HR494.out HB.out) _) | (with_reducible refine Kd.C_alloc ?_ _) | (with_reducible refine Kd.C_drewN ?_ _) | (with_reducible refine Kd.C_drew ?_))); (case aB => exact (by repeat (first | (with_reducible first | exact HB.out | apply below_alloc | apply pw_below_drewN | apply below_drew1) | exact HB.out))); (case aF => exact (fun _ _ => trivial)); (case aO => exact (by (with_reducible repeat (first | apply Kd.R_alloc | apply Kd.R_drewN | apply Kd.R_drew)); exact HO504.out)); (case aS => exact (below_size (by repeat (first | (with_reducible first | exact HB.out | apply below_alloc | apply pw_below_drewN | apply below_drew1) | exact HB.out)))); (case aL => have := LMc40.out; omega); intro v506 w46 ho hb hg hat; rw [← Ny505.out] at ho; have n0_ := Aside0.mk (hb); have n1_ := Aside0.mk (ho); clear HB; clear HO504; have HB := n0_; have HO507 := n1_; clear n0_ n1_; clear ho hb hg hat))
                      go_ret2
                      exact ⟨_, by first | rfl | (simp [errW_none, errW_some] <;> rfl) | (simp only [← hji33]; first | rfl | (simp [errW_none, errW_some] <;> rfl)) | (simp [*, errW_none, errW_some] <;> rfl), by (with_reducible repeat (first | apply Kd.R_alloc | apply Kd.R_drewN | apply Kd.R_drew)); exact HO507.out, by repeat (first | (with_reducible first | exact HB.out | apply below_alloc | apply pw_below_drewN | apply below_drew1) | exact HB.out)⟩
                    · rw [if_neg c40] at H
                      exact absurd H (by simp)
                  · rw [if_neg c39] at H
                    exact absurd H (by simp)
                · rw [if_neg c38] at H
                  exact absurd H (by simp)
              · rw [if_neg c35] at H
                exact absurd H (by simp)
            · rw [if_neg c34] at H
              exact absurd H (by simp)
        · rw [if_neg c21] at H
          exact absurd H (by simp)
      · rw [if_neg c19] at H
        exact absurd H (by simp)
    · rw [if_neg c18] at H
      exact absurd H (by simp)

/-! ### footbridgeref09_Del: function 97 -/
def footbridgeref09_Del.f (k : Nat) (l0 : List (S86)) (a1 : ByteArray) : Option ((List (S86)) × Bool) := (footbridgeref09_at.f k l0 a1).bind fun t512 => (if t512 = (l0.length : Int) then (some (l0, false)) else (if 0 ≤ t512 then (if t512 < (l0.length : Int) then (if ((rd_T86 l0 t512).f0).toList = a1.toList then (if t512 ≤ (l0.length : Int) then ((some (l0.take (t512 : Int).toNat : List (S86))).bind fun y514 => (if ([] : List (S86)).length + y514.length < 4398046511104 then ((some (([] : List (S86)) ++ y514 : List (S86))).bind fun y518 => (if 0 ≤ (wrap64 (t512 + 1)) then (if (wrap64 (t512 + 1)) ≤ (l0.length : Int) then ((some (l0.drop ((wrap64 (t512 + 1)) : Int).toNat : List (S86))).bind fun y521 => (if y518.length + y521.length < 4398046511104 then (some ((y518 ++ y521), true)) else (none))) else (none)) else (none))) else (none))) else (none)) else (some (l0, false))) else (none)) else (none)))
theorem footbridgeref09_Del.mono : ∀ a0 a1 k, LeO (footbridgeref09_Del.f k a0 a1) (footbridgeref09_Del.f (k + 1) a0 a1) := by
  intro a0 a1 k
  unfold footbridgeref09_Del.f
  repeat' first
      | (with_reducible exact footbridgeref09_at.mono _ _ _)
      | (with_reducible exact LeO.refl _)
      | (with_reducible exact LeO.none _)
      | (with_reducible refine LeO.ite ?_ ?_)
      | (with_reducible refine LeO.bind ?_ (fun _ => ?_))
      | exact footbridgeref09_at.mono _ _ _
      | exact LeO.none _
      | refine LeO.ite ?_ ?_
      | refine LeO.bind ?_ (fun _ => ?_)
set_option maxHeartbeats 8000000 in
set_option maxRecDepth 100000 in
theorem footbridgeref09_Del.calls (k : Nat) (P0_ : Nat → Prop) (u9000_ : Value) (l0 : List (S86)) (a1 : ByteArray) (r1 : List (S86)) (r2 : Bool) (w0 w : World) (hB : Below w0.heap.size w0 w) (ho0 : Kd.R k86 86 w w0.heap.size P0_ u9000_ l0) (h : footbridgeref09_Del.f k l0 a1 = some (r1, r2)) :
    Calls Try.prog 97 #[u9000_, .string a1] w fun e w' => ∃ v0_ : Value, e = .returned (.tuple #[v0_, .bool r2]) ∧ Kd.R k86 86 w' w0.heap.size (fun k_ => (P0_ k_ ∨ w.heap.size ≤ k_)) v0_ r1 ∧ Below w0.heap.size w0 w' ∧ Kept w w' (fun k_ => P0_ k_) := by
  have HO0 := Aside0.mk (show Kd.R k86 86 w w0.heap.size (fun k_ => (P0_ k_ ∨ w.heap.size ≤ k_)) u9000_ l0 from Kd.R_mono ho0 (fun k_ hk => (.inl hk)))
  have HK := Aside0.mk (Kept.refl w (fun k_ => P0_ k_))
  have HW0 := Aside0.mk hB.size
  have HB := Aside0.mk hB
  clear hB
  have H : ((footbridgeref09_at.f k l0 a1).bind fun t512 => (if t512 = (l0.length : Int) then (some (l0, false)) else (if 0 ≤ t512 then (if t512 < (l0.length : Int) then (if ((rd_T86 l0 t512).f0).toList = a1.toList then (if t512 ≤ (l0.length : Int) then ((some (l0.take (t512 : Int).toNat : List (S86))).bind fun y514 => (if ([] : List (S86)).length + y514.length < 4398046511104 then ((some (([] : List (S86)) ++ y514 : List (S86))).bind fun y518 => (if 0 ≤ (wrap64 (t512 + 1)) then (if (wrap64 (t512 + 1)) ≤ (l0.length : Int) then ((some (l0.drop ((wrap64 (t512 + 1)) : Int).toNat : List (S86))).bind fun y521 => (if y518.length + y521.length < 4398046511104 then (some ((y518 ++ y521), true)) else (none))) else (none)) else (none))) else (none))) else (none)) else (some (l0, false))) else (none)) else (none)))) = some (r1, r2) := h
  clear h
  replace H := Option.bind_eq_some_iff.mp H
  obtain ⟨t512, A30, H⟩ := H
  replace H : (if t512 = (l0.length : Int) then (some (l0, false)) else (if 0 ≤ t512 then (if t512 < (l0.length : Int) then (if ((rd_T86 l0 t512).f0).toList = a1.toList then (if t512 ≤ (l0.length : Int) then ((some (l0.take (t512 : Int).toNat : List (S86))).bind fun y514 => (if ([] : List (S86)).length + y514.length < 4398046511104 then ((some (([] : List (S86)) ++ y514 : List (S86))).bind fun y518 => (if 0 ≤ (wrap64 (t512 + 1)) then (if (wrap64 (t512 + 1)) ≤ (l0.length : Int) then ((some (l0.drop ((wrap64 (t512 + 1)) : Int).toNat : List (S86))).bind fun y521 => (if y518.length + y521.length < 4398046511104 then (some ((y518 ++ y521), true)) else (none))) else (none)) else (none))) else (none))) else (none)) else (some (l0, false))) else (none)) else (none))) = some (r1, r2) := H
  have A3 := Aside0.mk A30
  clear A30
  by_cases c4 : t512 = (l0.length : Int)
  · rw [if_pos c4] at H
    have c4b0 : (t512 == (l0.length : Int)) = true := beq_iff_eq.mpr c4
    have c4b1 : (t512 != (l0.length : Int)) = false := bne_eq_false_iff_eq.mpr c4
    clear c4
    simp only [Option.some.injEq, Prod.mk.injEq] at H
    obtain ⟨rfl, rfl⟩ := H
    obtain ⟨Ao5, co5, eo5⟩ := Kd.R_slice HO0.out
    subst eo5
    go_enter Try.func97, Try.ntmps97
    go_wp2_with (first | ((with_reducible refine gate_callee (f := 105) rfl ?_); refine goesL_ (some 10) rfl rfl Try.func105 (by kernel_rfl) rfl #[.slice Ao5 l0.length co5, .string a1] rfl (by (try simp only [List.map_toArray, List.map_cons, List.map_nil]); first | done | rfl | (simp only [List.length_drop, List.length_take]; rfl)) ?_; (with_reducible refine (footbridgeref09_at.calls k _ _ l0 a1 t512 _ ?side1 ?side2 A3.out).mono ?_); (case side1 => repeat (first | exact (Kd.R_reads' HO0.out).2.2 | (with_reducible refine Kd.C_alloc ?_ _) | (with_reducible refine Kd.C_drewN ?_ _) | (with_reducible refine Kd.C_drew ?_))); (case side2 => exact (Kd.R_reads' HO0.out).2.1); rintro e w' ⟨rfl, ⟨nd, rfl⟩⟩; refine ⟨_, rfl, ?_⟩))
    go_ret2
    exact ⟨_, by first | rfl | (simp [errW_none, errW_some] <;> rfl) | (simp [*, errW_none, errW_some] <;> rfl), by (with_reducible repeat (first | apply Kd.R_alloc | apply Kd.R_drewN | apply Kd.R_drew)); exact HO0.out, by repeat (first | (with_reducible first | exact HB.out | apply below_alloc | apply pw_below_drewN | apply below_drew1) | exact HB.out), by repeat (first | (with_reducible first | exact HK.out | apply Kept.alloc | apply Kept.drewN | apply Kept.drew) | exact HK.out)⟩
  · rw [if_neg c4] at H
    have c4b0 : (t512 == (l0.length : Int)) = false := beq_eq_false_iff_ne.mpr c4
    have c4b1 : (t512 != (l0.length : Int)) = true := bne_iff_ne.mpr c4
    by_cases c6 : 0 ≤ t512
    · rw [if_pos c6] at H
      have c6b0 : decide (0 ≤ t512) = true := decide_eq_true c6
      clear c6
      by_cases c7 : t512 < (l0.length : Int)
      · rw [if_pos c7] at H
        have c7b0 : decide (t512 < (l0.length : Int)) = true := decide_eq_true c7
        clear c7
        by_cases c8 : ((rd_T86 l0 t512).f0).toList = a1.toList
        · rw [if_pos c8] at H
          have c8b0 : (((rd_T86 l0 t512).f0).toList == a1.toList) = true := beq_iff_eq.mpr c8
          have c8b1 : (((rd_T86 l0 t512).f0).toList != a1.toList) = false := bne_eq_false_iff_eq.mpr c8
          clear c8
          have c9b0 := eq_true (of_decide_eq_true (by first | (with_reducible assumption) | assumption) : 0 ≤ t512)
          by_cases c10 : t512 ≤ (l0.length : Int)
          · rw [if_pos c10] at H
            have c10b0 := eq_true c10
            have c10b1 : decide (t512 ≤ (l0.length : Int)) = true := decide_eq_true c10
            clear c10
            obtain ⟨y514, hy514⟩ : ∃ y_ : List (S86), y_ = (l0.take (t512 : Int).toNat) := ⟨_, rfl⟩
            replace H : (if ([] : List (S86)).length + y514.length < 4398046511104 then ((some (([] : List (S86)) ++ y514 : List (S86))).bind fun y518 => (if 0 ≤ (wrap64 (t512 + 1)) then (if (wrap64 (t512 + 1)) ≤ (l0.length : Int) then ((some (l0.drop ((wrap64 (t512 + 1)) : Int).toNat : List (S86))).bind fun y521 => (if y518.length + y521.length < 4398046511104 then (some ((y518 ++ y521), true)) else (none))) else (none)) else (none))) else (none)) = some (r1, r2) := by first | (rw [hy514]; with_reducible exact H) | (have H2_ := (Option.bind_some _ _).symm.trans H; rw [hy514]; with_reducible exact H2_) | (have H2_ := (Option.bind_some _ _).symm.trans H; with_reducible exact H2_) | with_reducible exact H | (rw [hy514]; exact H) | exact H
            have Ny514 := Aside0.mk hy514
            clear hy514
            by_cases c11 : ([] : List (S86)).length + y514.length < 4398046511104
            · rw [if_pos c11] at H
              have LMc11 := Aside0.mk c11
              clear c11
              obtain ⟨y518, hy518⟩ : ∃ y_ : List (S86), y_ = (([] : List (S86)) ++ y514) := ⟨_, rfl⟩
              replace H : (if 0 ≤ (wrap64 (t512 + 1)) then (if (wrap64 (t512 + 1)) ≤ (l0.length : Int) then ((some (l0.drop ((wrap64 (t512 + 1)) : Int).toNat : List (S86))).bind fun y521 => (if y518.length + y521.length < 4398046511104 then (some ((y518 ++ y521), true)) else (none))) else (none)) else (none)) = some (r1, r2) := by first | (rw [hy518]; with_reducible exact H) | (have H2_ := (Option.bind_some _ _).symm.trans H; rw [hy518]; with_reducible exact H2_) | (have H2_ := (Option.bind_some _ _).symm.trans H; with_reducible exact H2_) | with_reducible exact H | (rw [hy518]; exact H) | exact H
              have Ny518 := Aside0.mk hy518
              clear hy518
              obtain ⟨ji12, hji12⟩ : ∃ j_ : Int, (wrap64 (t512 + 1)) = j_ := ⟨_, rfl⟩
              replace H : (if 0 ≤ (ji12) then (if (ji12) ≤ (l0.length : Int) then ((some (l0.drop ((ji12) : Int).toNat : List (S86))).bind fun y521 => (if y518.length + y521.length < 4398046511104 then (some ((y518 ++ y521), true)) else (none))) else (none)) else (none)) = some (r1, r2) := by first | (rw [hji12] at H; exact H) | (simp only [hji12] at H ⊢; exact H)
              (try rw [hji12] at A3)
              have hji12w : (IntKind.i64.wrap (t512 + 1)) = ji12 := (i64_w _).trans hji12
              by_cases c13 : 0 ≤ (ji12)
              · rw [if_pos c13] at H
                have c13b0 := eq_true c13
                have c13b1 : decide (0 ≤ (ji12)) = true := decide_eq_true c13
                clear c13
                by_cases c14 : (ji12) ≤ (l0.length : Int)
                · rw [if_pos c14] at H
                  have c14b0 := eq_true c14
                  have c14b1 : decide ((ji12) ≤ (l0.length : Int)) = true := decide_eq_true c14
                  clear c14
                  obtain ⟨y521, hy521⟩ : ∃ y_ : List (S86), y_ = (l0.drop ((ji12) : Int).toNat) := ⟨_, rfl⟩
                  replace H : (if y518.length + y521.length < 4398046511104 then (some ((y518 ++ y521), true)) else (none)) = some (r1, r2) := by first | (rw [hy521]; with_reducible exact H) | (have H2_ := (Option.bind_some _ _).symm.trans H; rw [hy521]; with_reducible exact H2_) | (have H2_ := (Option.bind_some _ _).symm.trans H; with_reducible exact H2_) | with_reducible exact H | (rw [hy521]; exact H) | exact H
                  have Ny521 := Aside0.mk hy521
                  clear hy521
                  by_cases c15 : y518.length + y521.length < 4398046511104
                  · rw [if_pos c15] at H
                    have LMc15 := Aside0.mk c15
                    clear c15
                    obtain ⟨y525, hy525⟩ : ∃ y_ : List (S86), y_ = (y518 ++ y521) := ⟨_, rfl⟩
                    replace H : (some (y525, true)) = some (r1, r2) := by first | (rw [hy525]; with_reducible exact H) | (have H2_ := (Option.bind_some _ _).symm.trans H; rw [hy525]; with_reducible exact H2_) | (have H2_ := (Option.bind_some _ _).symm.trans H; with_reducible exact H2_) | with_reducible exact H | (rw [hy525]; exact H) | exact H
                    have Ny525 := Aside0.mk hy525
                    clear hy525
                    simp only [Option.some.injEq, Prod.mk.injEq] at H
                    obtain ⟨rfl, rfl⟩ := H
                    obtain ⟨Ao16, co16, eo16⟩ := Kd.R_slice HO0.out
                    subst eo16
                    go_enter Try.func97, Try.ntmps97
                    go_wp2_with (first | ((with_reducible refine gate_callee (f := 105) rfl ?_); refine goesL_ (some 10) rfl rfl Try.func105 (by kernel_rfl) rfl #[.slice Ao16 l0.length co16, .string a1] rfl (by (try simp only [List.map_toArray, List.map_cons, List.map_nil]); first | done | rfl | (simp only [List.length_drop, List.length_take]; rfl)) ?_; (with_reducible refine (footbridgeref09_at.calls k _ _ l0 a1 t512 _ ?side1 ?side2 A3.out).mono ?_); (case side1 => repeat (first | exact (Kd.R_reads' HO0.out).2.2 | (with_reducible refine Kd.C_alloc ?_ _) | (with_reducible refine Kd.C_drewN ?_ _) | (with_reducible refine Kd.C_drew ?_))); (case side2 => exact (Kd.R_reads' HO0.out).2.1); rintro e w' ⟨rfl, ⟨nd, rfl⟩⟩; refine ⟨_, rfl, ?_⟩; have p513 : 0 ≤ (t512 : Int) := of_decide_eq_true (by first | (with_reducible assumption) | assumption); have q513 : t512 < (l0.length : Int) := of_decide_eq_true (by first | (with_reducible assumption) | assumption); obtain ⟨ad513, e513, hx513_0, hx513_1⟩ := at_T86 (Kd.R_reads' HO0.out).2.2 t512 p513 q513; cases e513; replace p513 := eq_true p513; replace q513 := eq_true q513; have q17 : (t512 : Int) ≤ ((l0.length : Int) : Int) := of_decide_eq_true (by first | (with_reducible assumption) | assumption); obtain ⟨i017, hi017, _, hsz17, _⟩ := info_parts info86; have hroom17 : l0.length ≤ co16 := (Kd.R_reads' HO0.out).2.1; have hC17 : Kd.C k86 _ (some ad513) l0.length l0 := (Kd.R_reads' HO0.out).2.2; have hcut17 := cut_to (P := Try.prog) 137 86 .i64 Try.underlying137 hi017 (some ad513) l0.length co16 t512 (of_decide_eq_true (by first | (with_reducible assumption) | assumption)) q17 hroom17; have hr17 := Kd.C_take (m := (t512 : Int).toNat) hC17 (by omega); have hy17 : y514.length = (t512 : Int).toNat := (by rw [Ny514.out, List.length_take]; omega); rw [← Ny514.out] at hr17; rw [← hy17] at hcut17; have HR517 := Aside0.mk hr17; have HC517 := Aside0.mk (show y514.length ≤ co16 from by omega); clear hr17 hC17 hroom17 hi017 hsz17; have KY17 := Aside0.mk hy17; clear hy17; have KL17 := Aside0.mk (show (t512 : Int).toNat ≤ l0.length from by omega); replace q17 := eq_true q17) | ((with_reducible refine gate_builtin (b := .append) (xs := #[.tmp 25, .tmp 28]) rfl ?_); at_builtin; refine Kd.R_append_rows k86 (w0 := w0) w0.heap.size rfl (.tmp 25) (.tmp 28) 137 86 (.agg #[(.string ⟨#[]⟩), (.string ⟨#[]⟩)]) 32 rfl Try.underlying137 info86 rfl (by decide) (by omega) (.slice none 0 0) ([] : List (S86)) y514 _ _ _ (fun k_ => (P0_ k_ ∨ w.heap.size ≤ k_) ∧ some k_ ≠ (.slice (some ad513) l0.length co16 : Value).ownBlock) (fun _ => False) rfl rfl ?aO ?aR (fun _ _ h => h) (fun _ h => h.elim) ?aF ?aB ?aS ?aL ?_; (case aR => repeat (first | exact (by repeat (first | (with_reducible exact HR517.out) | (with_reducible refine Kd.C_alloc ?_ _) | (with_reducible refine Kd.C_drewN ?_ _) | (with_reducible refine Kd.C_drew ?_) | exact HR517.out)) | (with_reducible refine Kd.C_alloc ?_ _) | (with_reducible refine Kd.C_drewN ?_ _) | (with_reducible refine Kd.C_drew ?_))); (case aB => exact (by repeat (first | (with_reducible first | exact HB.out | apply below_alloc | apply pw_below_drewN | apply below_drew1) | exact HB.out))); (case aF => exact (fun k_ hk => ⟨(.inr (Nat.le_trans (by first | exact HK.out.1 | exact (show Kept w _ (fun k_ => P0_ k_) from by repeat (first | (with_reducible first | exact HK.out | apply Kept.alloc | apply Kept.drewN | apply Kept.drew) | exact HK.out)).1) hk)), Kd.fresh' (Kd.R_lt (by (with_reducible repeat (first | apply Kd.R_alloc | apply Kd.R_drewN | apply Kd.R_drew)); exact HO0.out)) k_ hk⟩)); (case aO => exact ((Kd.R_nil _ _ _ _ (fun k_ => (P0_ k_ ∨ w.heap.size ≤ k_) ∧ some k_ ≠ (.slice (some ad513) l0.length co16 : Value).ownBlock)))); (case aS => exact (below_size (by repeat (first | (with_reducible first | exact HB.out | apply below_alloc | apply pw_below_drewN | apply below_drew1) | exact HB.out)))); (case aL => have := LMc11.out; omega); intro v519 w18 ho hb hg hat; rw [← Ny518.out] at ho; have n0_ := Aside0.mk (Kd.R_after (Kd.R_apart_nil (by (with_reducible repeat (first | apply Kd.R_alloc | apply Kd.R_drewN | apply Kd.R_drew)); exact HO0.out)) hg hat); have n1_ := Aside0.mk (hb); have n2_ := Aside0.mk (Kept.of_grown (S := (fun k_ => P0_ k_)) hg (by repeat (first | (with_reducible first | exact HK.out | apply Kept.alloc | apply Kept.drewN | apply Kept.drew) | exact HK.out)) (fun k_ e_ => by simp [Value.ownBlock] at e_)); have n3_ := Aside0.mk ((show Kd.C k86 w18 (some ad513) y514.length y514 from by rw [Ny514.out]; exact Kd.C_take (m := (t512 : Int).toNat) ((Kd.R_reads' (Kd.R_after (Kd.R_apart_nil (by (with_reducible repeat (first | apply Kd.R_alloc | apply Kd.R_drewN | apply Kd.R_drew)); exact HO0.out)) hg hat)).2.2) KL17.out)); have n4_ := Aside0.mk (ho); clear HO0; clear HB; clear HK; clear HR517; have HO0 := n0_; have HB := n1_; have HK := n2_; have HR517 := n3_; have HO520 := n4_; clear n0_ n1_ n2_ n3_ n4_; clear ho hb hg hat; have q19 : ((ji12) : Int) ≤ ((l0.length : Int) : Int) := of_decide_eq_true (by first | (with_reducible assumption) | assumption); obtain ⟨i019, hi019, _, hsz19, _⟩ := info_parts info86; have hroom19 : l0.length ≤ co16 := (Kd.R_reads' HO0.out).2.1; have hC19 : Kd.C k86 _ (some ad513) l0.length l0 := (Kd.R_reads' HO0.out).2.2; have q019 : (0 : Int) ≤ ((ji12) : Int) := of_decide_eq_true (by first | (with_reducible assumption) | assumption); have hcut19 := cut_from (P := Try.prog) 137 86 .i64 Try.underlying137 hi019 2 hsz19 (some ad513) l0.length co16 (ji12) q019 q19; have hr19 := Kd.C_drop (m := ((ji12) : Int).toNat) (c := co16) hC19 (by omega) hroom19; obtain ⟨A19, hA19⟩ : ∃ A1, A1 = (if co16 = ((ji12) : Int).toNat then (some ad513) else ((some ad513) : Option Addr).map (·.add (((ji12) : Int).toNat * 2))) := ⟨_, rfl⟩; obtain ⟨c19, hc19⟩ : ∃ c1, c1 = co16 - ((ji12) : Int).toNat := ⟨_, rfl⟩; have hy19 : y521.length = l0.length - ((ji12) : Int).toNat := (by rw [Ny521.out, List.length_drop] <;> omega); rw [show (l0).drop ((ji12) : Int).toNat = y521 from Ny521.out.symm] at hr19; replace hr19 : Kd.C k86 _ A19 y521.length y521 := (by rw [hA19]; exact hr19); rw [← hy19, ← hA19, ← hc19] at hcut19; have HR524 := Aside0.mk hr19; have HC524 := Aside0.mk (show y521.length ≤ c19 from by rw [hy19, hc19]; exact Nat.sub_le_sub_right hroom19 _); clear hr19 hC19 hroom19 hi019 hsz19 hc19; have KY19 := Aside0.mk hy19; have KA19 := Aside0.mk hA19; clear hy19 hA19; have KL19 := Aside0.mk (show ((ji12) : Int).toNat ≤ l0.length from by omega); replace q19 := eq_true q19) | ((with_reducible refine gate_builtin (b := .append) (xs := #[.tmp 30, .tmp 34]) rfl ?_); at_builtin; refine Kd.R_append_rows k86 (w0 := w0) w0.heap.size rfl (.tmp 30) (.tmp 34) 137 86 (.agg #[(.string ⟨#[]⟩), (.string ⟨#[]⟩)]) 32 rfl Try.underlying137 info86 rfl (by decide) (by omega) v519 y518 y521 _ _ _ (fun k_ => (P0_ k_ ∨ w.heap.size ≤ k_) ∧ some k_ ≠ (.slice (some ad513) l0.length co16 : Value).ownBlock) (fun _ => False) rfl rfl ?aO ?aR (fun _ _ h => h) (fun _ h => h.elim) ?aF ?aB ?aS ?aL ?_; (case aR => repeat (first | exact (by repeat (first | (with_reducible exact HR524.out) | (with_reducible refine Kd.C_alloc ?_ _) | (with_reducible refine Kd.C_drewN ?_ _) | (with_reducible refine Kd.C_drew ?_) | exact HR524.out)) | (with_reducible refine Kd.C_alloc ?_ _) | (with_reducible refine Kd.C_drewN ?_ _) | (with_reducible refine Kd.C_drew ?_))); (case aB => exact (by repeat (first | (with_reducible first | exact HB.out | apply below_alloc | apply pw_below_drewN | apply below_drew1) | exact HB.out))); (case aF => exact (fun k_ hk => ⟨(.inr (Nat.le_trans (by first | exact HK.out.1 | exact (show Kept w _ (fun k_ => P0_ k_) from by repeat (first | (with_reducible first | exact HK.out | apply Kept.alloc | apply Kept.drewN | apply Kept.drew) | exact HK.out)).1) hk)), Kd.fresh' (Kd.R_lt (by (with_reducible repeat (first | apply Kd.R_alloc | apply Kd.R_drewN | apply Kd.R_drew)); exact HO0.out)) k_ hk⟩)); (case aO => exact (by (with_reducible repeat (first | apply Kd.R_alloc | apply Kd.R_drewN | apply Kd.R_drew)); exact HO520.out)); (case aS => exact (below_size (by repeat (first | (with_reducible first | exact HB.out | apply below_alloc | apply pw_below_drewN | apply below_drew1) | exact HB.out)))); (case aL => have := LMc15.out; omega); intro v526 w20 ho hb hg hat; rw [← Ny525.out] at ho; have n0_ := Aside0.mk (Kd.R_after (ok := (fun k_ => (P0_ k_ ∨ w.heap.size ≤ k_))) (by (with_reducible repeat (first | apply Kd.R_alloc | apply Kd.R_drewN | apply Kd.R_drew)); exact HO0.out) hg hat); have n1_ := Aside0.mk (hb); have n2_ := Aside0.mk (Kept.of_grown (S := (fun k_ => P0_ k_)) hg (by repeat (first | (with_reducible first | exact HK.out | apply Kept.alloc | apply Kept.drewN | apply Kept.drew) | exact HK.out)) (fun k_ e_ => (HO520.out.1 k_ e_).1)); have n3_ := Aside0.mk ((show Kd.C k86 w20 (some ad513) y514.length y514 from by rw [Ny514.out]; exact Kd.C_take (m := (t512 : Int).toNat) ((Kd.R_reads' (Kd.R_after (ok := (fun k_ => (P0_ k_ ∨ w.heap.size ≤ k_))) (by (with_reducible repeat (first | apply Kd.R_alloc | apply Kd.R_drewN | apply Kd.R_drew)); exact HO0.out) hg hat)).2.2) KL17.out)); have n4_ := Aside0.mk ((show Kd.C k86 w20 A19 y521.length y521 from by rw [Ny521.out, KA19.out]; exact Kd.C_drop (m := ((ji12) : Int).toNat) (c := co16) ((Kd.R_reads' (Kd.R_after (ok := (fun k_ => (P0_ k_ ∨ w.heap.size ≤ k_))) (by (with_reducible repeat (first | apply Kd.R_alloc | apply Kd.R_drewN | apply Kd.R_drew)); exact HO0.out) hg hat)).2.2) KL19.out ((Kd.R_reads' (Kd.R_after (ok := (fun k_ => (P0_ k_ ∨ w.heap.size ≤ k_))) (by (with_reducible repeat (first | apply Kd.R_alloc | apply Kd.R_drewN | apply Kd.R_drew)); exact HO0.out) hg hat)).2.1))); have n5_ := Aside0.mk (ho); clear HO0; clear HB; clear HK; clear HR517; clear HR524; clear HO520; have HO0 := n0_; have HB := n1_; have HK := n2_; have HR517 := n3_; have HR524 := n4_; have HO527 := n5_; clear n0_ n1_ n2_ n3_ n4_ n5_; clear ho hb hg hat))
                    go_ret2
                    exact ⟨_, by first | rfl | (simp [errW_none, errW_some] <;> rfl) | (simp only [← hji12]; first | rfl | (simp [errW_none, errW_some] <;> rfl)) | (simp [*, errW_none, errW_some] <;> rfl), by (with_reducible repeat (first | apply Kd.R_alloc | apply Kd.R_drewN | apply Kd.R_drew)); exact Kd.R_mono HO527.out (fun _ hk => hk.1), by repeat (first | (with_reducible first | exact HB.out | apply below_alloc | apply pw_below_drewN | apply below_drew1) | exact HB.out), by repeat (first | (with_reducible first | exact HK.out | apply Kept.alloc | apply Kept.drewN | apply Kept.drew) | exact HK.out)⟩
                  · rw [if_neg c15] at H
                    exact absurd H (by simp)
                · rw [if_neg c14] at H
                  exact absurd H (by simp)
              · rw [if_neg c13] at H
                exact absurd H (by simp)
            · rw [if_neg c11] at H
              exact absurd H (by simp)
          · rw [if_neg c10] at H
            exact absurd H (by simp)
        · rw [if_neg c8] at H
          have c8b0 : (((rd_T86 l0 t512).f0).toList == a1.toList) = false := beq_eq_false_iff_ne.mpr c8
          have c8b1 : (((rd_T86 l0 t512).f0).toList != a1.toList) = true := bne_iff_ne.mpr c8
          simp only [Option.some.injEq, Prod.mk.injEq] at H
          obtain ⟨rfl, rfl⟩ := H
          obtain ⟨Ao21, co21, eo21⟩ := Kd.R_slice HO0.out
          subst eo21
          go_enter Try.func97, Try.ntmps97
          go_wp2_with (first | ((with_reducible refine gate_callee (f := 105) rfl ?_); refine goesL_ (some 10) rfl rfl Try.func105 (by kernel_rfl) rfl #[.slice Ao21 l0.length co21, .string a1] rfl (by (try simp only [List.map_toArray, List.map_cons, List.map_nil]); first | done | rfl | (simp only [List.length_drop, List.length_take]; rfl)) ?_; (with_reducible refine (footbridgeref09_at.calls k _ _ l0 a1 t512 _ ?side1 ?side2 A3.out).mono ?_); (case side1 => repeat (first | exact (Kd.R_reads' HO0.out).2.2 | (with_reducible refine Kd.C_alloc ?_ _) | (with_reducible refine Kd.C_drewN ?_ _) | (with_reducible refine Kd.C_drew ?_))); (case side2 => exact (Kd.R_reads' HO0.out).2.1); rintro e w' ⟨rfl, ⟨nd, rfl⟩⟩; refine ⟨_, rfl, ?_⟩; have p513 : 0 ≤ (t512 : Int) := of_decide_eq_true (by first | (with_reducible assumption) | assumption); have q513 : t512 < (l0.length : Int) := of_decide_eq_true (by first | (with_reducible assumption) | assumption); obtain ⟨ad513, e513, hx513_0, hx513_1⟩ := at_T86 (Kd.R_reads' HO0.out).2.2 t512 p513 q513; cases e513; replace p513 := eq_true p513; replace q513 := eq_true q513))
          go_ret2
          exact ⟨_, by first | rfl | (simp [errW_none, errW_some] <;> rfl) | (simp [*, errW_none, errW_some] <;> rfl), by (with_reducible repeat (first | apply Kd.R_alloc | apply Kd.R_drewN | apply Kd.R_drew)); exact HO0.out, by repeat (first | (with_reducible first | exact HB.out | apply below_alloc | apply pw_below_drewN | apply below_drew1) | exact HB.out), by repeat (first | (with_reducible first | exact HK.out | apply Kept.alloc | apply Kept.drewN | apply Kept.drew) | exact HK.out)⟩
      · rw [if_neg c7] at H
        exact absurd H (by simp)
    · rw [if_neg c6] at H
      exact absurd H (by simp)

end Go.Proofs.Ytipgldfbjlhpoab.P
