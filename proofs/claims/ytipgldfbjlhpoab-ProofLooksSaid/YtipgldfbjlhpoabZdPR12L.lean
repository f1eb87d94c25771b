import Derived.Test.YtipgldfbjlhpoabZdP0
import Derived.Test.YtipgldfbjlhpoabZdPRWireR
import Derived.Test.YtipgldfbjlhpoabZdHRSha
import Derived.Test.YtipgldfbjlhpoabZdPRMerkle
-- Printed by wip/myprint.py.
namespace Go.Proofs.Ytipgldfbjlhpoab.P
open Go.RowKit Go.Proofs.YtipgldfbjlhpoabW.PrintWords Go.Proofs.YtipgldfbjlhpoabW.PrintLast Go.Proofs.YtipgldfbjlhpoabW.PrintMore
attribute [local go_sem] max2_int min2_int max_two min_two max_three min_three max_four min_four   -- for this text's walks alone
attribute [local go_sem] leq_str
attribute [local go_sem] geq_str gtr_str
set_option linter.unusedVariables false
set_option linter.unusedSimpArgs false
mutual
def footbridgeref12_Walk.j0 : Nat → Int → Int → ByteArray → List ByteArray → Bool → Option (ByteArray × List ByteArray × Bool)
 | 0, _, _, _, _, _ => none
 | k + 1, x0, x1, x2, x3, x27 => if x27 = true then (some ((⟨#[]⟩ : ByteArray), ([] : List ByteArray), false)) else (if x0 = 1 then (some (x2, ([] : List ByteArray), ((x3.length : Int) == 0))) else (if (x3.length : Int) = 0 then (some ((⟨#[]⟩ : ByteArray), ([] : List ByteArray), false)) else ((footbridgeref11_Split.f k x0).bind fun t1140 => (if 0 ≤ (wrap64 ((x3.length : Int) - 1)) then (if (wrap64 ((x3.length : Int) - 1)) < (x3.length : Int) then (if x1 < t1140 then (if (wrap64 ((x3.length : Int) - 1)) ≤ (x3.length : Int) then ((footbridgeref12_Walk.f k t1140 x1 x2 (x3.take ((wrap64 ((x3.length : Int) - 1)) : Int).toNat)).bind fun bt1143 => ((footbridgeref11_NodeText.f bt1143.1 (rdOf ByteArray.empty x3 (wrap64 ((x3.length : Int) - 1)))).bind fun t1148 => ((footbridgeref04_Sum.f t1148).bind fun t1149 => (if bt1143.2.1.length < 8796093022208 then (some (t1149, (bt1143.2.1 ++ [t1148]), bt1143.2.2)) else (none))))) else (none)) else (if (wrap64 ((x3.length : Int) - 1)) ≤ (x3.length : Int) then ((footbridgeref12_Walk.f k (wrap64 (x0 - t1140)) (wrap64 (x1 - t1140)) x2 (x3.take ((wrap64 ((x3.length : Int) - 1)) : Int).toNat)).bind fun bt1154 => ((footbridgeref11_NodeText.f (rdOf ByteArray.empty x3 (wrap64 ((x3.length : Int) - 1))) bt1154.1).bind fun t1159 => ((footbridgeref04_Sum.f t1159).bind fun t1160 => (if bt1154.2.1.length < 8796093022208 then (some (t1160, (bt1154.2.1 ++ [t1159]), bt1154.2.2)) else (none))))) else (none))) else (none)) else (none)))))
def footbridgeref12_Walk.f : Nat → Int → Int → ByteArray → List ByteArray → Option (ByteArray × List ByteArray × Bool)
 | 0, _, _, _, _ => none
 | k + 1, a0, a1, a2, l3 => if a1 < 0 then (footbridgeref12_Walk.j0 k a0 a1 a2 l3 true) else (footbridgeref12_Walk.j0 k a0 a1 a2 l3 (decide (a1 ≥ a0)))
end
set_option maxHeartbeats 8000000 in
set_option maxRecDepth 100000 in
theorem footbridgeref12_Walk.calls (k : Nat) : ∀ (a0 : Int) (a1 : Int) (a2 : ByteArray) (A3 : Option Addr) (c3 : Nat) (l3 : List ByteArray) (r1 : ByteArray) (r2 : List ByteArray) (r3 : Bool) (w : World) (hr3 : Kd.C Kd.string w A3 l3.length l3) (hc3 : l3.length ≤ c3) (h : footbridgeref12_Walk.f k a0 a1 a2 l3 = some (r1, r2, r3)),
  Calls Try.prog 162 #[.int .i64 a0, .int .i64 a1, .string a2, .slice A3 l3.length c3] w fun e w' => ∃ v1_ : Value, e = .returned (.tuple #[.string r1, v1_, .bool r3]) ∧ Kd.R Kd.string 9 w' w.heap.size (fun _ => True) v1_ r2 ∧ Below w.heap.size w w' := by
 induction k using Nat.strongRecOn with
 | _ k ih =>
 intro a0 a1 a2 A3 c3 l3 r1 r2 r3 w hr3 hc3 h
 cases k with
 | zero => exact absurd h (by simp [footbridgeref12_Walk.f])
 | succ k =>
 simp only [footbridgeref12_Walk.f] at h
 have HR3 := Aside0.mk hr3
 have HC3 := Aside0.mk hc3
 clear hr3 hc3
 have HB := Aside0.mk (Below.refl w.heap.size w)
 have H : (if a1 < 0 then (footbridgeref12_Walk.j0 k a0 a1 a2 l3 true) else (footbridgeref12_Walk.j0 k a0 a1 a2 l3 (decide (a1 ≥ a0)))) = some (r1, r2, r3) := h
 clear h
 have HC5 := Aside0.mk H
 clear H
 go_enter Try.func162, Try.ntmps162
 go_upto_region 1 with (fail)
 go_cut [27] (fun v27 wc => ∃ (kq : Nat) (x27_4 : Bool), v27 = .bool x27_4 ∧ Aside0 (footbridgeref12_Walk.j0 kq a0 a1 a2 l3 x27_4 = some (r1, r2, r3)) ∧ Aside0 (kq ≤ k) ∧ Aside0 (Below w.heap.size w wc))
 case first =>
  have H := HC5.out
  clear HC5
  by_cases c6 : a1 < 0
  · rw [if_pos c6] at H
    have c6b0 : decide (a1 < 0) = true := decide_eq_true c6
    clear c6
    (first | rw [c6b0] | (simp only [i64_w, i32_w]; rw [c6b0]) | skip)
    have H' := Aside0.mk H
    clear H
    go_wp2
    go_meet
    case rel => exact ⟨_, (true), (by first | rfl | (simp; done) | (simp [*]; done)), H', ⟨by first | omega | exact Nat.le_refl _⟩, ⟨by repeat (first | (with_reducible first | exact HB.out | apply pbA | apply pbN | apply pbD) | exact HB.out)⟩⟩
  · rw [if_neg c6] at H
    have c6b0 : decide (a1 < 0) = false := decide_eq_false c6
    clear c6
    (first | rw [c6b0] | (simp only [i64_w, i32_w]; rw [c6b0]) | skip)
    have H' := Aside0.mk H
    clear H
    go_wp2
    go_meet
    case rel => exact ⟨_, (decide (a1 ≥ a0)), (by first | rfl | (simp; done) | (simp [*]; done)), H', ⟨by first | omega | exact Nat.le_refl _⟩, ⟨by repeat (first | (with_reducible first | exact HB.out | apply pbA | apply pbN | apply pbD) | exact HB.out)⟩⟩
 case rest =>
  clear HC5
  try clear c1
  try clear p2
  try clear c3
  try clear c6
  try clear c6b0
  obtain ⟨kq, x27_4, rfl, HA, HJ4, HB⟩ := hcut
  cases kq with
  | zero => exact absurd HA.out (by simp [footbridgeref12_Walk.j0])
  | succ kj4 =>
   have H := HA.out
   clear HA
   simp only [footbridgeref12_Walk.j0] at H
   by_cases c7 : x27_4 = true
   · subst c7
     have H1 : (some ((⟨#[]⟩ : ByteArray), ([] : List ByteArray), false)) = some (r1, r2, r3) := by rw [if_pos rfl] at H; exact H
     clear H
     have H := H1
     clear H1
     simp only [Option.some.injEq, Prod.mk.injEq] at H
     obtain ⟨rfl, rfl, rfl⟩ := H
     go_wp2
     go_ret3
     exact ⟨_, by first | rfl | (simp [errW_none, errW_some] <;> rfl) | (simp [*, errW_none, errW_some] <;> rfl), by first | exact Kd.R_nil _ _ _ _ _ | exact Kd.N_nil _ _ _ _ _ | exact Kd.V_nil _ _ _ _ _ | exact Kd.Q_nil _ _ _ _ _ | exact Kd.S_nil _ _ _ _ _, by repeat (first | (with_reducible first | exact HB.out | apply pbA | apply pbN | apply pbD) | exact HB.out)⟩
   · replace c7 := Bool.eq_false_iff.mpr c7
     subst c7
     have H1 : (if a0 = 1 then (some (a2, ([] : List ByteArray), ((l3.length : Int) == 0))) else (if (l3.length : Int) = 0 then (some ((⟨#[]⟩ : ByteArray), ([] : List ByteArray), false)) else ((footbridgeref11_Split.f kj4 a0).bind fun t1140 => (if 0 ≤ (wrap64 ((l3.length : Int) - 1)) then (if (wrap64 ((l3.length : Int) - 1)) < (l3.length : Int) then (if a1 < t1140 then (if (wrap64 ((l3.length : Int) - 1)) ≤ (l3.length : Int) then ((footbridgeref12_Walk.f kj4 t1140 a1 a2 (l3.take ((wrap64 ((l3.length : Int) - 1)) : Int).toNat)).bind fun bt1143 => ((footbridgeref11_NodeText.f bt1143.1 (rdOf ByteArray.empty l3 (wrap64 ((l3.length : Int) - 1)))).bind fun t1148 => ((footbridgeref04_Sum.f t1148).bind fun t1149 => (if bt1143.2.1.length < 8796093022208 then (some (t1149, (bt1143.2.1 ++ [t1148]), bt1143.2.2)) else (none))))) else (none)) else (if (wrap64 ((l3.length : Int) - 1)) ≤ (l3.length : Int) then ((footbridgeref12_Walk.f kj4 (wrap64 (a0 - t1140)) (wrap64 (a1 - t1140)) a2 (l3.take ((wrap64 ((l3.length : Int) - 1)) : Int).toNat)).bind fun bt1154 => ((footbridgeref11_NodeText.f (rdOf ByteArray.empty l3 (wrap64 ((l3.length : Int) - 1))) bt1154.1).bind fun t1159 => ((footbridgeref04_Sum.f t1159).bind fun t1160 => (if bt1154.2.1.length < 8796093022208 then (some (t1160, (bt1154.2.1 ++ [t1159]), bt1154.2.2)) else (none))))) else (none))) else (none)) else (none))))) = some (r1, r2, r3) := by rw [if_neg (show ¬ (false = true) by decide)] at H; exact H
     clear H
     have H := H1
     clear H1
     by_cases c8 : a0 = 1
     · rw [if_pos c8] at H
       have c8b0 : (a0 == 1) = true := beq_iff_eq.mpr c8
       have c8b1 : (a0 != 1) = false := bne_eq_false_iff_eq.mpr c8
       clear c8
       simp only [Option.some.injEq, Prod.mk.injEq] at H
       obtain ⟨rfl, rfl, rfl⟩ := H
       go_wp2
       go_ret3
       exact ⟨_, by first | rfl | (simp [errW_none, errW_some] <;> rfl) | (simp [*, errW_none, errW_some] <;> rfl), by first | exact Kd.R_nil _ _ _ _ _ | exact Kd.N_nil _ _ _ _ _ | exact Kd.V_nil _ _ _ _ _ | exact Kd.Q_nil _ _ _ _ _ | exact Kd.S_nil _ _ _ _ _, by repeat (first | (with_reducible first | exact HB.out | apply pbA | apply pbN | apply pbD) | exact HB.out)⟩
     · rw [if_neg c8] at H
       have c8b0 : (a0 == 1) = false := beq_eq_false_iff_ne.mpr c8
       have c8b1 : (a0 != 1) = true := bne_iff_ne.mpr c8
       by_cases c9 : (l3.length : Int) = 0
       · rw [if_pos c9] at H
         have c9b0 : ((l3.length : Int) == 0) = true := beq_iff_eq.mpr c9
         have c9b1 : ((l3.length : Int) != 0) = false := bne_eq_false_iff_eq.mpr c9
         clear c9
         simp only [Option.some.injEq, Prod.mk.injEq] at H
         obtain ⟨rfl, rfl, rfl⟩ := H
         go_wp2
         go_ret3
         exact ⟨_, by first | rfl | (simp [errW_none, errW_some] <;> rfl) | (simp [*, errW_none, errW_some] <;> rfl), by first | exact Kd.R_nil _ _ _ _ _ | exact Kd.N_nil _ _ _ _ _ | exact Kd.V_nil _ _ _ _ _ | exact Kd.Q_nil _ _ _ _ _ | exact Kd.S_nil _ _ _ _ _, by repeat (first | (with_reducible first | exact HB.out | apply pbA | apply pbN | apply pbD) | exact HB.out)⟩
       · rw [if_neg c9] at H
         have c9b0 : ((l3.length : Int) == 0) = false := beq_eq_false_iff_ne.mpr c9
         have c9b1 : ((l3.length : Int) != 0) = true := bne_iff_ne.mpr c9
         have c9b2 : ¬ (l3 = []) := fun h_ => c9 (by rw [h_]; rfl)
         replace H := Option.bind_eq_some_iff.mp H
         obtain ⟨t1140, A100, H⟩ := H
         replace H : (if 0 ≤ (wrap64 ((l3.length : Int) - 1)) then (if (wrap64 ((l3.length : Int) - 1)) < (l3.length : Int) then (if a1 < t1140 then (if (wrap64 ((l3.length : Int) - 1)) ≤ (l3.length : Int) then ((footbridgeref12_Walk.f kj4 t1140 a1 a2 (l3.take ((wrap64 ((l3.length : Int) - 1)) : Int).toNat)).bind fun bt1143 => ((footbridgeref11_NodeText.f bt1143.1 (rdOf ByteArray.empty l3 (wrap64 ((l3.length : Int) - 1)))).bind fun t1148 => ((footbridgeref04_Sum.f t1148).bind fun t1149 => (if bt1143.2.1.length < 8796093022208 then (some (t1149, (bt1143.2.1 ++ [t1148]), bt1143.2.2)) else (none))))) else (none)) else (if (wrap64 ((l3.length : Int) - 1)) ≤ (l3.length : Int) then ((footbridgeref12_Walk.f kj4 (wrap64 (a0 - t1140)) (wrap64 (a1 - t1140)) a2 (l3.take ((wrap64 ((l3.length : Int) - 1)) : Int).toNat)).bind fun bt1154 => ((footbridgeref11_NodeText.f (rdOf ByteArray.empty l3 (wrap64 ((l3.length : Int) - 1))) bt1154.1).bind fun t1159 => ((footbridgeref04_Sum.f t1159).bind fun t1160 => (if bt1154.2.1.length < 8796093022208 then (some (t1160, (bt1154.2.1 ++ [t1159]), bt1154.2.2)) else (none))))) else (none))) else (none)) else (none)) = some (r1, r2, r3) := H
         have A10 := Aside0.mk A100
         clear A100
         obtain ⟨ji11, hji11⟩ : ∃ j_ : Int, (wrap64 ((l3.length : Int) - 1)) = j_ := ⟨_, rfl⟩
         replace H : (if 0 ≤ (ji11) then (if (ji11) < (l3.length : Int) then (if a1 < t1140 then (if (ji11) ≤ (l3.length : Int) then ((footbridgeref12_Walk.f kj4 t1140 a1 a2 (l3.take ((ji11) : Int).toNat)).bind fun bt1143 => ((footbridgeref11_NodeText.f bt1143.1 (rdOf ByteArray.empty l3 (ji11))).bind fun t1148 => ((footbridgeref04_Sum.f t1148).bind fun t1149 => (if bt1143.2.1.length < 8796093022208 then (some (t1149, (bt1143.2.1 ++ [t1148]), bt1143.2.2)) else (none))))) else (none)) else (if (ji11) ≤ (l3.length : Int) then ((footbridgeref12_Walk.f kj4 (wrap64 (a0 - t1140)) (wrap64 (a1 - t1140)) a2 (l3.take ((ji11) : Int).toNat)).bind fun bt1154 => ((footbridgeref11_NodeText.f (rdOf ByteArray.empty l3 (ji11)) bt1154.1).bind fun t1159 => ((footbridgeref04_Sum.f t1159).bind fun t1160 => (if bt1154.2.1.length < 8796093022208 then (some (t1160, (bt1154.2.1 ++ [t1159]), bt1154.2.2)) else (none))))) else (none))) else (none)) else (none)) = some (r1, r2, r3) := by first | (rw [hji11] at H; exact H) | (simp only [hji11] at H ⊢; exact H)
         (try rw [hji11] at A10)
         have hji11w : (IntKind.i64.wrap ((l3.length : Int) - 1)) = ji11 := (i64_w _).trans hji11
         by_cases c12 : 0 ≤ (ji11)
         · rw [if_pos c12] at H
           have c12b0 : decide (0 ≤ (ji11)) = true := decide_eq_true c12
           clear c12
           by_cases c13 : (ji11) < (l3.length : Int)
           · rw [if_pos c13] at H
             have c13b0 : decide ((ji11) < (l3.length : Int)) = true := decide_eq_true c13
             clear c13
             by_cases c14 : a1 < t1140
             · rw [if_pos c14] at H
               have c14b0 : decide (a1 < t1140) = true := decide_eq_true c14
               clear c14
               have c15b0 := eq_true (of_decide_eq_true (by first | (with_reducible assumption) | assumption) : 0 ≤ (ji11))
               by_cases c16 : (ji11) ≤ (l3.length : Int)
               · rw [if_pos c16] at H
                 have c16b0 := eq_true c16
                 have c16b1 : decide ((ji11) ≤ (l3.length : Int)) = true := decide_eq_true c16
                 clear c16
                 replace H := Option.bind_eq_some_iff.mp H
                 obtain ⟨⟨t1143, t1144, t1145⟩, A170, H⟩ := H
                 replace H : ((footbridgeref11_NodeText.f t1143 (rdOf ByteArray.empty l3 (ji11))).bind fun t1148 => ((footbridgeref04_Sum.f t1148).bind fun t1149 => (if t1144.length < 8796093022208 then (some (t1149, (t1144 ++ [t1148]), t1145)) else (none)))) = some (r1, r2, r3) := H
                 have A17 := Aside0.mk A170
                 clear A170
                 replace H := Option.bind_eq_some_iff.mp H
                 obtain ⟨t1148, A180, H⟩ := H
                 replace H : ((footbridgeref04_Sum.f t1148).bind fun t1149 => (if t1144.length < 8796093022208 then (some (t1149, (t1144 ++ [t1148]), t1145)) else (none))) = some (r1, r2, r3) := H
                 have A18 := Aside0.mk A180
                 clear A180
                 replace H := Option.bind_eq_some_iff.mp H
                 obtain ⟨t1149, A190, H⟩ := H
                 replace H : (if t1144.length < 8796093022208 then (some (t1149, (t1144 ++ [t1148]), t1145)) else (none)) = some (r1, r2, r3) := H
                 have A19 := Aside0.mk A190
                 clear A190
                 by_cases c20 : t1144.length < 8796093022208
                 · rw [if_pos c20] at H
                   have LMc20 := Aside0.mk c20
                   clear c20
                   obtain ⟨y1150, hy1150⟩ : ∃ y_ : List ByteArray, y_ = (t1144 ++ [t1148]) := ⟨_, rfl⟩
                   replace H : (some (t1149, y1150, t1145)) = some (r1, r2, r3) := by first | (rw [hy1150]; with_reducible exact H) | (have H2_ := (Option.bind_some _ _).symm.trans H; rw [hy1150]; with_reducible exact H2_) | (have H2_ := (Option.bind_some _ _).symm.trans H; with_reducible exact H2_) | with_reducible exact H | (rw [hy1150]; exact H) | exact H
                   have Ny1150 := Aside0.mk hy1150
                   clear hy1150
                   simp only [Option.some.injEq, Prod.mk.injEq] at H
                   obtain ⟨rfl, rfl, rfl⟩ := H
                   go_wp2_with (first | ((with_reducible refine gate_callee (f := 160) rfl ?_); refine goesL_ (some 38) rfl rfl Try.func160 (by kernel_rfl) rfl #[.int .i64 a0] rfl (by (try simp only [List.map_toArray, List.map_cons, List.map_nil]); first | done | rfl | (simp only [List.length_drop, List.length_take]; rfl)) ?_; (with_reducible refine (footbridgeref11_Split.calls kj4 a0 t1140 _ A10.out).mono ?_); rintro e w' ⟨rfl, ⟨nd, rfl⟩⟩; refine ⟨_, rfl, ?_⟩; have p1141 : 0 ≤ ((ji11) : Int) := of_decide_eq_true (by first | (with_reducible assumption) | assumption); have q1141 : (ji11) < (l3.length : Int) := of_decide_eq_true (by first | (with_reducible assumption) | assumption); obtain ⟨ad1141, e1141, hx1141_0⟩ := Kd.at_string HR3.out (ji11) p1141 q1141; cases e1141; replace hx1141_0 := (HB.out.cell (World.block_lt_of_cell? w _ hx1141_0)).trans hx1141_0; replace p1141 := eq_true p1141; replace q1141 := eq_true q1141; obtain ⟨i021, hi021, _, hsz21, _⟩ := info_parts info9; obtain ⟨hcut21, hA21, hC21⟩ := print_take_of (P := Try.prog) Value.string (⟨#[]⟩ : ByteArray) 63 9 .i64 Try.underlying63 hi021 hsz21 (some ad1141) c3 l3 (ji11) (of_decide_eq_true (by first | (with_reducible assumption) | assumption)) (of_decide_eq_true (by first | (with_reducible assumption) | assumption)) HC3.out; have HR1142 := Aside0.mk (Kd.C_of_reads (h1 := fun _ => rfl) (hA21 _ (Kd.reads_of_C HR3.out))); have HC1142 := Aside0.mk hC21; clear hA21 hC21 hi021 hsz21) | ((with_reducible refine gate_callee (f := 162) rfl ?_); refine goesL_ (some 57) rfl rfl Try.func162 (by kernel_rfl) rfl #[.int .i64 t1140, .int .i64 a1, .string a2, .slice (some ad1141) (l3.take ((ji11) : Int).toNat).length c3] rfl (by (try simp only [List.map_toArray, List.map_cons, List.map_nil]); first | done | (rw [show (l3.take ((ji11) : Int).toNat).length = (ji11).toNat from (by rw [List.length_take]; have h_ : ((ji11) : Int) ≤ (l3.length : Int) := of_decide_eq_true (by first | (with_reducible assumption) | assumption); omega)] <;> rfl) | (simp only [hji11]; rfl) | rfl | (simp only [List.length_drop, List.length_take]; rfl)) ?_; (with_reducible refine (ih kj4 (by have := HJ4.out; omega) t1140 a1 a2 _ _ (l3.take ((ji11) : Int).toNat) t1143 t1144 t1145 _ ?side1 ?side2 A17.out).mono ?_); (case side1 => repeat (first | exact (Kd.C_below HR1142.out (by repeat (first | (with_reducible first | exact HB.out | apply pbA | apply pbN | apply pbD) | exact HB.out))) | (with_reducible refine Kd.C_alloc ?_ _) | (with_reducible refine Kd.C_drewN ?_ _) | (with_reducible refine Kd.C_drew ?_))); (case side2 => exact HC1142.out); rintro e w22 ⟨v1146, rfl, ho0, hb⟩; refine ⟨_, rfl, ?_⟩; have n0_ := Aside0.mk (Kd.R_lower ho0 (below_size (by repeat (first | (with_reducible first | exact HB.out | apply pbA | apply pbN | apply pbD) | exact HB.out)))); have n1_ := Aside0.mk (below_step (by repeat (first | (with_reducible first | exact HB.out | apply pbA | apply pbN | apply pbD) | exact HB.out)) hb); clear HB; have HO1147 := n0_; have HB := n1_; clear n0_ n1_; (try clear hb); (try clear hb2); (try clear hk); (try clear hi); (try clear ho0)) | ((with_reducible refine gate_callee (f := 164) rfl ?_); refine goesL_ (some 63) rfl rfl Try.func164 (by kernel_rfl) rfl #[.string t1143, .string (rdOf ByteArray.empty l3 (ji11))] rfl (by (try simp only [List.map_toArray, List.map_cons, List.map_nil]); first | done | (simp only [hji11]; rfl) | rfl | (simp only [List.length_drop, List.length_take]; rfl)) ?_; (with_reducible refine (footbridgeref11_NodeText.calls t1143 (rdOf ByteArray.empty l3 (ji11)) t1148 _ A18.out).mono ?_); rintro e w' ⟨rfl, ⟨nd, rfl⟩⟩; refine ⟨_, rfl, ?_⟩) | ((with_reducible refine gate_callee (f := 79) rfl ?_); refine goesL_ (some 65) rfl rfl Try.func79 (by kernel_rfl) rfl #[.string t1148] rfl (by (try simp only [List.map_toArray, List.map_cons, List.map_nil]); first | done | rfl | (simp only [List.length_drop, List.length_take]; rfl)) ?_; (with_reducible refine (footbridgeref04_Sum.calls t1148 t1149 _ A19.out).mono ?_); rintro e w23 ⟨rfl, hb⟩; refine ⟨_, rfl, ?_⟩; have n0_ := Aside0.mk (Kd.R_below (by (with_reducible repeat (first | apply Kd.R_alloc | apply Kd.R_drewN | apply Kd.R_drew)); exact HO1147.out) hb); have n1_ := Aside0.mk (below_step (by repeat (first | (with_reducible first | exact HB.out | apply pbA | apply pbN | apply pbD) | exact HB.out)) hb); clear HO1147; clear HB; have HO1147 := n0_; have HB := n1_; clear n0_ n1_; (try clear hb); (try clear hb2); (try clear hk); (try clear hi)) | ((with_reducible refine gate_builtin (b := .append) (xs := #[.tmp 66, .tmp 68]) rfl ?_); at_builtin; refine Kd.R_append Kd.string (w0 := w) w.heap.size rfl (.tmp 66) (.tmp 68) 63 9 (.string ⟨#[]⟩) 16 rfl Try.underlying63 info9 rfl (by decide) (by omega) v1146 t1144 t1148 [.string t1148] (fun _ => True) (fun _ => False) rfl rfl ?aP (fun _ hk => hk.elim) ?aF ?aO ?aB ?aS ?aL ?_; (case aP => exact rfl); (case aB => exact (by repeat (first | (with_reducible first | exact HB.out | apply pbA | apply pbN | apply pbD) | exact HB.out))); (case aF => exact (fun _ _ => trivial)); (case aO => exact (by (with_reducible repeat (first | apply Kd.R_alloc | apply Kd.R_drewN | apply Kd.R_drew)); exact HO1147.out)); (case aS => exact (below_size (by repeat (first | (with_reducible first | exact HB.out | apply pbA | apply pbN | apply pbD) | exact HB.out)))); (case aL => have := LMc20.out; omega); intro v1151 w24 ho hb hg hat; rw [← Ny1150.out] at ho; have n0_ := Aside0.mk (hb); have n1_ := Aside0.mk (ho); clear HB; clear HO1147; have HB := n0_; have HO1152 := n1_; clear n0_ n1_; clear ho hb hg hat))
                   go_ret3
                   exact ⟨_, by first | rfl | (simp [errW_none, errW_some] <;> rfl) | (simp only [← hji11]; first | rfl | (simp [errW_none, errW_some] <;> rfl)) | (simp [*, errW_none, errW_some] <;> rfl), by (with_reducible repeat (first | apply Kd.R_alloc | apply Kd.R_drewN | apply Kd.R_drew)); exact HO1152.out, by repeat (first | (with_reducible first | exact HB.out | apply pbA | apply pbN | apply pbD) | exact HB.out)⟩
                 · rw [if_neg c20] at H
                   exact absurd H (by simp)
               · rw [if_neg c16] at H
                 exact absurd H (by simp)
             · rw [if_neg c14] at H
               have c14b0 : decide (a1 < t1140) = false := decide_eq_false c14
               clear c14
               have c25b0 := eq_true (of_decide_eq_true (by first | (with_reducible assumption) | assumption) : 0 ≤ (ji11))
               by_cases c26 : (ji11) ≤ (l3.length : Int)
               · rw [if_pos c26] at H
                 have c26b0 := eq_true c26
                 have c26b1 : decide ((ji11) ≤ (l3.length : Int)) = true := decide_eq_true c26
                 clear c26
                 replace H := Option.bind_eq_some_iff.mp H
                 obtain ⟨⟨t1154, t1155, t1156⟩, A270, H⟩ := H
                 replace H : ((footbridgeref11_NodeText.f (rdOf ByteArray.empty l3 (ji11)) t1154).bind fun t1159 => ((footbridgeref04_Sum.f t1159).bind fun t1160 => (if t1155.length < 8796093022208 then (some (t1160, (t1155 ++ [t1159]), t1156)) else (none)))) = some (r1, r2, r3) := H
                 have A27 := Aside0.mk A270
                 clear A270
                 replace H := Option.bind_eq_some_iff.mp H
                 obtain ⟨t1159, A280, H⟩ := H
                 replace H : ((footbridgeref04_Sum.f t1159).bind fun t1160 => (if t1155.length < 8796093022208 then (some (t1160, (t1155 ++ [t1159]), t1156)) else (none))) = some (r1, r2, r3) := H
                 have A28 := Aside0.mk A280
                 clear A280
                 replace H := Option.bind_eq_some_iff.mp H
                 obtain ⟨t1160, A290, H⟩ := H
                 replace H : (if t1155.length < 8796093022208 then (some (t1160, (t1155 ++ [t1159]), t1156)) else (none)) = some (r1, r2, r3) := H
                 have A29 := Aside0.mk A290
                 clear A290
                 by_cases c30 : t1155.length < 8796093022208
                 · rw [if_pos c30] at H
                   have LMc30 := Aside0.mk c30
                   clear c30
                   obtain ⟨y1161, hy1161⟩ : ∃ y_ : List ByteArray, y_ = (t1155 ++ [t1159]) := ⟨_, rfl⟩
                   replace H : (some (t1160, y1161, t1156)) = some (r1, r2, r3) := by first | (rw [hy1161]; with_reducible exact H) | (have H2_ := (Option.bind_some _ _).symm.trans H; rw [hy1161]; with_reducible exact H2_) | (have H2_ := (Option.bind_some _ _).symm.trans H; with_reducible exact H2_) | with_reducible exact H | (rw [hy1161]; exact H) | exact H
                   have Ny1161 := Aside0.mk hy1161
                   clear hy1161
                   simp only [Option.some.injEq, Prod.mk.injEq] at H
                   obtain ⟨rfl, rfl, rfl⟩ := H
                   go_wp2_with (first | ((with_reducible refine gate_callee (f := 160) rfl ?_); refine goesL_ (some 38) rfl rfl Try.func160 (by kernel_rfl) rfl #[.int .i64 a0] rfl (by (try simp only [List.map_toArray, List.map_cons, List.map_nil]); first | done | rfl | (simp only [List.length_drop, List.length_take]; rfl)) ?_; (with_reducible refine (footbridgeref11_Split.calls kj4 a0 t1140 _ A10.out).mono ?_); rintro e w' ⟨rfl, ⟨nd, rfl⟩⟩; refine ⟨_, rfl, ?_⟩; have p1141 : 0 ≤ ((ji11) : Int) := of_decide_eq_true (by first | (with_reducible assumption) | assumption); have q1141 : (ji11) < (l3.length : Int) := of_decide_eq_true (by first | (with_reducible assumption) | assumption); obtain ⟨ad1141, e1141, hx1141_0⟩ := Kd.at_string HR3.out (ji11) p1141 q1141; cases e1141; replace hx1141_0 := (HB.out.cell (World.block_lt_of_cell? w _ hx1141_0)).trans hx1141_0; replace p1141 := eq_true p1141; replace q1141 := eq_true q1141; obtain ⟨i031, hi031, _, hsz31, _⟩ := info_parts info9; obtain ⟨hcut31, hA31, hC31⟩ := print_take_of (P := Try.prog) Value.string (⟨#[]⟩ : ByteArray) 63 9 .i64 Try.underlying63 hi031 hsz31 (some ad1141) c3 l3 (ji11) (of_decide_eq_true (by first | (with_reducible assumption) | assumption)) (of_decide_eq_true (by first | (with_reducible assumption) | assumption)) HC3.out; have HR1153 := Aside0.mk (Kd.C_of_reads (h1 := fun _ => rfl) (hA31 _ (Kd.reads_of_C HR3.out))); have HC1153 := Aside0.mk hC31; clear hA31 hC31 hi031 hsz31) | ((with_reducible refine gate_callee (f := 162) rfl ?_); refine goesL_ (some 84) rfl rfl Try.func162 (by kernel_rfl) rfl #[.int .i64 (wrap64 (a0 - t1140)), .int .i64 (wrap64 (a1 - t1140)), .string a2, .slice (some ad1141) (l3.take ((ji11) : Int).toNat).length c3] rfl (by (try simp only [List.map_toArray, List.map_cons, List.map_nil]); first | done | (rw [show (l3.take ((ji11) : Int).toNat).length = (ji11).toNat from (by rw [List.length_take]; have h_ : ((ji11) : Int) ≤ (l3.length : Int) := of_decide_eq_true (by first | (with_reducible assumption) | assumption); omega)] <;> rfl) | (simp only [hji11]; rfl) | rfl | (simp only [List.length_drop, List.length_take]; rfl)) ?_; (with_reducible refine (ih kj4 (by have := HJ4.out; omega) (wrap64 (a0 - t1140)) (wrap64 (a1 - t1140)) a2 _ _ (l3.take ((ji11) : Int).toNat) t1154 t1155 t1156 _ ?side1 ?side2 A27.out).mono ?_); (case side1 => repeat (first | exact (Kd.C_below HR1153.out (by repeat (first | (with_reducible first | exact HB.out | apply pbA | apply pbN | apply pbD) | exact HB.out))) | (with_reducible refine Kd.C_alloc ?_ _) | (with_reducible refine Kd.C_drewN ?_ _) | (with_reducible refine Kd.C_drew ?_))); (case side2 => exact HC1153.out); rintro e w32 ⟨v1157, rfl, ho0, hb⟩; refine ⟨_, rfl, ?_⟩; have n0_ := Aside0.mk (Kd.R_lower ho0 (below_size (by repeat (first | (with_reducible first | exact HB.out | apply pbA | apply pbN | apply pbD) | exact HB.out)))); have n1_ := Aside0.mk (below_step (by repeat (first | (with_reducible first | exact HB.out | apply pbA | apply pbN | apply pbD) | exact HB.out)) hb); clear HB; have HO1158 := n0_; have HB := n1_; clear n0_ n1_; (try clear hb); (try clear hb2); (try clear hk); (try clear hi); (try clear ho0)) | ((with_reducible refine gate_callee (f := 164) rfl ?_); refine goesL_ (some 90) rfl rfl Try.func164 (by kernel_rfl) rfl #[.string (rdOf ByteArray.empty l3 (ji11)), .string t1154] rfl (by (try simp only [List.map_toArray, List.map_cons, List.map_nil]); first | done | (simp only [hji11]; rfl) | rfl | (simp only [List.length_drop, List.length_take]; rfl)) ?_; (with_reducible refine (footbridgeref11_NodeText.calls (rdOf ByteArray.empty l3 (ji11)) t1154 t1159 _ A28.out).mono ?_); rintro e w' ⟨rfl, ⟨nd, rfl⟩⟩; refine ⟨_, rfl, ?_⟩) | ((with_reducible refine gate_callee (f := 79) rfl ?_); refine goesL_ (some 92) rfl rfl Try.func79 (by kernel_rfl) rfl #[.string t1159] rfl (by (try simp only [List.map_toArray, List.map_cons, List.map_nil]); first | done | rfl | (simp only [List.length_drop, List.length_take]; rfl)) ?_; (with_reducible refine (footbridgeref04_Sum.calls t1159 t1160 _ A29.out).mono ?_); rintro e w33 ⟨rfl, hb⟩; refine ⟨_, rfl, ?_⟩; have n0_ := Aside0.mk (Kd.R_below (by (with_reducible repeat (first | apply Kd.R_alloc | apply Kd.R_drewN | apply Kd.R_drew)); exact HO1158.out) hb); have n1_ := Aside0.mk (below_step (by repeat (first | (with_reducible first | exact HB.out | apply pbA | apply pbN | apply pbD) | exact HB.out)) hb); clear HO1158; clear HB; have HO1158 := n0_; have HB := n1_; clear n0_ n1_; (try clear hb); (try clear hb2); (try clear hk); (try clear hi)) | ((with_reducible refine gate_builtin (b := .append) (xs := #[.tmp 93, .tmp 95]) rfl ?_); at_builtin; refine Kd.R_append Kd.string (w0 := w) w.heap.size rfl (.tmp 93) (.tmp 95) 63 9 (.string ⟨#[]⟩) 16 rfl Try.underlying63 info9 rfl (by decide) (by omega) v1157 t1155 t1159 [.string t1159] (fun _ => True) (fun _ => False) rfl rfl ?aP (fun _ hk => hk.elim) ?aF ?aO ?aB ?aS ?aL ?_; (case aP => exact rfl); (case aB => exact (by repeat (first | (with_reducible first | exact HB.out | apply pbA | apply pbN | apply pbD) | exact HB.out))); (case aF => exact (fun _ _ => trivial)); (case aO => exact (by (with_reducible repeat (first | apply Kd.R_alloc | apply Kd.R_drewN | apply Kd.R_drew)); exact HO1158.out)); (case aS => exact (below_size (by repeat (first | (with_reducible first | exact HB.out | apply pbA | apply pbN | apply pbD) | exact HB.out)))); (case aL => have := LMc30.out; omega); intro v1162 w34 ho hb hg hat; rw [← Ny1161.out] at ho; have n0_ := Aside0.mk (hb); have n1_ := Aside0.mk (ho); clear HB; clear HO1158; have HB := n0_; have HO1163 := n1_; clear n0_ n1_; clear ho hb hg hat))
                   go_ret3
                   exact ⟨_, by first | rfl | (simp [errW_none, errW_some] <;> rfl) | (simp only [← hji11]; first | rfl | (simp [errW_none, errW_some] <;> rfl)) | (simp [*, errW_none, errW_some] <;> rfl), by (with_reducible repeat (first | apply Kd.R_alloc | apply Kd.R_drewN | apply Kd.R_drew)); exact HO1163.out, by repeat (first | (with_reducible first | exact HB.out | apply pbA | apply pbN | apply pbD) | exact HB.out)⟩
                 · rw [if_neg c30] at H
                   exact absurd H (by simp)
               · rw [if_neg c26] at H
                 exact absurd H (by simp)
           · rw [if_neg c13] at H
             exact absurd H (by simp)
         · rw [if_neg c12] at H
           exact absurd H (by simp)
def footbridgeref12_leads.f (k : Nat) (a0 : ByteArray) (a1_0 : ByteArray) (a1_1 : ByteArray) (a2 : Int) (a3 : Int) (l4 : List ByteArray) : Option (Bool × List ByteArray) := (footbridgeref11_LeafText.f k a1_0 a1_1).bind fun t1165 => ((footbridgeref04_Sum.f t1165).bind fun t1166 => ((footbridgeref12_Walk.f k a2 a3 t1166 l4).bind fun bt1167 => (if bt1167.2.2 = true then ((footbridgeref11_TopText.f k a2 bt1167.1).bind fun t1172 => ((some (([t1165] : List ByteArray) : List ByteArray)).bind fun y1173 => (if y1173.length + bt1167.2.1.length < 8796093022208 then ((some (y1173 ++ bt1167.2.1 : List ByteArray)).bind fun y1176 => (if y1176.length < 8796093022208 then ((footbridgeref04_Sum.f t1172).bind fun t1182 => (some ((t1182.toList == a0.toList), (y1176 ++ [t1172])))) else (none))) else (none)))) else (some (false, ([] : List ByteArray))))))
set_option maxHeartbeats 8000000 in
set_option maxRecDepth 100000 in
theorem footbridgeref12_leads.calls (k : Nat) (a0 : ByteArray) (a1_0 : ByteArray) (a1_1 : ByteArray) (a2 : Int) (a3 : Int) (A4 : Option Addr) (c4 : Nat) (l4 : List ByteArray) (r1 : Bool) (r2 : List ByteArray) (w : World) (hr4 : Kd.C Kd.string w A4 l4.length l4) (hc4 : l4.length ≤ c4) (h : footbridgeref12_leads.f k a0 a1_0 a1_1 a2 a3 l4 = some (r1, r2)) :
  Calls Try.prog 125 #[.string a0, .agg #[.string a1_0, .string a1_1], .int .i64 a2, .int .i64 a3, .slice A4 l4.length c4] w fun e w' => ∃ v1_ : Value, e = .returned (.tuple #[.bool r1, v1_]) ∧ Kd.R Kd.string 9 w' w.heap.size (fun _ => True) v1_ r2 ∧ Below w.heap.size w w' := by
 have hu86 := Try.underlying86
 have HR4 := Aside0.mk hr4
 have HC4 := Aside0.mk hc4
 clear hr4 hc4
 have HB := Aside0.mk (Below.refl w.heap.size w)
 have H : ((footbridgeref11_LeafText.f k a1_0 a1_1).bind fun t1165 => ((footbridgeref04_Sum.f t1165).bind fun t1166 => ((footbridgeref12_Walk.f k a2 a3 t1166 l4).bind fun bt1167 => (if bt1167.2.2 = true then ((footbridgeref11_TopText.f k a2 bt1167.1).bind fun t1172 => ((some (([t1165] : List ByteArray) : List ByteArray)).bind fun y1173 => (if y1173.length + bt1167.2.1.length < 8796093022208 then ((some (y1173 ++ bt1167.2.1 : List ByteArray)).bind fun y1176 => (if y1176.length < 8796093022208 then ((footbridgeref04_Sum.f t1172).bind fun t1182 => (some ((t1182.toList == a0.toList), (y1176 ++ [t1172])))) else (none))) else (none)))) else (some (false, ([] : List ByteArray))))))) = some (r1, r2) := h
 clear h
 replace H := Option.bind_eq_some_iff.mp H
 obtain ⟨t1165, A60, H⟩ := H
 replace H : ((footbridgeref04_Sum.f t1165).bind fun t1166 => ((footbridgeref12_Walk.f k a2 a3 t1166 l4).bind fun bt1167 => (if bt1167.2.2 = true then ((footbridgeref11_TopText.f k a2 bt1167.1).bind fun t1172 => ((some (([t1165] : List ByteArray) : List ByteArray)).bind fun y1173 => (if y1173.length + bt1167.2.1.length < 8796093022208 then ((some (y1173 ++ bt1167.2.1 : List ByteArray)).bind fun y1176 => (if y1176.length < 8796093022208 then ((footbridgeref04_Sum.f t1172).bind fun t1182 => (some ((t1182.toList == a0.toList), (y1176 ++ [t1172])))) else (none))) else (none)))) else (some (false, ([] : List ByteArray)))))) = some (r1, r2) := H
 have A6 := Aside0.mk A60
 clear A60
 replace H := Option.bind_eq_some_iff.mp H
 obtain ⟨t1166, A70, H⟩ := H
 replace H : ((footbridgeref12_Walk.f k a2 a3 t1166 l4).bind fun bt1167 => (if bt1167.2.2 = true then ((footbridgeref11_TopText.f k a2 bt1167.1).bind fun t1172 => ((some (([t1165] : List ByteArray) : List ByteArray)).bind fun y1173 => (if y1173.length + bt1167.2.1.length < 8796093022208 then ((some (y1173 ++ bt1167.2.1 : List ByteArray)).bind fun y1176 => (if y1176.length < 8796093022208 then ((footbridgeref04_Sum.f t1172).bind fun t1182 => (some ((t1182.toList == a0.toList), (y1176 ++ [t1172])))) else (none))) else (none)))) else (some (false, ([] : List ByteArray))))) = some (r1, r2) := H
 have A7 := Aside0.mk A70
 clear A70
 replace H := Option.bind_eq_some_iff.mp H
 obtain ⟨⟨t1167, t1168, t1169⟩, A80, H⟩ := H
 replace H : (if t1169 = true then ((footbridgeref11_TopText.f k a2 t1167).bind fun t1172 => ((some (([t1165] : List ByteArray) : List ByteArray)).bind fun y1173 => (if y1173.length + t1168.length < 8796093022208 then ((some (y1173 ++ t1168 : List ByteArray)).bind fun y1176 => (if y1176.length < 8796093022208 then ((footbridgeref04_Sum.f t1172).bind fun t1182 => (some ((t1182.toList == a0.toList), (y1176 ++ [t1172])))) else (none))) else (none)))) else (some (false, ([] : List ByteArray)))) = some (r1, r2) := H
 have A8 := Aside0.mk A80
 clear A80
 by_cases c9 : t1169 = true
 · subst c9
   have H1 : ((footbridgeref11_TopText.f k a2 t1167).bind fun t1172 => ((some (([t1165] : List ByteArray) : List ByteArray)).bind fun y1173 => (if y1173.length + t1168.length < 8796093022208 then ((some (y1173 ++ t1168 : List ByteArray)).bind fun y1176 => (if y1176.length < 8796093022208 then ((footbridgeref04_Sum.f t1172).bind fun t1182 => (some ((t1182.toList == a0.toList), (y1176 ++ [t1172])))) else (none))) else (none)))) = some (r1, r2) := by rw [if_pos rfl] at H; exact H
   clear H
   have H := H1
   clear H1
   replace H := Option.bind_eq_some_iff.mp H
   obtain ⟨t1172, A100, H⟩ := H
   replace H : ((some (([t1165] : List ByteArray) : List ByteArray)).bind fun y1173 => (if y1173.length + t1168.length < 8796093022208 then ((some (y1173 ++ t1168 : List ByteArray)).bind fun y1176 => (if y1176.length < 8796093022208 then ((footbridgeref04_Sum.f t1172).bind fun t1182 => (some ((t1182.toList == a0.toList), (y1176 ++ [t1172])))) else (none))) else (none))) = some (r1, r2) := H
   have A10 := Aside0.mk A100
   clear A100
   obtain ⟨y1173, hy1173⟩ : ∃ y_ : List ByteArray, y_ = (([t1165] : List ByteArray)) := ⟨_, rfl⟩
   replace H : (if y1173.length + t1168.length < 8796093022208 then ((some (y1173 ++ t1168 : List ByteArray)).bind fun y1176 => (if y1176.length < 8796093022208 then ((footbridgeref04_Sum.f t1172).bind fun t1182 => (some ((t1182.toList == a0.toList), (y1176 ++ [t1172])))) else (none))) else (none)) = some (r1, r2) := by first | (rw [hy1173]; with_reducible exact H) | (have H2_ := (Option.bind_some _ _).symm.trans H; rw [hy1173]; with_reducible exact H2_) | (have H2_ := (Option.bind_some _ _).symm.trans H; with_reducible exact H2_) | with_reducible exact H | (rw [hy1173]; exact H) | exact H
   have Ny1173 := Aside0.mk hy1173
   clear hy1173
   by_cases c11 : y1173.length + t1168.length < 8796093022208
   · rw [if_pos c11] at H
     have LMc11 := Aside0.mk c11
     clear c11
     obtain ⟨y1176, hy1176⟩ : ∃ y_ : List ByteArray, y_ = (y1173 ++ t1168) := ⟨_, rfl⟩
     replace H : (if y1176.length < 8796093022208 then ((footbridgeref04_Sum.f t1172).bind fun t1182 => (some ((t1182.toList == a0.toList), (y1176 ++ [t1172])))) else (none)) = some (r1, r2) := by first | (rw [hy1176]; with_reducible exact H) | (have H2_ := (Option.bind_some _ _).symm.trans H; rw [hy1176]; with_reducible exact H2_) | (have H2_ := (Option.bind_some _ _).symm.trans H; with_reducible exact H2_) | with_reducible exact H | (rw [hy1176]; exact H) | exact H
     have Ny1176 := Aside0.mk hy1176
     clear hy1176
     by_cases c12 : y1176.length < 8796093022208
     · rw [if_pos c12] at H
       have LMc12 := Aside0.mk c12
       clear c12
       obtain ⟨y1179, hy1179⟩ : ∃ y_ : List ByteArray, y_ = (y1176 ++ [t1172]) := ⟨_, rfl⟩
       replace H : ((footbridgeref04_Sum.f t1172).bind fun t1182 => (some ((t1182.toList == a0.toList), y1179))) = some (r1, r2) := by first | (rw [hy1179]; with_reducible exact H) | (have H2_ := (Option.bind_some _ _).symm.trans H; rw [hy1179]; with_reducible exact H2_) | (have H2_ := (Option.bind_some _ _).symm.trans H; with_reducible exact H2_) | with_reducible exact H | (rw [hy1179]; exact H) | exact H
       have Ny1179 := Aside0.mk hy1179
       clear hy1179
       replace H := Option.bind_eq_some_iff.mp H
       obtain ⟨t1182, A130, H⟩ := H
       replace H : (some ((t1182.toList == a0.toList), y1179)) = some (r1, r2) := H
       have A13 := Aside0.mk A130
       clear A130
       simp only [Option.some.injEq, Prod.mk.injEq] at H
       obtain ⟨rfl, rfl⟩ := H
       go_enter Try.func125, Try.ntmps125
       go_wp2_with (first | ((with_reducible refine gate_dst (N := 6) rfl ?_); refine box_event ?hg (N := 6) ?hd (cs := #[.string a1_0, .string a1_1]) (t := 86) ?hr ?_; (case hd => rfl); (case hg => rfl); (case hr => first | (go_simp; done) | (go_simp; rfl)); intro gb1164 hg w14 hbox hb; have n0_ := Aside0.mk (below_step (by repeat (first | (with_reducible first | exact HB.out | apply pbA | apply pbN | apply pbD) | exact HB.out)) hb); have n1_ := Aside0.mk (hbox); have n2_ := Aside0.mk ((by rw [hg]; exact (below_size (by repeat (first | (with_reducible first | exact HB.out | apply pbA | apply pbN | apply pbD) | exact HB.out))) : w.heap.size ≤ gb1164)); have n3_ := Aside0.mk ((by rw [hg]; exact (below_size (by repeat (first | (with_reducible first | exact HB.out | apply pbA | apply pbN | apply pbD) | exact HB.out))) : w.heap.size ≤ gb1164)); clear HB; have HB := n0_; have BK1164 := n1_; have GW1164 := n2_; have GE1164 := n3_; clear n0_ n1_ n2_ n3_; clear hb hbox hg; have hcz15_0 : w14.cell? ⟨gb1164, 0, none⟩ = some (.string a1_0) := (pkC BK1164.out 0).trans rfl; have hcz15_1 : w14.cell? ⟨gb1164, 1, none⟩ = some (.string a1_1) := (pkC BK1164.out 1).trans rfl; have hfz15_0 := pkF BK1164.out 0; have hfz15_1 := pkF BK1164.out 1) | ((with_reducible refine gate_callee (f := 161) rfl ?_); refine goesL_ (some 19) rfl rfl Try.func161 (by kernel_rfl) rfl #[.agg #[.string a1_0, .string a1_1]] rfl (by (try simp only [List.map_toArray, List.map_cons, List.map_nil]); first | done | rfl | (simp only [List.length_drop, List.length_take]; rfl)) ?_; (with_reducible refine (footbridgeref11_LeafText.calls k a1_0 a1_1 t1165 _ A6.out).mono ?_); rintro e w16 ⟨rfl, hb⟩; refine ⟨_, rfl, ?_⟩; have n0_ := Aside0.mk (blk_below (g := gb1164) (o := .cells #[.string a1_0, .string a1_1] 86 (0, 0)) (by (with_reducible repeat (first | refine pkN ?_ _ | refine pkD ?_ | refine pkA ?_ _)); exact BK1164.out) hb); have n1_ := Aside0.mk (below_step (by repeat (first | (with_reducible first | exact HB.out | apply pbA | apply pbN | apply pbD | refine pbS ?_ GE1164.out) | exact HB.out)) hb); clear BK1164; clear HB; have BK1164 := n0_; have HB := n1_; clear n0_ n1_; (try clear hb); (try clear hb2); (try clear hk); (try clear hi)) | ((with_reducible refine gate_callee (f := 79) rfl ?_); refine goesL_ (some 24) rfl rfl Try.func79 (by kernel_rfl) rfl #[.string t1165] rfl (by (try simp only [List.map_toArray, List.map_cons, List.map_nil]); first | done | rfl | (simp only [List.length_drop, List.length_take]; rfl)) ?_; (with_reducible refine (footbridgeref04_Sum.calls t1165 t1166 _ A7.out).mono ?_); rintro e w17 ⟨rfl, hb⟩; refine ⟨_, rfl, ?_⟩; have n0_ := Aside0.mk (blk_below (g := gb1164) (o := .cells #[.string a1_0, .string a1_1] 86 (0, 0)) (by (with_reducible repeat (first | refine pkN ?_ _ | refine pkD ?_ | refine pkA ?_ _)); exact BK1164.out) hb); have n1_ := Aside0.mk (below_step (by repeat (first | (with_reducible first | exact HB.out | apply pbA | apply pbN | apply pbD | refine pbS ?_ GE1164.out) | exact HB.out)) hb); clear BK1164; clear HB; have BK1164 := n0_; have HB := n1_; clear n0_ n1_; (try clear hb); (try clear hb2); (try clear hk); (try clear hi)) | ((with_reducible refine gate_callee (f := 162) rfl ?_); refine goesL_ (some 26) rfl rfl Try.func162 (by kernel_rfl) rfl #[.int .i64 a2, .int .i64 a3, .string t1166, .slice A4 l4.length c4] rfl (by (try simp only [List.map_toArray, List.map_cons, List.map_nil]); first | done | rfl | (simp only [List.length_drop, List.length_take]; rfl)) ?_; (with_reducible refine (footbridgeref12_Walk.calls k a2 a3 t1166 _ _ l4 t1167 t1168 true _ ?side1 ?side2 A8.out).mono ?_); (case side1 => repeat (first | exact (Kd.C_below HR4.out HB.out) | (with_reducible refine Kd.C_alloc ?_ _) | (with_reducible refine Kd.C_drewN ?_ _) | (with_reducible refine Kd.C_drew ?_))); (case side2 => exact HC4.out); rintro e w18 ⟨v1170, rfl, ho0, hb⟩; refine ⟨_, rfl, ?_⟩; have n0_ := Aside0.mk (Kd.R_lower ho0 (below_size (by repeat (first | (with_reducible first | exact HB.out | apply pbA | apply pbN | apply pbD | refine pbS ?_ GE1164.out) | exact HB.out)))); have n1_ := Aside0.mk (blk_below (g := gb1164) (o := .cells #[.string a1_0, .string a1_1] 86 (0, 0)) (by (with_reducible repeat (first | refine pkN ?_ _ | refine pkD ?_ | refine pkA ?_ _)); exact BK1164.out) hb); have n2_ := Aside0.mk (below_step (by repeat (first | (with_reducible first | exact HB.out | apply pbA | apply pbN | apply pbD | refine pbS ?_ GE1164.out) | exact HB.out)) hb); clear BK1164; clear HB; have HO1171 := n0_; have BK1164 := n1_; have HB := n2_; clear n0_ n1_ n2_; (try clear hb); (try clear hb2); (try clear hk); (try clear hi); (try clear ho0)) | ((with_reducible refine gate_callee (f := 127) rfl ?_); refine goesL_ (some 34) rfl rfl Try.func127 (by kernel_rfl) rfl #[.int .i64 a2, .string t1167] rfl (by (try simp only [List.map_toArray, List.map_cons, List.map_nil]); first | done | rfl | (simp only [List.length_drop, List.length_take]; rfl)) ?_; (with_reducible refine (footbridgeref11_TopText.calls k a2 t1167 t1172 _ A10.out).mono ?_); rintro e w19 ⟨rfl, hb⟩; refine ⟨_, rfl, ?_⟩; have n0_ := Aside0.mk (Kd.R_below (by (with_reducible repeat (first | apply Kd.R_alloc | apply Kd.R_drewN | apply Kd.R_drew)); exact HO1171.out) hb); have n1_ := Aside0.mk (blk_below (g := gb1164) (o := .cells #[.string a1_0, .string a1_1] 86 (0, 0)) (by (with_reducible repeat (first | refine pkN ?_ _ | refine pkD ?_ | refine pkA ?_ _)); exact BK1164.out) hb); have n2_ := Aside0.mk (below_step (by repeat (first | (with_reducible first | exact HB.out | apply pbA | apply pbN | apply pbD | refine pbS ?_ GE1164.out) | exact HB.out)) hb); clear HO1171; clear BK1164; clear HB; have HO1171 := n0_; have BK1164 := n1_; have HB := n2_; clear n0_ n1_ n2_; (try clear hb); (try clear hb2); (try clear hk); (try clear hi)) | ((with_reducible refine gate_dst (N := 36) rfl ?_); refine Kd.R_lit Kd.string _ 9 ?hg (N := 36) ?hd (xs := ([t1165] : List ByteArray)) (inner := [.string t1165]) (ok := fun _ => True) (okp := fun _ => True) ?hr ?hp (fun _ hk => hk) trivial (Below.refl _ _) (Nat.le_refl _) (by simp) ?_; (case hd => rfl); (case hg => rfl); (case hr => first | (go_simp; done) | (go_simp; rfl)); (case hp => exact (Reps.one (show Kd.M Kd.string _ _ _ t1165 [.string t1165] from rfl) (Reps.none _ _))); intro v1174 w20 ho21 hb hg_ hnew_; clear hg_ hnew_; (first | rw [← Ny1173.out] at ho21 | (simp only [Int.reduceToNat] at ho21; rw [← Ny1173.out] at ho21)); have n0_ := Aside0.mk (Kd.R_elder' (by (with_reducible repeat (first | apply Kd.R_alloc | apply Kd.R_drewN | apply Kd.R_drew)); exact HO1171.out) (Kd.R_base ho21) hb); have n1_ := Aside0.mk (Kd.R_lower (Kd.R_new' ho21 (Kd.R_lt (by (with_reducible repeat (first | apply Kd.R_alloc | apply Kd.R_drewN | apply Kd.R_drew)); exact HO1171.out))) (below_size (by repeat (first | (with_reducible first | exact HB.out | apply pbA | apply pbN | apply pbD | refine pbS ?_ GE1164.out) | exact HB.out)))); have n2_ := Aside0.mk (blk_below (g := gb1164) (o := .cells #[.string a1_0, .string a1_1] 86 (0, 0)) (by (with_reducible repeat (first | refine pkN ?_ _ | refine pkD ?_ | refine pkA ?_ _)); exact BK1164.out) hb); have n3_ := Aside0.mk (below_step (by repeat (first | (with_reducible first | exact HB.out | apply pbA | apply pbN | apply pbD | refine pbS ?_ GE1164.out) | exact HB.out)) hb); clear HO1171; clear BK1164; clear HB; have HO1171 := n0_; have HO1175 := n1_; have BK1164 := n2_; have HB := n3_; clear n0_ n1_ n2_ n3_; clear hb ho21; obtain ⟨Ao23, co23, eo23⟩ := Kd.R_slice HO1171.out; subst eo23) | ((with_reducible refine gate_builtin (b := .append) (xs := #[.tmp 36, .tmp 37]) rfl ?_); at_builtin; refine Kd.R_append_rows Kd.string (w0 := w) w.heap.size rfl (.tmp 36) (.tmp 37) 63 9 (.string ⟨#[]⟩) 16 rfl Try.underlying63 info9 rfl (by decide) (by omega) v1174 y1173 t1168 _ _ _ (fun k_ => some k_ ≠ (.slice Ao23 t1168.length co23 : Value).ownBlock) (fun _ => False) rfl rfl ?aO ?aR (fun _ _ h => h) (fun _ h => h.elim) ?aF ?aB ?aS ?aL ?_; (case aR => repeat (first | exact (Kd.R_reads' HO1171.out).2.2 | (with_reducible refine Kd.C_alloc ?_ _) | (with_reducible refine Kd.C_drewN ?_ _) | (with_reducible refine Kd.C_drew ?_))); (case aB => exact (by repeat (first | (with_reducible first | exact HB.out | apply pbA | apply pbN | apply pbD | refine pbS ?_ GE1164.out) | exact HB.out))); (case aF => exact (fun k_ hk => Kd.fresh' (Kd.R_lt (by (with_reducible repeat (first | apply Kd.R_alloc | apply Kd.R_drewN | apply Kd.R_drew)); exact HO1171.out)) k_ hk)); (case aO => exact (by (with_reducible repeat (first | apply Kd.R_alloc | apply Kd.R_drewN | apply Kd.R_drew)); exact Kd.R_mono HO1175.out (fun _ hk => hk.2))); (case aS => exact (below_size (by repeat (first | (with_reducible first | exact HB.out | apply pbA | apply pbN | apply pbD | refine pbS ?_ GE1164.out) | exact HB.out)))); (case aL => have := LMc11.out; omega); intro v1177 w22 ho hb hg hat; rw [← Ny1176.out] at ho; have n0_ := Aside0.mk (blk_grown (g := gb1164) (o := .cells #[.string a1_0, .string a1_1] 86 (0, 0)) (by (with_reducible repeat (first | refine pkN ?_ _ | refine pkD ?_ | refine pkA ?_ _)); exact BK1164.out) hg (Kd.R_ne HO1175.out BK1164.out (by decide))); have n1_ := Aside0.mk (Kd.R_after (ok := (fun _ => True)) (by (with_reducible repeat (first | apply Kd.R_alloc | apply Kd.R_drewN | apply Kd.R_drew)); exact HO1171.out) hg hat); have n2_ := Aside0.mk (hb); have n3_ := Aside0.mk (ho); clear BK1164; clear HO1171; clear HB; clear HO1175; have BK1164 := n0_; have HO1171 := n1_; have HB := n2_; have HO1178 := n3_; clear n0_ n1_ n2_ n3_; clear ho hb hg hat) | ((with_reducible refine gate_builtin (b := .append) (xs := #[.tmp 39, .tmp 41]) rfl ?_); at_builtin; refine Kd.R_append Kd.string (w0 := w) w.heap.size rfl (.tmp 39) (.tmp 41) 63 9 (.string ⟨#[]⟩) 16 rfl Try.underlying63 info9 rfl (by decide) (by omega) v1177 y1176 t1172 [.string t1172] (fun k_ => some k_ ≠ (.slice Ao23 t1168.length co23 : Value).ownBlock) (fun _ => False) rfl rfl ?aP (fun _ hk => hk.elim) ?aF ?aO ?aB ?aS ?aL ?_; (case aP => exact rfl); (case aB => exact (by repeat (first | (with_reducible first | exact HB.out | apply pbA | apply pbN | apply pbD | refine pbS ?_ GE1164.out) | exact HB.out))); (case aF => exact (fun k_ hk => Kd.fresh' (Kd.R_lt (by (with_reducible repeat (first | apply Kd.R_alloc | apply Kd.R_drewN | apply Kd.R_drew)); exact HO1171.out)) k_ hk)); (case aO => exact (by (with_reducible repeat (first | apply Kd.R_alloc | apply Kd.R_drewN | apply Kd.R_drew)); exact HO1178.out)); (case aS => exact (below_size (by repeat (first | (with_reducible first | exact HB.out | apply pbA | apply pbN | apply pbD | refine pbS ?_ GE1164.out) | exact HB.out)))); (case aL => have := LMc12.out; omega); intro v1180 w24 ho hb hg hat; rw [← Ny1179.out] at ho; have n0_ := Aside0.mk (blk_grown (g := gb1164) (o := .cells #[.string a1_0, .string a1_1] 86 (0, 0)) (by (with_reducible repeat (first | refine pkN ?_ _ | refine pkD ?_ | refine pkA ?_ _)); exact BK1164.out) hg (Kd.R_ne HO1178.out BK1164.out (by decide))); have n1_ := Aside0.mk (Kd.R_after (ok := (fun _ => True)) (by (with_reducible repeat (first | apply Kd.R_alloc | apply Kd.R_drewN | apply Kd.R_drew)); exact HO1171.out) hg hat); have n2_ := Aside0.mk (hb); have n3_ := Aside0.mk (ho); clear BK1164; clear HO1171; clear HB; clear HO1178; have BK1164 := n0_; have HO1171 := n1_; have HB := n2_; have HO1181 := n3_; clear n0_ n1_ n2_ n3_; clear ho hb hg hat) | ((with_reducible refine gate_callee (f := 79) rfl ?_); refine goesL_ (some 44) rfl rfl Try.func79 (by kernel_rfl) rfl #[.string t1172] rfl (by (try simp only [List.map_toArray, List.map_cons, List.map_nil]); first | done | rfl | (simp only [List.length_drop, List.length_take]; rfl)) ?_; (with_reducible refine (footbridgeref04_Sum.calls t1172 t1182 _ A13.out).mono ?_); rintro e w25 ⟨rfl, hb⟩; refine ⟨_, rfl, ?_⟩; have n0_ := Aside0.mk (Kd.R_below (by (with_reducible repeat (first | apply Kd.R_alloc | apply Kd.R_drewN | apply Kd.R_drew)); exact HO1171.out) hb); have n1_ := Aside0.mk (Kd.R_below (by (with_reducible repeat (first | apply Kd.R_alloc | apply Kd.R_drewN | apply Kd.R_drew)); exact HO1181.out) hb); have n2_ := Aside0.mk (blk_below (g := gb1164) (o := .cells #[.string a1_0, .string a1_1] 86 (0, 0)) (by (with_reducible repeat (first | refine pkN ?_ _ | refine pkD ?_ | refine pkA ?_ _)); exact BK1164.out) hb); have n3_ := Aside0.mk (below_step (by repeat (first | (with_reducible first | exact HB.out | apply pbA | apply pbN | apply pbD | refine pbS ?_ GE1164.out) | exact HB.out)) hb); clear HO1171; clear HO1181; clear BK1164; clear HB; have HO1171 := n0_; have HO1181 := n1_; have BK1164 := n2_; have HB := n3_; clear n0_ n1_ n2_ n3_; (try clear hb); (try clear hb2); (try clear hk); (try clear hi)))
       go_ret2
       exact ⟨_, by first | rfl | (simp [errW_none, errW_some] <;> rfl) | (simp [*, errW_none, errW_some] <;> rfl), by (with_reducible repeat (first | apply Kd.R_alloc | apply Kd.R_drewN | apply Kd.R_drew)); exact Kd.R_mono HO1181.out (fun _ hk => trivial), by repeat (first | (with_reducible first | exact HB.out | apply pbA | apply pbN | apply pbD | refine pbS ?_ GE1164.out) | exact HB.out)⟩
     · rw [if_neg c12] at H
       exact absurd H (by simp)
   · rw [if_neg c11] at H
     exact absurd H (by simp)
 · replace c9 := Bool.eq_false_iff.mpr c9
   subst c9
   have H1 : (some (false, ([] : List ByteArray))) = some (r1, r2) := by rw [if_neg (show ¬ (false = true) by decide)] at H; exact H
   clear H
   have H := H1
   clear H1
   simp only [Option.some.injEq, Prod.mk.injEq] at H
   obtain ⟨rfl, rfl⟩ := H
   go_enter Try.func125, Try.ntmps125
   go_wp2_with (first | ((with_reducible refine gate_dst (N := 6) rfl ?_); refine box_event ?hg (N := 6) ?hd (cs := #[.string a1_0, .string a1_1]) (t := 86) ?hr ?_; (case hd => rfl); (case hg => rfl); (case hr => first | (go_simp; done) | (go_simp; rfl)); intro gb1164 hg w26 hbox hb; have n0_ := Aside0.mk (below_step (by repeat (first | (with_reducible first | exact HB.out | apply pbA | apply pbN | apply pbD) | exact HB.out)) hb); have n1_ := Aside0.mk (hbox); have n2_ := Aside0.mk ((by rw [hg]; exact (below_size (by repeat (first | (with_reducible first | exact HB.out | apply pbA | apply pbN | apply pbD) | exact HB.out))) : w.heap.size ≤ gb1164)); have n3_ := Aside0.mk ((by rw [hg]; exact (below_size (by repeat (first | (with_reducible first | exact HB.out | apply pbA | apply pbN | apply pbD) | exact HB.out))) : w.heap.size ≤ gb1164)); clear HB; have HB := n0_; have BK1164 := n1_; have GW1164 := n2_; have GE1164 := n3_; clear n0_ n1_ n2_ n3_; clear hb hbox hg; have hcz27_0 : w26.cell? ⟨gb1164, 0, none⟩ = some (.string a1_0) := (pkC BK1164.out 0).trans rfl; have hcz27_1 : w26.cell? ⟨gb1164, 1, none⟩ = some (.string a1_1) := (pkC BK1164.out 1).trans rfl; have hfz27_0 := pkF BK1164.out 0; have hfz27_1 := pkF BK1164.out 1) | ((with_reducible refine gate_callee (f := 161) rfl ?_); refine goesL_ (some 19) rfl rfl Try.func161 (by kernel_rfl) rfl #[.agg #[.string a1_0, .string a1_1]] rfl (by (try simp only [List.map_toArray, List.map_cons, List.map_nil]); first | done | rfl | (simp only [List.length_drop, List.length_take]; rfl)) ?_; (with_reducible refine (footbridgeref11_LeafText.calls k a1_0 a1_1 t1165 _ A6.out).mono ?_); rintro e w28 ⟨rfl, hb⟩; refine ⟨_, rfl, ?_⟩; have n0_ := Aside0.mk (blk_below (g := gb1164) (o := .cells #[.string a1_0, .string a1_1] 86 (0, 0)) (by (with_reducible repeat (first | refine pkN ?_ _ | refine pkD ?_ | refine pkA ?_ _)); exact BK1164.out) hb); have n1_ := Aside0.mk (below_step (by repeat (first | (with_reducible first | exact HB.out | apply pbA | apply pbN | apply pbD | refine pbS ?_ GE1164.out) | exact HB.out)) hb); clear BK1164; clear HB; have BK1164 := n0_; have HB := n1_; clear n0_ n1_; (try clear hb); (try clear hb2); (try clear hk); (try clear hi)) | ((with_reducible refine gate_callee (f := 79) rfl ?_); refine goesL_ (some 24) rfl rfl Try.func79 (by kernel_rfl) rfl #[.string t1165] rfl (by (try simp only [List.map_toArray, List.map_cons, List.map_nil]); first | done | rfl | (simp only [List.length_drop, List.length_take]; rfl)) ?_; (with_reducible refine (footbridgeref04_Sum.calls t1165 t1166 _ A7.out).mono ?_); rintro e w29 ⟨rfl, hb⟩; refine ⟨_, rfl, ?_⟩; have n0_ := Aside0.mk (blk_below (g := gb1164) (o := .cells #[.string a1_0, .string a1_1] 86 (0, 0)) (by (with_reducible repeat (first | refine pkN ?_ _ | refine pkD ?_ | refine pkA ?_ _)); exact BK1164.out) hb); have n1_ := Aside0.mk (below_step (by repeat (first | (with_reducible first | exact HB.out | apply pbA | apply pbN | apply pbD | refine pbS ?_ GE1164.out) | exact HB.out)) hb); clear BK1164; clear HB; have BK1164 := n0_; have HB := n1_; clear n0_ n1_; (try clear hb); (try clear hb2); (try clear hk); (try clear hi)) | ((with_reducible refine gate_callee (f := 162) rfl ?_); refine goesL_ (some 26) rfl rfl Try.func162 (by kernel_rfl) rfl #[.int .i64 a2, .int .i64 a3, .string t1166, .slice A4 l4.length c4] rfl (by (try simp only [List.map_toArray, List.map_cons, List.map_nil]); first | done | rfl | (simp only [List.length_drop, List.length_take]; rfl)) ?_; (with_reducible refine (footbridgeref12_Walk.calls k a2 a3 t1166 _ _ l4 t1167 t1168 false _ ?side1 ?side2 A8.out).mono ?_); (case side1 => repeat (first | exact (Kd.C_below HR4.out HB.out) | (with_reducible refine Kd.C_alloc ?_ _) | (with_reducible refine Kd.C_drewN ?_ _) | (with_reducible refine Kd.C_drew ?_))); (case side2 => exact HC4.out); rintro e w30 ⟨v1170, rfl, ho0, hb⟩; refine ⟨_, rfl, ?_⟩; have n0_ := Aside0.mk (Kd.R_lower ho0 (below_size (by repeat (first | (with_reducible first | exact HB.out | apply pbA | apply pbN | apply pbD | refine pbS ?_ GE1164.out) | exact HB.out)))); have n1_ := Aside0.mk (blk_below (g := gb1164) (o := .cells #[.string a1_0, .string a1_1] 86 (0, 0)) (by (with_reducible repeat (first | refine pkN ?_ _ | refine pkD ?_ | refine pkA ?_ _)); exact BK1164.out) hb); have n2_ := Aside0.mk (below_step (by repeat (first | (with_reducible first | exact HB.out | apply pbA | apply pbN | apply pbD | refine pbS ?_ GE1164.out) | exact HB.out)) hb); clear BK1164; clear HB; have HO1171 := n0_; have BK1164 := n1_; have HB := n2_; clear n0_ n1_ n2_; (try clear hb); (try clear hb2); (try clear hk); (try clear hi); (try clear ho0)))
   go_ret2
   exact ⟨_, by first | rfl | (simp [errW_none, errW_some] <;> rfl) | (simp [*, errW_none, errW_some] <;> rfl), by first | exact Kd.R_nil _ _ _ _ _ | exact Kd.N_nil _ _ _ _ _ | exact Kd.V_nil _ _ _ _ _ | exact Kd.Q_nil _ _ _ _ _ | exact Kd.S_nil _ _ _ _ _, by repeat (first | (with_reducible first | exact HB.out | apply pbA | apply pbN | apply pbD | refine pbS ?_ GE1164.out) | exact HB.out)⟩
def footbridgeref12_Has.f (k : Nat) (a0 : ByteArray) (a1_0 : ByteArray) (a1_1 : ByteArray) (a2_0 : Int) (a2_1 : Int) (a2_2 : Bool) (l2_3 : List (S86)) (l2_4 : List (List ByteArray)) : Option (Bool × List ByteArray) := if a2_2 = true then (if (l2_3.length : Int) = 0 then (if (l2_4.length : Int) = 1 then (if 0 < (l2_4.length : Int) then ((footbridgeref12_leads.f k a0 a1_0 a1_1 a2_0 a2_1 (rd_L10 l2_4 0)).bind fun bt1186 => (some (bt1186.1, bt1186.2))) else (none)) else (some (false, ([] : List ByteArray)))) else (some (false, ([] : List ByteArray)))) else (some (false, ([] : List ByteArray)))
def footbridgeref12_Has.T3 : Bool × List (List Nat × List Nat) := (true, [([], []), ([], []), ([], []), ([2], [2]), ([], []), ([4], [4]), ([], []), ([6], [6]), ([7], [7]), ([8], [8]), ([0, 1, 3, 5, 9], [0, 1, 3, 5, 9]), ([10], [10]), ([10], [10]), ([11, 10, 0, 1, 2, 3, 4, 5, 6, 7, 8, 9, 10, 11, 12], [11]), ([12, 13, 0, 1, 2, 3, 4, 5, 6, 7, 8, 9, 10, 11, 12, 13], [12])])
def footbridgeref12_Has.B3 : List Nat := [0, 0, 0, 4, 0, 16, 0, 64, 192, 448, 1023, 2047, 2047, 8191, 16383]
theorem footbridgeref12_Has.tab3 : rtab .any (opsOf Try.f56 3) = footbridgeref12_Has.T3 := by kernel_rfl
theorem footbridgeref12_Has.bits3 : waitsOk footbridgeref12_Has.T3.2 footbridgeref12_Has.B3 = true := by kernel_rfl
set_option maxHeartbeats 8000000 in
set_option maxRecDepth 100000 in
theorem footbridgeref12_Has.calls (k : Nat) (a0 : ByteArray) (a1_0 : ByteArray) (a1_1 : ByteArray) (a2_0 : Int) (a2_1 : Int) (a2_2 : Bool) (A2_3 : Option Addr) (c2_3 : Nat) (l2_3 : List (S86)) (A2_4 : Option Addr) (c2_4 : Nat) (l2_4 : List (List ByteArray)) (r1 : Bool) (r2 : List ByteArray) (w : World) (hr2_3 : Kd.C k86 w A2_3 l2_3.length l2_3) (hc2_3 : l2_3.length ≤ c2_3) (hr2_4 : Kd.C (Kd.slice 9 Kd.string) w A2_4 l2_4.length l2_4) (hc2_4 : l2_4.length ≤ c2_4) (h : footbridgeref12_Has.f k a0 a1_0 a1_1 a2_0 a2_1 a2_2 l2_3 l2_4 = some (r1, r2)) :
  Calls Try.prog 56 #[.string a0, .agg #[.string a1_0, .string a1_1], .agg #[.int .i64 a2_0, .int .i64 a2_1, .bool a2_2, .slice A2_3 l2_3.length c2_3, .slice A2_4 l2_4.length c2_4]] w fun e w' => ∃ v1_ : Value, e = .returned (.tuple #[.bool r1, v1_]) ∧ Kd.R Kd.string 9 w' w.heap.size (fun _ => True) v1_ r2 ∧ Below w.heap.size w w' := by
 have hu86 := Try.underlying86
 have hu82 := Try.underlying82
 have HR2_3 := Aside0.mk hr2_3
 have HC2_3 := Aside0.mk hc2_3
 clear hr2_3 hc2_3
 have HR2_4 := Aside0.mk hr2_4
 have HC2_4 := Aside0.mk hc2_4
 clear hr2_4 hc2_4
 have HB := Aside0.mk (Below.refl w.heap.size w)
 have H : (if a2_2 = true then (if (l2_3.length : Int) = 0 then (if (l2_4.length : Int) = 1 then (if 0 < (l2_4.length : Int) then ((footbridgeref12_leads.f k a0 a1_0 a1_1 a2_0 a2_1 (rd_L10 l2_4 0)).bind fun bt1186 => (some (bt1186.1, bt1186.2))) else (none)) else (some (false, ([] : List ByteArray)))) else (some (false, ([] : List ByteArray)))) else (some (false, ([] : List ByteArray)))) = some (r1, r2) := h
 clear h
 by_cases c4 : a2_2 = true
 · subst c4
   have H1 : (if (l2_3.length : Int) = 0 then (if (l2_4.length : Int) = 1 then (if 0 < (l2_4.length : Int) then ((footbridgeref12_leads.f k a0 a1_0 a1_1 a2_0 a2_1 (rd_L10 l2_4 0)).bind fun bt1186 => (some (bt1186.1, bt1186.2))) else (none)) else (some (false, ([] : List ByteArray)))) else (some (false, ([] : List ByteArray)))) = some (r1, r2) := by rw [if_pos rfl] at H; exact H
   clear H
   have H := H1
   clear H1
   by_cases c5 : (l2_3.length : Int) = 0
   · rw [if_pos c5] at H
     have c5b0 : ((l2_3.length : Int) == 0) = true := beq_iff_eq.mpr c5
     have c5b1 : ((l2_3.length : Int) != 0) = false := bne_eq_false_iff_eq.mpr c5
     clear c5
     by_cases c6 : (l2_4.length : Int) = 1
     · rw [if_pos c6] at H
       have c6b0 : ((l2_4.length : Int) == 1) = true := beq_iff_eq.mpr c6
       have c6b1 : ((l2_4.length : Int) != 1) = false := bne_eq_false_iff_eq.mpr c6
       clear c6
       by_cases c7 : 0 < (l2_4.length : Int)
       · rw [if_pos c7] at H
         have c7b0 : decide (0 < (l2_4.length : Int)) = true := decide_eq_true c7
         have c7b1 : decide (0 < l2_4.length) = true := decide_eq_true (by omega)
         clear c7
         replace H := Option.bind_eq_some_iff.mp H
         obtain ⟨⟨t1186, t1187⟩, A80, H⟩ := H
         replace H : (some (t1186, t1187)) = some (r1, r2) := H
         have A8 := Aside0.mk A80
         clear A80
         simp only [Option.some.injEq, Prod.mk.injEq] at H
         obtain ⟨rfl, rfl⟩ := H
         go_enter Try.func56, Try.ntmps56
         try go_wp2_with (first | ((with_reducible refine gate_dst (N := 4) rfl ?_); refine box_event ?hg (N := 4) ?hd (cs := #[.string a1_0, .string a1_1]) (t := 86) ?hr ?_; (case hd => rfl); (case hg => rfl); (case hr => first | (go_simp; done) | (go_simp; rfl)); intro gb1183 hg w9 hbox hb; have n0_ := Aside0.mk (below_step (by repeat (first | (with_reducible first | exact HB.out | apply pbA | apply pbN | apply pbD) | exact HB.out)) hb); have n1_ := Aside0.mk (hbox); have n2_ := Aside0.mk ((by rw [hg]; exact (below_size (by repeat (first | (with_reducible first | exact HB.out | apply pbA | apply pbN | apply pbD) | exact HB.out))) : w.heap.size ≤ gb1183)); have n3_ := Aside0.mk ((by rw [hg]; exact (below_size (by repeat (first | (with_reducible first | exact HB.out | apply pbA | apply pbN | apply pbD) | exact HB.out))) : w.heap.size ≤ gb1183)); clear HB; have HB := n0_; have BK1183 := n1_; have GW1183 := n2_; have GE1183 := n3_; clear n0_ n1_ n2_ n3_; clear hb hbox hg) | ((with_reducible refine gate_dst (N := 5) rfl ?_); refine box_event ?hg (N := 5) ?hd (cs := #[.int .i64 a2_0, .int .i64 a2_1, .bool true, .slice A2_3 l2_3.length c2_3, .slice A2_4 l2_4.length c2_4]) (t := 82) ?hr ?_; (case hd => rfl); (case hg => rfl); (case hr => first | (go_simp; done) | (go_simp; rfl)); intro gb1184 hg w10 hbox hb; have n0_ := Aside0.mk (blk_below (g := gb1183) (o := .cells #[.string a1_0, .string a1_1] 86 (0, 0)) (by (with_reducible repeat (first | refine pkN ?_ _ | refine pkD ?_ | refine pkA ?_ _)); exact BK1183.out) hb); have n1_ := Aside0.mk (below_step (by repeat (first | (with_reducible first | exact HB.out | apply pbA | apply pbN | apply pbD | refine pbS ?_ GE1183.out) | exact HB.out)) hb); have n2_ := Aside0.mk (hbox); have n3_ := Aside0.mk ((by rw [hg]; exact (below_size (by repeat (first | (with_reducible first | exact HB.out | apply pbA | apply pbN | apply pbD | refine pbS ?_ GE1183.out) | exact HB.out))) : w.heap.size ≤ gb1184)); have n4_ := Aside0.mk ((by rw [hg]; exact (below_size (by repeat (first | (with_reducible first | exact HB.out | apply pbA | apply pbN | apply pbD | refine pbS ?_ GE1183.out) | exact HB.out))) : w.heap.size ≤ gb1184)); have n5_ := Aside0.mk ((by rw [hg]; exact Nat.ne_of_lt (blk_lt (g := gb1183) (o := .cells #[.string a1_0, .string a1_1] 86 (0, 0)) (by (with_reducible repeat (first | refine pkN ?_ _ | refine pkD ?_ | refine pkA ?_ _)); exact BK1183.out)) : gb1183 ≠ gb1184)); have n6_ := Aside0.mk ((by rw [hg]; exact Nat.ne_of_gt (blk_lt (g := gb1183) (o := .cells #[.string a1_0, .string a1_1] 86 (0, 0)) (by (with_reducible repeat (first | refine pkN ?_ _ | refine pkD ?_ | refine pkA ?_ _)); exact BK1183.out)) : gb1184 ≠ gb1183)); clear BK1183; clear HB; have BK1183 := n0_; have HB := n1_; have BK1184 := n2_; have GW1184 := n3_; have GE1184 := n4_; have NB1183_1184 := n5_; have NB1184_1183 := n6_; clear n0_ n1_ n2_ n3_ n4_ n5_ n6_; clear hb hbox hg; have hnb11 := NB1184_1183.out; have hnc11 := NB1183_1184.out; have hcz12_0 : w10.cell? ⟨gb1184, 0, none⟩ = some (.int .i64 a2_0) := (pkC BK1184.out 0).trans rfl; have hcz12_1 : w10.cell? ⟨gb1184, 1, none⟩ = some (.int .i64 a2_1) := (pkC BK1184.out 1).trans rfl; have hcz12_2 : w10.cell? ⟨gb1184, 2, none⟩ = some (.bool true) := (pkC BK1184.out 2).trans rfl; have hcz12_3 : w10.cell? ⟨gb1184, 3, none⟩ = some (.slice A2_3 l2_3.length c2_3) := (pkC BK1184.out 3).trans rfl; have hcz12_4 : w10.cell? ⟨gb1184, 4, none⟩ = some (.slice A2_4 l2_4.length c2_4) := (pkC BK1184.out 4).trans rfl; have hfz12_0 := pkF BK1184.out 0; have hfz12_1 := pkF BK1184.out 1; have hfz12_2 := pkF BK1184.out 2; have hfz12_3 := pkF BK1184.out 3; have hfz12_4 := pkF BK1184.out 4))
         have n0_ := Aside0.mk (pkD BK1183.out)
         have n1_ := Aside0.mk (pkD BK1184.out)
         have n2_ := Aside0.mk (pbD HB.out)
         clear BK1183
         clear BK1184
         clear HB
         have BK1183 := n0_
         have BK1184 := n1_
         have HB := n2_
         clear n0_ n1_ n2_
         have p1185 : 0 ≤ (0 : Int) := (by omega)
         have q1185 : 0 < (l2_4.length : Int) := of_decide_eq_true (by first | (with_reducible assumption) | assumption)
         obtain ⟨ad1185, A1185_0, c1185_0, e1185, hx1185_0, hl1185_0, hi1185_0⟩ := at_L10 HR2_4.out 0 p1185 q1185
         have hw1185_0 := hx1185_0
         (try rw [show ((0 : Int)).toNat = 0 from rfl] at hw1185_0)
         (try rw [show 0 * 1 = 0 from rfl] at hw1185_0)
         (try rw [Addr.add_zero'] at hw1185_0)
         cases e1185
         have qi1185 : (0 < l2_4.length) = True := eq_true (by omega)
         (try rw [show ((0 : Int)).toNat = 0 from rfl] at hx1185_0)
         (try rw [Addr.add_zero'] at hx1185_0)
         replace hx1185_0 := (HB.out.cell (World.block_lt_of_cell? w _ hx1185_0)).trans hx1185_0
         have HR1185_0 := Aside0.mk hi1185_0
         have HC1185_0 := Aside0.mk hl1185_0
         clear hi1185_0 hl1185_0
         replace p1185 := eq_true p1185
         replace q1185 := eq_true q1185
         refine start_ (n := 15) (S := fun w' => w'.cell? ⟨gb1183, 0, none⟩ = some (.string a1_0) ∧ w'.cell? ⟨gb1183, 1, none⟩ = some (.string a1_1) ∧ w'.cell? ⟨gb1184, 0, none⟩ = some (.int .i64 a2_0) ∧ w'.cell? ⟨gb1184, 1, none⟩ = some (.int .i64 a2_1) ∧ w'.cell? ⟨gb1184, 2, none⟩ = some (.bool true) ∧ w'.cell? ⟨gb1184, 3, none⟩ = some (.slice A2_3 l2_3.length c2_3) ∧ w'.cell? ⟨gb1184, 4, none⟩ = some (.slice (some ad1185) l2_4.length c2_4) ∧ w'.cell? ad1185 = some (.slice A1185_0 (rd_L10 l2_4 0).length c1185_0)) (ds := []) #[false, false, false, false, false, false, false, false, false, false, false, false, false, false, false] (by kernel_rfl) rfl rfl ⟨(pkC BK1183.out 0).trans rfl, (pkC BK1183.out 1).trans rfl, (pkC BK1184.out 0).trans rfl, (pkC BK1184.out 1).trans rfl, (pkC BK1184.out 2).trans rfl, (pkC BK1184.out 3).trans rfl, (pkC BK1184.out 4).trans rfl, ((HB.out.cell (World.block_lt_of_cell? w _ hw1185_0)).trans hw1185_0)⟩ (fun hHeld => ?_); refine with_tabW footbridgeref12_Has.tab3 footbridgeref12_Has.bits3 (fun HT_ HW_ => ?_)
         generalize w10.drew = w13 at BK1183 BK1184 HB HR1185_0 hx1185_0 hHeld ⊢
         refine pure_ (i := 0) (N := some 23) (v := ?_) (a' := ?_) #[true, false, false, false, false, false, false, false, false, false, false, false, false, false, false] rfl rfl (any_of HT_.out (by kernel_rfl)) (fun _ _ _ h => h) (Or.inl ⟨by rfl, ?_⟩) ?_ ?_
         rotate_left
         · intro w'
           go_simp
           with_reducible rfl
         rotate_left
         · simp only [Act.put, zA, zB, zC, i64_w, i32_w]
           rfl
         refine pure_ (i := 2) (N := some 25) (v := ?_) (a' := ?_) #[true, false, true, false, false, false, false, false, false, false, false, false, false, false, false] rfl rfl (any_of HT_.out (by kernel_rfl)) (fun _ _ _ h => h) (Or.inl ⟨by rfl, ?_⟩) ?_ ?_
         rotate_left
         · intro w'
           go_simp
           with_reducible rfl
         rotate_left
         · simp only [Act.put, zA, zB, zC, i64_w, i32_w]
           rfl
         refine pure_ (i := 4) (N := some 27) (v := ?_) (a' := ?_) #[true, false, true, false, true, false, false, false, false, false, false, false, false, false, false] rfl rfl (any_of HT_.out (by kernel_rfl)) (fun _ _ _ h => h) (Or.inl ⟨by rfl, ?_⟩) ?_ ?_
         rotate_left
         · intro w'
           go_simp
           with_reducible rfl
         rotate_left
         · simp only [Act.put, zA, zB, zC, i64_w, i32_w]
           rfl
         refine pure_ (i := 6) (N := some 29) (v := ?_) (a' := ?_) #[true, false, true, false, true, false, true, false, false, false, false, false, false, false, false] rfl rfl (any_of HT_.out (by kernel_rfl)) (fun _ _ _ h => h) (Or.inl ⟨by rfl, ?_⟩) ?_ ?_
         rotate_left
         · intro w'
           go_simp
           with_reducible rfl
         rotate_left
         · simp only [Act.put, zA, zB, zC, i64_w, i32_w]
           rfl
         refine take_ (i := 1) (N := some 24) (v := ?_) (a' := ?_) #[true, true, true, false, true, false, true, false, false, false, false, false, false, false, false] rfl rfl (take_ofW HT_.out HW_.out (by kernel_rfl)) (fun _ _ _ h => h) (Or.inl ⟨by rfl, ?_⟩) hHeld ?_ ?_
         rotate_left
         · rintro w' ⟨s0, s1, s2, s3, s4, s5, s6, s7⟩
           go_simp
           with_reducible rfl
         rotate_left
         · simp only [Act.put, zA, zB, zC, i64_w, i32_w]
           rfl
         refine take_ (i := 3) (N := some 26) (v := ?_) (a' := ?_) #[true, true, true, true, true, false, true, false, false, false, false, false, false, false, false] rfl rfl (take_ofW HT_.out HW_.out (by kernel_rfl)) (fun _ _ _ h => h) (Or.inl ⟨by rfl, ?_⟩) hHeld ?_ ?_
         rotate_left
         · rintro w' ⟨s0, s1, s2, s3, s4, s5, s6, s7⟩
           go_simp
           with_reducible rfl
         rotate_left
         · simp only [Act.put, zA, zB, zC, i64_w, i32_w]
           rfl
         refine take_ (i := 5) (N := some 28) (v := ?_) (a' := ?_) #[true, true, true, true, true, true, true, false, false, false, false, false, false, false, false] rfl rfl (take_ofW HT_.out HW_.out (by kernel_rfl)) (fun _ _ _ h => h) (Or.inl ⟨by rfl, ?_⟩) hHeld ?_ ?_
         rotate_left
         · rintro w' ⟨s0, s1, s2, s3, s4, s5, s6, s7⟩
           go_simp
           with_reducible rfl
         rotate_left
         · simp only [Act.put, zA, zB, zC, i64_w, i32_w]
           rfl
         refine take_ (i := 7) (N := some 30) (v := ?_) (a' := ?_) #[true, true, true, true, true, true, true, true, false, false, false, false, false, false, false] rfl rfl (take_ofW HT_.out HW_.out (by kernel_rfl)) (fun _ _ _ h => h) (Or.inl ⟨by rfl, ?_⟩) hHeld ?_ ?_
         rotate_left
         · rintro w' ⟨s0, s1, s2, s3, s4, s5, s6, s7⟩
           go_simp
           with_reducible rfl
         rotate_left
         · simp only [Act.put, zA, zB, zC, i64_w, i32_w]
           rfl
         refine pure_ (i := 8) (N := some 31) (v := ?_) (a' := ?_) #[true, true, true, true, true, true, true, true, true, false, false, false, false, false, false] rfl rfl (any_of HT_.out (by kernel_rfl)) (fun _ _ _ h => h) (Or.inl ⟨by rfl, ?_⟩) ?_ ?_
         rotate_left
         · intro w'
           go_simp
           with_reducible rfl
         rotate_left
         · simp only [Act.put, zA, zB, zC, i64_w, i32_w]
           rfl
         refine take_ (i := 9) (N := some 32) (v := ?_) (a' := ?_) #[true, true, true, true, true, true, true, true, true, true, false, false, false, false, false] rfl rfl (take_ofW HT_.out HW_.out (by kernel_rfl)) (fun _ _ _ h => h) (Or.inl ⟨by rfl, ?_⟩) hHeld ?_ ?_
         rotate_left
         · rintro w' ⟨s0, s1, s2, s3, s4, s5, s6, s7⟩
           go_simp
           with_reducible rfl
         rotate_left
         · simp only [Act.put, zA, zB, zC, i64_w, i32_w]
           rfl
         refine one_ (i := 10) (N := some 33) #[true, true, true, true, true, true, true, true, true, true, true, false, false, false, false] rfl rfl (one_of HT_.out (by kernel_rfl)) (by decide) (fun K hK => ?_)
         refine goes_ Try.func125 (by kernel_rfl) rfl #[.string a0, .agg #[.string a1_0, .string a1_1], .int .i64 a2_0, .int .i64 a2_1, .slice A1185_0 (rd_L10 l2_4 0).length c1185_0] (by rfl) rfl rfl (by (try simp only [List.map_toArray, List.map_cons, List.map_nil]); first | done | rfl | (simp only [List.length_drop, List.length_take]; rfl)) ?_
         with_reducible refine (footbridgeref12_leads.calls k a0 a1_0 a1_1 a2_0 a2_1 _ _ (rd_L10 l2_4 0) t1186 t1187 _ ?side1 ?side2 A8.out).mono ?_
         (case side1 => repeat (first | exact (Kd.C_below HR1185_0.out HB.out) | (with_reducible refine Kd.C_alloc ?_ _) | (with_reducible refine Kd.C_drewN ?_ _) | (with_reducible refine Kd.C_drew ?_)))
         (case side2 => exact HC1185_0.out)
         rintro e w14 ⟨v1188, rfl, ho0, hb⟩
         refine ⟨_, rfl, ?_⟩
         have n0_ := Aside0.mk (Kd.R_lower ho0 (below_size (by repeat (first | (with_reducible first | exact HB.out | apply pbA | apply pbN | apply pbD | refine pbS ?_ GE1183.out | refine pbS ?_ GE1184.out) | exact HB.out))))
         have n1_ := Aside0.mk (blk_below (g := gb1183) (o := .cells #[.string a1_0, .string a1_1] 86 (0, 0)) (by (with_reducible repeat (first | refine pkN ?_ _ | refine pkD ?_ | refine pkA ?_ _)); exact BK1183.out) hb)
         have n2_ := Aside0.mk (blk_below (g := gb1184) (o := .cells #[.int .i64 a2_0, .int .i64 a2_1, .bool true, .slice A2_3 l2_3.length c2_3, .slice (some ad1185) l2_4.length c2_4] 82 (0, 0)) (by (with_reducible repeat (first | refine pkN ?_ _ | refine pkD ?_ | refine pkA ?_ _)); exact BK1184.out) hb)
         have n3_ := Aside0.mk (below_step (by repeat (first | (with_reducible first | exact HB.out | apply pbA | apply pbN | apply pbD | refine pbS ?_ GE1183.out | refine pbS ?_ GE1184.out) | exact HB.out)) hb)
         clear BK1183
         clear BK1184
         clear HB
         have HO1189 := n0_
         have BK1183 := n1_
         have BK1184 := n2_
         have HB := n3_
         clear n0_ n1_ n2_ n3_
         (try clear hb)
         (try clear hb2)
         (try clear hk)
         (try clear hi)
         (try clear ho0)
         refine hK.out _ _ ⟨(pkC BK1183.out 0).trans rfl, (pkC BK1183.out 1).trans rfl, (pkC BK1184.out 0).trans rfl, (pkC BK1184.out 1).trans rfl, (pkC BK1184.out 2).trans rfl, (pkC BK1184.out 3).trans rfl, (pkC BK1184.out 4).trans rfl, ((HB.out.cell (World.block_lt_of_cell? w _ hw1185_0)).trans hw1185_0)⟩ (fun hHeld => ?_)
         clear hK K
         refine norm_ (a' := ?_) ?_ ?_
         rotate_left
         · show Act.put _ (some 33) _ = _
           simp only [Act.put, zA, zB, zC, i64_w, i32_w]
           rfl
         refine pure_ (i := 11) (N := some 34) (v := ?_) (a' := ?_) #[true, true, true, true, true, true, true, true, true, true, true, true, false, false, false] rfl rfl (any_of HT_.out (by kernel_rfl)) (fun _ _ _ h => h) (Or.inl ⟨by rfl, ?_⟩) ?_ ?_
         rotate_left
         · intro w'
           go_simp
           with_reducible rfl
         rotate_left
         · simp only [Act.put, zA, zB, zC, i64_w, i32_w]
           rfl
         refine pure_ (i := 12) (N := some 35) (v := ?_) (a' := ?_) #[true, true, true, true, true, true, true, true, true, true, true, true, true, false, false] rfl rfl (any_of HT_.out (by kernel_rfl)) (fun _ _ _ h => h) (Or.inl ⟨by rfl, ?_⟩) ?_ ?_
         rotate_left
         · intro w'
           go_simp
           with_reducible rfl
         rotate_left
         · simp only [Act.put, zA, zB, zC, i64_w, i32_w]
           rfl
         refine pure_ (i := 13) (N := some 6) (v := ?_) (a' := ?_) #[true, true, true, true, true, true, true, true, true, true, true, true, true, true, false] rfl rfl (any_of HT_.out (by kernel_rfl)) (fun _ _ _ h => h) (Or.inl ⟨by rfl, ?_⟩) ?_ ?_
         rotate_left
         · intro w'
           go_simp
           with_reducible rfl
         rotate_left
         · simp only [Act.put, zA, zB, zC, i64_w, i32_w]
           rfl
         refine pure_ (i := 14) (N := some 7) (v := ?_) (a' := ?_) #[true, true, true, true, true, true, true, true, true, true, true, true, true, true, true] rfl rfl (any_of HT_.out (by kernel_rfl)) (fun _ _ _ h => h) (Or.inl ⟨by rfl, ?_⟩) ?_ ?_
         rotate_left
         · intro w'
           go_simp
           with_reducible rfl
         rotate_left
         · simp only [Act.put, zA, zB, zC, i64_w, i32_w]
           rfl
         refine done_ (done_of HT_.out (by kernel_rfl)) ?_
         try go_wp2
         go_ret2
         exact ⟨_, by first | rfl | (simp [errW_none, errW_some] <;> rfl) | (simp [*, errW_none, errW_some] <;> rfl), by (with_reducible repeat (first | apply Kd.R_alloc | apply Kd.R_drewN | apply Kd.R_drew)); exact HO1189.out, by repeat (first | (with_reducible first | exact HB.out | apply pbA | apply pbN | apply pbD | refine pbS ?_ GE1183.out | refine pbS ?_ GE1184.out) | exact HB.out)⟩
       · rw [if_neg c7] at H
         exact absurd H (by simp)
     · rw [if_neg c6] at H
       have c6b0 : ((l2_4.length : Int) == 1) = false := beq_eq_false_iff_ne.mpr c6
       have c6b1 : ((l2_4.length : Int) != 1) = true := bne_iff_ne.mpr c6
       simp only [Option.some.injEq, Prod.mk.injEq] at H
       obtain ⟨rfl, rfl⟩ := H
       go_enter Try.func56, Try.ntmps56
       go_wp2_with (first | ((with_reducible refine gate_dst (N := 4) rfl ?_); refine box_event ?hg (N := 4) ?hd (cs := #[.string a1_0, .string a1_1]) (t := 86) ?hr ?_; (case hd => rfl); (case hg => rfl); (case hr => first | (go_simp; done) | (go_simp; rfl)); intro gb1183 hg w15 hbox hb; have n0_ := Aside0.mk (below_step (by repeat (first | (with_reducible first | exact HB.out | apply pbA | apply pbN | apply pbD) | exact HB.out)) hb); have n1_ := Aside0.mk (hbox); have n2_ := Aside0.mk ((by rw [hg]; exact (below_size (by repeat (first | (with_reducible first | exact HB.out | apply pbA | apply pbN | apply pbD) | exact HB.out))) : w.heap.size ≤ gb1183)); have n3_ := Aside0.mk ((by rw [hg]; exact (below_size (by repeat (first | (with_reducible first | exact HB.out | apply pbA | apply pbN | apply pbD) | exact HB.out))) : w.heap.size ≤ gb1183)); clear HB; have HB := n0_; have BK1183 := n1_; have GW1183 := n2_; have GE1183 := n3_; clear n0_ n1_ n2_ n3_; clear hb hbox hg) | ((with_reducible refine gate_dst (N := 5) rfl ?_); refine box_event ?hg (N := 5) ?hd (cs := #[.int .i64 a2_0, .int .i64 a2_1, .bool true, .slice A2_3 l2_3.length c2_3, .slice A2_4 l2_4.length c2_4]) (t := 82) ?hr ?_; (case hd => rfl); (case hg => rfl); (case hr => first | (go_simp; done) | (go_simp; rfl)); intro gb1184 hg w16 hbox hb; have n0_ := Aside0.mk (blk_below (g := gb1183) (o := .cells #[.string a1_0, .string a1_1] 86 (0, 0)) (by (with_reducible repeat (first | refine pkN ?_ _ | refine pkD ?_ | refine pkA ?_ _)); exact BK1183.out) hb); have n1_ := Aside0.mk (below_step (by repeat (first | (with_reducible first | exact HB.out | apply pbA | apply pbN | apply pbD | refine pbS ?_ GE1183.out) | exact HB.out)) hb); have n2_ := Aside0.mk (hbox); have n3_ := Aside0.mk ((by rw [hg]; exact (below_size (by repeat (first | (with_reducible first | exact HB.out | apply pbA | apply pbN | apply pbD | refine pbS ?_ GE1183.out) | exact HB.out))) : w.heap.size ≤ gb1184)); have n4_ := Aside0.mk ((by rw [hg]; exact (below_size (by repeat (first | (with_reducible first | exact HB.out | apply pbA | apply pbN | apply pbD | refine pbS ?_ GE1183.out) | exact HB.out))) : w.heap.size ≤ gb1184)); have n5_ := Aside0.mk ((by rw [hg]; exact Nat.ne_of_lt (blk_lt (g := gb1183) (o := .cells #[.string a1_0, .string a1_1] 86 (0, 0)) (by (with_reducible repeat (first | refine pkN ?_ _ | refine pkD ?_ | refine pkA ?_ _)); exact BK1183.out)) : gb1183 ≠ gb1184)); have n6_ := Aside0.mk ((by rw [hg]; exact Nat.ne_of_gt (blk_lt (g := gb1183) (o := .cells #[.string a1_0, .string a1_1] 86 (0, 0)) (by (with_reducible repeat (first | refine pkN ?_ _ | refine pkD ?_ | refine pkA ?_ _)); exact BK1183.out)) : gb1184 ≠ gb1183)); clear BK1183; clear HB; have BK1183 := n0_; have HB := n1_; have BK1184 := n2_; have GW1184 := n3_; have GE1184 := n4_; have NB1183_1184 := n5_; have NB1184_1183 := n6_; clear n0_ n1_ n2_ n3_ n4_ n5_ n6_; clear hb hbox hg; have hnb17 := NB1184_1183.out; have hnc17 := NB1183_1184.out; have hcz18_0 : w16.cell? ⟨gb1184, 0, none⟩ = some (.int .i64 a2_0) := (pkC BK1184.out 0).trans rfl; have hcz18_1 : w16.cell? ⟨gb1184, 1, none⟩ = some (.int .i64 a2_1) := (pkC BK1184.out 1).trans rfl; have hcz18_2 : w16.cell? ⟨gb1184, 2, none⟩ = some (.bool true) := (pkC BK1184.out 2).trans rfl; have hcz18_3 : w16.cell? ⟨gb1184, 3, none⟩ = some (.slice A2_3 l2_3.length c2_3) := (pkC BK1184.out 3).trans rfl; have hcz18_4 : w16.cell? ⟨gb1184, 4, none⟩ = some (.slice A2_4 l2_4.length c2_4) := (pkC BK1184.out 4).trans rfl; have hfz18_0 := pkF BK1184.out 0; have hfz18_1 := pkF BK1184.out 1; have hfz18_2 := pkF BK1184.out 2; have hfz18_3 := pkF BK1184.out 3; have hfz18_4 := pkF BK1184.out 4))
       go_ret2
       exact ⟨_, by first | rfl | (simp [errW_none, errW_some] <;> rfl) | (simp [*, errW_none, errW_some] <;> rfl), by first | exact Kd.R_nil _ _ _ _ _ | exact Kd.N_nil _ _ _ _ _ | exact Kd.V_nil _ _ _ _ _ | exact Kd.Q_nil _ _ _ _ _ | exact Kd.S_nil _ _ _ _ _, by repeat (first | (with_reducible first | exact HB.out | apply pbA | apply pbN | apply pbD | refine pbS ?_ GE1183.out | refine pbS ?_ GE1184.out) | exact HB.out)⟩
   · rw [if_neg c5] at H
     have c5b0 : ((l2_3.length : Int) == 0) = false := beq_eq_false_iff_ne.mpr c5
     have c5b1 : ((l2_3.length : Int) != 0) = true := bne_iff_ne.mpr c5
     have c5b2 : ¬ (l2_3 = []) := fun h_ => c5 (by rw [h_]; rfl)
     simp only [Option.some.injEq, Prod.mk.injEq] at H
     obtain ⟨rfl, rfl⟩ := H
     go_enter Try.func56, Try.ntmps56
     go_wp2_with (first | ((with_reducible refine gate_dst (N := 4) rfl ?_); refine box_event ?hg (N := 4) ?hd (cs := #[.string a1_0, .string a1_1]) (t := 86) ?hr ?_; (case hd => rfl); (case hg => rfl); (case hr => first | (go_simp; done) | (go_simp; rfl)); intro gb1183 hg w19 hbox hb; have n0_ := Aside0.mk (below_step (by repeat (first | (with_reducible first | exact HB.out | apply pbA | apply pbN | apply pbD) | exact HB.out)) hb); have n1_ := Aside0.mk (hbox); have n2_ := Aside0.mk ((by rw [hg]; exact (below_size (by repeat (first | (with_reducible first | exact HB.out | apply pbA | apply pbN | apply pbD) | exact HB.out))) : w.heap.size ≤ gb1183)); have n3_ := Aside0.mk ((by rw [hg]; exact (below_size (by repeat (first | (with_reducible first | exact HB.out | apply pbA | apply pbN | apply pbD) | exact HB.out))) : w.heap.size ≤ gb1183)); clear HB; have HB := n0_; have BK1183 := n1_; have GW1183 := n2_; have GE1183 := n3_; clear n0_ n1_ n2_ n3_; clear hb hbox hg) | ((with_reducible refine gate_dst (N := 5) rfl ?_); refine box_event ?hg (N := 5) ?hd (cs := #[.int .i64 a2_0, .int .i64 a2_1, .bool true, .slice A2_3 l2_3.length c2_3, .slice A2_4 l2_4.length c2_4]) (t := 82) ?hr ?_; (case hd => rfl); (case hg => rfl); (case hr => first | (go_simp; done) | (go_simp; rfl)); intro gb1184 hg w20 hbox hb; have n0_ := Aside0.mk (blk_below (g := gb1183) (o := .cells #[.string a1_0, .string a1_1] 86 (0, 0)) (by (with_reducible repeat (first | refine pkN ?_ _ | refine pkD ?_ | refine pkA ?_ _)); exact BK1183.out) hb); have n1_ := Aside0.mk (below_step (by repeat (first | (with_reducible first | exact HB.out | apply pbA | apply pbN | apply pbD | refine pbS ?_ GE1183.out) | exact HB.out)) hb); have n2_ := Aside0.mk (hbox); have n3_ := Aside0.mk ((by rw [hg]; exact (below_size (by repeat (first | (with_reducible first | exact HB.out | apply pbA | apply pbN | apply pbD | refine pbS ?_ GE1183.out) | exact HB.out))) : w.heap.size ≤ gb1184)); have n4_ := Aside0.mk ((by rw [hg]; exact (below_size (by repeat (first | (with_reducible first | exact HB.out | apply pbA | apply pbN | apply pbD | refine pbS ?_ GE1183.out) | exact HB.out))) : w.heap.size ≤ gb1184)); have n5_ := Aside0.mk ((by rw [hg]; exact Nat.ne_of_lt (blk_lt (g := gb1183) (o := .cells #[.string a1_0, .string a1_1] 86 (0, 0)) (by (with_reducible repeat (first | refine pkN ?_ _ | refine pkD ?_ | refine pkA ?_ _)); exact BK1183.out)) : gb1183 ≠ gb1184)); have n6_ := Aside0.mk ((by rw [hg]; exact Nat.ne_of_gt (blk_lt (g := gb1183) (o := .cells #[.string a1_0, .string a1_1] 86 (0, 0)) (by (with_reducible repeat (first | refine pkN ?_ _ | refine pkD ?_ | refine pkA ?_ _)); exact BK1183.out)) : gb1184 ≠ gb1183)); clear BK1183; clear HB; have BK1183 := n0_; have HB := n1_; have BK1184 := n2_; have GW1184 := n3_; have GE1184 := n4_; have NB1183_1184 := n5_; have NB1184_1183 := n6_; clear n0_ n1_ n2_ n3_ n4_ n5_ n6_; clear hb hbox hg; have hnb21 := NB1184_1183.out; have hnc21 := NB1183_1184.out; have hcz22_0 : w20.cell? ⟨gb1184, 0, none⟩ = some (.int .i64 a2_0) := (pkC BK1184.out 0).trans rfl; have hcz22_1 : w20.cell? ⟨gb1184, 1, none⟩ = some (.int .i64 a2_1) := (pkC BK1184.out 1).trans rfl; have hcz22_2 : w20.cell? ⟨gb1184, 2, none⟩ = some (.bool true) := (pkC BK1184.out 2).trans rfl; have hcz22_3 : w20.cell? ⟨gb1184, 3, none⟩ = some (.slice A2_3 l2_3.length c2_3) := (pkC BK1184.out 3).trans rfl; have hcz22_4 : w20.cell? ⟨gb1184, 4, none⟩ = some (.slice A2_4 l2_4.length c2_4) := (pkC BK1184.out 4).trans rfl; have hfz22_0 := pkF BK1184.out 0; have hfz22_1 := pkF BK1184.out 1; have hfz22_2 := pkF BK1184.out 2; have hfz22_3 := pkF BK1184.out 3; have hfz22_4 := pkF BK1184.out 4))
     go_ret2
     exact ⟨_, by first | rfl | (simp [errW_none, errW_some] <;> rfl) | (simp [*, errW_none, errW_some] <;> rfl), by first | exact Kd.R_nil _ _ _ _ _ | exact Kd.N_nil _ _ _ _ _ | exact Kd.V_nil _ _ _ _ _ | exact Kd.Q_nil _ _ _ _ _ | exact Kd.S_nil _ _ _ _ _, by repeat (first | (with_reducible first | exact HB.out | apply pbA | apply pbN | apply pbD | refine pbS ?_ GE1183.out | refine pbS ?_ GE1184.out) | exact HB.out)⟩
 · replace c4 := Bool.eq_false_iff.mpr c4
   subst c4
   have H1 : (some (false, ([] : List ByteArray))) = some (r1, r2) := by rw [if_neg (show ¬ (false = true) by decide)] at H; exact H
   clear H
   have H := H1
   clear H1
   simp only [Option.some.injEq, Prod.mk.injEq] at H
   obtain ⟨rfl, rfl⟩ := H
   go_enter Try.func56, Try.ntmps56
   go_wp2_with (first | ((with_reducible refine gate_dst (N := 4) rfl ?_); refine box_event ?hg (N := 4) ?hd (cs := #[.string a1_0, .string a1_1]) (t := 86) ?hr ?_; (case hd => rfl); (case hg => rfl); (case hr => first | (go_simp; done) | (go_simp; rfl)); intro gb1183 hg w23 hbox hb; have n0_ := Aside0.mk (below_step (by repeat (first | (with_reducible first | exact HB.out | apply pbA | apply pbN | apply pbD) | exact HB.out)) hb); have n1_ := Aside0.mk (hbox); have n2_ := Aside0.mk ((by rw [hg]; exact (below_size (by repeat (first | (with_reducible first | exact HB.out | apply pbA | apply pbN | apply pbD) | exact HB.out))) : w.heap.size ≤ gb1183)); have n3_ := Aside0.mk ((by rw [hg]; exact (below_size (by repeat (first | (with_reducible first | exact HB.out | apply pbA | apply pbN | apply pbD) | exact HB.out))) : w.heap.size ≤ gb1183)); clear HB; have HB := n0_; have BK1183 := n1_; have GW1183 := n2_; have GE1183 := n3_; clear n0_ n1_ n2_ n3_; clear hb hbox hg) | ((with_reducible refine gate_dst (N := 5) rfl ?_); refine box_event ?hg (N := 5) ?hd (cs := #[.int .i64 a2_0, .int .i64 a2_1, .bool false, .slice A2_3 l2_3.length c2_3, .slice A2_4 l2_4.length c2_4]) (t := 82) ?hr ?_; (case hd => rfl); (case hg => rfl); (case hr => first | (go_simp; done) | (go_simp; rfl)); intro gb1184 hg w24 hbox hb; have n0_ := Aside0.mk (blk_below (g := gb1183) (o := .cells #[.string a1_0, .string a1_1] 86 (0, 0)) (by (with_reducible repeat (first | refine pkN ?_ _ | refine pkD ?_ | refine pkA ?_ _)); exact BK1183.out) hb); have n1_ := Aside0.mk (below_step (by repeat (first | (with_reducible first | exact HB.out | apply pbA | apply pbN | apply pbD | refine pbS ?_ GE1183.out) | exact HB.out)) hb); have n2_ := Aside0.mk (hbox); have n3_ := Aside0.mk ((by rw [hg]; exact (below_size (by repeat (first | (with_reducible first | exact HB.out | apply pbA | apply pbN | apply pbD | refine pbS ?_ GE1183.out) | exact HB.out))) : w.heap.size ≤ gb1184)); have n4_ := Aside0.mk ((by rw [hg]; exact (below_size (by repeat (first | (with_reducible first | exact HB.out | apply pbA | apply pbN | apply pbD | refine pbS ?_ GE1183.out) | exact HB.out))) : w.heap.size ≤ gb1184)); have n5_ := Aside0.mk ((by rw [hg]; exact Nat.ne_of_lt (blk_lt (g := gb1183) (o := .cells #[.string a1_0, .string a1_1] 86 (0, 0)) (by (with_reducible repeat (first | refine pkN ?_ _ | refine pkD ?_ | refine pkA ?_ _)); exact BK1183.out)) : gb1183 ≠ gb1184)); have n6_ := Aside0.mk ((by rw [hg]; exact Nat.ne_of_gt (blk_lt (g := gb1183) (o := .cells #[.string a1_0, .string a1_1] 86 (0, 0)) (by (with_reducible repeat (first | refine pkN ?_ _ | refine pkD ?_ | refine pkA ?_ _)); exact BK1183.out)) : gb1184 ≠ gb1183)); clear BK1183; clear HB; have BK1183 := n0_; have HB := n1_; have BK1184 := n2_; have GW1184 := n3_; have GE1184 := n4_; have NB1183_1184 := n5_; have NB1184_1183 := n6_; clear n0_ n1_ n2_ n3_ n4_ n5_ n6_; clear hb hbox hg; have hnb25 := NB1184_1183.out; have hnc25 := NB1183_1184.out; have hcz26_0 : w24.cell? ⟨gb1184, 0, none⟩ = some (.int .i64 a2_0) := (pkC BK1184.out 0).trans rfl; have hcz26_1 : w24.cell? ⟨gb1184, 1, none⟩ = some (.int .i64 a2_1) := (pkC BK1184.out 1).trans rfl; have hcz26_2 : w24.cell? ⟨gb1184, 2, none⟩ = some (.bool false) := (pkC BK1184.out 2).trans rfl; have hcz26_3 : w24.cell? ⟨gb1184, 3, none⟩ = some (.slice A2_3 l2_3.length c2_3) := (pkC BK1184.out 3).trans rfl; have hcz26_4 : w24.cell? ⟨gb1184, 4, none⟩ = some (.slice A2_4 l2_4.length c2_4) := (pkC BK1184.out 4).trans rfl; have hfz26_0 := pkF BK1184.out 0; have hfz26_1 := pkF BK1184.out 1; have hfz26_2 := pkF BK1184.out 2; have hfz26_3 := pkF BK1184.out 3; have hfz26_4 := pkF BK1184.out 4))
   go_ret2
   exact ⟨_, by first | rfl | (simp [errW_none, errW_some] <;> rfl) | (simp [*, errW_none, errW_some] <;> rfl), by first | exact Kd.R_nil _ _ _ _ _ | exact Kd.N_nil _ _ _ _ _ | exact Kd.V_nil _ _ _ _ _ | exact Kd.Q_nil _ _ _ _ _ | exact Kd.S_nil _ _ _ _ _, by repeat (first | (with_reducible first | exact HB.out | apply pbA | apply pbN | apply pbD | refine pbS ?_ GE1183.out | refine pbS ?_ GE1184.out) | exact HB.out)⟩
def footbridgeref12_places.f (a0_0 : Int) (a0_1 : Int) (a0_2 : Bool) (l0_3 : List (S86)) (l0_4 : List (List ByteArray)) : Option (List Int) := if a0_1 > 0 then (if ([] : List Int).length < 17592186044416 then ((some (([] : List Int) ++ [wrap64 (a0_1 - 1)] : List Int)).bind fun y1191 => (if a0_1 < a0_0 then (if y1191.length < 17592186044416 then (some (y1191 ++ [a0_1])) else (none)) else (some y1191))) else (none)) else (if a0_1 < a0_0 then (if ([] : List Int).length < 17592186044416 then (some (([] : List Int) ++ [a0_1])) else (none)) else (some ([] : List Int)))
set_option maxHeartbeats 8000000 in
set_option maxRecDepth 100000 in
theorem footbridgeref12_places.calls (a0_0 : Int) (a0_1 : Int) (a0_2 : Bool) (A0_3 : Option Addr) (c0_3 : Nat) (l0_3 : List (S86)) (A0_4 : Option Addr) (c0_4 : Nat) (l0_4 : List (List ByteArray)) (r : List Int) (w : World) (hr0_3 : Kd.C k86 w A0_3 l0_3.length l0_3) (hc0_3 : l0_3.length ≤ c0_3) (hr0_4 : Kd.C (Kd.slice 9 Kd.string) w A0_4 l0_4.length l0_4) (hc0_4 : l0_4.length ≤ c0_4) (h : footbridgeref12_places.f a0_0 a0_1 a0_2 l0_3 l0_4 = some r) :
  Calls Try.prog 126 #[.agg #[.int .i64 a0_0, .int .i64 a0_1, .bool a0_2, .slice A0_3 l0_3.length c0_3, .slice A0_4 l0_4.length c0_4]] w fun e w' => ∃ v0_ : Value, e = .returned (v0_) ∧ Kd.R (Kd.int .i64) 3 w' w.heap.size (fun _ => True) v0_ r ∧ Below w.heap.size w w' := by
 have hu82 := Try.underlying82
 have HR0_3 := Aside0.mk hr0_3
 have HC0_3 := Aside0.mk hc0_3
 clear hr0_3 hc0_3
 have HR0_4 := Aside0.mk hr0_4
 have HC0_4 := Aside0.mk hc0_4
 clear hr0_4 hc0_4
 have HB := Aside0.mk (Below.refl w.heap.size w)
 have H : (if a0_1 > 0 then (if ([] : List Int).length < 17592186044416 then ((some (([] : List Int) ++ [wrap64 (a0_1 - 1)] : List Int)).bind fun y1191 => (if a0_1 < a0_0 then (if y1191.length < 17592186044416 then (some (y1191 ++ [a0_1])) else (none)) else (some y1191))) else (none)) else (if a0_1 < a0_0 then (if ([] : List Int).length < 17592186044416 then (some (([] : List Int) ++ [a0_1])) else (none)) else (some ([] : List Int)))) = some r := h
 clear h
 by_cases c2 : a0_1 > 0
 · rw [if_pos c2] at H
   have c2b0 : decide (0 < a0_1) = true := decide_eq_true c2
   clear c2
   by_cases c3 : ([] : List Int).length < 17592186044416
   · rw [if_pos c3] at H
     have LMc3 := Aside0.mk c3
     clear c3
     obtain ⟨y1191, hy1191⟩ : ∃ y_ : List Int, y_ = (([] : List Int) ++ [wrap64 (a0_1 - 1)]) := ⟨_, rfl⟩
     replace H : (if a0_1 < a0_0 then (if y1191.length < 17592186044416 then (some (y1191 ++ [a0_1])) else (none)) else (some y1191)) = some r := by first | (rw [hy1191]; with_reducible exact H) | (have H2_ := (Option.bind_some _ _).symm.trans H; rw [hy1191]; with_reducible exact H2_) | (have H2_ := (Option.bind_some _ _).symm.trans H; with_reducible exact H2_) | with_reducible exact H | (rw [hy1191]; exact H) | exact H
     have Ny1191 := Aside0.mk hy1191
     clear hy1191
     by_cases c4 : a0_1 < a0_0
     · rw [if_pos c4] at H
       have c4b0 : decide (a0_1 < a0_0) = true := decide_eq_true c4
       clear c4
       by_cases c5 : y1191.length < 17592186044416
       · rw [if_pos c5] at H
         have LMc5 := Aside0.mk c5
         clear c5
         obtain ⟨y1194, hy1194⟩ : ∃ y_ : List Int, y_ = (y1191 ++ [a0_1]) := ⟨_, rfl⟩
         replace H : (some y1194) = some r := by first | (rw [hy1194]; with_reducible exact H) | (have H2_ := (Option.bind_some _ _).symm.trans H; rw [hy1194]; with_reducible exact H2_) | (have H2_ := (Option.bind_some _ _).symm.trans H; with_reducible exact H2_) | with_reducible exact H | (rw [hy1194]; exact H) | exact H
         have Ny1194 := Aside0.mk hy1194
         clear hy1194
         obtain rfl := Option.some.inj H
         go_enter Try.func126, Try.ntmps126
         go_wp2_with (first | ((with_reducible refine gate_dst (N := 1) rfl ?_); refine box_event ?hg (N := 1) ?hd (cs := #[.int .i64 a0_0, .int .i64 a0_1, .bool a0_2, .slice A0_3 l0_3.length c0_3, .slice A0_4 l0_4.length c0_4]) (t := 82) ?hr ?_; (case hd => rfl); (case hg => rfl); (case hr => first | (go_simp; done) | (go_simp; rfl)); intro gb1190 hg w6 hbox hb; have n0_ := Aside0.mk (below_step (by repeat (first | (with_reducible first | exact HB.out | apply pbA | apply pbN | apply pbD) | exact HB.out)) hb); have n1_ := Aside0.mk (hbox); have n2_ := Aside0.mk ((by rw [hg]; exact (below_size (by repeat (first | (with_reducible first | exact HB.out | apply pbA | apply pbN | apply pbD) | exact HB.out))) : w.heap.size ≤ gb1190)); have n3_ := Aside0.mk ((by rw [hg]; exact (below_size (by repeat (first | (with_reducible first | exact HB.out | apply pbA | apply pbN | apply pbD) | exact HB.out))) : w.heap.size ≤ gb1190)); clear HB; have HB := n0_; have BK1190 := n1_; have GW1190 := n2_; have GE1190 := n3_; clear n0_ n1_ n2_ n3_; clear hb hbox hg; have hcz7_0 : w6.cell? ⟨gb1190, 0, none⟩ = some (.int .i64 a0_0) := (pkC BK1190.out 0).trans rfl; have hcz7_1 : w6.cell? ⟨gb1190, 1, none⟩ = some (.int .i64 a0_1) := (pkC BK1190.out 1).trans rfl; have hcz7_2 : w6.cell? ⟨gb1190, 2, none⟩ = some (.bool a0_2) := (pkC BK1190.out 2).trans rfl; have hcz7_3 : w6.cell? ⟨gb1190, 3, none⟩ = some (.slice A0_3 l0_3.length c0_3) := (pkC BK1190.out 3).trans rfl; have hcz7_4 : w6.cell? ⟨gb1190, 4, none⟩ = some (.slice A0_4 l0_4.length c0_4) := (pkC BK1190.out 4).trans rfl; have hfz7_0 := pkF BK1190.out 0; have hfz7_1 := pkF BK1190.out 1; have hfz7_2 := pkF BK1190.out 2; have hfz7_3 := pkF BK1190.out 3; have hfz7_4 := pkF BK1190.out 4) | ((with_reducible refine gate_builtin (b := .append) (xs := #[.tmp 7, .tmp 11]) rfl ?_); at_builtin; refine Kd.R_append (Kd.int .i64) (w0 := w) w.heap.size rfl (.tmp 7) (.tmp 11) 64 3 (.int .i64 0) 8 rfl Try.underlying64 info3 rfl (by decide) (by omega) (.slice none 0 0) ([] : List Int) (wrap64 (a0_1 - 1)) [.int .i64 (wrap64 (a0_1 - 1))] (fun _ => True) (fun _ => False) rfl rfl ?aP (fun _ hk => hk.elim) ?aF ?aO ?aB ?aS ?aL ?_; (case aP => exact rfl); (case aB => exact (by repeat (first | (with_reducible first | exact HB.out | apply pbA | apply pbN | apply pbD | refine pbS ?_ GE1190.out) | exact HB.out))); (case aF => exact (fun _ _ => trivial)); (case aO => exact ((Kd.R_nil _ _ _ _ (fun _ => True)))); (case aS => exact (below_size (by repeat (first | (with_reducible first | exact HB.out | apply pbA | apply pbN | apply pbD | refine pbS ?_ GE1190.out) | exact HB.out)))); (case aL => have := LMc3.out; omega); intro v1192 w8 ho hb hg hat; rw [← Ny1191.out] at ho; have n0_ := Aside0.mk (blk_grown (g := gb1190) (o := .cells #[.int .i64 a0_0, .int .i64 a0_1, .bool a0_2, .slice A0_3 l0_3.length c0_3, .slice A0_4 l0_4.length c0_4] 82 (0, 0)) (by (with_reducible repeat (first | refine pkN ?_ _ | refine pkD ?_ | refine pkA ?_ _)); exact BK1190.out) hg (by simp [Value.ownBlock])); have n1_ := Aside0.mk (hb); have n2_ := Aside0.mk (ho); clear BK1190; clear HB; have BK1190 := n0_; have HB := n1_; have HO1193 := n2_; clear n0_ n1_ n2_; clear ho hb hg hat; have hcz9_0 : w8.cell? ⟨gb1190, 0, none⟩ = some (.int .i64 a0_0) := (pkC BK1190.out 0).trans rfl; have hcz9_1 : w8.cell? ⟨gb1190, 1, none⟩ = some (.int .i64 a0_1) := (pkC BK1190.out 1).trans rfl; have hcz9_2 : w8.cell? ⟨gb1190, 2, none⟩ = some (.bool a0_2) := (pkC BK1190.out 2).trans rfl; have hcz9_3 : w8.cell? ⟨gb1190, 3, none⟩ = some (.slice A0_3 l0_3.length c0_3) := (pkC BK1190.out 3).trans rfl; have hcz9_4 : w8.cell? ⟨gb1190, 4, none⟩ = some (.slice A0_4 l0_4.length c0_4) := (pkC BK1190.out 4).trans rfl; have hfz9_0 := pkF BK1190.out 0; have hfz9_1 := pkF BK1190.out 1; have hfz9_2 := pkF BK1190.out 2; have hfz9_3 := pkF BK1190.out 3; have hfz9_4 := pkF BK1190.out 4) | ((with_reducible refine gate_builtin (b := .append) (xs := #[.tmp 18, .tmp 21]) rfl ?_); at_builtin; refine Kd.R_append (Kd.int .i64) (w0 := w) w.heap.size rfl (.tmp 18) (.tmp 21) 64 3 (.int .i64 0) 8 rfl Try.underlying64 info3 rfl (by decide) (by omega) v1192 y1191 a0_1 [.int .i64 a0_1] (fun _ => True) (fun _ => False) rfl rfl ?aP (fun _ hk => hk.elim) ?aF ?aO ?aB ?aS ?aL ?_; (case aP => exact rfl); (case aB => exact (by repeat (first | (with_reducible first | exact HB.out | apply pbA | apply pbN | apply pbD | refine pbS ?_ GE1190.out) | exact HB.out))); (case aF => exact (fun _ _ => trivial)); (case aO => exact (by (with_reducible repeat (first | apply Kd.R_alloc | apply Kd.R_drewN | apply Kd.R_drew)); exact HO1193.out)); (case aS => exact (below_size (by repeat (first | (with_reducible first | exact HB.out | apply pbA | apply pbN | apply pbD | refine pbS ?_ GE1190.out) | exact HB.out)))); (case aL => have := LMc5.out; omega); intro v1195 w10 ho hb hg hat; rw [← Ny1194.out] at ho; have n0_ := Aside0.mk (blk_grown (g := gb1190) (o := .cells #[.int .i64 a0_0, .int .i64 a0_1, .bool a0_2, .slice A0_3 l0_3.length c0_3, .slice A0_4 l0_4.length c0_4] 82 (0, 0)) (by (with_reducible repeat (first | refine pkN ?_ _ | refine pkD ?_ | refine pkA ?_ _)); exact BK1190.out) hg (Kd.R_ne HO1193.out BK1190.out (by decide))); have n1_ := Aside0.mk (hb); have n2_ := Aside0.mk (ho); clear BK1190; clear HB; clear HO1193; have BK1190 := n0_; have HB := n1_; have HO1196 := n2_; clear n0_ n1_ n2_; clear ho hb hg hat))
         go_ret
         exact ⟨_, by first | rfl | (simp [errW_none, errW_some] <;> rfl) | (simp [*, errW_none, errW_some] <;> rfl), by (with_reducible repeat (first | apply Kd.R_alloc | apply Kd.R_drewN | apply Kd.R_drew)); exact HO1196.out, by repeat (first | (with_reducible first | exact HB.out | apply pbA | apply pbN | apply pbD | refine pbS ?_ GE1190.out) | exact HB.out)⟩
       · rw [if_neg c5] at H
         exact absurd H (by simp)
     · rw [if_neg c4] at H
       have c4b0 : decide (a0_1 < a0_0) = false := decide_eq_false c4
       clear c4
       obtain rfl := Option.some.inj H
       go_enter Try.func126, Try.ntmps126
       go_wp2_with (first | ((with_reducible refine gate_dst (N := 1) rfl ?_); refine box_event ?hg (N := 1) ?hd (cs := #[.int .i64 a0_0, .int .i64 a0_1, .bool a0_2, .slice A0_3 l0_3.length c0_3, .slice A0_4 l0_4.length c0_4]) (t := 82) ?hr ?_; (case hd => rfl); (case hg => rfl); (case hr => first | (go_simp; done) | (go_simp; rfl)); intro gb1190 hg w11 hbox hb; have n0_ := Aside0.mk (below_step (by repeat (first | (with_reducible first | exact HB.out | apply pbA | apply pbN | apply pbD) | exact HB.out)) hb); have n1_ := Aside0.mk (hbox); have n2_ := Aside0.mk ((by rw [hg]; exact (below_size (by repeat (first | (with_reducible first | exact HB.out | apply pbA | apply pbN | apply pbD) | exact HB.out))) : w.heap.size ≤ gb1190)); have n3_ := Aside0.mk ((by rw [hg]; exact (below_size (by repeat (first | (with_reducible first | exact HB.out | apply pbA | apply pbN | apply pbD) | exact HB.out))) : w.heap.size ≤ gb1190)); clear HB; have HB := n0_; have BK1190 := n1_; have GW1190 := n2_; have GE1190 := n3_; clear n0_ n1_ n2_ n3_; clear hb hbox hg; have hcz12_0 : w11.cell? ⟨gb1190, 0, none⟩ = some (.int .i64 a0_0) := (pkC BK1190.out 0).trans rfl; have hcz12_1 : w11.cell? ⟨gb1190, 1, none⟩ = some (.int .i64 a0_1) := (pkC BK1190.out 1).trans rfl; have hcz12_2 : w11.cell? ⟨gb1190, 2, none⟩ = some (.bool a0_2) := (pkC BK1190.out 2).trans rfl; have hcz12_3 : w11.cell? ⟨gb1190, 3, none⟩ = some (.slice A0_3 l0_3.length c0_3) := (pkC BK1190.out 3).trans rfl; have hcz12_4 : w11.cell? ⟨gb1190, 4, none⟩ = some (.slice A0_4 l0_4.length c0_4) := (pkC BK1190.out 4).trans rfl; have hfz12_0 := pkF BK1190.out 0; have hfz12_1 := pkF BK1190.out 1; have hfz12_2 := pkF BK1190.out 2; have hfz12_3 := pkF BK1190.out 3; have hfz12_4 := pkF BK1190.out 4) | ((with_reducible refine gate_builtin (b := .append) (xs := #[.tmp 7, .tmp 11]) rfl ?_); at_builtin; refine Kd.R_append (Kd.int .i64) (w0 := w) w.heap.size rfl (.tmp 7) (.tmp 11) 64 3 (.int .i64 0) 8 rfl Try.underlying64 info3 rfl (by decide) (by omega) (.slice none 0 0) ([] : List Int) (wrap64 (a0_1 - 1)) [.int .i64 (wrap64 (a0_1 - 1))] (fun _ => True) (fun _ => False) rfl rfl ?aP (fun _ hk => hk.elim) ?aF ?aO ?aB ?aS ?aL ?_; (case aP => exact rfl); (case aB => exact (by repeat (first | (with_reducible first | exact HB.out | apply pbA | apply pbN | apply pbD | refine pbS ?_ GE1190.out) | exact HB.out))); (case aF => exact (fun _ _ => trivial)); (case aO => exact ((Kd.R_nil _ _ _ _ (fun _ => True)))); (case aS => exact (below_size (by repeat (first | (with_reducible first | exact HB.out | apply pbA | apply pbN | apply pbD | refine pbS ?_ GE1190.out) | exact HB.out)))); (case aL => have := LMc3.out; omega); intro v1192 w13 ho hb hg hat; rw [← Ny1191.out] at ho; have n0_ := Aside0.mk (blk_grown (g := gb1190) (o := .cells #[.int .i64 a0_0, .int .i64 a0_1, .bool a0_2, .slice A0_3 l0_3.length c0_3, .slice A0_4 l0_4.length c0_4] 82 (0, 0)) (by (with_reducible repeat (first | refine pkN ?_ _ | refine pkD ?_ | refine pkA ?_ _)); exact BK1190.out) hg (by simp [Value.ownBlock])); have n1_ := Aside0.mk (hb); have n2_ := Aside0.mk (ho); clear BK1190; clear HB; have BK1190 := n0_; have HB := n1_; have HO1193 := n2_; clear n0_ n1_ n2_; clear ho hb hg hat; have hcz14_0 : w13.cell? ⟨gb1190, 0, none⟩ = some (.int .i64 a0_0) := (pkC BK1190.out 0).trans rfl; have hcz14_1 : w13.cell? ⟨gb1190, 1, none⟩ = some (.int .i64 a0_1) := (pkC BK1190.out 1).trans rfl; have hcz14_2 : w13.cell? ⟨gb1190, 2, none⟩ = some (.bool a0_2) := (pkC BK1190.out 2).trans rfl; have hcz14_3 : w13.cell? ⟨gb1190, 3, none⟩ = some (.slice A0_3 l0_3.length c0_3) := (pkC BK1190.out 3).trans rfl; have hcz14_4 : w13.cell? ⟨gb1190, 4, none⟩ = some (.slice A0_4 l0_4.length c0_4) := (pkC BK1190.out 4).trans rfl; have hfz14_0 := pkF BK1190.out 0; have hfz14_1 := pkF BK1190.out 1; have hfz14_2 := pkF BK1190.out 2; have hfz14_3 := pkF BK1190.out 3; have hfz14_4 := pkF BK1190.out 4))
       go_ret
       exact ⟨_, by first | rfl | (simp [errW_none, errW_some] <;> rfl) | (simp [*, errW_none, errW_some] <;> rfl), by (with_reducible repeat (first | apply Kd.R_alloc | apply Kd.R_drewN | apply Kd.R_drew)); exact HO1193.out, by repeat (first | (with_reducible first | exact HB.out | apply pbA | apply pbN | apply pbD | refine pbS ?_ GE1190.out) | exact HB.out)⟩
   · rw [if_neg c3] at H
     exact absurd H (by simp)
 · rw [if_neg c2] at H
   have c2b0 : decide (0 < a0_1) = false := decide_eq_false c2
   clear c2
   by_cases c15 : a0_1 < a0_0
   · rw [if_pos c15] at H
     have c15b0 : decide (a0_1 < a0_0) = true := decide_eq_true c15
     clear c15
     by_cases c16 : ([] : List Int).length < 17592186044416
     · rw [if_pos c16] at H
       have LMc16 := Aside0.mk c16
       clear c16
       obtain ⟨y1197, hy1197⟩ : ∃ y_ : List Int, y_ = (([] : List Int) ++ [a0_1]) := ⟨_, rfl⟩
       replace H : (some y1197) = some r := by first | (rw [hy1197]; with_reducible exact H) | (have H2_ := (Option.bind_some _ _).symm.trans H; rw [hy1197]; with_reducible exact H2_) | (have H2_ := (Option.bind_some _ _).symm.trans H; with_reducible exact H2_) | with_reducible exact H | (rw [hy1197]; exact H) | exact H
       have Ny1197 := Aside0.mk hy1197
       clear hy1197
       obtain rfl := Option.some.inj H
       go_enter Try.func126, Try.ntmps126
       go_wp2_with (first | ((with_reducible refine gate_dst (N := 1) rfl ?_); refine box_event ?hg (N := 1) ?hd (cs := #[.int .i64 a0_0, .int .i64 a0_1, .bool a0_2, .slice A0_3 l0_3.length c0_3, .slice A0_4 l0_4.length c0_4]) (t := 82) ?hr ?_; (case hd => rfl); (case hg => rfl); (case hr => first | (go_simp; done) | (go_simp; rfl)); intro gb1190 hg w17 hbox hb; have n0_ := Aside0.mk (below_step (by repeat (first | (with_reducible first | exact HB.out | apply pbA | apply pbN | apply pbD) | exact HB.out)) hb); have n1_ := Aside0.mk (hbox); have n2_ := Aside0.mk ((by rw [hg]; exact (below_size (by repeat (first | (with_reducible first | exact HB.out | apply pbA | apply pbN | apply pbD) | exact HB.out))) : w.heap.size ≤ gb1190)); have n3_ := Aside0.mk ((by rw [hg]; exact (below_size (by repeat (first | (with_reducible first | exact HB.out | apply pbA | apply pbN | apply pbD) | exact HB.out))) : w.heap.size ≤ gb1190)); clear HB; have HB := n0_; have BK1190 := n1_; have GW1190 := n2_; have GE1190 := n3_; clear n0_ n1_ n2_ n3_; clear hb hbox hg; have hcz18_0 : w17.cell? ⟨gb1190, 0, none⟩ = some (.int .i64 a0_0) := (pkC BK1190.out 0).trans rfl; have hcz18_1 : w17.cell? ⟨gb1190, 1, none⟩ = some (.int .i64 a0_1) := (pkC BK1190.out 1).trans rfl; have hcz18_2 : w17.cell? ⟨gb1190, 2, none⟩ = some (.bool a0_2) := (pkC BK1190.out 2).trans rfl; have hcz18_3 : w17.cell? ⟨gb1190, 3, none⟩ = some (.slice A0_3 l0_3.length c0_3) := (pkC BK1190.out 3).trans rfl; have hcz18_4 : w17.cell? ⟨gb1190, 4, none⟩ = some (.slice A0_4 l0_4.length c0_4) := (pkC BK1190.out 4).trans rfl; have hfz18_0 := pkF BK1190.out 0; have hfz18_1 := pkF BK1190.out 1; have hfz18_2 := pkF BK1190.out 2; have hfz18_3 := pkF BK1190.out 3; have hfz18_4 := pkF BK1190.out 4) | ((with_reducible refine gate_builtin (b := .append) (xs := #[.tmp 18, .tmp 21]) rfl ?_); at_builtin; refine Kd.R_append (Kd.int .i64) (w0 := w) w.heap.size rfl (.tmp 18) (.tmp 21) 64 3 (.int .i64 0) 8 rfl Try.underlying64 info3 rfl (by decide) (by omega) (.slice none 0 0) ([] : List Int) a0_1 [.int .i64 a0_1] (fun _ => True) (fun _ => False) rfl rfl ?aP (fun _ hk => hk.elim) ?aF ?aO ?aB ?aS ?aL ?_; (case aP => exact rfl); (case aB => exact (by repeat (first | (with_reducible first | exact HB.out | apply pbA | apply pbN | apply pbD | refine pbS ?_ GE1190.out) | exact HB.out))); (case aF => exact (fun _ _ => trivial)); (case aO => exact ((Kd.R_nil _ _ _ _ (fun _ => True)))); (case aS => exact (below_size (by repeat (first | (with_reducible first | exact HB.out | apply pbA | apply pbN | apply pbD | refine pbS ?_ GE1190.out) | exact HB.out)))); (case aL => have := LMc16.out; omega); intro v1198 w19 ho hb hg hat; rw [← Ny1197.out] at ho; have n0_ := Aside0.mk (blk_grown (g := gb1190) (o := .cells #[.int .i64 a0_0, .int .i64 a0_1, .bool a0_2, .slice A0_3 l0_3.length c0_3, .slice A0_4 l0_4.length c0_4] 82 (0, 0)) (by (with_reducible repeat (first | refine pkN ?_ _ | refine pkD ?_ | refine pkA ?_ _)); exact BK1190.out) hg (by simp [Value.ownBlock])); have n1_ := Aside0.mk (hb); have n2_ := Aside0.mk (ho); clear BK1190; clear HB; have BK1190 := n0_; have HB := n1_; have HO1199 := n2_; clear n0_ n1_ n2_; clear ho hb hg hat))
       go_ret
       exact ⟨_, by first | rfl | (simp [errW_none, errW_some] <;> rfl) | (simp [*, errW_none, errW_some] <;> rfl), by (with_reducible repeat (first | apply Kd.R_alloc | apply Kd.R_drewN | apply Kd.R_drew)); exact HO1199.out, by repeat (first | (with_reducible first | exact HB.out | apply pbA | apply pbN | apply pbD | refine pbS ?_ GE1190.out) | exact HB.out)⟩
     · rw [if_neg c16] at H
       exact absurd H (by simp)
   · rw [if_neg c15] at H
     have c15b0 : decide (a0_1 < a0_0) = false := decide_eq_false c15
     clear c15
     obtain rfl := Option.some.inj H
     go_enter Try.func126, Try.ntmps126
     go_wp2_with (first | ((with_reducible refine gate_dst (N := 1) rfl ?_); refine box_event ?hg (N := 1) ?hd (cs := #[.int .i64 a0_0, .int .i64 a0_1, .bool a0_2, .slice A0_3 l0_3.length c0_3, .slice A0_4 l0_4.length c0_4]) (t := 82) ?hr ?_; (case hd => rfl); (case hg => rfl); (case hr => first | (go_simp; done) | (go_simp; rfl)); intro gb1190 hg w20 hbox hb; have n0_ := Aside0.mk (below_step (by repeat (first | (with_reducible first | exact HB.out | apply pbA | apply pbN | apply pbD) | exact HB.out)) hb); have n1_ := Aside0.mk (hbox); have n2_ := Aside0.mk ((by rw [hg]; exact (below_size (by repeat (first | (with_reducible first | exact HB.out | apply pbA | apply pbN | apply pbD) | exact HB.out))) : w.heap.size ≤ gb1190)); have n3_ := Aside0.mk ((by rw [hg]; exact (below_size (by repeat (first | (with_reducible first | exact HB.out | apply pbA | apply pbN | apply pbD) | exact HB.out))) : w.heap.size ≤ gb1190)); clear HB; have HB := n0_; have BK1190 := n1_; have GW1190 := n2_; have GE1190 := n3_; clear n0_ n1_ n2_ n3_; clear hb hbox hg; have hcz21_0 : w20.cell? ⟨gb1190, 0, none⟩ = some (.int .i64 a0_0) := (pkC BK1190.out 0).trans rfl; have hcz21_1 : w20.cell? ⟨gb1190, 1, none⟩ = some (.int .i64 a0_1) := (pkC BK1190.out 1).trans rfl; have hcz21_2 : w20.cell? ⟨gb1190, 2, none⟩ = some (.bool a0_2) := (pkC BK1190.out 2).trans rfl; have hcz21_3 : w20.cell? ⟨gb1190, 3, none⟩ = some (.slice A0_3 l0_3.length c0_3) := (pkC BK1190.out 3).trans rfl; have hcz21_4 : w20.cell? ⟨gb1190, 4, none⟩ = some (.slice A0_4 l0_4.length c0_4) := (pkC BK1190.out 4).trans rfl; have hfz21_0 := pkF BK1190.out 0; have hfz21_1 := pkF BK1190.out 1; have hfz21_2 := pkF BK1190.out 2; have hfz21_3 := pkF BK1190.out 3; have hfz21_4 := pkF BK1190.out 4))
     go_ret
     exact ⟨_, by first | rfl | (simp [errW_none, errW_some] <;> rfl) | (simp [*, errW_none, errW_some] <;> rfl), by first | exact Kd.R_nil _ _ _ _ _ | exact Kd.N_nil _ _ _ _ _ | exact Kd.V_nil _ _ _ _ _ | exact Kd.Q_nil _ _ _ _ _ | exact Kd.S_nil _ _ _ _ _, by repeat (first | (with_reducible first | exact HB.out | apply pbA | apply pbN | apply pbD | refine pbS ?_ GE1190.out) | exact HB.out)⟩
mutual
def footbridgeref12_Lacks.j0 : Nat → ByteArray → ByteArray → Bool → Int → Int → Bool → List (S86) → List (List ByteArray) → Option (Bool × List ByteArray)
 | 0, _, _, _, _, _, _, _, _ => none
 | k + 1, x0, x1, x28, x1201000, x1201001, x1201002, x1201003, x1201004 => if x28 = true then (some (false, ([] : List ByteArray))) else ((footbridgeref12_places.f x1201000 x1201001 x1201002 x1201003 x1201004).bind fun t1201 => (if (x1201003.length : Int) = (t1201.length : Int) then (footbridgeref12_Lacks.j1 k x0 x1 t1201 ((x1201004.length : Int) != (t1201.length : Int)) x1201000 x1201001 x1201002 x1201003 x1201004) else (footbridgeref12_Lacks.j1 k x0 x1 t1201 true x1201000 x1201001 x1201002 x1201003 x1201004)))
def footbridgeref12_Lacks.j1 : Nat → ByteArray → ByteArray → List Int → Bool → Int → Int → Bool → List (S86) → List (List ByteArray) → Option (Bool × List ByteArray)
 | 0, _, _, _, _, _, _, _, _, _ => none
 | k + 1, x0, x1, x8, x44, x1201000, x1201001, x1201002, x1201003, x1201004 => if x44 = true then (some (false, ([] : List ByteArray))) else (footbridgeref12_Lacks.l0 k x0 x1 x8 ([] : List ByteArray) 0 x1201000 x1201001 x1201002 x1201003 x1201004)
def footbridgeref12_Lacks.l0 : Nat → ByteArray → ByteArray → List Int → List ByteArray → Int → Int → Int → Bool → List (S86) → List (List ByteArray) → Option (Bool × List ByteArray)
 | 0, _, _, _, _, _, _, _, _, _, _ => none
 | k + 1, x0, x1, x8, x9, x10, x1201000, x1201001, x1201002, x1201003, x1201004 => if x10 < (x8.length : Int) then (if 0 ≤ x10 then (if (rd x8 x10) < x1201001 then (if x10 < (x1201003.length : Int) then (if ((Op.bytesLess (((rd_T86 x1201003 x10).f0).toList) x1.toList) = true) then (if ((rd x8 x10) < x1201001) then (footbridgeref12_Lacks.j3 k x0 x1 x8 x9 x10 false x1201000 x1201001 x1201002 x1201003 x1201004) else (footbridgeref12_Lacks.j3 k x0 x1 x8 x9 x10 (!(Op.bytesLess x1.toList (((rd_T86 x1201003 x10).f0).toList))) x1201000 x1201001 x1201002 x1201003 x1201004)) else (footbridgeref12_Lacks.j3 k x0 x1 x8 x9 x10 true x1201000 x1201001 x1201002 x1201003 x1201004)) else (none)) else (if ((rd x8 x10) < x1201001) then (footbridgeref12_Lacks.j3 k x0 x1 x8 x9 x10 false x1201000 x1201001 x1201002 x1201003 x1201004) else (if x10 < (x1201003.length : Int) then (footbridgeref12_Lacks.j3 k x0 x1 x8 x9 x10 (!(Op.bytesLess x1.toList (((rd_T86 x1201003 x10).f0).toList))) x1201000 x1201001 x1201002 x1201003 x1201004) else (none)))) else (none)) else (if x1201000 = 0 then ((footbridgeref11_TopText.f k 0 (⟨#[]⟩ : ByteArray)).bind fun t1218 => ((footbridgeref04_Sum.f t1218).bind fun t1219 => (some ((t1219.toList == x0.toList), (([t1218] : List ByteArray)))))) else (some (true, x9)))
def footbridgeref12_Lacks.j3 : Nat → ByteArray → ByteArray → List Int → List ByteArray → Int → Bool → Int → Int → Bool → List (S86) → List (List ByteArray) → Option (Bool × List ByteArray)
 | 0, _, _, _, _, _, _, _, _, _, _, _ => none
 | k + 1, x0, x1, x8, x9, x10, x82, x1201000, x1201001, x1201002, x1201003, x1201004 => if x82 = true then (some (false, ([] : List ByteArray))) else (if 0 ≤ x10 then (if x10 < (x1201003.length : Int) then (if x10 < (x8.length : Int) then (if x10 < (x1201004.length : Int) then ((footbridgeref12_leads.f k x0 ((rd_T86 x1201003 x10).f0) ((rd_T86 x1201003 x10).f1) x1201000 (rd x8 x10) (rd_L10 x1201004 x10)).bind fun bt1211 => (if bt1211.1 = true then (if x9.length + bt1211.2.length < 8796093022208 then (footbridgeref12_Lacks.l0 k x0 x1 x8 (x9 ++ bt1211.2) (wrap64 (x10 + 1)) x1201000 x1201001 x1201002 x1201003 x1201004) else (none)) else (some (false, ([] : List ByteArray))))) else (none)) else (none)) else (none)) else (none))
end
def footbridgeref12_Lacks.f (k : Nat) (a0 : ByteArray) (a1 : ByteArray) (a2_0 : Int) (a2_1 : Int) (a2_2 : Bool) (l2_3 : List (S86)) (l2_4 : List (List ByteArray)) : Option (Bool × List ByteArray) := if a2_2 = true then (footbridgeref12_Lacks.j0 k a0 a1 true a2_0 a2_1 a2_2 l2_3 l2_4) else (if a2_1 < 0 then (footbridgeref12_Lacks.j0 k a0 a1 true a2_0 a2_1 a2_2 l2_3 l2_4) else (footbridgeref12_Lacks.j0 k a0 a1 (decide (a2_1 > a2_0)) a2_0 a2_1 a2_2 l2_3 l2_4))
def footbridgeref12_Lacks.T10 : Bool × List (List Nat × List Nat) := (true, [([], []), ([], []), ([0, 1], [0, 1]), ([2], [2]), ([], []), ([4], [4]), ([3, 5], [3, 5]), ([6, 0, 1, 2, 3, 4, 5, 6], [6])])
def footbridgeref12_Lacks.B10 : List Nat := [0, 0, 3, 7, 0, 16, 63, 127]
theorem footbridgeref12_Lacks.tab10 : rtab .any (opsOf Try.f57 10) = footbridgeref12_Lacks.T10 := by kernel_rfl
theorem footbridgeref12_Lacks.bits10 : waitsOk footbridgeref12_Lacks.T10.2 footbridgeref12_Lacks.B10 = true := by kernel_rfl
def footbridgeref12_Lacks.T13 : Bool × List (List Nat × List Nat) := (true, [([], []), ([], []), ([1], [1]), ([], []), ([2, 3], [2, 3]), ([4], [4]), ([], []), ([6], [6]), ([], []), ([], []), ([8, 9], [8, 9]), ([10], [10]), ([], []), ([12], [12]), ([], []), ([13, 14], [13, 14]), ([15], [15]), ([0, 5, 7, 11, 16], [0, 5, 7, 11, 16]), ([17], [17]), ([18], [18]), ([18], [18]), ([19, 17, 0, 1, 2, 3, 4, 5, 6, 7, 8, 9, 10, 11, 12, 13, 14, 15, 16, 17, 18, 19], [19]), ([20, 21, 0, 1, 2, 3, 4, 5, 6, 7, 8, 9, 10, 11, 12, 13, 14, 15, 16, 17, 18, 19, 20, 21], [20])])
def footbridgeref12_Lacks.B13 : List Nat := [0, 0, 2, 0, 14, 30, 0, 64, 0, 0, 768, 1792, 0, 4096, 0, 28672, 61440, 131071, 262143, 524287, 524287, 1048575, 4194303]
theorem footbridgeref12_Lacks.tab13 : rtab .any (opsOf Try.f57 13) = footbridgeref12_Lacks.T13 := by kernel_rfl
theorem footbridgeref12_Lacks.bits13 : waitsOk footbridgeref12_Lacks.T13.2 footbridgeref12_Lacks.B13 = true := by kernel_rfl
set_option maxHeartbeats 8000000 in
set_option maxRecDepth 100000 in
theorem footbridgeref12_Lacks.calls (k : Nat) (a0 : ByteArray) (a1 : ByteArray) (a2_0 : Int) (a2_1 : Int) (a2_2 : Bool) (A2_3 : Option Addr) (c2_3 : Nat) (l2_3 : List (S86)) (A2_4 : Option Addr) (c2_4 : Nat) (l2_4 : List (List ByteArray)) (r1 : Bool) (r2 : List ByteArray) (w : World) (hr2_3 : Kd.C k86 w A2_3 l2_3.length l2_3) (hc2_3 : l2_3.length ≤ c2_3) (hr2_4 : Kd.C (Kd.slice 9 Kd.string) w A2_4 l2_4.length l2_4) (hc2_4 : l2_4.length ≤ c2_4) (h : footbridgeref12_Lacks.f k a0 a1 a2_0 a2_1 a2_2 l2_3 l2_4 = some (r1, r2)) :
  Calls Try.prog 57 #[.string a0, .string a1, .agg #[.int .i64 a2_0, .int .i64 a2_1, .bool a2_2, .slice A2_3 l2_3.length c2_3, .slice A2_4 l2_4.length c2_4]] w fun e w' => ∃ v1_ : Value, e = .returned (.tuple #[.bool r1, v1_]) ∧ Kd.R Kd.string 9 w' w.heap.size (fun _ => True) v1_ r2 ∧ Below w.heap.size w w' := by
 have hu82 := Try.underlying82
 have hu86 := Try.underlying86
 have HR2_3 := Aside0.mk hr2_3
 have HC2_3 := Aside0.mk hc2_3
 clear hr2_3 hc2_3
 have HR2_4 := Aside0.mk hr2_4
 have HC2_4 := Aside0.mk hc2_4
 clear hr2_4 hc2_4
 have HB := Aside0.mk (Below.refl w.heap.size w)
 have H : (if a2_2 = true then (footbridgeref12_Lacks.j0 k a0 a1 true a2_0 a2_1 a2_2 l2_3 l2_4) else (if a2_1 < 0 then (footbridgeref12_Lacks.j0 k a0 a1 true a2_0 a2_1 a2_2 l2_3 l2_4) else (footbridgeref12_Lacks.j0 k a0 a1 (decide (a2_1 > a2_0)) a2_0 a2_1 a2_2 l2_3 l2_4))) = some (r1, r2) := h
 clear h
 have HC4 := Aside0.mk H
 clear H
 go_enter Try.func57, Try.ntmps57
 go_upto_region 1 with (first | ((with_reducible refine gate_dst (N := 5) rfl ?_); refine box_event ?hg (N := 5) ?hd (cs := #[.int .i64 a2_0, .int .i64 a2_1, .bool a2_2, .slice A2_3 l2_3.length c2_3, .slice A2_4 l2_4.length c2_4]) (t := 82) ?hr ?_; (case hd => rfl); (case hg => rfl); (case hr => first | (go_simp; done) | (go_simp; rfl)); intro gb1200 hg w5 hbox hb; have n0_ := Aside0.mk (below_step (by repeat (first | (with_reducible first | exact HB.out | apply pbA | apply pbN | apply pbD) | exact HB.out)) hb); have n1_ := Aside0.mk (hbox); have n2_ := Aside0.mk ((by rw [hg]; exact (below_size (by repeat (first | (with_reducible first | exact HB.out | apply pbA | apply pbN | apply pbD) | exact HB.out))) : w.heap.size ≤ gb1200)); have n3_ := Aside0.mk ((by rw [hg]; exact (below_size (by repeat (first | (with_reducible first | exact HB.out | apply pbA | apply pbN | apply pbD) | exact HB.out))) : w.heap.size ≤ gb1200)); clear HB; have HB := n0_; have BK1200 := n1_; have GW1200 := n2_; have GE1200 := n3_; clear n0_ n1_ n2_ n3_; clear hb hbox hg))
 (try simp only [Act.put, zA, zB, zC])
 go_cut [28] (fun v28 wc => ∃ (kq : Nat) (x28_3 : Bool), v28 = .bool x28_3 ∧ Aside0 (footbridgeref12_Lacks.j0 kq a0 a1 x28_3 a2_0 a2_1 a2_2 l2_3 l2_4 = some (r1, r2)) ∧ Aside0 (kq ≤ k) ∧ Aside0 (wc.heap[gb1200]? = some (.cells #[.int .i64 a2_0, .int .i64 a2_1, .bool a2_2, (.slice A2_3 l2_3.length c2_3), (.slice A2_4 l2_4.length c2_4)] 82 (0, 0))) ∧ Aside0 (Below w.heap.size w wc))
 case first =>
  have H := HC4.out
  clear HC4
  by_cases c6 : a2_2 = true
  · subst c6
    have H1 : (footbridgeref12_Lacks.j0 k a0 a1 true a2_0 a2_1 true l2_3 l2_4) = some (r1, r2) := by rw [if_pos rfl] at H; exact H
    clear H
    have H := H1
    clear H1
    have H' := Aside0.mk H
    clear H
    have hcz7_0 : w5.cell? ⟨gb1200, 0, none⟩ = some (.int .i64 a2_0) := (pkC BK1200.out 0).trans rfl
    have hcz7_1 : w5.cell? ⟨gb1200, 1, none⟩ = some (.int .i64 a2_1) := (pkC BK1200.out 1).trans rfl
    have hcz7_2 : w5.cell? ⟨gb1200, 2, none⟩ = some (.bool true) := (pkC BK1200.out 2).trans rfl
    have hcz7_3 : w5.cell? ⟨gb1200, 3, none⟩ = some (.slice A2_3 l2_3.length c2_3) := (pkC BK1200.out 3).trans rfl
    have hcz7_4 : w5.cell? ⟨gb1200, 4, none⟩ = some (.slice A2_4 l2_4.length c2_4) := (pkC BK1200.out 4).trans rfl
    have hfz7_0 := pkF BK1200.out 0
    have hfz7_1 := pkF BK1200.out 1
    have hfz7_2 := pkF BK1200.out 2
    have hfz7_3 := pkF BK1200.out 3
    have hfz7_4 := pkF BK1200.out 4
    go_wp2
    go_meet
    case rel => exact ⟨_, (true), (by first | rfl | (simp; done) | (simp [*]; done)), H', ⟨by first | omega | exact Nat.le_refl _⟩, ⟨by (with_reducible repeat (first | refine pkN ?_ _ | refine pkD ?_ | refine pkA ?_ _)); exact BK1200.out⟩, ⟨by repeat (first | (with_reducible first | exact HB.out | apply pbA | apply pbN | apply pbD | refine pbS ?_ GE1200.out) | exact HB.out)⟩⟩
  · replace c6 := Bool.eq_false_iff.mpr c6
    subst c6
    have H1 : (if a2_1 < 0 then (footbridgeref12_Lacks.j0 k a0 a1 true a2_0 a2_1 false l2_3 l2_4) else (footbridgeref12_Lacks.j0 k a0 a1 (decide (a2_1 > a2_0)) a2_0 a2_1 false l2_3 l2_4)) = some (r1, r2) := by rw [if_neg (show ¬ (false = true) by decide)] at H; exact H
    clear H
    have H := H1
    clear H1
    by_cases c8 : a2_1 < 0
    · rw [if_pos c8] at H
      have c8b0 : decide (a2_1 < 0) = true := decide_eq_true c8
      clear c8
      (first | rw [c8b0] | (simp only [i64_w, i32_w]; rw [c8b0]) | skip)
      have H' := Aside0.mk H
      clear H
      have hcz9_0 : w5.cell? ⟨gb1200, 0, none⟩ = some (.int .i64 a2_0) := (pkC BK1200.out 0).trans rfl
      have hcz9_1 : w5.cell? ⟨gb1200, 1, none⟩ = some (.int .i64 a2_1) := (pkC BK1200.out 1).trans rfl
      have hcz9_2 : w5.cell? ⟨gb1200, 2, none⟩ = some (.bool false) := (pkC BK1200.out 2).trans rfl
      have hcz9_3 : w5.cell? ⟨gb1200, 3, none⟩ = some (.slice A2_3 l2_3.length c2_3) := (pkC BK1200.out 3).trans rfl
      have hcz9_4 : w5.cell? ⟨gb1200, 4, none⟩ = some (.slice A2_4 l2_4.length c2_4) := (pkC BK1200.out 4).trans rfl
      have hfz9_0 := pkF BK1200.out 0
      have hfz9_1 := pkF BK1200.out 1
      have hfz9_2 := pkF BK1200.out 2
      have hfz9_3 := pkF BK1200.out 3
      have hfz9_4 := pkF BK1200.out 4
      go_wp2
      go_meet
      case rel => exact ⟨_, (true), (by first | rfl | (simp; done) | (simp [*]; done)), H', ⟨by first | omega | exact Nat.le_refl _⟩, ⟨by (with_reducible repeat (first | refine pkN ?_ _ | refine pkD ?_ | refine pkA ?_ _)); exact BK1200.out⟩, ⟨by repeat (first | (with_reducible first | exact HB.out | apply pbA | apply pbN | apply pbD | refine pbS ?_ GE1200.out) | exact HB.out)⟩⟩
    · rw [if_neg c8] at H
      have c8b0 : decide (a2_1 < 0) = false := decide_eq_false c8
      clear c8
      (first | rw [c8b0] | (simp only [i64_w, i32_w]; rw [c8b0]) | skip)
      have H' := Aside0.mk H
      clear H
      have hcz10_0 : w5.cell? ⟨gb1200, 0, none⟩ = some (.int .i64 a2_0) := (pkC BK1200.out 0).trans rfl
      have hcz10_1 : w5.cell? ⟨gb1200, 1, none⟩ = some (.int .i64 a2_1) := (pkC BK1200.out 1).trans rfl
      have hcz10_2 : w5.cell? ⟨gb1200, 2, none⟩ = some (.bool false) := (pkC BK1200.out 2).trans rfl
      have hcz10_3 : w5.cell? ⟨gb1200, 3, none⟩ = some (.slice A2_3 l2_3.length c2_3) := (pkC BK1200.out 3).trans rfl
      have hcz10_4 : w5.cell? ⟨gb1200, 4, none⟩ = some (.slice A2_4 l2_4.length c2_4) := (pkC BK1200.out 4).trans rfl
      have hfz10_0 := pkF BK1200.out 0
      have hfz10_1 := pkF BK1200.out 1
      have hfz10_2 := pkF BK1200.out 2
      have hfz10_3 := pkF BK1200.out 3
      have hfz10_4 := pkF BK1200.out 4
      go_wp2
      go_meet
      case rel => exact ⟨_, (decide (a2_1 > a2_0)), (by first | rfl | (simp; done) | (simp [*]; done)), H', ⟨by first | omega | exact Nat.le_refl _⟩, ⟨by (with_reducible repeat (first | refine pkN ?_ _ | refine pkD ?_ | refine pkA ?_ _)); exact BK1200.out⟩, ⟨by repeat (first | (with_reducible first | exact HB.out | apply pbA | apply pbN | apply pbD | refine pbS ?_ GE1200.out) | exact HB.out)⟩⟩
 case rest =>
  clear HC4
  try clear c2
  try clear p2
  try clear c5
  try clear c6
  try clear c8
  try clear c8b0
  try clear hcz10_0
  try clear hcz10_1
  try clear hcz10_2
  try clear hcz10_3
  try clear hcz10_4
  try clear hcz7_0
  try clear hcz7_1
  try clear hcz7_2
  try clear hcz7_3
  try clear hcz7_4
  try clear hcz9_0
  try clear hcz9_1
  try clear hcz9_2
  try clear hcz9_3
  try clear hcz9_4
  try clear hfz10_0
  try clear hfz10_1
  try clear hfz10_2
  try clear hfz10_3
  try clear hfz10_4
  try clear hfz7_0
  try clear hfz7_1
  try clear hfz7_2
  try clear hfz7_3
  try clear hfz7_4
  try clear hfz9_0
  try clear hfz9_1
  try clear hfz9_2
  try clear hfz9_3
  try clear hfz9_4
  obtain ⟨kq, x28_3, rfl, HA, HJ3, BK1200, HB⟩ := hcut
  cases kq with
  | zero => exact absurd HA.out (by simp [footbridgeref12_Lacks.j0])
  | succ kj3 =>
   have H := HA.out
   clear HA
   simp only [footbridgeref12_Lacks.j0] at H
   by_cases c11 : x28_3 = true
   · subst c11
     have H1 : (some (false, ([] : List ByteArray))) = some (r1, r2) := by rw [if_pos rfl] at H; exact H
     clear H
     have H := H1
     clear H1
     simp only [Option.some.injEq, Prod.mk.injEq] at H
     obtain ⟨rfl, rfl⟩ := H
     go_wp2
     go_ret2
     exact ⟨_, by first | rfl | (simp [errW_none, errW_some] <;> rfl) | (simp [*, errW_none, errW_some] <;> rfl), by first | exact Kd.R_nil _ _ _ _ _ | exact Kd.N_nil _ _ _ _ _ | exact Kd.V_nil _ _ _ _ _ | exact Kd.Q_nil _ _ _ _ _ | exact Kd.S_nil _ _ _ _ _, by repeat (first | (with_reducible first | exact HB.out | apply pbA | apply pbN | apply pbD | refine pbS ?_ GE1200.out) | exact HB.out)⟩
   · replace c11 := Bool.eq_false_iff.mpr c11
     subst c11
     have H1 : ((footbridgeref12_places.f a2_0 a2_1 a2_2 l2_3 l2_4).bind fun t1201 => (if (l2_3.length : Int) = (t1201.length : Int) then (footbridgeref12_Lacks.j1 kj3 a0 a1 t1201 ((l2_4.length : Int) != (t1201.length : Int)) a2_0 a2_1 a2_2 l2_3 l2_4) else (footbridgeref12_Lacks.j1 kj3 a0 a1 t1201 true a2_0 a2_1 a2_2 l2_3 l2_4))) = some (r1, r2) := by rw [if_neg (show ¬ (false = true) by decide)] at H; exact H
     clear H
     have H := H1
     clear H1
     replace H := Option.bind_eq_some_iff.mp H
     obtain ⟨t1201, A120, H⟩ := H
     replace H : (if (l2_3.length : Int) = (t1201.length : Int) then (footbridgeref12_Lacks.j1 kj3 a0 a1 t1201 ((l2_4.length : Int) != (t1201.length : Int)) a2_0 a2_1 a2_2 l2_3 l2_4) else (footbridgeref12_Lacks.j1 kj3 a0 a1 t1201 true a2_0 a2_1 a2_2 l2_3 l2_4)) = some (r1, r2) := H
     have A12 := Aside0.mk A120
     clear A120
     have HC13 := Aside0.mk H
     clear H
     have hcz14_0 : wc.cell? ⟨gb1200, 0, none⟩ = some (.int .i64 a2_0) := (pkC BK1200.out 0).trans rfl
     have hcz14_1 : wc.cell? ⟨gb1200, 1, none⟩ = some (.int .i64 a2_1) := (pkC BK1200.out 1).trans rfl
     have hcz14_2 : wc.cell? ⟨gb1200, 2, none⟩ = some (.bool a2_2) := (pkC BK1200.out 2).trans rfl
     have hcz14_3 : wc.cell? ⟨gb1200, 3, none⟩ = some (.slice A2_3 l2_3.length c2_3) := (pkC BK1200.out 3).trans rfl
     have hcz14_4 : wc.cell? ⟨gb1200, 4, none⟩ = some (.slice A2_4 l2_4.length c2_4) := (pkC BK1200.out 4).trans rfl
     have hfz14_0 := pkF BK1200.out 0
     have hfz14_1 := pkF BK1200.out 1
     have hfz14_2 := pkF BK1200.out 2
     have hfz14_3 := pkF BK1200.out 3
     have hfz14_4 := pkF BK1200.out 4
     go_upto_region 4 with (first | ((with_reducible refine gate_callee (f := 126) rfl ?_); refine goesL_ (some 30) rfl rfl Try.func126 (by kernel_rfl) rfl #[.agg #[.int .i64 a2_0, .int .i64 a2_1, .bool a2_2, .slice A2_3 l2_3.length c2_3, .slice A2_4 l2_4.length c2_4]] rfl (by (try simp only [List.map_toArray, List.map_cons, List.map_nil]); first | done | rfl | (simp only [List.length_drop, List.length_take]; rfl)) ?_; (with_reducible refine (footbridgeref12_places.calls a2_0 a2_1 a2_2 _ _ l2_3 _ _ l2_4 t1201 _ ?side1 ?side2 ?side3 ?side4 A12.out).mono ?_); (case side1 => repeat (first | exact (Kd.C_below HR2_3.out HB.out) | (with_reducible refine Kd.C_alloc ?_ _) | (with_reducible refine Kd.C_drewN ?_ _) | (with_reducible refine Kd.C_drew ?_))); (case side2 => exact HC2_3.out); (case side3 => repeat (first | exact (Kd.C_below HR2_4.out HB.out) | (with_reducible refine Kd.C_alloc ?_ _) | (with_reducible refine Kd.C_drewN ?_ _) | (with_reducible refine Kd.C_drew ?_))); (case side4 => exact HC2_4.out); rintro e w15 ⟨v1202, rfl, ho0, hb⟩; refine ⟨_, rfl, ?_⟩; have n0_ := Aside0.mk (Kd.R_lower ho0 (below_size (by repeat (first | (with_reducible first | exact HB.out | apply pbA | apply pbN | apply pbD | refine pbS ?_ GE1200.out) | exact HB.out)))); have n1_ := Aside0.mk (blk_below (g := gb1200) (o := .cells #[.int .i64 a2_0, .int .i64 a2_1, .bool a2_2, .slice A2_3 l2_3.length c2_3, .slice A2_4 l2_4.length c2_4] 82 (0, 0)) (by (with_reducible repeat (first | refine pkN ?_ _ | refine pkD ?_ | refine pkA ?_ _)); exact BK1200.out) hb); have n2_ := Aside0.mk (below_step (by repeat (first | (with_reducible first | exact HB.out | apply pbA | apply pbN | apply pbD | refine pbS ?_ GE1200.out) | exact HB.out)) hb); clear BK1200; clear HB; have HO1203 := n0_; have BK1200 := n1_; have HB := n2_; clear n0_ n1_ n2_; (try clear hb); (try clear hb2); (try clear hk); (try clear hi); (try clear ho0)))
     (try simp only [Act.put, zA, zB, zC])
     go_cut [44] (fun v44 wc => ∃ (kq : Nat) (x44_12 : Bool), v44 = .bool x44_12 ∧ Aside0 (footbridgeref12_Lacks.j1 kq a0 a1 t1201 x44_12 a2_0 a2_1 a2_2 l2_3 l2_4 = some (r1, r2)) ∧ Aside0 (kq ≤ kj3) ∧ Aside0 (Kd.R (Kd.int .i64) 3 wc w.heap.size (fun _ => True) v1202 t1201) ∧ Aside0 (wc.heap[gb1200]? = some (.cells #[.int .i64 a2_0, .int .i64 a2_1, .bool a2_2, (.slice A2_3 l2_3.length c2_3), (.slice A2_4 l2_4.length c2_4)] 82 (0, 0))) ∧ Aside0 (Below w.heap.size w wc))
     case first =>
      have H := HC13.out
      clear HC13
      by_cases c16 : (l2_3.length : Int) = (t1201.length : Int)
      · rw [if_pos c16] at H
        have c16b0 : ((l2_3.length : Int) == (t1201.length : Int)) = true := beq_iff_eq.mpr c16
        have c16b1 : ((l2_3.length : Int) != (t1201.length : Int)) = false := bne_eq_false_iff_eq.mpr c16
        have c16b2 : (l2_3.length == t1201.length) = true := by first | simpa using c16 | (simp at c16 ⊢; omega)
        clear c16
        (first | rw [c16b0] | (simp only [i64_w, i32_w]; rw [c16b0]) | skip)
        have H' := Aside0.mk H
        clear H
        have hcz17_0 : w15.cell? ⟨gb1200, 0, none⟩ = some (.int .i64 a2_0) := (pkC BK1200.out 0).trans rfl
        have hcz17_1 : w15.cell? ⟨gb1200, 1, none⟩ = some (.int .i64 a2_1) := (pkC BK1200.out 1).trans rfl
        have hcz17_2 : w15.cell? ⟨gb1200, 2, none⟩ = some (.bool a2_2) := (pkC BK1200.out 2).trans rfl
        have hcz17_3 : w15.cell? ⟨gb1200, 3, none⟩ = some (.slice A2_3 l2_3.length c2_3) := (pkC BK1200.out 3).trans rfl
        have hcz17_4 : w15.cell? ⟨gb1200, 4, none⟩ = some (.slice A2_4 l2_4.length c2_4) := (pkC BK1200.out 4).trans rfl
        have hfz17_0 := pkF BK1200.out 0
        have hfz17_1 := pkF BK1200.out 1
        have hfz17_2 := pkF BK1200.out 2
        have hfz17_3 := pkF BK1200.out 3
        have hfz17_4 := pkF BK1200.out 4
        obtain ⟨Ao18, co18, eo18⟩ := Kd.R_slice HO1203.out
        subst eo18
        go_wp2
        go_meet
        case rel => exact ⟨_, (((l2_4.length : Int) != (t1201.length : Int))), (by first | rfl | (simp; done) | (simp [*]; done)), H', ⟨by have := HJ3.out; first | omega | exact Nat.le_refl _⟩, ⟨by (with_reducible repeat (first | apply Kd.R_alloc | apply Kd.R_drewN | apply Kd.R_drew)); exact HO1203.out⟩, ⟨by (with_reducible repeat (first | refine pkN ?_ _ | refine pkD ?_ | refine pkA ?_ _)); exact BK1200.out⟩, ⟨by repeat (first | (with_reducible first | exact HB.out | apply pbA | apply pbN | apply pbD | refine pbS ?_ GE1200.out) | exact HB.out)⟩⟩
      · rw [if_neg c16] at H
        have c16b0 : ((l2_3.length : Int) == (t1201.length : Int)) = false := beq_eq_false_iff_ne.mpr c16
        have c16b1 : ((l2_3.length : Int) != (t1201.length : Int)) = true := bne_iff_ne.mpr c16
        have c16b2 : (l2_3.length == t1201.length) = false := by first | simpa using c16 | (simp at c16 ⊢; omega)
        (first | rw [c16b0] | (simp only [i64_w, i32_w]; rw [c16b0]) | skip)
        have H' := Aside0.mk H
        clear H
        have hcz19_0 : w15.cell? ⟨gb1200, 0, none⟩ = some (.int .i64 a2_0) := (pkC BK1200.out 0).trans rfl
        have hcz19_1 : w15.cell? ⟨gb1200, 1, none⟩ = some (.int .i64 a2_1) := (pkC BK1200.out 1).trans rfl
        have hcz19_2 : w15.cell? ⟨gb1200, 2, none⟩ = some (.bool a2_2) := (pkC BK1200.out 2).trans rfl
        have hcz19_3 : w15.cell? ⟨gb1200, 3, none⟩ = some (.slice A2_3 l2_3.length c2_3) := (pkC BK1200.out 3).trans rfl
        have hcz19_4 : w15.cell? ⟨gb1200, 4, none⟩ = some (.slice A2_4 l2_4.length c2_4) := (pkC BK1200.out 4).trans rfl
        have hfz19_0 := pkF BK1200.out 0
        have hfz19_1 := pkF BK1200.out 1
        have hfz19_2 := pkF BK1200.out 2
        have hfz19_3 := pkF BK1200.out 3
        have hfz19_4 := pkF BK1200.out 4
        obtain ⟨Ao20, co20, eo20⟩ := Kd.R_slice HO1203.out
        subst eo20
        go_wp2
        go_meet
        case rel => exact ⟨_, (true), (by first | rfl | (simp; done) | (simp [*]; done)), H', ⟨by have := HJ3.out; first | omega | exact Nat.le_refl _⟩, ⟨by (with_reducible repeat (first | apply Kd.R_alloc | apply Kd.R_drewN | apply Kd.R_drew)); exact HO1203.out⟩, ⟨by (with_reducible repeat (first | refine pkN ?_ _ | refine pkD ?_ | refine pkA ?_ _)); exact BK1200.out⟩, ⟨by repeat (first | (with_reducible first | exact HB.out | apply pbA | apply pbN | apply pbD | refine pbS ?_ GE1200.out) | exact HB.out)⟩⟩
     case rest =>
      clear HC13
      try clear c1
      try clear c2
      try clear p2
      try clear c5
      try clear c6
      try clear c8
      try clear c8b0
      try clear c11
      try clear c12
      try clear c16
      try clear c16b0
      try clear c16b1
      try clear c16b2
      try clear hcz10_0
      try clear hcz10_1
      try clear hcz10_2
      try clear hcz10_3
      try clear hcz10_4
      try clear hcz14_0
      try clear hcz14_1
      try clear hcz14_2
      try clear hcz14_3
      try clear hcz14_4
      try clear hcz17_0
      try clear hcz17_1
      try clear hcz17_2
      try clear hcz17_3
      try clear hcz17_4
      try clear hcz19_0
      try clear hcz19_1
      try clear hcz19_2
      try clear hcz19_3
      try clear hcz19_4
      try clear hcz7_0
      try clear hcz7_1
      try clear hcz7_2
      try clear hcz7_3
      try clear hcz7_4
      try clear hcz9_0
      try clear hcz9_1
      try clear hcz9_2
      try clear hcz9_3
      try clear hcz9_4
      try clear hfz10_0
      try clear hfz10_1
      try clear hfz10_2
      try clear hfz10_3
      try clear hfz10_4
      try clear hfz14_0
      try clear hfz14_1
      try clear hfz14_2
      try clear hfz14_3
      try clear hfz14_4
      try clear hfz17_0
      try clear hfz17_1
      try clear hfz17_2
      try clear hfz17_3
      try clear hfz17_4
      try clear hfz19_0
      try clear hfz19_1
      try clear hfz19_2
      try clear hfz19_3
      try clear hfz19_4
      try clear hfz7_0
      try clear hfz7_1
      try clear hfz7_2
      try clear hfz7_3
      try clear hfz7_4
      try clear hfz9_0
      try clear hfz9_1
      try clear hfz9_2
      try clear hfz9_3
      try clear hfz9_4
      try clear p2
      obtain ⟨kq, x44_12, rfl, HA, HJ12, HO_8, BK1200, HB⟩ := hcut
      cases kq with
      | zero => exact absurd HA.out (by simp [footbridgeref12_Lacks.j1])
      | succ kj12 =>
       have H := HA.out
       clear HA
       simp only [footbridgeref12_Lacks.j1] at H
       by_cases c21 : x44_12 = true
       · subst c21
         have H1 : (some (false, ([] : List ByteArray))) = some (r1, r2) := by rw [if_pos rfl] at H; exact H
         clear H
         have H := H1
         clear H1
         simp only [Option.some.injEq, Prod.mk.injEq] at H
         obtain ⟨rfl, rfl⟩ := H
         go_wp2
         go_ret2
         exact ⟨_, by first | rfl | (simp [errW_none, errW_some] <;> rfl) | (simp [*, errW_none, errW_some] <;> rfl), by first | exact Kd.R_nil _ _ _ _ _ | exact Kd.N_nil _ _ _ _ _ | exact Kd.V_nil _ _ _ _ _ | exact Kd.Q_nil _ _ _ _ _ | exact Kd.S_nil _ _ _ _ _, by repeat (first | (with_reducible first | exact HB.out | apply pbA | apply pbN | apply pbD | refine pbS ?_ GE1200.out) | exact HB.out)⟩
       · replace c21 := Bool.eq_false_iff.mpr c21
         subst c21
         have H1 : (footbridgeref12_Lacks.l0 kj12 a0 a1 t1201 ([] : List ByteArray) 0 a2_0 a2_1 a2_2 l2_3 l2_4) = some (r1, r2) := by rw [if_neg (show ¬ (false = true) by decide)] at H; exact H
         clear H
         have H := H1
         clear H1
         have H' := Aside0.mk H
         clear H
         go_wp2
         go_loopg [9, 10] kj12 (fun kq v9 v10 w' => ∃ (x9_3 : List ByteArray) (x10_3 : Int), v10 = .int .i64 x10_3 ∧ Aside0 (footbridgeref12_Lacks.l0 kq a0 a1 t1201 x9_3 x10_3 a2_0 a2_1 a2_2 l2_3 l2_4 = some (r1, r2)) ∧ Aside0 (kq ≤ kj12) ∧ Aside0 (Kd.R (Kd.int .i64) 3 w' w.heap.size (fun _ => True) v1202 t1201) ∧ Aside0 (Kd.R Kd.string 9 w' w.heap.size (fun _ => True) v9 x9_3) ∧ Aside0 (w'.heap[gb1200]? = some (.cells #[.int .i64 a2_0, .int .i64 a2_1, .bool a2_2, (.slice A2_3 l2_3.length c2_3), (.slice A2_4 l2_4.length c2_4)] 82 (0, 0))) ∧ Aside0 (Below w.heap.size w w'))
         case atStart => exact ⟨(([] : List ByteArray)), (0), (by first | rfl | (simp; done) | (simp [*]; done)), H', ⟨Nat.le_refl _⟩, ⟨by (with_reducible repeat (first | apply Kd.R_alloc | apply Kd.R_drewN | apply Kd.R_drew)); exact HO_8.out⟩, ⟨by first | exact Kd.R_nil _ _ _ _ _ | exact Kd.N_nil _ _ _ _ _ | exact Kd.V_nil _ _ _ _ _ | exact Kd.Q_nil _ _ _ _ _ | exact Kd.S_nil _ _ _ _ _⟩, ⟨by (with_reducible repeat (first | refine pkN ?_ _ | refine pkD ?_ | refine pkA ?_ _)); exact BK1200.out⟩, ⟨by repeat (first | (with_reducible first | exact HB.out | apply pbA | apply pbN | apply pbD | refine pbS ?_ GE1200.out) | exact HB.out)⟩⟩
         case round =>
          clear H'
          try clear c1
          try clear c2
          try clear p2
          try clear c5
          try clear c6
          try clear c8
          try clear c8b0
          try clear c11
          try clear c12
          try clear c16
          try clear c16b0
          try clear c16b1
          try clear c16b2
          try clear c21
          try clear hcz10_0
          try clear hcz10_1
          try clear hcz10_2
          try clear hcz10_3
          try clear hcz10_4
          try clear hcz14_0
          try clear hcz14_1
          try clear hcz14_2
          try clear hcz14_3
          try clear hcz14_4
          try clear hcz17_0
          try clear hcz17_1
          try clear hcz17_2
          try clear hcz17_3
          try clear hcz17_4
          try clear hcz19_0
          try clear hcz19_1
          try clear hcz19_2
          try clear hcz19_3
          try clear hcz19_4
          try clear hcz7_0
          try clear hcz7_1
          try clear hcz7_2
          try clear hcz7_3
          try clear hcz7_4
          try clear hcz9_0
          try clear hcz9_1
          try clear hcz9_2
          try clear hcz9_3
          try clear hcz9_4
          try clear hfz10_0
          try clear hfz10_1
          try clear hfz10_2
          try clear hfz10_3
          try clear hfz10_4
          try clear hfz14_0
          try clear hfz14_1
          try clear hfz14_2
          try clear hfz14_3
          try clear hfz14_4
          try clear hfz17_0
          try clear hfz17_1
          try clear hfz17_2
          try clear hfz17_3
          try clear hfz17_4
          try clear hfz19_0
          try clear hfz19_1
          try clear hfz19_2
          try clear hfz19_3
          try clear hfz19_4
          try clear hfz7_0
          try clear hfz7_1
          try clear hfz7_2
          try clear hfz7_3
          try clear hfz7_4
          try clear hfz9_0
          try clear hfz9_1
          try clear hfz9_2
          try clear hfz9_3
          try clear hfz9_4
          try clear p2
          obtain ⟨x9_3, x10_3, rfl, HA, HK3, HO_8, HO_9, BK1200, HB⟩ := hrel
          cases gk with
          | zero => exact absurd HA.out (by simp [footbridgeref12_Lacks.l0])
          | succ k3 =>
           have H := HA.out
           clear HA
           simp only [footbridgeref12_Lacks.l0] at H
           by_cases c22 : x10_3 < (t1201.length : Int)
           · rw [if_pos c22] at H
             have c22b0 : decide (x10_3 < (t1201.length : Int)) = true := decide_eq_true c22
             clear c22
             by_cases c23 : 0 ≤ x10_3
             · rw [if_pos c23] at H
               have c23b0 : decide (0 ≤ x10_3) = true := decide_eq_true c23
               clear c23
               have HC24 := Aside0.mk H
               clear H
               obtain ⟨Ao25, co25, eo25⟩ := Kd.R_slice HO_8.out
               subst eo25
               try go_wp2
               have n0_ := Aside0.mk (Kd.R_drew HO_8.out)
               have n1_ := Aside0.mk (Kd.R_drew HO_9.out)
               have n2_ := Aside0.mk (pkD BK1200.out)
               have n3_ := Aside0.mk (pbD HB.out)
               clear HO_8
               clear HO_9
               clear BK1200
               clear HB
               have HO_8 := n0_
               have HO_9 := n1_
               have BK1200 := n2_
               have HB := n3_
               clear n0_ n1_ n2_ n3_
               have p1204 : 0 ≤ (x10_3 : Int) := of_decide_eq_true (by first | (with_reducible assumption) | assumption)
               have q1204 : x10_3 < (t1201.length : Int) := of_decide_eq_true (by first | (with_reducible assumption) | assumption)
               obtain ⟨ad1204, e1204, hx1204_0⟩ := Kd.at_int (Kd.R_reads' HO_8.out).2.2 x10_3 p1204 q1204
               cases e1204
               replace p1204 := eq_true p1204
               replace q1204 := eq_true q1204
               refine start_ (n := 8) (S := fun w' => w'.cell? ⟨gb1200, 0, none⟩ = some (.int .i64 a2_0) ∧ w'.cell? ⟨gb1200, 1, none⟩ = some (.int .i64 a2_1) ∧ w'.cell? ⟨gb1200, 2, none⟩ = some (.bool a2_2) ∧ w'.cell? ⟨gb1200, 3, none⟩ = some (.slice A2_3 l2_3.length c2_3) ∧ w'.cell? ⟨gb1200, 4, none⟩ = some (.slice A2_4 l2_4.length c2_4) ∧ w'.cell? (ad1204.add (x10_3).toNat) = some (.int .i64 (rd t1201 x10_3))) (ds := []) #[false, false, false, false, false, false, false, false] (by kernel_rfl) rfl rfl ⟨(pkC BK1200.out 0).trans rfl, (pkC BK1200.out 1).trans rfl, (pkC BK1200.out 2).trans rfl, (pkC BK1200.out 3).trans rfl, (pkC BK1200.out 4).trans rfl, hx1204_0⟩ (fun hHeld => ?_); refine with_tabW footbridgeref12_Lacks.tab10 footbridgeref12_Lacks.bits10 (fun HT_ HW_ => ?_)
               generalize wr.drew = w26 at HO_8 HO_9 BK1200 HB hx1204_0 hHeld ⊢
               refine pure_ (i := 0) (N := some 51) (v := ?_) (a' := ?_) #[true, false, false, false, false, false, false, false] rfl rfl (any_of HT_.out (by kernel_rfl)) (fun _ _ _ h => h) (Or.inl ⟨by rfl, ?_⟩) ?_ ?_
               rotate_left
               · intro w'
                 go_simp
                 with_reducible rfl
               rotate_left
               · simp only [Act.put, zA, zB, zC, i64_w, i32_w]
                 rfl
               refine pure_ (i := 1) (N := some 52) (v := ?_) (a' := ?_) #[true, true, false, false, false, false, false, false] rfl rfl (any_of HT_.out (by kernel_rfl)) (fun _ _ _ h => h) (Or.inl ⟨by rfl, ?_⟩) ?_ ?_
               rotate_left
               · intro w'
                 go_simp
                 with_reducible rfl
               rotate_left
               · simp only [Act.put, zA, zB, zC, i64_w, i32_w]
                 rfl
               refine pure_ (i := 2) (N := some 53) (v := ?_) (a' := ?_) #[true, true, true, false, false, false, false, false] rfl rfl (any_of HT_.out (by kernel_rfl)) (fun _ _ _ h => h) (Or.inl ⟨by rfl, ?_⟩) ?_ ?_
               rotate_left
               · intro w'
                 go_simp
                 with_reducible rfl
               rotate_left
               · simp only [Act.put, zA, zB, zC, i64_w, i32_w]
                 rfl
               refine pure_ (i := 4) (N := some 55) (v := ?_) (a' := ?_) #[true, true, true, false, true, false, false, false] rfl rfl (any_of HT_.out (by kernel_rfl)) (fun _ _ _ h => h) (Or.inl ⟨by rfl, ?_⟩) ?_ ?_
               rotate_left
               · intro w'
                 go_simp
                 with_reducible rfl
               rotate_left
               · simp only [Act.put, zA, zB, zC, i64_w, i32_w]
                 rfl
               refine take_ (i := 3) (N := some 54) (v := ?_) (a' := ?_) #[true, true, true, true, true, false, false, false] rfl rfl (take_ofW HT_.out HW_.out (by kernel_rfl)) (fun _ _ _ h => h) (Or.inl ⟨by rfl, ?_⟩) hHeld ?_ ?_
               rotate_left
               · rintro w' ⟨s0, s1, s2, s3, s4, s5⟩
                 go_simp
                 with_reducible rfl
               rotate_left
               · simp only [Act.put, zA, zB, zC, i64_w, i32_w]
                 rfl
               refine take_ (i := 5) (N := some 56) (v := ?_) (a' := ?_) #[true, true, true, true, true, true, false, false] rfl rfl (take_ofW HT_.out HW_.out (by kernel_rfl)) (fun _ _ _ h => h) (Or.inl ⟨by rfl, ?_⟩) hHeld ?_ ?_
               rotate_left
               · rintro w' ⟨s0, s1, s2, s3, s4, s5⟩
                 go_simp
                 with_reducible rfl
               rotate_left
               · simp only [Act.put, zA, zB, zC, i64_w, i32_w]
                 rfl
               refine pure_ (i := 6) (N := some 57) (v := ?_) (a' := ?_) #[true, true, true, true, true, true, true, false] rfl rfl (any_of HT_.out (by kernel_rfl)) (fun _ _ _ h => h) (Or.inl ⟨by rfl, ?_⟩) ?_ ?_
               rotate_left
               · intro w'
                 go_simp
                 with_reducible rfl
               rotate_left
               · simp only [Act.put, zA, zB, zC, i64_w, i32_w]
                 rfl
               refine pure_ (i := 7) (N := some 11) (v := ?_) (a' := ?_) #[true, true, true, true, true, true, true, true] rfl rfl (any_of HT_.out (by kernel_rfl)) (fun _ _ _ h => h) (Or.inl ⟨by rfl, ?_⟩) ?_ ?_
               rotate_left
               · intro w'
                 go_simp
                 with_reducible rfl
               rotate_left
               · simp only [Act.put, zA, zB, zC, i64_w, i32_w]
                 rfl
               refine done_ (done_of HT_.out (by kernel_rfl)) ?_
               obtain ⟨bd_, hbd_⟩ : ∃ b_ : Bool, b_ = decide ((rd t1201 x10_3) < a2_1) := ⟨_, rfl⟩
               rw [← hbd_]
               have HBD_ := Aside0.mk hbd_
               clear hbd_
               go_upto_region 11 with (fail)
               go_cut [82] (fun v82 wc => ∃ (kq : Nat) (x82_23 : Bool), v82 = .bool x82_23 ∧ Aside0 (footbridgeref12_Lacks.j3 kq a0 a1 t1201 x9_3 x10_3 x82_23 a2_0 a2_1 a2_2 l2_3 l2_4 = some (r1, r2)) ∧ Aside0 (kq ≤ k3) ∧ Aside0 (Kd.R (Kd.int .i64) 3 wc w.heap.size (fun _ => True) (.slice (some ad1204) t1201.length co25) t1201) ∧ Aside0 (Kd.R Kd.string 9 wc w.heap.size (fun _ => True) u9 x9_3) ∧ Aside0 (wc.heap[gb1200]? = some (.cells #[.int .i64 a2_0, .int .i64 a2_1, .bool a2_2, (.slice A2_3 l2_3.length c2_3), (.slice A2_4 l2_4.length c2_4)] 82 (0, 0))) ∧ Aside0 (Below w.heap.size w wc))
               case first =>
                have H := HC24.out
                clear HC24
                by_cases c27 : (rd t1201 x10_3) < a2_1
                · rw [if_pos c27] at H
                  have c27b0 : decide ((rd t1201 x10_3) < a2_1) = true := decide_eq_true c27
                  clear c27
                  have hb_ := HBD_.out.trans c27b0
                  subst hb_
                  by_cases c28 : x10_3 < (l2_3.length : Int)
                  · rw [if_pos c28] at H
                    have c28b0 : decide (x10_3 < (l2_3.length : Int)) = true := decide_eq_true c28
                    clear c28
                    by_cases c29 : ((Op.bytesLess (((rd_T86 l2_3 x10_3).f0).toList) a1.toList) = true)
                    · rw [if_pos c29] at H
                      have c29b0 : (Op.bytesLess (((rd_T86 l2_3 x10_3).f0).toList) a1.toList) = true := c29
                      clear c29
                      by_cases c30 : ((rd t1201 x10_3) < a2_1)
                      · rw [if_pos c30] at H
                        have c30b0 : decide ((rd t1201 x10_3) < a2_1) = true := decide_eq_true c30
                        clear c30
                        have H' := Aside0.mk H
                        clear H
                        have hcz31_0 : w26.cell? ⟨gb1200, 0, none⟩ = some (.int .i64 a2_0) := (pkC BK1200.out 0).trans rfl
                        have hcz31_1 : w26.cell? ⟨gb1200, 1, none⟩ = some (.int .i64 a2_1) := (pkC BK1200.out 1).trans rfl
                        have hcz31_2 : w26.cell? ⟨gb1200, 2, none⟩ = some (.bool a2_2) := (pkC BK1200.out 2).trans rfl
                        have hcz31_3 : w26.cell? ⟨gb1200, 3, none⟩ = some (.slice A2_3 l2_3.length c2_3) := (pkC BK1200.out 3).trans rfl
                        have hcz31_4 : w26.cell? ⟨gb1200, 4, none⟩ = some (.slice A2_4 l2_4.length c2_4) := (pkC BK1200.out 4).trans rfl
                        have hfz31_0 := pkF BK1200.out 0
                        have hfz31_1 := pkF BK1200.out 1
                        have hfz31_2 := pkF BK1200.out 2
                        have hfz31_3 := pkF BK1200.out 3
                        have hfz31_4 := pkF BK1200.out 4
                        have p1205 : 0 ≤ (x10_3 : Int) := of_decide_eq_true (by first | (with_reducible assumption) | assumption)
                        have q1205 : x10_3 < (l2_3.length : Int) := of_decide_eq_true (by first | (with_reducible assumption) | assumption)
                        obtain ⟨ad1205, e1205, hx1205_0, hx1205_1⟩ := at_T86 HR2_3.out x10_3 p1205 q1205
                        cases e1205
                        replace hx1205_0 := (HB.out.cell (World.block_lt_of_cell? w _ hx1205_0)).trans hx1205_0
                        replace hx1205_1 := (HB.out.cell (World.block_lt_of_cell? w _ hx1205_1)).trans hx1205_1
                        replace p1205 := eq_true p1205
                        replace q1205 := eq_true q1205
                        go_wp2
                        go_meet
                        case rel => exact ⟨_, (false), (by first | rfl | (simp; done) | (simp [*]; done)), H', ⟨by have := HJ3.out; have := HJ12.out; have := HK3.out; first | omega | exact Nat.le_refl _⟩, ⟨by (with_reducible repeat (first | apply Kd.R_alloc | apply Kd.R_drewN | apply Kd.R_drew)); exact HO_8.out⟩, ⟨by (with_reducible repeat (first | apply Kd.R_alloc | apply Kd.R_drewN | apply Kd.R_drew)); exact HO_9.out⟩, ⟨by (with_reducible repeat (first | refine pkN ?_ _ | refine pkD ?_ | refine pkA ?_ _)); exact BK1200.out⟩, ⟨by repeat (first | (with_reducible first | exact HB.out | apply pbA | apply pbN | apply pbD | refine pbS ?_ GE1200.out) | exact HB.out)⟩⟩
                      · exact absurd (of_decide_eq_true c27b0) c30
                    · rw [if_neg c29] at H
                      have c29b0 : (Op.bytesLess (((rd_T86 l2_3 x10_3).f0).toList) a1.toList) = false := by simpa using c29
                      clear c29
                      have H' := Aside0.mk H
                      clear H
                      have hcz33_0 : w26.cell? ⟨gb1200, 0, none⟩ = some (.int .i64 a2_0) := (pkC BK1200.out 0).trans rfl
                      have hcz33_1 : w26.cell? ⟨gb1200, 1, none⟩ = some (.int .i64 a2_1) := (pkC BK1200.out 1).trans rfl
                      have hcz33_2 : w26.cell? ⟨gb1200, 2, none⟩ = some (.bool a2_2) := (pkC BK1200.out 2).trans rfl
                      have hcz33_3 : w26.cell? ⟨gb1200, 3, none⟩ = some (.slice A2_3 l2_3.length c2_3) := (pkC BK1200.out 3).trans rfl
                      have hcz33_4 : w26.cell? ⟨gb1200, 4, none⟩ = some (.slice A2_4 l2_4.length c2_4) := (pkC BK1200.out 4).trans rfl
                      have hfz33_0 := pkF BK1200.out 0
                      have hfz33_1 := pkF BK1200.out 1
                      have hfz33_2 := pkF BK1200.out 2
                      have hfz33_3 := pkF BK1200.out 3
                      have hfz33_4 := pkF BK1200.out 4
                      have p1205 : 0 ≤ (x10_3 : Int) := of_decide_eq_true (by first | (with_reducible assumption) | assumption)
                      have q1205 : x10_3 < (l2_3.length : Int) := of_decide_eq_true (by first | (with_reducible assumption) | assumption)
                      obtain ⟨ad1205, e1205, hx1205_0, hx1205_1⟩ := at_T86 HR2_3.out x10_3 p1205 q1205
                      cases e1205
                      replace hx1205_0 := (HB.out.cell (World.block_lt_of_cell? w _ hx1205_0)).trans hx1205_0
                      replace hx1205_1 := (HB.out.cell (World.block_lt_of_cell? w _ hx1205_1)).trans hx1205_1
                      replace p1205 := eq_true p1205
                      replace q1205 := eq_true q1205
                      go_wp2
                      go_meet
                      case rel => exact ⟨_, (true), (by first | rfl | (simp; done) | (simp [*]; done)), H', ⟨by have := HJ3.out; have := HJ12.out; have := HK3.out; first | omega | exact Nat.le_refl _⟩, ⟨by (with_reducible repeat (first | apply Kd.R_alloc | apply Kd.R_drewN | apply Kd.R_drew)); exact HO_8.out⟩, ⟨by (with_reducible repeat (first | apply Kd.R_alloc | apply Kd.R_drewN | apply Kd.R_drew)); exact HO_9.out⟩, ⟨by (with_reducible repeat (first | refine pkN ?_ _ | refine pkD ?_ | refine pkA ?_ _)); exact BK1200.out⟩, ⟨by repeat (first | (with_reducible first | exact HB.out | apply pbA | apply pbN | apply pbD | refine pbS ?_ GE1200.out) | exact HB.out)⟩⟩
                  · rw [if_neg c28] at H
                    exact absurd H (by simp)
                · rw [if_neg c27] at H
                  have c27b0 : decide ((rd t1201 x10_3) < a2_1) = false := decide_eq_false c27
                  clear c27
                  have hb_ := HBD_.out.trans c27b0
                  subst hb_
                  by_cases c34 : ((rd t1201 x10_3) < a2_1)
                  · exact absurd c34 (of_decide_eq_false c27b0)
                  · rw [if_neg c34] at H
                    have c34b0 : decide ((rd t1201 x10_3) < a2_1) = false := decide_eq_false c34
                    clear c34
                    by_cases c35 : x10_3 < (l2_3.length : Int)
                    · rw [if_pos c35] at H
                      have c35b0 : decide (x10_3 < (l2_3.length : Int)) = true := decide_eq_true c35
                      clear c35
                      have H' := Aside0.mk H
                      clear H
                      have hcz36_0 : w26.cell? ⟨gb1200, 0, none⟩ = some (.int .i64 a2_0) := (pkC BK1200.out 0).trans rfl
                      have hcz36_1 : w26.cell? ⟨gb1200, 1, none⟩ = some (.int .i64 a2_1) := (pkC BK1200.out 1).trans rfl
                      have hcz36_2 : w26.cell? ⟨gb1200, 2, none⟩ = some (.bool a2_2) := (pkC BK1200.out 2).trans rfl
                      have hcz36_3 : w26.cell? ⟨gb1200, 3, none⟩ = some (.slice A2_3 l2_3.length c2_3) := (pkC BK1200.out 3).trans rfl
                      have hcz36_4 : w26.cell? ⟨gb1200, 4, none⟩ = some (.slice A2_4 l2_4.length c2_4) := (pkC BK1200.out 4).trans rfl
                      have hfz36_0 := pkF BK1200.out 0
                      have hfz36_1 := pkF BK1200.out 1
                      have hfz36_2 := pkF BK1200.out 2
                      have hfz36_3 := pkF BK1200.out 3
                      have hfz36_4 := pkF BK1200.out 4
                      have p1207 : 0 ≤ (x10_3 : Int) := of_decide_eq_true (by first | (with_reducible assumption) | assumption)
                      have q1207 : x10_3 < (l2_3.length : Int) := of_decide_eq_true (by first | (with_reducible assumption) | assumption)
                      obtain ⟨ad1207, e1207, hx1207_0, hx1207_1⟩ := at_T86 HR2_3.out x10_3 p1207 q1207
                      cases e1207
                      replace hx1207_0 := (HB.out.cell (World.block_lt_of_cell? w _ hx1207_0)).trans hx1207_0
                      replace hx1207_1 := (HB.out.cell (World.block_lt_of_cell? w _ hx1207_1)).trans hx1207_1
                      replace p1207 := eq_true p1207
                      replace q1207 := eq_true q1207
                      go_wp2
                      go_meet
                      case rel => exact ⟨_, (!(Op.bytesLess a1.toList (((rd_T86 l2_3 x10_3).f0).toList))), (by first | rfl | (simp; done) | (simp [*]; done)), H', ⟨by have := HJ3.out; have := HJ12.out; have := HK3.out; first | omega | exact Nat.le_refl _⟩, ⟨by (with_reducible repeat (first | apply Kd.R_alloc | apply Kd.R_drewN | apply Kd.R_drew)); exact HO_8.out⟩, ⟨by (with_reducible repeat (first | apply Kd.R_alloc | apply Kd.R_drewN | apply Kd.R_drew)); exact HO_9.out⟩, ⟨by (with_reducible repeat (first | refine pkN ?_ _ | refine pkD ?_ | refine pkA ?_ _)); exact BK1200.out⟩, ⟨by repeat (first | (with_reducible first | exact HB.out | apply pbA | apply pbN | apply pbD | refine pbS ?_ GE1200.out) | exact HB.out)⟩⟩
                    · rw [if_neg c35] at H
                      exact absurd H (by simp)
               case rest =>
                clear HC24
                try clear c1
                try clear p1
                try clear q1
                try clear hx1
                try clear c2
                try clear p2
                try clear c3
                try clear c5
                try clear c6
                try clear c8
                try clear c8b0
                try clear c11
                try clear c12
                try clear p12
                try clear q12
                try clear hx12
                try clear c16
                try clear c16b0
                try clear c16b1
                try clear c16b2
                try clear c21
                try clear c22
                try clear c22b0
                try clear c23
                try clear c23b0
                try clear c27
                try clear c27b0
                try clear c28
                try clear c28b0
                try clear c29
                try clear c29b0
                try clear c30
                try clear c30b0
                try clear c34
                try clear c34b0
                try clear c35
                try clear c35b0
                try clear hcz10_0
                try clear hcz10_1
                try clear hcz10_2
                try clear hcz10_3
                try clear hcz10_4
                try clear hcz14_0
                try clear hcz14_1
                try clear hcz14_2
                try clear hcz14_3
                try clear hcz14_4
                try clear hcz17_0
                try clear hcz17_1
                try clear hcz17_2
                try clear hcz17_3
                try clear hcz17_4
                try clear hcz19_0
                try clear hcz19_1
                try clear hcz19_2
                try clear hcz19_3
                try clear hcz19_4
                try clear hcz31_0
                try clear hcz31_1
                try clear hcz31_2
                try clear hcz31_3
                try clear hcz31_4
                try clear hcz32_0
                try clear hcz32_1
                try clear hcz32_2
                try clear hcz32_3
                try clear hcz32_4
                try clear hcz33_0
                try clear hcz33_1
                try clear hcz33_2
                try clear hcz33_3
                try clear hcz33_4
                try clear hcz36_0
                try clear hcz36_1
                try clear hcz36_2
                try clear hcz36_3
                try clear hcz36_4
                try clear hcz7_0
                try clear hcz7_1
                try clear hcz7_2
                try clear hcz7_3
                try clear hcz7_4
                try clear hcz9_0
                try clear hcz9_1
                try clear hcz9_2
                try clear hcz9_3
                try clear hcz9_4
                try clear hfz10_0
                try clear hfz10_1
                try clear hfz10_2
                try clear hfz10_3
                try clear hfz10_4
                try clear hfz14_0
                try clear hfz14_1
                try clear hfz14_2
                try clear hfz14_3
                try clear hfz14_4
                try clear hfz17_0
                try clear hfz17_1
                try clear hfz17_2
                try clear hfz17_3
                try clear hfz17_4
                try clear hfz19_0
                try clear hfz19_1
                try clear hfz19_2
                try clear hfz19_3
                try clear hfz19_4
                try clear hfz31_0
                try clear hfz31_1
                try clear hfz31_2
                try clear hfz31_3
                try clear hfz31_4
                try clear hfz32_0
                try clear hfz32_1
                try clear hfz32_2
                try clear hfz32_3
                try clear hfz32_4
                try clear hfz33_0
                try clear hfz33_1
                try clear hfz33_2
                try clear hfz33_3
                try clear hfz33_4
                try clear hfz36_0
                try clear hfz36_1
                try clear hfz36_2
                try clear hfz36_3
                try clear hfz36_4
                try clear hfz7_0
                try clear hfz7_1
                try clear hfz7_2
                try clear hfz7_3
                try clear hfz7_4
                try clear hfz9_0
                try clear hfz9_1
                try clear hfz9_2
                try clear hfz9_3
                try clear hfz9_4
                try clear hx1204_0
                try clear hx1205_0
                try clear hx1205_1
                try clear hx1206_0
                try clear hx1206_1
                try clear hx1207_0
                try clear hx1207_1
                try clear p1204
                try clear p1205
                try clear p1206
                try clear p1207
                try clear p2
                try clear q1204
                try clear q1205
                try clear q1206
                try clear q1207
                obtain ⟨kq, x82_23, rfl, HA, HJ23, HO_8, HO_9, BK1200, HB⟩ := hcut
                cases kq with
                | zero => exact absurd HA.out (by simp [footbridgeref12_Lacks.j3])
                | succ kj23 =>
                 have H := HA.out
                 clear HA
                 simp only [footbridgeref12_Lacks.j3] at H
                 by_cases c37 : x82_23 = true
                 · subst c37
                   have H1 : (some (false, ([] : List ByteArray))) = some (r1, r2) := by rw [if_pos rfl] at H; exact H
                   clear H
                   have H := H1
                   clear H1
                   simp only [Option.some.injEq, Prod.mk.injEq] at H
                   obtain ⟨rfl, rfl⟩ := H
                   go_wp2
                   go_ret2
                   exact ⟨_, by first | rfl | (simp [errW_none, errW_some] <;> rfl) | (simp [*, errW_none, errW_some] <;> rfl), by first | exact Kd.R_nil _ _ _ _ _ | exact Kd.N_nil _ _ _ _ _ | exact Kd.V_nil _ _ _ _ _ | exact Kd.Q_nil _ _ _ _ _ | exact Kd.S_nil _ _ _ _ _, by repeat (first | (with_reducible first | exact HB.out | apply pbA | apply pbN | apply pbD | refine pbS ?_ GE1200.out) | exact HB.out)⟩
                 · replace c37 := Bool.eq_false_iff.mpr c37
                   subst c37
                   have H1 : (if 0 ≤ x10_3 then (if x10_3 < (l2_3.length : Int) then (if x10_3 < (t1201.length : Int) then (if x10_3 < (l2_4.length : Int) then ((footbridgeref12_leads.f kj23 a0 ((rd_T86 l2_3 x10_3).f0) ((rd_T86 l2_3 x10_3).f1) a2_0 (rd t1201 x10_3) (rd_L10 l2_4 x10_3)).bind fun bt1211 => (if bt1211.1 = true then (if x9_3.length + bt1211.2.length < 8796093022208 then (footbridgeref12_Lacks.l0 kj23 a0 a1 t1201 (x9_3 ++ bt1211.2) (wrap64 (x10_3 + 1)) a2_0 a2_1 a2_2 l2_3 l2_4) else (none)) else (some (false, ([] : List ByteArray))))) else (none)) else (none)) else (none)) else (none)) = some (r1, r2) := by rw [if_neg (show ¬ (false = true) by decide)] at H; exact H
                   clear H
                   have H := H1
                   clear H1
                   by_cases c38 : 0 ≤ x10_3
                   · rw [if_pos c38] at H
                     have c38b0 : decide (0 ≤ x10_3) = true := decide_eq_true c38
                     clear c38
                     by_cases c39 : x10_3 < (l2_3.length : Int)
                     · rw [if_pos c39] at H
                       have c39b0 : decide (x10_3 < (l2_3.length : Int)) = true := decide_eq_true c39
                       clear c39
                       by_cases c40 : x10_3 < (t1201.length : Int)
                       · rw [if_pos c40] at H
                         have c40b0 : decide (x10_3 < (t1201.length : Int)) = true := decide_eq_true c40
                         clear c40
                         by_cases c41 : x10_3 < (l2_4.length : Int)
                         · rw [if_pos c41] at H
                           have c41b0 : decide (x10_3 < (l2_4.length : Int)) = true := decide_eq_true c41
                           clear c41
                           replace H := Option.bind_eq_some_iff.mp H
                           obtain ⟨⟨t1211, t1212⟩, A420, H⟩ := H
                           replace H : (if t1211 = true then (if x9_3.length + t1212.length < 8796093022208 then (footbridgeref12_Lacks.l0 kj23 a0 a1 t1201 (x9_3 ++ t1212) (wrap64 (x10_3 + 1)) a2_0 a2_1 a2_2 l2_3 l2_4) else (none)) else (some (false, ([] : List ByteArray)))) = some (r1, r2) := H
                           have A42 := Aside0.mk A420
                           clear A420
                           by_cases c43 : t1211 = true
                           · subst c43
                             have H1 : (if x9_3.length + t1212.length < 8796093022208 then (footbridgeref12_Lacks.l0 kj23 a0 a1 t1201 (x9_3 ++ t1212) (wrap64 (x10_3 + 1)) a2_0 a2_1 a2_2 l2_3 l2_4) else (none)) = some (r1, r2) := by rw [if_pos rfl] at H; exact H
                             clear H
                             have H := H1
                             clear H1
                             by_cases c44 : x9_3.length + t1212.length < 8796093022208
                             · rw [if_pos c44] at H
                               have LMc44 := Aside0.mk c44
                               clear c44
                               obtain ⟨y1215, hy1215⟩ : ∃ y_ : List ByteArray, y_ = (x9_3 ++ t1212) := ⟨_, rfl⟩
                               replace H : (footbridgeref12_Lacks.l0 kj23 a0 a1 t1201 y1215 (wrap64 (x10_3 + 1)) a2_0 a2_1 a2_2 l2_3 l2_4) = some (r1, r2) := by first | (rw [hy1215]; with_reducible exact H) | (have H2_ := (Option.bind_some _ _).symm.trans H; rw [hy1215]; with_reducible exact H2_) | (have H2_ := (Option.bind_some _ _).symm.trans H; with_reducible exact H2_) | with_reducible exact H | (rw [hy1215]; exact H) | exact H
                               have Ny1215 := Aside0.mk hy1215
                               clear hy1215
                               have H' := Aside0.mk H
                               clear H
                               try go_wp2
                               have n0_ := Aside0.mk (Kd.R_drew HO_8.out)
                               have n1_ := Aside0.mk (Kd.R_drew HO_9.out)
                               have n2_ := Aside0.mk (pkD BK1200.out)
                               have n3_ := Aside0.mk (pbD HB.out)
                               clear HO_8
                               clear HO_9
                               clear BK1200
                               clear HB
                               have HO_8 := n0_
                               have HO_9 := n1_
                               have BK1200 := n2_
                               have HB := n3_
                               clear n0_ n1_ n2_ n3_
                               have p1208 : 0 ≤ (x10_3 : Int) := of_decide_eq_true (by first | (with_reducible assumption) | assumption)
                               have q1208 : x10_3 < (l2_3.length : Int) := of_decide_eq_true (by first | (with_reducible assumption) | assumption)
                               obtain ⟨ad1208, e1208, hx1208_0, hx1208_1⟩ := at_T86 HR2_3.out x10_3 p1208 q1208
                               have hw1208_1 := hx1208_1
                               have hw1208_0 := hx1208_0
                               cases e1208
                               replace hx1208_0 := (HB.out.cell (World.block_lt_of_cell? w _ hx1208_0)).trans hx1208_0
                               replace hx1208_1 := (HB.out.cell (World.block_lt_of_cell? w _ hx1208_1)).trans hx1208_1
                               replace p1208 := eq_true p1208
                               replace q1208 := eq_true q1208
                               have p1209 : 0 ≤ (x10_3 : Int) := of_decide_eq_true (by first | (with_reducible assumption) | assumption)
                               have q1209 : x10_3 < (t1201.length : Int) := of_decide_eq_true (by first | (with_reducible assumption) | assumption)
                               obtain ⟨ad1209, e1209, hx1209_0⟩ := Kd.at_int (Kd.R_reads' HO_8.out).2.2 x10_3 p1209 q1209
                               obtain rfl : ad1204 = ad1209 := (by injection e1209)
                               replace p1209 := eq_true p1209
                               replace q1209 := eq_true q1209
                               have p1210 : 0 ≤ (x10_3 : Int) := of_decide_eq_true (by first | (with_reducible assumption) | assumption)
                               have q1210 : x10_3 < (l2_4.length : Int) := of_decide_eq_true (by first | (with_reducible assumption) | assumption)
                               obtain ⟨ad1210, A1210_0, c1210_0, e1210, hx1210_0, hl1210_0, hi1210_0⟩ := at_L10 HR2_4.out x10_3 p1210 q1210
                               have hw1210_0 := hx1210_0
                               cases e1210
                               replace hx1210_0 := (HB.out.cell (World.block_lt_of_cell? w _ hx1210_0)).trans hx1210_0
                               have HR1210_0 := Aside0.mk hi1210_0
                               have HC1210_0 := Aside0.mk hl1210_0
                               clear hi1210_0 hl1210_0
                               replace p1210 := eq_true p1210
                               replace q1210 := eq_true q1210
                               refine start_ (n := 23) (S := fun w' => w'.cell? ⟨gb1200, 0, none⟩ = some (.int .i64 a2_0) ∧ w'.cell? ⟨gb1200, 1, none⟩ = some (.int .i64 a2_1) ∧ w'.cell? ⟨gb1200, 2, none⟩ = some (.bool a2_2) ∧ w'.cell? ⟨gb1200, 3, none⟩ = some (.slice (some ad1208) l2_3.length c2_3) ∧ w'.cell? ⟨gb1200, 4, none⟩ = some (.slice (some ad1210) l2_4.length c2_4) ∧ w'.cell? (ad1208.add ((x10_3).toNat * 2)) = some (.string ((rd_T86 l2_3 x10_3).f0)) ∧ w'.cell? ⟨(ad1208.add ((x10_3).toNat * 2)).block, (ad1208.add ((x10_3).toNat * 2)).off + 1, none⟩ = some (.string ((rd_T86 l2_3 x10_3).f1)) ∧ w'.cell? (ad1204.add (x10_3).toNat) = some (.int .i64 (rd t1201 x10_3)) ∧ w'.cell? (ad1210.add (x10_3).toNat) = some (.slice A1210_0 (rd_L10 l2_4 x10_3).length c1210_0)) (ds := []) #[false, false, false, false, false, false, false, false, false, false, false, false, false, false, false, false, false, false, false, false, false, false, false] (by kernel_rfl) rfl rfl ⟨(pkC BK1200.out 0).trans rfl, (pkC BK1200.out 1).trans rfl, (pkC BK1200.out 2).trans rfl, (pkC BK1200.out 3).trans rfl, (pkC BK1200.out 4).trans rfl, ((HB.out.cell (World.block_lt_of_cell? w _ hw1208_0)).trans hw1208_0), ((HB.out.cell (World.block_lt_of_cell? w _ hw1208_1)).trans hw1208_1), hx1209_0, ((HB.out.cell (World.block_lt_of_cell? w _ hw1210_0)).trans hw1210_0)⟩ (fun hHeld => ?_); refine with_tabW footbridgeref12_Lacks.tab13 footbridgeref12_Lacks.bits13 (fun HT_ HW_ => ?_)
                               generalize wc.drew = w45 at HO_8 HO_9 BK1200 HB HR1210_0 hx1208_0 hx1208_1 hx1209_0 hx1210_0 hHeld ⊢
                               refine pure_ (i := 0) (N := some 84) (v := ?_) (a' := ?_) #[true, false, false, false, false, false, false, false, false, false, false, false, false, false, false, false, false, false, false, false, false, false, false] rfl rfl (any_of HT_.out (by kernel_rfl)) (fun _ _ _ h => h) (Or.inl ⟨by rfl, ?_⟩) ?_ ?_
                               rotate_left
                               · intro w'
                                 go_simp
                                 with_reducible rfl
                               rotate_left
                               · simp only [Act.put, zA, zB, zC, i64_w, i32_w]
                                 rfl
                               refine pure_ (i := 1) (N := some 85) (v := ?_) (a' := ?_) #[true, true, false, false, false, false, false, false, false, false, false, false, false, false, false, false, false, false, false, false, false, false, false] rfl rfl (any_of HT_.out (by kernel_rfl)) (fun _ _ _ h => h) (Or.inl ⟨by rfl, ?_⟩) ?_ ?_
                               rotate_left
                               · intro w'
                                 go_simp
                                 with_reducible rfl
                               rotate_left
                               · simp only [Act.put, zA, zB, zC, i64_w, i32_w]
                                 rfl
                               refine pure_ (i := 3) (N := some 87) (v := ?_) (a' := ?_) #[true, true, false, true, false, false, false, false, false, false, false, false, false, false, false, false, false, false, false, false, false, false, false] rfl rfl (any_of HT_.out (by kernel_rfl)) (fun _ _ _ h => h) (Or.inl ⟨by rfl, ?_⟩) ?_ ?_
                               rotate_left
                               · intro w'
                                 go_simp
                                 with_reducible rfl
                               rotate_left
                               · simp only [Act.put, zA, zB, zC, i64_w, i32_w]
                                 rfl
                               refine pure_ (i := 6) (N := some 90) (v := ?_) (a' := ?_) #[true, true, false, true, false, false, true, false, false, false, false, false, false, false, false, false, false, false, false, false, false, false, false] rfl rfl (any_of HT_.out (by kernel_rfl)) (fun _ _ _ h => h) (Or.inl ⟨by rfl, ?_⟩) ?_ ?_
                               rotate_left
                               · intro w'
                                 go_simp
                                 with_reducible rfl
                               rotate_left
                               · simp only [Act.put, zA, zB, zC, i64_w, i32_w]
                                 rfl
                               refine pure_ (i := 8) (N := some 92) (v := ?_) (a' := ?_) #[true, true, false, true, false, false, true, false, true, false, false, false, false, false, false, false, false, false, false, false, false, false, false] rfl rfl (any_of HT_.out (by kernel_rfl)) (fun _ _ _ h => h) (Or.inl ⟨by rfl, ?_⟩) ?_ ?_
                               rotate_left
                               · intro w'
                                 go_simp
                                 with_reducible rfl
                               rotate_left
                               · simp only [Act.put, zA, zB, zC, i64_w, i32_w]
                                 rfl
                               refine pure_ (i := 9) (N := some 93) (v := ?_) (a' := ?_) #[true, true, false, true, false, false, true, false, true, true, false, false, false, false, false, false, false, false, false, false, false, false, false] rfl rfl (any_of HT_.out (by kernel_rfl)) (fun _ _ _ h => h) (Or.inl ⟨by rfl, ?_⟩) ?_ ?_
                               rotate_left
                               · intro w'
                                 go_simp
                                 with_reducible rfl
                               rotate_left
                               · simp only [Act.put, zA, zB, zC, i64_w, i32_w]
                                 rfl
                               refine pure_ (i := 10) (N := some 94) (v := ?_) (a' := ?_) #[true, true, false, true, false, false, true, false, true, true, true, false, false, false, false, false, false, false, false, false, false, false, false] rfl rfl (any_of HT_.out (by kernel_rfl)) (fun _ _ _ h => h) (Or.inl ⟨by rfl, ?_⟩) ?_ ?_
                               rotate_left
                               · intro w'
                                 go_simp
                                 with_reducible rfl
                               rotate_left
                               · simp only [Act.put, zA, zB, zC, i64_w, i32_w]
                                 rfl
                               refine pure_ (i := 12) (N := some 96) (v := ?_) (a' := ?_) #[true, true, false, true, false, false, true, false, true, true, true, false, true, false, false, false, false, false, false, false, false, false, false] rfl rfl (any_of HT_.out (by kernel_rfl)) (fun _ _ _ h => h) (Or.inl ⟨by rfl, ?_⟩) ?_ ?_
                               rotate_left
                               · intro w'
                                 go_simp
                                 with_reducible rfl
                               rotate_left
                               · simp only [Act.put, zA, zB, zC, i64_w, i32_w]
                                 rfl
                               refine pure_ (i := 14) (N := some 98) (v := ?_) (a' := ?_) #[true, true, false, true, false, false, true, false, true, true, true, false, true, false, true, false, false, false, false, false, false, false, false] rfl rfl (any_of HT_.out (by kernel_rfl)) (fun _ _ _ h => h) (Or.inl ⟨by rfl, ?_⟩) ?_ ?_
                               rotate_left
                               · intro w'
                                 go_simp
                                 with_reducible rfl
                               rotate_left
                               · simp only [Act.put, zA, zB, zC, i64_w, i32_w]
                                 rfl
                               refine take_ (i := 2) (N := some 86) (v := ?_) (a' := ?_) #[true, true, true, true, false, false, true, false, true, true, true, false, true, false, true, false, false, false, false, false, false, false, false] rfl rfl (take_ofW HT_.out HW_.out (by kernel_rfl)) (fun _ _ _ h => h) (Or.inl ⟨by rfl, ?_⟩) hHeld ?_ ?_
                               rotate_left
                               · rintro w' ⟨s0, s1, s2, s3, s4, s5, s6, s7, s8⟩
                                 go_simp
                                 with_reducible rfl
                               rotate_left
                               · simp only [Act.put, zA, zB, zC, i64_w, i32_w]
                                 rfl
                               refine pure_ (i := 4) (N := some 88) (v := ?_) (a' := ?_) #[true, true, true, true, true, false, true, false, true, true, true, false, true, false, true, false, false, false, false, false, false, false, false] rfl rfl (any_of HT_.out (by kernel_rfl)) (fun _ _ _ h => h) (Or.inl ⟨by rfl, ?_⟩) ?_ ?_
                               rotate_left
                               · intro w'
                                 go_simp
                                 with_reducible rfl
                               rotate_left
                               · simp only [Act.put, zA, zB, zC, i64_w, i32_w]
                                 rfl
                               refine take_ (i := 5) (N := some 89) (v := ?_) (a' := ?_) #[true, true, true, true, true, true, true, false, true, true, true, false, true, false, true, false, false, false, false, false, false, false, false] rfl rfl (take_ofW HT_.out HW_.out (by kernel_rfl)) (fun _ _ _ h => h) (Or.inl ⟨by rfl, ?_⟩) hHeld ?_ ?_
                               rotate_left
                               · rintro w' ⟨s0, s1, s2, s3, s4, s5, s6, s7, s8⟩
                                 go_simp
                                 with_reducible rfl
                               rotate_left
                               · simp only [Act.put, zA, zB, zC, i64_w, i32_w]
                                 rfl
                               refine take_ (i := 7) (N := some 91) (v := ?_) (a' := ?_) #[true, true, true, true, true, true, true, true, true, true, true, false, true, false, true, false, false, false, false, false, false, false, false] rfl rfl (take_ofW HT_.out HW_.out (by kernel_rfl)) (fun _ _ _ h => h) (Or.inl ⟨by rfl, ?_⟩) hHeld ?_ ?_
                               rotate_left
                               · rintro w' ⟨s0, s1, s2, s3, s4, s5, s6, s7, s8⟩
                                 go_simp
                                 with_reducible rfl
                               rotate_left
                               · simp only [Act.put, zA, zB, zC, i64_w, i32_w]
                                 rfl
                               refine take_ (i := 11) (N := some 95) (v := ?_) (a' := ?_) #[true, true, true, true, true, true, true, true, true, true, true, true, true, false, true, false, false, false, false, false, false, false, false] rfl rfl (take_ofW HT_.out HW_.out (by kernel_rfl)) (fun _ _ _ h => h) (Or.inl ⟨by rfl, ?_⟩) hHeld ?_ ?_
                               rotate_left
                               · rintro w' ⟨s0, s1, s2, s3, s4, s5, s6, s7, s8⟩
                                 go_simp
                                 with_reducible rfl
                               rotate_left
                               · simp only [Act.put, zA, zB, zC, i64_w, i32_w]
                                 rfl
                               refine take_ (i := 13) (N := some 97) (v := ?_) (a' := ?_) #[true, true, true, true, true, true, true, true, true, true, true, true, true, true, true, false, false, false, false, false, false, false, false] rfl rfl (take_ofW HT_.out HW_.out (by kernel_rfl)) (fun _ _ _ h => h) (Or.inl ⟨by rfl, ?_⟩) hHeld ?_ ?_
                               rotate_left
                               · rintro w' ⟨s0, s1, s2, s3, s4, s5, s6, s7, s8⟩
                                 go_simp
                                 with_reducible rfl
                               rotate_left
                               · simp only [Act.put, zA, zB, zC, i64_w, i32_w]
                                 rfl
                               refine pure_ (i := 15) (N := some 99) (v := ?_) (a' := ?_) #[true, true, true, true, true, true, true, true, true, true, true, true, true, true, true, true, false, false, false, false, false, false, false] rfl rfl (any_of HT_.out (by kernel_rfl)) (fun _ _ _ h => h) (Or.inl ⟨by rfl, ?_⟩) ?_ ?_
                               rotate_left
                               · intro w'
                                 go_simp
                                 with_reducible rfl
                               rotate_left
                               · simp only [Act.put, zA, zB, zC, i64_w, i32_w]
                                 rfl
                               refine take_ (i := 16) (N := some 100) (v := ?_) (a' := ?_) #[true, true, true, true, true, true, true, true, true, true, true, true, true, true, true, true, true, false, false, false, false, false, false] rfl rfl (take_ofW HT_.out HW_.out (by kernel_rfl)) (fun _ _ _ h => h) (Or.inl ⟨by rfl, ?_⟩) hHeld ?_ ?_
                               rotate_left
                               · rintro w' ⟨s0, s1, s2, s3, s4, s5, s6, s7, s8⟩
                                 go_simp
                                 with_reducible rfl
                               rotate_left
                               · simp only [Act.put, zA, zB, zC, i64_w, i32_w]
                                 rfl
                               refine one_ (i := 17) (N := some 101) #[true, true, true, true, true, true, true, true, true, true, true, true, true, true, true, true, true, true, false, false, false, false, false] rfl rfl (one_of HT_.out (by kernel_rfl)) (by decide) (fun K hK => ?_)
                               refine goes_ Try.func125 (by kernel_rfl) rfl #[.string a0, .agg #[.string ((rd_T86 l2_3 x10_3).f0), .string ((rd_T86 l2_3 x10_3).f1)], .int .i64 a2_0, .int .i64 (rd t1201 x10_3), .slice A1210_0 (rd_L10 l2_4 x10_3).length c1210_0] (by rfl) rfl rfl (by (try simp only [List.map_toArray, List.map_cons, List.map_nil]); first | done | rfl | (simp only [List.length_drop, List.length_take]; rfl)) ?_
                               with_reducible refine (footbridgeref12_leads.calls kj23 a0 ((rd_T86 l2_3 x10_3).f0) ((rd_T86 l2_3 x10_3).f1) a2_0 (rd t1201 x10_3) _ _ (rd_L10 l2_4 x10_3) true t1212 _ ?side1 ?side2 A42.out).mono ?_
                               (case side1 => repeat (first | exact (Kd.C_below HR1210_0.out HB.out) | (with_reducible refine Kd.C_alloc ?_ _) | (with_reducible refine Kd.C_drewN ?_ _) | (with_reducible refine Kd.C_drew ?_)))
                               (case side2 => exact HC1210_0.out)
                               rintro e w46 ⟨v1213, rfl, ho0, hb⟩
                               have HS7_ := (hb.cell (World.block_lt_of_cell? _ _ (hHeld.2.2.2.2.2.2.2.1))).trans (hHeld.2.2.2.2.2.2.2.1)
                               refine ⟨_, rfl, ?_⟩
                               have n0_ := Aside0.mk (Kd.R_below (by (with_reducible repeat (first | apply Kd.R_alloc | apply Kd.R_drewN | apply Kd.R_drew)); exact HO_8.out) hb)
                               have n1_ := Aside0.mk (Kd.R_elder' (by (with_reducible repeat (first | apply Kd.R_alloc | apply Kd.R_drewN | apply Kd.R_drew)); exact HO_9.out) (Kd.R_base ho0) hb)
                               have n2_ := Aside0.mk (Kd.R_lower (Kd.R_new' ho0 (Kd.R_lt (by (with_reducible repeat (first | apply Kd.R_alloc | apply Kd.R_drewN | apply Kd.R_drew)); exact HO_9.out))) (below_size (by repeat (first | (with_reducible first | exact HB.out | apply pbA | apply pbN | apply pbD | refine pbS ?_ GE1200.out) | exact HB.out))))
                               have n3_ := Aside0.mk (blk_below (g := gb1200) (o := .cells #[.int .i64 a2_0, .int .i64 a2_1, .bool a2_2, .slice (some ad1208) l2_3.length c2_3, .slice (some ad1210) l2_4.length c2_4] 82 (0, 0)) (by (with_reducible repeat (first | refine pkN ?_ _ | refine pkD ?_ | refine pkA ?_ _)); exact BK1200.out) hb)
                               have n4_ := Aside0.mk (below_step (by repeat (first | (with_reducible first | exact HB.out | apply pbA | apply pbN | apply pbD | refine pbS ?_ GE1200.out) | exact HB.out)) hb)
                               clear HO_8
                               clear HO_9
                               clear BK1200
                               clear HB
                               have HO_8 := n0_
                               have HO_9 := n1_
                               have HO1214 := n2_
                               have BK1200 := n3_
                               have HB := n4_
                               clear n0_ n1_ n2_ n3_ n4_
                               (try clear hb)
                               (try clear hb2)
                               (try clear hk)
                               (try clear hi)
                               (try clear ho0)
                               refine hK.out _ _ ⟨(pkC BK1200.out 0).trans rfl, (pkC BK1200.out 1).trans rfl, (pkC BK1200.out 2).trans rfl, (pkC BK1200.out 3).trans rfl, (pkC BK1200.out 4).trans rfl, ((HB.out.cell (World.block_lt_of_cell? w _ hw1208_0)).trans hw1208_0), ((HB.out.cell (World.block_lt_of_cell? w _ hw1208_1)).trans hw1208_1), HS7_, ((HB.out.cell (World.block_lt_of_cell? w _ hw1210_0)).trans hw1210_0)⟩ (fun hHeld => ?_)
                               clear hK K
                               refine norm_ (a' := ?_) ?_ ?_
                               rotate_left
                               · show Act.put _ (some 101) _ = _
                                 simp only [Act.put, zA, zB, zC, i64_w, i32_w]
                                 rfl
                               refine pure_ (i := 18) (N := some 83) (v := ?_) (a' := ?_) #[true, true, true, true, true, true, true, true, true, true, true, true, true, true, true, true, true, true, true, false, false, false, false] rfl rfl (any_of HT_.out (by kernel_rfl)) (fun _ _ _ h => h) (Or.inl ⟨by rfl, ?_⟩) ?_ ?_
                               rotate_left
                               · intro w'
                                 go_simp
                                 with_reducible rfl
                               rotate_left
                               · simp only [Act.put, zA, zB, zC, i64_w, i32_w]
                                 rfl
                               refine pure_ (i := 19) (N := some 102) (v := ?_) (a' := ?_) #[true, true, true, true, true, true, true, true, true, true, true, true, true, true, true, true, true, true, true, true, false, false, false] rfl rfl (any_of HT_.out (by kernel_rfl)) (fun _ _ _ h => h) (Or.inl ⟨by rfl, ?_⟩) ?_ ?_
                               rotate_left
                               · intro w'
                                 go_simp
                                 with_reducible rfl
                               rotate_left
                               · simp only [Act.put, zA, zB, zC, i64_w, i32_w]
                                 rfl
                               refine pure_ (i := 20) (N := some 103) (v := ?_) (a' := ?_) #[true, true, true, true, true, true, true, true, true, true, true, true, true, true, true, true, true, true, true, true, true, false, false] rfl rfl (any_of HT_.out (by kernel_rfl)) (fun _ _ _ h => h) (Or.inl ⟨by rfl, ?_⟩) ?_ ?_
                               rotate_left
                               · intro w'
                                 go_simp
                                 with_reducible rfl
                               rotate_left
                               · simp only [Act.put, zA, zB, zC, i64_w, i32_w]
                                 rfl
                               refine pure_ (i := 21) (N := some 12) (v := ?_) (a' := ?_) #[true, true, true, true, true, true, true, true, true, true, true, true, true, true, true, true, true, true, true, true, true, true, false] rfl rfl (any_of HT_.out (by kernel_rfl)) (fun _ _ _ h => h) (Or.inl ⟨by rfl, ?_⟩) ?_ ?_
                               rotate_left
                               · intro w'
                                 go_simp
                                 with_reducible rfl
                               rotate_left
                               · simp only [Act.put, zA, zB, zC, i64_w, i32_w]
                                 rfl
                               refine pure_ (i := 22) (N := some 13) (v := ?_) (a' := ?_) #[true, true, true, true, true, true, true, true, true, true, true, true, true, true, true, true, true, true, true, true, true, true, true] rfl rfl (any_of HT_.out (by kernel_rfl)) (fun _ _ _ h => h) (Or.inl ⟨by rfl, ?_⟩) ?_ ?_
                               rotate_left
                               · intro w'
                                 go_simp
                                 with_reducible rfl
                               rotate_left
                               · simp only [Act.put, zA, zB, zC, i64_w, i32_w]
                                 rfl
                               refine done_ (done_of HT_.out (by kernel_rfl)) ?_
                               obtain ⟨Ao48, co48, eo48⟩ := Kd.R_slice HO1214.out
                               subst eo48
                               try go_wp2_with (first | ((with_reducible refine gate_builtin (b := .append) (xs := #[.tmp 106, .tmp 107]) rfl ?_); at_builtin; refine Kd.R_append_rows Kd.string (w0 := w) w.heap.size rfl (.tmp 106) (.tmp 107) 63 9 (.string ⟨#[]⟩) 16 rfl Try.underlying63 info9 rfl (by decide) (by omega) u9 x9_3 t1212 _ _ _ (fun k_ => some k_ ≠ (.slice Ao48 t1212.length co48 : Value).ownBlock) (fun _ => False) rfl rfl ?aO ?aR (fun _ _ h => h) (fun _ h => h.elim) ?aF ?aB ?aS ?aL ?_; (case aR => repeat (first | exact (Kd.R_reads' HO1214.out).2.2 | (with_reducible refine Kd.C_alloc ?_ _) | (with_reducible refine Kd.C_drewN ?_ _) | (with_reducible refine Kd.C_drew ?_))); (case aB => exact (by repeat (first | (with_reducible first | exact HB.out | apply pbA | apply pbN | apply pbD | refine pbS ?_ GE1200.out) | exact HB.out))); (case aF => exact (fun k_ hk => Kd.fresh' (Kd.R_lt (by (with_reducible repeat (first | apply Kd.R_alloc | apply Kd.R_drewN | apply Kd.R_drew)); exact HO1214.out)) k_ hk)); (case aO => exact (by (with_reducible repeat (first | apply Kd.R_alloc | apply Kd.R_drewN | apply Kd.R_drew)); exact Kd.R_mono HO_9.out (fun _ hk => hk.2))); (case aS => exact (below_size (by repeat (first | (with_reducible first | exact HB.out | apply pbA | apply pbN | apply pbD | refine pbS ?_ GE1200.out) | exact HB.out)))); (case aL => have := LMc44.out; omega); intro v1216 w47 ho hb hg hat; rw [← Ny1215.out] at ho; have n0_ := Aside0.mk (Kd.R_over' (by (with_reducible repeat (first | apply Kd.R_alloc | apply Kd.R_drewN | apply Kd.R_drew)); exact HO_8.out) (Kd.R_typed (by (with_reducible repeat (first | apply Kd.R_alloc | apply Kd.R_drewN | apply Kd.R_drew)); exact HO_9.out)) (by decide) hg); have n1_ := Aside0.mk (blk_grown (g := gb1200) (o := .cells #[.int .i64 a2_0, .int .i64 a2_1, .bool a2_2, .slice (some ad1208) l2_3.length c2_3, .slice (some ad1210) l2_4.length c2_4] 82 (0, 0)) (by (with_reducible repeat (first | refine pkN ?_ _ | refine pkD ?_ | refine pkA ?_ _)); exact BK1200.out) hg (Kd.R_ne HO_9.out BK1200.out (by decide))); have n2_ := Aside0.mk (Kd.R_after (ok := (fun _ => True)) (by (with_reducible repeat (first | apply Kd.R_alloc | apply Kd.R_drewN | apply Kd.R_drew)); exact HO1214.out) hg hat); have n3_ := Aside0.mk (hb); have n4_ := Aside0.mk (ho); clear HO_8; clear BK1200; clear HO1214; clear HB; clear HO_9; have HO_8 := n0_; have BK1200 := n1_; have HO1214 := n2_; have HB := n3_; have HO1217 := n4_; clear n0_ n1_ n2_ n3_ n4_; clear ho hb hg hat))
                               go_roundg kj23
                               case measure => have := HJ3.out; have := HJ12.out; have := HK3.out; have := HJ23.out; omega
                               case rel => exact ⟨(y1215), (wrap64 (x10_3 + 1)), (by first | rfl | (simp; done) | (simp [*]; done)), H', ⟨by have := HJ3.out; have := HJ12.out; have := HK3.out; have := HJ23.out; omega⟩, ⟨by (with_reducible repeat (first | apply Kd.R_alloc | apply Kd.R_drewN | apply Kd.R_drew)); exact HO_8.out⟩, ⟨by (with_reducible repeat (first | apply Kd.R_alloc | apply Kd.R_drewN | apply Kd.R_drew)); exact Kd.R_mono HO1217.out (fun _ hk => trivial)⟩, ⟨by (with_reducible repeat (first | refine pkN ?_ _ | refine pkD ?_ | refine pkA ?_ _)); exact BK1200.out⟩, ⟨by repeat (first | (with_reducible first | exact HB.out | apply pbA | apply pbN | apply pbD | refine pbS ?_ GE1200.out) | exact HB.out)⟩⟩
                             · rw [if_neg c44] at H
                               exact absurd H (by simp)
                           · replace c43 := Bool.eq_false_iff.mpr c43
                             subst c43
                             have H1 : (some (false, ([] : List ByteArray))) = some (r1, r2) := by rw [if_neg (show ¬ (false = true) by decide)] at H; exact H
                             clear H
                             have H := H1
                             clear H1
                             simp only [Option.some.injEq, Prod.mk.injEq] at H
                             obtain ⟨rfl, rfl⟩ := H
                             try go_wp2
                             have n0_ := Aside0.mk (Kd.R_drew HO_8.out)
                             have n1_ := Aside0.mk (Kd.R_drew HO_9.out)
                             have n2_ := Aside0.mk (pkD BK1200.out)
                             have n3_ := Aside0.mk (pbD HB.out)
                             clear HO_8
                             clear HO_9
                             clear BK1200
                             clear HB
                             have HO_8 := n0_
                             have HO_9 := n1_
                             have BK1200 := n2_
                             have HB := n3_
                             clear n0_ n1_ n2_ n3_
                             have p1208 : 0 ≤ (x10_3 : Int) := of_decide_eq_true (by first | (with_reducible assumption) | assumption)
                             have q1208 : x10_3 < (l2_3.length : Int) := of_decide_eq_true (by first | (with_reducible assumption) | assumption)
                             obtain ⟨ad1208, e1208, hx1208_0, hx1208_1⟩ := at_T86 HR2_3.out x10_3 p1208 q1208
                             have hw1208_1 := hx1208_1
                             have hw1208_0 := hx1208_0
                             cases e1208
                             replace hx1208_0 := (HB.out.cell (World.block_lt_of_cell? w _ hx1208_0)).trans hx1208_0
                             replace hx1208_1 := (HB.out.cell (World.block_lt_of_cell? w _ hx1208_1)).trans hx1208_1
                             replace p1208 := eq_true p1208
                             replace q1208 := eq_true q1208
                             have p1209 : 0 ≤ (x10_3 : Int) := of_decide_eq_true (by first | (with_reducible assumption) | assumption)
                             have q1209 : x10_3 < (t1201.length : Int) := of_decide_eq_true (by first | (with_reducible assumption) | assumption)
                             obtain ⟨ad1209, e1209, hx1209_0⟩ := Kd.at_int (Kd.R_reads' HO_8.out).2.2 x10_3 p1209 q1209
                             obtain rfl : ad1204 = ad1209 := (by injection e1209)
                             replace p1209 := eq_true p1209
                             replace q1209 := eq_true q1209
                             have p1210 : 0 ≤ (x10_3 : Int) := of_decide_eq_true (by first | (with_reducible assumption) | assumption)
                             have q1210 : x10_3 < (l2_4.length : Int) := of_decide_eq_true (by first | (with_reducible assumption) | assumption)
                             obtain ⟨ad1210, A1210_0, c1210_0, e1210, hx1210_0, hl1210_0, hi1210_0⟩ := at_L10 HR2_4.out x10_3 p1210 q1210
                             have hw1210_0 := hx1210_0
                             cases e1210
                             replace hx1210_0 := (HB.out.cell (World.block_lt_of_cell? w _ hx1210_0)).trans hx1210_0
                             have HR1210_0 := Aside0.mk hi1210_0
                             have HC1210_0 := Aside0.mk hl1210_0
                             clear hi1210_0 hl1210_0
                             replace p1210 := eq_true p1210
                             replace q1210 := eq_true q1210
                             refine start_ (n := 23) (S := fun w' => w'.cell? ⟨gb1200, 0, none⟩ = some (.int .i64 a2_0) ∧ w'.cell? ⟨gb1200, 1, none⟩ = some (.int .i64 a2_1) ∧ w'.cell? ⟨gb1200, 2, none⟩ = some (.bool a2_2) ∧ w'.cell? ⟨gb1200, 3, none⟩ = some (.slice (some ad1208) l2_3.length c2_3) ∧ w'.cell? ⟨gb1200, 4, none⟩ = some (.slice (some ad1210) l2_4.length c2_4) ∧ w'.cell? (ad1208.add ((x10_3).toNat * 2)) = some (.string ((rd_T86 l2_3 x10_3).f0)) ∧ w'.cell? ⟨(ad1208.add ((x10_3).toNat * 2)).block, (ad1208.add ((x10_3).toNat * 2)).off + 1, none⟩ = some (.string ((rd_T86 l2_3 x10_3).f1)) ∧ w'.cell? (ad1204.add (x10_3).toNat) = some (.int .i64 (rd t1201 x10_3)) ∧ w'.cell? (ad1210.add (x10_3).toNat) = some (.slice A1210_0 (rd_L10 l2_4 x10_3).length c1210_0)) (ds := []) #[false, false, false, false, false, false, false, false, false, false, false, false, false, false, false, false, false, false, false, false, false, false, false] (by kernel_rfl) rfl rfl ⟨(pkC BK1200.out 0).trans rfl, (pkC BK1200.out 1).trans rfl, (pkC BK1200.out 2).trans rfl, (pkC BK1200.out 3).trans rfl, (pkC BK1200.out 4).trans rfl, ((HB.out.cell (World.block_lt_of_cell? w _ hw1208_0)).trans hw1208_0), ((HB.out.cell (World.block_lt_of_cell? w _ hw1208_1)).trans hw1208_1), hx1209_0, ((HB.out.cell (World.block_lt_of_cell? w _ hw1210_0)).trans hw1210_0)⟩ (fun hHeld => ?_); refine with_tabW footbridgeref12_Lacks.tab13 footbridgeref12_Lacks.bits13 (fun HT_ HW_ => ?_)
                             generalize wc.drew = w49 at HO_8 HO_9 BK1200 HB HR1210_0 hx1208_0 hx1208_1 hx1209_0 hx1210_0 hHeld ⊢
                             refine pure_ (i := 0) (N := some 84) (v := ?_) (a' := ?_) #[true, false, false, false, false, false, false, false, false, false, false, false, false, false, false, false, false, false, false, false, false, false, false] rfl rfl (any_of HT_.out (by kernel_rfl)) (fun _ _ _ h => h) (Or.inl ⟨by rfl, ?_⟩) ?_ ?_
                             rotate_left
                             · intro w'
                               go_simp
                               with_reducible rfl
                             rotate_left
                             · simp only [Act.put, zA, zB, zC, i64_w, i32_w]
                               rfl
                             refine pure_ (i := 1) (N := some 85) (v := ?_) (a' := ?_) #[true, true, false, false, false, false, false, false, false, false, false, false, false, false, false, false, false, false, false, false, false, false, false] rfl rfl (any_of HT_.out (by kernel_rfl)) (fun _ _ _ h => h) (Or.inl ⟨by rfl, ?_⟩) ?_ ?_
                             rotate_left
                             · intro w'
                               go_simp
                               with_reducible rfl
                             rotate_left
                             · simp only [Act.put, zA, zB, zC, i64_w, i32_w]
                               rfl
                             refine pure_ (i := 3) (N := some 87) (v := ?_) (a' := ?_) #[true, true, false, true, false, false, false, false, false, false, false, false, false, false, false, false, false, false, false, false, false, false, false] rfl rfl (any_of HT_.out (by kernel_rfl)) (fun _ _ _ h => h) (Or.inl ⟨by rfl, ?_⟩) ?_ ?_
                             rotate_left
                             · intro w'
                               go_simp
                               with_reducible rfl
                             rotate_left
                             · simp only [Act.put, zA, zB, zC, i64_w, i32_w]
                               rfl
                             refine pure_ (i := 6) (N := some 90) (v := ?_) (a' := ?_) #[true, true, false, true, false, false, true, false, false, false, false, false, false, false, false, false, false, false, false, false, false, false, false] rfl rfl (any_of HT_.out (by kernel_rfl)) (fun _ _ _ h => h) (Or.inl ⟨by rfl, ?_⟩) ?_ ?_
                             rotate_left
                             · intro w'
                               go_simp
                               with_reducible rfl
                             rotate_left
                             · simp only [Act.put, zA, zB, zC, i64_w, i32_w]
                               rfl
                             refine pure_ (i := 8) (N := some 92) (v := ?_) (a' := ?_) #[true, true, false, true, false, false, true, false, true, false, false, false, false, false, false, false, false, false, false, false, false, false, false] rfl rfl (any_of HT_.out (by kernel_rfl)) (fun _ _ _ h => h) (Or.inl ⟨by rfl, ?_⟩) ?_ ?_
                             rotate_left
                             · intro w'
                               go_simp
                               with_reducible rfl
                             rotate_left
                             · simp only [Act.put, zA, zB, zC, i64_w, i32_w]
                               rfl
                             refine pure_ (i := 9) (N := some 93) (v := ?_) (a' := ?_) #[true, true, false, true, false, false, true, false, true, true, false, false, false, false, false, false, false, false, false, false, false, false, false] rfl rfl (any_of HT_.out (by kernel_rfl)) (fun _ _ _ h => h) (Or.inl ⟨by rfl, ?_⟩) ?_ ?_
                             rotate_left
                             · intro w'
                               go_simp
                               with_reducible rfl
                             rotate_left
                             · simp only [Act.put, zA, zB, zC, i64_w, i32_w]
                               rfl
                             refine pure_ (i := 10) (N := some 94) (v := ?_) (a' := ?_) #[true, true, false, true, false, false, true, false, true, true, true, false, false, false, false, false, false, false, false, false, false, false, false] rfl rfl (any_of HT_.out (by kernel_rfl)) (fun _ _ _ h => h) (Or.inl ⟨by rfl, ?_⟩) ?_ ?_
                             rotate_left
                             · intro w'
                               go_simp
                               with_reducible rfl
                             rotate_left
                             · simp only [Act.put, zA, zB, zC, i64_w, i32_w]
                               rfl
                             refine pure_ (i := 12) (N := some 96) (v := ?_) (a' := ?_) #[true, true, false, true, false, false, true, false, true, true, true, false, true, false, false, false, false, false, false, false, false, false, false] rfl rfl (any_of HT_.out (by kernel_rfl)) (fun _ _ _ h => h) (Or.inl ⟨by rfl, ?_⟩) ?_ ?_
                             rotate_left
                             · intro w'
                               go_simp
                               with_reducible rfl
                             rotate_left
                             · simp only [Act.put, zA, zB, zC, i64_w, i32_w]
                               rfl
                             refine pure_ (i := 14) (N := some 98) (v := ?_) (a' := ?_) #[true, true, false, true, false, false, true, false, true, true, true, false, true, false, true, false, false, false, false, false, false, false, false] rfl rfl (any_of HT_.out (by kernel_rfl)) (fun _ _ _ h => h) (Or.inl ⟨by rfl, ?_⟩) ?_ ?_
                             rotate_left
                             · intro w'
                               go_simp
                               with_reducible rfl
                             rotate_left
                             · simp only [Act.put, zA, zB, zC, i64_w, i32_w]
                               rfl
                             refine take_ (i := 2) (N := some 86) (v := ?_) (a' := ?_) #[true, true, true, true, false, false, true, false, true, true, true, false, true, false, true, false, false, false, false, false, false, false, false] rfl rfl (take_ofW HT_.out HW_.out (by kernel_rfl)) (fun _ _ _ h => h) (Or.inl ⟨by rfl, ?_⟩) hHeld ?_ ?_
                             rotate_left
                             · rintro w' ⟨s0, s1, s2, s3, s4, s5, s6, s7, s8⟩
                               go_simp
                               with_reducible rfl
                             rotate_left
                             · simp only [Act.put, zA, zB, zC, i64_w, i32_w]
                               rfl
                             refine pure_ (i := 4) (N := some 88) (v := ?_) (a' := ?_) #[true, true, true, true, true, false, true, false, true, true, true, false, true, false, true, false, false, false, false, false, false, false, false] rfl rfl (any_of HT_.out (by kernel_rfl)) (fun _ _ _ h => h) (Or.inl ⟨by rfl, ?_⟩) ?_ ?_
                             rotate_left
                             · intro w'
                               go_simp
                               with_reducible rfl
                             rotate_left
                             · simp only [Act.put, zA, zB, zC, i64_w, i32_w]
                               rfl
                             refine take_ (i := 5) (N := some 89) (v := ?_) (a' := ?_) #[true, true, true, true, true, true, true, false, true, true, true, false, true, false, true, false, false, false, false, false, false, false, false] rfl rfl (take_ofW HT_.out HW_.out (by kernel_rfl)) (fun _ _ _ h => h) (Or.inl ⟨by rfl, ?_⟩) hHeld ?_ ?_
                             rotate_left
                             · rintro w' ⟨s0, s1, s2, s3, s4, s5, s6, s7, s8⟩
                               go_simp
                               with_reducible rfl
                             rotate_left
                             · simp only [Act.put, zA, zB, zC, i64_w, i32_w]
                               rfl
                             refine take_ (i := 7) (N := some 91) (v := ?_) (a' := ?_) #[true, true, true, true, true, true, true, true, true, true, true, false, true, false, true, false, false, false, false, false, false, false, false] rfl rfl (take_ofW HT_.out HW_.out (by kernel_rfl)) (fun _ _ _ h => h) (Or.inl ⟨by rfl, ?_⟩) hHeld ?_ ?_
                             rotate_left
                             · rintro w' ⟨s0, s1, s2, s3, s4, s5, s6, s7, s8⟩
                               go_simp
                               with_reducible rfl
                             rotate_left
                             · simp only [Act.put, zA, zB, zC, i64_w, i32_w]
                               rfl
                             refine take_ (i := 11) (N := some 95) (v := ?_) (a' := ?_) #[true, true, true, true, true, true, true, true, true, true, true, true, true, false, true, false, false, false, false, false, false, false, false] rfl rfl (take_ofW HT_.out HW_.out (by kernel_rfl)) (fun _ _ _ h => h) (Or.inl ⟨by rfl, ?_⟩) hHeld ?_ ?_
                             rotate_left
                             · rintro w' ⟨s0, s1, s2, s3, s4, s5, s6, s7, s8⟩
                               go_simp
                               with_reducible rfl
                             rotate_left
                             · simp only [Act.put, zA, zB, zC, i64_w, i32_w]
                               rfl
                             refine take_ (i := 13) (N := some 97) (v := ?_) (a' := ?_) #[true, true, true, true, true, true, true, true, true, true, true, true, true, true, true, false, false, false, false, false, false, false, false] rfl rfl (take_ofW HT_.out HW_.out (by kernel_rfl)) (fun _ _ _ h => h) (Or.inl ⟨by rfl, ?_⟩) hHeld ?_ ?_
                             rotate_left
                             · rintro w' ⟨s0, s1, s2, s3, s4, s5, s6, s7, s8⟩
                               go_simp
                               with_reducible rfl
                             rotate_left
                             · simp only [Act.put, zA, zB, zC, i64_w, i32_w]
                               rfl
                             refine pure_ (i := 15) (N := some 99) (v := ?_) (a' := ?_) #[true, true, true, true, true, true, true, true, true, true, true, true, true, true, true, true, false, false, false, false, false, false, false] rfl rfl (any_of HT_.out (by kernel_rfl)) (fun _ _ _ h => h) (Or.inl ⟨by rfl, ?_⟩) ?_ ?_
                             rotate_left
                             · intro w'
                               go_simp
                               with_reducible rfl
                             rotate_left
                             · simp only [Act.put, zA, zB, zC, i64_w, i32_w]
                               rfl
                             refine take_ (i := 16) (N := some 100) (v := ?_) (a' := ?_) #[true, true, true, true, true, true, true, true, true, true, true, true, true, true, true, true, true, false, false, false, false, false, false] rfl rfl (take_ofW HT_.out HW_.out (by kernel_rfl)) (fun _ _ _ h => h) (Or.inl ⟨by rfl, ?_⟩) hHeld ?_ ?_
                             rotate_left
                             · rintro w' ⟨s0, s1, s2, s3, s4, s5, s6, s7, s8⟩
                               go_simp
                               with_reducible rfl
                             rotate_left
                             · simp only [Act.put, zA, zB, zC, i64_w, i32_w]
                               rfl
                             refine one_ (i := 17) (N := some 101) #[true, true, true, true, true, true, true, true, true, true, true, true, true, true, true, true, true, true, false, false, false, false, false] rfl rfl (one_of HT_.out (by kernel_rfl)) (by decide) (fun K hK => ?_)
                             refine goes_ Try.func125 (by kernel_rfl) rfl #[.string a0, .agg #[.string ((rd_T86 l2_3 x10_3).f0), .string ((rd_T86 l2_3 x10_3).f1)], .int .i64 a2_0, .int .i64 (rd t1201 x10_3), .slice A1210_0 (rd_L10 l2_4 x10_3).length c1210_0] (by rfl) rfl rfl (by (try simp only [List.map_toArray, List.map_cons, List.map_nil]); first | done | rfl | (simp only [List.length_drop, List.length_take]; rfl)) ?_
                             with_reducible refine (footbridgeref12_leads.calls kj23 a0 ((rd_T86 l2_3 x10_3).f0) ((rd_T86 l2_3 x10_3).f1) a2_0 (rd t1201 x10_3) _ _ (rd_L10 l2_4 x10_3) false t1212 _ ?side1 ?side2 A42.out).mono ?_
                             (case side1 => repeat (first | exact (Kd.C_below HR1210_0.out HB.out) | (with_reducible refine Kd.C_alloc ?_ _) | (with_reducible refine Kd.C_drewN ?_ _) | (with_reducible refine Kd.C_drew ?_)))
                             (case side2 => exact HC1210_0.out)
                             rintro e w50 ⟨v1213, rfl, ho0, hb⟩
                             have HS7_ := (hb.cell (World.block_lt_of_cell? _ _ (hHeld.2.2.2.2.2.2.2.1))).trans (hHeld.2.2.2.2.2.2.2.1)
                             refine ⟨_, rfl, ?_⟩
                             have n0_ := Aside0.mk (Kd.R_below (by (with_reducible repeat (first | apply Kd.R_alloc | apply Kd.R_drewN | apply Kd.R_drew)); exact HO_8.out) hb)
                             have n1_ := Aside0.mk (Kd.R_elder' (by (with_reducible repeat (first | apply Kd.R_alloc | apply Kd.R_drewN | apply Kd.R_drew)); exact HO_9.out) (Kd.R_base ho0) hb)
                             have n2_ := Aside0.mk (Kd.R_lower (Kd.R_new' ho0 (Kd.R_lt (by (with_reducible repeat (first | apply Kd.R_alloc | apply Kd.R_drewN | apply Kd.R_drew)); exact HO_9.out))) (below_size (by repeat (first | (with_reducible first | exact HB.out | apply pbA | apply pbN | apply pbD | refine pbS ?_ GE1200.out) | exact HB.out))))
                             have n3_ := Aside0.mk (blk_below (g := gb1200) (o := .cells #[.int .i64 a2_0, .int .i64 a2_1, .bool a2_2, .slice (some ad1208) l2_3.length c2_3, .slice (some ad1210) l2_4.length c2_4] 82 (0, 0)) (by (with_reducible repeat (first | refine pkN ?_ _ | refine pkD ?_ | refine pkA ?_ _)); exact BK1200.out) hb)
                             have n4_ := Aside0.mk (below_step (by repeat (first | (with_reducible first | exact HB.out | apply pbA | apply pbN | apply pbD | refine pbS ?_ GE1200.out) | exact HB.out)) hb)
                             clear HO_8
                             clear HO_9
                             clear BK1200
                             clear HB
                             have HO_8 := n0_
                             have HO_9 := n1_
                             have HO1214 := n2_
                             have BK1200 := n3_
                             have HB := n4_
                             clear n0_ n1_ n2_ n3_ n4_
                             (try clear hb)
                             (try clear hb2)
                             (try clear hk)
                             (try clear hi)
                             (try clear ho0)
                             refine hK.out _ _ ⟨(pkC BK1200.out 0).trans rfl, (pkC BK1200.out 1).trans rfl, (pkC BK1200.out 2).trans rfl, (pkC BK1200.out 3).trans rfl, (pkC BK1200.out 4).trans rfl, ((HB.out.cell (World.block_lt_of_cell? w _ hw1208_0)).trans hw1208_0), ((HB.out.cell (World.block_lt_of_cell? w _ hw1208_1)).trans hw1208_1), HS7_, ((HB.out.cell (World.block_lt_of_cell? w _ hw1210_0)).trans hw1210_0)⟩ (fun hHeld => ?_)
                             clear hK K
                             refine norm_ (a' := ?_) ?_ ?_
                             rotate_left
                             · show Act.put _ (some 101) _ = _
                               simp only [Act.put, zA, zB, zC, i64_w, i32_w]
                               rfl
                             refine pure_ (i := 18) (N := some 83) (v := ?_) (a' := ?_) #[true, true, true, true, true, true, true, true, true, true, true, true, true, true, true, true, true, true, true, false, false, false, false] rfl rfl (any_of HT_.out (by kernel_rfl)) (fun _ _ _ h => h) (Or.inl ⟨by rfl, ?_⟩) ?_ ?_
                             rotate_left
                             · intro w'
                               go_simp
                               with_reducible rfl
                             rotate_left
                             · simp only [Act.put, zA, zB, zC, i64_w, i32_w]
                               rfl
                             refine pure_ (i := 19) (N := some 102) (v := ?_) (a' := ?_) #[true, true, true, true, true, true, true, true, true, true, true, true, true, true, true, true, true, true, true, true, false, false, false] rfl rfl (any_of HT_.out (by kernel_rfl)) (fun _ _ _ h => h) (Or.inl ⟨by rfl, ?_⟩) ?_ ?_
                             rotate_left
                             · intro w'
                               go_simp
                               with_reducible rfl
                             rotate_left
                             · simp only [Act.put, zA, zB, zC, i64_w, i32_w]
                               rfl
                             refine pure_ (i := 20) (N := some 103) (v := ?_) (a' := ?_) #[true, true, true, true, true, true, true, true, true, true, true, true, true, true, true, true, true, true, true, true, true, false, false] rfl rfl (any_of HT_.out (by kernel_rfl)) (fun _ _ _ h => h) (Or.inl ⟨by rfl, ?_⟩) ?_ ?_
                             rotate_left
                             · intro w'
                               go_simp
                               with_reducible rfl
                             rotate_left
                             · simp only [Act.put, zA, zB, zC, i64_w, i32_w]
                               rfl
                             refine pure_ (i := 21) (N := some 12) (v := ?_) (a' := ?_) #[true, true, true, true, true, true, true, true, true, true, true, true, true, true, true, true, true, true, true, true, true, true, false] rfl rfl (any_of HT_.out (by kernel_rfl)) (fun _ _ _ h => h) (Or.inl ⟨by rfl, ?_⟩) ?_ ?_
                             rotate_left
                             · intro w'
                               go_simp
                               with_reducible rfl
                             rotate_left
                             · simp only [Act.put, zA, zB, zC, i64_w, i32_w]
                               rfl
                             refine pure_ (i := 22) (N := some 13) (v := ?_) (a' := ?_) #[true, true, true, true, true, true, true, true, true, true, true, true, true, true, true, true, true, true, true, true, true, true, true] rfl rfl (any_of HT_.out (by kernel_rfl)) (fun _ _ _ h => h) (Or.inl ⟨by rfl, ?_⟩) ?_ ?_
                             rotate_left
                             · intro w'
                               go_simp
                               with_reducible rfl
                             rotate_left
                             · simp only [Act.put, zA, zB, zC, i64_w, i32_w]
                               rfl
                             refine done_ (done_of HT_.out (by kernel_rfl)) ?_
                             try go_wp2
                             go_ret2
                             exact ⟨_, by first | rfl | (simp [errW_none, errW_some] <;> rfl) | (simp [*, errW_none, errW_some] <;> rfl), by first | exact Kd.R_nil _ _ _ _ _ | exact Kd.N_nil _ _ _ _ _ | exact Kd.V_nil _ _ _ _ _ | exact Kd.Q_nil _ _ _ _ _ | exact Kd.S_nil _ _ _ _ _, by repeat (first | (with_reducible first | exact HB.out | apply pbA | apply pbN | apply pbD | refine pbS ?_ GE1200.out) | exact HB.out)⟩
                         · rw [if_neg c41] at H
                           exact absurd H (by simp)
                       · rw [if_neg c40] at H
                         exact absurd H (by simp)
                     · rw [if_neg c39] at H
                       exact absurd H (by simp)
                   · rw [if_neg c38] at H
                     exact absurd H (by simp)
             · rw [if_neg c23] at H
               exact absurd H (by simp)
           · rw [if_neg c22] at H
             have c22b0 : decide (x10_3 < (t1201.length : Int)) = false := decide_eq_false c22
             clear c22
             by_cases c51 : a2_0 = 0
             · rw [if_pos c51] at H
               have c51b0 : (a2_0 == 0) = true := beq_iff_eq.mpr c51
               have c51b1 : (a2_0 != 0) = false := bne_eq_false_iff_eq.mpr c51
               clear c51
               replace H := Option.bind_eq_some_iff.mp H
               obtain ⟨t1218, A520, H⟩ := H
               replace H : ((footbridgeref04_Sum.f t1218).bind fun t1219 => (some ((t1219.toList == a0.toList), (([t1218] : List ByteArray))))) = some (r1, r2) := H
               have A52 := Aside0.mk A520
               clear A520
               replace H := Option.bind_eq_some_iff.mp H
               obtain ⟨t1219, A530, H⟩ := H
               replace H : (some ((t1219.toList == a0.toList), (([t1218] : List ByteArray)))) = some (r1, r2) := H
               have A53 := Aside0.mk A530
               clear A530
               obtain ⟨y1220, hy1220⟩ : ∃ y_ : List ByteArray, y_ = (([t1218] : List ByteArray)) := ⟨_, rfl⟩
               replace H : (some ((t1219.toList == a0.toList), y1220)) = some (r1, r2) := by first | (rw [hy1220]; with_reducible exact H) | (have H2_ := (Option.bind_some _ _).symm.trans H; rw [hy1220]; with_reducible exact H2_) | (have H2_ := (Option.bind_some _ _).symm.trans H; with_reducible exact H2_) | with_reducible exact H | (rw [hy1220]; exact H) | exact H
               have Ny1220 := Aside0.mk hy1220
               clear hy1220
               simp only [Option.some.injEq, Prod.mk.injEq] at H
               obtain ⟨rfl, rfl⟩ := H
               obtain ⟨Ao54, co54, eo54⟩ := Kd.R_slice HO_8.out
               subst eo54
               have hcz55_0 : wr.cell? ⟨gb1200, 0, none⟩ = some (.int .i64 a2_0) := (pkC BK1200.out 0).trans rfl
               have hcz55_1 : wr.cell? ⟨gb1200, 1, none⟩ = some (.int .i64 a2_1) := (pkC BK1200.out 1).trans rfl
               have hcz55_2 : wr.cell? ⟨gb1200, 2, none⟩ = some (.bool a2_2) := (pkC BK1200.out 2).trans rfl
               have hcz55_3 : wr.cell? ⟨gb1200, 3, none⟩ = some (.slice A2_3 l2_3.length c2_3) := (pkC BK1200.out 3).trans rfl
               have hcz55_4 : wr.cell? ⟨gb1200, 4, none⟩ = some (.slice A2_4 l2_4.length c2_4) := (pkC BK1200.out 4).trans rfl
               have hfz55_0 := pkF BK1200.out 0
               have hfz55_1 := pkF BK1200.out 1
               have hfz55_2 := pkF BK1200.out 2
               have hfz55_3 := pkF BK1200.out 3
               have hfz55_4 := pkF BK1200.out 4
               go_wp2_with (first | ((with_reducible refine gate_callee (f := 127) rfl ?_); refine goesL_ (some 112) rfl rfl Try.func127 (by kernel_rfl) rfl #[.int .i64 0, .string (⟨#[]⟩ : ByteArray)] rfl (by (try simp only [List.map_toArray, List.map_cons, List.map_nil]); first | done | rfl | (simp only [List.length_drop, List.length_take]; rfl)) ?_; (with_reducible refine (footbridgeref11_TopText.calls k3 0 (⟨#[]⟩ : ByteArray) t1218 _ A52.out).mono ?_); rintro e w56 ⟨rfl, hb⟩; refine ⟨_, rfl, ?_⟩; have n0_ := Aside0.mk (Kd.R_below (by (with_reducible repeat (first | apply Kd.R_alloc | apply Kd.R_drewN | apply Kd.R_drew)); exact HO_8.out) hb); have n1_ := Aside0.mk (Kd.R_below (by (with_reducible repeat (first | apply Kd.R_alloc | apply Kd.R_drewN | apply Kd.R_drew)); exact HO_9.out) hb); have n2_ := Aside0.mk (blk_below (g := gb1200) (o := .cells #[.int .i64 a2_0, .int .i64 a2_1, .bool a2_2, .slice A2_3 l2_3.length c2_3, .slice A2_4 l2_4.length c2_4] 82 (0, 0)) (by (with_reducible repeat (first | refine pkN ?_ _ | refine pkD ?_ | refine pkA ?_ _)); exact BK1200.out) hb); have n3_ := Aside0.mk (below_step (by repeat (first | (with_reducible first | exact HB.out | apply pbA | apply pbN | apply pbD | refine pbS ?_ GE1200.out) | exact HB.out)) hb); clear HO_8; clear HO_9; clear BK1200; clear HB; have HO_8 := n0_; have HO_9 := n1_; have BK1200 := n2_; have HB := n3_; clear n0_ n1_ n2_ n3_; (try clear hb); (try clear hb2); (try clear hk); (try clear hi)) | ((with_reducible refine gate_callee (f := 79) rfl ?_); refine goesL_ (some 114) rfl rfl Try.func79 (by kernel_rfl) rfl #[.string t1218] rfl (by (try simp only [List.map_toArray, List.map_cons, List.map_nil]); first | done | rfl | (simp only [List.length_drop, List.length_take]; rfl)) ?_; (with_reducible refine (footbridgeref04_Sum.calls t1218 t1219 _ A53.out).mono ?_); rintro e w57 ⟨rfl, hb⟩; refine ⟨_, rfl, ?_⟩; have n0_ := Aside0.mk (Kd.R_below (by (with_reducible repeat (first | apply Kd.R_alloc | apply Kd.R_drewN | apply Kd.R_drew)); exact HO_8.out) hb); have n1_ := Aside0.mk (Kd.R_below (by (with_reducible repeat (first | apply Kd.R_alloc | apply Kd.R_drewN | apply Kd.R_drew)); exact HO_9.out) hb); have n2_ := Aside0.mk (blk_below (g := gb1200) (o := .cells #[.int .i64 a2_0, .int .i64 a2_1, .bool a2_2, .slice A2_3 l2_3.length c2_3, .slice A2_4 l2_4.length c2_4] 82 (0, 0)) (by (with_reducible repeat (first | refine pkN ?_ _ | refine pkD ?_ | refine pkA ?_ _)); exact BK1200.out) hb); have n3_ := Aside0.mk (below_step (by repeat (first | (with_reducible first | exact HB.out | apply pbA | apply pbN | apply pbD | refine pbS ?_ GE1200.out) | exact HB.out)) hb); clear HO_8; clear HO_9; clear BK1200; clear HB; have HO_8 := n0_; have HO_9 := n1_; have BK1200 := n2_; have HB := n3_; clear n0_ n1_ n2_ n3_; (try clear hb); (try clear hb2); (try clear hk); (try clear hi)) | ((with_reducible refine gate_dst (N := 118) rfl ?_); refine Kd.R_lit Kd.string _ 9 ?hg (N := 118) ?hd (xs := ([t1218] : List ByteArray)) (inner := [.string t1218]) (ok := fun _ => True) (okp := fun _ => True) ?hr ?hp (fun _ hk => hk) trivial (Below.refl _ _) (Nat.le_refl _) (by simp) ?_; (case hd => rfl); (case hg => rfl); (case hr => first | (go_simp; done) | (go_simp; rfl)); (case hp => exact (Reps.one (show Kd.M Kd.string _ _ _ t1218 [.string t1218] from rfl) (Reps.none _ _))); intro v1221 w58 ho59 hb hg_ hnew_; clear hg_ hnew_; (first | rw [← Ny1220.out] at ho59 | (simp only [Int.reduceToNat] at ho59; rw [← Ny1220.out] at ho59)); have n0_ := Aside0.mk (Kd.R_below (by (with_reducible repeat (first | apply Kd.R_alloc | apply Kd.R_drewN | apply Kd.R_drew)); exact HO_8.out) hb); have n1_ := Aside0.mk (Kd.R_elder' (by (with_reducible repeat (first | apply Kd.R_alloc | apply Kd.R_drewN | apply Kd.R_drew)); exact HO_9.out) (Kd.R_base ho59) hb); have n2_ := Aside0.mk (Kd.R_lower (Kd.R_new' ho59 (Kd.R_lt (by (with_reducible repeat (first | apply Kd.R_alloc | apply Kd.R_drewN | apply Kd.R_drew)); exact HO_9.out))) (below_size (by repeat (first | (with_reducible first | exact HB.out | apply pbA | apply pbN | apply pbD | refine pbS ?_ GE1200.out) | exact HB.out)))); have n3_ := Aside0.mk (blk_below (g := gb1200) (o := .cells #[.int .i64 a2_0, .int .i64 a2_1, .bool a2_2, .slice A2_3 l2_3.length c2_3, .slice A2_4 l2_4.length c2_4] 82 (0, 0)) (by (with_reducible repeat (first | refine pkN ?_ _ | refine pkD ?_ | refine pkA ?_ _)); exact BK1200.out) hb); have n4_ := Aside0.mk (below_step (by repeat (first | (with_reducible first | exact HB.out | apply pbA | apply pbN | apply pbD | refine pbS ?_ GE1200.out) | exact HB.out)) hb); clear HO_8; clear HO_9; clear BK1200; clear HB; have HO_8 := n0_; have HO_9 := n1_; have HO1222 := n2_; have BK1200 := n3_; have HB := n4_; clear n0_ n1_ n2_ n3_ n4_; clear hb ho59))
               go_ret2
               exact ⟨_, by first | rfl | (simp [errW_none, errW_some] <;> rfl) | (simp [*, errW_none, errW_some] <;> rfl), by (with_reducible repeat (first | apply Kd.R_alloc | apply Kd.R_drewN | apply Kd.R_drew)); exact Kd.R_mono HO1222.out (fun _ hk => trivial), by repeat (first | (with_reducible first | exact HB.out | apply pbA | apply pbN | apply pbD | refine pbS ?_ GE1200.out) | exact HB.out)⟩
             · rw [if_neg c51] at H
               have c51b0 : (a2_0 == 0) = false := beq_eq_false_iff_ne.mpr c51
               have c51b1 : (a2_0 != 0) = true := bne_iff_ne.mpr c51
               simp only [Option.some.injEq, Prod.mk.injEq] at H
               obtain ⟨rfl, rfl⟩ := H
               obtain ⟨Ao60, co60, eo60⟩ := Kd.R_slice HO_8.out
               subst eo60
               have hcz61_0 : wr.cell? ⟨gb1200, 0, none⟩ = some (.int .i64 a2_0) := (pkC BK1200.out 0).trans rfl
               have hcz61_1 : wr.cell? ⟨gb1200, 1, none⟩ = some (.int .i64 a2_1) := (pkC BK1200.out 1).trans rfl
               have hcz61_2 : wr.cell? ⟨gb1200, 2, none⟩ = some (.bool a2_2) := (pkC BK1200.out 2).trans rfl
               have hcz61_3 : wr.cell? ⟨gb1200, 3, none⟩ = some (.slice A2_3 l2_3.length c2_3) := (pkC BK1200.out 3).trans rfl
               have hcz61_4 : wr.cell? ⟨gb1200, 4, none⟩ = some (.slice A2_4 l2_4.length c2_4) := (pkC BK1200.out 4).trans rfl
               have hfz61_0 := pkF BK1200.out 0
               have hfz61_1 := pkF BK1200.out 1
               have hfz61_2 := pkF BK1200.out 2
               have hfz61_3 := pkF BK1200.out 3
               have hfz61_4 := pkF BK1200.out 4
               go_wp2
               go_ret2
               exact ⟨_, by first | rfl | (simp [errW_none, errW_some] <;> rfl) | (simp [*, errW_none, errW_some] <;> rfl), by (with_reducible repeat (first | apply Kd.R_alloc | apply Kd.R_drewN | apply Kd.R_drew)); exact HO_9.out, by repeat (first | (with_reducible first | exact HB.out | apply pbA | apply pbN | apply pbD | refine pbS ?_ GE1200.out) | exact HB.out)⟩
end Go.Proofs.Ytipgldfbjlhpoab.P
