import Derived.Test.YtipgldfbjlhpoabZcP0
import Derived.Test.YtipgldfbjlhpoabZcHCmp
import Derived.Test.YtipgldfbjlhpoabZcPRMerkle
-- Printed by wip/myprint.py.
namespace Go.Proofs.Ytipgldfbjlhpoab.P
open Go.RowKit Go.Proofs.YtipgldfbjlhpoabW.PrintWords Go.Proofs.YtipgldfbjlhpoabW.PrintLast Go.Proofs.YtipgldfbjlhpoabW.PrintMore
attribute [local go_sem] max2_int min2_int max_two min_two max_three min_three max_four min_four   -- for this text's walks alone
attribute [local go_sem] geq_str gtr_str
set_option linter.unusedVariables false
set_option linter.unusedSimpArgs false
mutual
def proof_walk.j0 : Nat → Int → Int → ByteArray → List ByteArray → Bool → Option (ByteArray × Bool)
 | 0, _, _, _, _, _ => none
 | k + 1, x0, x1, x2, x3, x16 => if x16 = true then (some ((⟨#[]⟩ : ByteArray), false)) else (if x0 = 1 then (some (x2, ((x3.length : Int) == 0))) else (if (x3.length : Int) = 0 then (some ((⟨#[]⟩ : ByteArray), false)) else ((merkle_Split.f x0).bind fun t963 => (if x1 < t963 then (if 0 ≤ (wrap64 ((x3.length : Int) - 1)) then (if (wrap64 ((x3.length : Int) - 1)) ≤ (x3.length : Int) then ((proof_walk.f k t963 x1 x2 (x3.take ((wrap64 ((x3.length : Int) - 1)) : Int).toNat)).bind fun bt965 => (if (wrap64 ((x3.length : Int) - 1)) < (x3.length : Int) then ((merkle_Node.f bt965.1 (rdOf ByteArray.empty x3 (wrap64 ((x3.length : Int) - 1)))).bind fun t968 => (some (t968, bt965.2))) else (none))) else (none)) else (none)) else (if 0 ≤ (wrap64 ((x3.length : Int) - 1)) then (if (wrap64 ((x3.length : Int) - 1)) ≤ (x3.length : Int) then ((proof_walk.f k (wrap64 (x0 - t963)) (wrap64 (x1 - t963)) x2 (x3.take ((wrap64 ((x3.length : Int) - 1)) : Int).toNat)).bind fun bt970 => (if (wrap64 ((x3.length : Int) - 1)) < (x3.length : Int) then ((merkle_Node.f (rdOf ByteArray.empty x3 (wrap64 ((x3.length : Int) - 1))) bt970.1).bind fun t973 => (some (t973, bt970.2))) else (none))) else (none)) else (none))))))
def proof_walk.f : Nat → Int → Int → ByteArray → List ByteArray → Option (ByteArray × Bool)
 | 0, _, _, _, _ => none
 | k + 1, a0, a1, a2, l3 => if a1 < 0 then (proof_walk.j0 k a0 a1 a2 l3 true) else (proof_walk.j0 k a0 a1 a2 l3 (decide (a1 ≥ a0)))
end
set_option maxHeartbeats 8000000 in
set_option maxRecDepth 100000 in
theorem proof_walk.calls (k : Nat) : ∀ (a0 : Int) (a1 : Int) (a2 : ByteArray) (A3 : Option Addr) (c3 : Nat) (l3 : List ByteArray) (r1 : ByteArray) (r2 : Bool) (w : World) (hr3 : Kd.C Kd.string w A3 l3.length l3) (hc3 : l3.length ≤ c3) (h : proof_walk.f k a0 a1 a2 l3 = some (r1, r2)),
  Calls Try.prog 163 #[.int .i64 a0, .int .i64 a1, .string a2, .slice A3 l3.length c3] w fun e w' => e = .returned (.tuple #[.string r1, .bool r2]) ∧ Below w.heap.size w w' := by
 induction k using Nat.strongRecOn with
 | _ k ih =>
 intro a0 a1 a2 A3 c3 l3 r1 r2 w hr3 hc3 h
 cases k with
 | zero => exact absurd h (by simp [proof_walk.f])
 | succ k =>
 simp only [proof_walk.f] at h
 have HR3 := Aside0.mk hr3
 have HC3 := Aside0.mk hc3
 clear hr3 hc3
 have HB := Aside0.mk (Below.refl w.heap.size w)
 have H : (if a1 < 0 then (proof_walk.j0 k a0 a1 a2 l3 true) else (proof_walk.j0 k a0 a1 a2 l3 (decide (a1 ≥ a0)))) = some (r1, r2) := h
 clear h
 have HC5 := Aside0.mk H
 clear H
 go_enter Try.func163, Try.ntmps163
 go_upto_region 1 with (fail)
 go_cut [16] (fun v16 wc => ∃ (kq : Nat) (x16_4 : Bool), v16 = .bool x16_4 ∧ Aside0 (proof_walk.j0 kq a0 a1 a2 l3 x16_4 = some (r1, r2)) ∧ Aside0 (kq ≤ k) ∧ Aside0 (Below w.heap.size w wc))
 case first =>
  have H := HC5.out
  clear HC5
  by_cases c6 : a1 < 0
  · rw [if_pos c6] at H
    have c6b0 : decide (a1 < 0) = true := decide_eq_true c6
    clear c6
    (first | rw [c6b0] | (simp only [i64_w, i32_w]; rw [c6b0]) | skip)
    have H' := Aside0.mk H
    clear H
    go_wp2
    go_meet
    case rel => exact ⟨_, (true), (by first | rfl | (simp; done) | (simp [*]; done)), H', ⟨by first | omega | exact Nat.le_refl _⟩, ⟨by repeat (first | (with_reducible first | exact HB.out | apply pbA | apply pbN | apply pbD) | exact HB.out)⟩⟩
  · rw [if_neg c6] at H
    have c6b0 : decide (a1 < 0) = false := decide_eq_false c6
    clear c6
    (first | rw [c6b0] | (simp only [i64_w, i32_w]; rw [c6b0]) | skip)
    have H' := Aside0.mk H
    clear H
    go_wp2
    go_meet
    case rel => exact ⟨_, (decide (a1 ≥ a0)), (by first | rfl | (simp; done) | (simp [*]; done)), H', ⟨by first | omega | exact Nat.le_refl _⟩, ⟨by repeat (first | (with_reducible first | exact HB.out | apply pbA | apply pbN | apply pbD) | exact HB.out)⟩⟩
 case rest =>
  clear HC5
  try clear c1
  try clear p2
  try clear c3
  try clear c6
  try clear c6b0
  obtain ⟨kq, x16_4, rfl, HA, HJ4, HB⟩ := hcut
  cases kq with
  | zero => exact absurd HA.out (by simp [proof_walk.j0])
  | succ kj4 =>
   have H := HA.out
   clear HA
   simp only [proof_walk.j0] at H
   by_cases c7 : x16_4 = true
   · subst c7
     have H1 : (some ((⟨#[]⟩ : ByteArray), false)) = some (r1, r2) := by rw [if_pos rfl] at H; exact H
     clear H
     have H := H1
     clear H1
     simp only [Option.some.injEq, Prod.mk.injEq] at H
     obtain ⟨rfl, rfl⟩ := H
     go_wp2
     go_ret2
     exact ⟨by first | rfl | (simp [errW_none, errW_some] <;> rfl) | (simp [*, errW_none, errW_some] <;> rfl), by repeat (first | (with_reducible first | exact HB.out | apply pbA | apply pbN | apply pbD) | exact HB.out)⟩
   · replace c7 := Bool.eq_false_iff.mpr c7
     subst c7
     have H1 : (if a0 = 1 then (some (a2, ((l3.length : Int) == 0))) else (if (l3.length : Int) = 0 then (some ((⟨#[]⟩ : ByteArray), false)) else ((merkle_Split.f a0).bind fun t963 => (if a1 < t963 then (if 0 ≤ (wrap64 ((l3.length : Int) - 1)) then (if (wrap64 ((l3.length : Int) - 1)) ≤ (l3.length : Int) then ((proof_walk.f kj4 t963 a1 a2 (l3.take ((wrap64 ((l3.length : Int) - 1)) : Int).toNat)).bind fun bt965 => (if (wrap64 ((l3.length : Int) - 1)) < (l3.length : Int) then ((merkle_Node.f bt965.1 (rdOf ByteArray.empty l3 (wrap64 ((l3.length : Int) - 1)))).bind fun t968 => (some (t968, bt965.2))) else (none))) else (none)) else (none)) else (if 0 ≤ (wrap64 ((l3.length : Int) - 1)) then (if (wrap64 ((l3.length : Int) - 1)) ≤ (l3.length : Int) then ((proof_walk.f kj4 (wrap64 (a0 - t963)) (wrap64 (a1 - t963)) a2 (l3.take ((wrap64 ((l3.length : Int) - 1)) : Int).toNat)).bind fun bt970 => (if (wrap64 ((l3.length : Int) - 1)) < (l3.length : Int) then ((merkle_Node.f (rdOf ByteArray.empty l3 (wrap64 ((l3.length : Int) - 1))) bt970.1).bind fun t973 => (some (t973, bt970.2))) else (none))) else (none)) else (none)))))) = some (r1, r2) := by rw [if_neg (show ¬ (false = true) by decide)] at H; exact H
     clear H
     have H := H1
     clear H1
     by_cases c8 : a0 = 1
     · rw [if_pos c8] at H
       have c8b0 : (a0 == 1) = true := beq_iff_eq.mpr c8
       have c8b1 : (a0 != 1) = false := bne_eq_false_iff_eq.mpr c8
       clear c8
       simp only [Option.some.injEq, Prod.mk.injEq] at H
       obtain ⟨rfl, rfl⟩ := H
       go_wp2
       go_ret2
       exact ⟨by first | rfl | (simp [errW_none, errW_some] <;> rfl) | (simp [*, errW_none, errW_some] <;> rfl), by repeat (first | (with_reducible first | exact HB.out | apply pbA | apply pbN | apply pbD) | exact HB.out)⟩
     · rw [if_neg c8] at H
       have c8b0 : (a0 == 1) = false := beq_eq_false_iff_ne.mpr c8
       have c8b1 : (a0 != 1) = true := bne_iff_ne.mpr c8
       by_cases c9 : (l3.length : Int) = 0
       · rw [if_pos c9] at H
         have c9b0 : ((l3.length : Int) == 0) = true := beq_iff_eq.mpr c9
         have c9b1 : ((l3.length : Int) != 0) = false := bne_eq_false_iff_eq.mpr c9
         clear c9
         simp only [Option.some.injEq, Prod.mk.injEq] at H
         obtain ⟨rfl, rfl⟩ := H
         go_wp2
         go_ret2
         exact ⟨by first | rfl | (simp [errW_none, errW_some] <;> rfl) | (simp [*, errW_none, errW_some] <;> rfl), by repeat (first | (with_reducible first | exact HB.out | apply pbA | apply pbN | apply pbD) | exact HB.out)⟩
       · rw [if_neg c9] at H
         have c9b0 : ((l3.length : Int) == 0) = false := beq_eq_false_iff_ne.mpr c9
         have c9b1 : ((l3.length : Int) != 0) = true := bne_iff_ne.mpr c9
         have c9b2 : ¬ (l3 = []) := fun h_ => c9 (by rw [h_]; rfl)
         replace H := Option.bind_eq_some_iff.mp H
         obtain ⟨t963, A100, H⟩ := H
         replace H : (if a1 < t963 then (if 0 ≤ (wrap64 ((l3.length : Int) - 1)) then (if (wrap64 ((l3.length : Int) - 1)) ≤ (l3.length : Int) then ((proof_walk.f kj4 t963 a1 a2 (l3.take ((wrap64 ((l3.length : Int) - 1)) : Int).toNat)).bind fun bt965 => (if (wrap64 ((l3.length : Int) - 1)) < (l3.length : Int) then ((merkle_Node.f bt965.1 (rdOf ByteArray.empty l3 (wrap64 ((l3.length : Int) - 1)))).bind fun t968 => (some (t968, bt965.2))) else (none))) else (none)) else (none)) else (if 0 ≤ (wrap64 ((l3.length : Int) - 1)) then (if (wrap64 ((l3.length : Int) - 1)) ≤ (l3.length : Int) then ((proof_walk.f kj4 (wrap64 (a0 - t963)) (wrap64 (a1 - t963)) a2 (l3.take ((wrap64 ((l3.length : Int) - 1)) : Int).toNat)).bind fun bt970 => (if (wrap64 ((l3.length : Int) - 1)) < (l3.length : Int) then ((merkle_Node.f (rdOf ByteArray.empty l3 (wrap64 ((l3.length : Int) - 1))) bt970.1).bind fun t973 => (some (t973, bt970.2))) else (none))) else (none)) else (none))) = some (r1, r2) := H
         have A10 := Aside0.mk A100
         clear A100
         by_cases c11 : a1 < t963
         · rw [if_pos c11] at H
           have c11b0 : decide (a1 < t963) = true := decide_eq_true c11
           clear c11
           obtain ⟨ji12, hji12⟩ : ∃ j_ : Int, (wrap64 ((l3.length : Int) - 1)) = j_ := ⟨_, rfl⟩
           replace H : (if 0 ≤ (ji12) then (if (ji12) ≤ (l3.length : Int) then ((proof_walk.f kj4 t963 a1 a2 (l3.take ((ji12) : Int).toNat)).bind fun bt965 => (if (ji12) < (l3.length : Int) then ((merkle_Node.f bt965.1 (rdOf ByteArray.empty l3 (ji12))).bind fun t968 => (some (t968, bt965.2))) else (none))) else (none)) else (none)) = some (r1, r2) := by first | (rw [hji12] at H; exact H) | (simp only [hji12] at H ⊢; exact H)
           (try rw [hji12] at A10)
           have hji12w : (IntKind.i64.wrap ((l3.length : Int) - 1)) = ji12 := (i64_w _).trans hji12
           by_cases c13 : 0 ≤ (ji12)
           · rw [if_pos c13] at H
             have c13b0 := eq_true c13
             have c13b1 : decide (0 ≤ (ji12)) = true := decide_eq_true c13
             clear c13
             by_cases c14 : (ji12) ≤ (l3.length : Int)
             · rw [if_pos c14] at H
               have c14b0 := eq_true c14
               have c14b1 : decide ((ji12) ≤ (l3.length : Int)) = true := decide_eq_true c14
               clear c14
               replace H := Option.bind_eq_some_iff.mp H
               obtain ⟨⟨t965, t966⟩, A150, H⟩ := H
               replace H : (if (ji12) < (l3.length : Int) then ((merkle_Node.f t965 (rdOf ByteArray.empty l3 (ji12))).bind fun t968 => (some (t968, t966))) else (none)) = some (r1, r2) := H
               have A15 := Aside0.mk A150
               clear A150
               by_cases c16 : (ji12) < (l3.length : Int)
               · rw [if_pos c16] at H
                 have c16b0 : decide ((ji12) < (l3.length : Int)) = true := decide_eq_true c16
                 clear c16
                 replace H := Option.bind_eq_some_iff.mp H
                 obtain ⟨t968, A170, H⟩ := H
                 replace H : (some (t968, t966)) = some (r1, r2) := H
                 have A17 := Aside0.mk A170
                 clear A170
                 simp only [Option.some.injEq, Prod.mk.injEq] at H
                 obtain ⟨rfl, rfl⟩ := H
                 go_wp2_with (first | ((with_reducible refine gate_callee (f := 158) rfl ?_); refine goesL_ (some 39) rfl rfl Try.func158 (by kernel_rfl) rfl #[.int .i64 a0] rfl (by (try simp only [List.map_toArray, List.map_cons, List.map_nil]); first | done | rfl | (simp only [List.length_drop, List.length_take]; rfl)) ?_; (with_reducible refine (merkle_Split.calls a0 t963 _ A10.out).mono ?_); rintro e w' ⟨rfl, ⟨nd, rfl⟩⟩; refine ⟨_, rfl, ?_⟩; obtain ⟨i018, hi018, _, hsz18, _⟩ := info_parts info9; obtain ⟨hcut18, hA18, hC18⟩ := print_take_of (P := Try.prog) Value.string (⟨#[]⟩ : ByteArray) 63 9 .i64 Try.underlying63 hi018 hsz18 A3 c3 l3 (ji12) (of_decide_eq_true (by first | (with_reducible assumption) | assumption)) (of_decide_eq_true (by first | (with_reducible assumption) | assumption)) HC3.out; have HR964 := Aside0.mk (Kd.C_of_reads (h1 := fun _ => rfl) (hA18 _ (Kd.reads_of_C HR3.out))); have HC964 := Aside0.mk hC18; clear hA18 hC18 hi018 hsz18) | ((with_reducible refine gate_callee (f := 163) rfl ?_); refine goesL_ (some 50) rfl rfl Try.func163 (by kernel_rfl) rfl #[.int .i64 t963, .int .i64 a1, .string a2, .slice A3 (l3.take ((ji12) : Int).toNat).length c3] rfl (by (try simp only [List.map_toArray, List.map_cons, List.map_nil]); first | done | (rw [show (l3.take ((ji12) : Int).toNat).length = (ji12).toNat from (by rw [List.length_take]; have h_ : ((ji12) : Int) ≤ (l3.length : Int) := of_decide_eq_true (by first | (with_reducible assumption) | assumption); omega)] <;> rfl) | (simp only [hji12]; rfl) | rfl | (simp only [List.length_drop, List.length_take]; rfl)) ?_; (with_reducible refine (ih kj4 (by have := HJ4.out; omega) t963 a1 a2 _ _ (l3.take ((ji12) : Int).toNat) t965 t966 _ ?side1 ?side2 A15.out).mono ?_); (case side1 => repeat (first | exact (Kd.C_below HR964.out (by repeat (first | (with_reducible first | exact HB.out | apply pbA | apply pbN | apply pbD) | exact HB.out))) | (with_reducible refine Kd.C_alloc ?_ _) | (with_reducible refine Kd.C_drewN ?_ _) | (with_reducible refine Kd.C_drew ?_))); (case side2 => exact HC964.out); rintro e w19 ⟨rfl, hb⟩; refine ⟨_, rfl, ?_⟩; have n0_ := Aside0.mk (below_step (by repeat (first | (with_reducible first | exact HB.out | apply pbA | apply pbN | apply pbD) | exact HB.out)) hb); clear HB; have HB := n0_; clear n0_; (try clear hb); (try clear hb2); (try clear hk); (try clear hi); have p967 : 0 ≤ ((ji12) : Int) := of_decide_eq_true (by first | (with_reducible assumption) | assumption); have q967 : (ji12) < (l3.length : Int) := of_decide_eq_true (by first | (with_reducible assumption) | assumption); obtain ⟨ad967, e967, hx967_0⟩ := Kd.at_string HR3.out (ji12) p967 q967; cases e967; replace hx967_0 := (HB.out.cell (World.block_lt_of_cell? w _ hx967_0)).trans hx967_0; replace p967 := eq_true p967; replace q967 := eq_true q967) | ((with_reducible refine gate_callee (f := 133) rfl ?_); refine goesL_ (some 58) rfl rfl Try.func133 (by kernel_rfl) rfl #[.string t965, .string (rdOf ByteArray.empty l3 (ji12))] rfl (by (try simp only [List.map_toArray, List.map_cons, List.map_nil]); first | done | (simp only [hji12]; rfl) | rfl | (simp only [List.length_drop, List.length_take]; rfl)) ?_; (with_reducible refine (merkle_Node.calls t965 (rdOf ByteArray.empty l3 (ji12)) t968 _ A17.out).mono ?_); rintro e w20 ⟨rfl, hb⟩; refine ⟨_, rfl, ?_⟩; have n0_ := Aside0.mk (below_step (by repeat (first | (with_reducible first | exact HB.out | apply pbA | apply pbN | apply pbD) | exact HB.out)) hb); clear HB; have HB := n0_; clear n0_; (try clear hb); (try clear hb2); (try clear hk); (try clear hi)))
                 go_ret2
                 exact ⟨by first | rfl | (simp [errW_none, errW_some] <;> rfl) | (simp only [← hji12]; first | rfl | (simp [errW_none, errW_some] <;> rfl)) | (simp [*, errW_none, errW_some] <;> rfl), by repeat (first | (with_reducible first | exact HB.out | apply pbA | apply pbN | apply pbD) | exact HB.out)⟩
               · rw [if_neg c16] at H
                 exact absurd H (by simp)
             · rw [if_neg c14] at H
               exact absurd H (by simp)
           · rw [if_neg c13] at H
             exact absurd H (by simp)
         · rw [if_neg c11] at H
           have c11b0 : decide (a1 < t963) = false := decide_eq_false c11
           clear c11
           obtain ⟨ji21, hji21⟩ : ∃ j_ : Int, (wrap64 ((l3.length : Int) - 1)) = j_ := ⟨_, rfl⟩
           replace H : (if 0 ≤ (ji21) then (if (ji21) ≤ (l3.length : Int) then ((proof_walk.f kj4 (wrap64 (a0 - t963)) (wrap64 (a1 - t963)) a2 (l3.take ((ji21) : Int).toNat)).bind fun bt970 => (if (ji21) < (l3.length : Int) then ((merkle_Node.f (rdOf ByteArray.empty l3 (ji21)) bt970.1).bind fun t973 => (some (t973, bt970.2))) else (none))) else (none)) else (none)) = some (r1, r2) := by first | (rw [hji21] at H; exact H) | (simp only [hji21] at H ⊢; exact H)
           (try rw [hji21] at A10)
           have hji21w : (IntKind.i64.wrap ((l3.length : Int) - 1)) = ji21 := (i64_w _).trans hji21
           by_cases c22 : 0 ≤ (ji21)
           · rw [if_pos c22] at H
             have c22b0 := eq_true c22
             have c22b1 : decide (0 ≤ (ji21)) = true := decide_eq_true c22
             clear c22
             by_cases c23 : (ji21) ≤ (l3.length : Int)
             · rw [if_pos c23] at H
               have c23b0 := eq_true c23
               have c23b1 : decide ((ji21) ≤ (l3.length : Int)) = true := decide_eq_true c23
               clear c23
               replace H := Option.bind_eq_some_iff.mp H
               obtain ⟨⟨t970, t971⟩, A240, H⟩ := H
               replace H : (if (ji21) < (l3.length : Int) then ((merkle_Node.f (rdOf ByteArray.empty l3 (ji21)) t970).bind fun t973 => (some (t973, t971))) else (none)) = some (r1, r2) := H
               have A24 := Aside0.mk A240
               clear A240
               by_cases c25 : (ji21) < (l3.length : Int)
               · rw [if_pos c25] at H
                 have c25b0 : decide ((ji21) < (l3.length : Int)) = true := decide_eq_true c25
                 clear c25
                 replace H := Option.bind_eq_some_iff.mp H
                 obtain ⟨t973, A260, H⟩ := H
                 replace H : (some (t973, t971)) = some (r1, r2) := H
                 have A26 := Aside0.mk A260
                 clear A260
                 simp only [Option.some.injEq, Prod.mk.injEq] at H
                 obtain ⟨rfl, rfl⟩ := H
                 go_wp2_with (first | ((with_reducible refine gate_callee (f := 158) rfl ?_); refine goesL_ (some 39) rfl rfl Try.func158 (by kernel_rfl) rfl #[.int .i64 a0] rfl (by (try simp only [List.map_toArray, List.map_cons, List.map_nil]); first | done | rfl | (simp only [List.length_drop, List.length_take]; rfl)) ?_; (with_reducible refine (merkle_Split.calls a0 t963 _ A10.out).mono ?_); rintro e w' ⟨rfl, ⟨nd, rfl⟩⟩; refine ⟨_, rfl, ?_⟩; obtain ⟨i027, hi027, _, hsz27, _⟩ := info_parts info9; obtain ⟨hcut27, hA27, hC27⟩ := print_take_of (P := Try.prog) Value.string (⟨#[]⟩ : ByteArray) 63 9 .i64 Try.underlying63 hi027 hsz27 A3 c3 l3 (ji21) (of_decide_eq_true (by first | (with_reducible assumption) | assumption)) (of_decide_eq_true (by first | (with_reducible assumption) | assumption)) HC3.out; have HR969 := Aside0.mk (Kd.C_of_reads (h1 := fun _ => rfl) (hA27 _ (Kd.reads_of_C HR3.out))); have HC969 := Aside0.mk hC27; clear hA27 hC27 hi027 hsz27) | ((with_reducible refine gate_callee (f := 163) rfl ?_); refine goesL_ (some 71) rfl rfl Try.func163 (by kernel_rfl) rfl #[.int .i64 (wrap64 (a0 - t963)), .int .i64 (wrap64 (a1 - t963)), .string a2, .slice A3 (l3.take ((ji21) : Int).toNat).length c3] rfl (by (try simp only [List.map_toArray, List.map_cons, List.map_nil]); first | done | (rw [show (l3.take ((ji21) : Int).toNat).length = (ji21).toNat from (by rw [List.length_take]; have h_ : ((ji21) : Int) ≤ (l3.length : Int) := of_decide_eq_true (by first | (with_reducible assumption) | assumption); omega)] <;> rfl) | (simp only [hji21]; rfl) | rfl | (simp only [List.length_drop, List.length_take]; rfl)) ?_; (with_reducible refine (ih kj4 (by have := HJ4.out; omega) (wrap64 (a0 - t963)) (wrap64 (a1 - t963)) a2 _ _ (l3.take ((ji21) : Int).toNat) t970 t971 _ ?side1 ?side2 A24.out).mono ?_); (case side1 => repeat (first | exact (Kd.C_below HR969.out (by repeat (first | (with_reducible first | exact HB.out | apply pbA | apply pbN | apply pbD) | exact HB.out))) | (with_reducible refine Kd.C_alloc ?_ _) | (with_reducible refine Kd.C_drewN ?_ _) | (with_reducible refine Kd.C_drew ?_))); (case side2 => exact HC969.out); rintro e w28 ⟨rfl, hb⟩; refine ⟨_, rfl, ?_⟩; have n0_ := Aside0.mk (below_step (by repeat (first | (with_reducible first | exact HB.out | apply pbA | apply pbN | apply pbD) | exact HB.out)) hb); clear HB; have HB := n0_; clear n0_; (try clear hb); (try clear hb2); (try clear hk); (try clear hi); have p972 : 0 ≤ ((ji21) : Int) := of_decide_eq_true (by first | (with_reducible assumption) | assumption); have q972 : (ji21) < (l3.length : Int) := of_decide_eq_true (by first | (with_reducible assumption) | assumption); obtain ⟨ad972, e972, hx972_0⟩ := Kd.at_string HR3.out (ji21) p972 q972; cases e972; replace hx972_0 := (HB.out.cell (World.block_lt_of_cell? w _ hx972_0)).trans hx972_0; replace p972 := eq_true p972; replace q972 := eq_true q972) | ((with_reducible refine gate_callee (f := 133) rfl ?_); refine goesL_ (some 79) rfl rfl Try.func133 (by kernel_rfl) rfl #[.string (rdOf ByteArray.empty l3 (ji21)), .string t970] rfl (by (try simp only [List.map_toArray, List.map_cons, List.map_nil]); first | done | (simp only [hji21]; rfl) | rfl | (simp only [List.length_drop, List.length_take]; rfl)) ?_; (with_reducible refine (merkle_Node.calls (rdOf ByteArray.empty l3 (ji21)) t970 t973 _ A26.out).mono ?_); rintro e w29 ⟨rfl, hb⟩; refine ⟨_, rfl, ?_⟩; have n0_ := Aside0.mk (below_step (by repeat (first | (with_reducible first | exact HB.out | apply pbA | apply pbN | apply pbD) | exact HB.out)) hb); clear HB; have HB := n0_; clear n0_; (try clear hb); (try clear hb2); (try clear hk); (try clear hi)))
                 go_ret2
                 exact ⟨by first | rfl | (simp [errW_none, errW_some] <;> rfl) | (simp only [← hji21]; first | rfl | (simp [errW_none, errW_some] <;> rfl)) | (simp [*, errW_none, errW_some] <;> rfl), by repeat (first | (with_reducible first | exact HB.out | apply pbA | apply pbN | apply pbD) | exact HB.out)⟩
               · rw [if_neg c25] at H
                 exact absurd H (by simp)
             · rw [if_neg c23] at H
               exact absurd H (by simp)
           · rw [if_neg c22] at H
             exact absurd H (by simp)
def proof_leads.f (k : Nat) (a0 : ByteArray) (a1_0 : ByteArray) (a1_1 : ByteArray) (a2 : Int) (a3 : Int) (l4 : List ByteArray) : Option (Bool) := (merkle_Leaf.f a1_0 a1_1).bind fun t975 => ((proof_walk.f k a2 a3 t975 l4).bind fun bt976 => (if bt976.2 = true then ((merkle_Top.f a2 bt976.1).bind fun t978 => (some (t978.toList == a0.toList))) else (some false)))
set_option maxHeartbeats 8000000 in
set_option maxRecDepth 100000 in
theorem proof_leads.calls (k : Nat) (a0 : ByteArray) (a1_0 : ByteArray) (a1_1 : ByteArray) (a2 : Int) (a3 : Int) (A4 : Option Addr) (c4 : Nat) (l4 : List ByteArray) (r : Bool) (w : World) (hr4 : Kd.C Kd.string w A4 l4.length l4) (hc4 : l4.length ≤ c4) (h : proof_leads.f k a0 a1_0 a1_1 a2 a3 l4 = some r) :
  Calls Try.prog 128 #[.string a0, .agg #[.string a1_0, .string a1_1], .int .i64 a2, .int .i64 a3, .slice A4 l4.length c4] w fun e w' => e = .returned (.bool r) ∧ Below w.heap.size w w' := by
 have hu86 := Try.underlying86
 have HR4 := Aside0.mk hr4
 have HC4 := Aside0.mk hc4
 clear hr4 hc4
 have HB := Aside0.mk (Below.refl w.heap.size w)
 have H : ((merkle_Leaf.f a1_0 a1_1).bind fun t975 => ((proof_walk.f k a2 a3 t975 l4).bind fun bt976 => (if bt976.2 = true then ((merkle_Top.f a2 bt976.1).bind fun t978 => (some (t978.toList == a0.toList))) else (some false)))) = some r := h
 clear h
 replace H := Option.bind_eq_some_iff.mp H
 obtain ⟨t975, A60, H⟩ := H
 replace H : ((proof_walk.f k a2 a3 t975 l4).bind fun bt976 => (if bt976.2 = true then ((merkle_Top.f a2 bt976.1).bind fun t978 => (some (t978.toList == a0.toList))) else (some false))) = some r := H
 have A6 := Aside0.mk A60
 clear A60
 replace H := Option.bind_eq_some_iff.mp H
 obtain ⟨⟨t976, t977⟩, A70, H⟩ := H
 replace H : (if t977 = true then ((merkle_Top.f a2 t976).bind fun t978 => (some (t978.toList == a0.toList))) else (some false)) = some r := H
 have A7 := Aside0.mk A70
 clear A70
 by_cases c8 : t977 = true
 · subst c8
   have H1 : ((merkle_Top.f a2 t976).bind fun t978 => (some (t978.toList == a0.toList))) = some r := by rw [if_pos rfl] at H; exact H
   clear H
   have H := H1
   clear H1
   replace H := Option.bind_eq_some_iff.mp H
   obtain ⟨t978, A90, H⟩ := H
   replace H : (some (t978.toList == a0.toList)) = some r := H
   have A9 := Aside0.mk A90
   clear A90
   obtain rfl := Option.some.inj H
   go_enter Try.func128, Try.ntmps128
   go_wp2_with (first | ((with_reducible refine gate_dst (N := 6) rfl ?_); refine box_event ?hg (N := 6) ?hd (cs := #[.string a1_0, .string a1_1]) (t := 86) ?hr ?_; (case hd => rfl); (case hg => rfl); (case hr => first | (go_simp; done) | (go_simp; rfl)); intro gb974 hg w10 hbox hb; have n0_ := Aside0.mk (below_step (by repeat (first | (with_reducible first | exact HB.out | apply pbA | apply pbN | apply pbD) | exact HB.out)) hb); have n1_ := Aside0.mk (hbox); have n2_ := Aside0.mk ((by rw [hg]; exact (below_size (by repeat (first | (with_reducible first | exact HB.out | apply pbA | apply pbN | apply pbD) | exact HB.out))) : w.heap.size ≤ gb974)); have n3_ := Aside0.mk ((by rw [hg]; exact (below_size (by repeat (first | (with_reducible first | exact HB.out | apply pbA | apply pbN | apply pbD) | exact HB.out))) : w.heap.size ≤ gb974)); clear HB; have HB := n0_; have BK974 := n1_; have GW974 := n2_; have GE974 := n3_; clear n0_ n1_ n2_ n3_; clear hb hbox hg; have hcz11_0 : w10.cell? ⟨gb974, 0, none⟩ = some (.string a1_0) := (pkC BK974.out 0).trans rfl; have hcz11_1 : w10.cell? ⟨gb974, 1, none⟩ = some (.string a1_1) := (pkC BK974.out 1).trans rfl; have hfz11_0 := pkF BK974.out 0; have hfz11_1 := pkF BK974.out 1) | ((with_reducible refine gate_callee (f := 119) rfl ?_); refine goesL_ (some 17) rfl rfl Try.func119 (by kernel_rfl) rfl #[.agg #[.string a1_0, .string a1_1]] rfl (by (try simp only [List.map_toArray, List.map_cons, List.map_nil]); first | done | rfl | (simp only [List.length_drop, List.length_take]; rfl)) ?_; (with_reducible refine (merkle_Leaf.calls a1_0 a1_1 t975 _ A6.out).mono ?_); rintro e w12 ⟨rfl, hb⟩; refine ⟨_, rfl, ?_⟩; have n0_ := Aside0.mk (blk_below (g := gb974) (o := .cells #[.string a1_0, .string a1_1] 86 (0, 0)) (by (with_reducible repeat (first | refine pkN ?_ _ | refine pkD ?_ | refine pkA ?_ _)); exact BK974.out) hb); have n1_ := Aside0.mk (below_step (by repeat (first | (with_reducible first | exact HB.out | apply pbA | apply pbN | apply pbD | refine pbS ?_ GE974.out) | exact HB.out)) hb); clear BK974; clear HB; have BK974 := n0_; have HB := n1_; clear n0_ n1_; (try clear hb); (try clear hb2); (try clear hk); (try clear hi)) | ((with_reducible refine gate_callee (f := 163) rfl ?_); refine goesL_ (some 19) rfl rfl Try.func163 (by kernel_rfl) rfl #[.int .i64 a2, .int .i64 a3, .string t975, .slice A4 l4.length c4] rfl (by (try simp only [List.map_toArray, List.map_cons, List.map_nil]); first | done | rfl | (simp only [List.length_drop, List.length_take]; rfl)) ?_; (with_reducible refine (proof_walk.calls k a2 a3 t975 _ _ l4 t976 true _ ?side1 ?side2 A7.out).mono ?_); (case side1 => repeat (first | exact (Kd.C_below HR4.out HB.out) | (with_reducible refine Kd.C_alloc ?_ _) | (with_reducible refine Kd.C_drewN ?_ _) | (with_reducible refine Kd.C_drew ?_))); (case side2 => exact HC4.out); rintro e w13 ⟨rfl, hb⟩; refine ⟨_, rfl, ?_⟩; have n0_ := Aside0.mk (blk_below (g := gb974) (o := .cells #[.string a1_0, .string a1_1] 86 (0, 0)) (by (with_reducible repeat (first | refine pkN ?_ _ | refine pkD ?_ | refine pkA ?_ _)); exact BK974.out) hb); have n1_ := Aside0.mk (below_step (by repeat (first | (with_reducible first | exact HB.out | apply pbA | apply pbN | apply pbD | refine pbS ?_ GE974.out) | exact HB.out)) hb); clear BK974; clear HB; have BK974 := n0_; have HB := n1_; clear n0_ n1_; (try clear hb); (try clear hb2); (try clear hk); (try clear hi)) | (go_at_call 129; (with_reducible refine (merkle_Top.calls a2 t976 t978 _ A9.out).mono ?_); rintro e w14 ⟨rfl, hb⟩; have n0_ := Aside0.mk (blk_below (g := gb974) (o := .cells #[.string a1_0, .string a1_1] 86 (0, 0)) (by (with_reducible repeat (first | refine pkN ?_ _ | refine pkD ?_ | refine pkA ?_ _)); exact BK974.out) hb); have n1_ := Aside0.mk (below_step (by repeat (first | (with_reducible first | exact HB.out | apply pbA | apply pbN | apply pbD | refine pbS ?_ GE974.out) | exact HB.out)) hb); clear BK974; clear HB; have BK974 := n0_; have HB := n1_; clear n0_ n1_; (try clear hb); (try clear hb2); (try clear hk); (try clear hi)))
   go_ret
   exact ⟨by first | rfl | (simp [errW_none, errW_some] <;> rfl) | (simp [*, errW_none, errW_some] <;> rfl), by repeat (first | (with_reducible first | exact HB.out | apply pbA | apply pbN | apply pbD | refine pbS ?_ GE974.out) | exact HB.out)⟩
 · replace c8 := Bool.eq_false_iff.mpr c8
   subst c8
   have H1 : (some false) = some r := by rw [if_neg (show ¬ (false = true) by decide)] at H; exact H
   clear H
   have H := H1
   clear H1
   obtain rfl := Option.some.inj H
   go_enter Try.func128, Try.ntmps128
   go_wp2_with (first | ((with_reducible refine gate_dst (N := 6) rfl ?_); refine box_event ?hg (N := 6) ?hd (cs := #[.string a1_0, .string a1_1]) (t := 86) ?hr ?_; (case hd => rfl); (case hg => rfl); (case hr => first | (go_simp; done) | (go_simp; rfl)); intro gb974 hg w15 hbox hb; have n0_ := Aside0.mk (below_step (by repeat (first | (with_reducible first | exact HB.out | apply pbA | apply pbN | apply pbD) | exact HB.out)) hb); have n1_ := Aside0.mk (hbox); have n2_ := Aside0.mk ((by rw [hg]; exact (below_size (by repeat (first | (with_reducible first | exact HB.out | apply pbA | apply pbN | apply pbD) | exact HB.out))) : w.heap.size ≤ gb974)); have n3_ := Aside0.mk ((by rw [hg]; exact (below_size (by repeat (first | (with_reducible first | exact HB.out | apply pbA | apply pbN | apply pbD) | exact HB.out))) : w.heap.size ≤ gb974)); clear HB; have HB := n0_; have BK974 := n1_; have GW974 := n2_; have GE974 := n3_; clear n0_ n1_ n2_ n3_; clear hb hbox hg; have hcz16_0 : w15.cell? ⟨gb974, 0, none⟩ = some (.string a1_0) := (pkC BK974.out 0).trans rfl; have hcz16_1 : w15.cell? ⟨gb974, 1, none⟩ = some (.string a1_1) := (pkC BK974.out 1).trans rfl; have hfz16_0 := pkF BK974.out 0; have hfz16_1 := pkF BK974.out 1) | ((with_reducible refine gate_callee (f := 119) rfl ?_); refine goesL_ (some 17) rfl rfl Try.func119 (by kernel_rfl) rfl #[.agg #[.string a1_0, .string a1_1]] rfl (by (try simp only [List.map_toArray, List.map_cons, List.map_nil]); first | done | rfl | (simp only [List.length_drop, List.length_take]; rfl)) ?_; (with_reducible refine (merkle_Leaf.calls a1_0 a1_1 t975 _ A6.out).mono ?_); rintro e w17 ⟨rfl, hb⟩; refine ⟨_, rfl, ?_⟩; have n0_ := Aside0.mk (blk_below (g := gb974) (o := .cells #[.string a1_0, .string a1_1] 86 (0, 0)) (by (with_reducible repeat (first | refine pkN ?_ _ | refine pkD ?_ | refine pkA ?_ _)); exact BK974.out) hb); have n1_ := Aside0.mk (below_step (by repeat (first | (with_reducible first | exact HB.out | apply pbA | apply pbN | apply pbD | refine pbS ?_ GE974.out) | exact HB.out)) hb); clear BK974; clear HB; have BK974 := n0_; have HB := n1_; clear n0_ n1_; (try clear hb); (try clear hb2); (try clear hk); (try clear hi)) | ((with_reducible refine gate_callee (f := 163) rfl ?_); refine goesL_ (some 19) rfl rfl Try.func163 (by kernel_rfl) rfl #[.int .i64 a2, .int .i64 a3, .string t975, .slice A4 l4.length c4] rfl (by (try simp only [List.map_toArray, List.map_cons, List.map_nil]); first | done | rfl | (simp only [List.length_drop, List.length_take]; rfl)) ?_; (with_reducible refine (proof_walk.calls k a2 a3 t975 _ _ l4 t976 false _ ?side1 ?side2 A7.out).mono ?_); (case side1 => repeat (first | exact (Kd.C_below HR4.out HB.out) | (with_reducible refine Kd.C_alloc ?_ _) | (with_reducible refine Kd.C_drewN ?_ _) | (with_reducible refine Kd.C_drew ?_))); (case side2 => exact HC4.out); rintro e w18 ⟨rfl, hb⟩; refine ⟨_, rfl, ?_⟩; have n0_ := Aside0.mk (blk_below (g := gb974) (o := .cells #[.string a1_0, .string a1_1] 86 (0, 0)) (by (with_reducible repeat (first | refine pkN ?_ _ | refine pkD ?_ | refine pkA ?_ _)); exact BK974.out) hb); have n1_ := Aside0.mk (below_step (by repeat (first | (with_reducible first | exact HB.out | apply pbA | apply pbN | apply pbD | refine pbS ?_ GE974.out) | exact HB.out)) hb); clear BK974; clear HB; have BK974 := n0_; have HB := n1_; clear n0_ n1_; (try clear hb); (try clear hb2); (try clear hk); (try clear hi)))
   go_ret
   exact ⟨by first | rfl | (simp [errW_none, errW_some] <;> rfl) | (simp [*, errW_none, errW_some] <;> rfl), by repeat (first | (with_reducible first | exact HB.out | apply pbA | apply pbN | apply pbD | refine pbS ?_ GE974.out) | exact HB.out)⟩
def proof_Has.f (k : Nat) (a0 : ByteArray) (a1_0 : ByteArray) (a1_1 : ByteArray) (a2_0 : Int) (a2_1 : Int) (a2_2 : Bool) (l2_3 : List (S86)) (l2_4 : List (List ByteArray)) : Option (Bool) := if a2_2 = true then (if (l2_3.length : Int) = 0 then (if (l2_4.length : Int) = 1 then (if 0 < (l2_4.length : Int) then ((proof_leads.f k a0 a1_0 a1_1 a2_0 a2_1 (rd_L10 l2_4 0)).bind fun t982 => (some t982)) else (none)) else (some false)) else (some false)) else (some false)
def proof_Has.T1 : Bool × List (List Nat × List Nat) := (true, [([], []), ([0], [0]), ([1], [1]), ([2], [2]), ([3, 2], [2, 3]), ([4, 2], [2, 4]), ([5, 2], [2, 5]), ([2, 6], [2, 6]), ([7, 2], [7]), ([8], [8]), ([9, 8], [8, 9]), ([10, 8], [8, 10]), ([11, 8], [8, 11]), ([8, 12], [8, 12]), ([13, 8], [13]), ([14], [14]), ([14], [14]), ([14], [14]), ([17, 14], [14, 17]), ([14], [14]), ([19, 14], [14, 19]), ([14], [14]), ([21, 14], [14, 21]), ([22, 14], [14, 22]), ([23, 14], [14, 23]), ([15, 16, 18, 20, 24, 14, 14], [14, 15, 16, 18, 20, 24]), ([14, 25], [14, 25]), ([26, 25, 0, 1, 2, 3, 4, 5, 6, 7, 8, 9, 10, 11, 12, 13, 14, 15, 16, 17, 18, 19, 20, 21, 22, 23, 24, 25, 26], [26])])
def proof_Has.B1 : List Nat := [0, 1, 3, 7, 15, 31, 63, 127, 255, 511, 1023, 2047, 4095, 8191, 16383, 32767, 32767, 32767, 163839, 32767, 557055, 32767, 2129919, 6324223, 14712831, 33554431, 67108863, 134217727]
theorem proof_Has.tab1 : rtab .any (opsOf Try.f58 1) = proof_Has.T1 := by kernel_rfl
theorem proof_Has.bits1 : waitsOk proof_Has.T1.2 proof_Has.B1 = true := by kernel_rfl
set_option maxHeartbeats 8000000 in
set_option maxRecDepth 100000 in
theorem proof_Has.calls (k : Nat) (a0 : ByteArray) (a1_0 : ByteArray) (a1_1 : ByteArray) (a2_0 : Int) (a2_1 : Int) (a2_2 : Bool) (A2_3 : Option Addr) (c2_3 : Nat) (l2_3 : List (S86)) (A2_4 : Option Addr) (c2_4 : Nat) (l2_4 : List (List ByteArray)) (r : Bool) (w : World) (hr2_3 : Kd.C k86 w A2_3 l2_3.length l2_3) (hc2_3 : l2_3.length ≤ c2_3) (hr2_4 : Kd.C (Kd.slice 9 Kd.string) w A2_4 l2_4.length l2_4) (hc2_4 : l2_4.length ≤ c2_4) (h : proof_Has.f k a0 a1_0 a1_1 a2_0 a2_1 a2_2 l2_3 l2_4 = some r) :
  Calls Try.prog 58 #[.string a0, .agg #[.string a1_0, .string a1_1], .agg #[.int .i64 a2_0, .int .i64 a2_1, .bool a2_2, .slice A2_3 l2_3.length c2_3, .slice A2_4 l2_4.length c2_4]] w fun e w' => e = .returned (.bool r) ∧ Below w.heap.size w w' := by
 have hu86 := Try.underlying86
 have hu82 := Try.underlying82
 have HR2_3 := Aside0.mk hr2_3
 have HC2_3 := Aside0.mk hc2_3
 clear hr2_3 hc2_3
 have HR2_4 := Aside0.mk hr2_4
 have HC2_4 := Aside0.mk hc2_4
 clear hr2_4 hc2_4
 have HB := Aside0.mk (Below.refl w.heap.size w)
 have H : (if a2_2 = true then (if (l2_3.length : Int) = 0 then (if (l2_4.length : Int) = 1 then (if 0 < (l2_4.length : Int) then ((proof_leads.f k a0 a1_0 a1_1 a2_0 a2_1 (rd_L10 l2_4 0)).bind fun t982 => (some t982)) else (none)) else (some false)) else (some false)) else (some false)) = some r := h
 clear h
 by_cases c4 : a2_2 = true
 · subst c4
   have H1 : (if (l2_3.length : Int) = 0 then (if (l2_4.length : Int) = 1 then (if 0 < (l2_4.length : Int) then ((proof_leads.f k a0 a1_0 a1_1 a2_0 a2_1 (rd_L10 l2_4 0)).bind fun t982 => (some t982)) else (none)) else (some false)) else (some false)) = some r := by rw [if_pos rfl] at H; exact H
   clear H
   have H := H1
   clear H1
   by_cases c5 : (l2_3.length : Int) = 0
   · rw [if_pos c5] at H
     have c5b0 : ((l2_3.length : Int) == 0) = true := beq_iff_eq.mpr c5
     have c5b1 : ((l2_3.length : Int) != 0) = false := bne_eq_false_iff_eq.mpr c5
     clear c5
     by_cases c6 : (l2_4.length : Int) = 1
     · rw [if_pos c6] at H
       have c6b0 : ((l2_4.length : Int) == 1) = true := beq_iff_eq.mpr c6
       have c6b1 : ((l2_4.length : Int) != 1) = false := bne_eq_false_iff_eq.mpr c6
       clear c6
       by_cases c7 : 0 < (l2_4.length : Int)
       · rw [if_pos c7] at H
         have c7b0 : decide (0 < (l2_4.length : Int)) = true := decide_eq_true c7
         have c7b1 : decide (0 < l2_4.length) = true := decide_eq_true (by omega)
         clear c7
         replace H := Option.bind_eq_some_iff.mp H
         obtain ⟨t982, A80, H⟩ := H
         replace H : (some t982) = some r := H
         have A8 := Aside0.mk A80
         clear A80
         obtain rfl := Option.some.inj H
         go_enter Try.func58, Try.ntmps58
         try go_wp2_with (first | ((with_reducible refine gate_dst (N := 4) rfl ?_); refine box_event ?hg (N := 4) ?hd (cs := #[.string a1_0, .string a1_1]) (t := 86) ?hr ?_; (case hd => rfl); (case hg => rfl); (case hr => first | (go_simp; done) | (go_simp; rfl)); intro gb979 hg w9 hbox hb; have n0_ := Aside0.mk (below_step (by repeat (first | (with_reducible first | exact HB.out | apply pbA | apply pbN | apply pbD) | exact HB.out)) hb); have n1_ := Aside0.mk (hbox); have n2_ := Aside0.mk ((by rw [hg]; exact (below_size (by repeat (first | (with_reducible first | exact HB.out | apply pbA | apply pbN | apply pbD) | exact HB.out))) : w.heap.size ≤ gb979)); have n3_ := Aside0.mk ((by rw [hg]; exact (below_size (by repeat (first | (with_reducible first | exact HB.out | apply pbA | apply pbN | apply pbD) | exact HB.out))) : w.heap.size ≤ gb979)); clear HB; have HB := n0_; have BK979 := n1_; have GW979 := n2_; have GE979 := n3_; clear n0_ n1_ n2_ n3_; clear hb hbox hg) | ((with_reducible refine gate_dst (N := 5) rfl ?_); refine box_event ?hg (N := 5) ?hd (cs := #[.int .i64 a2_0, .int .i64 a2_1, .bool true, .slice A2_3 l2_3.length c2_3, .slice A2_4 l2_4.length c2_4]) (t := 82) ?hr ?_; (case hd => rfl); (case hg => rfl); (case hr => first | (go_simp; done) | (go_simp; rfl)); intro gb980 hg w10 hbox hb; have n0_ := Aside0.mk (blk_below (g := gb979) (o := .cells #[.string a1_0, .string a1_1] 86 (0, 0)) (by (with_reducible repeat (first | refine pkN ?_ _ | refine pkD ?_ | refine pkA ?_ _)); exact BK979.out) hb); have n1_ := Aside0.mk (below_step (by repeat (first | (with_reducible first | exact HB.out | apply pbA | apply pbN | apply pbD | refine pbS ?_ GE979.out) | exact HB.out)) hb); have n2_ := Aside0.mk (hbox); have n3_ := Aside0.mk ((by rw [hg]; exact (below_size (by repeat (first | (with_reducible first | exact HB.out | apply pbA | apply pbN | apply pbD | refine pbS ?_ GE979.out) | exact HB.out))) : w.heap.size ≤ gb980)); have n4_ := Aside0.mk ((by rw [hg]; exact (below_size (by repeat (first | (with_reducible first | exact HB.out | apply pbA | apply pbN | apply pbD | refine pbS ?_ GE979.out) | exact HB.out))) : w.heap.size ≤ gb980)); have n5_ := Aside0.mk ((by rw [hg]; exact Nat.ne_of_lt (blk_lt (g := gb979) (o := .cells #[.string a1_0, .string a1_1] 86 (0, 0)) (by (with_reducible repeat (first | refine pkN ?_ _ | refine pkD ?_ | refine pkA ?_ _)); exact BK979.out)) : gb979 ≠ gb980)); have n6_ := Aside0.mk ((by rw [hg]; exact Nat.ne_of_gt (blk_lt (g := gb979) (o := .cells #[.string a1_0, .string a1_1] 86 (0, 0)) (by (with_reducible repeat (first | refine pkN ?_ _ | refine pkD ?_ | refine pkA ?_ _)); exact BK979.out)) : gb980 ≠ gb979)); clear BK979; clear HB; have BK979 := n0_; have HB := n1_; have BK980 := n2_; have GW980 := n3_; have GE980 := n4_; have NB979_980 := n5_; have NB980_979 := n6_; clear n0_ n1_ n2_ n3_ n4_ n5_ n6_; clear hb hbox hg))
         have n0_ := Aside0.mk (pkD BK979.out)
         have n1_ := Aside0.mk (pkD BK980.out)
         have n2_ := Aside0.mk (pbD HB.out)
         clear BK979
         clear BK980
         clear HB
         have BK979 := n0_
         have BK980 := n1_
         have HB := n2_
         clear n0_ n1_ n2_
         have p981 : 0 ≤ (0 : Int) := (by omega)
         have q981 : 0 < (l2_4.length : Int) := of_decide_eq_true (by first | (with_reducible assumption) | assumption)
         obtain ⟨ad981, A981_0, c981_0, e981, hx981_0, hl981_0, hi981_0⟩ := at_L10 HR2_4.out 0 p981 q981
         have hw981_0 := hx981_0
         (try rw [show ((0 : Int)).toNat = 0 from rfl] at hw981_0)
         (try rw [show 0 * 1 = 0 from rfl] at hw981_0)
         (try rw [Addr.add_zero'] at hw981_0)
         cases e981
         have qi981 : (0 < l2_4.length) = True := eq_true (by omega)
         (try rw [show ((0 : Int)).toNat = 0 from rfl] at hx981_0)
         (try rw [Addr.add_zero'] at hx981_0)
         replace hx981_0 := (HB.out.cell (World.block_lt_of_cell? w _ hx981_0)).trans hx981_0
         have HR981_0 := Aside0.mk hi981_0
         have HC981_0 := Aside0.mk hl981_0
         clear hi981_0 hl981_0
         replace p981 := eq_true p981
         replace q981 := eq_true q981
         refine start_ (n := 28) (S := fun w' => w'.cell? ⟨gb980, 0, none⟩ = some (.int .i64 a2_0) ∧ w'.cell? ⟨gb980, 1, none⟩ = some (.int .i64 a2_1) ∧ w'.cell? ⟨gb980, 2, none⟩ = some (.bool true) ∧ w'.cell? ⟨gb980, 3, none⟩ = some (.slice A2_3 l2_3.length c2_3) ∧ w'.cell? ⟨gb980, 4, none⟩ = some (.slice (some ad981) l2_4.length c2_4) ∧ w'.cell? ⟨gb979, 0, none⟩ = some (.string a1_0) ∧ w'.cell? ⟨gb979, 1, none⟩ = some (.string a1_1) ∧ w'.cell? ad981 = some (.slice A981_0 (rd_L10 l2_4 0).length c981_0)) (ds := []) #[false, false, false, false, false, false, false, false, false, false, false, false, false, false, false, false, false, false, false, false, false, false, false, false, false, false, false, false] (by kernel_rfl) rfl rfl ⟨(pkC BK980.out 0).trans rfl, (pkC BK980.out 1).trans rfl, (pkC BK980.out 2).trans rfl, (pkC BK980.out 3).trans rfl, (pkC BK980.out 4).trans rfl, (pkC BK979.out 0).trans rfl, (pkC BK979.out 1).trans rfl, ((HB.out.cell (World.block_lt_of_cell? w _ hw981_0)).trans hw981_0)⟩ (fun hHeld => ?_); refine with_tabW proof_Has.tab1 proof_Has.bits1 (fun HT_ HW_ => ?_)
         generalize w10.drew = w11 at BK979 BK980 HB HR981_0 hx981_0 hHeld ⊢
         refine pure_ (i := 0) (N := some 7) (v := ?_) (a' := ?_) #[true, false, false, false, false, false, false, false, false, false, false, false, false, false, false, false, false, false, false, false, false, false, false, false, false, false, false, false] rfl rfl (any_of HT_.out (by kernel_rfl)) (fun _ _ _ h => h) (Or.inl ⟨by rfl, ?_⟩) ?_ ?_
         rotate_left
         · intro w'
           go_simp
           with_reducible rfl
         rotate_left
         · simp only [Act.put, zA, zB, zC, i64_w, i32_w]
           rfl
         refine take_ (i := 1) (N := some 8) (v := ?_) (a' := ?_) #[true, true, false, false, false, false, false, false, false, false, false, false, false, false, false, false, false, false, false, false, false, false, false, false, false, false, false, false] rfl rfl (take_ofW HT_.out HW_.out (by kernel_rfl)) (fun _ _ _ h => h) (Or.inl ⟨by rfl, ?_⟩) hHeld ?_ ?_
         rotate_left
         · rintro w' ⟨s0, s1, s2, s3, s4, s5, s6, s7⟩
           go_simp
           with_reducible rfl
         rotate_left
         · simp only [Act.put, zA, zB, zC, i64_w, i32_w]
           rfl
         refine pure_ (i := 2) (N := some 9) (v := ?_) (a' := ?_) #[true, true, true, false, false, false, false, false, false, false, false, false, false, false, false, false, false, false, false, false, false, false, false, false, false, false, false, false] rfl rfl (any_of HT_.out (by kernel_rfl)) (fun _ _ _ h => h) (Or.inl ⟨by rfl, ?_⟩) ?_ ?_
         rotate_left
         · intro w'
           go_simp
           with_reducible rfl
         rotate_left
         · simp only [Act.put, zA, zB, zC, i64_w, i32_w]
           rfl
         refine pure_ (i := 3) (N := some 10) (v := ?_) (a' := ?_) #[true, true, true, true, false, false, false, false, false, false, false, false, false, false, false, false, false, false, false, false, false, false, false, false, false, false, false, false] rfl rfl (any_of HT_.out (by kernel_rfl)) (fun _ _ _ h => h) (Or.inl ⟨by rfl, ?_⟩) ?_ ?_
         rotate_left
         · intro w'
           go_simp
           with_reducible rfl
         rotate_left
         · simp only [Act.put, zA, zB, zC, i64_w, i32_w]
           rfl
         refine take_ (i := 4) (N := some 11) (v := ?_) (a' := ?_) #[true, true, true, true, true, false, false, false, false, false, false, false, false, false, false, false, false, false, false, false, false, false, false, false, false, false, false, false] rfl rfl (take_ofW HT_.out HW_.out (by kernel_rfl)) (fun _ _ _ h => h) (Or.inl ⟨by rfl, ?_⟩) hHeld ?_ ?_
         rotate_left
         · rintro w' ⟨s0, s1, s2, s3, s4, s5, s6, s7⟩
           go_simp
           with_reducible rfl
         rotate_left
         · simp only [Act.put, zA, zB, zC, i64_w, i32_w]
           rfl
         refine pure_ (i := 5) (N := some 12) (v := ?_) (a' := ?_) #[true, true, true, true, true, true, false, false, false, false, false, false, false, false, false, false, false, false, false, false, false, false, false, false, false, false, false, false] rfl rfl (any_of HT_.out (by kernel_rfl)) (fun _ _ _ h => h) (Or.inl ⟨by rfl, ?_⟩) ?_ ?_
         rotate_left
         · intro w'
           go_simp
           with_reducible rfl
         rotate_left
         · simp only [Act.put, zA, zB, zC, i64_w, i32_w]
           rfl
         refine pure_ (i := 6) (N := some 13) (v := ?_) (a' := ?_) #[true, true, true, true, true, true, true, false, false, false, false, false, false, false, false, false, false, false, false, false, false, false, false, false, false, false, false, false] rfl rfl (any_of HT_.out (by kernel_rfl)) (fun _ _ _ h => h) (Or.inl ⟨by rfl, ?_⟩) ?_ ?_
         rotate_left
         · intro w'
           go_simp
           with_reducible rfl
         rotate_left
         · simp only [Act.put, zA, zB, zC, i64_w, i32_w]
           rfl
         refine pure_ (i := 7) (N := some 14) (v := ?_) (a' := ?_) #[true, true, true, true, true, true, true, true, false, false, false, false, false, false, false, false, false, false, false, false, false, false, false, false, false, false, false, false] rfl rfl (any_of HT_.out (by kernel_rfl)) (fun _ _ _ h => h) (Or.inl ⟨by rfl, ?_⟩) ?_ ?_
         rotate_left
         · intro w'
           go_simp
           with_reducible rfl
         rotate_left
         · simp only [Act.put, zA, zB, zC, i64_w, i32_w]
           rfl
         refine pure_ (i := 8) (N := some 15) (v := ?_) (a' := ?_) #[true, true, true, true, true, true, true, true, true, false, false, false, false, false, false, false, false, false, false, false, false, false, false, false, false, false, false, false] rfl rfl (any_of HT_.out (by kernel_rfl)) (fun _ _ _ h => h) (Or.inl ⟨by rfl, ?_⟩) ?_ ?_
         rotate_left
         · intro w'
           go_simp
           with_reducible rfl
         rotate_left
         · simp only [Act.put, zA, zB, zC, i64_w, i32_w]
           rfl
         refine pure_ (i := 9) (N := some 16) (v := ?_) (a' := ?_) #[true, true, true, true, true, true, true, true, true, true, false, false, false, false, false, false, false, false, false, false, false, false, false, false, false, false, false, false] rfl rfl (any_of HT_.out (by kernel_rfl)) (fun _ _ _ h => h) (Or.inl ⟨by rfl, ?_⟩) ?_ ?_
         rotate_left
         · intro w'
           go_simp
           with_reducible rfl
         rotate_left
         · simp only [Act.put, zA, zB, zC, i64_w, i32_w]
           rfl
         refine take_ (i := 10) (N := some 17) (v := ?_) (a' := ?_) #[true, true, true, true, true, true, true, true, true, true, true, false, false, false, false, false, false, false, false, false, false, false, false, false, false, false, false, false] rfl rfl (take_ofW HT_.out HW_.out (by kernel_rfl)) (fun _ _ _ h => h) (Or.inl ⟨by rfl, ?_⟩) hHeld ?_ ?_
         rotate_left
         · rintro w' ⟨s0, s1, s2, s3, s4, s5, s6, s7⟩
           go_simp
           with_reducible rfl
         rotate_left
         · simp only [Act.put, zA, zB, zC, i64_w, i32_w]
           rfl
         refine pure_ (i := 11) (N := some 18) (v := ?_) (a' := ?_) #[true, true, true, true, true, true, true, true, true, true, true, true, false, false, false, false, false, false, false, false, false, false, false, false, false, false, false, false] rfl rfl (any_of HT_.out (by kernel_rfl)) (fun _ _ _ h => h) (Or.inl ⟨by rfl, ?_⟩) ?_ ?_
         rotate_left
         · intro w'
           go_simp
           with_reducible rfl
         rotate_left
         · simp only [Act.put, zA, zB, zC, i64_w, i32_w]
           rfl
         refine pure_ (i := 12) (N := some 19) (v := ?_) (a' := ?_) #[true, true, true, true, true, true, true, true, true, true, true, true, true, false, false, false, false, false, false, false, false, false, false, false, false, false, false, false] rfl rfl (any_of HT_.out (by kernel_rfl)) (fun _ _ _ h => h) (Or.inl ⟨by rfl, ?_⟩) ?_ ?_
         rotate_left
         · intro w'
           go_simp
           with_reducible rfl
         rotate_left
         · simp only [Act.put, zA, zB, zC, i64_w, i32_w]
           rfl
         refine pure_ (i := 13) (N := some 20) (v := ?_) (a' := ?_) #[true, true, true, true, true, true, true, true, true, true, true, true, true, true, false, false, false, false, false, false, false, false, false, false, false, false, false, false] rfl rfl (any_of HT_.out (by kernel_rfl)) (fun _ _ _ h => h) (Or.inl ⟨by rfl, ?_⟩) ?_ ?_
         rotate_left
         · intro w'
           go_simp
           with_reducible rfl
         rotate_left
         · simp only [Act.put, zA, zB, zC, i64_w, i32_w]
           rfl
         refine pure_ (i := 14) (N := some 21) (v := ?_) (a' := ?_) #[true, true, true, true, true, true, true, true, true, true, true, true, true, true, true, false, false, false, false, false, false, false, false, false, false, false, false, false] rfl rfl (any_of HT_.out (by kernel_rfl)) (fun _ _ _ h => h) (Or.inl ⟨by rfl, ?_⟩) ?_ ?_
         rotate_left
         · intro w'
           go_simp
           with_reducible rfl
         rotate_left
         · simp only [Act.put, zA, zB, zC, i64_w, i32_w]
           rfl
         refine pure_ (i := 15) (N := some 22) (v := ?_) (a' := ?_) #[true, true, true, true, true, true, true, true, true, true, true, true, true, true, true, true, false, false, false, false, false, false, false, false, false, false, false, false] rfl rfl (any_of HT_.out (by kernel_rfl)) (fun _ _ _ h => h) (Or.inl ⟨by rfl, ?_⟩) ?_ ?_
         rotate_left
         · intro w'
           go_simp
           with_reducible rfl
         rotate_left
         · simp only [Act.put, zA, zB, zC, i64_w, i32_w]
           rfl
         refine pure_ (i := 17) (N := some 24) (v := ?_) (a' := ?_) #[true, true, true, true, true, true, true, true, true, true, true, true, true, true, true, true, false, true, false, false, false, false, false, false, false, false, false, false] rfl rfl (any_of HT_.out (by kernel_rfl)) (fun _ _ _ h => h) (Or.inl ⟨by rfl, ?_⟩) ?_ ?_
         rotate_left
         · intro w'
           go_simp
           with_reducible rfl
         rotate_left
         · simp only [Act.put, zA, zB, zC, i64_w, i32_w]
           rfl
         refine pure_ (i := 19) (N := some 26) (v := ?_) (a' := ?_) #[true, true, true, true, true, true, true, true, true, true, true, true, true, true, true, true, false, true, false, true, false, false, false, false, false, false, false, false] rfl rfl (any_of HT_.out (by kernel_rfl)) (fun _ _ _ h => h) (Or.inl ⟨by rfl, ?_⟩) ?_ ?_
         rotate_left
         · intro w'
           go_simp
           with_reducible rfl
         rotate_left
         · simp only [Act.put, zA, zB, zC, i64_w, i32_w]
           rfl
         refine pure_ (i := 21) (N := some 28) (v := ?_) (a' := ?_) #[true, true, true, true, true, true, true, true, true, true, true, true, true, true, true, true, false, true, false, true, false, true, false, false, false, false, false, false] rfl rfl (any_of HT_.out (by kernel_rfl)) (fun _ _ _ h => h) (Or.inl ⟨by rfl, ?_⟩) ?_ ?_
         rotate_left
         · intro w'
           go_simp
           with_reducible rfl
         rotate_left
         · simp only [Act.put, zA, zB, zC, i64_w, i32_w]
           rfl
         refine take_ (i := 16) (N := some 23) (v := ?_) (a' := ?_) #[true, true, true, true, true, true, true, true, true, true, true, true, true, true, true, true, true, true, false, true, false, true, false, false, false, false, false, false] rfl rfl (take_ofW HT_.out HW_.out (by kernel_rfl)) (fun _ _ _ h => h) (Or.inl ⟨by rfl, ?_⟩) hHeld ?_ ?_
         rotate_left
         · rintro w' ⟨s0, s1, s2, s3, s4, s5, s6, s7⟩
           go_simp
           with_reducible rfl
         rotate_left
         · simp only [Act.put, zA, zB, zC, i64_w, i32_w]
           rfl
         refine take_ (i := 18) (N := some 25) (v := ?_) (a' := ?_) #[true, true, true, true, true, true, true, true, true, true, true, true, true, true, true, true, true, true, true, true, false, true, false, false, false, false, false, false] rfl rfl (take_ofW HT_.out HW_.out (by kernel_rfl)) (fun _ _ _ h => h) (Or.inl ⟨by rfl, ?_⟩) hHeld ?_ ?_
         rotate_left
         · rintro w' ⟨s0, s1, s2, s3, s4, s5, s6, s7⟩
           go_simp
           with_reducible rfl
         rotate_left
         · simp only [Act.put, zA, zB, zC, i64_w, i32_w]
           rfl
         refine take_ (i := 20) (N := some 27) (v := ?_) (a' := ?_) #[true, true, true, true, true, true, true, true, true, true, true, true, true, true, true, true, true, true, true, true, true, true, false, false, false, false, false, false] rfl rfl (take_ofW HT_.out HW_.out (by kernel_rfl)) (fun _ _ _ h => h) (Or.inl ⟨by rfl, ?_⟩) hHeld ?_ ?_
         rotate_left
         · rintro w' ⟨s0, s1, s2, s3, s4, s5, s6, s7⟩
           go_simp
           with_reducible rfl
         rotate_left
         · simp only [Act.put, zA, zB, zC, i64_w, i32_w]
           rfl
         refine take_ (i := 22) (N := some 29) (v := ?_) (a' := ?_) #[true, true, true, true, true, true, true, true, true, true, true, true, true, true, true, true, true, true, true, true, true, true, true, false, false, false, false, false] rfl rfl (take_ofW HT_.out HW_.out (by kernel_rfl)) (fun _ _ _ h => h) (Or.inl ⟨by rfl, ?_⟩) hHeld ?_ ?_
         rotate_left
         · rintro w' ⟨s0, s1, s2, s3, s4, s5, s6, s7⟩
           go_simp
           with_reducible rfl
         rotate_left
         · simp only [Act.put, zA, zB, zC, i64_w, i32_w]
           rfl
         refine pure_ (i := 23) (N := some 30) (v := ?_) (a' := ?_) #[true, true, true, true, true, true, true, true, true, true, true, true, true, true, true, true, true, true, true, true, true, true, true, true, false, false, false, false] rfl rfl (any_of HT_.out (by kernel_rfl)) (fun _ _ _ h => h) (Or.inl ⟨by rfl, ?_⟩) ?_ ?_
         rotate_left
         · intro w'
           go_simp
           with_reducible rfl
         rotate_left
         · simp only [Act.put, zA, zB, zC, i64_w, i32_w]
           rfl
         refine take_ (i := 24) (N := some 31) (v := ?_) (a' := ?_) #[true, true, true, true, true, true, true, true, true, true, true, true, true, true, true, true, true, true, true, true, true, true, true, true, true, false, false, false] rfl rfl (take_ofW HT_.out HW_.out (by kernel_rfl)) (fun _ _ _ h => h) (Or.inl ⟨by rfl, ?_⟩) hHeld ?_ ?_
         rotate_left
         · rintro w' ⟨s0, s1, s2, s3, s4, s5, s6, s7⟩
           go_simp
           with_reducible rfl
         rotate_left
         · simp only [Act.put, zA, zB, zC, i64_w, i32_w]
           rfl
         refine one_ (i := 25) (N := some 32) #[true, true, true, true, true, true, true, true, true, true, true, true, true, true, true, true, true, true, true, true, true, true, true, true, true, true, false, false] rfl rfl (one_of HT_.out (by kernel_rfl)) (by decide) (fun K hK => ?_)
         refine goes_ Try.func128 (by kernel_rfl) rfl #[.string a0, .agg #[.string a1_0, .string a1_1], .int .i64 a2_0, .int .i64 a2_1, .slice A981_0 (rd_L10 l2_4 0).length c981_0] (by rfl) rfl rfl (by (try simp only [List.map_toArray, List.map_cons, List.map_nil]); first | done | rfl | (simp only [List.length_drop, List.length_take]; rfl)) ?_
         with_reducible refine (proof_leads.calls k a0 a1_0 a1_1 a2_0 a2_1 _ _ (rd_L10 l2_4 0) t982 _ ?side1 ?side2 A8.out).mono ?_
         (case side1 => repeat (first | exact (Kd.C_below HR981_0.out HB.out) | (with_reducible refine Kd.C_alloc ?_ _) | (with_reducible refine Kd.C_drewN ?_ _) | (with_reducible refine Kd.C_drew ?_)))
         (case side2 => exact HC981_0.out)
         rintro e w12 ⟨rfl, hb⟩
         refine ⟨_, rfl, ?_⟩
         have n0_ := Aside0.mk (blk_below (g := gb979) (o := .cells #[.string a1_0, .string a1_1] 86 (0, 0)) (by (with_reducible repeat (first | refine pkN ?_ _ | refine pkD ?_ | refine pkA ?_ _)); exact BK979.out) hb)
         have n1_ := Aside0.mk (blk_below (g := gb980) (o := .cells #[.int .i64 a2_0, .int .i64 a2_1, .bool true, .slice A2_3 l2_3.length c2_3, .slice (some ad981) l2_4.length c2_4] 82 (0, 0)) (by (with_reducible repeat (first | refine pkN ?_ _ | refine pkD ?_ | refine pkA ?_ _)); exact BK980.out) hb)
         have n2_ := Aside0.mk (below_step (by repeat (first | (with_reducible first | exact HB.out | apply pbA | apply pbN | apply pbD | refine pbS ?_ GE979.out | refine pbS ?_ GE980.out) | exact HB.out)) hb)
         clear BK979
         clear BK980
         clear HB
         have BK979 := n0_
         have BK980 := n1_
         have HB := n2_
         clear n0_ n1_ n2_
         (try clear hb)
         (try clear hb2)
         (try clear hk)
         (try clear hi)
         refine hK.out _ _ ⟨(pkC BK980.out 0).trans rfl, (pkC BK980.out 1).trans rfl, (pkC BK980.out 2).trans rfl, (pkC BK980.out 3).trans rfl, (pkC BK980.out 4).trans rfl, (pkC BK979.out 0).trans rfl, (pkC BK979.out 1).trans rfl, ((HB.out.cell (World.block_lt_of_cell? w _ hw981_0)).trans hw981_0)⟩ (fun hHeld => ?_)
         clear hK K
         refine norm_ (a' := ?_) ?_ ?_
         rotate_left
         · show Act.put _ (some 32) _ = _
           simp only [Act.put, zA, zB, zC, i64_w, i32_w]
           rfl
         refine pure_ (i := 26) (N := some 33) (v := ?_) (a' := ?_) #[true, true, true, true, true, true, true, true, true, true, true, true, true, true, true, true, true, true, true, true, true, true, true, true, true, true, true, false] rfl rfl (any_of HT_.out (by kernel_rfl)) (fun _ _ _ h => h) (Or.inl ⟨by rfl, ?_⟩) ?_ ?_
         rotate_left
         · intro w'
           go_simp
           with_reducible rfl
         rotate_left
         · simp only [Act.put, zA, zB, zC, i64_w, i32_w]
           rfl
         refine pure_ (i := 27) (N := some 6) (v := ?_) (a' := ?_) #[true, true, true, true, true, true, true, true, true, true, true, true, true, true, true, true, true, true, true, true, true, true, true, true, true, true, true, true] rfl rfl (any_of HT_.out (by kernel_rfl)) (fun _ _ _ h => h) (Or.inl ⟨by rfl, ?_⟩) ?_ ?_
         rotate_left
         · intro w'
           go_simp
           with_reducible rfl
         rotate_left
         · simp only [Act.put, zA, zB, zC, i64_w, i32_w]
           rfl
         refine done_ (done_of HT_.out (by kernel_rfl)) ?_
         try go_wp2
         go_ret
         exact ⟨by first | rfl | (simp [errW_none, errW_some] <;> rfl) | (simp [*, errW_none, errW_some] <;> rfl), by repeat (first | (with_reducible first | exact HB.out | apply pbA | apply pbN | apply pbD | refine pbS ?_ GE979.out | refine pbS ?_ GE980.out) | exact HB.out)⟩
       · rw [if_neg c7] at H
         exact absurd H (by simp)
     · rw [if_neg c6] at H
       have c6b0 : ((l2_4.length : Int) == 1) = false := beq_eq_false_iff_ne.mpr c6
       have c6b1 : ((l2_4.length : Int) != 1) = true := bne_iff_ne.mpr c6
       obtain rfl := Option.some.inj H
       go_enter Try.func58, Try.ntmps58
       try go_wp2_with (first | ((with_reducible refine gate_dst (N := 4) rfl ?_); refine box_event ?hg (N := 4) ?hd (cs := #[.string a1_0, .string a1_1]) (t := 86) ?hr ?_; (case hd => rfl); (case hg => rfl); (case hr => first | (go_simp; done) | (go_simp; rfl)); intro gb979 hg w13 hbox hb; have n0_ := Aside0.mk (below_step (by repeat (first | (with_reducible first | exact HB.out | apply pbA | apply pbN | apply pbD) | exact HB.out)) hb); have n1_ := Aside0.mk (hbox); have n2_ := Aside0.mk ((by rw [hg]; exact (below_size (by repeat (first | (with_reducible first | exact HB.out | apply pbA | apply pbN | apply pbD) | exact HB.out))) : w.heap.size ≤ gb979)); have n3_ := Aside0.mk ((by rw [hg]; exact (below_size (by repeat (first | (with_reducible first | exact HB.out | apply pbA | apply pbN | apply pbD) | exact HB.out))) : w.heap.size ≤ gb979)); clear HB; have HB := n0_; have BK979 := n1_; have GW979 := n2_; have GE979 := n3_; clear n0_ n1_ n2_ n3_; clear hb hbox hg) | ((with_reducible refine gate_dst (N := 5) rfl ?_); refine box_event ?hg (N := 5) ?hd (cs := #[.int .i64 a2_0, .int .i64 a2_1, .bool true, .slice A2_3 l2_3.length c2_3, .slice A2_4 l2_4.length c2_4]) (t := 82) ?hr ?_; (case hd => rfl); (case hg => rfl); (case hr => first | (go_simp; done) | (go_simp; rfl)); intro gb980 hg w14 hbox hb; have n0_ := Aside0.mk (blk_below (g := gb979) (o := .cells #[.string a1_0, .string a1_1] 86 (0, 0)) (by (with_reducible repeat (first | refine pkN ?_ _ | refine pkD ?_ | refine pkA ?_ _)); exact BK979.out) hb); have n1_ := Aside0.mk (below_step (by repeat (first | (with_reducible first | exact HB.out | apply pbA | apply pbN | apply pbD | refine pbS ?_ GE979.out) | exact HB.out)) hb); have n2_ := Aside0.mk (hbox); have n3_ := Aside0.mk ((by rw [hg]; exact (below_size (by repeat (first | (with_reducible first | exact HB.out | apply pbA | apply pbN | apply pbD | refine pbS ?_ GE979.out) | exact HB.out))) : w.heap.size ≤ gb980)); have n4_ := Aside0.mk ((by rw [hg]; exact (below_size (by repeat (first | (with_reducible first | exact HB.out | apply pbA | apply pbN | apply pbD | refine pbS ?_ GE979.out) | exact HB.out))) : w.heap.size ≤ gb980)); have n5_ := Aside0.mk ((by rw [hg]; exact Nat.ne_of_lt (blk_lt (g := gb979) (o := .cells #[.string a1_0, .string a1_1] 86 (0, 0)) (by (with_reducible repeat (first | refine pkN ?_ _ | refine pkD ?_ | refine pkA ?_ _)); exact BK979.out)) : gb979 ≠ gb980)); have n6_ := Aside0.mk ((by rw [hg]; exact Nat.ne_of_gt (blk_lt (g := gb979) (o := .cells #[.string a1_0, .string a1_1] 86 (0, 0)) (by (with_reducible repeat (first | refine pkN ?_ _ | refine pkD ?_ | refine pkA ?_ _)); exact BK979.out)) : gb980 ≠ gb979)); clear BK979; clear HB; have BK979 := n0_; have HB := n1_; have BK980 := n2_; have GW980 := n3_; have GE980 := n4_; have NB979_980 := n5_; have NB980_979 := n6_; clear n0_ n1_ n2_ n3_ n4_ n5_ n6_; clear hb hbox hg))
       have n0_ := Aside0.mk (pkD BK979.out)
       have n1_ := Aside0.mk (pkD BK980.out)
       have n2_ := Aside0.mk (pbD HB.out)
       clear BK979
       clear BK980
       clear HB
       have BK979 := n0_
       have BK980 := n1_
       have HB := n2_
       clear n0_ n1_ n2_
       refine start_ (n := 28) (S := fun w' => w'.cell? ⟨gb980, 0, none⟩ = some (.int .i64 a2_0) ∧ w'.cell? ⟨gb980, 1, none⟩ = some (.int .i64 a2_1) ∧ w'.cell? ⟨gb980, 2, none⟩ = some (.bool true) ∧ w'.cell? ⟨gb980, 3, none⟩ = some (.slice A2_3 l2_3.length c2_3) ∧ w'.cell? ⟨gb980, 4, none⟩ = some (.slice A2_4 l2_4.length c2_4)) (ds := []) #[false, false, false, false, false, false, false, false, false, false, false, false, false, false, false, false, false, false, false, false, false, false, false, false, false, false, false, false] (by kernel_rfl) rfl rfl ⟨(pkC BK980.out 0).trans rfl, (pkC BK980.out 1).trans rfl, (pkC BK980.out 2).trans rfl, (pkC BK980.out 3).trans rfl, (pkC BK980.out 4).trans rfl⟩ (fun hHeld => ?_); refine with_tabW proof_Has.tab1 proof_Has.bits1 (fun HT_ HW_ => ?_)
       generalize w14.drew = w15 at BK979 BK980 HB hHeld ⊢
       refine pure_ (i := 0) (N := some 7) (v := ?_) (a' := ?_) #[true, false, false, false, false, false, false, false, false, false, false, false, false, false, false, false, false, false, false, false, false, false, false, false, false, false, false, false] rfl rfl (any_of HT_.out (by kernel_rfl)) (fun _ _ _ h => h) (Or.inl ⟨by rfl, ?_⟩) ?_ ?_
       rotate_left
       · intro w'
         go_simp
         with_reducible rfl
       rotate_left
       · simp only [Act.put, zA, zB, zC, i64_w, i32_w]
         rfl
       refine take_ (i := 1) (N := some 8) (v := ?_) (a' := ?_) #[true, true, false, false, false, false, false, false, false, false, false, false, false, false, false, false, false, false, false, false, false, false, false, false, false, false, false, false] rfl rfl (take_ofW HT_.out HW_.out (by kernel_rfl)) (fun _ _ _ h => h) (Or.inl ⟨by rfl, ?_⟩) hHeld ?_ ?_
       rotate_left
       · rintro w' ⟨s0, s1, s2, s3, s4⟩
         go_simp
         with_reducible rfl
       rotate_left
       · simp only [Act.put, zA, zB, zC, i64_w, i32_w]
         rfl
       refine pure_ (i := 2) (N := some 9) (v := ?_) (a' := ?_) #[true, true, true, false, false, false, false, false, false, false, false, false, false, false, false, false, false, false, false, false, false, false, false, false, false, false, false, false] rfl rfl (any_of HT_.out (by kernel_rfl)) (fun _ _ _ h => h) (Or.inl ⟨by rfl, ?_⟩) ?_ ?_
       rotate_left
       · intro w'
         go_simp
         with_reducible rfl
       rotate_left
       · simp only [Act.put, zA, zB, zC, i64_w, i32_w]
         rfl
       refine pure_ (i := 3) (N := some 10) (v := ?_) (a' := ?_) #[true, true, true, true, false, false, false, false, false, false, false, false, false, false, false, false, false, false, false, false, false, false, false, false, false, false, false, false] rfl rfl (any_of HT_.out (by kernel_rfl)) (fun _ _ _ h => h) (Or.inl ⟨by rfl, ?_⟩) ?_ ?_
       rotate_left
       · intro w'
         go_simp
         with_reducible rfl
       rotate_left
       · simp only [Act.put, zA, zB, zC, i64_w, i32_w]
         rfl
       refine take_ (i := 4) (N := some 11) (v := ?_) (a' := ?_) #[true, true, true, true, true, false, false, false, false, false, false, false, false, false, false, false, false, false, false, false, false, false, false, false, false, false, false, false] rfl rfl (take_ofW HT_.out HW_.out (by kernel_rfl)) (fun _ _ _ h => h) (Or.inl ⟨by rfl, ?_⟩) hHeld ?_ ?_
       rotate_left
       · rintro w' ⟨s0, s1, s2, s3, s4⟩
         go_simp
         with_reducible rfl
       rotate_left
       · simp only [Act.put, zA, zB, zC, i64_w, i32_w]
         rfl
       refine pure_ (i := 5) (N := some 12) (v := ?_) (a' := ?_) #[true, true, true, true, true, true, false, false, false, false, false, false, false, false, false, false, false, false, false, false, false, false, false, false, false, false, false, false] rfl rfl (any_of HT_.out (by kernel_rfl)) (fun _ _ _ h => h) (Or.inl ⟨by rfl, ?_⟩) ?_ ?_
       rotate_left
       · intro w'
         go_simp
         with_reducible rfl
       rotate_left
       · simp only [Act.put, zA, zB, zC, i64_w, i32_w]
         rfl
       refine pure_ (i := 6) (N := some 13) (v := ?_) (a' := ?_) #[true, true, true, true, true, true, true, false, false, false, false, false, false, false, false, false, false, false, false, false, false, false, false, false, false, false, false, false] rfl rfl (any_of HT_.out (by kernel_rfl)) (fun _ _ _ h => h) (Or.inl ⟨by rfl, ?_⟩) ?_ ?_
       rotate_left
       · intro w'
         go_simp
         with_reducible rfl
       rotate_left
       · simp only [Act.put, zA, zB, zC, i64_w, i32_w]
         rfl
       refine pure_ (i := 7) (N := some 14) (v := ?_) (a' := ?_) #[true, true, true, true, true, true, true, true, false, false, false, false, false, false, false, false, false, false, false, false, false, false, false, false, false, false, false, false] rfl rfl (any_of HT_.out (by kernel_rfl)) (fun _ _ _ h => h) (Or.inl ⟨by rfl, ?_⟩) ?_ ?_
       rotate_left
       · intro w'
         go_simp
         with_reducible rfl
       rotate_left
       · simp only [Act.put, zA, zB, zC, i64_w, i32_w]
         rfl
       refine pure_ (i := 8) (N := some 15) (v := ?_) (a' := ?_) #[true, true, true, true, true, true, true, true, true, false, false, false, false, false, false, false, false, false, false, false, false, false, false, false, false, false, false, false] rfl rfl (any_of HT_.out (by kernel_rfl)) (fun _ _ _ h => h) (Or.inl ⟨by rfl, ?_⟩) ?_ ?_
       rotate_left
       · intro w'
         go_simp
         with_reducible rfl
       rotate_left
       · simp only [Act.put, zA, zB, zC, i64_w, i32_w]
         rfl
       refine pure_ (i := 9) (N := some 16) (v := ?_) (a' := ?_) #[true, true, true, true, true, true, true, true, true, true, false, false, false, false, false, false, false, false, false, false, false, false, false, false, false, false, false, false] rfl rfl (any_of HT_.out (by kernel_rfl)) (fun _ _ _ h => h) (Or.inl ⟨by rfl, ?_⟩) ?_ ?_
       rotate_left
       · intro w'
         go_simp
         with_reducible rfl
       rotate_left
       · simp only [Act.put, zA, zB, zC, i64_w, i32_w]
         rfl
       refine take_ (i := 10) (N := some 17) (v := ?_) (a' := ?_) #[true, true, true, true, true, true, true, true, true, true, true, false, false, false, false, false, false, false, false, false, false, false, false, false, false, false, false, false] rfl rfl (take_ofW HT_.out HW_.out (by kernel_rfl)) (fun _ _ _ h => h) (Or.inl ⟨by rfl, ?_⟩) hHeld ?_ ?_
       rotate_left
       · rintro w' ⟨s0, s1, s2, s3, s4⟩
         go_simp
         with_reducible rfl
       rotate_left
       · simp only [Act.put, zA, zB, zC, i64_w, i32_w]
         rfl
       refine pure_ (i := 11) (N := some 18) (v := ?_) (a' := ?_) #[true, true, true, true, true, true, true, true, true, true, true, true, false, false, false, false, false, false, false, false, false, false, false, false, false, false, false, false] rfl rfl (any_of HT_.out (by kernel_rfl)) (fun _ _ _ h => h) (Or.inl ⟨by rfl, ?_⟩) ?_ ?_
       rotate_left
       · intro w'
         go_simp
         with_reducible rfl
       rotate_left
       · simp only [Act.put, zA, zB, zC, i64_w, i32_w]
         rfl
       refine pure_ (i := 12) (N := some 19) (v := ?_) (a' := ?_) #[true, true, true, true, true, true, true, true, true, true, true, true, true, false, false, false, false, false, false, false, false, false, false, false, false, false, false, false] rfl rfl (any_of HT_.out (by kernel_rfl)) (fun _ _ _ h => h) (Or.inl ⟨by rfl, ?_⟩) ?_ ?_
       rotate_left
       · intro w'
         go_simp
         with_reducible rfl
       rotate_left
       · simp only [Act.put, zA, zB, zC, i64_w, i32_w]
         rfl
       refine pure_ (i := 13) (N := some 20) (v := ?_) (a' := ?_) #[true, true, true, true, true, true, true, true, true, true, true, true, true, true, false, false, false, false, false, false, false, false, false, false, false, false, false, false] rfl rfl (any_of HT_.out (by kernel_rfl)) (fun _ _ _ h => h) (Or.inl ⟨by rfl, ?_⟩) ?_ ?_
       rotate_left
       · intro w'
         go_simp
         with_reducible rfl
       rotate_left
       · simp only [Act.put, zA, zB, zC, i64_w, i32_w]
         rfl
       refine pure_ (i := 14) (N := some 21) (v := ?_) (a' := ?_) #[true, true, true, true, true, true, true, true, true, true, true, true, true, true, true, false, false, false, false, false, false, false, false, false, false, false, false, false] rfl rfl (any_of HT_.out (by kernel_rfl)) (fun _ _ _ h => h) (Or.inl ⟨by rfl, ?_⟩) ?_ ?_
       rotate_left
       · intro w'
         go_simp
         with_reducible rfl
       rotate_left
       · simp only [Act.put, zA, zB, zC, i64_w, i32_w]
         rfl
       refine pure_ (i := 15) (N := some 22) (v := undef) (a' := ?_) #[true, true, true, true, true, true, true, true, true, true, true, true, true, true, true, true, false, false, false, false, false, false, false, false, false, false, false, false] rfl rfl (any_of HT_.out (by kernel_rfl)) (fun _ _ _ h => h) (Or.inr ⟨by rfl, rfl⟩) ?_ ?_
       rotate_left
       · simp only [Act.put, zA, zB, zC, i64_w, i32_w]
         rfl
       refine pure_ (i := 16) (N := some 23) (v := undef) (a' := ?_) #[true, true, true, true, true, true, true, true, true, true, true, true, true, true, true, true, true, false, false, false, false, false, false, false, false, false, false, false] rfl rfl (any_of HT_.out (by kernel_rfl)) (fun _ _ _ h => h) (Or.inr ⟨by rfl, rfl⟩) ?_ ?_
       rotate_left
       · simp only [Act.put, zA, zB, zC, i64_w, i32_w]
         rfl
       refine pure_ (i := 17) (N := some 24) (v := undef) (a' := ?_) #[true, true, true, true, true, true, true, true, true, true, true, true, true, true, true, true, true, true, false, false, false, false, false, false, false, false, false, false] rfl rfl (any_of HT_.out (by kernel_rfl)) (fun _ _ _ h => h) (Or.inr ⟨by rfl, rfl⟩) ?_ ?_
       rotate_left
       · simp only [Act.put, zA, zB, zC, i64_w, i32_w]
         rfl
       refine pure_ (i := 18) (N := some 25) (v := undef) (a' := ?_) #[true, true, true, true, true, true, true, true, true, true, true, true, true, true, true, true, true, true, true, false, false, false, false, false, false, false, false, false] rfl rfl (any_of HT_.out (by kernel_rfl)) (fun _ _ _ h => h) (Or.inr ⟨by rfl, rfl⟩) ?_ ?_
       rotate_left
       · simp only [Act.put, zA, zB, zC, i64_w, i32_w]
         rfl
       refine pure_ (i := 19) (N := some 26) (v := undef) (a' := ?_) #[true, true, true, true, true, true, true, true, true, true, true, true, true, true, true, true, true, true, true, true, false, false, false, false, false, false, false, false] rfl rfl (any_of HT_.out (by kernel_rfl)) (fun _ _ _ h => h) (Or.inr ⟨by rfl, rfl⟩) ?_ ?_
       rotate_left
       · simp only [Act.put, zA, zB, zC, i64_w, i32_w]
         rfl
       refine pure_ (i := 20) (N := some 27) (v := undef) (a' := ?_) #[true, true, true, true, true, true, true, true, true, true, true, true, true, true, true, true, true, true, true, true, true, false, false, false, false, false, false, false] rfl rfl (any_of HT_.out (by kernel_rfl)) (fun _ _ _ h => h) (Or.inr ⟨by rfl, rfl⟩) ?_ ?_
       rotate_left
       · simp only [Act.put, zA, zB, zC, i64_w, i32_w]
         rfl
       refine pure_ (i := 21) (N := some 28) (v := undef) (a' := ?_) #[true, true, true, true, true, true, true, true, true, true, true, true, true, true, true, true, true, true, true, true, true, true, false, false, false, false, false, false] rfl rfl (any_of HT_.out (by kernel_rfl)) (fun _ _ _ h => h) (Or.inr ⟨by rfl, rfl⟩) ?_ ?_
       rotate_left
       · simp only [Act.put, zA, zB, zC, i64_w, i32_w]
         rfl
       refine pure_ (i := 22) (N := some 29) (v := undef) (a' := ?_) #[true, true, true, true, true, true, true, true, true, true, true, true, true, true, true, true, true, true, true, true, true, true, true, false, false, false, false, false] rfl rfl (any_of HT_.out (by kernel_rfl)) (fun _ _ _ h => h) (Or.inr ⟨by rfl, rfl⟩) ?_ ?_
       rotate_left
       · simp only [Act.put, zA, zB, zC, i64_w, i32_w]
         rfl
       refine pure_ (i := 23) (N := some 30) (v := undef) (a' := ?_) #[true, true, true, true, true, true, true, true, true, true, true, true, true, true, true, true, true, true, true, true, true, true, true, true, false, false, false, false] rfl rfl (any_of HT_.out (by kernel_rfl)) (fun _ _ _ h => h) (Or.inr ⟨by rfl, rfl⟩) ?_ ?_
       rotate_left
       · simp only [Act.put, zA, zB, zC, i64_w, i32_w]
         rfl
       refine pure_ (i := 24) (N := some 31) (v := undef) (a' := ?_) #[true, true, true, true, true, true, true, true, true, true, true, true, true, true, true, true, true, true, true, true, true, true, true, true, true, false, false, false] rfl rfl (any_of HT_.out (by kernel_rfl)) (fun _ _ _ h => h) (Or.inr ⟨by rfl, rfl⟩) ?_ ?_
       rotate_left
       · simp only [Act.put, zA, zB, zC, i64_w, i32_w]
         rfl
       refine pure_ (i := 25) (N := some 32) (v := undef) (a' := ?_) #[true, true, true, true, true, true, true, true, true, true, true, true, true, true, true, true, true, true, true, true, true, true, true, true, true, true, false, false] rfl rfl (any_of HT_.out (by kernel_rfl)) (fun _ _ _ h => h) (Or.inr ⟨by rfl, rfl⟩) ?_ ?_
       rotate_left
       · simp only [Act.put, zA, zB, zC, i64_w, i32_w]
         rfl
       refine pure_ (i := 26) (N := some 33) (v := ?_) (a' := ?_) #[true, true, true, true, true, true, true, true, true, true, true, true, true, true, true, true, true, true, true, true, true, true, true, true, true, true, true, false] rfl rfl (any_of HT_.out (by kernel_rfl)) (fun _ _ _ h => h) (Or.inl ⟨by rfl, ?_⟩) ?_ ?_
       rotate_left
       · intro w'
         go_simp
         with_reducible rfl
       rotate_left
       · simp only [Act.put, zA, zB, zC, i64_w, i32_w]
         rfl
       refine pure_ (i := 27) (N := some 6) (v := ?_) (a' := ?_) #[true, true, true, true, true, true, true, true, true, true, true, true, true, true, true, true, true, true, true, true, true, true, true, true, true, true, true, true] rfl rfl (any_of HT_.out (by kernel_rfl)) (fun _ _ _ h => h) (Or.inl ⟨by rfl, ?_⟩) ?_ ?_
       rotate_left
       · intro w'
         go_simp
         with_reducible rfl
       rotate_left
       · simp only [Act.put, zA, zB, zC, i64_w, i32_w]
         rfl
       refine done_ (done_of HT_.out (by kernel_rfl)) ?_
       try go_wp2
       go_ret
       exact ⟨by first | rfl | (simp [errW_none, errW_some] <;> rfl) | (simp [*, errW_none, errW_some] <;> rfl), by repeat (first | (with_reducible first | exact HB.out | apply pbA | apply pbN | apply pbD | refine pbS ?_ GE979.out | refine pbS ?_ GE980.out) | exact HB.out)⟩
   · rw [if_neg c5] at H
     have c5b0 : ((l2_3.length : Int) == 0) = false := beq_eq_false_iff_ne.mpr c5
     have c5b1 : ((l2_3.length : Int) != 0) = true := bne_iff_ne.mpr c5
     have c5b2 : ¬ (l2_3 = []) := fun h_ => c5 (by rw [h_]; rfl)
     obtain rfl := Option.some.inj H
     go_enter Try.func58, Try.ntmps58
     try go_wp2_with (first | ((with_reducible refine gate_dst (N := 4) rfl ?_); refine box_event ?hg (N := 4) ?hd (cs := #[.string a1_0, .string a1_1]) (t := 86) ?hr ?_; (case hd => rfl); (case hg => rfl); (case hr => first | (go_simp; done) | (go_simp; rfl)); intro gb979 hg w16 hbox hb; have n0_ := Aside0.mk (below_step (by repeat (first | (with_reducible first | exact HB.out | apply pbA | apply pbN | apply pbD) | exact HB.out)) hb); have n1_ := Aside0.mk (hbox); have n2_ := Aside0.mk ((by rw [hg]; exact (below_size (by repeat (first | (with_reducible first | exact HB.out | apply pbA | apply pbN | apply pbD) | exact HB.out))) : w.heap.size ≤ gb979)); have n3_ := Aside0.mk ((by rw [hg]; exact (below_size (by repeat (first | (with_reducible first | exact HB.out | apply pbA | apply pbN | apply pbD) | exact HB.out))) : w.heap.size ≤ gb979)); clear HB; have HB := n0_; have BK979 := n1_; have GW979 := n2_; have GE979 := n3_; clear n0_ n1_ n2_ n3_; clear hb hbox hg) | ((with_reducible refine gate_dst (N := 5) rfl ?_); refine box_event ?hg (N := 5) ?hd (cs := #[.int .i64 a2_0, .int .i64 a2_1, .bool true, .slice A2_3 l2_3.length c2_3, .slice A2_4 l2_4.length c2_4]) (t := 82) ?hr ?_; (case hd => rfl); (case hg => rfl); (case hr => first | (go_simp; done) | (go_simp; rfl)); intro gb980 hg w17 hbox hb; have n0_ := Aside0.mk (blk_below (g := gb979) (o := .cells #[.string a1_0, .string a1_1] 86 (0, 0)) (by (with_reducible repeat (first | refine pkN ?_ _ | refine pkD ?_ | refine pkA ?_ _)); exact BK979.out) hb); have n1_ := Aside0.mk (below_step (by repeat (first | (with_reducible first | exact HB.out | apply pbA | apply pbN | apply pbD | refine pbS ?_ GE979.out) | exact HB.out)) hb); have n2_ := Aside0.mk (hbox); have n3_ := Aside0.mk ((by rw [hg]; exact (below_size (by repeat (first | (with_reducible first | exact HB.out | apply pbA | apply pbN | apply pbD | refine pbS ?_ GE979.out) | exact HB.out))) : w.heap.size ≤ gb980)); have n4_ := Aside0.mk ((by rw [hg]; exact (below_size (by repeat (first | (with_reducible first | exact HB.out | apply pbA | apply pbN | apply pbD | refine pbS ?_ GE979.out) | exact HB.out))) : w.heap.size ≤ gb980)); have n5_ := Aside0.mk ((by rw [hg]; exact Nat.ne_of_lt (blk_lt (g := gb979) (o := .cells #[.string a1_0, .string a1_1] 86 (0, 0)) (by (with_reducible repeat (first | refine pkN ?_ _ | refine pkD ?_ | refine pkA ?_ _)); exact BK979.out)) : gb979 ≠ gb980)); have n6_ := Aside0.mk ((by rw [hg]; exact Nat.ne_of_gt (blk_lt (g := gb979) (o := .cells #[.string a1_0, .string a1_1] 86 (0, 0)) (by (with_reducible repeat (first | refine pkN ?_ _ | refine pkD ?_ | refine pkA ?_ _)); exact BK979.out)) : gb980 ≠ gb979)); clear BK979; clear HB; have BK979 := n0_; have HB := n1_; have BK980 := n2_; have GW980 := n3_; have GE980 := n4_; have NB979_980 := n5_; have NB980_979 := n6_; clear n0_ n1_ n2_ n3_ n4_ n5_ n6_; clear hb hbox hg))
     have n0_ := Aside0.mk (pkD BK979.out)
     have n1_ := Aside0.mk (pkD BK980.out)
     have n2_ := Aside0.mk (pbD HB.out)
     clear BK979
     clear BK980
     clear HB
     have BK979 := n0_
     have BK980 := n1_
     have HB := n2_
     clear n0_ n1_ n2_
     refine start_ (n := 28) (S := fun w' => w'.cell? ⟨gb980, 0, none⟩ = some (.int .i64 a2_0) ∧ w'.cell? ⟨gb980, 1, none⟩ = some (.int .i64 a2_1) ∧ w'.cell? ⟨gb980, 2, none⟩ = some (.bool true) ∧ w'.cell? ⟨gb980, 3, none⟩ = some (.slice A2_3 l2_3.length c2_3) ∧ w'.cell? ⟨gb980, 4, none⟩ = some (.slice A2_4 l2_4.length c2_4)) (ds := []) #[false, false, false, false, false, false, false, false, false, false, false, false, false, false, false, false, false, false, false, false, false, false, false, false, false, false, false, false] (by kernel_rfl) rfl rfl ⟨(pkC BK980.out 0).trans rfl, (pkC BK980.out 1).trans rfl, (pkC BK980.out 2).trans rfl, (pkC BK980.out 3).trans rfl, (pkC BK980.out 4).trans rfl⟩ (fun hHeld => ?_); refine with_tabW proof_Has.tab1 proof_Has.bits1 (fun HT_ HW_ => ?_)
     generalize w17.drew = w18 at BK979 BK980 HB hHeld ⊢
     refine pure_ (i := 0) (N := some 7) (v := ?_) (a' := ?_) #[true, false, false, false, false, false, false, false, false, false, false, false, false, false, false, false, false, false, false, false, false, false, false, false, false, false, false, false] rfl rfl (any_of HT_.out (by kernel_rfl)) (fun _ _ _ h => h) (Or.inl ⟨by rfl, ?_⟩) ?_ ?_
     rotate_left
     · intro w'
       go_simp
       with_reducible rfl
     rotate_left
     · simp only [Act.put, zA, zB, zC, i64_w, i32_w]
       rfl
     refine take_ (i := 1) (N := some 8) (v := ?_) (a' := ?_) #[true, true, false, false, false, false, false, false, false, false, false, false, false, false, false, false, false, false, false, false, false, false, false, false, false, false, false, false] rfl rfl (take_ofW HT_.out HW_.out (by kernel_rfl)) (fun _ _ _ h => h) (Or.inl ⟨by rfl, ?_⟩) hHeld ?_ ?_
     rotate_left
     · rintro w' ⟨s0, s1, s2, s3, s4⟩
       go_simp
       with_reducible rfl
     rotate_left
     · simp only [Act.put, zA, zB, zC, i64_w, i32_w]
       rfl
     refine pure_ (i := 2) (N := some 9) (v := ?_) (a' := ?_) #[true, true, true, false, false, false, false, false, false, false, false, false, false, false, false, false, false, false, false, false, false, false, false, false, false, false, false, false] rfl rfl (any_of HT_.out (by kernel_rfl)) (fun _ _ _ h => h) (Or.inl ⟨by rfl, ?_⟩) ?_ ?_
     rotate_left
     · intro w'
       go_simp
       with_reducible rfl
     rotate_left
     · simp only [Act.put, zA, zB, zC, i64_w, i32_w]
       rfl
     refine pure_ (i := 3) (N := some 10) (v := ?_) (a' := ?_) #[true, true, true, true, false, false, false, false, false, false, false, false, false, false, false, false, false, false, false, false, false, false, false, false, false, false, false, false] rfl rfl (any_of HT_.out (by kernel_rfl)) (fun _ _ _ h => h) (Or.inl ⟨by rfl, ?_⟩) ?_ ?_
     rotate_left
     · intro w'
       go_simp
       with_reducible rfl
     rotate_left
     · simp only [Act.put, zA, zB, zC, i64_w, i32_w]
       rfl
     refine take_ (i := 4) (N := some 11) (v := ?_) (a' := ?_) #[true, true, true, true, true, false, false, false, false, false, false, false, false, false, false, false, false, false, false, false, false, false, false, false, false, false, false, false] rfl rfl (take_ofW HT_.out HW_.out (by kernel_rfl)) (fun _ _ _ h => h) (Or.inl ⟨by rfl, ?_⟩) hHeld ?_ ?_
     rotate_left
     · rintro w' ⟨s0, s1, s2, s3, s4⟩
       go_simp
       with_reducible rfl
     rotate_left
     · simp only [Act.put, zA, zB, zC, i64_w, i32_w]
       rfl
     refine pure_ (i := 5) (N := some 12) (v := ?_) (a' := ?_) #[true, true, true, true, true, true, false, false, false, false, false, false, false, false, false, false, false, false, false, false, false, false, false, false, false, false, false, false] rfl rfl (any_of HT_.out (by kernel_rfl)) (fun _ _ _ h => h) (Or.inl ⟨by rfl, ?_⟩) ?_ ?_
     rotate_left
     · intro w'
       go_simp
       with_reducible rfl
     rotate_left
     · simp only [Act.put, zA, zB, zC, i64_w, i32_w]
       rfl
     refine pure_ (i := 6) (N := some 13) (v := ?_) (a' := ?_) #[true, true, true, true, true, true, true, false, false, false, false, false, false, false, false, false, false, false, false, false, false, false, false, false, false, false, false, false] rfl rfl (any_of HT_.out (by kernel_rfl)) (fun _ _ _ h => h) (Or.inl ⟨by rfl, ?_⟩) ?_ ?_
     rotate_left
     · intro w'
       go_simp
       with_reducible rfl
     rotate_left
     · simp only [Act.put, zA, zB, zC, i64_w, i32_w]
       rfl
     refine pure_ (i := 7) (N := some 14) (v := ?_) (a' := ?_) #[true, true, true, true, true, true, true, true, false, false, false, false, false, false, false, false, false, false, false, false, false, false, false, false, false, false, false, false] rfl rfl (any_of HT_.out (by kernel_rfl)) (fun _ _ _ h => h) (Or.inl ⟨by rfl, ?_⟩) ?_ ?_
     rotate_left
     · intro w'
       go_simp
       with_reducible rfl
     rotate_left
     · simp only [Act.put, zA, zB, zC, i64_w, i32_w]
       rfl
     refine pure_ (i := 8) (N := some 15) (v := ?_) (a' := ?_) #[true, true, true, true, true, true, true, true, true, false, false, false, false, false, false, false, false, false, false, false, false, false, false, false, false, false, false, false] rfl rfl (any_of HT_.out (by kernel_rfl)) (fun _ _ _ h => h) (Or.inl ⟨by rfl, ?_⟩) ?_ ?_
     rotate_left
     · intro w'
       go_simp
       with_reducible rfl
     rotate_left
     · simp only [Act.put, zA, zB, zC, i64_w, i32_w]
       rfl
     refine pure_ (i := 9) (N := some 16) (v := undef) (a' := ?_) #[true, true, true, true, true, true, true, true, true, true, false, false, false, false, false, false, false, false, false, false, false, false, false, false, false, false, false, false] rfl rfl (any_of HT_.out (by kernel_rfl)) (fun _ _ _ h => h) (Or.inr ⟨by rfl, rfl⟩) ?_ ?_
     rotate_left
     · simp only [Act.put, zA, zB, zC, i64_w, i32_w]
       rfl
     refine pure_ (i := 10) (N := some 17) (v := undef) (a' := ?_) #[true, true, true, true, true, true, true, true, true, true, true, false, false, false, false, false, false, false, false, false, false, false, false, false, false, false, false, false] rfl rfl (any_of HT_.out (by kernel_rfl)) (fun _ _ _ h => h) (Or.inr ⟨by rfl, rfl⟩) ?_ ?_
     rotate_left
     · simp only [Act.put, zA, zB, zC, i64_w, i32_w]
       rfl
     refine pure_ (i := 11) (N := some 18) (v := undef) (a' := ?_) #[true, true, true, true, true, true, true, true, true, true, true, true, false, false, false, false, false, false, false, false, false, false, false, false, false, false, false, false] rfl rfl (any_of HT_.out (by kernel_rfl)) (fun _ _ _ h => h) (Or.inr ⟨by rfl, rfl⟩) ?_ ?_
     rotate_left
     · simp only [Act.put, zA, zB, zC, i64_w, i32_w]
       rfl
     refine pure_ (i := 12) (N := some 19) (v := undef) (a' := ?_) #[true, true, true, true, true, true, true, true, true, true, true, true, true, false, false, false, false, false, false, false, false, false, false, false, false, false, false, false] rfl rfl (any_of HT_.out (by kernel_rfl)) (fun _ _ _ h => h) (Or.inr ⟨by rfl, rfl⟩) ?_ ?_
     rotate_left
     · simp only [Act.put, zA, zB, zC, i64_w, i32_w]
       rfl
     refine pure_ (i := 13) (N := some 20) (v := ?_) (a' := ?_) #[true, true, true, true, true, true, true, true, true, true, true, true, true, true, false, false, false, false, false, false, false, false, false, false, false, false, false, false] rfl rfl (any_of HT_.out (by kernel_rfl)) (fun _ _ _ h => h) (Or.inl ⟨by rfl, ?_⟩) ?_ ?_
     rotate_left
     · intro w'
       go_simp
       with_reducible rfl
     rotate_left
     · simp only [Act.put, zA, zB, zC, i64_w, i32_w]
       rfl
     refine pure_ (i := 14) (N := some 21) (v := ?_) (a' := ?_) #[true, true, true, true, true, true, true, true, true, true, true, true, true, true, true, false, false, false, false, false, false, false, false, false, false, false, false, false] rfl rfl (any_of HT_.out (by kernel_rfl)) (fun _ _ _ h => h) (Or.inl ⟨by rfl, ?_⟩) ?_ ?_
     rotate_left
     · intro w'
       go_simp
       with_reducible rfl
     rotate_left
     · simp only [Act.put, zA, zB, zC, i64_w, i32_w]
       rfl
     refine pure_ (i := 15) (N := some 22) (v := undef) (a' := ?_) #[true, true, true, true, true, true, true, true, true, true, true, true, true, true, true, true, false, false, false, false, false, false, false, false, false, false, false, false] rfl rfl (any_of HT_.out (by kernel_rfl)) (fun _ _ _ h => h) (Or.inr ⟨by rfl, rfl⟩) ?_ ?_
     rotate_left
     · simp only [Act.put, zA, zB, zC, i64_w, i32_w]
       rfl
     refine pure_ (i := 16) (N := some 23) (v := undef) (a' := ?_) #[true, true, true, true, true, true, true, true, true, true, true, true, true, true, true, true, true, false, false, false, false, false, false, false, false, false, false, false] rfl rfl (any_of HT_.out (by kernel_rfl)) (fun _ _ _ h => h) (Or.inr ⟨by rfl, rfl⟩) ?_ ?_
     rotate_left
     · simp only [Act.put, zA, zB, zC, i64_w, i32_w]
       rfl
     refine pure_ (i := 17) (N := some 24) (v := undef) (a' := ?_) #[true, true, true, true, true, true, true, true, true, true, true, true, true, true, true, true, true, true, false, false, false, false, false, false, false, false, false, false] rfl rfl (any_of HT_.out (by kernel_rfl)) (fun _ _ _ h => h) (Or.inr ⟨by rfl, rfl⟩) ?_ ?_
     rotate_left
     · simp only [Act.put, zA, zB, zC, i64_w, i32_w]
       rfl
     refine pure_ (i := 18) (N := some 25) (v := undef) (a' := ?_) #[true, true, true, true, true, true, true, true, true, true, true, true, true, true, true, true, true, true, true, false, false, false, false, false, false, false, false, false] rfl rfl (any_of HT_.out (by kernel_rfl)) (fun _ _ _ h => h) (Or.inr ⟨by rfl, rfl⟩) ?_ ?_
     rotate_left
     · simp only [Act.put, zA, zB, zC, i64_w, i32_w]
       rfl
     refine pure_ (i := 19) (N := some 26) (v := undef) (a' := ?_) #[true, true, true, true, true, true, true, true, true, true, true, true, true, true, true, true, true, true, true, true, false, false, false, false, false, false, false, false] rfl rfl (any_of HT_.out (by kernel_rfl)) (fun _ _ _ h => h) (Or.inr ⟨by rfl, rfl⟩) ?_ ?_
     rotate_left
     · simp only [Act.put, zA, zB, zC, i64_w, i32_w]
       rfl
     refine pure_ (i := 20) (N := some 27) (v := undef) (a' := ?_) #[true, true, true, true, true, true, true, true, true, true, true, true, true, true, true, true, true, true, true, true, true, false, false, false, false, false, false, false] rfl rfl (any_of HT_.out (by kernel_rfl)) (fun _ _ _ h => h) (Or.inr ⟨by rfl, rfl⟩) ?_ ?_
     rotate_left
     · simp only [Act.put, zA, zB, zC, i64_w, i32_w]
       rfl
     refine pure_ (i := 21) (N := some 28) (v := undef) (a' := ?_) #[true, true, true, true, true, true, true, true, true, true, true, true, true, true, true, true, true, true, true, true, true, true, false, false, false, false, false, false] rfl rfl (any_of HT_.out (by kernel_rfl)) (fun _ _ _ h => h) (Or.inr ⟨by rfl, rfl⟩) ?_ ?_
     rotate_left
     · simp only [Act.put, zA, zB, zC, i64_w, i32_w]
       rfl
     refine pure_ (i := 22) (N := some 29) (v := undef) (a' := ?_) #[true, true, true, true, true, true, true, true, true, true, true, true, true, true, true, true, true, true, true, true, true, true, true, false, false, false, false, false] rfl rfl (any_of HT_.out (by kernel_rfl)) (fun _ _ _ h => h) (Or.inr ⟨by rfl, rfl⟩) ?_ ?_
     rotate_left
     · simp only [Act.put, zA, zB, zC, i64_w, i32_w]
       rfl
     refine pure_ (i := 23) (N := some 30) (v := undef) (a' := ?_) #[true, true, true, true, true, true, true, true, true, true, true, true, true, true, true, true, true, true, true, true, true, true, true, true, false, false, false, false] rfl rfl (any_of HT_.out (by kernel_rfl)) (fun _ _ _ h => h) (Or.inr ⟨by rfl, rfl⟩) ?_ ?_
     rotate_left
     · simp only [Act.put, zA, zB, zC, i64_w, i32_w]
       rfl
     refine pure_ (i := 24) (N := some 31) (v := undef) (a' := ?_) #[true, true, true, true, true, true, true, true, true, true, true, true, true, true, true, true, true, true, true, true, true, true, true, true, true, false, false, false] rfl rfl (any_of HT_.out (by kernel_rfl)) (fun _ _ _ h => h) (Or.inr ⟨by rfl, rfl⟩) ?_ ?_
     rotate_left
     · simp only [Act.put, zA, zB, zC, i64_w, i32_w]
       rfl
     refine pure_ (i := 25) (N := some 32) (v := undef) (a' := ?_) #[true, true, true, true, true, true, true, true, true, true, true, true, true, true, true, true, true, true, true, true, true, true, true, true, true, true, false, false] rfl rfl (any_of HT_.out (by kernel_rfl)) (fun _ _ _ h => h) (Or.inr ⟨by rfl, rfl⟩) ?_ ?_
     rotate_left
     · simp only [Act.put, zA, zB, zC, i64_w, i32_w]
       rfl
     refine pure_ (i := 26) (N := some 33) (v := ?_) (a' := ?_) #[true, true, true, true, true, true, true, true, true, true, true, true, true, true, true, true, true, true, true, true, true, true, true, true, true, true, true, false] rfl rfl (any_of HT_.out (by kernel_rfl)) (fun _ _ _ h => h) (Or.inl ⟨by rfl, ?_⟩) ?_ ?_
     rotate_left
     · intro w'
       go_simp
       with_reducible rfl
     rotate_left
     · simp only [Act.put, zA, zB, zC, i64_w, i32_w]
       rfl
     refine pure_ (i := 27) (N := some 6) (v := ?_) (a' := ?_) #[true, true, true, true, true, true, true, true, true, true, true, true, true, true, true, true, true, true, true, true, true, true, true, true, true, true, true, true] rfl rfl (any_of HT_.out (by kernel_rfl)) (fun _ _ _ h => h) (Or.inl ⟨by rfl, ?_⟩) ?_ ?_
     rotate_left
     · intro w'
       go_simp
       with_reducible rfl
     rotate_left
     · simp only [Act.put, zA, zB, zC, i64_w, i32_w]
       rfl
     refine done_ (done_of HT_.out (by kernel_rfl)) ?_
     try go_wp2
     go_ret
     exact ⟨by first | rfl | (simp [errW_none, errW_some] <;> rfl) | (simp [*, errW_none, errW_some] <;> rfl), by repeat (first | (with_reducible first | exact HB.out | apply pbA | apply pbN | apply pbD | refine pbS ?_ GE979.out | refine pbS ?_ GE980.out) | exact HB.out)⟩
 · replace c4 := Bool.eq_false_iff.mpr c4
   subst c4
   have H1 : (some false) = some r := by rw [if_neg (show ¬ (false = true) by decide)] at H; exact H
   clear H
   have H := H1
   clear H1
   obtain rfl := Option.some.inj H
   go_enter Try.func58, Try.ntmps58
   try go_wp2_with (first | ((with_reducible refine gate_dst (N := 4) rfl ?_); refine box_event ?hg (N := 4) ?hd (cs := #[.string a1_0, .string a1_1]) (t := 86) ?hr ?_; (case hd => rfl); (case hg => rfl); (case hr => first | (go_simp; done) | (go_simp; rfl)); intro gb979 hg w19 hbox hb; have n0_ := Aside0.mk (below_step (by repeat (first | (with_reducible first | exact HB.out | apply pbA | apply pbN | apply pbD) | exact HB.out)) hb); have n1_ := Aside0.mk (hbox); have n2_ := Aside0.mk ((by rw [hg]; exact (below_size (by repeat (first | (with_reducible first | exact HB.out | apply pbA | apply pbN | apply pbD) | exact HB.out))) : w.heap.size ≤ gb979)); have n3_ := Aside0.mk ((by rw [hg]; exact (below_size (by repeat (first | (with_reducible first | exact HB.out | apply pbA | apply pbN | apply pbD) | exact HB.out))) : w.heap.size ≤ gb979)); clear HB; have HB := n0_; have BK979 := n1_; have GW979 := n2_; have GE979 := n3_; clear n0_ n1_ n2_ n3_; clear hb hbox hg) | ((with_reducible refine gate_dst (N := 5) rfl ?_); refine box_event ?hg (N := 5) ?hd (cs := #[.int .i64 a2_0, .int .i64 a2_1, .bool false, .slice A2_3 l2_3.length c2_3, .slice A2_4 l2_4.length c2_4]) (t := 82) ?hr ?_; (case hd => rfl); (case hg => rfl); (case hr => first | (go_simp; done) | (go_simp; rfl)); intro gb980 hg w20 hbox hb; have n0_ := Aside0.mk (blk_below (g := gb979) (o := .cells #[.string a1_0, .string a1_1] 86 (0, 0)) (by (with_reducible repeat (first | refine pkN ?_ _ | refine pkD ?_ | refine pkA ?_ _)); exact BK979.out) hb); have n1_ := Aside0.mk (below_step (by repeat (first | (with_reducible first | exact HB.out | apply pbA | apply pbN | apply pbD | refine pbS ?_ GE979.out) | exact HB.out)) hb); have n2_ := Aside0.mk (hbox); have n3_ := Aside0.mk ((by rw [hg]; exact (below_size (by repeat (first | (with_reducible first | exact HB.out | apply pbA | apply pbN | apply pbD | refine pbS ?_ GE979.out) | exact HB.out))) : w.heap.size ≤ gb980)); have n4_ := Aside0.mk ((by rw [hg]; exact (below_size (by repeat (first | (with_reducible first | exact HB.out | apply pbA | apply pbN | apply pbD | refine pbS ?_ GE979.out) | exact HB.out))) : w.heap.size ≤ gb980)); have n5_ := Aside0.mk ((by rw [hg]; exact Nat.ne_of_lt (blk_lt (g := gb979) (o := .cells #[.string a1_0, .string a1_1] 86 (0, 0)) (by (with_reducible repeat (first | refine pkN ?_ _ | refine pkD ?_ | refine pkA ?_ _)); exact BK979.out)) : gb979 ≠ gb980)); have n6_ := Aside0.mk ((by rw [hg]; exact Nat.ne_of_gt (blk_lt (g := gb979) (o := .cells #[.string a1_0, .string a1_1] 86 (0, 0)) (by (with_reducible repeat (first | refine pkN ?_ _ | refine pkD ?_ | refine pkA ?_ _)); exact BK979.out)) : gb980 ≠ gb979)); clear BK979; clear HB; have BK979 := n0_; have HB := n1_; have BK980 := n2_; have GW980 := n3_; have GE980 := n4_; have NB979_980 := n5_; have NB980_979 := n6_; clear n0_ n1_ n2_ n3_ n4_ n5_ n6_; clear hb hbox hg))
   have n0_ := Aside0.mk (pkD BK979.out)
   have n1_ := Aside0.mk (pkD BK980.out)
   have n2_ := Aside0.mk (pbD HB.out)
   clear BK979
   clear BK980
   clear HB
   have BK979 := n0_
   have BK980 := n1_
   have HB := n2_
   clear n0_ n1_ n2_
   refine start_ (n := 28) (S := fun w' => w'.cell? ⟨gb980, 0, none⟩ = some (.int .i64 a2_0) ∧ w'.cell? ⟨gb980, 1, none⟩ = some (.int .i64 a2_1) ∧ w'.cell? ⟨gb980, 2, none⟩ = some (.bool false) ∧ w'.cell? ⟨gb980, 3, none⟩ = some (.slice A2_3 l2_3.length c2_3) ∧ w'.cell? ⟨gb980, 4, none⟩ = some (.slice A2_4 l2_4.length c2_4)) (ds := []) #[false, false, false, false, false, false, false, false, false, false, false, false, false, false, false, false, false, false, false, false, false, false, false, false, false, false, false, false] (by kernel_rfl) rfl rfl ⟨(pkC BK980.out 0).trans rfl, (pkC BK980.out 1).trans rfl, (pkC BK980.out 2).trans rfl, (pkC BK980.out 3).trans rfl, (pkC BK980.out 4).trans rfl⟩ (fun hHeld => ?_); refine with_tabW proof_Has.tab1 proof_Has.bits1 (fun HT_ HW_ => ?_)
   generalize w20.drew = w21 at BK979 BK980 HB hHeld ⊢
   refine pure_ (i := 0) (N := some 7) (v := ?_) (a' := ?_) #[true, false, false, false, false, false, false, false, false, false, false, false, false, false, false, false, false, false, false, false, false, false, false, false, false, false, false, false] rfl rfl (any_of HT_.out (by kernel_rfl)) (fun _ _ _ h => h) (Or.inl ⟨by rfl, ?_⟩) ?_ ?_
   rotate_left
   · intro w'
     go_simp
     with_reducible rfl
   rotate_left
   · simp only [Act.put, zA, zB, zC, i64_w, i32_w]
     rfl
   refine take_ (i := 1) (N := some 8) (v := ?_) (a' := ?_) #[true, true, false, false, false, false, false, false, false, false, false, false, false, false, false, false, false, false, false, false, false, false, false, false, false, false, false, false] rfl rfl (take_ofW HT_.out HW_.out (by kernel_rfl)) (fun _ _ _ h => h) (Or.inl ⟨by rfl, ?_⟩) hHeld ?_ ?_
   rotate_left
   · rintro w' ⟨s0, s1, s2, s3, s4⟩
     go_simp
     with_reducible rfl
   rotate_left
   · simp only [Act.put, zA, zB, zC, i64_w, i32_w]
     rfl
   refine pure_ (i := 2) (N := some 9) (v := ?_) (a' := ?_) #[true, true, true, false, false, false, false, false, false, false, false, false, false, false, false, false, false, false, false, false, false, false, false, false, false, false, false, false] rfl rfl (any_of HT_.out (by kernel_rfl)) (fun _ _ _ h => h) (Or.inl ⟨by rfl, ?_⟩) ?_ ?_
   rotate_left
   · intro w'
     go_simp
     with_reducible rfl
   rotate_left
   · simp only [Act.put, zA, zB, zC, i64_w, i32_w]
     rfl
   refine pure_ (i := 3) (N := some 10) (v := undef) (a' := ?_) #[true, true, true, true, false, false, false, false, false, false, false, false, false, false, false, false, false, false, false, false, false, false, false, false, false, false, false, false] rfl rfl (any_of HT_.out (by kernel_rfl)) (fun _ _ _ h => h) (Or.inr ⟨by rfl, rfl⟩) ?_ ?_
   rotate_left
   · simp only [Act.put, zA, zB, zC, i64_w, i32_w]
     rfl
   refine pure_ (i := 4) (N := some 11) (v := undef) (a' := ?_) #[true, true, true, true, true, false, false, false, false, false, false, false, false, false, false, false, false, false, false, false, false, false, false, false, false, false, false, false] rfl rfl (any_of HT_.out (by kernel_rfl)) (fun _ _ _ h => h) (Or.inr ⟨by rfl, rfl⟩) ?_ ?_
   rotate_left
   · simp only [Act.put, zA, zB, zC, i64_w, i32_w]
     rfl
   refine pure_ (i := 5) (N := some 12) (v := undef) (a' := ?_) #[true, true, true, true, true, true, false, false, false, false, false, false, false, false, false, false, false, false, false, false, false, false, false, false, false, false, false, false] rfl rfl (any_of HT_.out (by kernel_rfl)) (fun _ _ _ h => h) (Or.inr ⟨by rfl, rfl⟩) ?_ ?_
   rotate_left
   · simp only [Act.put, zA, zB, zC, i64_w, i32_w]
     rfl
   refine pure_ (i := 6) (N := some 13) (v := undef) (a' := ?_) #[true, true, true, true, true, true, true, false, false, false, false, false, false, false, false, false, false, false, false, false, false, false, false, false, false, false, false, false] rfl rfl (any_of HT_.out (by kernel_rfl)) (fun _ _ _ h => h) (Or.inr ⟨by rfl, rfl⟩) ?_ ?_
   rotate_left
   · simp only [Act.put, zA, zB, zC, i64_w, i32_w]
     rfl
   refine pure_ (i := 7) (N := some 14) (v := ?_) (a' := ?_) #[true, true, true, true, true, true, true, true, false, false, false, false, false, false, false, false, false, false, false, false, false, false, false, false, false, false, false, false] rfl rfl (any_of HT_.out (by kernel_rfl)) (fun _ _ _ h => h) (Or.inl ⟨by rfl, ?_⟩) ?_ ?_
   rotate_left
   · intro w'
     go_simp
     with_reducible rfl
   rotate_left
   · simp only [Act.put, zA, zB, zC, i64_w, i32_w]
     rfl
   refine pure_ (i := 8) (N := some 15) (v := ?_) (a' := ?_) #[true, true, true, true, true, true, true, true, true, false, false, false, false, false, false, false, false, false, false, false, false, false, false, false, false, false, false, false] rfl rfl (any_of HT_.out (by kernel_rfl)) (fun _ _ _ h => h) (Or.inl ⟨by rfl, ?_⟩) ?_ ?_
   rotate_left
   · intro w'
     go_simp
     with_reducible rfl
   rotate_left
   · simp only [Act.put, zA, zB, zC, i64_w, i32_w]
     rfl
   refine pure_ (i := 9) (N := some 16) (v := undef) (a' := ?_) #[true, true, true, true, true, true, true, true, true, true, false, false, false, false, false, false, false, false, false, false, false, false, false, false, false, false, false, false] rfl rfl (any_of HT_.out (by kernel_rfl)) (fun _ _ _ h => h) (Or.inr ⟨by rfl, rfl⟩) ?_ ?_
   rotate_left
   · simp only [Act.put, zA, zB, zC, i64_w, i32_w]
     rfl
   refine pure_ (i := 10) (N := some 17) (v := undef) (a' := ?_) #[true, true, true, true, true, true, true, true, true, true, true, false, false, false, false, false, false, false, false, false, false, false, false, false, false, false, false, false] rfl rfl (any_of HT_.out (by kernel_rfl)) (fun _ _ _ h => h) (Or.inr ⟨by rfl, rfl⟩) ?_ ?_
   rotate_left
   · simp only [Act.put, zA, zB, zC, i64_w, i32_w]
     rfl
   refine pure_ (i := 11) (N := some 18) (v := undef) (a' := ?_) #[true, true, true, true, true, true, true, true, true, true, true, true, false, false, false, false, false, false, false, false, false, false, false, false, false, false, false, false] rfl rfl (any_of HT_.out (by kernel_rfl)) (fun _ _ _ h => h) (Or.inr ⟨by rfl, rfl⟩) ?_ ?_
   rotate_left
   · simp only [Act.put, zA, zB, zC, i64_w, i32_w]
     rfl
   refine pure_ (i := 12) (N := some 19) (v := undef) (a' := ?_) #[true, true, true, true, true, true, true, true, true, true, true, true, true, false, false, false, false, false, false, false, false, false, false, false, false, false, false, false] rfl rfl (any_of HT_.out (by kernel_rfl)) (fun _ _ _ h => h) (Or.inr ⟨by rfl, rfl⟩) ?_ ?_
   rotate_left
   · simp only [Act.put, zA, zB, zC, i64_w, i32_w]
     rfl
   refine pure_ (i := 13) (N := some 20) (v := ?_) (a' := ?_) #[true, true, true, true, true, true, true, true, true, true, true, true, true, true, false, false, false, false, false, false, false, false, false, false, false, false, false, false] rfl rfl (any_of HT_.out (by kernel_rfl)) (fun _ _ _ h => h) (Or.inl ⟨by rfl, ?_⟩) ?_ ?_
   rotate_left
   · intro w'
     go_simp
     with_reducible rfl
   rotate_left
   · simp only [Act.put, zA, zB, zC, i64_w, i32_w]
     rfl
   refine pure_ (i := 14) (N := some 21) (v := ?_) (a' := ?_) #[true, true, true, true, true, true, true, true, true, true, true, true, true, true, true, false, false, false, false, false, false, false, false, false, false, false, false, false] rfl rfl (any_of HT_.out (by kernel_rfl)) (fun _ _ _ h => h) (Or.inl ⟨by rfl, ?_⟩) ?_ ?_
   rotate_left
   · intro w'
     go_simp
     with_reducible rfl
   rotate_left
   · simp only [Act.put, zA, zB, zC, i64_w, i32_w]
     rfl
   refine pure_ (i := 15) (N := some 22) (v := undef) (a' := ?_) #[true, true, true, true, true, true, true, true, true, true, true, true, true, true, true, true, false, false, false, false, false, false, false, false, false, false, false, false] rfl rfl (any_of HT_.out (by kernel_rfl)) (fun _ _ _ h => h) (Or.inr ⟨by rfl, rfl⟩) ?_ ?_
   rotate_left
   · simp only [Act.put, zA, zB, zC, i64_w, i32_w]
     rfl
   refine pure_ (i := 16) (N := some 23) (v := undef) (a' := ?_) #[true, true, true, true, true, true, true, true, true, true, true, true, true, true, true, true, true, false, false, false, false, false, false, false, false, false, false, false] rfl rfl (any_of HT_.out (by kernel_rfl)) (fun _ _ _ h => h) (Or.inr ⟨by rfl, rfl⟩) ?_ ?_
   rotate_left
   · simp only [Act.put, zA, zB, zC, i64_w, i32_w]
     rfl
   refine pure_ (i := 17) (N := some 24) (v := undef) (a' := ?_) #[true, true, true, true, true, true, true, true, true, true, true, true, true, true, true, true, true, true, false, false, false, false, false, false, false, false, false, false] rfl rfl (any_of HT_.out (by kernel_rfl)) (fun _ _ _ h => h) (Or.inr ⟨by rfl, rfl⟩) ?_ ?_
   rotate_left
   · simp only [Act.put, zA, zB, zC, i64_w, i32_w]
     rfl
   refine pure_ (i := 18) (N := some 25) (v := undef) (a' := ?_) #[true, true, true, true, true, true, true, true, true, true, true, true, true, true, true, true, true, true, true, false, false, false, false, false, false, false, false, false] rfl rfl (any_of HT_.out (by kernel_rfl)) (fun _ _ _ h => h) (Or.inr ⟨by rfl, rfl⟩) ?_ ?_
   rotate_left
   · simp only [Act.put, zA, zB, zC, i64_w, i32_w]
     rfl
   refine pure_ (i := 19) (N := some 26) (v := undef) (a' := ?_) #[true, true, true, true, true, true, true, true, true, true, true, true, true, true, true, true, true, true, true, true, false, false, false, false, false, false, false, false] rfl rfl (any_of HT_.out (by kernel_rfl)) (fun _ _ _ h => h) (Or.inr ⟨by rfl, rfl⟩) ?_ ?_
   rotate_left
   · simp only [Act.put, zA, zB, zC, i64_w, i32_w]
     rfl
   refine pure_ (i := 20) (N := some 27) (v := undef) (a' := ?_) #[true, true, true, true, true, true, true, true, true, true, true, true, true, true, true, true, true, true, true, true, true, false, false, false, false, false, false, false] rfl rfl (any_of HT_.out (by kernel_rfl)) (fun _ _ _ h => h) (Or.inr ⟨by rfl, rfl⟩) ?_ ?_
   rotate_left
   · simp only [Act.put, zA, zB, zC, i64_w, i32_w]
     rfl
   refine pure_ (i := 21) (N := some 28) (v := undef) (a' := ?_) #[true, true, true, true, true, true, true, true, true, true, true, true, true, true, true, true, true, true, true, true, true, true, false, false, false, false, false, false] rfl rfl (any_of HT_.out (by kernel_rfl)) (fun _ _ _ h => h) (Or.inr ⟨by rfl, rfl⟩) ?_ ?_
   rotate_left
   · simp only [Act.put, zA, zB, zC, i64_w, i32_w]
     rfl
   refine pure_ (i := 22) (N := some 29) (v := undef) (a' := ?_) #[true, true, true, true, true, true, true, true, true, true, true, true, true, true, true, true, true, true, true, true, true, true, true, false, false, false, false, false] rfl rfl (any_of HT_.out (by kernel_rfl)) (fun _ _ _ h => h) (Or.inr ⟨by rfl, rfl⟩) ?_ ?_
   rotate_left
   · simp only [Act.put, zA, zB, zC, i64_w, i32_w]
     rfl
   refine pure_ (i := 23) (N := some 30) (v := undef) (a' := ?_) #[true, true, true, true, true, true, true, true, true, true, true, true, true, true, true, true, true, true, true, true, true, true, true, true, false, false, false, false] rfl rfl (any_of HT_.out (by kernel_rfl)) (fun _ _ _ h => h) (Or.inr ⟨by rfl, rfl⟩) ?_ ?_
   rotate_left
   · simp only [Act.put, zA, zB, zC, i64_w, i32_w]
     rfl
   refine pure_ (i := 24) (N := some 31) (v := undef) (a' := ?_) #[true, true, true, true, true, true, true, true, true, true, true, true, true, true, true, true, true, true, true, true, true, true, true, true, true, false, false, false] rfl rfl (any_of HT_.out (by kernel_rfl)) (fun _ _ _ h => h) (Or.inr ⟨by rfl, rfl⟩) ?_ ?_
   rotate_left
   · simp only [Act.put, zA, zB, zC, i64_w, i32_w]
     rfl
   refine pure_ (i := 25) (N := some 32) (v := undef) (a' := ?_) #[true, true, true, true, true, true, true, true, true, true, true, true, true, true, true, true, true, true, true, true, true, true, true, true, true, true, false, false] rfl rfl (any_of HT_.out (by kernel_rfl)) (fun _ _ _ h => h) (Or.inr ⟨by rfl, rfl⟩) ?_ ?_
   rotate_left
   · simp only [Act.put, zA, zB, zC, i64_w, i32_w]
     rfl
   refine pure_ (i := 26) (N := some 33) (v := ?_) (a' := ?_) #[true, true, true, true, true, true, true, true, true, true, true, true, true, true, true, true, true, true, true, true, true, true, true, true, true, true, true, false] rfl rfl (any_of HT_.out (by kernel_rfl)) (fun _ _ _ h => h) (Or.inl ⟨by rfl, ?_⟩) ?_ ?_
   rotate_left
   · intro w'
     go_simp
     with_reducible rfl
   rotate_left
   · simp only [Act.put, zA, zB, zC, i64_w, i32_w]
     rfl
   refine pure_ (i := 27) (N := some 6) (v := ?_) (a' := ?_) #[true, true, true, true, true, true, true, true, true, true, true, true, true, true, true, true, true, true, true, true, true, true, true, true, true, true, true, true] rfl rfl (any_of HT_.out (by kernel_rfl)) (fun _ _ _ h => h) (Or.inl ⟨by rfl, ?_⟩) ?_ ?_
   rotate_left
   · intro w'
     go_simp
     with_reducible rfl
   rotate_left
   · simp only [Act.put, zA, zB, zC, i64_w, i32_w]
     rfl
   refine done_ (done_of HT_.out (by kernel_rfl)) ?_
   try go_wp2
   go_ret
   exact ⟨by first | rfl | (simp [errW_none, errW_some] <;> rfl) | (simp [*, errW_none, errW_some] <;> rfl), by repeat (first | (with_reducible first | exact HB.out | apply pbA | apply pbN | apply pbD | refine pbS ?_ GE979.out | refine pbS ?_ GE980.out) | exact HB.out)⟩
mutual
def proof_Lacks.j0 : Nat → ByteArray → ByteArray → Bool → Int → Int → Bool → List (S86) → List (List ByteArray) → Option (Bool)
 | 0, _, _, _, _, _, _, _, _ => none
 | k + 1, x0, x1, x35, x984000, x984001, x984002, x984003, x984004 => if x35 = true then (some false) else (if x984001 < x984000 then (proof_Lacks.j1 k x0 x1 (mx 0 (wrap64 (x984001 - 1))) (wrap64 (x984001 + 1)) x984000 x984001 x984002 x984003 x984004) else (proof_Lacks.j1 k x0 x1 (mx 0 (wrap64 (x984001 - 1))) x984001 x984000 x984001 x984002 x984003 x984004))
def proof_Lacks.j1 : Nat → ByteArray → ByteArray → Int → Int → Int → Int → Bool → List (S86) → List (List ByteArray) → Option (Bool)
 | 0, _, _, _, _, _, _, _, _, _ => none
 | k + 1, x0, x1, x7, x8, x984000, x984001, x984002, x984003, x984004 => if (x984003.length : Int) = (wrap64 (x8 - x7)) then (proof_Lacks.l0 k x0 x1 x7 x984003 (x984003.length : Int) 0 x984000 x984001 x984002 x984003 x984004) else (some false)
def proof_Lacks.l0 : Nat → ByteArray → ByteArray → Int → List (S86) → Int → Int → Int → Int → Bool → List (S86) → List (List ByteArray) → Option (Bool)
 | 0, _, _, _, _, _, _, _, _, _, _, _ => none
 | k + 1, x0, x1, x7, x57, x58, x59, x984000, x984001, x984002, x984003, x984004 => if x59 < x58 then (if 0 ≤ x59 then (if x59 < (x57.length : Int) then (if ((decide ((wrap64 (x7 + x59)) < x984001)) != (Op.bytesLess (((rd_T86 x57 x59).f0).toList) x1.toList)) = true then (some false) else (if ((rd_T86 x57 x59).f0).toList = x1.toList then (some false) else (if x59 < (x984004.length : Int) then ((proof_leads.f k x0 ((rd_T86 x57 x59).f0) ((rd_T86 x57 x59).f1) x984000 (wrap64 (x7 + x59)) (rd_L10 x984004 x59)).bind fun t987 => (if t987 = true then (proof_Lacks.l0 k x0 x1 x7 x57 x58 (wrap64 (x59 + 1)) x984000 x984001 x984002 x984003 x984004) else (some false))) else (none)))) else (none)) else (none)) else (if x984000 > 0 then (some true) else ((merkle_Top.f 0 (⟨#[]⟩ : ByteArray)).bind fun t988 => (some (x0.toList == t988.toList))))
end
def proof_Lacks.f (k : Nat) (a0 : ByteArray) (a1 : ByteArray) (a2_0 : Int) (a2_1 : Int) (a2_2 : Bool) (l2_3 : List (S86)) (l2_4 : List (List ByteArray)) : Option (Bool) := if a2_2 = true then (proof_Lacks.j0 k a0 a1 true a2_0 a2_1 a2_2 l2_3 l2_4) else (if a2_1 < 0 then (proof_Lacks.j0 k a0 a1 true a2_0 a2_1 a2_2 l2_3 l2_4) else (if a2_1 > a2_0 then (proof_Lacks.j0 k a0 a1 true a2_0 a2_1 a2_2 l2_3 l2_4) else (proof_Lacks.j0 k a0 a1 ((l2_4.length : Int) != (l2_3.length : Int)) a2_0 a2_1 a2_2 l2_3 l2_4)))
def proof_Lacks.T3 : Bool × List (List Nat × List Nat) := (true, [([], []), ([0], [0]), ([1], [1]), ([2], [2]), ([], []), ([4], [4]), ([3, 0, 1, 2, 3], [3]), ([5, 6, 0, 1, 2, 3, 4, 5, 6], [5])])
def proof_Lacks.B3 : List Nat := [0, 1, 3, 7, 0, 16, 15, 127]
theorem proof_Lacks.tab3 : rtab .any (opsOf Try.f59 3) = proof_Lacks.T3 := by kernel_rfl
theorem proof_Lacks.bits3 : waitsOk proof_Lacks.T3.2 proof_Lacks.B3 = true := by kernel_rfl
def proof_Lacks.T13 : Bool × List (List Nat × List Nat) := (true, [([], []), ([], []), ([1], [1]), ([], []), ([2, 3], [2, 3]), ([0, 4], [0, 4]), ([5], [5]), ([6], [6]), ([7, 6], [6, 7]), ([6], [6]), ([8, 9, 6], [6, 8, 9]), ([6, 10], [6, 10]), ([11, 6], [11]), ([12], [12]), ([12], [12]), ([12], [12]), ([15, 12], [12, 15]), ([12], [12]), ([12], [12]), ([18, 12], [12, 18]), ([12], [12]), ([19, 20, 12], [12, 19, 20]), ([21, 12], [12, 21]), ([13, 14, 16, 17, 22, 12, 12], [12, 13, 14, 16, 17, 22]), ([23, 12], [12, 23]), ([12, 24], [12, 24])])
def proof_Lacks.B13 : List Nat := [0, 0, 2, 0, 14, 31, 63, 127, 255, 127, 1023, 2047, 4095, 8191, 8191, 8191, 40959, 8191, 8191, 270335, 8191, 1843199, 3940351, 8388607, 16777215, 33554431]
theorem proof_Lacks.tab13 : rtab .any (opsOf Try.f59 13) = proof_Lacks.T13 := by kernel_rfl
theorem proof_Lacks.bits13 : waitsOk proof_Lacks.T13.2 proof_Lacks.B13 = true := by kernel_rfl
set_option maxHeartbeats 8000000 in
set_option maxRecDepth 100000 in
theorem proof_Lacks.calls (k : Nat) (a0 : ByteArray) (a1 : ByteArray) (a2_0 : Int) (a2_1 : Int) (a2_2 : Bool) (A2_3 : Option Addr) (c2_3 : Nat) (l2_3 : List (S86)) (A2_4 : Option Addr) (c2_4 : Nat) (l2_4 : List (List ByteArray)) (r : Bool) (w : World) (hr2_3 : Kd.C k86 w A2_3 l2_3.length l2_3) (hc2_3 : l2_3.length ≤ c2_3) (hr2_4 : Kd.C (Kd.slice 9 Kd.string) w A2_4 l2_4.length l2_4) (hc2_4 : l2_4.length ≤ c2_4) (h : proof_Lacks.f k a0 a1 a2_0 a2_1 a2_2 l2_3 l2_4 = some r) :
  Calls Try.prog 59 #[.string a0, .string a1, .agg #[.int .i64 a2_0, .int .i64 a2_1, .bool a2_2, .slice A2_3 l2_3.length c2_3, .slice A2_4 l2_4.length c2_4]] w fun e w' => e = .returned (.bool r) ∧ Below w.heap.size w w' := by
 have hu82 := Try.underlying82
 have hu86 := Try.underlying86
 have HR2_3 := Aside0.mk hr2_3
 have HC2_3 := Aside0.mk hc2_3
 clear hr2_3 hc2_3
 have HR2_4 := Aside0.mk hr2_4
 have HC2_4 := Aside0.mk hc2_4
 clear hr2_4 hc2_4
 have HB := Aside0.mk (Below.refl w.heap.size w)
 have H : (if a2_2 = true then (proof_Lacks.j0 k a0 a1 true a2_0 a2_1 a2_2 l2_3 l2_4) else (if a2_1 < 0 then (proof_Lacks.j0 k a0 a1 true a2_0 a2_1 a2_2 l2_3 l2_4) else (if a2_1 > a2_0 then (proof_Lacks.j0 k a0 a1 true a2_0 a2_1 a2_2 l2_3 l2_4) else (proof_Lacks.j0 k a0 a1 ((l2_4.length : Int) != (l2_3.length : Int)) a2_0 a2_1 a2_2 l2_3 l2_4)))) = some r := h
 clear h
 have HC4 := Aside0.mk H
 clear H
 go_enter Try.func59, Try.ntmps59
 go_upto_region 1 with (first | ((with_reducible refine gate_dst (N := 5) rfl ?_); refine box_event ?hg (N := 5) ?hd (cs := #[.int .i64 a2_0, .int .i64 a2_1, .bool a2_2, .slice A2_3 l2_3.length c2_3, .slice A2_4 l2_4.length c2_4]) (t := 82) ?hr ?_; (case hd => rfl); (case hg => rfl); (case hr => first | (go_simp; done) | (go_simp; rfl)); intro gb983 hg w5 hbox hb; have n0_ := Aside0.mk (below_step (by repeat (first | (with_reducible first | exact HB.out | apply pbA | apply pbN | apply pbD) | exact HB.out)) hb); have n1_ := Aside0.mk (hbox); have n2_ := Aside0.mk ((by rw [hg]; exact (below_size (by repeat (first | (with_reducible first | exact HB.out | apply pbA | apply pbN | apply pbD) | exact HB.out))) : w.heap.size ≤ gb983)); have n3_ := Aside0.mk ((by rw [hg]; exact (below_size (by repeat (first | (with_reducible first | exact HB.out | apply pbA | apply pbN | apply pbD) | exact HB.out))) : w.heap.size ≤ gb983)); clear HB; have HB := n0_; have BK983 := n1_; have GW983 := n2_; have GE983 := n3_; clear n0_ n1_ n2_ n3_; clear hb hbox hg))
 (try simp only [Act.put, zA, zB, zC])
 go_cut [35] (fun v35 wc => ∃ (kq : Nat) (x35_3 : Bool), v35 = .bool x35_3 ∧ Aside0 (proof_Lacks.j0 kq a0 a1 x35_3 a2_0 a2_1 a2_2 l2_3 l2_4 = some r) ∧ Aside0 (kq ≤ k) ∧ Aside0 (wc.heap[gb983]? = some (.cells #[.int .i64 a2_0, .int .i64 a2_1, .bool a2_2, (.slice A2_3 l2_3.length c2_3), (.slice A2_4 l2_4.length c2_4)] 82 (0, 0))) ∧ Aside0 (Below w.heap.size w wc))
 case first =>
  have H := HC4.out
  clear HC4
  by_cases c6 : a2_2 = true
  · subst c6
    have H1 : (proof_Lacks.j0 k a0 a1 true a2_0 a2_1 true l2_3 l2_4) = some r := by rw [if_pos rfl] at H; exact H
    clear H
    have H := H1
    clear H1
    have H' := Aside0.mk H
    clear H
    have hcz7_0 : w5.cell? ⟨gb983, 0, none⟩ = some (.int .i64 a2_0) := (pkC BK983.out 0).trans rfl
    have hcz7_1 : w5.cell? ⟨gb983, 1, none⟩ = some (.int .i64 a2_1) := (pkC BK983.out 1).trans rfl
    have hcz7_2 : w5.cell? ⟨gb983, 2, none⟩ = some (.bool true) := (pkC BK983.out 2).trans rfl
    have hcz7_3 : w5.cell? ⟨gb983, 3, none⟩ = some (.slice A2_3 l2_3.length c2_3) := (pkC BK983.out 3).trans rfl
    have hcz7_4 : w5.cell? ⟨gb983, 4, none⟩ = some (.slice A2_4 l2_4.length c2_4) := (pkC BK983.out 4).trans rfl
    have hfz7_0 := pkF BK983.out 0
    have hfz7_1 := pkF BK983.out 1
    have hfz7_2 := pkF BK983.out 2
    have hfz7_3 := pkF BK983.out 3
    have hfz7_4 := pkF BK983.out 4
    go_wp2
    go_meet
    case rel => exact ⟨_, (true), (by first | rfl | (simp; done) | (simp [*]; done)), H', ⟨by first | omega | exact Nat.le_refl _⟩, ⟨by (with_reducible repeat (first | refine pkN ?_ _ | refine pkD ?_ | refine pkA ?_ _)); exact BK983.out⟩, ⟨by repeat (first | (with_reducible first | exact HB.out | apply pbA | apply pbN | apply pbD | refine pbS ?_ GE983.out) | exact HB.out)⟩⟩
  · replace c6 := Bool.eq_false_iff.mpr c6
    subst c6
    have H1 : (if a2_1 < 0 then (proof_Lacks.j0 k a0 a1 true a2_0 a2_1 false l2_3 l2_4) else (if a2_1 > a2_0 then (proof_Lacks.j0 k a0 a1 true a2_0 a2_1 false l2_3 l2_4) else (proof_Lacks.j0 k a0 a1 ((l2_4.length : Int) != (l2_3.length : Int)) a2_0 a2_1 false l2_3 l2_4))) = some r := by rw [if_neg (show ¬ (false = true) by decide)] at H; exact H
    clear H
    have H := H1
    clear H1
    by_cases c8 : a2_1 < 0
    · rw [if_pos c8] at H
      have c8b0 : decide (a2_1 < 0) = true := decide_eq_true c8
      clear c8
      (first | rw [c8b0] | (simp only [i64_w, i32_w]; rw [c8b0]) | skip)
      have H' := Aside0.mk H
      clear H
      have hcz9_0 : w5.cell? ⟨gb983, 0, none⟩ = some (.int .i64 a2_0) := (pkC BK983.out 0).trans rfl
      have hcz9_1 : w5.cell? ⟨gb983, 1, none⟩ = some (.int .i64 a2_1) := (pkC BK983.out 1).trans rfl
      have hcz9_2 : w5.cell? ⟨gb983, 2, none⟩ = some (.bool false) := (pkC BK983.out 2).trans rfl
      have hcz9_3 : w5.cell? ⟨gb983, 3, none⟩ = some (.slice A2_3 l2_3.length c2_3) := (pkC BK983.out 3).trans rfl
      have hcz9_4 : w5.cell? ⟨gb983, 4, none⟩ = some (.slice A2_4 l2_4.length c2_4) := (pkC BK983.out 4).trans rfl
      have hfz9_0 := pkF BK983.out 0
      have hfz9_1 := pkF BK983.out 1
      have hfz9_2 := pkF BK983.out 2
      have hfz9_3 := pkF BK983.out 3
      have hfz9_4 := pkF BK983.out 4
      go_wp2
      go_meet
      case rel => exact ⟨_, (true), (by first | rfl | (simp; done) | (simp [*]; done)), H', ⟨by first | omega | exact Nat.le_refl _⟩, ⟨by (with_reducible repeat (first | refine pkN ?_ _ | refine pkD ?_ | refine pkA ?_ _)); exact BK983.out⟩, ⟨by repeat (first | (with_reducible first | exact HB.out | apply pbA | apply pbN | apply pbD | refine pbS ?_ GE983.out) | exact HB.out)⟩⟩
    · rw [if_neg c8] at H
      have c8b0 : decide (a2_1 < 0) = false := decide_eq_false c8
      clear c8
      (first | rw [c8b0] | (simp only [i64_w, i32_w]; rw [c8b0]) | skip)
      by_cases c10 : a2_1 > a2_0
      · rw [if_pos c10] at H
        have c10b0 : decide (a2_0 < a2_1) = true := decide_eq_true c10
        clear c10
        have H' := Aside0.mk H
        clear H
        have hcz11_0 : w5.cell? ⟨gb983, 0, none⟩ = some (.int .i64 a2_0) := (pkC BK983.out 0).trans rfl
        have hcz11_1 : w5.cell? ⟨gb983, 1, none⟩ = some (.int .i64 a2_1) := (pkC BK983.out 1).trans rfl
        have hcz11_2 : w5.cell? ⟨gb983, 2, none⟩ = some (.bool false) := (pkC BK983.out 2).trans rfl
        have hcz11_3 : w5.cell? ⟨gb983, 3, none⟩ = some (.slice A2_3 l2_3.length c2_3) := (pkC BK983.out 3).trans rfl
        have hcz11_4 : w5.cell? ⟨gb983, 4, none⟩ = some (.slice A2_4 l2_4.length c2_4) := (pkC BK983.out 4).trans rfl
        have hfz11_0 := pkF BK983.out 0
        have hfz11_1 := pkF BK983.out 1
        have hfz11_2 := pkF BK983.out 2
        have hfz11_3 := pkF BK983.out 3
        have hfz11_4 := pkF BK983.out 4
        go_wp2
        go_meet
        case rel => exact ⟨_, (true), (by first | rfl | (simp; done) | (simp [*]; done)), H', ⟨by first | omega | exact Nat.le_refl _⟩, ⟨by (with_reducible repeat (first | refine pkN ?_ _ | refine pkD ?_ | refine pkA ?_ _)); exact BK983.out⟩, ⟨by repeat (first | (with_reducible first | exact HB.out | apply pbA | apply pbN | apply pbD | refine pbS ?_ GE983.out) | exact HB.out)⟩⟩
      · rw [if_neg c10] at H
        have c10b0 : decide (a2_0 < a2_1) = false := decide_eq_false c10
        clear c10
        have H' := Aside0.mk H
        clear H
        have hcz12_0 : w5.cell? ⟨gb983, 0, none⟩ = some (.int .i64 a2_0) := (pkC BK983.out 0).trans rfl
        have hcz12_1 : w5.cell? ⟨gb983, 1, none⟩ = some (.int .i64 a2_1) := (pkC BK983.out 1).trans rfl
        have hcz12_2 : w5.cell? ⟨gb983, 2, none⟩ = some (.bool false) := (pkC BK983.out 2).trans rfl
        have hcz12_3 : w5.cell? ⟨gb983, 3, none⟩ = some (.slice A2_3 l2_3.length c2_3) := (pkC BK983.out 3).trans rfl
        have hcz12_4 : w5.cell? ⟨gb983, 4, none⟩ = some (.slice A2_4 l2_4.length c2_4) := (pkC BK983.out 4).trans rfl
        have hfz12_0 := pkF BK983.out 0
        have hfz12_1 := pkF BK983.out 1
        have hfz12_2 := pkF BK983.out 2
        have hfz12_3 := pkF BK983.out 3
        have hfz12_4 := pkF BK983.out 4
        go_wp2
        go_meet
        case rel => exact ⟨_, (((l2_4.length : Int) != (l2_3.length : Int))), (by first | rfl | (simp; done) | (simp [*]; done)), H', ⟨by first | omega | exact Nat.le_refl _⟩, ⟨by (with_reducible repeat (first | refine pkN ?_ _ | refine pkD ?_ | refine pkA ?_ _)); exact BK983.out⟩, ⟨by repeat (first | (with_reducible first | exact HB.out | apply pbA | apply pbN | apply pbD | refine pbS ?_ GE983.out) | exact HB.out)⟩⟩
 case rest =>
  clear HC4
  try clear c1
  try clear c2
  try clear p2
  try clear c5
  try clear c6
  try clear c8
  try clear c8b0
  try clear c10
  try clear c10b0
  try clear hcz11_0
  try clear hcz11_1
  try clear hcz11_2
  try clear hcz11_3
  try clear hcz11_4
  try clear hcz12_0
  try clear hcz12_1
  try clear hcz12_2
  try clear hcz12_3
  try clear hcz12_4
  try clear hcz7_0
  try clear hcz7_1
  try clear hcz7_2
  try clear hcz7_3
  try clear hcz7_4
  try clear hcz9_0
  try clear hcz9_1
  try clear hcz9_2
  try clear hcz9_3
  try clear hcz9_4
  try clear hfz11_0
  try clear hfz11_1
  try clear hfz11_2
  try clear hfz11_3
  try clear hfz11_4
  try clear hfz12_0
  try clear hfz12_1
  try clear hfz12_2
  try clear hfz12_3
  try clear hfz12_4
  try clear hfz7_0
  try clear hfz7_1
  try clear hfz7_2
  try clear hfz7_3
  try clear hfz7_4
  try clear hfz9_0
  try clear hfz9_1
  try clear hfz9_2
  try clear hfz9_3
  try clear hfz9_4
  obtain ⟨kq, x35_3, rfl, HA, HJ3, BK983, HB⟩ := hcut
  cases kq with
  | zero => exact absurd HA.out (by simp [proof_Lacks.j0])
  | succ kj3 =>
   have H := HA.out
   clear HA
   simp only [proof_Lacks.j0] at H
   by_cases c13 : x35_3 = true
   · subst c13
     have H1 : (some false) = some r := by rw [if_pos rfl] at H; exact H
     clear H
     have H := H1
     clear H1
     obtain rfl := Option.some.inj H
     go_wp2
     go_ret
     exact ⟨by first | rfl | (simp [errW_none, errW_some] <;> rfl) | (simp [*, errW_none, errW_some] <;> rfl), by repeat (first | (with_reducible first | exact HB.out | apply pbA | apply pbN | apply pbD | refine pbS ?_ GE983.out) | exact HB.out)⟩
   · replace c13 := Bool.eq_false_iff.mpr c13
     subst c13
     have H1 : (if a2_1 < a2_0 then (proof_Lacks.j1 kj3 a0 a1 (mx 0 (wrap64 (a2_1 - 1))) (wrap64 (a2_1 + 1)) a2_0 a2_1 a2_2 l2_3 l2_4) else (proof_Lacks.j1 kj3 a0 a1 (mx 0 (wrap64 (a2_1 - 1))) a2_1 a2_0 a2_1 a2_2 l2_3 l2_4)) = some r := by rw [if_neg (show ¬ (false = true) by decide)] at H; exact H
     clear H
     have H := H1
     clear H1
     obtain ⟨ji14, hji14⟩ : ∃ j_ : Int, (mx 0 (wrap64 (a2_1 - 1))) = j_ := ⟨_, rfl⟩
     replace H : (if a2_1 < a2_0 then (proof_Lacks.j1 kj3 a0 a1 ji14 (wrap64 (a2_1 + 1)) a2_0 a2_1 a2_2 l2_3 l2_4) else (proof_Lacks.j1 kj3 a0 a1 ji14 a2_1 a2_0 a2_1 a2_2 l2_3 l2_4)) = some r := by first | (rw [hji14] at H; exact H) | (simp only [hji14] at H ⊢; exact H)
     have hji14_ : (if 0 < (wrap64 (a2_1 - 1)) then (wrap64 (a2_1 - 1)) else 0) = ji14 := hji14
     have HC15 := Aside0.mk H
     clear H
     try go_wp2
     have n0_ := Aside0.mk (pkD BK983.out)
     have n1_ := Aside0.mk (pbD HB.out)
     clear BK983
     clear HB
     have BK983 := n0_
     have HB := n1_
     clear n0_ n1_
     refine start_ (n := 8) (S := fun w' => w'.cell? ⟨gb983, 0, none⟩ = some (.int .i64 a2_0) ∧ w'.cell? ⟨gb983, 1, none⟩ = some (.int .i64 a2_1) ∧ w'.cell? ⟨gb983, 2, none⟩ = some (.bool a2_2) ∧ w'.cell? ⟨gb983, 3, none⟩ = some (.slice A2_3 l2_3.length c2_3) ∧ w'.cell? ⟨gb983, 4, none⟩ = some (.slice A2_4 l2_4.length c2_4)) (ds := []) #[false, false, false, false, false, false, false, false] (by kernel_rfl) rfl rfl ⟨(pkC BK983.out 0).trans rfl, (pkC BK983.out 1).trans rfl, (pkC BK983.out 2).trans rfl, (pkC BK983.out 3).trans rfl, (pkC BK983.out 4).trans rfl⟩ (fun hHeld => ?_); refine with_tabW proof_Lacks.tab3 proof_Lacks.bits3 (fun HT_ HW_ => ?_)
     generalize wc.drew = w16 at BK983 HB hHeld ⊢
     refine pure_ (i := 0) (N := some 36) (v := ?_) (a' := ?_) #[true, false, false, false, false, false, false, false] rfl rfl (any_of HT_.out (by kernel_rfl)) (fun _ _ _ h => h) (Or.inl ⟨by rfl, ?_⟩) ?_ ?_
     rotate_left
     · intro w'
       go_simp
       with_reducible rfl
     rotate_left
     · simp only [Act.put, zA, zB, zC, i64_w, i32_w]
       rfl
     refine pure_ (i := 4) (N := some 40) (v := ?_) (a' := ?_) #[true, false, false, false, true, false, false, false] rfl rfl (any_of HT_.out (by kernel_rfl)) (fun _ _ _ h => h) (Or.inl ⟨by rfl, ?_⟩) ?_ ?_
     rotate_left
     · intro w'
       go_simp
       with_reducible rfl
     rotate_left
     · simp only [Act.put, zA, zB, zC, i64_w, i32_w]
       rfl
     refine take_ (i := 1) (N := some 37) (v := ?_) (a' := ?_) #[true, true, false, false, true, false, false, false] rfl rfl (take_ofW HT_.out HW_.out (by kernel_rfl)) (fun _ _ _ h => h) (Or.inl ⟨by rfl, ?_⟩) hHeld ?_ ?_
     rotate_left
     · rintro w' ⟨s0, s1, s2, s3, s4⟩
       go_simp
       with_reducible rfl
     rotate_left
     · simp only [Act.put, zA, zB, zC, i64_w, i32_w]
       rfl
     refine pure_ (i := 2) (N := some 38) (v := ?_) (a' := ?_) #[true, true, true, false, true, false, false, false] rfl rfl (any_of HT_.out (by kernel_rfl)) (fun _ _ _ h => h) (Or.inl ⟨by rfl, ?_⟩) ?_ ?_
     rotate_left
     · intro w'
       go_simp
       with_reducible rfl
     rotate_left
     · simp only [Act.put, zA, zB, zC, i64_w, i32_w]
       rfl
     refine pure_ (i := 3) (N := some 39) (v := ?_) (a' := ?_) #[true, true, true, true, true, false, false, false] rfl rfl (any_of HT_.out (by kernel_rfl)) (fun _ _ _ h => h) (Or.inl ⟨by rfl, ?_⟩) ?_ ?_
     rotate_left
     · intro w'
       go_simp
       with_reducible rfl
     rotate_left
     · simp only [Act.put, zA, zB, zC, i64_w, i32_w]
       rfl
     refine pure_ (i := 6) (N := some 7) (v := ?_) (a' := ?_) #[true, true, true, true, true, false, true, false] rfl rfl (any_of HT_.out (by kernel_rfl)) (fun _ _ _ h => h) (Or.inl ⟨by rfl, ?_⟩) ?_ ?_
     rotate_left
     · intro w'
       go_simp
       with_reducible rfl
     rotate_left
     · simp only [Act.put, zA, zB, zC, i64_w, i32_w]
       rfl
     refine take_ (i := 5) (N := some 41) (v := ?_) (a' := ?_) #[true, true, true, true, true, true, true, false] rfl rfl (take_ofW HT_.out HW_.out (by kernel_rfl)) (fun _ _ _ h => h) (Or.inl ⟨by rfl, ?_⟩) hHeld ?_ ?_
     rotate_left
     · rintro w' ⟨s0, s1, s2, s3, s4⟩
       go_simp
       with_reducible rfl
     rotate_left
     · simp only [Act.put, zA, zB, zC, i64_w, i32_w]
       rfl
     refine pure_ (i := 7) (N := some 8) (v := ?_) (a' := ?_) #[true, true, true, true, true, true, true, true] rfl rfl (any_of HT_.out (by kernel_rfl)) (fun _ _ _ h => h) (Or.inl ⟨by rfl, ?_⟩) ?_ ?_
     rotate_left
     · intro w'
       go_simp
       with_reducible rfl
     rotate_left
     · simp only [Act.put, zA, zB, zC, i64_w, i32_w]
       rfl
     refine done_ (done_of HT_.out (by kernel_rfl)) ?_
     have hcz17_0 : w16.cell? ⟨gb983, 0, none⟩ = some (.int .i64 a2_0) := (pkC BK983.out 0).trans rfl
     have hcz17_1 : w16.cell? ⟨gb983, 1, none⟩ = some (.int .i64 a2_1) := (pkC BK983.out 1).trans rfl
     have hcz17_2 : w16.cell? ⟨gb983, 2, none⟩ = some (.bool a2_2) := (pkC BK983.out 2).trans rfl
     have hcz17_3 : w16.cell? ⟨gb983, 3, none⟩ = some (.slice A2_3 l2_3.length c2_3) := (pkC BK983.out 3).trans rfl
     have hcz17_4 : w16.cell? ⟨gb983, 4, none⟩ = some (.slice A2_4 l2_4.length c2_4) := (pkC BK983.out 4).trans rfl
     have hfz17_0 := pkF BK983.out 0
     have hfz17_1 := pkF BK983.out 1
     have hfz17_2 := pkF BK983.out 2
     have hfz17_3 := pkF BK983.out 3
     have hfz17_4 := pkF BK983.out 4
     go_upto_if 46 with (fail)
     go_cut [8] (fun v8 wc => ∃ (kq : Nat) (x8_14 : Int), v8 = .int .i64 x8_14 ∧ Aside0 (proof_Lacks.j1 kq a0 a1 ji14 x8_14 a2_0 a2_1 a2_2 l2_3 l2_4 = some r) ∧ Aside0 (kq ≤ kj3) ∧ Aside0 (wc.heap[gb983]? = some (.cells #[.int .i64 a2_0, .int .i64 a2_1, .bool a2_2, (.slice A2_3 l2_3.length c2_3), (.slice A2_4 l2_4.length c2_4)] 82 (0, 0))) ∧ Aside0 (Below w.heap.size w wc))
     case first =>
      have H := HC15.out
      clear HC15
      by_cases c18 : a2_1 < a2_0
      · rw [if_pos c18] at H
        have c18b0 : decide (a2_1 < a2_0) = true := decide_eq_true c18
        clear c18
        (first | rw [c18b0] | (simp only [i64_w, i32_w]; rw [c18b0]) | skip)
        have H' := Aside0.mk H
        clear H
        go_wp2
        go_meet
        case rel => exact ⟨_, (wrap64 (a2_1 + 1)), (by first | rfl | (simp; done) | (simp [*]; done)), H', ⟨by have := HJ3.out; first | omega | exact Nat.le_refl _⟩, ⟨by (with_reducible repeat (first | refine pkN ?_ _ | refine pkD ?_ | refine pkA ?_ _)); exact BK983.out⟩, ⟨by repeat (first | (with_reducible first | exact HB.out | apply pbA | apply pbN | apply pbD | refine pbS ?_ GE983.out) | exact HB.out)⟩⟩
      · rw [if_neg c18] at H
        have c18b0 : decide (a2_1 < a2_0) = false := decide_eq_false c18
        clear c18
        (first | rw [c18b0] | (simp only [i64_w, i32_w]; rw [c18b0]) | skip)
        have H' := Aside0.mk H
        clear H
        go_wp2
        go_meet
        case rel => exact ⟨_, (a2_1), (by first | rfl | (simp; done) | (simp [*]; done)), H', ⟨by have := HJ3.out; first | omega | exact Nat.le_refl _⟩, ⟨by (with_reducible repeat (first | refine pkN ?_ _ | refine pkD ?_ | refine pkA ?_ _)); exact BK983.out⟩, ⟨by repeat (first | (with_reducible first | exact HB.out | apply pbA | apply pbN | apply pbD | refine pbS ?_ GE983.out) | exact HB.out)⟩⟩
     case rest =>
      clear HC15
      try clear c1
      try clear c2
      try clear p2
      try clear c5
      try clear c6
      try clear p6
      try clear c8
      try clear c8b0
      try clear c10
      try clear c10b0
      try clear c13
      try clear c18
      try clear c18b0
      try clear hcz11_0
      try clear hcz11_1
      try clear hcz11_2
      try clear hcz11_3
      try clear hcz11_4
      try clear hcz12_0
      try clear hcz12_1
      try clear hcz12_2
      try clear hcz12_3
      try clear hcz12_4
      try clear hcz17_0
      try clear hcz17_1
      try clear hcz17_2
      try clear hcz17_3
      try clear hcz17_4
      try clear hcz7_0
      try clear hcz7_1
      try clear hcz7_2
      try clear hcz7_3
      try clear hcz7_4
      try clear hcz9_0
      try clear hcz9_1
      try clear hcz9_2
      try clear hcz9_3
      try clear hcz9_4
      try clear hfz11_0
      try clear hfz11_1
      try clear hfz11_2
      try clear hfz11_3
      try clear hfz11_4
      try clear hfz12_0
      try clear hfz12_1
      try clear hfz12_2
      try clear hfz12_3
      try clear hfz12_4
      try clear hfz17_0
      try clear hfz17_1
      try clear hfz17_2
      try clear hfz17_3
      try clear hfz17_4
      try clear hfz7_0
      try clear hfz7_1
      try clear hfz7_2
      try clear hfz7_3
      try clear hfz7_4
      try clear hfz9_0
      try clear hfz9_1
      try clear hfz9_2
      try clear hfz9_3
      try clear hfz9_4
      try clear p2
      obtain ⟨kq, x8_14, rfl, HA, HJ14, BK983, HB⟩ := hcut
      cases kq with
      | zero => exact absurd HA.out (by simp [proof_Lacks.j1])
      | succ kj14 =>
       have H := HA.out
       clear HA
       simp only [proof_Lacks.j1] at H
       by_cases c19 : (l2_3.length : Int) = (wrap64 (x8_14 - ji14))
       · rw [if_pos c19] at H
         have c19b0 : ((l2_3.length : Int) == (wrap64 (x8_14 - ji14))) = true := beq_iff_eq.mpr c19
         have c19b1 : ((l2_3.length : Int) != (wrap64 (x8_14 - ji14))) = false := bne_eq_false_iff_eq.mpr c19
         clear c19
         have H' := Aside0.mk H
         clear H
         have hcz20_0 : wc.cell? ⟨gb983, 0, none⟩ = some (.int .i64 a2_0) := (pkC BK983.out 0).trans rfl
         have hcz20_1 : wc.cell? ⟨gb983, 1, none⟩ = some (.int .i64 a2_1) := (pkC BK983.out 1).trans rfl
         have hcz20_2 : wc.cell? ⟨gb983, 2, none⟩ = some (.bool a2_2) := (pkC BK983.out 2).trans rfl
         have hcz20_3 : wc.cell? ⟨gb983, 3, none⟩ = some (.slice A2_3 l2_3.length c2_3) := (pkC BK983.out 3).trans rfl
         have hcz20_4 : wc.cell? ⟨gb983, 4, none⟩ = some (.slice A2_4 l2_4.length c2_4) := (pkC BK983.out 4).trans rfl
         have hfz20_0 := pkF BK983.out 0
         have hfz20_1 := pkF BK983.out 1
         have hfz20_2 := pkF BK983.out 2
         have hfz20_3 := pkF BK983.out 3
         have hfz20_4 := pkF BK983.out 4
         go_wp2
         go_loopg [59] kj14 (fun kq v59 w' => ∃ (x59_3 : Int), v59 = .int .i64 x59_3 ∧ Aside0 (proof_Lacks.l0 kq a0 a1 ji14 l2_3 (l2_3.length : Int) x59_3 a2_0 a2_1 a2_2 l2_3 l2_4 = some r) ∧ Aside0 (kq ≤ kj14) ∧ Aside0 (w'.heap[gb983]? = some (.cells #[.int .i64 a2_0, .int .i64 a2_1, .bool a2_2, (.slice A2_3 l2_3.length c2_3), (.slice A2_4 l2_4.length c2_4)] 82 (0, 0))) ∧ Aside0 (Below w.heap.size w w'))
         case atStart => exact ⟨(0), (by first | rfl | (simp; done) | (simp [*]; done)), H', ⟨Nat.le_refl _⟩, ⟨by (with_reducible repeat (first | refine pkN ?_ _ | refine pkD ?_ | refine pkA ?_ _)); exact BK983.out⟩, ⟨by repeat (first | (with_reducible first | exact HB.out | apply pbA | apply pbN | apply pbD | refine pbS ?_ GE983.out) | exact HB.out)⟩⟩
         case round =>
          clear H'
          try clear c1
          try clear c2
          try clear p2
          try clear c5
          try clear c6
          try clear p6
          try clear c8
          try clear c8b0
          try clear c10
          try clear c10b0
          try clear c13
          try clear c18
          try clear c18b0
          try clear c19
          try clear c19b0
          try clear c19b1
          try clear hcz11_0
          try clear hcz11_1
          try clear hcz11_2
          try clear hcz11_3
          try clear hcz11_4
          try clear hcz12_0
          try clear hcz12_1
          try clear hcz12_2
          try clear hcz12_3
          try clear hcz12_4
          try clear hcz17_0
          try clear hcz17_1
          try clear hcz17_2
          try clear hcz17_3
          try clear hcz17_4
          try clear hcz20_0
          try clear hcz20_1
          try clear hcz20_2
          try clear hcz20_3
          try clear hcz20_4
          try clear hcz7_0
          try clear hcz7_1
          try clear hcz7_2
          try clear hcz7_3
          try clear hcz7_4
          try clear hcz9_0
          try clear hcz9_1
          try clear hcz9_2
          try clear hcz9_3
          try clear hcz9_4
          try clear hfz11_0
          try clear hfz11_1
          try clear hfz11_2
          try clear hfz11_3
          try clear hfz11_4
          try clear hfz12_0
          try clear hfz12_1
          try clear hfz12_2
          try clear hfz12_3
          try clear hfz12_4
          try clear hfz17_0
          try clear hfz17_1
          try clear hfz17_2
          try clear hfz17_3
          try clear hfz17_4
          try clear hfz20_0
          try clear hfz20_1
          try clear hfz20_2
          try clear hfz20_3
          try clear hfz20_4
          try clear hfz7_0
          try clear hfz7_1
          try clear hfz7_2
          try clear hfz7_3
          try clear hfz7_4
          try clear hfz9_0
          try clear hfz9_1
          try clear hfz9_2
          try clear hfz9_3
          try clear hfz9_4
          try clear p2
          try clear p6
          obtain ⟨x59_3, rfl, HA, HK3, BK983, HB⟩ := hrel
          cases gk with
          | zero => exact absurd HA.out (by simp [proof_Lacks.l0])
          | succ k3 =>
           have H := HA.out
           clear HA
           simp only [proof_Lacks.l0] at H
           by_cases c21 : x59_3 < (l2_3.length : Int)
           · rw [if_pos c21] at H
             have c21b0 : decide (x59_3 < (l2_3.length : Int)) = true := decide_eq_true c21
             clear c21
             by_cases c22 : 0 ≤ x59_3
             · rw [if_pos c22] at H
               have c22b0 : decide (0 ≤ x59_3) = true := decide_eq_true c22
               clear c22
               by_cases c23 : x59_3 < (l2_3.length : Int)
               · rw [if_pos c23] at H
                 have c23b0 : decide (x59_3 < (l2_3.length : Int)) = true := decide_eq_true c23
                 clear c23
                 by_cases c24 : ((decide ((wrap64 (ji14 + x59_3)) < a2_1)) != (Op.bytesLess (((rd_T86 l2_3 x59_3).f0).toList) a1.toList)) = true
                 · rw [if_pos c24] at H
                   have c24b0 : ((decide ((wrap64 (ji14 + x59_3)) < a2_1)) != (Op.bytesLess (((rd_T86 l2_3 x59_3).f0).toList) a1.toList)) = true := c24
                   (try (have c24b1 : decide ((decide ((wrap64 (ji14 + x59_3)) < a2_1)) = (Op.bytesLess (((rd_T86 l2_3 x59_3).f0).toList) a1.toList)) = false := by simpa using c24))
                   (try (have c24b2 : ((decide ((wrap64 (ji14 + x59_3)) < a2_1)) == (Op.bytesLess (((rd_T86 l2_3 x59_3).f0).toList) a1.toList)) = false := by simpa using c24))
                   (try (have c24b3 : ¬ ((decide ((wrap64 (ji14 + x59_3)) < a2_1)) = (Op.bytesLess (((rd_T86 l2_3 x59_3).f0).toList) a1.toList)) := by simpa using c24))
                   clear c24
                   obtain rfl := Option.some.inj H
                   have p984 : 0 ≤ (x59_3 : Int) := of_decide_eq_true (by first | (with_reducible assumption) | assumption)
                   have q984 : x59_3 < (l2_3.length : Int) := of_decide_eq_true (by first | (with_reducible assumption) | assumption)
                   obtain ⟨ad984, e984, hx984_0, hx984_1⟩ := at_T86 HR2_3.out x59_3 p984 q984
                   cases e984
                   replace hx984_0 := (HB.out.cell (World.block_lt_of_cell? w _ hx984_0)).trans hx984_0
                   replace hx984_1 := (HB.out.cell (World.block_lt_of_cell? w _ hx984_1)).trans hx984_1
                   replace p984 := eq_true p984
                   replace q984 := eq_true q984
                   try go_wp2_with (first | ((with_reducible refine gate_dst (N := 10) rfl ?_); refine box_event ?hg (N := 10) ?hd (cs := #[.string (⟨#[]⟩ : ByteArray), .string (⟨#[]⟩ : ByteArray)]) (t := 86) ?hr ?_; (case hd => rfl); (case hg => rfl); (case hr => first | (go_simp; done) | (go_simp; rfl)); intro gb985 hg w25 hbox hb; have n0_ := Aside0.mk (blk_below (g := gb983) (o := .cells #[.int .i64 a2_0, .int .i64 a2_1, .bool a2_2, .slice (some ad984) l2_3.length c2_3, .slice A2_4 l2_4.length c2_4] 82 (0, 0)) (by (with_reducible repeat (first | refine pkN ?_ _ | refine pkD ?_ | refine pkA ?_ _)); exact BK983.out) hb); have n1_ := Aside0.mk (below_step (by repeat (first | (with_reducible first | exact HB.out | apply pbA | apply pbN | apply pbD | refine pbS ?_ GE983.out) | exact HB.out)) hb); have n2_ := Aside0.mk (hbox); have n3_ := Aside0.mk ((by rw [hg]; exact (below_size (by repeat (first | (with_reducible first | exact HB.out | apply pbA | apply pbN | apply pbD | refine pbS ?_ GE983.out) | exact HB.out))) : w.heap.size ≤ gb985)); have n4_ := Aside0.mk ((by rw [hg]; exact (below_size (by repeat (first | (with_reducible first | exact HB.out | apply pbA | apply pbN | apply pbD | refine pbS ?_ GE983.out) | exact HB.out))) : w.heap.size ≤ gb985)); have n5_ := Aside0.mk ((by rw [hg]; exact Nat.ne_of_lt (blk_lt (g := gb983) (o := .cells #[.int .i64 a2_0, .int .i64 a2_1, .bool a2_2, .slice (some ad984) l2_3.length c2_3, .slice A2_4 l2_4.length c2_4] 82 (0, 0)) (by (with_reducible repeat (first | refine pkN ?_ _ | refine pkD ?_ | refine pkA ?_ _)); exact BK983.out)) : gb983 ≠ gb985)); have n6_ := Aside0.mk ((by rw [hg]; exact Nat.ne_of_gt (blk_lt (g := gb983) (o := .cells #[.int .i64 a2_0, .int .i64 a2_1, .bool a2_2, .slice (some ad984) l2_3.length c2_3, .slice A2_4 l2_4.length c2_4] 82 (0, 0)) (by (with_reducible repeat (first | refine pkN ?_ _ | refine pkD ?_ | refine pkA ?_ _)); exact BK983.out)) : gb985 ≠ gb983)); clear BK983; clear HB; have BK983 := n0_; have HB := n1_; have BK985 := n2_; have GW985 := n3_; have GE985 := n4_; have NB983_985 := n5_; have NB985_983 := n6_; clear n0_ n1_ n2_ n3_ n4_ n5_ n6_; clear hb hbox hg; have hnb26 := NB985_983.out; have hnc26 := NB983_985.out; have hcz27_0 : w25.cell? ⟨gb985, 0, none⟩ = some (.string (⟨#[]⟩ : ByteArray)) := (pkC BK985.out 0).trans rfl; have hcz27_1 : w25.cell? ⟨gb985, 1, none⟩ = some (.string (⟨#[]⟩ : ByteArray)) := (pkC BK985.out 1).trans rfl; have hfz27_0 := pkF BK985.out 0; have hfz27_1 := pkF BK985.out 1; have hcz28_0 : w25.cell? ⟨gb983, 0, none⟩ = some (.int .i64 a2_0) := (pkC BK983.out 0).trans rfl; have hcz28_1 : w25.cell? ⟨gb983, 1, none⟩ = some (.int .i64 a2_1) := (pkC BK983.out 1).trans rfl; have hcz28_2 : w25.cell? ⟨gb983, 2, none⟩ = some (.bool a2_2) := (pkC BK983.out 2).trans rfl; have hcz28_3 : w25.cell? ⟨gb983, 3, none⟩ = some (.slice (some ad984) l2_3.length c2_3) := (pkC BK983.out 3).trans rfl; have hcz28_4 : w25.cell? ⟨gb983, 4, none⟩ = some (.slice A2_4 l2_4.length c2_4) := (pkC BK983.out 4).trans rfl; have hfz28_0 := pkF BK983.out 0; have hfz28_1 := pkF BK983.out 1; have hfz28_2 := pkF BK983.out 2; have hfz28_3 := pkF BK983.out 3; have hfz28_4 := pkF BK983.out 4))
                   have n0_ : Aside0 (((w25.setCell ⟨gb985, 0, none⟩ (.string ((rd_T86 l2_3 x59_3).f0))).setCell ⟨gb985, 1, none⟩ (.string ((rd_T86 l2_3 x59_3).f1))).heap[gb983]? = some (.cells #[.int .i64 a2_0, .int .i64 a2_1, .bool a2_2, .slice (some ad984) l2_3.length c2_3, .slice A2_4 l2_4.length c2_4] 82 (0, 0))) := ⟨by (with_reducible repeat (first | refine pkN ?_ _ | refine pkD ?_ | refine pkA ?_ _)); refine blk_far ?_ NB983_985.out _; (with_reducible repeat (first | refine pkN ?_ _ | refine pkD ?_ | refine pkA ?_ _)); refine blk_far ?_ NB983_985.out _; (with_reducible repeat (first | refine pkN ?_ _ | refine pkD ?_ | refine pkA ?_ _)); exact BK983.out⟩
                   have n1_ : Aside0 (((w25.setCell ⟨gb985, 0, none⟩ (.string ((rd_T86 l2_3 x59_3).f0))).setCell ⟨gb985, 1, none⟩ (.string ((rd_T86 l2_3 x59_3).f1))).heap[gb985]? = some (.cells #[.string ((rd_T86 l2_3 x59_3).f0), .string ((rd_T86 l2_3 x59_3).f1)] 86 (0, 0))) := ⟨by (with_reducible repeat (first | refine pkN ?_ _ | refine pkD ?_ | refine pkA ?_ _)); refine blk_put (cs := #[.string ((rd_T86 l2_3 x59_3).f0), .string (⟨#[]⟩ : ByteArray)]) ?_ 1 _ rfl; (with_reducible repeat (first | refine pkN ?_ _ | refine pkD ?_ | refine pkA ?_ _)); refine blk_put (cs := #[.string (⟨#[]⟩ : ByteArray), .string (⟨#[]⟩ : ByteArray)]) ?_ 0 _ rfl; (with_reducible repeat (first | refine pkN ?_ _ | refine pkD ?_ | refine pkA ?_ _)); exact BK985.out⟩
                   have n2_ : Aside0 (Below w.heap.size w ((w25.setCell ⟨gb985, 0, none⟩ (.string ((rd_T86 l2_3 x59_3).f0))).setCell ⟨gb985, 1, none⟩ (.string ((rd_T86 l2_3 x59_3).f1)))) := ⟨by repeat (first | (with_reducible first | exact HB.out | apply pbA | apply pbN | apply pbD | refine pbS ?_ GE983.out | refine pbS ?_ GE985.out) | exact HB.out)⟩
                   (try clear BK983)
                   (try clear BK985)
                   (try clear HB)
                   generalize ((w25.setCell ⟨gb985, 0, none⟩ (.string ((rd_T86 l2_3 x59_3).f0))).setCell ⟨gb985, 1, none⟩ (.string ((rd_T86 l2_3 x59_3).f1))) = w29 at n0_ n1_ n2_ ⊢
                   have BK983 := n0_
                   have BK985 := n1_
                   have HB := n2_
                   clear n0_ n1_ n2_
                   have n0_ := Aside0.mk (pkD BK983.out)
                   have n1_ := Aside0.mk (pkD BK985.out)
                   have n2_ := Aside0.mk (pbD HB.out)
                   clear BK983
                   clear BK985
                   clear HB
                   have BK983 := n0_
                   have BK985 := n1_
                   have HB := n2_
                   clear n0_ n1_ n2_
                   refine start_ (n := 26) (S := fun w' => w'.cell? ⟨gb985, 0, none⟩ = some (.string ((rd_T86 l2_3 x59_3).f0)) ∧ w'.cell? ⟨gb985, 1, none⟩ = some (.string ((rd_T86 l2_3 x59_3).f1))) (ds := []) #[false, false, false, false, false, false, false, false, false, false, false, false, false, false, false, false, false, false, false, false, false, false, false, false, false, false] (by kernel_rfl) rfl rfl ⟨(pkC BK985.out 0).trans rfl, (pkC BK985.out 1).trans rfl⟩ (fun hHeld => ?_); refine with_tabW proof_Lacks.tab13 proof_Lacks.bits13 (fun HT_ HW_ => ?_)
                   generalize w29.drew = w30 at BK983 BK985 HB hHeld ⊢
                   refine pure_ (i := 0) (N := some 71) (v := ?_) (a' := ?_) #[true, false, false, false, false, false, false, false, false, false, false, false, false, false, false, false, false, false, false, false, false, false, false, false, false, false] rfl rfl (any_of HT_.out (by kernel_rfl)) (fun _ _ _ h => h) (Or.inl ⟨by rfl, ?_⟩) ?_ ?_
                   rotate_left
                   · intro w'
                     go_simp
                     with_reducible rfl
                   rotate_left
                   · simp only [Act.put, zA, zB, zC, i64_w, i32_w]
                     rfl
                   refine pure_ (i := 1) (N := some 72) (v := ?_) (a' := ?_) #[true, true, false, false, false, false, false, false, false, false, false, false, false, false, false, false, false, false, false, false, false, false, false, false, false, false] rfl rfl (any_of HT_.out (by kernel_rfl)) (fun _ _ _ h => h) (Or.inl ⟨by rfl, ?_⟩) ?_ ?_
                   rotate_left
                   · intro w'
                     go_simp
                     with_reducible rfl
                   rotate_left
                   · simp only [Act.put, zA, zB, zC, i64_w, i32_w]
                     rfl
                   refine pure_ (i := 3) (N := some 74) (v := ?_) (a' := ?_) #[true, true, false, true, false, false, false, false, false, false, false, false, false, false, false, false, false, false, false, false, false, false, false, false, false, false] rfl rfl (any_of HT_.out (by kernel_rfl)) (fun _ _ _ h => h) (Or.inl ⟨by rfl, ?_⟩) ?_ ?_
                   rotate_left
                   · intro w'
                     go_simp
                     with_reducible rfl
                   rotate_left
                   · simp only [Act.put, zA, zB, zC, i64_w, i32_w]
                     rfl
                   refine take_ (i := 2) (N := some 73) (v := ?_) (a' := ?_) #[true, true, true, true, false, false, false, false, false, false, false, false, false, false, false, false, false, false, false, false, false, false, false, false, false, false] rfl rfl (take_ofW HT_.out HW_.out (by kernel_rfl)) (fun _ _ _ h => h) (Or.inl ⟨by rfl, ?_⟩) hHeld ?_ ?_
                   rotate_left
                   · rintro w' ⟨s0, s1⟩
                     go_simp
                     with_reducible rfl
                   rotate_left
                   · simp only [Act.put, zA, zB, zC, i64_w, i32_w]
                     rfl
                   refine pure_ (i := 4) (N := some 75) (v := ?_) (a' := ?_) #[true, true, true, true, true, false, false, false, false, false, false, false, false, false, false, false, false, false, false, false, false, false, false, false, false, false] rfl rfl (any_of HT_.out (by kernel_rfl)) (fun _ _ _ h => h) (Or.inl ⟨by rfl, ?_⟩) ?_ ?_
                   rotate_left
                   · intro w'
                     go_simp
                     with_reducible rfl
                   rotate_left
                   · simp only [Act.put, zA, zB, zC, i64_w, i32_w]
                     rfl
                   refine pure_ (i := 5) (N := some 76) (v := ?_) (a' := ?_) #[true, true, true, true, true, true, false, false, false, false, false, false, false, false, false, false, false, false, false, false, false, false, false, false, false, false] rfl rfl (any_of HT_.out (by kernel_rfl)) (fun _ _ _ h => h) (Or.inl ⟨by rfl, ?_⟩) ?_ ?_
                   rotate_left
                   · intro w'
                     go_simp
                     with_reducible rfl
                   rotate_left
                   · simp only [Act.put, zA, zB, zC, i64_w, i32_w]
                     rfl
                   refine pure_ (i := 6) (N := some 77) (v := ?_) (a' := ?_) #[true, true, true, true, true, true, true, false, false, false, false, false, false, false, false, false, false, false, false, false, false, false, false, false, false, false] rfl rfl (any_of HT_.out (by kernel_rfl)) (fun _ _ _ h => h) (Or.inl ⟨by rfl, ?_⟩) ?_ ?_
                   rotate_left
                   · intro w'
                     go_simp
                     with_reducible rfl
                   rotate_left
                   · simp only [Act.put, zA, zB, zC, i64_w, i32_w]
                     rfl
                   refine pure_ (i := 7) (N := some 78) (v := undef) (a' := ?_) #[true, true, true, true, true, true, true, true, false, false, false, false, false, false, false, false, false, false, false, false, false, false, false, false, false, false] rfl rfl (any_of HT_.out (by kernel_rfl)) (fun _ _ _ h => h) (Or.inr ⟨by rfl, rfl⟩) ?_ ?_
                   rotate_left
                   · simp only [Act.put, zA, zB, zC, i64_w, i32_w]
                     rfl
                   refine pure_ (i := 8) (N := some 79) (v := undef) (a' := ?_) #[true, true, true, true, true, true, true, true, true, false, false, false, false, false, false, false, false, false, false, false, false, false, false, false, false, false] rfl rfl (any_of HT_.out (by kernel_rfl)) (fun _ _ _ h => h) (Or.inr ⟨by rfl, rfl⟩) ?_ ?_
                   rotate_left
                   · simp only [Act.put, zA, zB, zC, i64_w, i32_w]
                     rfl
                   refine pure_ (i := 9) (N := some 80) (v := undef) (a' := ?_) #[true, true, true, true, true, true, true, true, true, true, false, false, false, false, false, false, false, false, false, false, false, false, false, false, false, false] rfl rfl (any_of HT_.out (by kernel_rfl)) (fun _ _ _ h => h) (Or.inr ⟨by rfl, rfl⟩) ?_ ?_
                   rotate_left
                   · simp only [Act.put, zA, zB, zC, i64_w, i32_w]
                     rfl
                   refine pure_ (i := 10) (N := some 81) (v := undef) (a' := ?_) #[true, true, true, true, true, true, true, true, true, true, true, false, false, false, false, false, false, false, false, false, false, false, false, false, false, false] rfl rfl (any_of HT_.out (by kernel_rfl)) (fun _ _ _ h => h) (Or.inr ⟨by rfl, rfl⟩) ?_ ?_
                   rotate_left
                   · simp only [Act.put, zA, zB, zC, i64_w, i32_w]
                     rfl
                   refine pure_ (i := 11) (N := some 82) (v := ?_) (a' := ?_) #[true, true, true, true, true, true, true, true, true, true, true, true, false, false, false, false, false, false, false, false, false, false, false, false, false, false] rfl rfl (any_of HT_.out (by kernel_rfl)) (fun _ _ _ h => h) (Or.inl ⟨by rfl, ?_⟩) ?_ ?_
                   rotate_left
                   · intro w'
                     go_simp
                     with_reducible rfl
                   rotate_left
                   · simp only [Act.put, zA, zB, zC, i64_w, i32_w]
                     rfl
                   refine pure_ (i := 12) (N := some 83) (v := ?_) (a' := ?_) #[true, true, true, true, true, true, true, true, true, true, true, true, true, false, false, false, false, false, false, false, false, false, false, false, false, false] rfl rfl (any_of HT_.out (by kernel_rfl)) (fun _ _ _ h => h) (Or.inl ⟨by rfl, ?_⟩) ?_ ?_
                   rotate_left
                   · intro w'
                     go_simp
                     with_reducible rfl
                   rotate_left
                   · simp only [Act.put, zA, zB, zC, i64_w, i32_w]
                     rfl
                   refine pure_ (i := 13) (N := some 84) (v := undef) (a' := ?_) #[true, true, true, true, true, true, true, true, true, true, true, true, true, true, false, false, false, false, false, false, false, false, false, false, false, false] rfl rfl (any_of HT_.out (by kernel_rfl)) (fun _ _ _ h => h) (Or.inr ⟨by rfl, rfl⟩) ?_ ?_
                   rotate_left
                   · simp only [Act.put, zA, zB, zC, i64_w, i32_w]
                     rfl
                   refine pure_ (i := 14) (N := some 85) (v := undef) (a' := ?_) #[true, true, true, true, true, true, true, true, true, true, true, true, true, true, true, false, false, false, false, false, false, false, false, false, false, false] rfl rfl (any_of HT_.out (by kernel_rfl)) (fun _ _ _ h => h) (Or.inr ⟨by rfl, rfl⟩) ?_ ?_
                   rotate_left
                   · simp only [Act.put, zA, zB, zC, i64_w, i32_w]
                     rfl
                   refine pure_ (i := 15) (N := some 86) (v := undef) (a' := ?_) #[true, true, true, true, true, true, true, true, true, true, true, true, true, true, true, true, false, false, false, false, false, false, false, false, false, false] rfl rfl (any_of HT_.out (by kernel_rfl)) (fun _ _ _ h => h) (Or.inr ⟨by rfl, rfl⟩) ?_ ?_
                   rotate_left
                   · simp only [Act.put, zA, zB, zC, i64_w, i32_w]
                     rfl
                   refine pure_ (i := 16) (N := some 87) (v := undef) (a' := ?_) #[true, true, true, true, true, true, true, true, true, true, true, true, true, true, true, true, true, false, false, false, false, false, false, false, false, false] rfl rfl (any_of HT_.out (by kernel_rfl)) (fun _ _ _ h => h) (Or.inr ⟨by rfl, rfl⟩) ?_ ?_
                   rotate_left
                   · simp only [Act.put, zA, zB, zC, i64_w, i32_w]
                     rfl
                   refine pure_ (i := 17) (N := some 88) (v := undef) (a' := ?_) #[true, true, true, true, true, true, true, true, true, true, true, true, true, true, true, true, true, true, false, false, false, false, false, false, false, false] rfl rfl (any_of HT_.out (by kernel_rfl)) (fun _ _ _ h => h) (Or.inr ⟨by rfl, rfl⟩) ?_ ?_
                   rotate_left
                   · simp only [Act.put, zA, zB, zC, i64_w, i32_w]
                     rfl
                   refine pure_ (i := 18) (N := some 89) (v := undef) (a' := ?_) #[true, true, true, true, true, true, true, true, true, true, true, true, true, true, true, true, true, true, true, false, false, false, false, false, false, false] rfl rfl (any_of HT_.out (by kernel_rfl)) (fun _ _ _ h => h) (Or.inr ⟨by rfl, rfl⟩) ?_ ?_
                   rotate_left
                   · simp only [Act.put, zA, zB, zC, i64_w, i32_w]
                     rfl
                   refine pure_ (i := 19) (N := some 90) (v := undef) (a' := ?_) #[true, true, true, true, true, true, true, true, true, true, true, true, true, true, true, true, true, true, true, true, false, false, false, false, false, false] rfl rfl (any_of HT_.out (by kernel_rfl)) (fun _ _ _ h => h) (Or.inr ⟨by rfl, rfl⟩) ?_ ?_
                   rotate_left
                   · simp only [Act.put, zA, zB, zC, i64_w, i32_w]
                     rfl
                   refine pure_ (i := 20) (N := some 91) (v := undef) (a' := ?_) #[true, true, true, true, true, true, true, true, true, true, true, true, true, true, true, true, true, true, true, true, true, false, false, false, false, false] rfl rfl (any_of HT_.out (by kernel_rfl)) (fun _ _ _ h => h) (Or.inr ⟨by rfl, rfl⟩) ?_ ?_
                   rotate_left
                   · simp only [Act.put, zA, zB, zC, i64_w, i32_w]
                     rfl
                   refine pure_ (i := 21) (N := some 92) (v := undef) (a' := ?_) #[true, true, true, true, true, true, true, true, true, true, true, true, true, true, true, true, true, true, true, true, true, true, false, false, false, false] rfl rfl (any_of HT_.out (by kernel_rfl)) (fun _ _ _ h => h) (Or.inr ⟨by rfl, rfl⟩) ?_ ?_
                   rotate_left
                   · simp only [Act.put, zA, zB, zC, i64_w, i32_w]
                     rfl
                   refine pure_ (i := 22) (N := some 93) (v := undef) (a' := ?_) #[true, true, true, true, true, true, true, true, true, true, true, true, true, true, true, true, true, true, true, true, true, true, true, false, false, false] rfl rfl (any_of HT_.out (by kernel_rfl)) (fun _ _ _ h => h) (Or.inr ⟨by rfl, rfl⟩) ?_ ?_
                   rotate_left
                   · simp only [Act.put, zA, zB, zC, i64_w, i32_w]
                     rfl
                   refine pure_ (i := 23) (N := some 94) (v := undef) (a' := ?_) #[true, true, true, true, true, true, true, true, true, true, true, true, true, true, true, true, true, true, true, true, true, true, true, true, false, false] rfl rfl (any_of HT_.out (by kernel_rfl)) (fun _ _ _ h => h) (Or.inr ⟨by rfl, rfl⟩) ?_ ?_
                   rotate_left
                   · simp only [Act.put, zA, zB, zC, i64_w, i32_w]
                     rfl
                   refine pure_ (i := 24) (N := some 95) (v := undef) (a' := ?_) #[true, true, true, true, true, true, true, true, true, true, true, true, true, true, true, true, true, true, true, true, true, true, true, true, true, false] rfl rfl (any_of HT_.out (by kernel_rfl)) (fun _ _ _ h => h) (Or.inr ⟨by rfl, rfl⟩) ?_ ?_
                   rotate_left
                   · simp only [Act.put, zA, zB, zC, i64_w, i32_w]
                     rfl
                   refine pure_ (i := 25) (N := some 96) (v := ?_) (a' := ?_) #[true, true, true, true, true, true, true, true, true, true, true, true, true, true, true, true, true, true, true, true, true, true, true, true, true, true] rfl rfl (any_of HT_.out (by kernel_rfl)) (fun _ _ _ h => h) (Or.inl ⟨by rfl, ?_⟩) ?_ ?_
                   rotate_left
                   · intro w'
                     go_simp
                     with_reducible rfl
                   rotate_left
                   · simp only [Act.put, zA, zB, zC, i64_w, i32_w]
                     rfl
                   refine done_ (done_of HT_.out (by kernel_rfl)) ?_
                   try go_wp2
                   go_ret
                   exact ⟨by first | rfl | (simp [errW_none, errW_some] <;> rfl) | (simp only [← hji14]; first | rfl | (simp [errW_none, errW_some] <;> rfl)) | (simp [*, errW_none, errW_some] <;> rfl), by repeat (first | (with_reducible first | exact HB.out | apply pbA | apply pbN | apply pbD | refine pbS ?_ GE983.out | refine pbS ?_ GE985.out) | exact HB.out)⟩
                 · rw [if_neg c24] at H
                   have c24b0 : ((decide ((wrap64 (ji14 + x59_3)) < a2_1)) != (Op.bytesLess (((rd_T86 l2_3 x59_3).f0).toList) a1.toList)) = false := by simpa using c24
                   (try (have c24b1 : decide ((decide ((wrap64 (ji14 + x59_3)) < a2_1)) = (Op.bytesLess (((rd_T86 l2_3 x59_3).f0).toList) a1.toList)) = true := by simpa using c24))
                   (try (have c24b2 : ((decide ((wrap64 (ji14 + x59_3)) < a2_1)) == (Op.bytesLess (((rd_T86 l2_3 x59_3).f0).toList) a1.toList)) = true := by simpa using c24))
                   clear c24
                   by_cases c31 : ((rd_T86 l2_3 x59_3).f0).toList = a1.toList
                   · rw [if_pos c31] at H
                     have c31b0 : (((rd_T86 l2_3 x59_3).f0).toList == a1.toList) = true := beq_iff_eq.mpr c31
                     have c31b1 : (((rd_T86 l2_3 x59_3).f0).toList != a1.toList) = false := bne_eq_false_iff_eq.mpr c31
                     clear c31
                     obtain rfl := Option.some.inj H
                     have p984 : 0 ≤ (x59_3 : Int) := of_decide_eq_true (by first | (with_reducible assumption) | assumption)
                     have q984 : x59_3 < (l2_3.length : Int) := of_decide_eq_true (by first | (with_reducible assumption) | assumption)
                     obtain ⟨ad984, e984, hx984_0, hx984_1⟩ := at_T86 HR2_3.out x59_3 p984 q984
                     cases e984
                     replace hx984_0 := (HB.out.cell (World.block_lt_of_cell? w _ hx984_0)).trans hx984_0
                     replace hx984_1 := (HB.out.cell (World.block_lt_of_cell? w _ hx984_1)).trans hx984_1
                     replace p984 := eq_true p984
                     replace q984 := eq_true q984
                     try go_wp2_with (first | ((with_reducible refine gate_dst (N := 10) rfl ?_); refine box_event ?hg (N := 10) ?hd (cs := #[.string (⟨#[]⟩ : ByteArray), .string (⟨#[]⟩ : ByteArray)]) (t := 86) ?hr ?_; (case hd => rfl); (case hg => rfl); (case hr => first | (go_simp; done) | (go_simp; rfl)); intro gb985 hg w32 hbox hb; have n0_ := Aside0.mk (blk_below (g := gb983) (o := .cells #[.int .i64 a2_0, .int .i64 a2_1, .bool a2_2, .slice (some ad984) l2_3.length c2_3, .slice A2_4 l2_4.length c2_4] 82 (0, 0)) (by (with_reducible repeat (first | refine pkN ?_ _ | refine pkD ?_ | refine pkA ?_ _)); exact BK983.out) hb); have n1_ := Aside0.mk (below_step (by repeat (first | (with_reducible first | exact HB.out | apply pbA | apply pbN | apply pbD | refine pbS ?_ GE983.out) | exact HB.out)) hb); have n2_ := Aside0.mk (hbox); have n3_ := Aside0.mk ((by rw [hg]; exact (below_size (by repeat (first | (with_reducible first | exact HB.out | apply pbA | apply pbN | apply pbD | refine pbS ?_ GE983.out) | exact HB.out))) : w.heap.size ≤ gb985)); have n4_ := Aside0.mk ((by rw [hg]; exact (below_size (by repeat (first | (with_reducible first | exact HB.out | apply pbA | apply pbN | apply pbD | refine pbS ?_ GE983.out) | exact HB.out))) : w.heap.size ≤ gb985)); have n5_ := Aside0.mk ((by rw [hg]; exact Nat.ne_of_lt (blk_lt (g := gb983) (o := .cells #[.int .i64 a2_0, .int .i64 a2_1, .bool a2_2, .slice (some ad984) l2_3.length c2_3, .slice A2_4 l2_4.length c2_4] 82 (0, 0)) (by (with_reducible repeat (first | refine pkN ?_ _ | refine pkD ?_ | refine pkA ?_ _)); exact BK983.out)) : gb983 ≠ gb985)); have n6_ := Aside0.mk ((by rw [hg]; exact Nat.ne_of_gt (blk_lt (g := gb983) (o := .cells #[.int .i64 a2_0, .int .i64 a2_1, .bool a2_2, .slice (some ad984) l2_3.length c2_3, .slice A2_4 l2_4.length c2_4] 82 (0, 0)) (by (with_reducible repeat (first | refine pkN ?_ _ | refine pkD ?_ | refine pkA ?_ _)); exact BK983.out)) : gb985 ≠ gb983)); clear BK983; clear HB; have BK983 := n0_; have HB := n1_; have BK985 := n2_; have GW985 := n3_; have GE985 := n4_; have NB983_985 := n5_; have NB985_983 := n6_; clear n0_ n1_ n2_ n3_ n4_ n5_ n6_; clear hb hbox hg; have hnb33 := NB985_983.out; have hnc33 := NB983_985.out; have hcz34_0 : w32.cell? ⟨gb985, 0, none⟩ = some (.string (⟨#[]⟩ : ByteArray)) := (pkC BK985.out 0).trans rfl; have hcz34_1 : w32.cell? ⟨gb985, 1, none⟩ = some (.string (⟨#[]⟩ : ByteArray)) := (pkC BK985.out 1).trans rfl; have hfz34_0 := pkF BK985.out 0; have hfz34_1 := pkF BK985.out 1; have hcz35_0 : w32.cell? ⟨gb983, 0, none⟩ = some (.int .i64 a2_0) := (pkC BK983.out 0).trans rfl; have hcz35_1 : w32.cell? ⟨gb983, 1, none⟩ = some (.int .i64 a2_1) := (pkC BK983.out 1).trans rfl; have hcz35_2 : w32.cell? ⟨gb983, 2, none⟩ = some (.bool a2_2) := (pkC BK983.out 2).trans rfl; have hcz35_3 : w32.cell? ⟨gb983, 3, none⟩ = some (.slice (some ad984) l2_3.length c2_3) := (pkC BK983.out 3).trans rfl; have hcz35_4 : w32.cell? ⟨gb983, 4, none⟩ = some (.slice A2_4 l2_4.length c2_4) := (pkC BK983.out 4).trans rfl; have hfz35_0 := pkF BK983.out 0; have hfz35_1 := pkF BK983.out 1; have hfz35_2 := pkF BK983.out 2; have hfz35_3 := pkF BK983.out 3; have hfz35_4 := pkF BK983.out 4))
                     have n0_ : Aside0 (((w32.setCell ⟨gb985, 0, none⟩ (.string ((rd_T86 l2_3 x59_3).f0))).setCell ⟨gb985, 1, none⟩ (.string ((rd_T86 l2_3 x59_3).f1))).heap[gb983]? = some (.cells #[.int .i64 a2_0, .int .i64 a2_1, .bool a2_2, .slice (some ad984) l2_3.length c2_3, .slice A2_4 l2_4.length c2_4] 82 (0, 0))) := ⟨by (with_reducible repeat (first | refine pkN ?_ _ | refine pkD ?_ | refine pkA ?_ _)); refine blk_far ?_ NB983_985.out _; (with_reducible repeat (first | refine pkN ?_ _ | refine pkD ?_ | refine pkA ?_ _)); refine blk_far ?_ NB983_985.out _; (with_reducible repeat (first | refine pkN ?_ _ | refine pkD ?_ | refine pkA ?_ _)); exact BK983.out⟩
                     have n1_ : Aside0 (((w32.setCell ⟨gb985, 0, none⟩ (.string ((rd_T86 l2_3 x59_3).f0))).setCell ⟨gb985, 1, none⟩ (.string ((rd_T86 l2_3 x59_3).f1))).heap[gb985]? = some (.cells #[.string ((rd_T86 l2_3 x59_3).f0), .string ((rd_T86 l2_3 x59_3).f1)] 86 (0, 0))) := ⟨by (with_reducible repeat (first | refine pkN ?_ _ | refine pkD ?_ | refine pkA ?_ _)); refine blk_put (cs := #[.string ((rd_T86 l2_3 x59_3).f0), .string (⟨#[]⟩ : ByteArray)]) ?_ 1 _ rfl; (with_reducible repeat (first | refine pkN ?_ _ | refine pkD ?_ | refine pkA ?_ _)); refine blk_put (cs := #[.string (⟨#[]⟩ : ByteArray), .string (⟨#[]⟩ : ByteArray)]) ?_ 0 _ rfl; (with_reducible repeat (first | refine pkN ?_ _ | refine pkD ?_ | refine pkA ?_ _)); exact BK985.out⟩
                     have n2_ : Aside0 (Below w.heap.size w ((w32.setCell ⟨gb985, 0, none⟩ (.string ((rd_T86 l2_3 x59_3).f0))).setCell ⟨gb985, 1, none⟩ (.string ((rd_T86 l2_3 x59_3).f1)))) := ⟨by repeat (first | (with_reducible first | exact HB.out | apply pbA | apply pbN | apply pbD | refine pbS ?_ GE983.out | refine pbS ?_ GE985.out) | exact HB.out)⟩
                     (try clear BK983)
                     (try clear BK985)
                     (try clear HB)
                     generalize ((w32.setCell ⟨gb985, 0, none⟩ (.string ((rd_T86 l2_3 x59_3).f0))).setCell ⟨gb985, 1, none⟩ (.string ((rd_T86 l2_3 x59_3).f1))) = w36 at n0_ n1_ n2_ ⊢
                     have BK983 := n0_
                     have BK985 := n1_
                     have HB := n2_
                     clear n0_ n1_ n2_
                     have n0_ := Aside0.mk (pkD BK983.out)
                     have n1_ := Aside0.mk (pkD BK985.out)
                     have n2_ := Aside0.mk (pbD HB.out)
                     clear BK983
                     clear BK985
                     clear HB
                     have BK983 := n0_
                     have BK985 := n1_
                     have HB := n2_
                     clear n0_ n1_ n2_
                     refine start_ (n := 26) (S := fun w' => w'.cell? ⟨gb985, 0, none⟩ = some (.string ((rd_T86 l2_3 x59_3).f0)) ∧ w'.cell? ⟨gb985, 1, none⟩ = some (.string ((rd_T86 l2_3 x59_3).f1))) (ds := []) #[false, false, false, false, false, false, false, false, false, false, false, false, false, false, false, false, false, false, false, false, false, false, false, false, false, false] (by kernel_rfl) rfl rfl ⟨(pkC BK985.out 0).trans rfl, (pkC BK985.out 1).trans rfl⟩ (fun hHeld => ?_); refine with_tabW proof_Lacks.tab13 proof_Lacks.bits13 (fun HT_ HW_ => ?_)
                     generalize w36.drew = w37 at BK983 BK985 HB hHeld ⊢
                     refine pure_ (i := 0) (N := some 71) (v := ?_) (a' := ?_) #[true, false, false, false, false, false, false, false, false, false, false, false, false, false, false, false, false, false, false, false, false, false, false, false, false, false] rfl rfl (any_of HT_.out (by kernel_rfl)) (fun _ _ _ h => h) (Or.inl ⟨by rfl, ?_⟩) ?_ ?_
                     rotate_left
                     · intro w'
                       go_simp
                       with_reducible rfl
                     rotate_left
                     · simp only [Act.put, zA, zB, zC, i64_w, i32_w]
                       rfl
                     refine pure_ (i := 1) (N := some 72) (v := ?_) (a' := ?_) #[true, true, false, false, false, false, false, false, false, false, false, false, false, false, false, false, false, false, false, false, false, false, false, false, false, false] rfl rfl (any_of HT_.out (by kernel_rfl)) (fun _ _ _ h => h) (Or.inl ⟨by rfl, ?_⟩) ?_ ?_
                     rotate_left
                     · intro w'
                       go_simp
                       with_reducible rfl
                     rotate_left
                     · simp only [Act.put, zA, zB, zC, i64_w, i32_w]
                       rfl
                     refine pure_ (i := 3) (N := some 74) (v := ?_) (a' := ?_) #[true, true, false, true, false, false, false, false, false, false, false, false, false, false, false, false, false, false, false, false, false, false, false, false, false, false] rfl rfl (any_of HT_.out (by kernel_rfl)) (fun _ _ _ h => h) (Or.inl ⟨by rfl, ?_⟩) ?_ ?_
                     rotate_left
                     · intro w'
                       go_simp
                       with_reducible rfl
                     rotate_left
                     · simp only [Act.put, zA, zB, zC, i64_w, i32_w]
                       rfl
                     refine take_ (i := 2) (N := some 73) (v := ?_) (a' := ?_) #[true, true, true, true, false, false, false, false, false, false, false, false, false, false, false, false, false, false, false, false, false, false, false, false, false, false] rfl rfl (take_ofW HT_.out HW_.out (by kernel_rfl)) (fun _ _ _ h => h) (Or.inl ⟨by rfl, ?_⟩) hHeld ?_ ?_
                     rotate_left
                     · rintro w' ⟨s0, s1⟩
                       go_simp
                       with_reducible rfl
                     rotate_left
                     · simp only [Act.put, zA, zB, zC, i64_w, i32_w]
                       rfl
                     refine pure_ (i := 4) (N := some 75) (v := ?_) (a' := ?_) #[true, true, true, true, true, false, false, false, false, false, false, false, false, false, false, false, false, false, false, false, false, false, false, false, false, false] rfl rfl (any_of HT_.out (by kernel_rfl)) (fun _ _ _ h => h) (Or.inl ⟨by rfl, ?_⟩) ?_ ?_
                     rotate_left
                     · intro w'
                       go_simp
                       with_reducible rfl
                     rotate_left
                     · simp only [Act.put, zA, zB, zC, i64_w, i32_w]
                       rfl
                     refine pure_ (i := 5) (N := some 76) (v := ?_) (a' := ?_) #[true, true, true, true, true, true, false, false, false, false, false, false, false, false, false, false, false, false, false, false, false, false, false, false, false, false] rfl rfl (any_of HT_.out (by kernel_rfl)) (fun _ _ _ h => h) (Or.inl ⟨by rfl, ?_⟩) ?_ ?_
                     rotate_left
                     · intro w'
                       go_simp
                       with_reducible rfl
                     rotate_left
                     · simp only [Act.put, zA, zB, zC, i64_w, i32_w]
                       rfl
                     refine pure_ (i := 6) (N := some 77) (v := ?_) (a' := ?_) #[true, true, true, true, true, true, true, false, false, false, false, false, false, false, false, false, false, false, false, false, false, false, false, false, false, false] rfl rfl (any_of HT_.out (by kernel_rfl)) (fun _ _ _ h => h) (Or.inl ⟨by rfl, ?_⟩) ?_ ?_
                     rotate_left
                     · intro w'
                       go_simp
                       with_reducible rfl
                     rotate_left
                     · simp only [Act.put, zA, zB, zC, i64_w, i32_w]
                       rfl
                     refine pure_ (i := 7) (N := some 78) (v := ?_) (a' := ?_) #[true, true, true, true, true, true, true, true, false, false, false, false, false, false, false, false, false, false, false, false, false, false, false, false, false, false] rfl rfl (any_of HT_.out (by kernel_rfl)) (fun _ _ _ h => h) (Or.inl ⟨by rfl, ?_⟩) ?_ ?_
                     rotate_left
                     · intro w'
                       go_simp
                       with_reducible rfl
                     rotate_left
                     · simp only [Act.put, zA, zB, zC, i64_w, i32_w]
                       rfl
                     refine pure_ (i := 9) (N := some 80) (v := ?_) (a' := ?_) #[true, true, true, true, true, true, true, true, false, true, false, false, false, false, false, false, false, false, false, false, false, false, false, false, false, false] rfl rfl (any_of HT_.out (by kernel_rfl)) (fun _ _ _ h => h) (Or.inl ⟨by rfl, ?_⟩) ?_ ?_
                     rotate_left
                     · intro w'
                       go_simp
                       with_reducible rfl
                     rotate_left
                     · simp only [Act.put, zA, zB, zC, i64_w, i32_w]
                       rfl
                     refine take_ (i := 8) (N := some 79) (v := ?_) (a' := ?_) #[true, true, true, true, true, true, true, true, true, true, false, false, false, false, false, false, false, false, false, false, false, false, false, false, false, false] rfl rfl (take_ofW HT_.out HW_.out (by kernel_rfl)) (fun _ _ _ h => h) (Or.inl ⟨by rfl, ?_⟩) hHeld ?_ ?_
                     rotate_left
                     · rintro w' ⟨s0, s1⟩
                       go_simp
                       with_reducible rfl
                     rotate_left
                     · simp only [Act.put, zA, zB, zC, i64_w, i32_w]
                       rfl
                     refine pure_ (i := 10) (N := some 81) (v := ?_) (a' := ?_) #[true, true, true, true, true, true, true, true, true, true, true, false, false, false, false, false, false, false, false, false, false, false, false, false, false, false] rfl rfl (any_of HT_.out (by kernel_rfl)) (fun _ _ _ h => h) (Or.inl ⟨by rfl, ?_⟩) ?_ ?_
                     rotate_left
                     · intro w'
                       go_simp
                       with_reducible rfl
                     rotate_left
                     · simp only [Act.put, zA, zB, zC, i64_w, i32_w]
                       rfl
                     refine pure_ (i := 11) (N := some 82) (v := ?_) (a' := ?_) #[true, true, true, true, true, true, true, true, true, true, true, true, false, false, false, false, false, false, false, false, false, false, false, false, false, false] rfl rfl (any_of HT_.out (by kernel_rfl)) (fun _ _ _ h => h) (Or.inl ⟨by rfl, ?_⟩) ?_ ?_
                     rotate_left
                     · intro w'
                       go_simp
                       with_reducible rfl
                     rotate_left
                     · simp only [Act.put, zA, zB, zC, i64_w, i32_w]
                       rfl
                     refine pure_ (i := 12) (N := some 83) (v := ?_) (a' := ?_) #[true, true, true, true, true, true, true, true, true, true, true, true, true, false, false, false, false, false, false, false, false, false, false, false, false, false] rfl rfl (any_of HT_.out (by kernel_rfl)) (fun _ _ _ h => h) (Or.inl ⟨by rfl, ?_⟩) ?_ ?_
                     rotate_left
                     · intro w'
                       go_simp
                       with_reducible rfl
                     rotate_left
                     · simp only [Act.put, zA, zB, zC, i64_w, i32_w]
                       rfl
                     refine pure_ (i := 13) (N := some 84) (v := undef) (a' := ?_) #[true, true, true, true, true, true, true, true, true, true, true, true, true, true, false, false, false, false, false, false, false, false, false, false, false, false] rfl rfl (any_of HT_.out (by kernel_rfl)) (fun _ _ _ h => h) (Or.inr ⟨by rfl, rfl⟩) ?_ ?_
                     rotate_left
                     · simp only [Act.put, zA, zB, zC, i64_w, i32_w]
                       rfl
                     refine pure_ (i := 14) (N := some 85) (v := undef) (a' := ?_) #[true, true, true, true, true, true, true, true, true, true, true, true, true, true, true, false, false, false, false, false, false, false, false, false, false, false] rfl rfl (any_of HT_.out (by kernel_rfl)) (fun _ _ _ h => h) (Or.inr ⟨by rfl, rfl⟩) ?_ ?_
                     rotate_left
                     · simp only [Act.put, zA, zB, zC, i64_w, i32_w]
                       rfl
                     refine pure_ (i := 15) (N := some 86) (v := undef) (a' := ?_) #[true, true, true, true, true, true, true, true, true, true, true, true, true, true, true, true, false, false, false, false, false, false, false, false, false, false] rfl rfl (any_of HT_.out (by kernel_rfl)) (fun _ _ _ h => h) (Or.inr ⟨by rfl, rfl⟩) ?_ ?_
                     rotate_left
                     · simp only [Act.put, zA, zB, zC, i64_w, i32_w]
                       rfl
                     refine pure_ (i := 16) (N := some 87) (v := undef) (a' := ?_) #[true, true, true, true, true, true, true, true, true, true, true, true, true, true, true, true, true, false, false, false, false, false, false, false, false, false] rfl rfl (any_of HT_.out (by kernel_rfl)) (fun _ _ _ h => h) (Or.inr ⟨by rfl, rfl⟩) ?_ ?_
                     rotate_left
                     · simp only [Act.put, zA, zB, zC, i64_w, i32_w]
                       rfl
                     refine pure_ (i := 17) (N := some 88) (v := undef) (a' := ?_) #[true, true, true, true, true, true, true, true, true, true, true, true, true, true, true, true, true, true, false, false, false, false, false, false, false, false] rfl rfl (any_of HT_.out (by kernel_rfl)) (fun _ _ _ h => h) (Or.inr ⟨by rfl, rfl⟩) ?_ ?_
                     rotate_left
                     · simp only [Act.put, zA, zB, zC, i64_w, i32_w]
                       rfl
                     refine pure_ (i := 18) (N := some 89) (v := undef) (a' := ?_) #[true, true, true, true, true, true, true, true, true, true, true, true, true, true, true, true, true, true, true, false, false, false, false, false, false, false] rfl rfl (any_of HT_.out (by kernel_rfl)) (fun _ _ _ h => h) (Or.inr ⟨by rfl, rfl⟩) ?_ ?_
                     rotate_left
                     · simp only [Act.put, zA, zB, zC, i64_w, i32_w]
                       rfl
                     refine pure_ (i := 19) (N := some 90) (v := undef) (a' := ?_) #[true, true, true, true, true, true, true, true, true, true, true, true, true, true, true, true, true, true, true, true, false, false, false, false, false, false] rfl rfl (any_of HT_.out (by kernel_rfl)) (fun _ _ _ h => h) (Or.inr ⟨by rfl, rfl⟩) ?_ ?_
                     rotate_left
                     · simp only [Act.put, zA, zB, zC, i64_w, i32_w]
                       rfl
                     refine pure_ (i := 20) (N := some 91) (v := undef) (a' := ?_) #[true, true, true, true, true, true, true, true, true, true, true, true, true, true, true, true, true, true, true, true, true, false, false, false, false, false] rfl rfl (any_of HT_.out (by kernel_rfl)) (fun _ _ _ h => h) (Or.inr ⟨by rfl, rfl⟩) ?_ ?_
                     rotate_left
                     · simp only [Act.put, zA, zB, zC, i64_w, i32_w]
                       rfl
                     refine pure_ (i := 21) (N := some 92) (v := undef) (a' := ?_) #[true, true, true, true, true, true, true, true, true, true, true, true, true, true, true, true, true, true, true, true, true, true, false, false, false, false] rfl rfl (any_of HT_.out (by kernel_rfl)) (fun _ _ _ h => h) (Or.inr ⟨by rfl, rfl⟩) ?_ ?_
                     rotate_left
                     · simp only [Act.put, zA, zB, zC, i64_w, i32_w]
                       rfl
                     refine pure_ (i := 22) (N := some 93) (v := undef) (a' := ?_) #[true, true, true, true, true, true, true, true, true, true, true, true, true, true, true, true, true, true, true, true, true, true, true, false, false, false] rfl rfl (any_of HT_.out (by kernel_rfl)) (fun _ _ _ h => h) (Or.inr ⟨by rfl, rfl⟩) ?_ ?_
                     rotate_left
                     · simp only [Act.put, zA, zB, zC, i64_w, i32_w]
                       rfl
                     refine pure_ (i := 23) (N := some 94) (v := undef) (a' := ?_) #[true, true, true, true, true, true, true, true, true, true, true, true, true, true, true, true, true, true, true, true, true, true, true, true, false, false] rfl rfl (any_of HT_.out (by kernel_rfl)) (fun _ _ _ h => h) (Or.inr ⟨by rfl, rfl⟩) ?_ ?_
                     rotate_left
                     · simp only [Act.put, zA, zB, zC, i64_w, i32_w]
                       rfl
                     refine pure_ (i := 24) (N := some 95) (v := undef) (a' := ?_) #[true, true, true, true, true, true, true, true, true, true, true, true, true, true, true, true, true, true, true, true, true, true, true, true, true, false] rfl rfl (any_of HT_.out (by kernel_rfl)) (fun _ _ _ h => h) (Or.inr ⟨by rfl, rfl⟩) ?_ ?_
                     rotate_left
                     · simp only [Act.put, zA, zB, zC, i64_w, i32_w]
                       rfl
                     refine pure_ (i := 25) (N := some 96) (v := ?_) (a' := ?_) #[true, true, true, true, true, true, true, true, true, true, true, true, true, true, true, true, true, true, true, true, true, true, true, true, true, true] rfl rfl (any_of HT_.out (by kernel_rfl)) (fun _ _ _ h => h) (Or.inl ⟨by rfl, ?_⟩) ?_ ?_
                     rotate_left
                     · intro w'
                       go_simp
                       with_reducible rfl
                     rotate_left
                     · simp only [Act.put, zA, zB, zC, i64_w, i32_w]
                       rfl
                     refine done_ (done_of HT_.out (by kernel_rfl)) ?_
                     try go_wp2
                     go_ret
                     exact ⟨by first | rfl | (simp [errW_none, errW_some] <;> rfl) | (simp only [← hji14]; first | rfl | (simp [errW_none, errW_some] <;> rfl)) | (simp [*, errW_none, errW_some] <;> rfl), by repeat (first | (with_reducible first | exact HB.out | apply pbA | apply pbN | apply pbD | refine pbS ?_ GE983.out | refine pbS ?_ GE985.out) | exact HB.out)⟩
                   · rw [if_neg c31] at H
                     have c31b0 : (((rd_T86 l2_3 x59_3).f0).toList == a1.toList) = false := beq_eq_false_iff_ne.mpr c31
                     have c31b1 : (((rd_T86 l2_3 x59_3).f0).toList != a1.toList) = true := bne_iff_ne.mpr c31
                     by_cases c38 : x59_3 < (l2_4.length : Int)
                     · rw [if_pos c38] at H
                       have c38b0 : decide (x59_3 < (l2_4.length : Int)) = true := decide_eq_true c38
                       clear c38
                       replace H := Option.bind_eq_some_iff.mp H
                       obtain ⟨t987, A390, H⟩ := H
                       replace H : (if t987 = true then (proof_Lacks.l0 k3 a0 a1 ji14 l2_3 (l2_3.length : Int) (wrap64 (x59_3 + 1)) a2_0 a2_1 a2_2 l2_3 l2_4) else (some false)) = some r := H
                       have A39 := Aside0.mk A390
                       clear A390
                       by_cases c40 : t987 = true
                       · subst c40
                         have H1 : (proof_Lacks.l0 k3 a0 a1 ji14 l2_3 (l2_3.length : Int) (wrap64 (x59_3 + 1)) a2_0 a2_1 a2_2 l2_3 l2_4) = some r := by rw [if_pos rfl] at H; exact H
                         clear H
                         have H := H1
                         clear H1
                         have H' := Aside0.mk H
                         clear H
                         have p984 : 0 ≤ (x59_3 : Int) := of_decide_eq_true (by first | (with_reducible assumption) | assumption)
                         have q984 : x59_3 < (l2_3.length : Int) := of_decide_eq_true (by first | (with_reducible assumption) | assumption)
                         obtain ⟨ad984, e984, hx984_0, hx984_1⟩ := at_T86 HR2_3.out x59_3 p984 q984
                         cases e984
                         replace hx984_0 := (HB.out.cell (World.block_lt_of_cell? w _ hx984_0)).trans hx984_0
                         replace hx984_1 := (HB.out.cell (World.block_lt_of_cell? w _ hx984_1)).trans hx984_1
                         replace p984 := eq_true p984
                         replace q984 := eq_true q984
                         try go_wp2_with (first | ((with_reducible refine gate_dst (N := 10) rfl ?_); refine box_event ?hg (N := 10) ?hd (cs := #[.string (⟨#[]⟩ : ByteArray), .string (⟨#[]⟩ : ByteArray)]) (t := 86) ?hr ?_; (case hd => rfl); (case hg => rfl); (case hr => first | (go_simp; done) | (go_simp; rfl)); intro gb985 hg w41 hbox hb; have n0_ := Aside0.mk (blk_below (g := gb983) (o := .cells #[.int .i64 a2_0, .int .i64 a2_1, .bool a2_2, .slice (some ad984) l2_3.length c2_3, .slice A2_4 l2_4.length c2_4] 82 (0, 0)) (by (with_reducible repeat (first | refine pkN ?_ _ | refine pkD ?_ | refine pkA ?_ _)); exact BK983.out) hb); have n1_ := Aside0.mk (below_step (by repeat (first | (with_reducible first | exact HB.out | apply pbA | apply pbN | apply pbD | refine pbS ?_ GE983.out) | exact HB.out)) hb); have n2_ := Aside0.mk (hbox); have n3_ := Aside0.mk ((by rw [hg]; exact (below_size (by repeat (first | (with_reducible first | exact HB.out | apply pbA | apply pbN | apply pbD | refine pbS ?_ GE983.out) | exact HB.out))) : w.heap.size ≤ gb985)); have n4_ := Aside0.mk ((by rw [hg]; exact (below_size (by repeat (first | (with_reducible first | exact HB.out | apply pbA | apply pbN | apply pbD | refine pbS ?_ GE983.out) | exact HB.out))) : w.heap.size ≤ gb985)); have n5_ := Aside0.mk ((by rw [hg]; exact Nat.ne_of_lt (blk_lt (g := gb983) (o := .cells #[.int .i64 a2_0, .int .i64 a2_1, .bool a2_2, .slice (some ad984) l2_3.length c2_3, .slice A2_4 l2_4.length c2_4] 82 (0, 0)) (by (with_reducible repeat (first | refine pkN ?_ _ | refine pkD ?_ | refine pkA ?_ _)); exact BK983.out)) : gb983 ≠ gb985)); have n6_ := Aside0.mk ((by rw [hg]; exact Nat.ne_of_gt (blk_lt (g := gb983) (o := .cells #[.int .i64 a2_0, .int .i64 a2_1, .bool a2_2, .slice (some ad984) l2_3.length c2_3, .slice A2_4 l2_4.length c2_4] 82 (0, 0)) (by (with_reducible repeat (first | refine pkN ?_ _ | refine pkD ?_ | refine pkA ?_ _)); exact BK983.out)) : gb985 ≠ gb983)); clear BK983; clear HB; have BK983 := n0_; have HB := n1_; have BK985 := n2_; have GW985 := n3_; have GE985 := n4_; have NB983_985 := n5_; have NB985_983 := n6_; clear n0_ n1_ n2_ n3_ n4_ n5_ n6_; clear hb hbox hg; have hnb42 := NB985_983.out; have hnc42 := NB983_985.out; have hcz43_0 : w41.cell? ⟨gb985, 0, none⟩ = some (.string (⟨#[]⟩ : ByteArray)) := (pkC BK985.out 0).trans rfl; have hcz43_1 : w41.cell? ⟨gb985, 1, none⟩ = some (.string (⟨#[]⟩ : ByteArray)) := (pkC BK985.out 1).trans rfl; have hfz43_0 := pkF BK985.out 0; have hfz43_1 := pkF BK985.out 1; have hcz44_0 : w41.cell? ⟨gb983, 0, none⟩ = some (.int .i64 a2_0) := (pkC BK983.out 0).trans rfl; have hcz44_1 : w41.cell? ⟨gb983, 1, none⟩ = some (.int .i64 a2_1) := (pkC BK983.out 1).trans rfl; have hcz44_2 : w41.cell? ⟨gb983, 2, none⟩ = some (.bool a2_2) := (pkC BK983.out 2).trans rfl; have hcz44_3 : w41.cell? ⟨gb983, 3, none⟩ = some (.slice (some ad984) l2_3.length c2_3) := (pkC BK983.out 3).trans rfl; have hcz44_4 : w41.cell? ⟨gb983, 4, none⟩ = some (.slice A2_4 l2_4.length c2_4) := (pkC BK983.out 4).trans rfl; have hfz44_0 := pkF BK983.out 0; have hfz44_1 := pkF BK983.out 1; have hfz44_2 := pkF BK983.out 2; have hfz44_3 := pkF BK983.out 3; have hfz44_4 := pkF BK983.out 4))
                         have n0_ : Aside0 (((w41.setCell ⟨gb985, 0, none⟩ (.string ((rd_T86 l2_3 x59_3).f0))).setCell ⟨gb985, 1, none⟩ (.string ((rd_T86 l2_3 x59_3).f1))).heap[gb983]? = some (.cells #[.int .i64 a2_0, .int .i64 a2_1, .bool a2_2, .slice (some ad984) l2_3.length c2_3, .slice A2_4 l2_4.length c2_4] 82 (0, 0))) := ⟨by (with_reducible repeat (first | refine pkN ?_ _ | refine pkD ?_ | refine pkA ?_ _)); refine blk_far ?_ NB983_985.out _; (with_reducible repeat (first | refine pkN ?_ _ | refine pkD ?_ | refine pkA ?_ _)); refine blk_far ?_ NB983_985.out _; (with_reducible repeat (first | refine pkN ?_ _ | refine pkD ?_ | refine pkA ?_ _)); exact BK983.out⟩
                         have n1_ : Aside0 (((w41.setCell ⟨gb985, 0, none⟩ (.string ((rd_T86 l2_3 x59_3).f0))).setCell ⟨gb985, 1, none⟩ (.string ((rd_T86 l2_3 x59_3).f1))).heap[gb985]? = some (.cells #[.string ((rd_T86 l2_3 x59_3).f0), .string ((rd_T86 l2_3 x59_3).f1)] 86 (0, 0))) := ⟨by (with_reducible repeat (first | refine pkN ?_ _ | refine pkD ?_ | refine pkA ?_ _)); refine blk_put (cs := #[.string ((rd_T86 l2_3 x59_3).f0), .string (⟨#[]⟩ : ByteArray)]) ?_ 1 _ rfl; (with_reducible repeat (first | refine pkN ?_ _ | refine pkD ?_ | refine pkA ?_ _)); refine blk_put (cs := #[.string (⟨#[]⟩ : ByteArray), .string (⟨#[]⟩ : ByteArray)]) ?_ 0 _ rfl; (with_reducible repeat (first | refine pkN ?_ _ | refine pkD ?_ | refine pkA ?_ _)); exact BK985.out⟩
                         have n2_ : Aside0 (Below w.heap.size w ((w41.setCell ⟨gb985, 0, none⟩ (.string ((rd_T86 l2_3 x59_3).f0))).setCell ⟨gb985, 1, none⟩ (.string ((rd_T86 l2_3 x59_3).f1)))) := ⟨by repeat (first | (with_reducible first | exact HB.out | apply pbA | apply pbN | apply pbD | refine pbS ?_ GE983.out | refine pbS ?_ GE985.out) | exact HB.out)⟩
                         (try clear BK983)
                         (try clear BK985)
                         (try clear HB)
                         generalize ((w41.setCell ⟨gb985, 0, none⟩ (.string ((rd_T86 l2_3 x59_3).f0))).setCell ⟨gb985, 1, none⟩ (.string ((rd_T86 l2_3 x59_3).f1))) = w45 at n0_ n1_ n2_ ⊢
                         have BK983 := n0_
                         have BK985 := n1_
                         have HB := n2_
                         clear n0_ n1_ n2_
                         have n0_ := Aside0.mk (pkD BK983.out)
                         have n1_ := Aside0.mk (pkD BK985.out)
                         have n2_ := Aside0.mk (pbD HB.out)
                         clear BK983
                         clear BK985
                         clear HB
                         have BK983 := n0_
                         have BK985 := n1_
                         have HB := n2_
                         clear n0_ n1_ n2_
                         have p986 : 0 ≤ (x59_3 : Int) := of_decide_eq_true (by first | (with_reducible assumption) | assumption)
                         have q986 : x59_3 < (l2_4.length : Int) := of_decide_eq_true (by first | (with_reducible assumption) | assumption)
                         obtain ⟨ad986, A986_0, c986_0, e986, hx986_0, hl986_0, hi986_0⟩ := at_L10 HR2_4.out x59_3 p986 q986
                         have hw986_0 := hx986_0
                         cases e986
                         replace hx986_0 := (HB.out.cell (World.block_lt_of_cell? w _ hx986_0)).trans hx986_0
                         have HR986_0 := Aside0.mk hi986_0
                         have HC986_0 := Aside0.mk hl986_0
                         clear hi986_0 hl986_0
                         replace p986 := eq_true p986
                         replace q986 := eq_true q986
                         refine start_ (n := 26) (S := fun w' => w'.cell? ⟨gb985, 0, none⟩ = some (.string ((rd_T86 l2_3 x59_3).f0)) ∧ w'.cell? ⟨gb985, 1, none⟩ = some (.string ((rd_T86 l2_3 x59_3).f1)) ∧ w'.cell? ⟨gb983, 0, none⟩ = some (.int .i64 a2_0) ∧ w'.cell? ⟨gb983, 1, none⟩ = some (.int .i64 a2_1) ∧ w'.cell? ⟨gb983, 2, none⟩ = some (.bool a2_2) ∧ w'.cell? ⟨gb983, 3, none⟩ = some (.slice (some ad984) l2_3.length c2_3) ∧ w'.cell? ⟨gb983, 4, none⟩ = some (.slice (some ad986) l2_4.length c2_4) ∧ w'.cell? (ad986.add (x59_3).toNat) = some (.slice A986_0 (rd_L10 l2_4 x59_3).length c986_0)) (ds := []) #[false, false, false, false, false, false, false, false, false, false, false, false, false, false, false, false, false, false, false, false, false, false, false, false, false, false] (by kernel_rfl) rfl rfl ⟨(pkC BK985.out 0).trans rfl, (pkC BK985.out 1).trans rfl, (pkC BK983.out 0).trans rfl, (pkC BK983.out 1).trans rfl, (pkC BK983.out 2).trans rfl, (pkC BK983.out 3).trans rfl, (pkC BK983.out 4).trans rfl, ((HB.out.cell (World.block_lt_of_cell? w _ hw986_0)).trans hw986_0)⟩ (fun hHeld => ?_); refine with_tabW proof_Lacks.tab13 proof_Lacks.bits13 (fun HT_ HW_ => ?_)
                         generalize w45.drew = w46 at BK983 BK985 HB HR986_0 hx986_0 hHeld ⊢
                         refine pure_ (i := 0) (N := some 71) (v := ?_) (a' := ?_) #[true, false, false, false, false, false, false, false, false, false, false, false, false, false, false, false, false, false, false, false, false, false, false, false, false, false] rfl rfl (any_of HT_.out (by kernel_rfl)) (fun _ _ _ h => h) (Or.inl ⟨by rfl, ?_⟩) ?_ ?_
                         rotate_left
                         · intro w'
                           go_simp
                           with_reducible rfl
                         rotate_left
                         · simp only [Act.put, zA, zB, zC, i64_w, i32_w]
                           rfl
                         refine pure_ (i := 1) (N := some 72) (v := ?_) (a' := ?_) #[true, true, false, false, false, false, false, false, false, false, false, false, false, false, false, false, false, false, false, false, false, false, false, false, false, false] rfl rfl (any_of HT_.out (by kernel_rfl)) (fun _ _ _ h => h) (Or.inl ⟨by rfl, ?_⟩) ?_ ?_
                         rotate_left
                         · intro w'
                           go_simp
                           with_reducible rfl
                         rotate_left
                         · simp only [Act.put, zA, zB, zC, i64_w, i32_w]
                           rfl
                         refine pure_ (i := 3) (N := some 74) (v := ?_) (a' := ?_) #[true, true, false, true, false, false, false, false, false, false, false, false, false, false, false, false, false, false, false, false, false, false, false, false, false, false] rfl rfl (any_of HT_.out (by kernel_rfl)) (fun _ _ _ h => h) (Or.inl ⟨by rfl, ?_⟩) ?_ ?_
                         rotate_left
                         · intro w'
                           go_simp
                           with_reducible rfl
                         rotate_left
                         · simp only [Act.put, zA, zB, zC, i64_w, i32_w]
                           rfl
                         refine take_ (i := 2) (N := some 73) (v := ?_) (a' := ?_) #[true, true, true, true, false, false, false, false, false, false, false, false, false, false, false, false, false, false, false, false, false, false, false, false, false, false] rfl rfl (take_ofW HT_.out HW_.out (by kernel_rfl)) (fun _ _ _ h => h) (Or.inl ⟨by rfl, ?_⟩) hHeld ?_ ?_
                         rotate_left
                         · rintro w' ⟨s0, s1, s2, s3, s4, s5, s6, s7⟩
                           go_simp
                           with_reducible rfl
                         rotate_left
                         · simp only [Act.put, zA, zB, zC, i64_w, i32_w]
                           rfl
                         refine pure_ (i := 4) (N := some 75) (v := ?_) (a' := ?_) #[true, true, true, true, true, false, false, false, false, false, false, false, false, false, false, false, false, false, false, false, false, false, false, false, false, false] rfl rfl (any_of HT_.out (by kernel_rfl)) (fun _ _ _ h => h) (Or.inl ⟨by rfl, ?_⟩) ?_ ?_
                         rotate_left
                         · intro w'
                           go_simp
                           with_reducible rfl
                         rotate_left
                         · simp only [Act.put, zA, zB, zC, i64_w, i32_w]
                           rfl
                         refine pure_ (i := 5) (N := some 76) (v := ?_) (a' := ?_) #[true, true, true, true, true, true, false, false, false, false, false, false, false, false, false, false, false, false, false, false, false, false, false, false, false, false] rfl rfl (any_of HT_.out (by kernel_rfl)) (fun _ _ _ h => h) (Or.inl ⟨by rfl, ?_⟩) ?_ ?_
                         rotate_left
                         · intro w'
                           go_simp
                           with_reducible rfl
                         rotate_left
                         · simp only [Act.put, zA, zB, zC, i64_w, i32_w]
                           rfl
                         refine pure_ (i := 6) (N := some 77) (v := ?_) (a' := ?_) #[true, true, true, true, true, true, true, false, false, false, false, false, false, false, false, false, false, false, false, false, false, false, false, false, false, false] rfl rfl (any_of HT_.out (by kernel_rfl)) (fun _ _ _ h => h) (Or.inl ⟨by rfl, ?_⟩) ?_ ?_
                         rotate_left
                         · intro w'
                           go_simp
                           with_reducible rfl
                         rotate_left
                         · simp only [Act.put, zA, zB, zC, i64_w, i32_w]
                           rfl
                         refine pure_ (i := 7) (N := some 78) (v := ?_) (a' := ?_) #[true, true, true, true, true, true, true, true, false, false, false, false, false, false, false, false, false, false, false, false, false, false, false, false, false, false] rfl rfl (any_of HT_.out (by kernel_rfl)) (fun _ _ _ h => h) (Or.inl ⟨by rfl, ?_⟩) ?_ ?_
                         rotate_left
                         · intro w'
                           go_simp
                           with_reducible rfl
                         rotate_left
                         · simp only [Act.put, zA, zB, zC, i64_w, i32_w]
                           rfl
                         refine pure_ (i := 9) (N := some 80) (v := ?_) (a' := ?_) #[true, true, true, true, true, true, true, true, false, true, false, false, false, false, false, false, false, false, false, false, false, false, false, false, false, false] rfl rfl (any_of HT_.out (by kernel_rfl)) (fun _ _ _ h => h) (Or.inl ⟨by rfl, ?_⟩) ?_ ?_
                         rotate_left
                         · intro w'
                           go_simp
                           with_reducible rfl
                         rotate_left
                         · simp only [Act.put, zA, zB, zC, i64_w, i32_w]
                           rfl
                         refine take_ (i := 8) (N := some 79) (v := ?_) (a' := ?_) #[true, true, true, true, true, true, true, true, true, true, false, false, false, false, false, false, false, false, false, false, false, false, false, false, false, false] rfl rfl (take_ofW HT_.out HW_.out (by kernel_rfl)) (fun _ _ _ h => h) (Or.inl ⟨by rfl, ?_⟩) hHeld ?_ ?_
                         rotate_left
                         · rintro w' ⟨s0, s1, s2, s3, s4, s5, s6, s7⟩
                           go_simp
                           with_reducible rfl
                         rotate_left
                         · simp only [Act.put, zA, zB, zC, i64_w, i32_w]
                           rfl
                         refine pure_ (i := 10) (N := some 81) (v := ?_) (a' := ?_) #[true, true, true, true, true, true, true, true, true, true, true, false, false, false, false, false, false, false, false, false, false, false, false, false, false, false] rfl rfl (any_of HT_.out (by kernel_rfl)) (fun _ _ _ h => h) (Or.inl ⟨by rfl, ?_⟩) ?_ ?_
                         rotate_left
                         · intro w'
                           go_simp
                           with_reducible rfl
                         rotate_left
                         · simp only [Act.put, zA, zB, zC, i64_w, i32_w]
                           rfl
                         refine pure_ (i := 11) (N := some 82) (v := ?_) (a' := ?_) #[true, true, true, true, true, true, true, true, true, true, true, true, false, false, false, false, false, false, false, false, false, false, false, false, false, false] rfl rfl (any_of HT_.out (by kernel_rfl)) (fun _ _ _ h => h) (Or.inl ⟨by rfl, ?_⟩) ?_ ?_
                         rotate_left
                         · intro w'
                           go_simp
                           with_reducible rfl
                         rotate_left
                         · simp only [Act.put, zA, zB, zC, i64_w, i32_w]
                           rfl
                         refine pure_ (i := 12) (N := some 83) (v := ?_) (a' := ?_) #[true, true, true, true, true, true, true, true, true, true, true, true, true, false, false, false, false, false, false, false, false, false, false, false, false, false] rfl rfl (any_of HT_.out (by kernel_rfl)) (fun _ _ _ h => h) (Or.inl ⟨by rfl, ?_⟩) ?_ ?_
                         rotate_left
                         · intro w'
                           go_simp
                           with_reducible rfl
                         rotate_left
                         · simp only [Act.put, zA, zB, zC, i64_w, i32_w]
                           rfl
                         refine pure_ (i := 13) (N := some 84) (v := ?_) (a' := ?_) #[true, true, true, true, true, true, true, true, true, true, true, true, true, true, false, false, false, false, false, false, false, false, false, false, false, false] rfl rfl (any_of HT_.out (by kernel_rfl)) (fun _ _ _ h => h) (Or.inl ⟨by rfl, ?_⟩) ?_ ?_
                         rotate_left
                         · intro w'
                           go_simp
                           with_reducible rfl
                         rotate_left
                         · simp only [Act.put, zA, zB, zC, i64_w, i32_w]
                           rfl
                         refine pure_ (i := 15) (N := some 86) (v := ?_) (a' := ?_) #[true, true, true, true, true, true, true, true, true, true, true, true, true, true, false, true, false, false, false, false, false, false, false, false, false, false] rfl rfl (any_of HT_.out (by kernel_rfl)) (fun _ _ _ h => h) (Or.inl ⟨by rfl, ?_⟩) ?_ ?_
                         rotate_left
                         · intro w'
                           go_simp
                           with_reducible rfl
                         rotate_left
                         · simp only [Act.put, zA, zB, zC, i64_w, i32_w]
                           rfl
                         refine pure_ (i := 17) (N := some 88) (v := ?_) (a' := ?_) #[true, true, true, true, true, true, true, true, true, true, true, true, true, true, false, true, false, true, false, false, false, false, false, false, false, false] rfl rfl (any_of HT_.out (by kernel_rfl)) (fun _ _ _ h => h) (Or.inl ⟨by rfl, ?_⟩) ?_ ?_
                         rotate_left
                         · intro w'
                           go_simp
                           with_reducible rfl
                         rotate_left
                         · simp only [Act.put, zA, zB, zC, i64_w, i32_w]
                           rfl
                         refine pure_ (i := 18) (N := some 89) (v := ?_) (a' := ?_) #[true, true, true, true, true, true, true, true, true, true, true, true, true, true, false, true, false, true, true, false, false, false, false, false, false, false] rfl rfl (any_of HT_.out (by kernel_rfl)) (fun _ _ _ h => h) (Or.inl ⟨by rfl, ?_⟩) ?_ ?_
                         rotate_left
                         · intro w'
                           go_simp
                           with_reducible rfl
                         rotate_left
                         · simp only [Act.put, zA, zB, zC, i64_w, i32_w]
                           rfl
                         refine pure_ (i := 20) (N := some 91) (v := ?_) (a' := ?_) #[true, true, true, true, true, true, true, true, true, true, true, true, true, true, false, true, false, true, true, false, true, false, false, false, false, false] rfl rfl (any_of HT_.out (by kernel_rfl)) (fun _ _ _ h => h) (Or.inl ⟨by rfl, ?_⟩) ?_ ?_
                         rotate_left
                         · intro w'
                           go_simp
                           with_reducible rfl
                         rotate_left
                         · simp only [Act.put, zA, zB, zC, i64_w, i32_w]
                           rfl
                         refine take_ (i := 14) (N := some 85) (v := ?_) (a' := ?_) #[true, true, true, true, true, true, true, true, true, true, true, true, true, true, true, true, false, true, true, false, true, false, false, false, false, false] rfl rfl (take_ofW HT_.out HW_.out (by kernel_rfl)) (fun _ _ _ h => h) (Or.inl ⟨by rfl, ?_⟩) hHeld ?_ ?_
                         rotate_left
                         · rintro w' ⟨s0, s1, s2, s3, s4, s5, s6, s7⟩
                           go_simp
                           with_reducible rfl
                         rotate_left
                         · simp only [Act.put, zA, zB, zC, i64_w, i32_w]
                           rfl
                         refine take_ (i := 16) (N := some 87) (v := ?_) (a' := ?_) #[true, true, true, true, true, true, true, true, true, true, true, true, true, true, true, true, true, true, true, false, true, false, false, false, false, false] rfl rfl (take_ofW HT_.out HW_.out (by kernel_rfl)) (fun _ _ _ h => h) (Or.inl ⟨by rfl, ?_⟩) hHeld ?_ ?_
                         rotate_left
                         · rintro w' ⟨s0, s1, s2, s3, s4, s5, s6, s7⟩
                           go_simp
                           with_reducible rfl
                         rotate_left
                         · simp only [Act.put, zA, zB, zC, i64_w, i32_w]
                           rfl
                         refine take_ (i := 19) (N := some 90) (v := ?_) (a' := ?_) #[true, true, true, true, true, true, true, true, true, true, true, true, true, true, true, true, true, true, true, true, true, false, false, false, false, false] rfl rfl (take_ofW HT_.out HW_.out (by kernel_rfl)) (fun _ _ _ h => h) (Or.inl ⟨by rfl, ?_⟩) hHeld ?_ ?_
                         rotate_left
                         · rintro w' ⟨s0, s1, s2, s3, s4, s5, s6, s7⟩
                           go_simp
                           with_reducible rfl
                         rotate_left
                         · simp only [Act.put, zA, zB, zC, i64_w, i32_w]
                           rfl
                         refine pure_ (i := 21) (N := some 92) (v := ?_) (a' := ?_) #[true, true, true, true, true, true, true, true, true, true, true, true, true, true, true, true, true, true, true, true, true, true, false, false, false, false] rfl rfl (any_of HT_.out (by kernel_rfl)) (fun _ _ _ h => h) (Or.inl ⟨by rfl, ?_⟩) ?_ ?_
                         rotate_left
                         · intro w'
                           go_simp
                           with_reducible rfl
                         rotate_left
                         · simp only [Act.put, zA, zB, zC, i64_w, i32_w]
                           rfl
                         refine take_ (i := 22) (N := some 93) (v := ?_) (a' := ?_) #[true, true, true, true, true, true, true, true, true, true, true, true, true, true, true, true, true, true, true, true, true, true, true, false, false, false] rfl rfl (take_ofW HT_.out HW_.out (by kernel_rfl)) (fun _ _ _ h => h) (Or.inl ⟨by rfl, ?_⟩) hHeld ?_ ?_
                         rotate_left
                         · rintro w' ⟨s0, s1, s2, s3, s4, s5, s6, s7⟩
                           go_simp
                           with_reducible rfl
                         rotate_left
                         · simp only [Act.put, zA, zB, zC, i64_w, i32_w]
                           rfl
                         refine one_ (i := 23) (N := some 94) #[true, true, true, true, true, true, true, true, true, true, true, true, true, true, true, true, true, true, true, true, true, true, true, true, false, false] rfl rfl (one_of HT_.out (by kernel_rfl)) (by decide) (fun K hK => ?_)
                         refine goes_ Try.func128 (by kernel_rfl) rfl #[.string a0, .agg #[.string ((rd_T86 l2_3 x59_3).f0), .string ((rd_T86 l2_3 x59_3).f1)], .int .i64 a2_0, .int .i64 (wrap64 (ji14 + x59_3)), .slice A986_0 (rd_L10 l2_4 x59_3).length c986_0] (by rfl) rfl rfl (by (try simp only [List.map_toArray, List.map_cons, List.map_nil]); first | done | (simp only [hji14]; rfl) | rfl | (simp only [List.length_drop, List.length_take]; rfl)) ?_
                         with_reducible refine (proof_leads.calls k3 a0 ((rd_T86 l2_3 x59_3).f0) ((rd_T86 l2_3 x59_3).f1) a2_0 (wrap64 (ji14 + x59_3)) _ _ (rd_L10 l2_4 x59_3) true _ ?side1 ?side2 A39.out).mono ?_
                         (case side1 => repeat (first | exact (Kd.C_below HR986_0.out HB.out) | (with_reducible refine Kd.C_alloc ?_ _) | (with_reducible refine Kd.C_drewN ?_ _) | (with_reducible refine Kd.C_drew ?_)))
                         (case side2 => exact HC986_0.out)
                         rintro e w47 ⟨rfl, hb⟩
                         refine ⟨_, rfl, ?_⟩
                         have n0_ := Aside0.mk (blk_below (g := gb983) (o := .cells #[.int .i64 a2_0, .int .i64 a2_1, .bool a2_2, .slice (some ad984) l2_3.length c2_3, .slice (some ad986) l2_4.length c2_4] 82 (0, 0)) (by (with_reducible repeat (first | refine pkN ?_ _ | refine pkD ?_ | refine pkA ?_ _)); exact BK983.out) hb)
                         have n1_ := Aside0.mk (blk_below (g := gb985) (o := .cells #[.string ((rd_T86 l2_3 x59_3).f0), .string ((rd_T86 l2_3 x59_3).f1)] 86 (0, 0)) (by (with_reducible repeat (first | refine pkN ?_ _ | refine pkD ?_ | refine pkA ?_ _)); exact BK985.out) hb)
                         have n2_ := Aside0.mk (below_step (by repeat (first | (with_reducible first | exact HB.out | apply pbA | apply pbN | apply pbD | refine pbS ?_ GE983.out | refine pbS ?_ GE985.out) | exact HB.out)) hb)
                         clear BK983
                         clear BK985
                         clear HB
                         have BK983 := n0_
                         have BK985 := n1_
                         have HB := n2_
                         clear n0_ n1_ n2_
                         (try clear hb)
                         (try clear hb2)
                         (try clear hk)
                         (try clear hi)
                         refine hK.out _ _ ⟨(pkC BK985.out 0).trans rfl, (pkC BK985.out 1).trans rfl, (pkC BK983.out 0).trans rfl, (pkC BK983.out 1).trans rfl, (pkC BK983.out 2).trans rfl, (pkC BK983.out 3).trans rfl, (pkC BK983.out 4).trans rfl, ((HB.out.cell (World.block_lt_of_cell? w _ hw986_0)).trans hw986_0)⟩ (fun hHeld => ?_)
                         clear hK K
                         refine norm_ (a' := ?_) ?_ ?_
                         rotate_left
                         · show Act.put _ (some 94) _ = _
                           simp only [Act.put, zA, zB, zC, i64_w, i32_w]
                           rfl
                         refine pure_ (i := 24) (N := some 95) (v := ?_) (a' := ?_) #[true, true, true, true, true, true, true, true, true, true, true, true, true, true, true, true, true, true, true, true, true, true, true, true, true, false] rfl rfl (any_of HT_.out (by kernel_rfl)) (fun _ _ _ h => h) (Or.inl ⟨by rfl, ?_⟩) ?_ ?_
                         rotate_left
                         · intro w'
                           go_simp
                           with_reducible rfl
                         rotate_left
                         · simp only [Act.put, zA, zB, zC, i64_w, i32_w]
                           rfl
                         refine pure_ (i := 25) (N := some 96) (v := ?_) (a' := ?_) #[true, true, true, true, true, true, true, true, true, true, true, true, true, true, true, true, true, true, true, true, true, true, true, true, true, true] rfl rfl (any_of HT_.out (by kernel_rfl)) (fun _ _ _ h => h) (Or.inl ⟨by rfl, ?_⟩) ?_ ?_
                         rotate_left
                         · intro w'
                           go_simp
                           with_reducible rfl
                         rotate_left
                         · simp only [Act.put, zA, zB, zC, i64_w, i32_w]
                           rfl
                         refine done_ (done_of HT_.out (by kernel_rfl)) ?_
                         try go_wp2
                         go_roundg k3
                         case measure => have := HJ3.out; have := HJ14.out; have := HK3.out; omega
                         case rel => exact ⟨(wrap64 (x59_3 + 1)), (by first | rfl | (simp; done) | (simp [*]; done)), H', ⟨by have := HJ3.out; have := HJ14.out; have := HK3.out; omega⟩, ⟨by (with_reducible repeat (first | refine pkN ?_ _ | refine pkD ?_ | refine pkA ?_ _)); exact BK983.out⟩, ⟨by repeat (first | (with_reducible first | exact HB.out | apply pbA | apply pbN | apply pbD | refine pbS ?_ GE983.out | refine pbS ?_ GE985.out) | exact HB.out)⟩⟩
                       · replace c40 := Bool.eq_false_iff.mpr c40
                         subst c40
                         have H1 : (some false) = some r := by rw [if_neg (show ¬ (false = true) by decide)] at H; exact H
                         clear H
                         have H := H1
                         clear H1
                         obtain rfl := Option.some.inj H
                         have p984 : 0 ≤ (x59_3 : Int) := of_decide_eq_true (by first | (with_reducible assumption) | assumption)
                         have q984 : x59_3 < (l2_3.length : Int) := of_decide_eq_true (by first | (with_reducible assumption) | assumption)
                         obtain ⟨ad984, e984, hx984_0, hx984_1⟩ := at_T86 HR2_3.out x59_3 p984 q984
                         cases e984
                         replace hx984_0 := (HB.out.cell (World.block_lt_of_cell? w _ hx984_0)).trans hx984_0
                         replace hx984_1 := (HB.out.cell (World.block_lt_of_cell? w _ hx984_1)).trans hx984_1
                         replace p984 := eq_true p984
                         replace q984 := eq_true q984
                         try go_wp2_with (first | ((with_reducible refine gate_dst (N := 10) rfl ?_); refine box_event ?hg (N := 10) ?hd (cs := #[.string (⟨#[]⟩ : ByteArray), .string (⟨#[]⟩ : ByteArray)]) (t := 86) ?hr ?_; (case hd => rfl); (case hg => rfl); (case hr => first | (go_simp; done) | (go_simp; rfl)); intro gb985 hg w48 hbox hb; have n0_ := Aside0.mk (blk_below (g := gb983) (o := .cells #[.int .i64 a2_0, .int .i64 a2_1, .bool a2_2, .slice (some ad984) l2_3.length c2_3, .slice A2_4 l2_4.length c2_4] 82 (0, 0)) (by (with_reducible repeat (first | refine pkN ?_ _ | refine pkD ?_ | refine pkA ?_ _)); exact BK983.out) hb); have n1_ := Aside0.mk (below_step (by repeat (first | (with_reducible first | exact HB.out | apply pbA | apply pbN | apply pbD | refine pbS ?_ GE983.out) | exact HB.out)) hb); have n2_ := Aside0.mk (hbox); have n3_ := Aside0.mk ((by rw [hg]; exact (below_size (by repeat (first | (with_reducible first | exact HB.out | apply pbA | apply pbN | apply pbD | refine pbS ?_ GE983.out) | exact HB.out))) : w.heap.size ≤ gb985)); have n4_ := Aside0.mk ((by rw [hg]; exact (below_size (by repeat (first | (with_reducible first | exact HB.out | apply pbA | apply pbN | apply pbD | refine pbS ?_ GE983.out) | exact HB.out))) : w.heap.size ≤ gb985)); have n5_ := Aside0.mk ((by rw [hg]; exact Nat.ne_of_lt (blk_lt (g := gb983) (o := .cells #[.int .i64 a2_0, .int .i64 a2_1, .bool a2_2, .slice (some ad984) l2_3.length c2_3, .slice A2_4 l2_4.length c2_4] 82 (0, 0)) (by (with_reducible repeat (first | refine pkN ?_ _ | refine pkD ?_ | refine pkA ?_ _)); exact BK983.out)) : gb983 ≠ gb985)); have n6_ := Aside0.mk ((by rw [hg]; exact Nat.ne_of_gt (blk_lt (g := gb983) (o := .cells #[.int .i64 a2_0, .int .i64 a2_1, .bool a2_2, .slice (some ad984) l2_3.length c2_3, .slice A2_4 l2_4.length c2_4] 82 (0, 0)) (by (with_reducible repeat (first | refine pkN ?_ _ | refine pkD ?_ | refine pkA ?_ _)); exact BK983.out)) : gb985 ≠ gb983)); clear BK983; clear HB; have BK983 := n0_; have HB := n1_; have BK985 := n2_; have GW985 := n3_; have GE985 := n4_; have NB983_985 := n5_; have NB985_983 := n6_; clear n0_ n1_ n2_ n3_ n4_ n5_ n6_; clear hb hbox hg; have hnb49 := NB985_983.out; have hnc49 := NB983_985.out; have hcz50_0 : w48.cell? ⟨gb985, 0, none⟩ = some (.string (⟨#[]⟩ : ByteArray)) := (pkC BK985.out 0).trans rfl; have hcz50_1 : w48.cell? ⟨gb985, 1, none⟩ = some (.string (⟨#[]⟩ : ByteArray)) := (pkC BK985.out 1).trans rfl; have hfz50_0 := pkF BK985.out 0; have hfz50_1 := pkF BK985.out 1; have hcz51_0 : w48.cell? ⟨gb983, 0, none⟩ = some (.int .i64 a2_0) := (pkC BK983.out 0).trans rfl; have hcz51_1 : w48.cell? ⟨gb983, 1, none⟩ = some (.int .i64 a2_1) := (pkC BK983.out 1).trans rfl; have hcz51_2 : w48.cell? ⟨gb983, 2, none⟩ = some (.bool a2_2) := (pkC BK983.out 2).trans rfl; have hcz51_3 : w48.cell? ⟨gb983, 3, none⟩ = some (.slice (some ad984) l2_3.length c2_3) := (pkC BK983.out 3).trans rfl; have hcz51_4 : w48.cell? ⟨gb983, 4, none⟩ = some (.slice A2_4 l2_4.length c2_4) := (pkC BK983.out 4).trans rfl; have hfz51_0 := pkF BK983.out 0; have hfz51_1 := pkF BK983.out 1; have hfz51_2 := pkF BK983.out 2; have hfz51_3 := pkF BK983.out 3; have hfz51_4 := pkF BK983.out 4))
                         have n0_ : Aside0 (((w48.setCell ⟨gb985, 0, none⟩ (.string ((rd_T86 l2_3 x59_3).f0))).setCell ⟨gb985, 1, none⟩ (.string ((rd_T86 l2_3 x59_3).f1))).heap[gb983]? = some (.cells #[.int .i64 a2_0, .int .i64 a2_1, .bool a2_2, .slice (some ad984) l2_3.length c2_3, .slice A2_4 l2_4.length c2_4] 82 (0, 0))) := ⟨by (with_reducible repeat (first | refine pkN ?_ _ | refine pkD ?_ | refine pkA ?_ _)); refine blk_far ?_ NB983_985.out _; (with_reducible repeat (first | refine pkN ?_ _ | refine pkD ?_ | refine pkA ?_ _)); refine blk_far ?_ NB983_985.out _; (with_reducible repeat (first | refine pkN ?_ _ | refine pkD ?_ | refine pkA ?_ _)); exact BK983.out⟩
                         have n1_ : Aside0 (((w48.setCell ⟨gb985, 0, none⟩ (.string ((rd_T86 l2_3 x59_3).f0))).setCell ⟨gb985, 1, none⟩ (.string ((rd_T86 l2_3 x59_3).f1))).heap[gb985]? = some (.cells #[.string ((rd_T86 l2_3 x59_3).f0), .string ((rd_T86 l2_3 x59_3).f1)] 86 (0, 0))) := ⟨by (with_reducible repeat (first | refine pkN ?_ _ | refine pkD ?_ | refine pkA ?_ _)); refine blk_put (cs := #[.string ((rd_T86 l2_3 x59_3).f0), .string (⟨#[]⟩ : ByteArray)]) ?_ 1 _ rfl; (with_reducible repeat (first | refine pkN ?_ _ | refine pkD ?_ | refine pkA ?_ _)); refine blk_put (cs := #[.string (⟨#[]⟩ : ByteArray), .string (⟨#[]⟩ : ByteArray)]) ?_ 0 _ rfl; (with_reducible repeat (first | refine pkN ?_ _ | refine pkD ?_ | refine pkA ?_ _)); exact BK985.out⟩
                         have n2_ : Aside0 (Below w.heap.size w ((w48.setCell ⟨gb985, 0, none⟩ (.string ((rd_T86 l2_3 x59_3).f0))).setCell ⟨gb985, 1, none⟩ (.string ((rd_T86 l2_3 x59_3).f1)))) := ⟨by repeat (first | (with_reducible first | exact HB.out | apply pbA | apply pbN | apply pbD | refine pbS ?_ GE983.out | refine pbS ?_ GE985.out) | exact HB.out)⟩
                         (try clear BK983)
                         (try clear BK985)
                         (try clear HB)
                         generalize ((w48.setCell ⟨gb985, 0, none⟩ (.string ((rd_T86 l2_3 x59_3).f0))).setCell ⟨gb985, 1, none⟩ (.string ((rd_T86 l2_3 x59_3).f1))) = w52 at n0_ n1_ n2_ ⊢
                         have BK983 := n0_
                         have BK985 := n1_
                         have HB := n2_
                         clear n0_ n1_ n2_
                         have n0_ := Aside0.mk (pkD BK983.out)
                         have n1_ := Aside0.mk (pkD BK985.out)
                         have n2_ := Aside0.mk (pbD HB.out)
                         clear BK983
                         clear BK985
                         clear HB
                         have BK983 := n0_
                         have BK985 := n1_
                         have HB := n2_
                         clear n0_ n1_ n2_
                         have p986 : 0 ≤ (x59_3 : Int) := of_decide_eq_true (by first | (with_reducible assumption) | assumption)
                         have q986 : x59_3 < (l2_4.length : Int) := of_decide_eq_true (by first | (with_reducible assumption) | assumption)
                         obtain ⟨ad986, A986_0, c986_0, e986, hx986_0, hl986_0, hi986_0⟩ := at_L10 HR2_4.out x59_3 p986 q986
                         have hw986_0 := hx986_0
                         cases e986
                         replace hx986_0 := (HB.out.cell (World.block_lt_of_cell? w _ hx986_0)).trans hx986_0
                         have HR986_0 := Aside0.mk hi986_0
                         have HC986_0 := Aside0.mk hl986_0
                         clear hi986_0 hl986_0
                         replace p986 := eq_true p986
                         replace q986 := eq_true q986
                         refine start_ (n := 26) (S := fun w' => w'.cell? ⟨gb985, 0, none⟩ = some (.string ((rd_T86 l2_3 x59_3).f0)) ∧ w'.cell? ⟨gb985, 1, none⟩ = some (.string ((rd_T86 l2_3 x59_3).f1)) ∧ w'.cell? ⟨gb983, 0, none⟩ = some (.int .i64 a2_0) ∧ w'.cell? ⟨gb983, 1, none⟩ = some (.int .i64 a2_1) ∧ w'.cell? ⟨gb983, 2, none⟩ = some (.bool a2_2) ∧ w'.cell? ⟨gb983, 3, none⟩ = some (.slice (some ad984) l2_3.length c2_3) ∧ w'.cell? ⟨gb983, 4, none⟩ = some (.slice (some ad986) l2_4.length c2_4) ∧ w'.cell? (ad986.add (x59_3).toNat) = some (.slice A986_0 (rd_L10 l2_4 x59_3).length c986_0)) (ds := []) #[false, false, false, false, false, false, false, false, false, false, false, false, false, false, false, false, false, false, false, false, false, false, false, false, false, false] (by kernel_rfl) rfl rfl ⟨(pkC BK985.out 0).trans rfl, (pkC BK985.out 1).trans rfl, (pkC BK983.out 0).trans rfl, (pkC BK983.out 1).trans rfl, (pkC BK983.out 2).trans rfl, (pkC BK983.out 3).trans rfl, (pkC BK983.out 4).trans rfl, ((HB.out.cell (World.block_lt_of_cell? w _ hw986_0)).trans hw986_0)⟩ (fun hHeld => ?_); refine with_tabW proof_Lacks.tab13 proof_Lacks.bits13 (fun HT_ HW_ => ?_)
                         generalize w52.drew = w53 at BK983 BK985 HB HR986_0 hx986_0 hHeld ⊢
                         refine pure_ (i := 0) (N := some 71) (v := ?_) (a' := ?_) #[true, false, false, false, false, false, false, false, false, false, false, false, false, false, false, false, false, false, false, false, false, false, false, false, false, false] rfl rfl (any_of HT_.out (by kernel_rfl)) (fun _ _ _ h => h) (Or.inl ⟨by rfl, ?_⟩) ?_ ?_
                         rotate_left
                         · intro w'
                           go_simp
                           with_reducible rfl
                         rotate_left
                         · simp only [Act.put, zA, zB, zC, i64_w, i32_w]
                           rfl
                         refine pure_ (i := 1) (N := some 72) (v := ?_) (a' := ?_) #[true, true, false, false, false, false, false, false, false, false, false, false, false, false, false, false, false, false, false, false, false, false, false, false, false, false] rfl rfl (any_of HT_.out (by kernel_rfl)) (fun _ _ _ h => h) (Or.inl ⟨by rfl, ?_⟩) ?_ ?_
                         rotate_left
                         · intro w'
                           go_simp
                           with_reducible rfl
                         rotate_left
                         · simp only [Act.put, zA, zB, zC, i64_w, i32_w]
                           rfl
                         refine pure_ (i := 3) (N := some 74) (v := ?_) (a' := ?_) #[true, true, false, true, false, false, false, false, false, false, false, false, false, false, false, false, false, false, false, false, false, false, false, false, false, false] rfl rfl (any_of HT_.out (by kernel_rfl)) (fun _ _ _ h => h) (Or.inl ⟨by rfl, ?_⟩) ?_ ?_
                         rotate_left
                         · intro w'
                           go_simp
                           with_reducible rfl
                         rotate_left
                         · simp only [Act.put, zA, zB, zC, i64_w, i32_w]
                           rfl
                         refine take_ (i := 2) (N := some 73) (v := ?_) (a' := ?_) #[true, true, true, true, false, false, false, false, false, false, false, false, false, false, false, false, false, false, false, false, false, false, false, false, false, false] rfl rfl (take_ofW HT_.out HW_.out (by kernel_rfl)) (fun _ _ _ h => h) (Or.inl ⟨by rfl, ?_⟩) hHeld ?_ ?_
                         rotate_left
                         · rintro w' ⟨s0, s1, s2, s3, s4, s5, s6, s7⟩
                           go_simp
                           with_reducible rfl
                         rotate_left
                         · simp only [Act.put, zA, zB, zC, i64_w, i32_w]
                           rfl
                         refine pure_ (i := 4) (N := some 75) (v := ?_) (a' := ?_) #[true, true, true, true, true, false, false, false, false, false, false, false, false, false, false, false, false, false, false, false, false, false, false, false, false, false] rfl rfl (any_of HT_.out (by kernel_rfl)) (fun _ _ _ h => h) (Or.inl ⟨by rfl, ?_⟩) ?_ ?_
                         rotate_left
                         · intro w'
                           go_simp
                           with_reducible rfl
                         rotate_left
                         · simp only [Act.put, zA, zB, zC, i64_w, i32_w]
                           rfl
                         refine pure_ (i := 5) (N := some 76) (v := ?_) (a' := ?_) #[true, true, true, true, true, true, false, false, false, false, false, false, false, false, false, false, false, false, false, false, false, false, false, false, false, false] rfl rfl (any_of HT_.out (by kernel_rfl)) (fun _ _ _ h => h) (Or.inl ⟨by rfl, ?_⟩) ?_ ?_
                         rotate_left
                         · intro w'
                           go_simp
                           with_reducible rfl
                         rotate_left
                         · simp only [Act.put, zA, zB, zC, i64_w, i32_w]
                           rfl
                         refine pure_ (i := 6) (N := some 77) (v := ?_) (a' := ?_) #[true, true, true, true, true, true, true, false, false, false, false, false, false, false, false, false, false, false, false, false, false, false, false, false, false, false] rfl rfl (any_of HT_.out (by kernel_rfl)) (fun _ _ _ h => h) (Or.inl ⟨by rfl, ?_⟩) ?_ ?_
                         rotate_left
                         · intro w'
                           go_simp
                           with_reducible rfl
                         rotate_left
                         · simp only [Act.put, zA, zB, zC, i64_w, i32_w]
                           rfl
                         refine pure_ (i := 7) (N := some 78) (v := ?_) (a' := ?_) #[true, true, true, true, true, true, true, true, false, false, false, false, false, false, false, false, false, false, false, false, false, false, false, false, false, false] rfl rfl (any_of HT_.out (by kernel_rfl)) (fun _ _ _ h => h) (Or.inl ⟨by rfl, ?_⟩) ?_ ?_
                         rotate_left
                         · intro w'
                           go_simp
                           with_reducible rfl
                         rotate_left
                         · simp only [Act.put, zA, zB, zC, i64_w, i32_w]
                           rfl
                         refine pure_ (i := 9) (N := some 80) (v := ?_) (a' := ?_) #[true, true, true, true, true, true, true, true, false, true, false, false, false, false, false, false, false, false, false, false, false, false, false, false, false, false] rfl rfl (any_of HT_.out (by kernel_rfl)) (fun _ _ _ h => h) (Or.inl ⟨by rfl, ?_⟩) ?_ ?_
                         rotate_left
                         · intro w'
                           go_simp
                           with_reducible rfl
                         rotate_left
                         · simp only [Act.put, zA, zB, zC, i64_w, i32_w]
                           rfl
                         refine take_ (i := 8) (N := some 79) (v := ?_) (a' := ?_) #[true, true, true, true, true, true, true, true, true, true, false, false, false, false, false, false, false, false, false, false, false, false, false, false, false, false] rfl rfl (take_ofW HT_.out HW_.out (by kernel_rfl)) (fun _ _ _ h => h) (Or.inl ⟨by rfl, ?_⟩) hHeld ?_ ?_
                         rotate_left
                         · rintro w' ⟨s0, s1, s2, s3, s4, s5, s6, s7⟩
                           go_simp
                           with_reducible rfl
                         rotate_left
                         · simp only [Act.put, zA, zB, zC, i64_w, i32_w]
                           rfl
                         refine pure_ (i := 10) (N := some 81) (v := ?_) (a' := ?_) #[true, true, true, true, true, true, true, true, true, true, true, false, false, false, false, false, false, false, false, false, false, false, false, false, false, false] rfl rfl (any_of HT_.out (by kernel_rfl)) (fun _ _ _ h => h) (Or.inl ⟨by rfl, ?_⟩) ?_ ?_
                         rotate_left
                         · intro w'
                           go_simp
                           with_reducible rfl
                         rotate_left
                         · simp only [Act.put, zA, zB, zC, i64_w, i32_w]
                           rfl
                         refine pure_ (i := 11) (N := some 82) (v := ?_) (a' := ?_) #[true, true, true, true, true, true, true, true, true, true, true, true, false, false, false, false, false, false, false, false, false, false, false, false, false, false] rfl rfl (any_of HT_.out (by kernel_rfl)) (fun _ _ _ h => h) (Or.inl ⟨by rfl, ?_⟩) ?_ ?_
                         rotate_left
                         · intro w'
                           go_simp
                           with_reducible rfl
                         rotate_left
                         · simp only [Act.put, zA, zB, zC, i64_w, i32_w]
                           rfl
                         refine pure_ (i := 12) (N := some 83) (v := ?_) (a' := ?_) #[true, true, true, true, true, true, true, true, true, true, true, true, true, false, false, false, false, false, false, false, false, false, false, false, false, false] rfl rfl (any_of HT_.out (by kernel_rfl)) (fun _ _ _ h => h) (Or.inl ⟨by rfl, ?_⟩) ?_ ?_
                         rotate_left
                         · intro w'
                           go_simp
                           with_reducible rfl
                         rotate_left
                         · simp only [Act.put, zA, zB, zC, i64_w, i32_w]
                           rfl
                         refine pure_ (i := 13) (N := some 84) (v := ?_) (a' := ?_) #[true, true, true, true, true, true, true, true, true, true, true, true, true, true, false, false, false, false, false, false, false, false, false, false, false, false] rfl rfl (any_of HT_.out (by kernel_rfl)) (fun _ _ _ h => h) (Or.inl ⟨by rfl, ?_⟩) ?_ ?_
                         rotate_left
                         · intro w'
                           go_simp
                           with_reducible rfl
                         rotate_left
                         · simp only [Act.put, zA, zB, zC, i64_w, i32_w]
                           rfl
                         refine pure_ (i := 15) (N := some 86) (v := ?_) (a' := ?_) #[true, true, true, true, true, true, true, true, true, true, true, true, true, true, false, true, false, false, false, false, false, false, false, false, false, false] rfl rfl (any_of HT_.out (by kernel_rfl)) (fun _ _ _ h => h) (Or.inl ⟨by rfl, ?_⟩) ?_ ?_
                         rotate_left
                         · intro w'
                           go_simp
                           with_reducible rfl
                         rotate_left
                         · simp only [Act.put, zA, zB, zC, i64_w, i32_w]
                           rfl
                         refine pure_ (i := 17) (N := some 88) (v := ?_) (a' := ?_) #[true, true, true, true, true, true, true, true, true, true, true, true, true, true, false, true, false, true, false, false, false, false, false, false, false, false] rfl rfl (any_of HT_.out (by kernel_rfl)) (fun _ _ _ h => h) (Or.inl ⟨by rfl, ?_⟩) ?_ ?_
                         rotate_left
                         · intro w'
                           go_simp
                           with_reducible rfl
                         rotate_left
                         · simp only [Act.put, zA, zB, zC, i64_w, i32_w]
                           rfl
                         refine pure_ (i := 18) (N := some 89) (v := ?_) (a' := ?_) #[true, true, true, true, true, true, true, true, true, true, true, true, true, true, false, true, false, true, true, false, false, false, false, false, false, false] rfl rfl (any_of HT_.out (by kernel_rfl)) (fun _ _ _ h => h) (Or.inl ⟨by rfl, ?_⟩) ?_ ?_
                         rotate_left
                         · intro w'
                           go_simp
                           with_reducible rfl
                         rotate_left
                         · simp only [Act.put, zA, zB, zC, i64_w, i32_w]
                           rfl
                         refine pure_ (i := 20) (N := some 91) (v := ?_) (a' := ?_) #[true, true, true, true, true, true, true, true, true, true, true, true, true, true, false, true, false, true, true, false, true, false, false, false, false, false] rfl rfl (any_of HT_.out (by kernel_rfl)) (fun _ _ _ h => h) (Or.inl ⟨by rfl, ?_⟩) ?_ ?_
                         rotate_left
                         · intro w'
                           go_simp
                           with_reducible rfl
                         rotate_left
                         · simp only [Act.put, zA, zB, zC, i64_w, i32_w]
                           rfl
                         refine take_ (i := 14) (N := some 85) (v := ?_) (a' := ?_) #[true, true, true, true, true, true, true, true, true, true, true, true, true, true, true, true, false, true, true, false, true, false, false, false, false, false] rfl rfl (take_ofW HT_.out HW_.out (by kernel_rfl)) (fun _ _ _ h => h) (Or.inl ⟨by rfl, ?_⟩) hHeld ?_ ?_
                         rotate_left
                         · rintro w' ⟨s0, s1, s2, s3, s4, s5, s6, s7⟩
                           go_simp
                           with_reducible rfl
                         rotate_left
                         · simp only [Act.put, zA, zB, zC, i64_w, i32_w]
                           rfl
                         refine take_ (i := 16) (N := some 87) (v := ?_) (a' := ?_) #[true, true, true, true, true, true, true, true, true, true, true, true, true, true, true, true, true, true, true, false, true, false, false, false, false, false] rfl rfl (take_ofW HT_.out HW_.out (by kernel_rfl)) (fun _ _ _ h => h) (Or.inl ⟨by rfl, ?_⟩) hHeld ?_ ?_
                         rotate_left
                         · rintro w' ⟨s0, s1, s2, s3, s4, s5, s6, s7⟩
                           go_simp
                           with_reducible rfl
                         rotate_left
                         · simp only [Act.put, zA, zB, zC, i64_w, i32_w]
                           rfl
                         refine take_ (i := 19) (N := some 90) (v := ?_) (a' := ?_) #[true, true, true, true, true, true, true, true, true, true, true, true, true, true, true, true, true, true, true, true, true, false, false, false, false, false] rfl rfl (take_ofW HT_.out HW_.out (by kernel_rfl)) (fun _ _ _ h => h) (Or.inl ⟨by rfl, ?_⟩) hHeld ?_ ?_
                         rotate_left
                         · rintro w' ⟨s0, s1, s2, s3, s4, s5, s6, s7⟩
                           go_simp
                           with_reducible rfl
                         rotate_left
                         · simp only [Act.put, zA, zB, zC, i64_w, i32_w]
                           rfl
                         refine pure_ (i := 21) (N := some 92) (v := ?_) (a' := ?_) #[true, true, true, true, true, true, true, true, true, true, true, true, true, true, true, true, true, true, true, true, true, true, false, false, false, false] rfl rfl (any_of HT_.out (by kernel_rfl)) (fun _ _ _ h => h) (Or.inl ⟨by rfl, ?_⟩) ?_ ?_
                         rotate_left
                         · intro w'
                           go_simp
                           with_reducible rfl
                         rotate_left
                         · simp only [Act.put, zA, zB, zC, i64_w, i32_w]
                           rfl
                         refine take_ (i := 22) (N := some 93) (v := ?_) (a' := ?_) #[true, true, true, true, true, true, true, true, true, true, true, true, true, true, true, true, true, true, true, true, true, true, true, false, false, false] rfl rfl (take_ofW HT_.out HW_.out (by kernel_rfl)) (fun _ _ _ h => h) (Or.inl ⟨by rfl, ?_⟩) hHeld ?_ ?_
                         rotate_left
                         · rintro w' ⟨s0, s1, s2, s3, s4, s5, s6, s7⟩
                           go_simp
                           with_reducible rfl
                         rotate_left
                         · simp only [Act.put, zA, zB, zC, i64_w, i32_w]
                           rfl
                         refine one_ (i := 23) (N := some 94) #[true, true, true, true, true, true, true, true, true, true, true, true, true, true, true, true, true, true, true, true, true, true, true, true, false, false] rfl rfl (one_of HT_.out (by kernel_rfl)) (by decide) (fun K hK => ?_)
                         refine goes_ Try.func128 (by kernel_rfl) rfl #[.string a0, .agg #[.string ((rd_T86 l2_3 x59_3).f0), .string ((rd_T86 l2_3 x59_3).f1)], .int .i64 a2_0, .int .i64 (wrap64 (ji14 + x59_3)), .slice A986_0 (rd_L10 l2_4 x59_3).length c986_0] (by rfl) rfl rfl (by (try simp only [List.map_toArray, List.map_cons, List.map_nil]); first | done | (simp only [hji14]; rfl) | rfl | (simp only [List.length_drop, List.length_take]; rfl)) ?_
                         with_reducible refine (proof_leads.calls k3 a0 ((rd_T86 l2_3 x59_3).f0) ((rd_T86 l2_3 x59_3).f1) a2_0 (wrap64 (ji14 + x59_3)) _ _ (rd_L10 l2_4 x59_3) false _ ?side1 ?side2 A39.out).mono ?_
                         (case side1 => repeat (first | exact (Kd.C_below HR986_0.out HB.out) | (with_reducible refine Kd.C_alloc ?_ _) | (with_reducible refine Kd.C_drewN ?_ _) | (with_reducible refine Kd.C_drew ?_)))
                         (case side2 => exact HC986_0.out)
                         rintro e w54 ⟨rfl, hb⟩
                         refine ⟨_, rfl, ?_⟩
                         have n0_ := Aside0.mk (blk_below (g := gb983) (o := .cells #[.int .i64 a2_0, .int .i64 a2_1, .bool a2_2, .slice (some ad984) l2_3.length c2_3, .slice (some ad986) l2_4.length c2_4] 82 (0, 0)) (by (with_reducible repeat (first | refine pkN ?_ _ | refine pkD ?_ | refine pkA ?_ _)); exact BK983.out) hb)
                         have n1_ := Aside0.mk (blk_below (g := gb985) (o := .cells #[.string ((rd_T86 l2_3 x59_3).f0), .string ((rd_T86 l2_3 x59_3).f1)] 86 (0, 0)) (by (with_reducible repeat (first | refine pkN ?_ _ | refine pkD ?_ | refine pkA ?_ _)); exact BK985.out) hb)
                         have n2_ := Aside0.mk (below_step (by repeat (first | (with_reducible first | exact HB.out | apply pbA | apply pbN | apply pbD | refine pbS ?_ GE983.out | refine pbS ?_ GE985.out) | exact HB.out)) hb)
                         clear BK983
                         clear BK985
                         clear HB
                         have BK983 := n0_
                         have BK985 := n1_
                         have HB := n2_
                         clear n0_ n1_ n2_
                         (try clear hb)
                         (try clear hb2)
                         (try clear hk)
                         (try clear hi)
                         refine hK.out _ _ ⟨(pkC BK985.out 0).trans rfl, (pkC BK985.out 1).trans rfl, (pkC BK983.out 0).trans rfl, (pkC BK983.out 1).trans rfl, (pkC BK983.out 2).trans rfl, (pkC BK983.out 3).trans rfl, (pkC BK983.out 4).trans rfl, ((HB.out.cell (World.block_lt_of_cell? w _ hw986_0)).trans hw986_0)⟩ (fun hHeld => ?_)
                         clear hK K
                         refine norm_ (a' := ?_) ?_ ?_
                         rotate_left
                         · show Act.put _ (some 94) _ = _
                           simp only [Act.put, zA, zB, zC, i64_w, i32_w]
                           rfl
                         refine pure_ (i := 24) (N := some 95) (v := ?_) (a' := ?_) #[true, true, true, true, true, true, true, true, true, true, true, true, true, true, true, true, true, true, true, true, true, true, true, true, true, false] rfl rfl (any_of HT_.out (by kernel_rfl)) (fun _ _ _ h => h) (Or.inl ⟨by rfl, ?_⟩) ?_ ?_
                         rotate_left
                         · intro w'
                           go_simp
                           with_reducible rfl
                         rotate_left
                         · simp only [Act.put, zA, zB, zC, i64_w, i32_w]
                           rfl
                         refine pure_ (i := 25) (N := some 96) (v := ?_) (a' := ?_) #[true, true, true, true, true, true, true, true, true, true, true, true, true, true, true, true, true, true, true, true, true, true, true, true, true, true] rfl rfl (any_of HT_.out (by kernel_rfl)) (fun _ _ _ h => h) (Or.inl ⟨by rfl, ?_⟩) ?_ ?_
                         rotate_left
                         · intro w'
                           go_simp
                           with_reducible rfl
                         rotate_left
                         · simp only [Act.put, zA, zB, zC, i64_w, i32_w]
                           rfl
                         refine done_ (done_of HT_.out (by kernel_rfl)) ?_
                         try go_wp2
                         go_ret
                         exact ⟨by first | rfl | (simp [errW_none, errW_some] <;> rfl) | (simp only [← hji14]; first | rfl | (simp [errW_none, errW_some] <;> rfl)) | (simp [*, errW_none, errW_some] <;> rfl), by repeat (first | (with_reducible first | exact HB.out | apply pbA | apply pbN | apply pbD | refine pbS ?_ GE983.out | refine pbS ?_ GE985.out) | exact HB.out)⟩
                     · rw [if_neg c38] at H
                       exact absurd H (by simp)
               · rw [if_neg c23] at H
                 exact absurd H (by simp)
             · rw [if_neg c22] at H
               exact absurd H (by simp)
           · rw [if_neg c21] at H
             have c21b0 : decide (x59_3 < (l2_3.length : Int)) = false := decide_eq_false c21
             clear c21
             by_cases c55 : a2_0 > 0
             · rw [if_pos c55] at H
               have c55b0 : decide (0 < a2_0) = true := decide_eq_true c55
               clear c55
               obtain rfl := Option.some.inj H
               have hcz56_0 : wr.cell? ⟨gb983, 0, none⟩ = some (.int .i64 a2_0) := (pkC BK983.out 0).trans rfl
               have hcz56_1 : wr.cell? ⟨gb983, 1, none⟩ = some (.int .i64 a2_1) := (pkC BK983.out 1).trans rfl
               have hcz56_2 : wr.cell? ⟨gb983, 2, none⟩ = some (.bool a2_2) := (pkC BK983.out 2).trans rfl
               have hcz56_3 : wr.cell? ⟨gb983, 3, none⟩ = some (.slice A2_3 l2_3.length c2_3) := (pkC BK983.out 3).trans rfl
               have hcz56_4 : wr.cell? ⟨gb983, 4, none⟩ = some (.slice A2_4 l2_4.length c2_4) := (pkC BK983.out 4).trans rfl
               have hfz56_0 := pkF BK983.out 0
               have hfz56_1 := pkF BK983.out 1
               have hfz56_2 := pkF BK983.out 2
               have hfz56_3 := pkF BK983.out 3
               have hfz56_4 := pkF BK983.out 4
               go_wp2
               go_ret
               exact ⟨by first | rfl | (simp [errW_none, errW_some] <;> rfl) | (simp only [← hji14]; first | rfl | (simp [errW_none, errW_some] <;> rfl)) | (simp [*, errW_none, errW_some] <;> rfl), by repeat (first | (with_reducible first | exact HB.out | apply pbA | apply pbN | apply pbD | refine pbS ?_ GE983.out) | exact HB.out)⟩
             · rw [if_neg c55] at H
               have c55b0 : decide (0 < a2_0) = false := decide_eq_false c55
               clear c55
               replace H := Option.bind_eq_some_iff.mp H
               obtain ⟨t988, A570, H⟩ := H
               replace H : (some (a0.toList == t988.toList)) = some r := H
               have A57 := Aside0.mk A570
               clear A570
               obtain rfl := Option.some.inj H
               have hcz58_0 : wr.cell? ⟨gb983, 0, none⟩ = some (.int .i64 a2_0) := (pkC BK983.out 0).trans rfl
               have hcz58_1 : wr.cell? ⟨gb983, 1, none⟩ = some (.int .i64 a2_1) := (pkC BK983.out 1).trans rfl
               have hcz58_2 : wr.cell? ⟨gb983, 2, none⟩ = some (.bool a2_2) := (pkC BK983.out 2).trans rfl
               have hcz58_3 : wr.cell? ⟨gb983, 3, none⟩ = some (.slice A2_3 l2_3.length c2_3) := (pkC BK983.out 3).trans rfl
               have hcz58_4 : wr.cell? ⟨gb983, 4, none⟩ = some (.slice A2_4 l2_4.length c2_4) := (pkC BK983.out 4).trans rfl
               have hfz58_0 := pkF BK983.out 0
               have hfz58_1 := pkF BK983.out 1
               have hfz58_2 := pkF BK983.out 2
               have hfz58_3 := pkF BK983.out 3
               have hfz58_4 := pkF BK983.out 4
               go_wp2_with (first | (go_at_call 129; (with_reducible refine (merkle_Top.calls 0 (⟨#[]⟩ : ByteArray) t988 _ A57.out).mono ?_); rintro e w59 ⟨rfl, hb⟩; have n0_ := Aside0.mk (blk_below (g := gb983) (o := .cells #[.int .i64 a2_0, .int .i64 a2_1, .bool a2_2, .slice A2_3 l2_3.length c2_3, .slice A2_4 l2_4.length c2_4] 82 (0, 0)) (by (with_reducible repeat (first | refine pkN ?_ _ | refine pkD ?_ | refine pkA ?_ _)); exact BK983.out) hb); have n1_ := Aside0.mk (below_step (by repeat (first | (with_reducible first | exact HB.out | apply pbA | apply pbN | apply pbD | refine pbS ?_ GE983.out) | exact HB.out)) hb); clear BK983; clear HB; have BK983 := n0_; have HB := n1_; clear n0_ n1_; (try clear hb); (try clear hb2); (try clear hk); (try clear hi)))
               go_ret
               exact ⟨by first | rfl | (simp [errW_none, errW_some] <;> rfl) | (simp only [← hji14]; first | rfl | (simp [errW_none, errW_some] <;> rfl)) | (simp [*, errW_none, errW_some] <;> rfl), by repeat (first | (with_reducible first | exact HB.out | apply pbA | apply pbN | apply pbD | refine pbS ?_ GE983.out) | exact HB.out)⟩
       · rw [if_neg c19] at H
         have c19b0 : ((l2_3.length : Int) == (wrap64 (x8_14 - ji14))) = false := beq_eq_false_iff_ne.mpr c19
         have c19b1 : ((l2_3.length : Int) != (wrap64 (x8_14 - ji14))) = true := bne_iff_ne.mpr c19
         obtain rfl := Option.some.inj H
         have hcz60_0 : wc.cell? ⟨gb983, 0, none⟩ = some (.int .i64 a2_0) := (pkC BK983.out 0).trans rfl
         have hcz60_1 : wc.cell? ⟨gb983, 1, none⟩ = some (.int .i64 a2_1) := (pkC BK983.out 1).trans rfl
         have hcz60_2 : wc.cell? ⟨gb983, 2, none⟩ = some (.bool a2_2) := (pkC BK983.out 2).trans rfl
         have hcz60_3 : wc.cell? ⟨gb983, 3, none⟩ = some (.slice A2_3 l2_3.length c2_3) := (pkC BK983.out 3).trans rfl
         have hcz60_4 : wc.cell? ⟨gb983, 4, none⟩ = some (.slice A2_4 l2_4.length c2_4) := (pkC BK983.out 4).trans rfl
         have hfz60_0 := pkF BK983.out 0
         have hfz60_1 := pkF BK983.out 1
         have hfz60_2 := pkF BK983.out 2
         have hfz60_3 := pkF BK983.out 3
         have hfz60_4 := pkF BK983.out 4
         go_wp2
         go_ret
         exact ⟨by first | rfl | (simp [errW_none, errW_some] <;> rfl) | (simp only [← hji14]; first | rfl | (simp [errW_none, errW_some] <;> rfl)) | (simp [*, errW_none, errW_some] <;> rfl), by repeat (first | (with_reducible first | exact HB.out | apply pbA | apply pbN | apply pbD | refine pbS ?_ GE983.out) | exact HB.out)⟩
end Go.Proofs.Ytipgldfbjlhpoab.P
