import Derived.Test.YtipgldfbjlhpoabZdP0
import Derived.Test.YtipgldfbjlhpoabZdPRWireR
import Derived.Test.YtipgldfbjlhpoabZdHMerkle
-- Printed by wip/myprint.py.
namespace Go.Proofs.Ytipgldfbjlhpoab.P
open Go.RowKit Go.Proofs.YtipgldfbjlhpoabW.PrintWords Go.Proofs.YtipgldfbjlhpoabW.PrintLast Go.Proofs.YtipgldfbjlhpoabW.PrintMore
attribute [local go_sem] max2_int min2_int max_two min_two max_three min_three max_four min_four   -- for this text's walks alone
attribute [local go_sem] geq_str gtr_str
set_option linter.unusedVariables false
set_option linter.unusedSimpArgs false
mutual
def proof_walk.j0 : Nat → Int → Int → ByteArray → List ByteArray → Bool → Option (ByteArray × Bool)
 | 0, _, _, _, _, _ => none
 | k + 1, x0, x1, x2, x3, x16 => if x16 = true then (some ((⟨#[]⟩ : ByteArray), false)) else (if x0 = 1 then (some (x2, ((x3.length : Int) == 0))) else (if (x3.length : Int) = 0 then (some ((⟨#[]⟩ : ByteArray), false)) else ((merkle_Split.f x0).bind fun t963 => (if x1 < t963 then (if 0 ≤ (wrap64 ((x3.length : Int) - 1)) then (if (wrap64 ((x3.length : Int) - 1)) ≤ (x3.length : Int) then ((proof_walk.f k t963 x1 x2 (x3.take ((wrap64 ((x3.length : Int) - 1)) : Int).toNat)).bind fun bt965 => (if (wrap64 ((x3.length : Int) - 1)) < (x3.length : Int) then ((merkle_Node.f bt965.1 (rdOf ByteArray.empty x3 (wrap64 ((x3.length : Int) - 1)))).bind fun t968 => (some (t968, bt965.2))) else (none))) else (none)) else (none)) else (if 0 ≤ (wrap64 ((x3.length : Int) - 1)) then (if (wrap64 ((x3.length : Int) - 1)) ≤ (x3.length : Int) then ((proof_walk.f k (wrap64 (x0 - t963)) (wrap64 (x1 - t963)) x2 (x3.take ((wrap64 ((x3.length : Int) - 1)) : Int).toNat)).bind fun bt970 => (if (wrap64 ((x3.length : Int) - 1)) < (x3.length : Int) then ((merkle_Node.f (rdOf ByteArray.empty x3 (wrap64 ((x3.length : Int) - 1))) bt970.1).bind fun t973 => (some (t973, bt970.2))) else (none))) else (none)) else (none))))))
def proof_walk.f : Nat → Int → Int → ByteArray → List ByteArray → Option (ByteArray × Bool)
 | 0, _, _, _, _ => none
 | k + 1, a0, a1, a2, l3 => if a1 < 0 then (proof_walk.j0 k a0 a1 a2 l3 true) else (proof_walk.j0 k a0 a1 a2 l3 (decide (a1 ≥ a0)))
end
set_option maxHeartbeats 8000000 in
set_option maxRecDepth 100000 in
theorem proof_walk.calls (k : Nat) : ∀ (a0 : Int) (a1 : Int) (a2 : ByteArray) (A3 : Option Addr) (c3 : Nat) (l3 : List ByteArray) (r1 : ByteArray) (r2 : Bool) (w : World) (hr3 : Kd.C Kd.string w A3 l3.length l3) (hc3 : l3.length ≤ c3) (h : proof_walk.f k a0 a1 a2 l3 = some (r1, r2)),
  Calls Try.prog 163 #[.int .i64 a0, .int .i64 a1, .string a2, .slice A3 l3.length c3] w fun e w' => e = .returned (.tuple #[.string r1, .bool r2]) ∧ Below w.heap.size w w' := by
 induction k using Nat.strongRecOn with
 | _ k ih =>
 intro a0 a1 a2 A3 c3 l3 r1 r2 w hr3 hc3 h
 cases k with
 | zero => exact absurd h (by simp [proof_walk.f])
 | succ k =>
 simp only [proof_walk.f] at h
 have HR3 := Aside0.mk hr3
 have HC3 := Aside0.mk hc3
 clear hr3 hc3
 have HB := Aside0.mk (Below.refl w.heap.size w)
 have H : (if a1 < 0 then (proof_walk.j0 k a0 a1 a2 l3 true) else (proof_walk.j0 k a0 a1 a2 l3 (decide (a1 ≥ a0)))) = some (r1, r2) := h
 clear h
 have HC5 := Aside0.mk H
 clear H
 go_enter Try.func163, Try.ntmps163
 go_upto_region 1 with (fail)
 go_cut [16] (fun v16 wc => ∃ (kq : Nat) (x16_4 : Bool), v16 = .bool x16_4 ∧ Aside0 (proof_walk.j0 kq a0 a1 a2 l3 x16_4 = some (r1, r2)) ∧ Aside0 (kq ≤ k) ∧ Aside0 (Below w.heap.size w wc))
 case first =>
  have H := HC5.out
  clear HC5
  by_cases c6 : a1 < 0
  · rw [if_pos c6] at H
    have c6b0 : decide (a1 < 0) = true := decide_eq_true c6
    clear c6
    (first | rw [c6b0] | (simp only [i64_w, i32_w]; rw [c6b0]) | skip)
    have H' := Aside0.mk H
    clear H
    go_wp2
    go_meet
    case rel => exact ⟨_, (true), (by first | rfl | (simp; done) | (simp [*]; done)), H', ⟨by first | omega | exact Nat.le_refl _⟩, ⟨by repeat (first | (with_reducible first | exact HB.out | apply pbA | apply pbN | apply pbD) | exact HB.out)⟩⟩
  · rw [if_neg c6] at H
    have c6b0 : decide (a1 < 0) = false := decide_eq_false c6
    clear c6
    (first | rw [c6b0] | (simp only [i64_w, i32_w]; rw [c6b0]) | skip)
    have H' := Aside0.mk H
    clear H
    go_wp2
    go_meet
    case rel => exact ⟨_, (decide (a1 ≥ a0)), (by first | rfl | (simp; done) | (simp [*]; done)), H', ⟨by first | omega | exact Nat.le_refl _⟩, ⟨by repeat (first | (with_reducible first | exact HB.out | apply pbA | apply pbN | apply pbD) | exact HB.out)⟩⟩
 case rest =>
  clear HC5
  try clear c1
  try clear p2
  try clear c3
  try clear c6
  try clear c6b0
  obtain ⟨kq, x16_4, rfl, HA, HJ4, HB⟩ := hcut
  cases kq with
  | zero => exact absurd HA.out (by simp [proof_walk.j0])
  | succ kj4 =>
   have H := HA.out
   clear HA
   simp only [proof_walk.j0] at H
   by_cases c7 : x16_4 = true
   · subst c7
     have H1 : (some ((⟨#[]⟩ : ByteArray), false)) = some (r1, r2) := by rw [if_pos rfl] at H; exact H
     clear H
     have H := H1
     clear H1
     simp only [Option.some.injEq, Prod.mk.injEq] at H
     obtain ⟨rfl, rfl⟩ := H
     go_wp2
     go_ret2
     exact ⟨by first | rfl | (simp [errW_none, errW_some] <;> rfl) | (simp [*, errW_none, errW_some] <;> rfl), by repeat (first | (with_reducible first | exact HB.out | apply pbA | apply pbN | apply pbD) | exact HB.out)⟩
   · replace c7 := Bool.eq_false_iff.mpr c7
     subst c7
     have H1 : (if a0 = 1 then (some (a2, ((l3.length : Int) == 0))) else (if (l3.length : Int) = 0 then (some ((⟨#[]⟩ : ByteArray), false)) else ((merkle_Split.f a0).bind fun t963 => (if a1 < t963 then (if 0 ≤ (wrap64 ((l3.length : Int) - 1)) then (if (wrap64 ((l3.length : Int) - 1)) ≤ (l3.length : Int) then ((proof_walk.f kj4 t963 a1 a2 (l3.take ((wrap64 ((l3.length : Int) - 1)) : Int).toNat)).bind fun bt965 => (if (wrap64 ((l3.length : Int) - 1)) < (l3.length : Int) then ((merkle_Node.f bt965.1 (rdOf ByteArray.empty l3 (wrap64 ((l3.length : Int) - 1)))).bind fun t968 => (some (t968, bt965.2))) else (none))) else (none)) else (none)) else (if 0 ≤ (wrap64 ((l3.length : Int) - 1)) then (if (wrap64 ((l3.length : Int) - 1)) ≤ (l3.length : Int) then ((proof_walk.f kj4 (wrap64 (a0 - t963)) (wrap64 (a1 - t963)) a2 (l3.take ((wrap64 ((l3.length : Int) - 1)) : Int).toNat)).bind fun bt970 => (if (wrap64 ((l3.length : Int) - 1)) < (l3.length : Int) then ((merkle_Node.f (rdOf ByteArray.empty l3 (wrap64 ((l3.length : Int) - 1))) bt970.1).bind fun t973 => (some (t973, bt970.2))) else (none))) else (none)) else (none)))))) = some (r1, r2) := by rw [if_neg (show ¬ (false = true) by decide)] at H; exact H
     clear H
     have H := H1
     clear H1
     by_cases c8 : a0 = 1
     · rw [if_pos c8] at H
       have c8b0 : (a0 == 1) = true := beq_iff_eq.mpr c8
       have c8b1 : (a0 != 1) = false := bne_eq_false_iff_eq.mpr c8
       clear c8
       simp only [Option.some.injEq, Prod.mk.injEq] at H
       obtain ⟨rfl, rfl⟩ := H
       go_wp2
       go_ret2
       exact ⟨by first | rfl | (simp [errW_none, errW_some] <;> rfl) | (simp [*, errW_none, errW_some] <;> rfl), by repeat (first | (with_reducible first | exact HB.out | apply pbA | apply pbN | apply pbD) | exact HB.out)⟩
     · rw [if_neg c8] at H
       have c8b0 : (a0 == 1) = false := beq_eq_false_iff_ne.mpr c8
       have c8b1 : (a0 != 1) = true := bne_iff_ne.mpr c8
       by_cases c9 : (l3.length : Int) = 0
       · rw [if_pos c9] at H
         have c9b0 : ((l3.length : Int) == 0) = true := beq_iff_eq.mpr c9
         have c9b1 : ((l3.length : Int) != 0) = false := bne_eq_false_iff_eq.mpr c9
         clear c9
         simp only [Option.some.injEq, Prod.mk.injEq] at H
         obtain ⟨rfl, rfl⟩ := H
         go_wp2
         go_ret2
         exact ⟨by first | rfl | (simp [errW_none, errW_some] <;> rfl) | (simp [*, errW_none, errW_some] <;> rfl), by repeat (first | (with_reducible first | exact HB.out | apply pbA | apply pbN | apply pbD) | exact HB.out)⟩
       · rw [if_neg c9] at H
         have c9b0 : ((l3.length : Int) == 0) = false := beq_eq_false_iff_ne.mpr c9
         have c9b1 : ((l3.length : Int) != 0) = true := bne_iff_ne.mpr c9
         have c9b2 : ¬ (l3 = []) := fun h_ => c9 (by rw [h_]; rfl)
         replace H := Option.bind_eq_some_iff.mp H
         obtain ⟨t963, A100, H⟩ := H
         replace H : (if a1 < t963 then (if 0 ≤ (wrap64 ((l3.length : Int) - 1)) then (if (wrap64 ((l3.length : Int) - 1)) ≤ (l3.length : Int) then ((proof_walk.f kj4 t963 a1 a2 (l3.take ((wrap64 ((l3.length : Int) - 1)) : Int).toNat)).bind fun bt965 => (if (wrap64 ((l3.length : Int) - 1)) < (l3.length : Int) then ((merkle_Node.f bt965.1 (rdOf ByteArray.empty l3 (wrap64 ((l3.length : Int) - 1)))).bind fun t968 => (some (t968, bt965.2))) else (none))) else (none)) else (none)) else (if 0 ≤ (wrap64 ((l3.length : Int) - 1)) then (if (wrap64 ((l3.length : Int) - 1)) ≤ (l3.length : Int) then ((proof_walk.f kj4 (wrap64 (a0 - t963)) (wrap64 (a1 - t963)) a2 (l3.take ((wrap64 ((l3.length : Int) - 1)) : Int).toNat)).bind fun bt970 => (if (wrap64 ((l3.length : Int) - 1)) < (l3.length : Int) then ((merkle_Node.f (rdOf ByteArray.empty l3 (wrap64 ((l3.length : Int) - 1))) bt970.1).bind fun t973 => (some (t973, bt970.2))) else (none))) else (none)) else (none))) = some (r1, r2) := H
         have A10 := Aside0.mk A100
         clear A100
         by_cases c11 : a1 < t963
         · rw [if_pos c11] at H
           have c11b0 : decide (a1 < t963) = true := decide_eq_true c11
           clear c11
           obtain ⟨ji12, hji12⟩ : ∃ j_ : Int, (wrap64 ((l3.length : Int) - 1)) = j_ := ⟨_, rfl⟩
           replace H : (if 0 ≤ (ji12) then (if (ji12) ≤ (l3.length : Int) then ((proof_walk.f kj4 t963 a1 a2 (l3.take ((ji12) : Int).toNat)).bind fun bt965 => (if (ji12) < (l3.length : Int) then ((merkle_Node.f bt965.1 (rdOf ByteArray.empty l3 (ji12))).bind fun t968 => (some (t968, bt965.2))) else (none))) else (none)) else (none)) = some (r1, r2) := by first | (rw [hji12] at H; exact H) | (simp only [hji12] at H ⊢; exact H)
           (try rw [hji12] at A10)
           have hji12w : (IntKind.i64.wrap ((l3.length : Int) - 1)) = ji12 := (i64_w _).trans hji12
           by_cases c13 : 0 ≤ (ji12)
           · rw [if_pos c13] at H
             have c13b0 := eq_true c13
             have c13b1 : decide (0 ≤ (ji12)) = true := decide_eq_true c13
             clear c13
             by_cases c14 : (ji12) ≤ (l3.length : Int)
             · rw [if_pos c14] at H
               have c14b0 := eq_true c14
               have c14b1 : decide ((ji12) ≤ (l3.length : Int)) = true := decide_eq_true c14
               clear c14
               replace H := Option.bind_eq_some_iff.mp H
               obtain ⟨⟨t965, t966⟩, A150, H⟩ := H
               replace H : (if (ji12) < (l3.length : Int) then ((merkle_Node.f t965 (rdOf ByteArray.empty l3 (ji12))).bind fun t968 => (some (t968, t966))) else (none)) = some (r1, r2) := H
               have A15 := Aside0.mk A150
               clear A150
               by_cases c16 : (ji12) < (l3.length : Int)
               · rw [if_pos c16] at H
                 have c16b0 : decide ((ji12) < (l3.length : Int)) = true := decide_eq_true c16
                 clear c16
                 replace H := Option.bind_eq_some_iff.mp H
                 obtain ⟨t968, A170, H⟩ := H
                 replace H : (some (t968, t966)) = some (r1, r2) := H
                 have A17 := Aside0.mk A170
                 clear A170
                 simp only [Option.some.injEq, Prod.mk.injEq] at H
                 obtain ⟨rfl, rfl⟩ := H
                 go_wp2_with (first | ((with_reducible refine gate_callee (f := 158) rfl ?_); refine goesL_ (some 39) rfl rfl Try.func158 (by kernel_rfl) rfl #[.int .i64 a0] rfl (by (try simp only [List.map_toArray, List.map_cons, List.map_nil]); first | done | rfl | (simp only [List.length_drop, List.length_take]; rfl)) ?_; (with_reducible refine (merkle_Split.calls a0 t963 _ A10.out).mono ?_); rintro e w' ⟨rfl, ⟨nd, rfl⟩⟩; refine ⟨_, rfl, ?_⟩; obtain ⟨i018, hi018, _, hsz18, _⟩ := info_parts info9; obtain ⟨hcut18, hA18, hC18⟩ := print_take_of (P := Try.prog) Value.string (⟨#[]⟩ : ByteArray) 63 9 .i64 Try.underlying63 hi018 hsz18 A3 c3 l3 (ji12) (of_decide_eq_true (by first | (with_reducible assumption) | assumption)) (of_decide_eq_true (by first | (with_reducible assumption) | assumption)) HC3.out; have HR964 := Aside0.mk (Kd.C_of_reads (h1 := fun _ => rfl) (hA18 _ (Kd.reads_of_C HR3.out))); have HC964 := Aside0.mk hC18; clear hA18 hC18 hi018 hsz18) | ((with_reducible refine gate_callee (f := 163) rfl ?_); refine goesL_ (some 50) rfl rfl Try.func163 (by kernel_rfl) rfl #[.int .i64 t963, .int .i64 a1, .string a2, .slice A3 (l3.take ((ji12) : Int).toNat).length c3] rfl (by (try simp only [List.map_toArray, List.map_cons, List.map_nil]); first | done | (rw [show (l3.take ((ji12) : Int).toNat).length = (ji12).toNat from (by rw [List.length_take]; have h_ : ((ji12) : Int) ≤ (l3.length : Int) := of_decide_eq_true (by first | (with_reducible assumption) | assumption); omega)] <;> rfl) | (simp only [hji12]; rfl) | rfl | (simp only [List.length_drop, List.length_take]; rfl)) ?_; (with_reducible refine (ih kj4 (by have := HJ4.out; omega) t963 a1 a2 _ _ (l3.take ((ji12) : Int).toNat) t965 t966 _ ?side1 ?side2 A15.out).mono ?_); (case side1 => repeat (first | exact (Kd.C_below HR964.out (by repeat (first | (with_reducible first | exact HB.out | apply pbA | apply pbN | apply pbD) | exact HB.out))) | (with_reducible refine Kd.C_alloc ?_ _) | (with_reducible refine Kd.C_drewN ?_ _) | (with_reducible refine Kd.C_drew ?_))); (case side2 => exact HC964.out); rintro e w19 ⟨rfl, hb⟩; refine ⟨_, rfl, ?_⟩; have n0_ := Aside0.mk (below_step (by repeat (first | (with_reducible first | exact HB.out | apply pbA | apply pbN | apply pbD) | exact HB.out)) hb); clear HB; have HB := n0_; clear n0_; (try clear hb); (try clear hb2); (try clear hk); (try clear hi); have p967 : 0 ≤ ((ji12) : Int) := of_decide_eq_true (by first | (with_reducible assumption) | assumption); have q967 : (ji12) < (l3.length : Int) := of_decide_eq_true (by first | (with_reducible assumption) | assumption); obtain ⟨ad967, e967, hx967_0⟩ := Kd.at_string HR3.out (ji12) p967 q967; cases e967; replace hx967_0 := (HB.out.cell (World.block_lt_of_cell? w _ hx967_0)).trans hx967_0; replace p967 := eq_true p967; replace q967 := eq_true q967) | ((with_reducible refine gate_callee (f := 133) rfl ?_); refine goesL_ (some 58) rfl rfl Try.func133 (by kernel_rfl) rfl #[.string t965, .string (rdOf ByteArray.empty l3 (ji12))] rfl (by (try simp only [List.map_toArray, List.map_cons, List.map_nil]); first | done | (simp only [hji12]; rfl) | rfl | (simp only [List.length_drop, List.length_take]; rfl)) ?_; (with_reducible refine (merkle_Node.calls t965 (rdOf ByteArray.empty l3 (ji12)) t968 _ A17.out).mono ?_); rintro e w20 ⟨rfl, hb⟩; refine ⟨_, rfl, ?_⟩; have n0_ := Aside0.mk (below_step (by repeat (first | (with_reducible first | exact HB.out | apply pbA | apply pbN | apply pbD) | exact HB.out)) hb); clear HB; have HB := n0_; clear n0_; (try clear hb); (try clear hb2); (try clear hk); (try clear hi)))
                 go_ret2
                 exact ⟨by first | rfl | (simp [errW_none, errW_some] <;> rfl) | (simp only [← hji12]; first | rfl | (simp [errW_none, errW_some] <;> rfl)) | (simp [*, errW_none, errW_some] <;> rfl), by repeat (first | (with_reducible first | exact HB.out | apply pbA | apply pbN | apply pbD) | exact HB.out)⟩
               · rw [if_neg c16] at H
                 exact absurd H (by simp)
             · rw [if_neg c14] at H
               exact absurd H (by simp)
           · rw [if_neg c13] at H
             exact absurd H (by simp)
         · rw [if_neg c11] at H
           have c11b0 : decide (a1 < t963) = false := decide_eq_false c11
           clear c11
           obtain ⟨ji21, hji21⟩ : ∃ j_ : Int, (wrap64 ((l3.length : Int) - 1)) = j_ := ⟨_, rfl⟩
           replace H : (if 0 ≤ (ji21) then (if (ji21) ≤ (l3.length : Int) then ((proof_walk.f kj4 (wrap64 (a0 - t963)) (wrap64 (a1 - t963)) a2 (l3.take ((ji21) : Int).toNat)).bind fun bt970 => (if (ji21) < (l3.length : Int) then ((merkle_Node.f (rdOf ByteArray.empty l3 (ji21)) bt970.1).bind fun t973 => (some (t973, bt970.2))) else (none))) else (none)) else (none)) = some (r1, r2) := by first | (rw [hji21] at H; exact H) | (simp only [hji21] at H ⊢; exact H)
           (try rw [hji21] at A10)
           have hji21w : (IntKind.i64.wrap ((l3.length : Int) - 1)) = ji21 := (i64_w _).trans hji21
           by_cases c22 : 0 ≤ (ji21)
           · rw [if_pos c22] at H
             have c22b0 := eq_true c22
             have c22b1 : decide (0 ≤ (ji21)) = true := decide_eq_true c22
             clear c22
             by_cases c23 : (ji21) ≤ (l3.length : Int)
             · rw [if_pos c23] at H
               have c23b0 := eq_true c23
               have c23b1 : decide ((ji21) ≤ (l3.length : Int)) = true := decide_eq_true c23
               clear c23
               replace H := Option.bind_eq_some_iff.mp H
               obtain ⟨⟨t970, t971⟩, A240, H⟩ := H
               replace H : (if (ji21) < (l3.length : Int) then ((merkle_Node.f (rdOf ByteArray.empty l3 (ji21)) t970).bind fun t973 => (some (t973, t971))) else (none)) = some (r1, r2) := H
               have A24 := Aside0.mk A240
               clear A240
               by_cases c25 : (ji21) < (l3.length : Int)
               · rw [if_pos c25] at H
                 have c25b0 : decide ((ji21) < (l3.length : Int)) = true := decide_eq_true c25
                 clear c25
                 replace H := Option.bind_eq_some_iff.mp H
                 obtain ⟨t973, A260, H⟩ := H
                 replace H : (some (t973, t971)) = some (r1, r2) := H
                 have A26 := Aside0.mk A260
                 clear A260
                 simp only [Option.some.injEq, Prod.mk.injEq] at H
                 obtain ⟨rfl, rfl⟩ := H
                 go_wp2_with (first | ((with_reducible refine gate_callee (f := 158) rfl ?_); refine goesL_ (some 39) rfl rfl Try.func158 (by kernel_rfl) rfl #[.int .i64 a0] rfl (by (try simp only [List.map_toArray, List.map_cons, List.map_nil]); first | done | rfl | (simp only [List.length_drop, List.length_take]; rfl)) ?_; (with_reducible refine (merkle_Split.calls a0 t963 _ A10.out).mono ?_); rintro e w' ⟨rfl, ⟨nd, rfl⟩⟩; refine ⟨_, rfl, ?_⟩; obtain ⟨i027, hi027, _, hsz27, _⟩ := info_parts info9; obtain ⟨hcut27, hA27, hC27⟩ := print_take_of (P := Try.prog) Value.string (⟨#[]⟩ : ByteArray) 63 9 .i64 Try.underlying63 hi027 hsz27 A3 c3 l3 (ji21) (of_decide_eq_true (by first | (with_reducible assumption) | assumption)) (of_decide_eq_true (by first | (with_reducible assumption) | assumption)) HC3.out; have HR969 := Aside0.mk (Kd.C_of_reads (h1 := fun _ => rfl) (hA27 _ (Kd.reads_of_C HR3.out))); have HC969 := Aside0.mk hC27; clear hA27 hC27 hi027 hsz27) | ((with_reducible refine gate_callee (f := 163) rfl ?_); refine goesL_ (some 71) rfl rfl Try.func163 (by kernel_rfl) rfl #[.int .i64 (wrap64 (a0 - t963)), .int .i64 (wrap64 (a1 - t963)), .string a2, .slice A3 (l3.take ((ji21) : Int).toNat).length c3] rfl (by (try simp only [List.map_toArray, List.map_cons, List.map_nil]); first | done | (rw [show (l3.take ((ji21) : Int).toNat).length = (ji21).toNat from (by rw [List.length_take]; have h_ : ((ji21) : Int) ≤ (l3.length : Int) := of_decide_eq_true (by first | (with_reducible assumption) | assumption); omega)] <;> rfl) | (simp only [hji21]; rfl) | rfl | (simp only [List.length_drop, List.length_take]; rfl)) ?_; (with_reducible refine (ih kj4 (by have := HJ4.out; omega) (wrap64 (a0 - t963)) (wrap64 (a1 - t963)) a2 _ _ (l3.take ((ji21) : Int).toNat) t970 t971 _ ?side1 ?side2 A24.out).mono ?_); (case side1 => repeat (first | exact (Kd.C_below HR969.out (by repeat (first | (with_reducible first | exact HB.out | apply pbA | apply pbN | apply pbD) | exact HB.out))) | (with_reducible refine Kd.C_alloc ?_ _) | (with_reducible refine Kd.C_drewN ?_ _) | (with_reducible refine Kd.C_drew ?_))); (case side2 => exact HC969.out); rintro e w28 ⟨rfl, hb⟩; refine ⟨_, rfl, ?_⟩; have n0_ := Aside0.mk (below_step (by repeat (first | (with_reducible first | exact HB.out | apply pbA | apply pbN | apply pbD) | exact HB.out)) hb); clear HB; have HB := n0_; clear n0_; (try clear hb); (try clear hb2); (try clear hk); (try clear hi); have p972 : 0 ≤ ((ji21) : Int) := of_decide_eq_true (by first | (with_reducible assumption) | assumption); have q972 : (ji21) < (l3.length : Int) := of_decide_eq_true (by first | (with_reducible assumption) | assumption); obtain ⟨ad972, e972, hx972_0⟩ := Kd.at_string HR3.out (ji21) p972 q972; cases e972; replace hx972_0 := (HB.out.cell (World.block_lt_of_cell? w _ hx972_0)).trans hx972_0; replace p972 := eq_true p972; replace q972 := eq_true q972) | ((with_reducible refine gate_callee (f := 133) rfl ?_); refine goesL_ (some 79) rfl rfl Try.func133 (by kernel_rfl) rfl #[.string (rdOf ByteArray.empty l3 (ji21)), .string t970] rfl (by (try simp only [List.map_toArray, List.map_cons, List.map_nil]); first | done | (simp only [hji21]; rfl) | rfl | (simp only [List.length_drop, List.length_take]; rfl)) ?_; (with_reducible refine (merkle_Node.calls (rdOf ByteArray.empty l3 (ji21)) t970 t973 _ A26.out).mono ?_); rintro e w29 ⟨rfl, hb⟩; refine ⟨_, rfl, ?_⟩; have n0_ := Aside0.mk (below_step (by repeat (first | (with_reducible first | exact HB.out | apply pbA | apply pbN | apply pbD) | exact HB.out)) hb); clear HB; have HB := n0_; clear n0_; (try clear hb); (try clear hb2); (try clear hk); (try clear hi)))
                 go_ret2
                 exact ⟨by first | rfl | (simp [errW_none, errW_some] <;> rfl) | (simp only [← hji21]; first | rfl | (simp [errW_none, errW_some] <;> rfl)) | (simp [*, errW_none, errW_some] <;> rfl), by repeat (first | (with_reducible first | exact HB.out | apply pbA | apply pbN | apply pbD) | exact HB.out)⟩
               · rw [if_neg c25] at H
                 exact absurd H (by simp)
             · rw [if_neg c23] at H
               exact absurd H (by simp)
           · rw [if_neg c22] at H
             exact absurd H (by simp)
def proof_leads.f (k : Nat) (a0 : ByteArray) (a1_0 : ByteArray) (a1_1 : ByteArray) (a2 : Int) (a3 : Int) (l4 : List ByteArray) : Option (Bool) := (merkle_Leaf.f a1_0 a1_1).bind fun t975 => ((proof_walk.f k a2 a3 t975 l4).bind fun bt976 => (if bt976.2 = true then ((merkle_Top.f a2 bt976.1).bind fun t978 => (some (t978.toList == a0.toList))) else (some false)))
set_option maxHeartbeats 8000000 in
set_option maxRecDepth 100000 in
theorem proof_leads.calls (k : Nat) (a0 : ByteArray) (a1_0 : ByteArray) (a1_1 : ByteArray) (a2 : Int) (a3 : Int) (A4 : Option Addr) (c4 : Nat) (l4 : List ByteArray) (r : Bool) (w : World) (hr4 : Kd.C Kd.string w A4 l4.length l4) (hc4 : l4.length ≤ c4) (h : proof_leads.f k a0 a1_0 a1_1 a2 a3 l4 = some r) :
  Calls Try.prog 128 #[.string a0, .agg #[.string a1_0, .string a1_1], .int .i64 a2, .int .i64 a3, .slice A4 l4.length c4] w fun e w' => e = .returned (.bool r) ∧ Below w.heap.size w w' := by
 have hu86 := Try.underlying86
 have HR4 := Aside0.mk hr4
 have HC4 := Aside0.mk hc4
 clear hr4 hc4
 have HB := Aside0.mk (Below.refl w.heap.size w)
 have H : ((merkle_Leaf.f a1_0 a1_1).bind fun t975 => ((proof_walk.f k a2 a3 t975 l4).bind fun bt976 => (if bt976.2 = true then ((merkle_Top.f a2 bt976.1).bind fun t978 => (some (t978.toList == a0.toList))) else (some false)))) = some r := h
 clear h
 replace H := Option.bind_eq_some_iff.mp H
 obtain ⟨t975, A60, H⟩ := H
 replace H : ((proof_walk.f k a2 a3 t975 l4).bind fun bt976 => (if bt976.2 = true then ((merkle_Top.f a2 bt976.1).bind fun t978 => (some (t978.toList == a0.toList))) else (some false))) = some r := H
 have A6 := Aside0.mk A60
 clear A60
 replace H := Option.bind_eq_some_iff.mp H
 obtain ⟨⟨t976, t977⟩, A70, H⟩ := H
 replace H : (if t977 = true then ((merkle_Top.f a2 t976).bind fun t978 => (some (t978.toList == a0.toList))) else (some false)) = some r := H
 have A7 := Aside0.mk A70
 clear A70
 by_cases c8 : t977 = true
 · subst c8
   have H1 : ((merkle_Top.f a2 t976).bind fun t978 => (some (t978.toList == a0.toList))) = some r := by rw [if_pos rfl] at H; exact H
   clear H
   have H := H1
   clear H1
   replace H := Option.bind_eq_some_iff.mp H
   obtain ⟨t978, A90, H⟩ := H
   replace H : (some (t978.toList == a0.toList)) = some r := H
   have A9 := Aside0.mk A90
   clear A90
   obtain rfl := Option.some.inj H
   go_enter Try.func128, Try.ntmps128
   go_wp2_with (first | ((with_reducible refine gate_dst (N := 6) rfl ?_); refine box_event ?hg (N := 6) ?hd (cs := #[.string a1_0, .string a1_1]) (t := 86) ?hr ?_; (case hd => rfl); (case hg => rfl); (case hr => first | (go_simp; done) | (go_simp; rfl)); intro gb974 hg w10 hbox hb; have n0_ := Aside0.mk (below_step (by repeat (first | (with_reducible first | exact HB.out | apply pbA | apply pbN | apply pbD) | exact HB.out)) hb); have n1_ := Aside0.mk (hbox); have n2_ := Aside0.mk ((by rw [hg]; exact (below_size (by repeat (first | (with_reducible first | exact HB.out | apply pbA | apply pbN | apply pbD) | exact HB.out))) : w.heap.size ≤ gb974)); have n3_ := Aside0.mk ((by rw [hg]; exact (below_size (by repeat (first | (with_reducible first | exact HB.out | apply pbA | apply pbN | apply pbD) | exact HB.out))) : w.heap.size ≤ gb974)); clear HB; have HB := n0_; have BK974 := n1_; have GW974 := n2_; have GE974 := n3_; clear n0_ n1_ n2_ n3_; clear hb hbox hg; have hcz11_0 : w10.cell? ⟨gb974, 0, none⟩ = some (.string a1_0) := (pkC BK974.out 0).trans rfl; have hcz11_1 : w10.cell? ⟨gb974, 1, none⟩ = some (.string a1_1) := (pkC BK974.out 1).trans rfl; have hfz11_0 := pkF BK974.out 0; have hfz11_1 := pkF BK974.out 1) | ((with_reducible refine gate_callee (f := 119) rfl ?_); refine goesL_ (some 17) rfl rfl Try.func119 (by kernel_rfl) rfl #[.agg #[.string a1_0, .string a1_1]] rfl (by (try simp only [List.map_toArray, List.map_cons, List.map_nil]); first | done | rfl | (simp only [List.length_drop, List.length_take]; rfl)) ?_; (with_reducible refine (merkle_Leaf.calls a1_0 a1_1 t975 _ A6.out).mono ?_); rintro e w12 ⟨rfl, hb⟩; refine ⟨_, rfl, ?_⟩; have n0_ := Aside0.mk (blk_below (g := gb974) (o := .cells #[.string a1_0, .string a1_1] 86 (0, 0)) (by (with_reducible repeat (first | refine pkN ?_ _ | refine pkD ?_ | refine pkA ?_ _)); exact BK974.out) hb); have n1_ := Aside0.mk (below_step (by repeat (first | (with_reducible first | exact HB.out | apply pbA | apply pbN | apply pbD | refine pbS ?_ GE974.out) | exact HB.out)) hb); clear BK974; clear HB; have BK974 := n0_; have HB := n1_; clear n0_ n1_; (try clear hb); (try clear hb2); (try clear hk); (try clear hi)) | ((with_reducible refine gate_callee (f := 163) rfl ?_); refine goesL_ (some 19) rfl rfl Try.func163 (by kernel_rfl) rfl #[.int .i64 a2, .int .i64 a3, .string t975, .slice A4 l4.length c4] rfl (by (try simp only [List.map_toArray, List.map_cons, List.map_nil]); first | done | rfl | (simp only [List.length_drop, List.length_take]; rfl)) ?_; (with_reducible refine (proof_walk.calls k a2 a3 t975 _ _ l4 t976 true _ ?side1 ?side2 A7.out).mono ?_); (case side1 => repeat (first | exact (Kd.C_below HR4.out HB.out) | (with_reducible refine Kd.C_alloc ?_ _) | (with_reducible refine Kd.C_drewN ?_ _) | (with_reducible refine Kd.C_drew ?_))); (case side2 => exact HC4.out); rintro e w13 ⟨rfl, hb⟩; refine ⟨_, rfl, ?_⟩; have n0_ := Aside0.mk (blk_below (g := gb974) (o := .cells #[.string a1_0, .string a1_1] 86 (0, 0)) (by (with_reducible repeat (first | refine pkN ?_ _ | refine pkD ?_ | refine pkA ?_ _)); exact BK974.out) hb); have n1_ := Aside0.mk (below_step (by repeat (first | (with_reducible first | exact HB.out | apply pbA | apply pbN | apply pbD | refine pbS ?_ GE974.out) | exact HB.out)) hb); clear BK974; clear HB; have BK974 := n0_; have HB := n1_; clear n0_ n1_; (try clear hb); (try clear hb2); (try clear hk); (try clear hi)) | (go_at_call 129; (with_reducible refine (merkle_Top.calls a2 t976 t978 _ A9.out).mono ?_); rintro e w14 ⟨rfl, hb⟩; have n0_ := Aside0.mk (blk_below (g := gb974) (o := .cells #[.string a1_0, .string a1_1] 86 (0, 0)) (by (with_reducible repeat (first | refine pkN ?_ _ | refine pkD ?_ | refine pkA ?_ _)); exact BK974.out) hb); have n1_ := Aside0.mk (below_step (by repeat (first | (with_reducible first | exact HB.out | apply pbA | apply pbN | apply pbD | refine pbS ?_ GE974.out) | exact HB.out)) hb); clear BK974; clear HB; have BK974 := n0_; have HB := n1_; clear n0_ n1_; (try clear hb); (try clear hb2); (try clear hk); (try clear hi)))
   go_ret
   exact ⟨by first | rfl | (simp [errW_none, errW_some] <;> rfl) | (simp [*, errW_none, errW_some] <;> rfl), by repeat (first | (with_reducible first | exact HB.out | apply pbA | apply pbN | apply pbD | refine pbS ?_ GE974.out) | exact HB.out)⟩
 · replace c8 := Bool.eq_false_iff.mpr c8
   subst c8
   have H1 : (some false) = some r := by rw [if_neg (show ¬ (false = true) by decide)] at H; exact H
   clear H
   have H := H1
   clear H1
   obtain rfl := Option.some.inj H
   go_enter Try.func128, Try.ntmps128
   go_wp2_with (first | ((with_reducible refine gate_dst (N := 6) rfl ?_); refine box_event ?hg (N := 6) ?hd (cs := #[.string a1_0, .string a1_1]) (t := 86) ?hr ?_; (case hd => rfl); (case hg => rfl); (case hr => first | (go_simp; done) | (go_simp; rfl)); intro gb974 hg w15 hbox hb; have n0_ := Aside0.mk (below_step (by repeat (first | (with_reducible first | exact HB.out | apply pbA | apply pbN | apply pbD) | exact HB.out)) hb); have n1_ := Aside0.mk (hbox); have n2_ := Aside0.mk ((by rw [hg]; exact (below_size (by repeat (first | (with_reducible first | exact HB.out | apply pbA | apply pbN | apply pbD) | exact HB.out))) : w.heap.size ≤ gb974)); have n3_ := Aside0.mk ((by rw [hg]; exact (below_size (by repeat (first | (with_reducible first | exact HB.out | apply pbA | apply pbN | apply pbD) | exact HB.out))) : w.heap.size ≤ gb974)); clear HB; have HB := n0_; have BK974 := n1_; have GW974 := n2_; have GE974 := n3_; clear n0_ n1_ n2_ n3_; clear hb hbox hg; have hcz16_0 : w15.cell? ⟨gb974, 0, none⟩ = some (.string a1_0) := (pkC BK974.out 0).trans rfl; have hcz16_1 : w15.cell? ⟨gb974, 1, none⟩ = some (.string a1_1) := (pkC BK974.out 1).trans rfl; have hfz16_0 := pkF BK974.out 0; have hfz16_1 := pkF BK974.out 1) | ((with_reducible refine gate_callee (f := 119) rfl ?_); refine goesL_ (some 17) rfl rfl Try.func119 (by kernel_rfl) rfl #[.agg #[.string a1_0, .string a1_1]] rfl (by (try simp only [List.map_toArray, List.map_cons, List.map_nil]); first | done | rfl | (simp only [List.length_drop, List.length_take]; rfl)) ?_; (with_reducible refine (merkle_Leaf.calls a1_0 a1_1 t975 _ A6.out).mono ?_); rintro e w17 ⟨rfl, hb⟩; refine ⟨_, rfl, ?_⟩; have n0_ := Aside0.mk (blk_below (g := gb974) (o := .cells #[.string a1_0, .string a1_1] 86 (0, 0)) (by (with_reducible repeat (first | refine pkN ?_ _ | refine pkD ?_ | refine pkA ?_ _)); exact BK974.out) hb); have n1_ := Aside0.mk (below_step (by repeat (first | (with_reducible first | exact HB.out | apply pbA | apply pbN | apply pbD | refine pbS ?_ GE974.out) | exact HB.out)) hb); clear BK974; clear HB; have BK974 := n0_; have HB := n1_; clear n0_ n1_; (try clear hb); (try clear hb2); (try clear hk); (try clear hi)) | ((with_reducible refine gate_callee (f := 163) rfl ?_); refine goesL_ (some 19) rfl rfl Try.func163 (by kernel_rfl) rfl #[.int .i64 a2, .int .i64 a3, .string t975, .slice A4 l4.length c4] rfl (by (try simp only [List.map_toArray, List.map_cons, List.map_nil]); first | done | rfl | (simp only [List.length_drop, List.length_take]; rfl)) ?_; (with_reducible refine (proof_walk.calls k a2 a3 t975 _ _ l4 t976 false _ ?side1 ?side2 A7.out).mono ?_); (case side1 => repeat (first | exact (Kd.C_below HR4.out HB.out) | (with_reducible refine Kd.C_alloc ?_ _) | (with_reducible refine Kd.C_drewN ?_ _) | (with_reducible refine Kd.C_drew ?_))); (case side2 => exact HC4.out); rintro e w18 ⟨rfl, hb⟩; refine ⟨_, rfl, ?_⟩; have n0_ := Aside0.mk (blk_below (g := gb974) (o := .cells #[.string a1_0, .string a1_1] 86 (0, 0)) (by (with_reducible repeat (first | refine pkN ?_ _ | refine pkD ?_ | refine pkA ?_ _)); exact BK974.out) hb); have n1_ := Aside0.mk (below_step (by repeat (first | (with_reducible first | exact HB.out | apply pbA | apply pbN | apply pbD | refine pbS ?_ GE974.out) | exact HB.out)) hb); clear BK974; clear HB; have BK974 := n0_; have HB := n1_; clear n0_ n1_; (try clear hb); (try clear hb2); (try clear hk); (try clear hi)))
   go_ret
   exact ⟨by first | rfl | (simp [errW_none, errW_some] <;> rfl) | (simp [*, errW_none, errW_some] <;> rfl), by repeat (first | (with_reducible first | exact HB.out | apply pbA | apply pbN | apply pbD | refine pbS ?_ GE974.out) | exact HB.out)⟩
def proof_Has.f (k : Nat) (a0 : ByteArray) (a1_0 : ByteArray) (a1_1 : ByteArray) (a2_0 : Int) (a2_1 : Int) (a2_2 : Bool) (l2_3 : List (S86)) (l2_4 : List (List ByteArray)) : Option (Bool) := if a2_2 = true then (if (l2_3.length : Int) = 0 then (if (l2_4.length : Int) = 1 then (if 0 < (l2_4.length : Int) then ((proof_leads.f k a0 a1_0 a1_1 a2_0 a2_1 (rd_L10 l2_4 0)).bind fun t982 => (some t982)) else (none)) else (some false)) else (some false)) else (some false)
mutual
def proof_Lacks.j0 : Nat → ByteArray → ByteArray → Bool → Int → Int → Bool → List (S86) → List (List ByteArray) → Option (Bool)
 | 0, _, _, _, _, _, _, _, _ => none
 | k + 1, x0, x1, x35, x984000, x984001, x984002, x984003, x984004 => if x35 = true then (some false) else (if x984001 < x984000 then (proof_Lacks.j1 k x0 x1 (mx 0 (wrap64 (x984001 - 1))) (wrap64 (x984001 + 1)) x984000 x984001 x984002 x984003 x984004) else (proof_Lacks.j1 k x0 x1 (mx 0 (wrap64 (x984001 - 1))) x984001 x984000 x984001 x984002 x984003 x984004))
def proof_Lacks.j1 : Nat → ByteArray → ByteArray → Int → Int → Int → Int → Bool → List (S86) → List (List ByteArray) → Option (Bool)
 | 0, _, _, _, _, _, _, _, _, _ => none
 | k + 1, x0, x1, x7, x8, x984000, x984001, x984002, x984003, x984004 => if (x984003.length : Int) = (wrap64 (x8 - x7)) then (proof_Lacks.l0 k x0 x1 x7 x984003 (x984003.length : Int) 0 x984000 x984001 x984002 x984003 x984004) else (some false)
def proof_Lacks.l0 : Nat → ByteArray → ByteArray → Int → List (S86) → Int → Int → Int → Int → Bool → List (S86) → List (List ByteArray) → Option (Bool)
 | 0, _, _, _, _, _, _, _, _, _, _, _ => none
 | k + 1, x0, x1, x7, x57, x58, x59, x984000, x984001, x984002, x984003, x984004 => if x59 < x58 then (if 0 ≤ x59 then (if x59 < (x57.length : Int) then (if ((decide ((wrap64 (x7 + x59)) < x984001)) != (Op.bytesLess (((rd_T86 x57 x59).f0).toList) x1.toList)) = true then (some false) else (if ((rd_T86 x57 x59).f0).toList = x1.toList then (some false) else (if x59 < (x984004.length : Int) then ((proof_leads.f k x0 ((rd_T86 x57 x59).f0) ((rd_T86 x57 x59).f1) x984000 (wrap64 (x7 + x59)) (rd_L10 x984004 x59)).bind fun t987 => (if t987 = true then (proof_Lacks.l0 k x0 x1 x7 x57 x58 (wrap64 (x59 + 1)) x984000 x984001 x984002 x984003 x984004) else (some false))) else (none)))) else (none)) else (none)) else (if x984000 > 0 then (some true) else ((merkle_Top.f 0 (⟨#[]⟩ : ByteArray)).bind fun t988 => (some (x0.toList == t988.toList))))
end
def proof_Lacks.f (k : Nat) (a0 : ByteArray) (a1 : ByteArray) (a2_0 : Int) (a2_1 : Int) (a2_2 : Bool) (l2_3 : List (S86)) (l2_4 : List (List ByteArray)) : Option (Bool) := if a2_2 = true then (proof_Lacks.j0 k a0 a1 true a2_0 a2_1 a2_2 l2_3 l2_4) else (if a2_1 < 0 then (proof_Lacks.j0 k a0 a1 true a2_0 a2_1 a2_2 l2_3 l2_4) else (if a2_1 > a2_0 then (proof_Lacks.j0 k a0 a1 true a2_0 a2_1 a2_2 l2_3 l2_4) else (proof_Lacks.j0 k a0 a1 ((l2_4.length : Int) != (l2_3.length : Int)) a2_0 a2_1 a2_2 l2_3 l2_4)))
end Go.Proofs.Ytipgldfbjlhpoab.P
