import Derived.Test.YtipgldfbjlhpoabZeP0
import Derived.Test.YtipgldfbjlhpoabZePRWireR
import Derived.Test.YtipgldfbjlhpoabZeHMerkle
-- Printed by wip/myprint.py.
namespace Go.Proofs.Ytipgldfbjlhpoab.P
open Go.RowKit Go.Proofs.YtipgldfbjlhpoabW.PrintWords Go.Proofs.YtipgldfbjlhpoabW.PrintLast Go.Proofs.YtipgldfbjlhpoabW.PrintMore
attribute [local go_sem] max2_int min2_int max_two min_two max_three min_three max_four min_four   -- for this text's walks alone
attribute [local go_sem] geq_str gtr_str
set_option linter.unusedVariables false
set_option linter.unusedSimpArgs false
def proof_rises.l0 : Nat → List (S86) → Int → Int → Option (Bool)
 | 0, _, _, _ => none
 | k + 1, x0, x6, x7 => if x7 < x6 then (if 0 ≤ x7 then (if x7 < (x0.length : Int) then (if 0 ≤ (wrap64 (x7 + 1)) then (if (wrap64 (x7 + 1)) < (x0.length : Int) then (if ((Op.bytesLess (((rd_T86 x0 x7).f0).toList) (((rd_T86 x0 (wrap64 (x7 + 1))).f0).toList)) = true) then (proof_rises.l0 k x0 x6 (wrap64 (x7 + 1))) else (some false)) else (none)) else (none)) else (none)) else (none)) else (some true)
def proof_rises.f (k : Nat) (l0 : List (S86)) : Option (Bool) := proof_rises.l0 k l0 (wrap64 ((l0.length : Int) - 1)) 0
set_option maxHeartbeats 8000000 in
set_option maxRecDepth 100000 in
theorem proof_rises.calls (k : Nat) (A0 : Option Addr) (c0 : Nat) (l0 : List (S86)) (r : Bool) (w : World) (hr0 : Kd.C k86 w A0 l0.length l0) (hc0 : l0.length ≤ c0) (h : proof_rises.f k l0 = some r) :
  Calls Try.prog 118 #[.slice A0 l0.length c0] w fun e w' => e = .returned (.bool r) ∧ Drawn0 w w' := by
 have HR0 := Aside0.mk hr0; have HC0 := Aside0.mk hc0; clear hr0 hc0; have H : (proof_rises.l0 k l0 (wrap64 ((l0.length : Int) - 1)) 0) = some r := h; clear h; have H' := Aside0.mk H; clear H
 go_enter Try.func118, Try.ntmps118
 go_wp2
 repeat (go_quiet (fail); try go_wp2)
 go_loopg [7] k (fun kq v7 w' => ∃ (x7_1 : Int), v7 = .int .i64 x7_1 ∧ Aside0 (proof_rises.l0 kq l0 (wrap64 ((l0.length : Int) - 1)) x7_1 = some r) ∧ Aside0 (kq ≤ k) ∧ Drawn0 w w')
 case atStart => exact ⟨(0), (by first | rfl | (simp; done) | (simp [*]; done)), H', ⟨Nat.le_refl _⟩, by repeat (first | exact Drawn0.refl _ | apply Drawn0.step)⟩
 case round =>
  clear H'; (try clear c1); obtain ⟨x7_1, rfl, HA, HK1, ⟨m1, rfl⟩⟩ := hrel
  cases gk with
  | zero => exact absurd HA.out (by simp [proof_rises.l0])
  | succ k1 =>
   have H := HA.out; clear HA; simp only [proof_rises.l0] at H
   by_cases c2 : x7_1 < (wrap64 ((l0.length : Int) - 1))
   · rw [if_pos c2] at H; have c2b0 : decide (x7_1 < (wrap64 ((l0.length : Int) - 1))) = true := decide_eq_true c2; clear c2
     by_cases c3 : 0 ≤ x7_1
     · rw [if_pos c3] at H; have c3b0 : decide (0 ≤ x7_1) = true := decide_eq_true c3; clear c3
       by_cases c4 : x7_1 < (l0.length : Int)
       · rw [if_pos c4] at H; have c4b0 : decide (x7_1 < (l0.length : Int)) = true := decide_eq_true c4; clear c4
         obtain ⟨ji5, hji5⟩ : ∃ j_ : Int, (wrap64 (x7_1 + 1)) = j_ := ⟨_, rfl⟩
         replace H : (if 0 ≤ (ji5) then (if (ji5) < (l0.length : Int) then (if ((Op.bytesLess (((rd_T86 l0 x7_1).f0).toList) (((rd_T86 l0 (ji5)).f0).toList)) = true) then (proof_rises.l0 k1 l0 (wrap64 ((l0.length : Int) - 1)) ji5) else (some false)) else (none)) else (none)) = some r := by first | (rw [hji5] at H; exact H) | (simp only [hji5] at H ⊢; exact H)
         have hji5w : (IntKind.i64.wrap (x7_1 + 1)) = ji5 := (i64_w _).trans hji5
         by_cases c6 : 0 ≤ (ji5)
         · rw [if_pos c6] at H; have c6b0 : decide (0 ≤ (ji5)) = true := decide_eq_true c6; clear c6
           by_cases c7 : (ji5) < (l0.length : Int)
           · rw [if_pos c7] at H; have c7b0 : decide ((ji5) < (l0.length : Int)) = true := decide_eq_true c7; clear c7
             by_cases c8 : ((Op.bytesLess (((rd_T86 l0 x7_1).f0).toList) (((rd_T86 l0 (ji5)).f0).toList)) = true)
             · rw [if_pos c8] at H; have c8b0 : (Op.bytesLess (((rd_T86 l0 x7_1).f0).toList) (((rd_T86 l0 (ji5)).f0).toList)) = true := c8; clear c8; have H' := Aside0.mk H; clear H; have p907 : 0 ≤ (x7_1 : Int) := zq; have q907 : x7_1 < (l0.length : Int) := zq; obtain ⟨ad907, e907, hx907_0, hx907_1⟩ := at_T86 HR0.out x7_1 p907 q907; cases e907; replace p907 := eq_true p907; replace q907 := eq_true q907; have p908 : 0 ≤ ((ji5) : Int) := zq; have q908 : (ji5) < (l0.length : Int) := zq; obtain ⟨ad908, e908, hx908_0, hx908_1⟩ := at_T86 HR0.out (ji5) p908 q908; obtain rfl : ad907 = ad908 := (by injection e908); replace p908 := eq_true p908; replace q908 := eq_true q908; go_wp2
               repeat (go_quiet (fail); try go_wp2)
               go_roundg k1
               case measure => have := HK1.out; omega
               case rel => exact ⟨(ji5), (by first | rfl | (simp; done) | (simp only [← hji5] <;> (first | rfl | simp)) | (simp [*]; done)), H', ⟨by have := HK1.out; omega⟩, by repeat (first | exact Drawn0.refl _ | apply Drawn0.step)⟩
             · rw [if_neg c8] at H
               have c8b0 : (Op.bytesLess (((rd_T86 l0 x7_1).f0).toList) (((rd_T86 l0 (ji5)).f0).toList)) = false := by simpa using c8
               clear c8; obtain rfl := Option.some.inj H; have p907 : 0 ≤ (x7_1 : Int) := zq; have q907 : x7_1 < (l0.length : Int) := zq; obtain ⟨ad907, e907, hx907_0, hx907_1⟩ := at_T86 HR0.out x7_1 p907 q907; cases e907; replace p907 := eq_true p907; replace q907 := eq_true q907; have p908 : 0 ≤ ((ji5) : Int) := zq; have q908 : (ji5) < (l0.length : Int) := zq; obtain ⟨ad908, e908, hx908_0, hx908_1⟩ := at_T86 HR0.out (ji5) p908 q908; obtain rfl : ad907 = ad908 := (by injection e908); replace p908 := eq_true p908; replace q908 := eq_true q908; go_wp2
               repeat (go_quiet (fail); try go_wp2)
               go_ret; exact ⟨by first | rfl | (simp; done) | (simp only [← hji5] <;> (first | rfl | simp)) | (simp [*]; done), by repeat (first | exact Drawn0.refl _ | apply Drawn0.step)⟩
           · rw [if_neg c7] at H; exact absurd H (by simp)
         · rw [if_neg c6] at H; exact absurd H (by simp)
       · rw [if_neg c4] at H; exact absurd H (by simp)
     · rw [if_neg c3] at H; exact absurd H (by simp)
   · rw [if_neg c2] at H; have c2b0 : decide (x7_1 < (wrap64 ((l0.length : Int) - 1))) = false := decide_eq_false c2; clear c2; obtain rfl := Option.some.inj H; go_wp2
     repeat (go_quiet (fail); try go_wp2)
     go_ret; exact ⟨by first | rfl | (simp; done) | (simp [*]; done), by repeat (first | exact Drawn0.refl _ | apply Drawn0.step)⟩
def proof_tree.f : Nat → List ByteArray → Option (ByteArray)
 | 0, _ => none
 | k + 1, l0 => if (l0.length : Int) = 1 then (if 0 < (l0.length : Int) then (some (rdOf ByteArray.empty l0 0)) else (none)) else ((merkle_Split.f (l0.length : Int)).bind fun t918 => (if 0 ≤ t918 then (if t918 ≤ (l0.length : Int) then ((proof_tree.f k (l0.take (t918 : Int).toNat)).bind fun t920 => ((proof_tree.f k (l0.drop (t918 : Int).toNat)).bind fun t922 => ((merkle_Node.f t920 t922).bind fun t923 => (some t923)))) else (none)) else (none)))
def proof_tree.T4 : Bool × List (List Nat × List Nat) := (true, [([], []), ([], []), ([0, 1], [0, 1]), ([2], [2]), ([], []), ([], []), ([4, 5], [4, 5]), ([6, 3], [6]), ([3, 7, 7], [3, 7]), ([8, 8, 0, 1, 2, 3, 4, 5, 6, 7, 8], [8])])
def proof_tree.B4 : List Nat := [0, 0, 3, 7, 0, 0, 48, 127, 255, 511]
theorem proof_tree.tab4 : rtab .any (opsOf Try.f159 4) = proof_tree.T4 := by kernel_rfl
theorem proof_tree.bits4 : waitsOk proof_tree.T4.2 proof_tree.B4 = true := by kernel_rfl
set_option maxHeartbeats 8000000 in
set_option maxRecDepth 100000 in
theorem proof_tree.calls (k : Nat) : ∀ (A0 : Option Addr) (c0 : Nat) (l0 : List ByteArray) (r : ByteArray) (w : World) (hr0 : Kd.C Kd.string w A0 l0.length l0) (hc0 : l0.length ≤ c0) (h : proof_tree.f k l0 = some r),
  Calls Try.prog 159 #[.slice A0 l0.length c0] w fun e w' => e = .returned (.string r) ∧ Below w.heap.size w w' := by
 induction k using Nat.strongRecOn with
 | _ k ih =>
 intro A0 c0 l0 r w hr0 hc0 h
 cases k with
 | zero => exact absurd h (by simp [proof_tree.f])
 | succ k =>
 simp only [proof_tree.f] at h; have HR0 := Aside0.mk hr0; have HC0 := Aside0.mk hc0; clear hr0 hc0; have HB := Aside0.mk (Below.refl w.heap.size w); have H : (if (l0.length : Int) = 1 then (if 0 < (l0.length : Int) then (some (rdOf ByteArray.empty l0 0)) else (none)) else ((merkle_Split.f (l0.length : Int)).bind fun t918 => (if 0 ≤ t918 then (if t918 ≤ (l0.length : Int) then ((proof_tree.f k (l0.take (t918 : Int).toNat)).bind fun t920 => ((proof_tree.f k (l0.drop (t918 : Int).toNat)).bind fun t922 => ((merkle_Node.f t920 t922).bind fun t923 => (some t923)))) else (none)) else (none)))) = some r := h; clear h
 by_cases c2 : (l0.length : Int) = 1
 · rw [if_pos c2] at H; have c2b0 : ((l0.length : Int) == 1) = true := beq_iff_eq.mpr c2; have c2b1 : ((l0.length : Int) != 1) = false := bne_eq_false_iff_eq.mpr c2; clear c2
   by_cases c3 : 0 < (l0.length : Int)
   · rw [if_pos c3] at H; have c3b0 : decide (0 < (l0.length : Int)) = true := decide_eq_true c3; have c3b1 : decide (0 < l0.length) = true := decide_eq_true (by omega); clear c3; obtain rfl := Option.some.inj H; have p917 : 0 ≤ (0 : Int) := (by omega); have q917 : 0 < (l0.length : Int) := zq; obtain ⟨ad917, e917, hx917_0⟩ := Kd.at_string HR0.out 0 p917 q917; cases e917; have qi917 : (0 < l0.length) = True := eq_true (by omega); (try rw [show ((0 : Int)).toNat = 0 from rfl] at hx917_0); (try rw [Addr.add_zero'] at hx917_0); replace p917 := eq_true p917; replace q917 := eq_true q917
     go_enter Try.func159, Try.ntmps159
     go_wp2; go_ret; exact ⟨by first | rfl | (simp [errW_none, errW_some] <;> rfl) | (simp [*, errW_none, errW_some] <;> rfl), zh HB.out⟩
   · rw [if_neg c3] at H; exact absurd H (by simp)
 · rw [if_neg c2] at H; have c2b0 : ((l0.length : Int) == 1) = false := beq_eq_false_iff_ne.mpr c2; have c2b1 : ((l0.length : Int) != 1) = true := bne_iff_ne.mpr c2; replace H := Option.bind_eq_some_iff.mp H; obtain ⟨t918, A40, H⟩ := H; replace H : (if 0 ≤ t918 then (if t918 ≤ (l0.length : Int) then ((proof_tree.f k (l0.take (t918 : Int).toNat)).bind fun t920 => ((proof_tree.f k (l0.drop (t918 : Int).toNat)).bind fun t922 => ((merkle_Node.f t920 t922).bind fun t923 => (some t923)))) else (none)) else (none)) = some r := H; have A4 := Aside0.mk A40; clear A40
   by_cases c5 : 0 ≤ t918
   · rw [if_pos c5] at H; have c5b0 := eq_true c5; have c5b1 : decide (0 ≤ t918) = true := decide_eq_true c5; clear c5
     by_cases c6 : t918 ≤ (l0.length : Int)
     · rw [if_pos c6] at H; have c6b0 := eq_true c6; have c6b1 : decide (t918 ≤ (l0.length : Int)) = true := decide_eq_true c6; clear c6; replace H := Option.bind_eq_some_iff.mp H; obtain ⟨t920, A70, H⟩ := H; replace H : ((proof_tree.f k (l0.drop (t918 : Int).toNat)).bind fun t922 => ((merkle_Node.f t920 t922).bind fun t923 => (some t923))) = some r := H; have A7 := Aside0.mk A70; clear A70; have c8b0 := eq_true (zq : 0 ≤ t918); have c9b0 := eq_true (zq : t918 ≤ (l0.length : Int)); replace H := Option.bind_eq_some_iff.mp H; obtain ⟨t922, A100, H⟩ := H; replace H : ((merkle_Node.f t920 t922).bind fun t923 => (some t923)) = some r := H; have A10 := Aside0.mk A100; clear A100; replace H := Option.bind_eq_some_iff.mp H; obtain ⟨t923, A110, H⟩ := H; replace H : (some t923) = some r := H; have A11 := Aside0.mk A110; clear A110; obtain rfl := Option.some.inj H
       go_enter Try.func159, Try.ntmps159
       (try go_wp2_with (first | ((with_reducible refine gate_callee (f := 158) rfl ?_); refine goesL_ (some 12) rfl rfl Try.func158 (by kernel_rfl) rfl #[.int .i64 (l0.length : Int)] rfl (by (try simp only [List.map_toArray, List.map_cons, List.map_nil]); first | done | rfl | (simp only [List.length_drop, List.length_take]; rfl)) ?_; (with_reducible refine (merkle_Split.calls (l0.length : Int) t918 _ A4.out).mono ?_); rintro e w' ⟨rfl, ⟨nd, rfl⟩⟩; refine ⟨_, rfl, ?_⟩))); have n0_ := Aside0.mk (pbD (pbN HB.out nd)); clear HB; have HB := n0_; clear n0_; obtain ⟨i013, hi013, _, hsz13, _⟩ := info_parts info9; obtain ⟨hcut13, hA13, hC13⟩ := print_take_of (P := Try.prog) Value.string (⟨#[]⟩ : ByteArray) 63 9 .i64 Try.underlying63 hi013 hsz13 A0 c0 l0 t918 (zq) (zq) HC0.out; have HR919 := Aside0.mk (Kd.C_of_reads (h1 := fun _ => rfl) (hA13 _ (Kd.reads_of_C HR0.out))); have HC919 := Aside0.mk hC13; clear hA13 hC13 hi013 hsz13; obtain ⟨i014, hi014, _, hsz14, _⟩ := info_parts info9; obtain ⟨A14, hcut14, hA14, hC14⟩ := print_drop_of (P := Try.prog) Value.string (⟨#[]⟩ : ByteArray) 63 9 .i64 Try.underlying63 hi014 hsz14 A0 c0 l0 t918 (zq) (zq) HC0.out; have HR921 := Aside0.mk (Kd.C_of_reads (h1 := fun _ => rfl) (hA14 _ (Kd.reads_of_C HR0.out))); have HC921 := Aside0.mk hC14; clear hA14 hC14 hi014 hsz14
       refine start_ (n := 10) (S := fun w' => True) (ds := []) #[false, false, false, false, false, false, false, false, false, false] (by kernel_rfl) rfl rfl trivial (fun hHeld => ?_); refine with_tabW proof_tree.tab4 proof_tree.bits4 (fun HT_ HW_ => ?_)
       generalize (w.drewN nd).drew = w12 at HB HR919 HR921 hHeld ⊢
       refine pure_ (i := 0) (N := some 13) (v := ?_) (a' := ?_) #[true, false, false, false, false, false, false, false, false, false] rfl rfl (any_of HT_.out (by kernel_rfl)) (fun _ _ _ h => h) (Or.inl ⟨by rfl, ?_⟩) ?_ ?_; rotate_left
       · intro w'; go_simp; (with_reducible rfl)
       rotate_left
       · simp only [Act.put, zA, zB, zC, i64_w, i32_w]; rfl
       refine pure_ (i := 1) (N := some 14) (v := ?_) (a' := ?_) #[true, true, false, false, false, false, false, false, false, false] rfl rfl (any_of HT_.out (by kernel_rfl)) (fun _ _ _ h => h) (Or.inl ⟨by rfl, ?_⟩) ?_ ?_; rotate_left
       · intro w'; go_simp; (with_reducible rfl)
       rotate_left
       · simp only [Act.put, zA, zB, zC, i64_w, i32_w]; rfl
       refine pure_ (i := 2) (N := some 15) (v := ?_) (a' := ?_) #[true, true, true, false, false, false, false, false, false, false] rfl rfl (any_of HT_.out (by kernel_rfl)) (fun _ _ _ h => h) (Or.inl ⟨by rfl, ?_⟩) ?_ ?_; rotate_left
       · intro w'; go_simp; (with_reducible rfl)
       rotate_left
       · simp only [Act.put, zA, zB, zC, i64_w, i32_w]; rfl
       refine pure_ (i := 4) (N := some 17) (v := ?_) (a' := ?_) #[true, true, true, false, true, false, false, false, false, false] rfl rfl (any_of HT_.out (by kernel_rfl)) (fun _ _ _ h => h) (Or.inl ⟨by rfl, ?_⟩) ?_ ?_; rotate_left
       · intro w'; go_simp; (with_reducible rfl)
       rotate_left
       · simp only [Act.put, zA, zB, zC, i64_w, i32_w]; rfl
       refine pure_ (i := 5) (N := some 18) (v := ?_) (a' := ?_) #[true, true, true, false, true, true, false, false, false, false] rfl rfl (any_of HT_.out (by kernel_rfl)) (fun _ _ _ h => h) (Or.inl ⟨by rfl, ?_⟩) ?_ ?_; rotate_left
       · intro w'; go_simp; (with_reducible rfl)
       rotate_left
       · simp only [Act.put, zA, zB, zC, i64_w, i32_w]; rfl
       refine pure_ (i := 6) (N := some 19) (v := ?_) (a' := ?_) #[true, true, true, false, true, true, true, false, false, false] rfl rfl (any_of HT_.out (by kernel_rfl)) (fun _ _ _ h => h) (Or.inl ⟨by rfl, ?_⟩) ?_ ?_; rotate_left
       · intro w'; go_simp; (with_reducible rfl)
       rotate_left
       · simp only [Act.put, zA, zB, zC, i64_w, i32_w]; rfl
       refine one_ (i := 3) (N := some 16) #[true, true, true, true, true, true, true, false, false, false] rfl rfl (one_of HT_.out (by kernel_rfl)) (by decide) (fun K hK => ?_); refine goes_ Try.func159 (by kernel_rfl) rfl #[.slice A0 (l0.take (t918 : Int).toNat).length c0] (by rfl) rfl rfl (by (try simp only [List.map_toArray, List.map_cons, List.map_nil]); first | done | (rw [show (l0.take (t918 : Int).toNat).length = t918.toNat from (by rw [List.length_take]; have h_ : (t918 : Int) ≤ (l0.length : Int) := zq; omega)] <;> rfl) | rfl | (simp only [List.length_drop, List.length_take]; rfl)) ?_; (with_reducible refine (ih k (by omega) _ _ (l0.take (t918 : Int).toNat) t920 _ ?side1 ?side2 A7.out).mono ?_); (case side1 => exact Kd.C_below HR919.out (zh HB.out)); (case side2 => exact HC919.out); rintro e w15 ⟨rfl, hb⟩; refine ⟨_, rfl, ?_⟩; have n0_ := Aside0.mk (below_step (zh HB.out) hb); clear HB; have HB := n0_; clear n0_; (try clear hb); (try clear hb2); (try clear hk); (try clear hi); refine hK.out _ _ trivial (fun hHeld => ?_); clear hK K; refine norm_ (a' := ?_) ?_ ?_; rotate_left
       · show Act.put _ (some 16) _ = _
         simp only [Act.put, zA, zB, zC, i64_w, i32_w]; rfl
       refine one_ (i := 7) (N := some 20) #[true, true, true, true, true, true, true, true, false, false] rfl rfl (one_of HT_.out (by kernel_rfl)) (by decide) (fun K hK => ?_); refine goes_ Try.func159 (by kernel_rfl) rfl #[.slice A14 (l0.drop (t918 : Int).toNat).length (c0 - t918.toNat)] (by rfl) rfl rfl (by (try simp only [List.map_toArray, List.map_cons, List.map_nil]); first | done | (rw [show (l0.drop (t918 : Int).toNat).length = (l0.length - t918.toNat) from List.length_drop] <;> rfl) | rfl | (simp only [List.length_drop, List.length_take]; rfl)) ?_; (with_reducible refine (ih k (by omega) _ _ (l0.drop (t918 : Int).toNat) t922 _ ?side1 ?side2 A10.out).mono ?_); (case side1 => exact Kd.C_below HR921.out (zh HB.out)); (case side2 => exact HC921.out); rintro e w16 ⟨rfl, hb⟩; refine ⟨_, rfl, ?_⟩; have n0_ := Aside0.mk (below_step (zh HB.out) hb); clear HB; have HB := n0_; clear n0_; (try clear hb); (try clear hb2); (try clear hk); (try clear hi); refine hK.out _ _ trivial (fun hHeld => ?_); clear hK K; refine norm_ (a' := ?_) ?_ ?_; rotate_left
       · show Act.put _ (some 20) _ = _
         simp only [Act.put, zA, zB, zC, i64_w, i32_w]; rfl
       refine one_ (i := 8) (N := some 21) #[true, true, true, true, true, true, true, true, true, false] rfl rfl (one_of HT_.out (by kernel_rfl)) (by decide) (fun K hK => ?_); refine goes_ Try.func133 (by kernel_rfl) rfl #[.string t920, .string t922] (by rfl) rfl rfl (by (try simp only [List.map_toArray, List.map_cons, List.map_nil]); first | done | rfl | (simp only [List.length_drop, List.length_take]; rfl)) ?_; (with_reducible refine (merkle_Node.calls t920 t922 t923 _ A11.out).mono ?_); rintro e w17 ⟨rfl, hb⟩; refine ⟨_, rfl, ?_⟩; have n0_ := Aside0.mk (below_step (zh HB.out) hb); clear HB; have HB := n0_; clear n0_; (try clear hb); (try clear hb2); (try clear hk); (try clear hi); refine hK.out _ _ trivial (fun hHeld => ?_); clear hK K; refine norm_ (a' := ?_) ?_ ?_; rotate_left
       · show Act.put _ (some 21) _ = _
         simp only [Act.put, zA, zB, zC, i64_w, i32_w]; rfl
       refine pure_ (i := 9) (N := some 2) (v := ?_) (a' := ?_) #[true, true, true, true, true, true, true, true, true, true] rfl rfl (any_of HT_.out (by kernel_rfl)) (fun _ _ _ h => h) (Or.inl ⟨by rfl, ?_⟩) ?_ ?_; rotate_left
       · intro w'; go_simp; (with_reducible rfl)
       rotate_left
       · simp only [Act.put, zA, zB, zC, i64_w, i32_w]; rfl
       refine done_ (done_of HT_.out (by kernel_rfl)) ?_; (try go_wp2); go_ret; exact ⟨by first | rfl | (simp [errW_none, errW_some] <;> rfl) | (simp [*, errW_none, errW_some] <;> rfl), zh HB.out⟩
     · rw [if_neg c6] at H; exact absurd H (by simp)
   · rw [if_neg c5] at H; exact absurd H (by simp)
def proof_path.f : Nat → List ByteArray → Int → Option (List ByteArray)
 | 0, _, _ => none
 | k + 1, l0, a1 => if (l0.length : Int) < 2 then (some ([] : List ByteArray)) else ((merkle_Split.f (l0.length : Int)).bind fun t924 => (if a1 < t924 then (if 0 ≤ t924 then (if t924 ≤ (l0.length : Int) then ((proof_path.f k (l0.take (t924 : Int).toNat) a1).bind fun t926 => ((proof_tree.f k (l0.drop (t924 : Int).toNat)).bind fun t930 => (if t926.length < 8796093022208 then (some (t926 ++ [t930])) else (none)))) else (none)) else (none)) else (if 0 ≤ t924 then (if t924 ≤ (l0.length : Int) then ((proof_path.f k (l0.drop (t924 : Int).toNat) (wrap64 (a1 - t924))).bind fun t935 => ((proof_tree.f k (l0.take (t924 : Int).toNat)).bind fun t939 => (if t935.length < 8796093022208 then (some (t935 ++ [t939])) else (none)))) else (none)) else (none))))
def proof_path.T5 : Bool × List (List Nat × List Nat) := (true, [([], []), ([], []), ([0, 1], [0, 1]), ([], []), ([2, 3], [2, 3]), ([], []), ([], []), ([5, 6], [5, 6]), ([7, 4], [7]), ([8], [8]), ([4, 9, 8], [4, 9]), ([10, 10, 0, 1, 2, 3, 4, 5, 6, 7, 8, 9, 10], [10])])
def proof_path.B5 : List Nat := [0, 0, 3, 0, 15, 0, 0, 96, 255, 511, 1023, 2047]
theorem proof_path.tab5 : rtab .any (opsOf Try.f123 5) = proof_path.T5 := by kernel_rfl
theorem proof_path.bits5 : waitsOk proof_path.T5.2 proof_path.B5 = true := by kernel_rfl
def proof_path.T6 : Bool × List (List Nat × List Nat) := (true, [([], []), ([], []), ([0, 1], [0, 1]), ([], []), ([], []), ([3, 4], [3, 4]), ([2, 5], [2, 5]), ([], []), ([], []), ([7, 8], [7, 8]), ([9, 6], [9]), ([10], [10]), ([6, 11, 10], [6, 11]), ([12, 12, 0, 1, 2, 3, 4, 5, 6, 7, 8, 9, 10, 11, 12], [12])])
def proof_path.B6 : List Nat := [0, 0, 3, 0, 0, 24, 63, 0, 0, 384, 1023, 2047, 4095, 8191]
theorem proof_path.tab6 : rtab .any (opsOf Try.f123 6) = proof_path.T6 := by kernel_rfl
theorem proof_path.bits6 : waitsOk proof_path.T6.2 proof_path.B6 = true := by kernel_rfl
set_option maxHeartbeats 8000000 in
set_option maxRecDepth 100000 in
theorem proof_path.calls (k : Nat) : ∀ (A0 : Option Addr) (c0 : Nat) (l0 : List ByteArray) (a1 : Int) (r : List ByteArray) (w : World) (hr0 : Kd.C Kd.string w A0 l0.length l0) (hc0 : l0.length ≤ c0) (h : proof_path.f k l0 a1 = some r),
  Calls Try.prog 123 #[.slice A0 l0.length c0, .int .i64 a1] w fun e w' => ∃ v0_ : Value, e = .returned (v0_) ∧ Kd.R Kd.string 9 w' w.heap.size (fun _ => True) v0_ r ∧ Below w.heap.size w w' := by
 induction k using Nat.strongRecOn with
 | _ k ih =>
 intro A0 c0 l0 a1 r w hr0 hc0 h
 cases k with
 | zero => exact absurd h (by simp [proof_path.f])
 | succ k =>
 simp only [proof_path.f] at h; have HR0 := Aside0.mk hr0; have HC0 := Aside0.mk hc0; clear hr0 hc0; have HB := Aside0.mk (Below.refl w.heap.size w); have H : (if (l0.length : Int) < 2 then (some ([] : List ByteArray)) else ((merkle_Split.f (l0.length : Int)).bind fun t924 => (if a1 < t924 then (if 0 ≤ t924 then (if t924 ≤ (l0.length : Int) then ((proof_path.f k (l0.take (t924 : Int).toNat) a1).bind fun t926 => ((proof_tree.f k (l0.drop (t924 : Int).toNat)).bind fun t930 => (if t926.length < 8796093022208 then (some (t926 ++ [t930])) else (none)))) else (none)) else (none)) else (if 0 ≤ t924 then (if t924 ≤ (l0.length : Int) then ((proof_path.f k (l0.drop (t924 : Int).toNat) (wrap64 (a1 - t924))).bind fun t935 => ((proof_tree.f k (l0.take (t924 : Int).toNat)).bind fun t939 => (if t935.length < 8796093022208 then (some (t935 ++ [t939])) else (none)))) else (none)) else (none))))) = some r := h; clear h
 by_cases c3 : (l0.length : Int) < 2
 · rw [if_pos c3] at H; have c3b0 : decide ((l0.length : Int) < 2) = true := decide_eq_true c3; have c3b1 : decide (l0.length < 2) = true := decide_eq_true (by omega); clear c3; obtain rfl := Option.some.inj H
   go_enter Try.func123, Try.ntmps123
   go_wp2; go_ret; exact ⟨_, by first | rfl | (simp [errW_none, errW_some] <;> rfl) | (simp [*, errW_none, errW_some] <;> rfl), by first | exact Kd.R_nil _ _ _ _ _ | exact Kd.N_nil _ _ _ _ _ | exact Kd.V_nil _ _ _ _ _ | exact Kd.Q_nil _ _ _ _ _ | exact Kd.S_nil _ _ _ _ _, zh HB.out⟩
 · rw [if_neg c3] at H; have c3b0 : decide ((l0.length : Int) < 2) = false := decide_eq_false c3; have c3b1 : decide (l0.length < 2) = false := decide_eq_false (by omega); clear c3; replace H := Option.bind_eq_some_iff.mp H; obtain ⟨t924, A40, H⟩ := H; replace H : (if a1 < t924 then (if 0 ≤ t924 then (if t924 ≤ (l0.length : Int) then ((proof_path.f k (l0.take (t924 : Int).toNat) a1).bind fun t926 => ((proof_tree.f k (l0.drop (t924 : Int).toNat)).bind fun t930 => (if t926.length < 8796093022208 then (some (t926 ++ [t930])) else (none)))) else (none)) else (none)) else (if 0 ≤ t924 then (if t924 ≤ (l0.length : Int) then ((proof_path.f k (l0.drop (t924 : Int).toNat) (wrap64 (a1 - t924))).bind fun t935 => ((proof_tree.f k (l0.take (t924 : Int).toNat)).bind fun t939 => (if t935.length < 8796093022208 then (some (t935 ++ [t939])) else (none)))) else (none)) else (none))) = some r := H; have A4 := Aside0.mk A40; clear A40
   by_cases c5 : a1 < t924
   · rw [if_pos c5] at H; have c5b0 : decide (a1 < t924) = true := decide_eq_true c5; clear c5
     by_cases c6 : 0 ≤ t924
     · rw [if_pos c6] at H; have c6b0 := eq_true c6; have c6b1 : decide (0 ≤ t924) = true := decide_eq_true c6; clear c6
       by_cases c7 : t924 ≤ (l0.length : Int)
       · rw [if_pos c7] at H; have c7b0 := eq_true c7; have c7b1 : decide (t924 ≤ (l0.length : Int)) = true := decide_eq_true c7; clear c7; replace H := Option.bind_eq_some_iff.mp H; obtain ⟨t926, A80, H⟩ := H; replace H : ((proof_tree.f k (l0.drop (t924 : Int).toNat)).bind fun t930 => (if t926.length < 8796093022208 then (some (t926 ++ [t930])) else (none))) = some r := H; have A8 := Aside0.mk A80; clear A80; have c9b0 := eq_true (zq : 0 ≤ t924); have c10b0 := eq_true (zq : t924 ≤ (l0.length : Int)); replace H := Option.bind_eq_some_iff.mp H; obtain ⟨t930, A110, H⟩ := H; replace H : (if t926.length < 8796093022208 then (some (t926 ++ [t930])) else (none)) = some r := H; have A11 := Aside0.mk A110; clear A110
         by_cases c12 : t926.length < 8796093022208
         · rw [if_pos c12] at H; have LMc12 := Aside0.mk c12; clear c12
           obtain ⟨y931, hy931⟩ : ∃ y_ : List ByteArray, y_ = (t926 ++ [t930]) := ⟨_, rfl⟩
           replace H : (some y931) = some r := by first | (rw [hy931]; with_reducible exact H) | (have H2_ := (Option.bind_some _ _).symm.trans H; rw [hy931]; with_reducible exact H2_) | (have H2_ := (Option.bind_some _ _).symm.trans H; with_reducible exact H2_) | with_reducible exact H | (rw [hy931]; exact H) | exact H
           have Ny931 := Aside0.mk hy931; clear hy931; obtain rfl := Option.some.inj H
           go_enter Try.func123, Try.ntmps123
           (try go_wp2_with (first | ((with_reducible refine gate_callee (f := 158) rfl ?_); refine goesL_ (some 11) rfl rfl Try.func158 (by kernel_rfl) rfl #[.int .i64 (l0.length : Int)] rfl (by (try simp only [List.map_toArray, List.map_cons, List.map_nil]); first | done | rfl | (simp only [List.length_drop, List.length_take]; rfl)) ?_; (with_reducible refine (merkle_Split.calls (l0.length : Int) t924 _ A4.out).mono ?_); rintro e w' ⟨rfl, ⟨nd, rfl⟩⟩; refine ⟨_, rfl, ?_⟩))); have n0_ := Aside0.mk (pbD (pbN HB.out nd)); clear HB; have HB := n0_; clear n0_; obtain ⟨i014, hi014, _, hsz14, _⟩ := info_parts info9; obtain ⟨hcut14, hA14, hC14⟩ := print_take_of (P := Try.prog) Value.string (⟨#[]⟩ : ByteArray) 63 9 .i64 Try.underlying63 hi014 hsz14 A0 c0 l0 t924 (zq) (zq) HC0.out; have HR925 := Aside0.mk (Kd.C_of_reads (h1 := fun _ => rfl) (hA14 _ (Kd.reads_of_C HR0.out))); have HC925 := Aside0.mk hC14; clear hA14 hC14 hi014 hsz14; obtain ⟨i015, hi015, _, hsz15, _⟩ := info_parts info9; obtain ⟨A15, hcut15, hA15, hC15⟩ := print_drop_of (P := Try.prog) Value.string (⟨#[]⟩ : ByteArray) 63 9 .i64 Try.underlying63 hi015 hsz15 A0 c0 l0 t924 (zq) (zq) HC0.out; have HR929 := Aside0.mk (Kd.C_of_reads (h1 := fun _ => rfl) (hA15 _ (Kd.reads_of_C HR0.out))); have HC929 := Aside0.mk hC15; clear hA15 hC15 hi015 hsz15
           refine start_ (n := 12) (S := fun w' => True) (ds := []) #[false, false, false, false, false, false, false, false, false, false, false, false] (by kernel_rfl) rfl rfl trivial (fun hHeld => ?_); refine with_tabW proof_path.tab5 proof_path.bits5 (fun HT_ HW_ => ?_)
           generalize (w.drewN nd).drew = w13 at HB HR925 HR929 hHeld ⊢
           refine pure_ (i := 0) (N := some 15) (v := ?_) (a' := ?_) #[true, false, false, false, false, false, false, false, false, false, false, false] rfl rfl (any_of HT_.out (by kernel_rfl)) (fun _ _ _ h => h) (Or.inl ⟨by rfl, ?_⟩) ?_ ?_; rotate_left
           · intro w'; go_simp; (with_reducible rfl)
           rotate_left
           · simp only [Act.put, zA, zB, zC, i64_w, i32_w]; rfl
           refine pure_ (i := 1) (N := some 16) (v := ?_) (a' := ?_) #[true, true, false, false, false, false, false, false, false, false, false, false] rfl rfl (any_of HT_.out (by kernel_rfl)) (fun _ _ _ h => h) (Or.inl ⟨by rfl, ?_⟩) ?_ ?_; rotate_left
           · intro w'; go_simp; (with_reducible rfl)
           rotate_left
           · simp only [Act.put, zA, zB, zC, i64_w, i32_w]; rfl
           refine pure_ (i := 2) (N := some 17) (v := ?_) (a' := ?_) #[true, true, true, false, false, false, false, false, false, false, false, false] rfl rfl (any_of HT_.out (by kernel_rfl)) (fun _ _ _ h => h) (Or.inl ⟨by rfl, ?_⟩) ?_ ?_; rotate_left
           · intro w'; go_simp; (with_reducible rfl)
           rotate_left
           · simp only [Act.put, zA, zB, zC, i64_w, i32_w]; rfl
           refine pure_ (i := 3) (N := some 18) (v := ?_) (a' := ?_) #[true, true, true, true, false, false, false, false, false, false, false, false] rfl rfl (any_of HT_.out (by kernel_rfl)) (fun _ _ _ h => h) (Or.inl ⟨by rfl, ?_⟩) ?_ ?_; rotate_left
           · intro w'; go_simp; (with_reducible rfl)
           rotate_left
           · simp only [Act.put, zA, zB, zC, i64_w, i32_w]; rfl
           refine pure_ (i := 5) (N := some 20) (v := ?_) (a' := ?_) #[true, true, true, true, false, true, false, false, false, false, false, false] rfl rfl (any_of HT_.out (by kernel_rfl)) (fun _ _ _ h => h) (Or.inl ⟨by rfl, ?_⟩) ?_ ?_; rotate_left
           · intro w'; go_simp; (with_reducible rfl)
           rotate_left
           · simp only [Act.put, zA, zB, zC, i64_w, i32_w]; rfl
           refine pure_ (i := 6) (N := some 21) (v := ?_) (a' := ?_) #[true, true, true, true, false, true, true, false, false, false, false, false] rfl rfl (any_of HT_.out (by kernel_rfl)) (fun _ _ _ h => h) (Or.inl ⟨by rfl, ?_⟩) ?_ ?_; rotate_left
           · intro w'; go_simp; (with_reducible rfl)
           rotate_left
           · simp only [Act.put, zA, zB, zC, i64_w, i32_w]; rfl
           refine pure_ (i := 7) (N := some 22) (v := ?_) (a' := ?_) #[true, true, true, true, false, true, true, true, false, false, false, false] rfl rfl (any_of HT_.out (by kernel_rfl)) (fun _ _ _ h => h) (Or.inl ⟨by rfl, ?_⟩) ?_ ?_; rotate_left
           · intro w'; go_simp; (with_reducible rfl)
           rotate_left
           · simp only [Act.put, zA, zB, zC, i64_w, i32_w]; rfl
           refine one_ (i := 4) (N := some 19) #[true, true, true, true, true, true, true, true, false, false, false, false] rfl rfl (one_of HT_.out (by kernel_rfl)) (by decide) (fun K hK => ?_); refine goes_ Try.func123 (by kernel_rfl) rfl #[.slice A0 (l0.take (t924 : Int).toNat).length c0, .int .i64 a1] (by rfl) rfl rfl (by (try simp only [List.map_toArray, List.map_cons, List.map_nil]); first | done | (rw [show (l0.take (t924 : Int).toNat).length = t924.toNat from (by rw [List.length_take]; have h_ : (t924 : Int) ≤ (l0.length : Int) := zq; omega)] <;> rfl) | rfl | (simp only [List.length_drop, List.length_take]; rfl)) ?_; (with_reducible refine (ih k (by omega) _ _ (l0.take (t924 : Int).toNat) a1 t926 _ ?side1 ?side2 A8.out).mono ?_); (case side1 => exact Kd.C_below HR925.out (zh HB.out)); (case side2 => exact HC925.out); rintro e w16 ⟨v927, rfl, ho0, hb⟩; refine ⟨_, rfl, ?_⟩; have n0_ := Aside0.mk (Kd.R_lower ho0 (below_size (zh HB.out))); have n1_ := Aside0.mk (below_step (zh HB.out) hb); clear HB; have HO928 := n0_; have HB := n1_; clear n0_ n1_; (try clear hb); (try clear hb2); (try clear hk); (try clear hi); (try clear ho0); refine hK.out _ _ trivial (fun hHeld => ?_); clear hK K; refine norm_ (a' := ?_) ?_ ?_; rotate_left
           · show Act.put _ (some 19) _ = _
             simp only [Act.put, zA, zB, zC, i64_w, i32_w]; rfl
           refine one_ (i := 8) (N := some 23) #[true, true, true, true, true, true, true, true, true, false, false, false] rfl rfl (one_of HT_.out (by kernel_rfl)) (by decide) (fun K hK => ?_); refine goes_ Try.func159 (by kernel_rfl) rfl #[.slice A15 (l0.drop (t924 : Int).toNat).length (c0 - t924.toNat)] (by rfl) rfl rfl (by (try simp only [List.map_toArray, List.map_cons, List.map_nil]); first | done | (rw [show (l0.drop (t924 : Int).toNat).length = (l0.length - t924.toNat) from List.length_drop] <;> rfl) | rfl | (simp only [List.length_drop, List.length_take]; rfl)) ?_; (with_reducible refine (proof_tree.calls k _ _ (l0.drop (t924 : Int).toNat) t930 _ ?side1 ?side2 A11.out).mono ?_); (case side1 => exact Kd.C_below HR929.out (zh HB.out)); (case side2 => exact HC929.out); rintro e w17 ⟨rfl, hb⟩; refine ⟨_, rfl, ?_⟩; have n0_ := Aside0.mk (Kd.R_below (zr HO928.out) hb); have n1_ := Aside0.mk (below_step (zh HB.out) hb); clear HO928; clear HB; have HO928 := n0_; have HB := n1_; clear n0_ n1_; (try clear hb); (try clear hb2); (try clear hk); (try clear hi); refine hK.out _ _ trivial (fun hHeld => ?_); clear hK K; refine norm_ (a' := ?_) ?_ ?_; rotate_left
           · show Act.put _ (some 23) _ = _
             simp only [Act.put, zA, zB, zC, i64_w, i32_w]; rfl
           refine one_ (i := 9) (N := some 24) #[true, true, true, true, true, true, true, true, true, true, false, false] rfl rfl (one_of HT_.out (by kernel_rfl)) (by decide) (fun K hK => ?_); refine value_ (w1 := ?_) (v := ?_) (by rfl) rfl ?_ ?_; rotate_left 2
           · go_simp; constructor
             · rfl
             · rfl
           refine hK.out _ _ trivial (fun hHeld => ?_); clear hK K; refine norm_ (a' := ?_) ?_ ?_; rotate_left
           · show Act.put _ (some 24) _ = _
             simp only [Act.put, zA, zB, zC, i64_w, i32_w]; rfl
           refine one_ (i := 10) (N := some 25) #[true, true, true, true, true, true, true, true, true, true, true, false] rfl rfl (one_of HT_.out (by kernel_rfl)) (by decide) (fun K hK => ?_); refine Kd.R_append_step Kd.string (w0 := w) w.heap.size (by rfl) (.tmp 19) (.tmp 24) 63 9 (.string ⟨#[]⟩) 16 rfl Try.underlying63 info9 rfl (by decide) (by omega) v927 t926 t930 [.string t930] (fun _ => True) (fun _ => False) rfl rfl ?aP (fun _ hk => hk.elim) ?aF ?aO ?aB ?aS ?aL ?_; (case aP => exact rfl); (case aB => exact (zh HB.out)); (case aF => exact (fun _ _ => trivial)); (case aO => exact (zr HO928.out)); (case aS => exact (below_size (zh HB.out))); (case aL => have := LMc12.out; omega); intro v932 w18 ho hb hg hat; rw [← Ny931.out] at ho; have n0_ := Aside0.mk (hb); have n1_ := Aside0.mk (ho); clear HB; clear HO928; have HB := n0_; have HO933 := n1_; clear n0_ n1_; clear ho hb hg hat; refine hK.out _ _ trivial (fun hHeld => ?_); clear hK K; refine norm_ (a' := ?_) ?_ ?_; rotate_left
           · show Act.put _ (some 25) _ = _
             simp only [Act.put, zA, zB, zC, i64_w, i32_w]; rfl
           refine pure_ (i := 11) (N := some 4) (v := ?_) (a' := ?_) #[true, true, true, true, true, true, true, true, true, true, true, true] rfl rfl (any_of HT_.out (by kernel_rfl)) (fun _ _ _ h => h) (Or.inl ⟨by rfl, ?_⟩) ?_ ?_; rotate_left
           · intro w'; go_simp; (with_reducible rfl)
           rotate_left
           · simp only [Act.put, zA, zB, zC, i64_w, i32_w]; rfl
           refine done_ (done_of HT_.out (by kernel_rfl)) ?_; (try go_wp2); go_ret; exact ⟨_, by first | rfl | (simp [errW_none, errW_some] <;> rfl) | (simp [*, errW_none, errW_some] <;> rfl), zr HO933.out, zh HB.out⟩
         · rw [if_neg c12] at H; exact absurd H (by simp)
       · rw [if_neg c7] at H; exact absurd H (by simp)
     · rw [if_neg c6] at H; exact absurd H (by simp)
   · rw [if_neg c5] at H; have c5b0 : decide (a1 < t924) = false := decide_eq_false c5; clear c5
     by_cases c19 : 0 ≤ t924
     · rw [if_pos c19] at H; have c19b0 := eq_true c19; have c19b1 : decide (0 ≤ t924) = true := decide_eq_true c19; clear c19
       by_cases c20 : t924 ≤ (l0.length : Int)
       · rw [if_pos c20] at H; have c20b0 := eq_true c20; have c20b1 : decide (t924 ≤ (l0.length : Int)) = true := decide_eq_true c20; clear c20; replace H := Option.bind_eq_some_iff.mp H; obtain ⟨t935, A210, H⟩ := H; replace H : ((proof_tree.f k (l0.take (t924 : Int).toNat)).bind fun t939 => (if t935.length < 8796093022208 then (some (t935 ++ [t939])) else (none))) = some r := H; have A21 := Aside0.mk A210; clear A210; have c22b0 := eq_true (zq : 0 ≤ t924); have c23b0 := eq_true (zq : t924 ≤ (l0.length : Int)); replace H := Option.bind_eq_some_iff.mp H; obtain ⟨t939, A240, H⟩ := H; replace H : (if t935.length < 8796093022208 then (some (t935 ++ [t939])) else (none)) = some r := H; have A24 := Aside0.mk A240; clear A240
         by_cases c25 : t935.length < 8796093022208
         · rw [if_pos c25] at H; have LMc25 := Aside0.mk c25; clear c25
           obtain ⟨y940, hy940⟩ : ∃ y_ : List ByteArray, y_ = (t935 ++ [t939]) := ⟨_, rfl⟩
           replace H : (some y940) = some r := by first | (rw [hy940]; with_reducible exact H) | (have H2_ := (Option.bind_some _ _).symm.trans H; rw [hy940]; with_reducible exact H2_) | (have H2_ := (Option.bind_some _ _).symm.trans H; with_reducible exact H2_) | with_reducible exact H | (rw [hy940]; exact H) | exact H
           have Ny940 := Aside0.mk hy940; clear hy940; obtain rfl := Option.some.inj H
           go_enter Try.func123, Try.ntmps123
           (try go_wp2_with (first | ((with_reducible refine gate_callee (f := 158) rfl ?_); refine goesL_ (some 11) rfl rfl Try.func158 (by kernel_rfl) rfl #[.int .i64 (l0.length : Int)] rfl (by (try simp only [List.map_toArray, List.map_cons, List.map_nil]); first | done | rfl | (simp only [List.length_drop, List.length_take]; rfl)) ?_; (with_reducible refine (merkle_Split.calls (l0.length : Int) t924 _ A4.out).mono ?_); rintro e w' ⟨rfl, ⟨nd, rfl⟩⟩; refine ⟨_, rfl, ?_⟩))); have n0_ := Aside0.mk (pbD (pbN HB.out nd)); clear HB; have HB := n0_; clear n0_; obtain ⟨i027, hi027, _, hsz27, _⟩ := info_parts info9; obtain ⟨A27, hcut27, hA27, hC27⟩ := print_drop_of (P := Try.prog) Value.string (⟨#[]⟩ : ByteArray) 63 9 .i64 Try.underlying63 hi027 hsz27 A0 c0 l0 t924 (zq) (zq) HC0.out; have HR934 := Aside0.mk (Kd.C_of_reads (h1 := fun _ => rfl) (hA27 _ (Kd.reads_of_C HR0.out))); have HC934 := Aside0.mk hC27; clear hA27 hC27 hi027 hsz27; obtain ⟨i028, hi028, _, hsz28, _⟩ := info_parts info9; obtain ⟨hcut28, hA28, hC28⟩ := print_take_of (P := Try.prog) Value.string (⟨#[]⟩ : ByteArray) 63 9 .i64 Try.underlying63 hi028 hsz28 A0 c0 l0 t924 (zq) (zq) HC0.out; have HR938 := Aside0.mk (Kd.C_of_reads (h1 := fun _ => rfl) (hA28 _ (Kd.reads_of_C HR0.out))); have HC938 := Aside0.mk hC28; clear hA28 hC28 hi028 hsz28
           refine start_ (n := 14) (S := fun w' => True) (ds := []) #[false, false, false, false, false, false, false, false, false, false, false, false, false, false] (by kernel_rfl) rfl rfl trivial (fun hHeld => ?_); refine with_tabW proof_path.tab6 proof_path.bits6 (fun HT_ HW_ => ?_)
           generalize (w.drewN nd).drew = w26 at HB HR934 HR938 hHeld ⊢
           refine pure_ (i := 0) (N := some 26) (v := ?_) (a' := ?_) #[true, false, false, false, false, false, false, false, false, false, false, false, false, false] rfl rfl (any_of HT_.out (by kernel_rfl)) (fun _ _ _ h => h) (Or.inl ⟨by rfl, ?_⟩) ?_ ?_; rotate_left
           · intro w'; go_simp; (with_reducible rfl)
           rotate_left
           · simp only [Act.put, zA, zB, zC, i64_w, i32_w]; rfl
           refine pure_ (i := 1) (N := some 27) (v := ?_) (a' := ?_) #[true, true, false, false, false, false, false, false, false, false, false, false, false, false] rfl rfl (any_of HT_.out (by kernel_rfl)) (fun _ _ _ h => h) (Or.inl ⟨by rfl, ?_⟩) ?_ ?_; rotate_left
           · intro w'; go_simp; (with_reducible rfl)
           rotate_left
           · simp only [Act.put, zA, zB, zC, i64_w, i32_w]; rfl
           refine pure_ (i := 2) (N := some 28) (v := ?_) (a' := ?_) #[true, true, true, false, false, false, false, false, false, false, false, false, false, false] rfl rfl (any_of HT_.out (by kernel_rfl)) (fun _ _ _ h => h) (Or.inl ⟨by rfl, ?_⟩) ?_ ?_; rotate_left
           · intro w'; go_simp; (with_reducible rfl)
           rotate_left
           · simp only [Act.put, zA, zB, zC, i64_w, i32_w]; rfl
           refine pure_ (i := 3) (N := some 29) (v := ?_) (a' := ?_) #[true, true, true, true, false, false, false, false, false, false, false, false, false, false] rfl rfl (any_of HT_.out (by kernel_rfl)) (fun _ _ _ h => h) (Or.inl ⟨by rfl, ?_⟩) ?_ ?_; rotate_left
           · intro w'; go_simp; (with_reducible rfl)
           rotate_left
           · simp only [Act.put, zA, zB, zC, i64_w, i32_w]; rfl
           refine pure_ (i := 4) (N := some 30) (v := ?_) (a' := ?_) #[true, true, true, true, true, false, false, false, false, false, false, false, false, false] rfl rfl (any_of HT_.out (by kernel_rfl)) (fun _ _ _ h => h) (Or.inl ⟨by rfl, ?_⟩) ?_ ?_; rotate_left
           · intro w'; go_simp; (with_reducible rfl)
           rotate_left
           · simp only [Act.put, zA, zB, zC, i64_w, i32_w]; rfl
           refine pure_ (i := 5) (N := some 31) (v := ?_) (a' := ?_) #[true, true, true, true, true, true, false, false, false, false, false, false, false, false] rfl rfl (any_of HT_.out (by kernel_rfl)) (fun _ _ _ h => h) (Or.inl ⟨by rfl, ?_⟩) ?_ ?_; rotate_left
           · intro w'; go_simp; (with_reducible rfl)
           rotate_left
           · simp only [Act.put, zA, zB, zC, i64_w, i32_w]; rfl
           refine pure_ (i := 7) (N := some 33) (v := ?_) (a' := ?_) #[true, true, true, true, true, true, false, true, false, false, false, false, false, false] rfl rfl (any_of HT_.out (by kernel_rfl)) (fun _ _ _ h => h) (Or.inl ⟨by rfl, ?_⟩) ?_ ?_; rotate_left
           · intro w'; go_simp; (with_reducible rfl)
           rotate_left
           · simp only [Act.put, zA, zB, zC, i64_w, i32_w]; rfl
           refine pure_ (i := 8) (N := some 34) (v := ?_) (a' := ?_) #[true, true, true, true, true, true, false, true, true, false, false, false, false, false] rfl rfl (any_of HT_.out (by kernel_rfl)) (fun _ _ _ h => h) (Or.inl ⟨by rfl, ?_⟩) ?_ ?_; rotate_left
           · intro w'; go_simp; (with_reducible rfl)
           rotate_left
           · simp only [Act.put, zA, zB, zC, i64_w, i32_w]; rfl
           refine pure_ (i := 9) (N := some 35) (v := ?_) (a' := ?_) #[true, true, true, true, true, true, false, true, true, true, false, false, false, false] rfl rfl (any_of HT_.out (by kernel_rfl)) (fun _ _ _ h => h) (Or.inl ⟨by rfl, ?_⟩) ?_ ?_; rotate_left
           · intro w'; go_simp; (with_reducible rfl)
           rotate_left
           · simp only [Act.put, zA, zB, zC, i64_w, i32_w]; rfl
           refine one_ (i := 6) (N := some 32) #[true, true, true, true, true, true, true, true, true, true, false, false, false, false] rfl rfl (one_of HT_.out (by kernel_rfl)) (by decide) (fun K hK => ?_); refine goes_ Try.func123 (by kernel_rfl) rfl #[.slice A27 (l0.drop (t924 : Int).toNat).length (c0 - t924.toNat), .int .i64 (wrap64 (a1 - t924))] (by rfl) rfl rfl (by (try simp only [List.map_toArray, List.map_cons, List.map_nil]); first | done | (rw [show (l0.drop (t924 : Int).toNat).length = (l0.length - t924.toNat) from List.length_drop] <;> rfl) | rfl | (simp only [List.length_drop, List.length_take]; rfl)) ?_; (with_reducible refine (ih k (by omega) _ _ (l0.drop (t924 : Int).toNat) (wrap64 (a1 - t924)) t935 _ ?side1 ?side2 A21.out).mono ?_); (case side1 => exact Kd.C_below HR934.out (zh HB.out)); (case side2 => exact HC934.out); rintro e w29 ⟨v936, rfl, ho0, hb⟩; refine ⟨_, rfl, ?_⟩; have n0_ := Aside0.mk (Kd.R_lower ho0 (below_size (zh HB.out))); have n1_ := Aside0.mk (below_step (zh HB.out) hb); clear HB; have HO937 := n0_; have HB := n1_; clear n0_ n1_; (try clear hb); (try clear hb2); (try clear hk); (try clear hi); (try clear ho0); refine hK.out _ _ trivial (fun hHeld => ?_); clear hK K; refine norm_ (a' := ?_) ?_ ?_; rotate_left
           · show Act.put _ (some 32) _ = _
             simp only [Act.put, zA, zB, zC, i64_w, i32_w]; rfl
           refine one_ (i := 10) (N := some 36) #[true, true, true, true, true, true, true, true, true, true, true, false, false, false] rfl rfl (one_of HT_.out (by kernel_rfl)) (by decide) (fun K hK => ?_); refine goes_ Try.func159 (by kernel_rfl) rfl #[.slice A0 (l0.take (t924 : Int).toNat).length c0] (by rfl) rfl rfl (by (try simp only [List.map_toArray, List.map_cons, List.map_nil]); first | done | (rw [show (l0.take (t924 : Int).toNat).length = t924.toNat from (by rw [List.length_take]; have h_ : (t924 : Int) ≤ (l0.length : Int) := zq; omega)] <;> rfl) | rfl | (simp only [List.length_drop, List.length_take]; rfl)) ?_; (with_reducible refine (proof_tree.calls k _ _ (l0.take (t924 : Int).toNat) t939 _ ?side1 ?side2 A24.out).mono ?_); (case side1 => exact Kd.C_below HR938.out (zh HB.out)); (case side2 => exact HC938.out); rintro e w30 ⟨rfl, hb⟩; refine ⟨_, rfl, ?_⟩; have n0_ := Aside0.mk (Kd.R_below (zr HO937.out) hb); have n1_ := Aside0.mk (below_step (zh HB.out) hb); clear HO937; clear HB; have HO937 := n0_; have HB := n1_; clear n0_ n1_; (try clear hb); (try clear hb2); (try clear hk); (try clear hi); refine hK.out _ _ trivial (fun hHeld => ?_); clear hK K; refine norm_ (a' := ?_) ?_ ?_; rotate_left
           · show Act.put _ (some 36) _ = _
             simp only [Act.put, zA, zB, zC, i64_w, i32_w]; rfl
           refine one_ (i := 11) (N := some 37) #[true, true, true, true, true, true, true, true, true, true, true, true, false, false] rfl rfl (one_of HT_.out (by kernel_rfl)) (by decide) (fun K hK => ?_); refine value_ (w1 := ?_) (v := ?_) (by rfl) rfl ?_ ?_; rotate_left 2
           · go_simp; constructor
             · rfl
             · rfl
           refine hK.out _ _ trivial (fun hHeld => ?_); clear hK K; refine norm_ (a' := ?_) ?_ ?_; rotate_left
           · show Act.put _ (some 37) _ = _
             simp only [Act.put, zA, zB, zC, i64_w, i32_w]; rfl
           refine one_ (i := 12) (N := some 38) #[true, true, true, true, true, true, true, true, true, true, true, true, true, false] rfl rfl (one_of HT_.out (by kernel_rfl)) (by decide) (fun K hK => ?_); refine Kd.R_append_step Kd.string (w0 := w) w.heap.size (by rfl) (.tmp 32) (.tmp 37) 63 9 (.string ⟨#[]⟩) 16 rfl Try.underlying63 info9 rfl (by decide) (by omega) v936 t935 t939 [.string t939] (fun _ => True) (fun _ => False) rfl rfl ?aP (fun _ hk => hk.elim) ?aF ?aO ?aB ?aS ?aL ?_; (case aP => exact rfl); (case aB => exact (zh HB.out)); (case aF => exact (fun _ _ => trivial)); (case aO => exact (zr HO937.out)); (case aS => exact (below_size (zh HB.out))); (case aL => have := LMc25.out; omega); intro v941 w31 ho hb hg hat; rw [← Ny940.out] at ho; have n0_ := Aside0.mk (hb); have n1_ := Aside0.mk (ho); clear HB; clear HO937; have HB := n0_; have HO942 := n1_; clear n0_ n1_; clear ho hb hg hat; refine hK.out _ _ trivial (fun hHeld => ?_); clear hK K; refine norm_ (a' := ?_) ?_ ?_; rotate_left
           · show Act.put _ (some 38) _ = _
             simp only [Act.put, zA, zB, zC, i64_w, i32_w]; rfl
           refine pure_ (i := 13) (N := some 4) (v := ?_) (a' := ?_) #[true, true, true, true, true, true, true, true, true, true, true, true, true, true] rfl rfl (any_of HT_.out (by kernel_rfl)) (fun _ _ _ h => h) (Or.inl ⟨by rfl, ?_⟩) ?_ ?_; rotate_left
           · intro w'; go_simp; (with_reducible rfl)
           rotate_left
           · simp only [Act.put, zA, zB, zC, i64_w, i32_w]; rfl
           refine done_ (done_of HT_.out (by kernel_rfl)) ?_; (try go_wp2); go_ret; exact ⟨_, by first | rfl | (simp [errW_none, errW_some] <;> rfl) | (simp [*, errW_none, errW_some] <;> rfl), zr HO942.out, zh HB.out⟩
         · rw [if_neg c25] at H; exact absurd H (by simp)
       · rw [if_neg c20] at H; exact absurd H (by simp)
     · rw [if_neg c19] at H; exact absurd H (by simp)
end Go.Proofs.Ytipgldfbjlhpoab.P
