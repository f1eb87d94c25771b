import Derived.Test.YtipgldfbjlhpoabZeP0
-- Printed by wip/myprint.py.
namespace Go.Proofs.Ytipgldfbjlhpoab.P
open Go.RowKit Go.Proofs.YtipgldfbjlhpoabW.PrintWords Go.Proofs.YtipgldfbjlhpoabW.PrintLast Go.Proofs.YtipgldfbjlhpoabW.PrintMore
attribute [local go_sem] max2_int min2_int max_two min_two max_three min_three max_four min_four   -- for this text's walks alone
set_option linter.unusedVariables false
set_option linter.unusedSimpArgs false
mutual
def footbridgeref04_Pad.l0 : Nat → Int → List Int → Option (ByteArray)
 | 0, _, _ => none
 | k + 1, x0, x3 => if (Int.tmod (wrap64 ((wrap64 ((Int.tmod x0 64) + (x3.length : Int))) + 8)) 64) = 0 then (footbridgeref04_Pad.l1 k x0 x3 7) else (if x3.length < 140737488355328 then (footbridgeref04_Pad.l0 k x0 (x3 ++ [0])) else (none))
def footbridgeref04_Pad.l1 : Nat → Int → List Int → Int → Option (ByteArray)
 | 0, _, _, _ => none
 | k + 1, x0, x3, x4 => if x4 ≥ 0 then (if 0 ≤ (IntKind.u64.wrap (wrap64 (8 * x4))) then (if x3.length < 140737488355328 then (footbridgeref04_Pad.l1 k x0 (x3 ++ [(shr .u64 (IntKind.u64.wrap ((IntKind.u64.wrap (x0)) * 8)) (IntKind.u64.wrap (wrap64 (8 * x4)))) % 256]) (wrap64 (x4 - 1))) else (none)) else (none)) else (some (strOfNums x3))
end
def footbridgeref04_Pad.f (k : Nat) (a0 : Int) : Option (ByteArray) := if a0 < 0 then (some (⟨#[]⟩ : ByteArray)) else (footbridgeref04_Pad.l0 k a0 (([128] : List Int)))
set_option maxHeartbeats 8000000 in
set_option maxRecDepth 100000 in
theorem footbridgeref04_Pad.calls (k : Nat) (a0 : Int) (r : ByteArray) (w : World) (h : footbridgeref04_Pad.f k a0 = some r) :
  Calls Try.prog 142 #[.int .i64 a0] w fun e w' => e = .returned (.string r) ∧ Below w.heap.size w w' := by
 have HB := Aside0.mk (Below.refl w.heap.size w); have H : (if a0 < 0 then (some (⟨#[]⟩ : ByteArray)) else (footbridgeref04_Pad.l0 k a0 (([128] : List Int)))) = some r := h; clear h
 by_cases c2 : a0 < 0
 · rw [if_pos c2] at H; have c2b0 : decide (a0 < 0) = true := decide_eq_true c2; clear c2; obtain rfl := Option.some.inj H
   go_enter Try.func142, Try.ntmps142
   go_wp2; go_ret; exact ⟨by first | rfl | (simp [errW_none, errW_some] <;> rfl) | (simp [*, errW_none, errW_some] <;> rfl), zh HB.out⟩
 · rw [if_neg c2] at H; have c2b0 : decide (a0 < 0) = false := decide_eq_false c2; clear c2
   obtain ⟨y249, hy249⟩ : ∃ y_ : List Int, y_ = (([128] : List Int)) := ⟨_, rfl⟩
   replace H : (footbridgeref04_Pad.l0 k a0 y249) = some r := by first | (rw [hy249]; with_reducible exact H) | (have H2_ := (Option.bind_some _ _).symm.trans H; rw [hy249]; with_reducible exact H2_) | (have H2_ := (Option.bind_some _ _).symm.trans H; with_reducible exact H2_) | with_reducible exact H | (rw [hy249]; exact H) | exact H
   have Ny249 := Aside0.mk hy249; clear hy249; have H' := Aside0.mk H; clear H
   go_enter Try.func142, Try.ntmps142
   go_wp2_with (first | ((with_reducible refine gate_dst (N := 7) rfl ?_); refine Kd.R_lit (Kd.int .u8) _ 5 ?hg (N := 7) ?hd (xs := ([128] : List Int)) (inner := [.int .u8 128]) (ok := fun _ => True) (okp := fun _ => True) ?hr ?hp (fun _ hk => hk) trivial (Below.refl _ _) (Nat.le_refl _) (by simp) ?_; (case hd => rfl); (case hg => rfl); (case hr => first | (go_simp; done) | (go_simp; rfl)); (case hp => exact (Reps.one (show Kd.M (Kd.int .u8) _ _ _ 128 [.int .u8 128] from rfl) (Reps.none _ _))); intro v250 w3 ho4 hb hg_ hnew_; clear hg_ hnew_; (first | rw [← Ny249.out] at ho4 | (simp only [Int.reduceToNat] at ho4; rw [← Ny249.out] at ho4)); have n0_ := Aside0.mk (Kd.R_lower ho4 (below_size (zh HB.out))); have n1_ := Aside0.mk (below_step (zh HB.out) hb); clear HB; have HO251 := n0_; have HB := n1_; clear n0_ n1_; clear hb ho4))
   go_loopg [3] k (fun kq v3 w' => ∃ (x3_1 : List Int), Aside0 (footbridgeref04_Pad.l0 kq a0 x3_1 = some r) ∧ Aside0 (kq ≤ k) ∧ Aside0 (Kd.R (Kd.int .u8) 5 w' w.heap.size (fun _ => True) v3 x3_1) ∧ Aside0 (Below w.heap.size w w'))
   case atStart => exact ⟨(y249), H', ⟨Nat.le_refl _⟩, ⟨zr HO251.out⟩, ⟨zh HB.out⟩⟩
   case round =>
    clear H'; (try clear c1); (try clear c2); (try clear c2b0); (try clear p2); obtain ⟨x3_1, HA, HK1, HO_3, HB⟩ := hrel
    cases gk with
    | zero => exact absurd HA.out (by simp [footbridgeref04_Pad.l0])
    | succ k1 =>
     have H := HA.out; clear HA; simp only [footbridgeref04_Pad.l0] at H
     by_cases c5 : (Int.tmod (wrap64 ((wrap64 ((Int.tmod a0 64) + (x3_1.length : Int))) + 8)) 64) = 0
     · rw [if_pos c5] at H; have c5b0 : ((Int.tmod (wrap64 ((wrap64 ((Int.tmod a0 64) + (x3_1.length : Int))) + 8)) 64) == 0) = true := beq_iff_eq.mpr c5; have c5b1 : ((Int.tmod (wrap64 ((wrap64 ((Int.tmod a0 64) + (x3_1.length : Int))) + 8)) 64) != 0) = false := bne_eq_false_iff_eq.mpr c5; clear c5; have H' := Aside0.mk H; clear H; obtain ⟨Ao6, co6, eo6⟩ := Kd.R_slice HO_3.out; subst eo6; go_wp2
       go_loopg [3, 4] k1 (fun kq v3 v4 w' => ∃ (x3_2 : List Int) (x4_2 : Int), v4 = .int .i64 x4_2 ∧ Aside0 (footbridgeref04_Pad.l1 kq a0 x3_2 x4_2 = some r) ∧ Aside0 (kq ≤ k1) ∧ Aside0 (Kd.R (Kd.int .u8) 5 w' w.heap.size (fun _ => True) v3 x3_2) ∧ Aside0 (Below w.heap.size w w'))
       case atStart => exact ⟨(x3_1), (7), (by first | rfl | (simp; done) | (simp [*]; done)), H', ⟨Nat.le_refl _⟩, ⟨zr HO_3.out⟩, ⟨zh HB.out⟩⟩
       case round =>
        clear H'; (try clear c1); (try clear c2); (try clear c2b0); (try clear p2); (try clear c5); (try clear c5b0); (try clear c5b1); (try clear p6); (try clear p2); obtain ⟨x3_2, x4_2, rfl, HA, HK2, HO_3, HB⟩ := hrel
        cases gk with
        | zero => exact absurd HA.out (by simp [footbridgeref04_Pad.l1])
        | succ k2 =>
         have H := HA.out; clear HA; simp only [footbridgeref04_Pad.l1] at H
         by_cases c7 : x4_2 ≥ 0
         · rw [if_pos c7] at H; have c7b0 : decide (0 ≤ x4_2) = true := decide_eq_true c7; clear c7
           obtain ⟨ji8, hji8⟩ : ∃ j_ : Int, (IntKind.u64.wrap (wrap64 (8 * x4_2))) = j_ := ⟨_, rfl⟩
           replace H : (if 0 ≤ (ji8) then (if x3_2.length < 140737488355328 then (footbridgeref04_Pad.l1 k2 a0 (x3_2 ++ [(shr .u64 (IntKind.u64.wrap ((IntKind.u64.wrap (a0)) * 8)) (ji8)) % 256]) (wrap64 (x4_2 - 1))) else (none)) else (none)) = some r := by first | (rw [hji8] at H; exact H) | (simp only [hji8] at H ⊢; exact H)
           by_cases c9 : 0 ≤ (ji8)
           · rw [if_pos c9] at H; have c9b0 := eq_true c9; have c9b1 : decide (0 ≤ (ji8)) = true := decide_eq_true c9; clear c9
             obtain ⟨ji10, hji10⟩ : ∃ j_ : Int, (shr .u64 (IntKind.u64.wrap ((IntKind.u64.wrap (a0)) * 8)) (ji8)) = j_ := ⟨_, rfl⟩
             replace H : (if x3_2.length < 140737488355328 then (footbridgeref04_Pad.l1 k2 a0 (x3_2 ++ [(ji10) % 256]) (wrap64 (x4_2 - 1))) else (none)) = some r := by first | (rw [hji10] at H; exact H) | (simp only [hji10] at H ⊢; exact H)
             have hji10_ : ((IntKind.u64.wrap ((IntKind.u64.wrap (a0)) * 8)) / 2 ^ min (ji8).toNat 64) = ji10 := hji10; have hji10z : (ji8) ≤ 64 → ((IntKind.u64.wrap ((IntKind.u64.wrap (a0)) * 8)) / 2 ^ (ji8).toNat) = ji10 := shr_small hji10
             by_cases c11 : x3_2.length < 140737488355328
             · rw [if_pos c11] at H; have LMc11 := Aside0.mk c11; clear c11
               obtain ⟨y255, hy255⟩ : ∃ y_ : List Int, y_ = (x3_2 ++ [(ji10) % 256]) := ⟨_, rfl⟩
               replace H : (footbridgeref04_Pad.l1 k2 a0 y255 (wrap64 (x4_2 - 1))) = some r := by first | (rw [hy255]; with_reducible exact H) | (have H2_ := (Option.bind_some _ _).symm.trans H; rw [hy255]; with_reducible exact H2_) | (have H2_ := (Option.bind_some _ _).symm.trans H; with_reducible exact H2_) | with_reducible exact H | (rw [hy255]; exact H) | exact H
               have Ny255 := Aside0.mk hy255; clear hy255; have H' := Aside0.mk H; clear H
               go_wp2_with (first | ((with_reducible refine gate_builtin (b := .append) (xs := #[.tmp 23, .tmp 32]) rfl ?_); at_builtin; refine Kd.R_append (Kd.int .u8) (w0 := w) w.heap.size rfl (.tmp 23) (.tmp 32) 142 5 (.int .u8 0) 1 rfl Try.underlying142 info5 rfl (by decide) (by omega) u3 x3_2 ((ji10) % 256) [.int .u8 ((ji10) % 256)] (fun _ => True) (fun _ => False) rfl rfl ?aP (fun _ hk => hk.elim) ?aF ?aO ?aB ?aS ?aL ?_; (case aP => exact rfl); (case aB => exact (zh HB.out)); (case aF => exact (fun _ _ => trivial)); (case aO => exact (zr HO_3.out)); (case aS => exact (below_size (zh HB.out))); (case aL => have := LMc11.out; omega); intro v256 w12 ho hb hg hat; rw [← Ny255.out] at ho; have n0_ := Aside0.mk (hb); have n1_ := Aside0.mk (ho); clear HB; clear HO_3; have HB := n0_; have HO257 := n1_; clear n0_ n1_; clear ho hb hg hat))
               go_roundg k2
               case measure => have := HK1.out; have := HK2.out; omega
               case rel => exact ⟨(y255), (wrap64 (x4_2 - 1)), (by first | rfl | (simp; done) | (simp [*]; done)), H', ⟨by have := HK1.out; have := HK2.out; omega⟩, ⟨zr HO257.out⟩, ⟨zh HB.out⟩⟩
             · rw [if_neg c11] at H; exact absurd H (by simp)
           · rw [if_neg c9] at H; exact absurd H (by simp)
         · rw [if_neg c7] at H; have c7b0 : decide (0 ≤ x4_2) = false := decide_eq_false c7; clear c7; obtain rfl := Option.some.inj H; have hcv13 := own_string (P := Try.prog) Try.underlying142 Try.underlying5 Try.underlying9 (Kd.own_of_R HO_3.out); go_wp2; go_ret; exact ⟨by first | rfl | (simp [errW_none, errW_some] <;> rfl) | (simp [*, errW_none, errW_some] <;> rfl), zh HB.out⟩
     · rw [if_neg c5] at H; have c5b0 : ((Int.tmod (wrap64 ((wrap64 ((Int.tmod a0 64) + (x3_1.length : Int))) + 8)) 64) == 0) = false := beq_eq_false_iff_ne.mpr c5; have c5b1 : ((Int.tmod (wrap64 ((wrap64 ((Int.tmod a0 64) + (x3_1.length : Int))) + 8)) 64) != 0) = true := bne_iff_ne.mpr c5
       by_cases c14 : x3_1.length < 140737488355328
       · rw [if_pos c14] at H; have LMc14 := Aside0.mk c14; clear c14
         obtain ⟨y252, hy252⟩ : ∃ y_ : List Int, y_ = (x3_1 ++ [0]) := ⟨_, rfl⟩
         replace H : (footbridgeref04_Pad.l0 k1 a0 y252) = some r := by first | (rw [hy252]; with_reducible exact H) | (have H2_ := (Option.bind_some _ _).symm.trans H; rw [hy252]; with_reducible exact H2_) | (have H2_ := (Option.bind_some _ _).symm.trans H; with_reducible exact H2_) | with_reducible exact H | (rw [hy252]; exact H) | exact H
         have Ny252 := Aside0.mk hy252; clear hy252; have H' := Aside0.mk H; clear H; obtain ⟨Ao15, co15, eo15⟩ := Kd.R_slice HO_3.out; subst eo15
         go_wp2_with (first | ((with_reducible refine gate_builtin (b := .append) (xs := #[.tmp 16, .tmp 17]) rfl ?_); at_builtin; refine Kd.R_append (Kd.int .u8) (w0 := w) w.heap.size rfl (.tmp 16) (.tmp 17) 142 5 (.int .u8 0) 1 rfl Try.underlying142 info5 rfl (by decide) (by omega) (.slice Ao15 x3_1.length co15) x3_1 0 [.int .u8 0] (fun _ => True) (fun _ => False) rfl rfl ?aP (fun _ hk => hk.elim) ?aF ?aO ?aB ?aS ?aL ?_; (case aP => exact rfl); (case aB => exact (zh HB.out)); (case aF => exact (fun _ _ => trivial)); (case aO => exact (zr HO_3.out)); (case aS => exact (below_size (zh HB.out))); (case aL => have := LMc14.out; omega); intro v253 w16 ho hb hg hat; rw [← Ny252.out] at ho; have n0_ := Aside0.mk (hb); have n1_ := Aside0.mk (ho); clear HB; clear HO_3; have HB := n0_; have HO254 := n1_; clear n0_ n1_; clear ho hb hg hat))
         go_roundg k1
         case measure => have := HK1.out; omega
         case rel => exact ⟨(y252), H', ⟨by have := HK1.out; omega⟩, ⟨zr HO254.out⟩, ⟨zh HB.out⟩⟩
       · rw [if_neg c14] at H; exact absurd H (by simp)
def footbridgeref04_word.l0 : Nat → ByteArray → Int → Int → Int → Option (Int)
 | 0, _, _, _, _ => none
 | k + 1, x0, x1, x5, x6 => if x6 < (wrap64 (x1 + 4)) then (if x6 < (x0.size : Int) then (if 0 ≤ x6 then (footbridgeref04_word.l0 k x0 x1 (Go.bits .or .u32 ((x5 * 256) % 4294967296) ((bt x0 x6) % 4294967296)) (wrap64 (x6 + 1))) else (none)) else (footbridgeref04_word.l0 k x0 x1 ((x5 * 256) % 4294967296) (wrap64 (x6 + 1)))) else (some x5)
def footbridgeref04_word.f (k : Nat) (a0 : ByteArray) (a1 : Int) : Option (Int) := footbridgeref04_word.l0 k a0 a1 0 a1
set_option maxHeartbeats 8000000 in
set_option maxRecDepth 100000 in
theorem footbridgeref04_word.calls (k : Nat) (a0 : ByteArray) (a1 : Int) (r : Int) (w : World) (h : footbridgeref04_word.f k a0 a1 = some r) :
  Calls Try.prog 168 #[.string a0, .int .i64 a1] w fun e w' => e = .returned (.int .u32 r) ∧ Drawn0 w w' := by
 have H : (footbridgeref04_word.l0 k a0 a1 0 a1) = some r := h; clear h; have H' := Aside0.mk H; clear H
 go_enter Try.func168, Try.ntmps168
 go_wp2
 go_loopg [5, 6] k (fun kq v5 v6 w' => ∃ (x5_1 : Int) (x6_1 : Int), v5 = .int .u32 x5_1 ∧ v6 = .int .i64 x6_1 ∧ Aside0 (footbridgeref04_word.l0 kq a0 a1 x5_1 x6_1 = some r) ∧ Aside0 (kq ≤ k) ∧ Drawn0 w w')
 case atStart => exact ⟨(0), (a1), (by first | rfl | (simp; done) | (simp [*]; done)), (by first | rfl | (simp; done) | (simp [*]; done)), H', ⟨Nat.le_refl _⟩, by repeat (first | exact Drawn0.refl _ | apply Drawn0.step)⟩
 case round =>
  clear H'; (try clear c1); (try clear p2); obtain ⟨x5_1, x6_1, rfl, rfl, HA, HK1, ⟨m1, rfl⟩⟩ := hrel
  cases gk with
  | zero => exact absurd HA.out (by simp [footbridgeref04_word.l0])
  | succ k1 =>
   have H := HA.out; clear HA; simp only [footbridgeref04_word.l0] at H
   by_cases c3 : x6_1 < (wrap64 (a1 + 4))
   · rw [if_pos c3] at H; have c3b0 : decide (x6_1 < (wrap64 (a1 + 4))) = true := decide_eq_true c3; clear c3
     by_cases c4 : x6_1 < (a0.size : Int)
     · rw [if_pos c4] at H; have c4b0 : decide (x6_1 < (a0.size : Int)) = true := decide_eq_true c4; clear c4
       by_cases c5 : 0 ≤ x6_1
       · rw [if_pos c5] at H; have c5b0 : decide (0 ≤ x6_1) = true := decide_eq_true c5; clear c5; have H' := Aside0.mk H; clear H; have p6 : 0 ≤ (x6_1 : Int) := zq; have q6 : x6_1 < (a0.size : Int) := zq; have hx6 := bt_at a0 x6_1; replace p6 := eq_true p6; replace q6 := eq_true q6; go_wp2
         go_roundg k1
         case measure => have := HK1.out; omega
         case rel => exact ⟨(Go.bits .or .u32 ((x5_1 * 256) % 4294967296) ((bt a0 x6_1) % 4294967296)), (wrap64 (x6_1 + 1)), (by first | rfl | (simp; done) | (simp [*]; done)), (by first | rfl | (simp; done) | (simp [*]; done)), H', ⟨by have := HK1.out; omega⟩, by repeat (first | exact Drawn0.refl _ | apply Drawn0.step)⟩
       · rw [if_neg c5] at H; exact absurd H (by simp)
     · rw [if_neg c4] at H; have c4b0 : decide (x6_1 < (a0.size : Int)) = false := decide_eq_false c4; clear c4; have H' := Aside0.mk H; clear H; go_wp2
       go_roundg k1
       case measure => have := HK1.out; omega
       case rel => exact ⟨((x5_1 * 256) % 4294967296), (wrap64 (x6_1 + 1)), (by first | rfl | (simp; done) | (simp [*]; done)), (by first | rfl | (simp; done) | (simp [*]; done)), H', ⟨by have := HK1.out; omega⟩, by repeat (first | exact Drawn0.refl _ | apply Drawn0.step)⟩
   · rw [if_neg c3] at H; have c3b0 : decide (x6_1 < (wrap64 (a1 + 4))) = false := decide_eq_false c3; clear c3; obtain rfl := Option.some.inj H; go_wp2; go_ret; exact ⟨by first | rfl | (simp; done) | (simp [*]; done), by repeat (first | exact Drawn0.refl _ | apply Drawn0.step)⟩
end Go.Proofs.Ytipgldfbjlhpoab.P
