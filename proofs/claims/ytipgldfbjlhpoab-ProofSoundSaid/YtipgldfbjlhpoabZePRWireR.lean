import Derived.Test.YtipgldfbjlhpoabZeP0
-- Printed by wip/myprint.py.
namespace Go.Proofs.Ytipgldfbjlhpoab.P
open Go.RowKit Go.Proofs.YtipgldfbjlhpoabW.PrintWords Go.Proofs.YtipgldfbjlhpoabW.PrintLast Go.Proofs.YtipgldfbjlhpoabW.PrintMore
attribute [local go_sem] max2_int min2_int max_two min_two max_three min_three max_four min_four   -- for this text's walks alone
set_option linter.unusedVariables false
set_option linter.unusedSimpArgs false
def sha_Pad.l0 : Nat → Int → List Int → Int → Option (ByteArray)
 | 0, _, _, _ => none
 | k + 1, x0, x4, x18 => if x18 < 8 then (if 0 ≤ (wrap64 (8 * x18)) then (if 0 ≤ (wrap64 ((wrap64 ((x4.length : Int) - 1)) - x18)) then (if (wrap64 ((wrap64 ((x4.length : Int) - 1)) - x18)) < (x4.length : Int) then (sha_Pad.l0 k x0 (x4.set ((wrap64 ((wrap64 ((x4.length : Int) - 1)) - x18)) : Int).toNat ((shr .u64 (IntKind.u64.wrap ((IntKind.u64.wrap (x0)) * 8)) (wrap64 (8 * x18))) % 256)) (wrap64 (x18 + 1))) else (none)) else (none)) else (none)) else (some (strOfNums x4))
def sha_Pad.f (k : Nat) (a0 : Int) : Option (ByteArray) := if a0 < 0 then (some (⟨#[]⟩ : ByteArray)) else (if 0 ≤ (wrap64 ((wrap64 (1 + (Int.tmod (wrap64 (119 - (Int.tmod a0 64))) 64))) + 8)) then (if (wrap64 ((wrap64 (1 + (Int.tmod (wrap64 (119 - (Int.tmod a0 64))) 64))) + 8) : Int).toNat ≤ 281474976710656 then ((some (List.replicate (wrap64 ((wrap64 (1 + (Int.tmod (wrap64 (119 - (Int.tmod a0 64))) 64))) + 8) : Int).toNat 0 : List Int)).bind fun y160 => (if 0 < (y160.length : Int) then (sha_Pad.l0 k a0 (y160.set (0 : Int).toNat 128) 0) else (none))) else (none)) else (none))
set_option maxHeartbeats 8000000 in
set_option maxRecDepth 100000 in
theorem sha_Pad.calls (k : Nat) (a0 : Int) (r : ByteArray) (w : World) (h : sha_Pad.f k a0 = some r) :
  Calls Try.prog 167 #[.int .i64 a0] w fun e w' => e = .returned (.string r) ∧ Below w.heap.size w w' := by
 have HB := Aside0.mk (Below.refl w.heap.size w); have H : (if a0 < 0 then (some (⟨#[]⟩ : ByteArray)) else (if 0 ≤ (wrap64 ((wrap64 (1 + (Int.tmod (wrap64 (119 - (Int.tmod a0 64))) 64))) + 8)) then (if (wrap64 ((wrap64 (1 + (Int.tmod (wrap64 (119 - (Int.tmod a0 64))) 64))) + 8) : Int).toNat ≤ 281474976710656 then ((some (List.replicate (wrap64 ((wrap64 (1 + (Int.tmod (wrap64 (119 - (Int.tmod a0 64))) 64))) + 8) : Int).toNat 0 : List Int)).bind fun y160 => (if 0 < (y160.length : Int) then (sha_Pad.l0 k a0 (y160.set (0 : Int).toNat 128) 0) else (none))) else (none)) else (none))) = some r := h; clear h
 by_cases c2 : a0 < 0
 · rw [if_pos c2] at H; have c2b0 : decide (a0 < 0) = true := decide_eq_true c2; clear c2; obtain rfl := Option.some.inj H
   go_enter Try.func167, Try.ntmps167
   go_wp2; go_ret; exact ⟨by first | rfl | (simp [errW_none, errW_some] <;> rfl) | (simp [*, errW_none, errW_some] <;> rfl), zh HB.out⟩
 · rw [if_neg c2] at H; have c2b0 : decide (a0 < 0) = false := decide_eq_false c2; clear c2
   obtain ⟨ji3, hji3⟩ : ∃ j_ : Int, (wrap64 ((wrap64 (1 + (Int.tmod (wrap64 (119 - (Int.tmod a0 64))) 64))) + 8)) = j_ := ⟨_, rfl⟩
   replace H : (if 0 ≤ (ji3) then (if (ji3 : Int).toNat ≤ 281474976710656 then ((some (List.replicate (ji3 : Int).toNat 0 : List Int)).bind fun y160 => (if 0 < (y160.length : Int) then (sha_Pad.l0 k a0 (y160.set (0 : Int).toNat 128) 0) else (none))) else (none)) else (none)) = some r := by first | (rw [hji3] at H; exact H) | (simp only [hji3] at H ⊢; exact H)
   have hji3w : (IntKind.i64.wrap ((wrap64 (1 + (Int.tmod (wrap64 (119 - (Int.tmod a0 64))) 64))) + 8)) = ji3 := (i64_w _).trans hji3
   by_cases c4 : 0 ≤ (ji3)
   · rw [if_pos c4] at H; have c4b0 := eq_true c4; have c4b1 : decide (0 ≤ (ji3)) = true := decide_eq_true c4; clear c4
     by_cases c5 : (ji3 : Int).toNat ≤ 281474976710656
     · rw [if_pos c5] at H; have c5b0 := eq_true c5; have c5b1 : decide ((ji3 : Int).toNat ≤ 281474976710656) = true := decide_eq_true c5; clear c5
       obtain ⟨y160, hy160⟩ : ∃ y_ : List Int, y_ = (List.replicate (ji3 : Int).toNat 0) := ⟨_, rfl⟩
       replace H : (if 0 < (y160.length : Int) then (sha_Pad.l0 k a0 (y160.set (0 : Int).toNat 128) 0) else (none)) = some r := by first | (rw [hy160]; with_reducible exact H) | (have H2_ := (Option.bind_some _ _).symm.trans H; rw [hy160]; with_reducible exact H2_) | (have H2_ := (Option.bind_some _ _).symm.trans H; with_reducible exact H2_) | with_reducible exact H | (rw [hy160]; exact H) | exact H
       have Ny160 := Aside0.mk hy160; clear hy160
       by_cases c6 : 0 < (y160.length : Int)
       · rw [if_pos c6] at H; have c6b0 : decide (0 < (y160.length : Int)) = true := decide_eq_true c6; have c6b1 : decide (0 < y160.length) = true := decide_eq_true (by omega); clear c6
         obtain ⟨y163, hy163⟩ : ∃ y_ : List Int, y_ = (y160.set (0 : Int).toNat 128) := ⟨_, rfl⟩
         replace H : (sha_Pad.l0 k a0 y163 0) = some r := by first | (rw [hy163]; with_reducible exact H) | (have H2_ := (Option.bind_some _ _).symm.trans H; rw [hy163]; with_reducible exact H2_) | (have H2_ := (Option.bind_some _ _).symm.trans H; with_reducible exact H2_) | with_reducible exact H | (rw [hy163]; exact H) | exact H
         have Ny163 := Aside0.mk hy163; clear hy163; have H' := Aside0.mk H; clear H
         go_enter Try.func167, Try.ntmps167
         go_wp2_with (first | ((with_reducible refine gate_dst (N := 15) rfl ?_); refine Kd.R_make (Kd.int .u8) _ 5 rfl (N := 15) rfl 142 _ _ rfl ji3 rfl rfl Try.underlying142 (.int .u8 0) 1 info5 rfl (by decide) (by omega) 0 (ok := fun _ => True) (okp := fun _ => True) rfl (fun _ hk => hk) trivial (zq) (Nat.le_trans (Nat.mul_le_mul_right _ (zq : ji3.toNat ≤ 281474976710656)) (by omega)) (Below.refl _ _) (Nat.le_refl _) ?_; intro v161 w8 ho9 hb hg_ hnew_; clear hg_ hnew_; (first | rw [← Ny160.out] at ho9 | (simp only [Int.reduceToNat] at ho9; rw [← Ny160.out] at ho9)); have n0_ := Aside0.mk (Kd.R_lower ho9 (below_size (zh HB.out))); have n1_ := Aside0.mk (below_step (zh HB.out) hb); clear HB; have HO162 := n0_; have HB := n1_; clear n0_ n1_; clear hb ho9; have p7 : 0 ≤ (0 : Int) := (by omega); have q7 : (0 : Int) < ((y160.length : Int) : Int) := zq; have qi7 : (0 < y160.length) = True := eq_true (by omega); obtain ⟨go7, co7, eo7, gb7, gl7, cl7, HG7⟩ := Kd.R_form HO162.out (by omega); (first | cases eo7 | (injection eo7 with ea_ en_ ec_; (first | subst ea_ | (injection ea_ with ea_; subst ea_)); subst ec_; clear en_)); have GB7 := Aside0.mk gb7; have GG7 := Aside0.mk HG7; clear gb7 gl7 HG7; obtain ⟨hx7_0, hf7_0⟩ := Kd.R_celln 0 HO162.out (0 : Int) p7 q7; (try rw [show ((0 : Int)).toNat = 0 from rfl] at hx7_0); (try simp only [Nat.reduceMul, Nat.zero_mul, Nat.zero_add, Nat.reduceAdd] at hx7_0); (try rw [show ((0 : Int)).toNat = 0 from rfl] at hf7_0); (try simp only [Nat.reduceMul, Nat.zero_mul, Nat.zero_add, Nat.reduceAdd] at hf7_0); replace p7 := eq_true p7; replace q7 := eq_true q7; obtain ⟨hy10_, hz10_⟩ := Kd.R_celln 0 HO162.out (0 : Int) (by omega) (zq); (try simp only [Int.reduceToNat, Int.toNat_zero, Int.toNat_ofNat, Nat.reduceMul, Nat.zero_mul, Nat.zero_add] at hy10_ hz10_); (try rw [show ((0 : Int)).toNat = 0 from rfl] at hy10_); (try rw [show ((0 : Int)).toNat = 0 from rfl] at hz10_); have HP10 := Kd.R_putg HO162.out (0 : Int) 128) | ((with_reducible refine gate_store (t := 5) (p := 17) rfl ?_); refine store_event (t := 5) (p := 17) (v := ?vo_w11) (w1 := (w8.setCell ⟨go7, (0 : Int).toNat, none⟩ (.int .u8 128))) ?hg ?ho ?hn ?hr ?_; (case ho => rfl); (case hg => rfl); (case hn => rfl); (case hr => first | (go_simp; done) | (go_simp; rfl)); intro w11 hw; have hg : w8.grownBy w11 (some go7) := (by rw [hw]; exact HP10.2); have hp_ : Kd.R (Kd.int .u8) 5 w11 w.heap.size (fun _ => True) (.slice (some ⟨go7, 0, none⟩) y160.length co7) y163 := (by rw [hw, Ny163.out]; exact HP10.1); clear HP10; have n0_ := Aside0.mk (hp_); have n1_ := Aside0.mk ((by rw [hw]; exact pbS (HB.out) GB7.out : Below w.heap.size w w11)); clear HO162; clear HB; have HO162 := n0_; have HB := n1_; clear n0_ n1_; clear hg hw hp_))
         go_loopg [18] k (fun kq v18 w' => ∃ (x4_1 : List Int) (x18_1 : Int), v18 = .int .i64 x18_1 ∧ Aside0 (sha_Pad.l0 kq a0 x4_1 x18_1 = some r) ∧ Aside0 (kq ≤ k) ∧ Aside0 (Kd.R (Kd.int .u8) 5 w' w.heap.size (fun _ => True) (.slice (some ⟨go7, 0, none⟩) y160.length co7) x4_1) ∧ Aside0 (Below w.heap.size w w'))
         case atStart => exact ⟨(y163), (0), (by first | rfl | (simp; done) | (simp [*]; done)), H', ⟨Nat.le_refl _⟩, ⟨zr HO162.out⟩, ⟨zh HB.out⟩⟩
         case round =>
          clear H'; (try clear c1); (try clear c2); (try clear c2b0); (try clear p2); (try clear c4); (try clear c4b0); (try clear c4b1); (try clear c5); (try clear c5b0); (try clear c5b1); (try clear c6); (try clear c6b0); (try clear c6b1); (try clear p6); (try clear p7); (try clear q7); (try clear hx7); (try clear qi7); (try clear hf7); (try clear hx7_0); (try clear p7); (try clear q7); obtain ⟨x4_1, x18_1, rfl, HA, HK1, HO_4, HB⟩ := hrel; have hl4_1 := (Kd.R_reads' HO_4.out).1; rw [hl4_1] at HO_4; (try simp only [hl4_1])
          cases gk with
          | zero => exact absurd HA.out (by simp [sha_Pad.l0])
          | succ k1 =>
           have H := HA.out; clear HA; simp only [sha_Pad.l0] at H
           by_cases c12 : x18_1 < 8
           · rw [if_pos c12] at H; have c12b0 : decide (x18_1 < 8) = true := decide_eq_true c12; clear c12
             obtain ⟨ji13, hji13⟩ : ∃ j_ : Int, (wrap64 (8 * x18_1)) = j_ := ⟨_, rfl⟩
             replace H : (if 0 ≤ (ji13) then (if 0 ≤ (wrap64 ((wrap64 ((x4_1.length : Int) - 1)) - x18_1)) then (if (wrap64 ((wrap64 ((x4_1.length : Int) - 1)) - x18_1)) < (x4_1.length : Int) then (sha_Pad.l0 k1 a0 (x4_1.set ((wrap64 ((wrap64 ((x4_1.length : Int) - 1)) - x18_1)) : Int).toNat ((shr .u64 (IntKind.u64.wrap ((IntKind.u64.wrap (a0)) * 8)) (ji13)) % 256)) (wrap64 (x18_1 + 1))) else (none)) else (none)) else (none)) = some r := by first | (rw [hji13] at H; exact H) | (simp only [hji13] at H ⊢; exact H)
             have hji13w : (IntKind.i64.wrap (8 * x18_1)) = ji13 := (i64_w _).trans hji13
             by_cases c14 : 0 ≤ (ji13)
             · rw [if_pos c14] at H; have c14b0 := eq_true c14; have c14b1 : decide (0 ≤ (ji13)) = true := decide_eq_true c14; clear c14
               obtain ⟨ji15, hji15⟩ : ∃ j_ : Int, (shr .u64 (IntKind.u64.wrap ((IntKind.u64.wrap (a0)) * 8)) (ji13)) = j_ := ⟨_, rfl⟩
               replace H : (if 0 ≤ (wrap64 ((wrap64 ((x4_1.length : Int) - 1)) - x18_1)) then (if (wrap64 ((wrap64 ((x4_1.length : Int) - 1)) - x18_1)) < (x4_1.length : Int) then (sha_Pad.l0 k1 a0 (x4_1.set ((wrap64 ((wrap64 ((x4_1.length : Int) - 1)) - x18_1)) : Int).toNat ((ji15) % 256)) (wrap64 (x18_1 + 1))) else (none)) else (none)) = some r := by first | (rw [hji15] at H; exact H) | (simp only [hji15] at H ⊢; exact H)
               have hji15_ : ((IntKind.u64.wrap ((IntKind.u64.wrap (a0)) * 8)) / 2 ^ min (ji13).toNat 64) = ji15 := hji15; have hji15z : (ji13) ≤ 64 → ((IntKind.u64.wrap ((IntKind.u64.wrap (a0)) * 8)) / 2 ^ (ji13).toNat) = ji15 := shr_small hji15
               obtain ⟨ji16, hji16⟩ : ∃ j_ : Int, (wrap64 ((wrap64 ((x4_1.length : Int) - 1)) - x18_1)) = j_ := ⟨_, rfl⟩
               replace H : (if 0 ≤ (ji16) then (if (ji16) < (x4_1.length : Int) then (sha_Pad.l0 k1 a0 (x4_1.set ((ji16) : Int).toNat ((ji15) % 256)) (wrap64 (x18_1 + 1))) else (none)) else (none)) = some r := by first | (rw [hji16] at H; exact H) | (simp only [hji16] at H ⊢; exact H)
               have hji16w : (IntKind.i64.wrap ((wrap64 ((x4_1.length : Int) - 1)) - x18_1)) = ji16 := (i64_w _).trans hji16
               by_cases c17 : 0 ≤ (ji16)
               · rw [if_pos c17] at H; have c17b0 : decide (0 ≤ (ji16)) = true := decide_eq_true c17; clear c17
                 by_cases c18 : (ji16) < (x4_1.length : Int)
                 · rw [if_pos c18] at H; have c18b0 : decide ((ji16) < (x4_1.length : Int)) = true := decide_eq_true c18; clear c18
                   obtain ⟨y164, hy164⟩ : ∃ y_ : List Int, y_ = (x4_1.set ((ji16) : Int).toNat ((ji15) % 256)) := ⟨_, rfl⟩
                   replace H : (sha_Pad.l0 k1 a0 y164 (wrap64 (x18_1 + 1))) = some r := by first | (rw [hy164]; with_reducible exact H) | (have H2_ := (Option.bind_some _ _).symm.trans H; rw [hy164]; with_reducible exact H2_) | (have H2_ := (Option.bind_some _ _).symm.trans H; with_reducible exact H2_) | with_reducible exact H | (rw [hy164]; exact H) | exact H
                   have Ny164 := Aside0.mk hy164; clear hy164; have H' := Aside0.mk H; clear H; have p19 : 0 ≤ ((ji16) : Int) := zq; have q19 : ((ji16) : Int) < ((x4_1.length : Int) : Int) := zq; obtain ⟨hx19_0, hf19_0⟩ := Kd.R_celln 0 HO_4.out ((ji16) : Int) p19 q19; replace p19 := eq_true p19; replace q19 := eq_true q19; have HP20 := Kd.R_putg HO_4.out ((ji16) : Int) ((ji15) % 256)
                   go_wp2_with (first | ((with_reducible refine gate_store (t := 5) (p := 34) rfl ?_); refine store_event (t := 5) (p := 34) (v := ?vo_w21) (w1 := (wr.setCell ⟨go7, ((ji16) : Int).toNat, none⟩ (.int .u8 ((ji15) % 256)))) ?hg ?ho ?hn ?hr ?_; (case ho => rfl); (case hg => rfl); (case hn => rfl); (case hr => first | (go_simp; done) | (go_simp; rfl)); intro w21 hw; have hg : wr.grownBy w21 (some go7) := (by rw [hw]; exact HP20.2); have hp_ : Kd.R (Kd.int .u8) 5 w21 w.heap.size (fun _ => True) (.slice (some ⟨go7, 0, none⟩) x4_1.length co7) y164 := (by rw [hw, Ny164.out]; exact HP20.1); clear HP20; have n0_ := Aside0.mk (hp_); have n1_ := Aside0.mk ((by rw [hw]; exact pbS (HB.out) GB7.out : Below w.heap.size w w21)); clear HO_4; clear HB; have HO_4 := n0_; have HB := n1_; clear n0_ n1_; clear hg hw hp_))
                   (try simp only [← hl4_1])
                   go_roundg k1
                   case measure => have := HK1.out; omega
                   case rel => exact ⟨(y164), (wrap64 (x18_1 + 1)), (by first | rfl | (simp; done) | (simp [*]; done)), H', ⟨by have := HK1.out; omega⟩, ⟨by (try simp only [hl4_1]); (with_reducible repeat (first | apply Kd.R_alloc | apply Kd.R_drewN | apply Kd.R_drew)); exact HO_4.out⟩, ⟨zh HB.out⟩⟩
                 · rw [if_neg c18] at H; exact absurd H (by simp)
               · rw [if_neg c17] at H; exact absurd H (by simp)
             · rw [if_neg c14] at H; exact absurd H (by simp)
           · rw [if_neg c12] at H; have c12b0 : decide (x18_1 < 8) = false := decide_eq_false c12; clear c12; obtain rfl := Option.some.inj H; have hcv22 := own_string (P := Try.prog) Try.underlying142 Try.underlying5 Try.underlying9 (Kd.own_of_R HO_4.out); go_wp2; go_ret; exact ⟨by first | rfl | (simp [errW_none, errW_some] <;> rfl) | (simp only [← hji3]; first | rfl | (simp [errW_none, errW_some] <;> rfl)) | (simp [*, errW_none, errW_some] <;> rfl), zh HB.out⟩
       · rw [if_neg c6] at H; exact absurd H (by simp)
     · rw [if_neg c5] at H; exact absurd H (by simp)
   · rw [if_neg c4] at H; exact absurd H (by simp)
end Go.Proofs.Ytipgldfbjlhpoab.P
namespace Go.Proofs.Ytipgldfbjlhpoab.P
open Go.RowKit
theorem geq_str (a b : ByteArray) (W : World) : (binOp .geq 9 (.string a) (.string b)).run Try.prog W = .ok (.bool (!Op.bytesLess a.toList b.toList)) W := by
 simp only [binOp]
 first
 | (go_simp; done)
 | rfl
theorem gtr_str (a b : ByteArray) (W : World) : (binOp .gtr 9 (.string a) (.string b)).run Try.prog W = .ok (.bool (!(Op.bytesLess a.toList b.toList || a.toList == b.toList))) W := by
 simp only [binOp]
 first
 | (go_simp; done)
 | rfl
end Go.Proofs.Ytipgldfbjlhpoab.P
-- Printed by wip/myprint.py.
namespace Go.Proofs.Ytipgldfbjlhpoab.P
open Go.RowKit Go.Proofs.YtipgldfbjlhpoabW.PrintWords Go.Proofs.YtipgldfbjlhpoabW.PrintLast Go.Proofs.YtipgldfbjlhpoabW.PrintMore
attribute [local go_sem] max2_int min2_int max_two min_two max_three min_three max_four min_four   -- for this text's walks alone
attribute [local go_sem] geq_str gtr_str
set_option linter.unusedVariables false
set_option linter.unusedSimpArgs false
def footbridgeref12_Rises.l0 : Nat → List (S86) → Int → Option (Bool)
 | 0, _, _ => none
 | k + 1, x0, x3 => if x3 < (x0.length : Int) then (if 0 ≤ (wrap64 (x3 - 1)) then (if (wrap64 (x3 - 1)) < (x0.length : Int) then (if 0 ≤ x3 then (if ((Op.bytesLess (((rd_T86 x0 (wrap64 (x3 - 1))).f0).toList) (((rd_T86 x0 x3).f0).toList)) = true) then (footbridgeref12_Rises.l0 k x0 (wrap64 (x3 + 1))) else (some false)) else (none)) else (none)) else (none)) else (some true)
def footbridgeref12_Rises.f (k : Nat) (l0 : List (S86)) : Option (Bool) := footbridgeref12_Rises.l0 k l0 1
set_option maxHeartbeats 8000000 in
set_option maxRecDepth 100000 in
theorem footbridgeref12_Rises.calls (k : Nat) (A0 : Option Addr) (c0 : Nat) (l0 : List (S86)) (r : Bool) (w : World) (hr0 : Kd.C k86 w A0 l0.length l0) (hc0 : l0.length ≤ c0) (h : footbridgeref12_Rises.f k l0 = some r) :
  Calls Try.prog 39 #[.slice A0 l0.length c0] w fun e w' => e = .returned (.bool r) ∧ Drawn0 w w' := by
 have HR0 := Aside0.mk hr0; have HC0 := Aside0.mk hc0; clear hr0 hc0; have H : (footbridgeref12_Rises.l0 k l0 1) = some r := h; clear h; have H' := Aside0.mk H; clear H
 go_enter Try.func39, Try.ntmps39
 go_wp2
 repeat (go_quiet (fail); try go_wp2)
 go_loopg [3] k (fun kq v3 w' => ∃ (x3_1 : Int), v3 = .int .i64 x3_1 ∧ Aside0 (footbridgeref12_Rises.l0 kq l0 x3_1 = some r) ∧ Aside0 (kq ≤ k) ∧ Drawn0 w w')
 case atStart => exact ⟨(1), (by first | rfl | (simp; done) | (simp [*]; done)), H', ⟨Nat.le_refl _⟩, by repeat (first | exact Drawn0.refl _ | apply Drawn0.step)⟩
 case round =>
  clear H'; obtain ⟨x3_1, rfl, HA, HK1, ⟨m1, rfl⟩⟩ := hrel
  cases gk with
  | zero => exact absurd HA.out (by simp [footbridgeref12_Rises.l0])
  | succ k1 =>
   have H := HA.out; clear HA; simp only [footbridgeref12_Rises.l0] at H
   by_cases c2 : x3_1 < (l0.length : Int)
   · rw [if_pos c2] at H; have c2b0 : decide (x3_1 < (l0.length : Int)) = true := decide_eq_true c2; clear c2
     obtain ⟨ji3, hji3⟩ : ∃ j_ : Int, (wrap64 (x3_1 - 1)) = j_ := ⟨_, rfl⟩
     replace H : (if 0 ≤ (ji3) then (if (ji3) < (l0.length : Int) then (if 0 ≤ x3_1 then (if ((Op.bytesLess (((rd_T86 l0 (ji3)).f0).toList) (((rd_T86 l0 x3_1).f0).toList)) = true) then (footbridgeref12_Rises.l0 k1 l0 (wrap64 (x3_1 + 1))) else (some false)) else (none)) else (none)) else (none)) = some r := by first | (rw [hji3] at H; exact H) | (simp only [hji3] at H ⊢; exact H)
     have hji3w : (IntKind.i64.wrap (x3_1 - 1)) = ji3 := (i64_w _).trans hji3
     by_cases c4 : 0 ≤ (ji3)
     · rw [if_pos c4] at H; have c4b0 : decide (0 ≤ (ji3)) = true := decide_eq_true c4; clear c4
       by_cases c5 : (ji3) < (l0.length : Int)
       · rw [if_pos c5] at H; have c5b0 : decide ((ji3) < (l0.length : Int)) = true := decide_eq_true c5; clear c5
         by_cases c6 : 0 ≤ x3_1
         · rw [if_pos c6] at H; have c6b0 : decide (0 ≤ x3_1) = true := decide_eq_true c6; clear c6
           by_cases c7 : ((Op.bytesLess (((rd_T86 l0 (ji3)).f0).toList) (((rd_T86 l0 x3_1).f0).toList)) = true)
           · rw [if_pos c7] at H; have c7b0 : (Op.bytesLess (((rd_T86 l0 (ji3)).f0).toList) (((rd_T86 l0 x3_1).f0).toList)) = true := c7; clear c7; have H' := Aside0.mk H; clear H; have p384 : 0 ≤ ((ji3) : Int) := zq; have q384 : (ji3) < (l0.length : Int) := zq; obtain ⟨ad384, e384, hx384_0, hx384_1⟩ := at_T86 HR0.out (ji3) p384 q384; cases e384; replace p384 := eq_true p384; replace q384 := eq_true q384; have p385 : 0 ≤ (x3_1 : Int) := zq; have q385 : x3_1 < (l0.length : Int) := zq; obtain ⟨ad385, e385, hx385_0, hx385_1⟩ := at_T86 HR0.out x3_1 p385 q385; obtain rfl : ad384 = ad385 := (by injection e385); replace p385 := eq_true p385; replace q385 := eq_true q385; go_wp2
             repeat (go_quiet (fail); try go_wp2)
             go_roundg k1
             case measure => have := HK1.out; omega
             case rel => exact ⟨(wrap64 (x3_1 + 1)), (by first | rfl | (simp; done) | (simp [*]; done)), H', ⟨by have := HK1.out; omega⟩, by repeat (first | exact Drawn0.refl _ | apply Drawn0.step)⟩
           · rw [if_neg c7] at H
             have c7b0 : (Op.bytesLess (((rd_T86 l0 (ji3)).f0).toList) (((rd_T86 l0 x3_1).f0).toList)) = false := by simpa using c7
             clear c7; obtain rfl := Option.some.inj H; have p384 : 0 ≤ ((ji3) : Int) := zq; have q384 : (ji3) < (l0.length : Int) := zq; obtain ⟨ad384, e384, hx384_0, hx384_1⟩ := at_T86 HR0.out (ji3) p384 q384; cases e384; replace p384 := eq_true p384; replace q384 := eq_true q384; have p385 : 0 ≤ (x3_1 : Int) := zq; have q385 : x3_1 < (l0.length : Int) := zq; obtain ⟨ad385, e385, hx385_0, hx385_1⟩ := at_T86 HR0.out x3_1 p385 q385; obtain rfl : ad384 = ad385 := (by injection e385); replace p385 := eq_true p385; replace q385 := eq_true q385; go_wp2
             repeat (go_quiet (fail); try go_wp2)
             go_ret; exact ⟨by first | rfl | (simp; done) | (simp only [← hji3] <;> (first | rfl | simp)) | (simp [*]; done), by repeat (first | exact Drawn0.refl _ | apply Drawn0.step)⟩
         · rw [if_neg c6] at H; exact absurd H (by simp)
       · rw [if_neg c5] at H; exact absurd H (by simp)
     · rw [if_neg c4] at H; exact absurd H (by simp)
   · rw [if_neg c2] at H; have c2b0 : decide (x3_1 < (l0.length : Int)) = false := decide_eq_false c2; clear c2; obtain rfl := Option.some.inj H; go_wp2
     repeat (go_quiet (fail); try go_wp2)
     go_ret; exact ⟨by first | rfl | (simp; done) | (simp [*]; done), by repeat (first | exact Drawn0.refl _ | apply Drawn0.step)⟩
end Go.Proofs.Ytipgldfbjlhpoab.P
namespace Go.Proofs.Ytipgldfbjlhpoab.P
theorem leq_bool : ∀ x y : List UInt8, (Op.bytesLess x y || x == y) = !Op.bytesLess y x := by
 intro x
 induction x with
 | nil =>
  intro y
  cases y with
  | nil => rfl
  | cons b y => rfl
 | cons a x ih =>
  intro y
  cases y with
  | nil => rfl
  | cons b y =>
   have h := ih y; simp only [Op.bytesLess]
   rcases Nat.lt_trichotomy a.toNat b.toNat with hl | hl | hl
   · have h1 : a < b := UInt8.lt_iff_toNat_lt.mpr hl
     have h2 : ¬ b < a := fun h => by have := UInt8.lt_iff_toNat_lt.mp h; omega
     have h3 : ¬ b = a := fun e => by subst e; omega
     simp [h1, h2, h3]
   · have he : a = b := UInt8.toNat_inj.mp hl; subst he
     have h1 : ¬ a < a := fun h => by have := UInt8.lt_iff_toNat_lt.mp h; omega
     simp only [h1, decide_false, Bool.false_or, beq_self_eq_true, Bool.true_and]; rw [← h]
     congr 1
     simp [List.cons_beq_cons]
   · have h1 : ¬ a < b := fun h => by have := UInt8.lt_iff_toNat_lt.mp h; omega
     have h2 : b < a := UInt8.lt_iff_toNat_lt.mpr hl
     have h3 : ¬ a = b := fun e => by subst e; omega
     simp [h1, h2, h3]
open Go.RowKit in
theorem leq_str (a b : ByteArray) (W : World) : (binOp .leq 9 (.string a) (.string b)).run Try.prog W = .ok (.bool (!Op.bytesLess b.toList a.toList)) W := by
 rw [← leq_bool]; simp only [binOp]
 first
 | (go_simp; done)
 | rfl
end Go.Proofs.Ytipgldfbjlhpoab.P
-- Printed by wip/myprint.py.
namespace Go.Proofs.Ytipgldfbjlhpoab.P
open Go.RowKit Go.Proofs.YtipgldfbjlhpoabW.PrintWords Go.Proofs.YtipgldfbjlhpoabW.PrintLast Go.Proofs.YtipgldfbjlhpoabW.PrintMore
attribute [local go_sem] max2_int min2_int max_two min_two max_three min_three max_four min_four   -- for this text's walks alone
set_option linter.unusedVariables false
set_option linter.unusedSimpArgs false
end Go.Proofs.Ytipgldfbjlhpoab.P
