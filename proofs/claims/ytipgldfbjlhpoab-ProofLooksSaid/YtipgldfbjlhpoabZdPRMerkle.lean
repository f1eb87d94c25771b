import Derived.Test.YtipgldfbjlhpoabZdP0
import Derived.Test.YtipgldfbjlhpoabZdHRSha
import Derived.Test.YtipgldfbjlhpoabZdPRWire
-- Printed by wip/myprint.py.
namespace Go.Proofs.Ytipgldfbjlhpoab.P
open Go.RowKit Go.Proofs.YtipgldfbjlhpoabW.PrintWords Go.Proofs.YtipgldfbjlhpoabW.PrintLast Go.Proofs.YtipgldfbjlhpoabW.PrintMore
attribute [local go_sem] max2_int min2_int max_two min_two max_three min_three max_four min_four   -- for this text's walks alone
set_option linter.unusedVariables false
set_option linter.unusedSimpArgs false
def footbridgeref11_Split.l0 : Nat → Int → Int → Option (Int)
 | 0, _, _ => none
 | k + 1, x0, x3 => if x3 < (wrap64 (x0 - x3)) then (footbridgeref11_Split.l0 k x0 (wrap64 (2 * x3))) else (some x3)
def footbridgeref11_Split.f (k : Nat) (a0 : Int) : Option (Int) := if a0 < 2 then (some 0) else (footbridgeref11_Split.l0 k a0 1)
set_option maxHeartbeats 8000000 in
set_option maxRecDepth 100000 in
theorem footbridgeref11_Split.calls (k : Nat) (a0 : Int) (r : Int) (w : World) (h : footbridgeref11_Split.f k a0 = some r) :
  Calls Try.prog 160 #[.int .i64 a0] w fun e w' => e = .returned (.int .i64 r) ∧ Drawn0 w w' := by
 have H : (if a0 < 2 then (some 0) else (footbridgeref11_Split.l0 k a0 1)) = some r := h
 clear h
 by_cases c2 : a0 < 2
 · rw [if_pos c2] at H
   have c2b0 : decide (a0 < 2) = true := decide_eq_true c2
   clear c2
   obtain rfl := Option.some.inj H
   go_enter Try.func160, Try.ntmps160
   go_wp2
   go_ret
   exact ⟨by first | rfl | (simp; done) | (simp [*]; done), by repeat (first | exact Drawn0.refl _ | apply Drawn0.step)⟩
 · rw [if_neg c2] at H
   have c2b0 : decide (a0 < 2) = false := decide_eq_false c2
   clear c2
   have H' := Aside0.mk H
   clear H
   go_enter Try.func160, Try.ntmps160
   go_wp2
   go_loopg [3] k (fun kq v3 w' => ∃ (x3_1 : Int), v3 = .int .i64 x3_1 ∧ Aside0 (footbridgeref11_Split.l0 kq a0 x3_1 = some r) ∧ Aside0 (kq ≤ k) ∧ Drawn0 w w')
   case atStart => exact ⟨(1), (by first | rfl | (simp; done) | (simp [*]; done)), H', ⟨Nat.le_refl _⟩, by repeat (first | exact Drawn0.refl _ | apply Drawn0.step)⟩
   case round =>
    clear H'
    try clear c1
    try clear c2
    try clear c2b0
    try clear p2
    obtain ⟨x3_1, rfl, HA, HK1, ⟨m1, rfl⟩⟩ := hrel
    cases gk with
    | zero => exact absurd HA.out (by simp [footbridgeref11_Split.l0])
    | succ k1 =>
     have H := HA.out
     clear HA
     simp only [footbridgeref11_Split.l0] at H
     by_cases c3 : x3_1 < (wrap64 (a0 - x3_1))
     · rw [if_pos c3] at H
       have c3b0 : decide (x3_1 < (wrap64 (a0 - x3_1))) = true := decide_eq_true c3
       clear c3
       have H' := Aside0.mk H
       clear H
       go_wp2
       go_roundg k1
       case measure => have := HK1.out; omega
       case rel => exact ⟨(wrap64 (2 * x3_1)), (by first | rfl | (simp; done) | (simp [*]; done)), H', ⟨by have := HK1.out; omega⟩, by repeat (first | exact Drawn0.refl _ | apply Drawn0.step)⟩
     · rw [if_neg c3] at H
       have c3b0 : decide (x3_1 < (wrap64 (a0 - x3_1))) = false := decide_eq_false c3
       clear c3
       obtain rfl := Option.some.inj H
       go_wp2
       go_ret
       exact ⟨by first | rfl | (simp; done) | (simp [*]; done), by repeat (first | exact Drawn0.refl _ | apply Drawn0.step)⟩
def footbridgeref11_LeafText.f (k : Nat) (a0_0 : ByteArray) (a0_1 : ByteArray) : Option (ByteArray) := (footbridgeref01_Text.f k a0_0).bind fun bt1033 => ((footbridgeref01_Text.f k a0_1).bind fun bt1035 => (if 1 + bt1033.1.size ≤ 9223372036854775807 then (if ((⟨#[0]⟩ : ByteArray) ++ bt1033.1).size + bt1035.1.size ≤ 9223372036854775807 then (some (((⟨#[0]⟩ : ByteArray) ++ bt1033.1) ++ bt1035.1)) else (none)) else (none)))
set_option maxHeartbeats 8000000 in
set_option maxRecDepth 100000 in
theorem footbridgeref11_LeafText.calls (k : Nat) (a0_0 : ByteArray) (a0_1 : ByteArray) (r : ByteArray) (w : World) (h : footbridgeref11_LeafText.f k a0_0 a0_1 = some r) :
  Calls Try.prog 161 #[.agg #[.string a0_0, .string a0_1]] w fun e w' => e = .returned (.string r) ∧ Below w.heap.size w w' := by
 have hu86 := Try.underlying86
 have HB := Aside0.mk (Below.refl w.heap.size w)
 have H : ((footbridgeref01_Text.f k a0_0).bind fun bt1033 => ((footbridgeref01_Text.f k a0_1).bind fun bt1035 => (if 1 + bt1033.1.size ≤ 9223372036854775807 then (if ((⟨#[0]⟩ : ByteArray) ++ bt1033.1).size + bt1035.1.size ≤ 9223372036854775807 then (some (((⟨#[0]⟩ : ByteArray) ++ bt1033.1) ++ bt1035.1)) else (none)) else (none)))) = some r := h
 clear h
 replace H := Option.bind_eq_some_iff.mp H
 obtain ⟨⟨t1033, t1034⟩, A20, H⟩ := H
 replace H : ((footbridgeref01_Text.f k a0_1).bind fun bt1035 => (if 1 + t1033.size ≤ 9223372036854775807 then (if ((⟨#[0]⟩ : ByteArray) ++ t1033).size + bt1035.1.size ≤ 9223372036854775807 then (some (((⟨#[0]⟩ : ByteArray) ++ t1033) ++ bt1035.1)) else (none)) else (none))) = some r := H
 have A2 := Aside0.mk A20
 clear A20
 replace H := Option.bind_eq_some_iff.mp H
 obtain ⟨⟨t1035, t1036⟩, A30, H⟩ := H
 replace H : (if 1 + t1033.size ≤ 9223372036854775807 then (if ((⟨#[0]⟩ : ByteArray) ++ t1033).size + t1035.size ≤ 9223372036854775807 then (some (((⟨#[0]⟩ : ByteArray) ++ t1033) ++ t1035)) else (none)) else (none)) = some r := H
 have A3 := Aside0.mk A30
 clear A30
 by_cases c4 : 1 + t1033.size ≤ 9223372036854775807
 · rw [if_pos c4] at H
   have c4b0 := eq_true c4
   have c4b1 : decide (1 + t1033.size ≤ 9223372036854775807) = true := decide_eq_true c4
   try have c4b2 : (9223372036854775807 < 1 + t1033.size) = False := eq_false (Nat.not_lt.2 c4)
   by_cases c5 : ((⟨#[0]⟩ : ByteArray) ++ t1033).size + t1035.size ≤ 9223372036854775807
   · rw [if_pos c5] at H
     have c5b0 := eq_true c5
     have c5b1 : decide (((⟨#[0]⟩ : ByteArray) ++ t1033).size + t1035.size ≤ 9223372036854775807) = true := decide_eq_true c5
     try have c5b2 : (9223372036854775807 < ((⟨#[0]⟩ : ByteArray) ++ t1033).size + t1035.size) = False := eq_false (Nat.not_lt.2 c5)
     try (have c5b8 := c5b2; simp only [ByteArray.size_append] at c5b8)
     obtain rfl := Option.some.inj H
     go_enter Try.func161, Try.ntmps161
     go_wp2_with (first | ((with_reducible refine gate_dst (N := 1) rfl ?_); refine box_event ?hg (N := 1) ?hd (cs := #[.string a0_0, .string a0_1]) (t := 86) ?hr ?_; (case hd => rfl); (case hg => rfl); (case hr => first | (go_simp; done) | (go_simp; rfl)); intro gb1032 hg w6 hbox hb; have n0_ := Aside0.mk (below_step (by repeat (first | (with_reducible first | exact HB.out | apply pbA | apply pbN | apply pbD) | exact HB.out)) hb); have n1_ := Aside0.mk (hbox); have n2_ := Aside0.mk ((by rw [hg]; exact (below_size (by repeat (first | (with_reducible first | exact HB.out | apply pbA | apply pbN | apply pbD) | exact HB.out))) : w.heap.size ≤ gb1032)); have n3_ := Aside0.mk ((by rw [hg]; exact (below_size (by repeat (first | (with_reducible first | exact HB.out | apply pbA | apply pbN | apply pbD) | exact HB.out))) : w.heap.size ≤ gb1032)); clear HB; have HB := n0_; have BK1032 := n1_; have GW1032 := n2_; have GE1032 := n3_; clear n0_ n1_ n2_ n3_; clear hb hbox hg; have hcz7_0 : w6.cell? ⟨gb1032, 0, none⟩ = some (.string a0_0) := (pkC BK1032.out 0).trans rfl; have hcz7_1 : w6.cell? ⟨gb1032, 1, none⟩ = some (.string a0_1) := (pkC BK1032.out 1).trans rfl; have hfz7_0 := pkF BK1032.out 0; have hfz7_1 := pkF BK1032.out 1) | ((with_reducible refine gate_callee (f := 103) rfl ?_); refine goesL_ (some 10) rfl rfl Try.func103 (by kernel_rfl) rfl #[.string a0_0] rfl (by (try simp only [List.map_toArray, List.map_cons, List.map_nil]); first | done | rfl | (simp only [List.length_drop, List.length_take]; rfl)) ?_; (with_reducible refine (footbridgeref01_Text.calls k a0_0 t1033 t1034 _ A2.out).mono ?_); rintro e w8 ⟨rfl, hb⟩; refine ⟨_, rfl, ?_⟩; have n0_ := Aside0.mk (blk_below (g := gb1032) (o := .cells #[.string a0_0, .string a0_1] 86 (0, 0)) (by (with_reducible repeat (first | refine pkN ?_ _ | refine pkD ?_ | refine pkA ?_ _)); exact BK1032.out) hb); have n1_ := Aside0.mk (below_step (by repeat (first | (with_reducible first | exact HB.out | apply pbA | apply pbN | apply pbD | refine pbS ?_ GE1032.out) | exact HB.out)) hb); clear BK1032; clear HB; have BK1032 := n0_; have HB := n1_; clear n0_ n1_; (try clear hb); (try clear hb2); (try clear hk); (try clear hi); have hcz9_0 : w8.cell? ⟨gb1032, 0, none⟩ = some (.string a0_0) := (pkC BK1032.out 0).trans rfl; have hcz9_1 : w8.cell? ⟨gb1032, 1, none⟩ = some (.string a0_1) := (pkC BK1032.out 1).trans rfl; have hfz9_0 := pkF BK1032.out 0; have hfz9_1 := pkF BK1032.out 1) | ((with_reducible refine gate_callee (f := 103) rfl ?_); refine goesL_ (some 16) rfl rfl Try.func103 (by kernel_rfl) rfl #[.string a0_1] rfl (by (try simp only [List.map_toArray, List.map_cons, List.map_nil]); first | done | rfl | (simp only [List.length_drop, List.length_take]; rfl)) ?_; (with_reducible refine (footbridgeref01_Text.calls k a0_1 t1035 t1036 _ A3.out).mono ?_); rintro e w10 ⟨rfl, hb⟩; refine ⟨_, rfl, ?_⟩; have n0_ := Aside0.mk (blk_below (g := gb1032) (o := .cells #[.string a0_0, .string a0_1] 86 (0, 0)) (by (with_reducible repeat (first | refine pkN ?_ _ | refine pkD ?_ | refine pkA ?_ _)); exact BK1032.out) hb); have n1_ := Aside0.mk (below_step (by repeat (first | (with_reducible first | exact HB.out | apply pbA | apply pbN | apply pbD | refine pbS ?_ GE1032.out) | exact HB.out)) hb); clear BK1032; clear HB; have BK1032 := n0_; have HB := n1_; clear n0_ n1_; (try clear hb); (try clear hb2); (try clear hk); (try clear hi)))
     go_ret
     exact ⟨by first | rfl | (simp [errW_none, errW_some] <;> rfl) | (simp [*, errW_none, errW_some] <;> rfl), by repeat (first | (with_reducible first | exact HB.out | apply pbA | apply pbN | apply pbD | refine pbS ?_ GE1032.out) | exact HB.out)⟩
   · rw [if_neg c5] at H
     exact absurd H (by simp)
 · rw [if_neg c4] at H
   exact absurd H (by simp)
def footbridgeref11_NodeText.f (a0 : ByteArray) (a1 : ByteArray) : Option (ByteArray) := if 1 + a0.size ≤ 9223372036854775807 then (if ((⟨#[1]⟩ : ByteArray) ++ a0).size + a1.size ≤ 9223372036854775807 then (some (((⟨#[1]⟩ : ByteArray) ++ a0) ++ a1)) else (none)) else (none)
set_option maxHeartbeats 8000000 in
set_option maxRecDepth 100000 in
theorem footbridgeref11_NodeText.calls (a0 : ByteArray) (a1 : ByteArray) (r : ByteArray) (w : World) (h : footbridgeref11_NodeText.f a0 a1 = some r) :
  Calls Try.prog 164 #[.string a0, .string a1] w fun e w' => e = .returned (.string r) ∧ Drawn0 w w' := by
 have H : (if 1 + a0.size ≤ 9223372036854775807 then (if ((⟨#[1]⟩ : ByteArray) ++ a0).size + a1.size ≤ 9223372036854775807 then (some (((⟨#[1]⟩ : ByteArray) ++ a0) ++ a1)) else (none)) else (none)) = some r := h
 clear h
 by_cases c3 : 1 + a0.size ≤ 9223372036854775807
 · rw [if_pos c3] at H
   have c3b0 := eq_true c3
   have c3b1 : decide (1 + a0.size ≤ 9223372036854775807) = true := decide_eq_true c3
   try have c3b2 : (9223372036854775807 < 1 + a0.size) = False := eq_false (Nat.not_lt.2 c3)
   by_cases c4 : ((⟨#[1]⟩ : ByteArray) ++ a0).size + a1.size ≤ 9223372036854775807
   · rw [if_pos c4] at H
     have c4b0 := eq_true c4
     have c4b1 : decide (((⟨#[1]⟩ : ByteArray) ++ a0).size + a1.size ≤ 9223372036854775807) = true := decide_eq_true c4
     try have c4b2 : (9223372036854775807 < ((⟨#[1]⟩ : ByteArray) ++ a0).size + a1.size) = False := eq_false (Nat.not_lt.2 c4)
     try (have c4b8 := c4b2; simp only [ByteArray.size_append] at c4b8)
     obtain rfl := Option.some.inj H
     go_enter Try.func164, Try.ntmps164
     go_wp2
     go_ret
     exact ⟨by first | rfl | (simp; done) | (simp [*]; done), by repeat (first | exact Drawn0.refl _ | apply Drawn0.step)⟩
   · rw [if_neg c4] at H
     exact absurd H (by simp)
 · rw [if_neg c3] at H
   exact absurd H (by simp)
def footbridgeref11_TopText.f (k : Nat) (a0 : Int) (a1 : ByteArray) : Option (ByteArray) := (footbridgeref01_Num.f k a0).bind fun bt1138 => (if 1 + bt1138.1.size ≤ 9223372036854775807 then (if ((⟨#[2]⟩ : ByteArray) ++ bt1138.1).size + a1.size ≤ 9223372036854775807 then (some (((⟨#[2]⟩ : ByteArray) ++ bt1138.1) ++ a1)) else (none)) else (none))
set_option maxHeartbeats 8000000 in
set_option maxRecDepth 100000 in
theorem footbridgeref11_TopText.calls (k : Nat) (a0 : Int) (a1 : ByteArray) (r : ByteArray) (w : World) (h : footbridgeref11_TopText.f k a0 a1 = some r) :
  Calls Try.prog 127 #[.int .i64 a0, .string a1] w fun e w' => e = .returned (.string r) ∧ Below w.heap.size w w' := by
 have HB := Aside0.mk (Below.refl w.heap.size w)
 have H : ((footbridgeref01_Num.f k a0).bind fun bt1138 => (if 1 + bt1138.1.size ≤ 9223372036854775807 then (if ((⟨#[2]⟩ : ByteArray) ++ bt1138.1).size + a1.size ≤ 9223372036854775807 then (some (((⟨#[2]⟩ : ByteArray) ++ bt1138.1) ++ a1)) else (none)) else (none))) = some r := h
 clear h
 replace H := Option.bind_eq_some_iff.mp H
 obtain ⟨⟨t1138, t1139⟩, A30, H⟩ := H
 replace H : (if 1 + t1138.size ≤ 9223372036854775807 then (if ((⟨#[2]⟩ : ByteArray) ++ t1138).size + a1.size ≤ 9223372036854775807 then (some (((⟨#[2]⟩ : ByteArray) ++ t1138) ++ a1)) else (none)) else (none)) = some r := H
 have A3 := Aside0.mk A30
 clear A30
 by_cases c4 : 1 + t1138.size ≤ 9223372036854775807
 · rw [if_pos c4] at H
   have c4b0 := eq_true c4
   have c4b1 : decide (1 + t1138.size ≤ 9223372036854775807) = true := decide_eq_true c4
   try have c4b2 : (9223372036854775807 < 1 + t1138.size) = False := eq_false (Nat.not_lt.2 c4)
   by_cases c5 : ((⟨#[2]⟩ : ByteArray) ++ t1138).size + a1.size ≤ 9223372036854775807
   · rw [if_pos c5] at H
     have c5b0 := eq_true c5
     have c5b1 : decide (((⟨#[2]⟩ : ByteArray) ++ t1138).size + a1.size ≤ 9223372036854775807) = true := decide_eq_true c5
     try have c5b2 : (9223372036854775807 < ((⟨#[2]⟩ : ByteArray) ++ t1138).size + a1.size) = False := eq_false (Nat.not_lt.2 c5)
     try (have c5b8 := c5b2; simp only [ByteArray.size_append] at c5b8)
     obtain rfl := Option.some.inj H
     go_enter Try.func127, Try.ntmps127
     go_wp2_with (first | ((with_reducible refine gate_callee (f := 141) rfl ?_); refine goesL_ (some 9) rfl rfl Try.func141 (by kernel_rfl) rfl #[.int .i64 a0] rfl (by (try simp only [List.map_toArray, List.map_cons, List.map_nil]); first | done | rfl | (simp only [List.length_drop, List.length_take]; rfl)) ?_; (with_reducible refine (footbridgeref01_Num.calls k a0 t1138 t1139 _ A3.out).mono ?_); rintro e w6 ⟨rfl, hb⟩; refine ⟨_, rfl, ?_⟩; have n0_ := Aside0.mk (below_step (by repeat (first | (with_reducible first | exact HB.out | apply pbA | apply pbN | apply pbD) | exact HB.out)) hb); clear HB; have HB := n0_; clear n0_; (try clear hb); (try clear hb2); (try clear hk); (try clear hi)))
     go_ret
     exact ⟨by first | rfl | (simp [errW_none, errW_some] <;> rfl) | (simp [*, errW_none, errW_some] <;> rfl), by repeat (first | (with_reducible first | exact HB.out | apply pbA | apply pbN | apply pbD) | exact HB.out)⟩
   · rw [if_neg c5] at H
     exact absurd H (by simp)
 · rw [if_neg c4] at H
   exact absurd H (by simp)
end Go.Proofs.Ytipgldfbjlhpoab.P
