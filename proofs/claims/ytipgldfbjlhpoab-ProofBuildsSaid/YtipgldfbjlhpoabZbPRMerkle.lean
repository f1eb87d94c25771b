-- Printed by wip/myprint.py.
import Derived.Test.YtipgldfbjlhpoabZbP0
import Derived.Test.YtipgldfbjlhpoabZbHRSha
import Derived.Test.YtipgldfbjlhpoabZbPRWire
namespace Go.Proofs.Ytipgldfbjlhpoab.P
open Go.RowKit Go.Proofs.YtipgldfbjlhpoabW.PrintWords Go.Proofs.YtipgldfbjlhpoabW.PrintLast Go.Proofs.YtipgldfbjlhpoabW.PrintMore
attribute [local go_sem] max2_int min2_int max_two min_two max_three min_three max_four min_four   -- for this text's walks alone
set_option linter.unusedVariables false
set_option linter.unusedSimpArgs false
def footbridgeref11_Split.l0 : Nat → Int → Int → Option (Int)
 | 0, _, _ => none
 | k + 1, x0, x3 => if x3 < (wrap64 (x0 - x3)) then (footbridgeref11_Split.l0 k x0 (wrap64 (2 * x3))) else (some x3)
def footbridgeref11_Split.f (k : Nat) (a0 : Int) : Option (Int) := if a0 < 2 then (some 0) else (footbridgeref11_Split.l0 k a0 1)
set_option maxHeartbeats 8000000 in
set_option maxRecDepth 100000 in
theorem footbridgeref11_Split.calls (k : Nat) (a0 : Int) (r : Int) (w : World) (h : footbridgeref11_Split.f k a0 = some r) :
  Calls Try.prog 160 #[.int .i64 a0] w fun e w' => e = .returned (.int .i64 r) ∧ Drawn0 w w' := by
 have H : (if a0 < 2 then (some 0) else (footbridgeref11_Split.l0 k a0 1)) = some r := h
 clear h
 by_cases c2 : a0 < 2
 · rw [if_pos c2] at H
   have c2b0 : decide (a0 < 2) = true := decide_eq_true c2
   clear c2
   obtain rfl := Option.some.inj H
   go_enter Try.func160, Try.ntmps160
   go_wp2
   go_ret
   exact ⟨by first | rfl | (simp; done) | (simp [*]; done), by repeat (first | exact Drawn0.refl _ | apply Drawn0.step)⟩
 · rw [if_neg c2] at H
   have c2b0 : decide (a0 < 2) = false := decide_eq_false c2
   clear c2
   have H' := Aside0.mk H
   clear H
   go_enter Try.func160, Try.ntmps160
   go_wp2
   go_loopg [3] k (fun kq v3 w' => ∃ (x3_1 : Int), v3 = .int .i64 x3_1 ∧ Aside0 (footbridgeref11_Split.l0 kq a0 x3_1 = some r) ∧ Aside0 (kq ≤ k) ∧ Drawn0 w w')
   case atStart => exact ⟨(1), (by first | rfl | (simp; done) | (simp [*]; done)), H', ⟨Nat.le_refl _⟩, by repeat (first | exact Drawn0.refl _ | apply Drawn0.step)⟩
   case round =>
    clear H'
    try clear c1
    try clear c2
    try clear c2b0
    try clear p2
    obtain ⟨x3_1, rfl, HA, HK1, ⟨m1, rfl⟩⟩ := hrel
    cases gk with
    | zero => exact absurd HA.out (by simp [footbridgeref11_Split.l0])
    | succ k1 =>
     have H := HA.out
     clear HA
     simp only [footbridgeref11_Split.l0] at H
     by_cases c3 : x3_1 < (wrap64 (a0 - x3_1))
     · rw [if_pos c3] at H
       have c3b0 : decide (x3_1 < (wrap64 (a0 - x3_1))) = true := decide_eq_true c3
       clear c3
       have H' := Aside0.mk H
       clear H
       go_wp2
       go_roundg k1
       case measure => have := HK1.out; omega
       case rel => exact ⟨(wrap64 (2 * x3_1)), (by first | rfl | (simp; done) | (simp [*]; done)), H', ⟨by have := HK1.out; omega⟩, by repeat (first | exact Drawn0.refl _ | apply Drawn0.step)⟩
     · rw [if_neg c3] at H
       have c3b0 : decide (x3_1 < (wrap64 (a0 - x3_1))) = false := decide_eq_false c3
       clear c3
       obtain rfl := Option.some.inj H
       go_wp2
       go_ret
       exact ⟨by first | rfl | (simp; done) | (simp [*]; done), by repeat (first | exact Drawn0.refl _ | apply Drawn0.step)⟩
def footbridgeref11_LeafText.f (k : Nat) (a0_0 : ByteArray) (a0_1 : ByteArray) : Option (ByteArray) := (footbridgeref01_Text.f k a0_0).bind fun bt1033 => ((footbridgeref01_Text.f k a0_1).bind fun bt1035 => (if 1 + bt1033.1.size ≤ 9223372036854775807 then (if ((⟨#[0]⟩ : ByteArray) ++ bt1033.1).size + bt1035.1.size ≤ 9223372036854775807 then (some (((⟨#[0]⟩ : ByteArray) ++ bt1033.1) ++ bt1035.1)) else (none)) else (none)))
set_option maxHeartbeats 8000000 in
set_option maxRecDepth 100000 in
theorem footbridgeref11_LeafText.calls (k : Nat) (a0_0 : ByteArray) (a0_1 : ByteArray) (r : ByteArray) (w : World) (h : footbridgeref11_LeafText.f k a0_0 a0_1 = some r) :
  Calls Try.prog 161 #[.agg #[.string a0_0, .string a0_1]] w fun e w' => e = .returned (.string r) ∧ Below w.heap.size w w' := by
 have hu86 := Try.underlying86
 have HB := Aside0.mk (Below.refl w.heap.size w)
 have H : ((footbridgeref01_Text.f k a0_0).bind fun bt1033 => ((footbridgeref01_Text.f k a0_1).bind fun bt1035 => (if 1 + bt1033.1.size ≤ 9223372036854775807 then (if ((⟨#[0]⟩ : ByteArray) ++ bt1033.1).size + bt1035.1.size ≤ 9223372036854775807 then (some (((⟨#[0]⟩ : ByteArray) ++ bt1033.1) ++ bt1035.1)) else (none)) else (none)))) = some r := h
 clear h
 replace H := Option.bind_eq_some_iff.mp H
 obtain ⟨⟨t1033, t1034⟩, A20, H⟩ := H
 replace H : ((footbridgeref01_Text.f k a0_1).bind fun bt1035 => (if 1 + t1033.size ≤ 9223372036854775807 then (if ((⟨#[0]⟩ : ByteArray) ++ t1033).size + bt1035.1.size ≤ 9223372036854775807 then (some (((⟨#[0]⟩ : ByteArray) ++ t1033) ++ bt1035.1)) else (none)) else (none))) = some r := H
 have A2 := Aside0.mk A20
 clear A20
 replace H := Option.bind_eq_some_iff.mp H
 obtain ⟨⟨t1035, t1036⟩, A30, H⟩ := H
 replace H : (if 1 + t1033.size ≤ 9223372036854775807 then (if ((⟨#[0]⟩ : ByteArray) ++ t1033).size + t1035.size ≤ 9223372036854775807 then (some (((⟨#[0]⟩ : ByteArray) ++ t1033) ++ t1035)) else (none)) else (none)) = some r := H
 have A3 := Aside0.mk A30
 clear A30
 by_cases c4 : 1 + t1033.size ≤ 9223372036854775807
 · rw [if_pos c4] at H
   have c4b0 := eq_true c4
   have c4b1 : decide (1 + t1033.size ≤ 9223372036854775807) = true := decide_eq_true c4
   try have c4b2 : (9223372036854775807 < 1 + t1033.size) = False := eq_false (Nat.not_lt.2 c4)
   by_cases c5 : ((⟨#[0]⟩ : ByteArray) ++ t1033).size + t1035.size ≤ 9223372036854775807
   · rw [if_pos c5] at H
     have c5b0 := eq_true c5
     have c5b1 : decide (((⟨#[0]⟩ : ByteArray) ++ t1033).size + t1035.size ≤ 9223372036854775807) = true := decide_eq_true c5
     try have c5b2 : (9223372036854775807 < ((⟨#[0]⟩ : ByteArray) ++ t1033).size + t1035.size) = False := eq_false (Nat.not_lt.2 c5)
     try (have c5b8 := c5b2; simp only [ByteArray.size_append] at c5b8)
     obtain rfl := Option.some.inj H
     go_enter Try.func161, Try.ntmps161
     go_wp2_with (first | ((with_reducible refine gate_dst (N := 1) rfl ?_); refine box_event ?hg (N := 1) ?hd (cs := #[.string a0_0, .string a0_1]) (t := 86) ?hr ?_; (case hd => rfl); (case hg => rfl); (case hr => first | (go_simp; done) | (go_simp; rfl)); intro gb1032 hg w6 hbox hb; have n0_ := Aside0.mk (below_step (by repeat (first | (with_reducible first | exact HB.out | apply pbA | apply pbN | apply pbD) | exact HB.out)) hb); have n1_ := Aside0.mk (hbox); have n2_ := Aside0.mk ((by rw [hg]; exact (below_size (by repeat (first | (with_reducible first | exact HB.out | apply pbA | apply pbN | apply pbD) | exact HB.out))) : w.heap.size ≤ gb1032)); have n3_ := Aside0.mk ((by rw [hg]; exact (below_size (by repeat (first | (with_reducible first | exact HB.out | apply pbA | apply pbN | apply pbD) | exact HB.out))) : w.heap.size ≤ gb1032)); clear HB; have HB := n0_; have BK1032 := n1_; have GW1032 := n2_; have GE1032 := n3_; clear n0_ n1_ n2_ n3_; clear hb hbox hg; have hcz7_0 : w6.cell? ⟨gb1032, 0, none⟩ = some (.string a0_0) := (pkC BK1032.out 0).trans rfl; have hcz7_1 : w6.cell? ⟨gb1032, 1, none⟩ = some (.string a0_1) := (pkC BK1032.out 1).trans rfl; have hfz7_0 := pkF BK1032.out 0; have hfz7_1 := pkF BK1032.out 1) | ((with_reducible refine gate_callee (f := 103) rfl ?_); refine goesL_ (some 10) rfl rfl Try.func103 (by kernel_rfl) rfl #[.string a0_0] rfl (by (try simp only [List.map_toArray, List.map_cons, List.map_nil]); first | done | rfl | (simp only [List.length_drop, List.length_take]; rfl)) ?_; (with_reducible refine (footbridgeref01_Text.calls k a0_0 t1033 t1034 _ A2.out).mono ?_); rintro e w8 ⟨rfl, hb⟩; refine ⟨_, rfl, ?_⟩; have n0_ := Aside0.mk (blk_below (g := gb1032) (o := .cells #[.string a0_0, .string a0_1] 86 (0, 0)) (by (with_reducible repeat (first | refine pkN ?_ _ | refine pkD ?_ | refine pkA ?_ _)); exact BK1032.out) hb); have n1_ := Aside0.mk (below_step (by repeat (first | (with_reducible first | exact HB.out | apply pbA | apply pbN | apply pbD | refine pbS ?_ GE1032.out) | exact HB.out)) hb); clear BK1032; clear HB; have BK1032 := n0_; have HB := n1_; clear n0_ n1_; (try clear hb); (try clear hb2); (try clear hk); (try clear hi); have hcz9_0 : w8.cell? ⟨gb1032, 0, none⟩ = some (.string a0_0) := (pkC BK1032.out 0).trans rfl; have hcz9_1 : w8.cell? ⟨gb1032, 1, none⟩ = some (.string a0_1) := (pkC BK1032.out 1).trans rfl; have hfz9_0 := pkF BK1032.out 0; have hfz9_1 := pkF BK1032.out 1) | ((with_reducible refine gate_callee (f := 103) rfl ?_); refine goesL_ (some 16) rfl rfl Try.func103 (by kernel_rfl) rfl #[.string a0_1] rfl (by (try simp only [List.map_toArray, List.map_cons, List.map_nil]); first | done | rfl | (simp only [List.length_drop, List.length_take]; rfl)) ?_; (with_reducible refine (footbridgeref01_Text.calls k a0_1 t1035 t1036 _ A3.out).mono ?_); rintro e w10 ⟨rfl, hb⟩; refine ⟨_, rfl, ?_⟩; have n0_ := Aside0.mk (blk_below (g := gb1032) (o := .cells #[.string a0_0, .string a0_1] 86 (0, 0)) (by (with_reducible repeat (first | refine pkN ?_ _ | refine pkD ?_ | refine pkA ?_ _)); exact BK1032.out) hb); have n1_ := Aside0.mk (below_step (by repeat (first | (with_reducible first | exact HB.out | apply pbA | apply pbN | apply pbD | refine pbS ?_ GE1032.out) | exact HB.out)) hb); clear BK1032; clear HB; have BK1032 := n0_; have HB := n1_; clear n0_ n1_; (try clear hb); (try clear hb2); (try clear hk); (try clear hi)))
     go_ret
     exact ⟨by first | rfl | (simp [errW_none, errW_some] <;> rfl) | (simp [*, errW_none, errW_some] <;> rfl), by repeat (first | (with_reducible first | exact HB.out | apply pbA | apply pbN | apply pbD | refine pbS ?_ GE1032.out) | exact HB.out)⟩
   · rw [if_neg c5] at H
     exact absurd H (by simp)
 · rw [if_neg c4] at H
   exact absurd H (by simp)
def footbridgeref11_NodeText.f (a0 : ByteArray) (a1 : ByteArray) : Option (ByteArray) := if 1 + a0.size ≤ 9223372036854775807 then (if ((⟨#[1]⟩ : ByteArray) ++ a0).size + a1.size ≤ 9223372036854775807 then (some (((⟨#[1]⟩ : ByteArray) ++ a0) ++ a1)) else (none)) else (none)
set_option maxHeartbeats 8000000 in
set_option maxRecDepth 100000 in
theorem footbridgeref11_NodeText.calls (a0 : ByteArray) (a1 : ByteArray) (r : ByteArray) (w : World) (h : footbridgeref11_NodeText.f a0 a1 = some r) :
  Calls Try.prog 164 #[.string a0, .string a1] w fun e w' => e = .returned (.string r) ∧ Drawn0 w w' := by
 have H : (if 1 + a0.size ≤ 9223372036854775807 then (if ((⟨#[1]⟩ : ByteArray) ++ a0).size + a1.size ≤ 9223372036854775807 then (some (((⟨#[1]⟩ : ByteArray) ++ a0) ++ a1)) else (none)) else (none)) = some r := h
 clear h
 by_cases c3 : 1 + a0.size ≤ 9223372036854775807
 · rw [if_pos c3] at H
   have c3b0 := eq_true c3
   have c3b1 : decide (1 + a0.size ≤ 9223372036854775807) = true := decide_eq_true c3
   try have c3b2 : (9223372036854775807 < 1 + a0.size) = False := eq_false (Nat.not_lt.2 c3)
   by_cases c4 : ((⟨#[1]⟩ : ByteArray) ++ a0).size + a1.size ≤ 9223372036854775807
   · rw [if_pos c4] at H
     have c4b0 := eq_true c4
     have c4b1 : decide (((⟨#[1]⟩ : ByteArray) ++ a0).size + a1.size ≤ 9223372036854775807) = true := decide_eq_true c4
     try have c4b2 : (9223372036854775807 < ((⟨#[1]⟩ : ByteArray) ++ a0).size + a1.size) = False := eq_false (Nat.not_lt.2 c4)
     try (have c4b8 := c4b2; simp only [ByteArray.size_append] at c4b8)
     obtain rfl := Option.some.inj H
     go_enter Try.func164, Try.ntmps164
     go_wp2
     go_ret
     exact ⟨by first | rfl | (simp; done) | (simp [*]; done), by repeat (first | exact Drawn0.refl _ | apply Drawn0.step)⟩
   · rw [if_neg c4] at H
     exact absurd H (by simp)
 · rw [if_neg c3] at H
   exact absurd H (by simp)
def footbridgeref11_Tree.f : Nat → List (S86) → Option (ByteArray × List ByteArray)
 | 0, _ => none
 | k + 1, l0 => if (l0.length : Int) = 0 then (some ((⟨#[]⟩ : ByteArray), ([] : List ByteArray))) else (if (l0.length : Int) = 1 then (if 0 < (l0.length : Int) then ((footbridgeref11_LeafText.f k ((rd_T86 l0 0).f0) ((rd_T86 l0 0).f1)).bind fun t1038 => ((footbridgeref04_Sum.f t1038).bind fun t1039 => (some (t1039, (([t1038] : List ByteArray)))))) else (none)) else ((footbridgeref11_Split.f k (l0.length : Int)).bind fun t1043 => (if 0 ≤ t1043 then (if t1043 ≤ (l0.length : Int) then ((footbridgeref11_Tree.f k (l0.take (t1043 : Int).toNat)).bind fun bt1048 => ((footbridgeref11_Tree.f k (l0.drop (t1043 : Int).toNat)).bind fun bt1056 => ((footbridgeref11_NodeText.f bt1048.1 bt1056.1).bind fun t1060 => (if ([] : List ByteArray).length + bt1048.2.length < 8796093022208 then ((some (([] : List ByteArray) ++ bt1048.2 : List ByteArray)).bind fun y1061 => (if y1061.length + bt1056.2.length < 8796093022208 then ((some (y1061 ++ bt1056.2 : List ByteArray)).bind fun y1064 => (if y1064.length < 8796093022208 then ((footbridgeref04_Sum.f t1060).bind fun t1070 => (some (t1070, (y1064 ++ [t1060])))) else (none))) else (none))) else (none))))) else (none)) else (none))))
set_option maxHeartbeats 8000000 in
set_option maxRecDepth 100000 in
theorem footbridgeref11_Tree.calls (k : Nat) : ∀ (A0 : Option Addr) (c0 : Nat) (l0 : List (S86)) (r1 : ByteArray) (r2 : List ByteArray) (w : World) (hr0 : Kd.C k86 w A0 l0.length l0) (hc0 : l0.length ≤ c0) (h : footbridgeref11_Tree.f k l0 = some (r1, r2)),
  Calls Try.prog 134 #[.slice A0 l0.length c0] w fun e w' => ∃ v1_ : Value, e = .returned (.tuple #[.string r1, v1_]) ∧ Kd.R Kd.string 9 w' w.heap.size (fun _ => True) v1_ r2 ∧ Below w.heap.size w w' := by
 induction k using Nat.strongRecOn with
 | _ k ih =>
 intro A0 c0 l0 r1 r2 w hr0 hc0 h
 cases k with
 | zero => exact absurd h (by simp [footbridgeref11_Tree.f])
 | succ k =>
 simp only [footbridgeref11_Tree.f] at h
 have hu86 := Try.underlying86
 have HR0 := Aside0.mk hr0
 have HC0 := Aside0.mk hc0
 clear hr0 hc0
 have HB := Aside0.mk (Below.refl w.heap.size w)
 have H : (if (l0.length : Int) = 0 then (some ((⟨#[]⟩ : ByteArray), ([] : List ByteArray))) else (if (l0.length : Int) = 1 then (if 0 < (l0.length : Int) then ((footbridgeref11_LeafText.f k ((rd_T86 l0 0).f0) ((rd_T86 l0 0).f1)).bind fun t1038 => ((footbridgeref04_Sum.f t1038).bind fun t1039 => (some (t1039, (([t1038] : List ByteArray)))))) else (none)) else ((footbridgeref11_Split.f k (l0.length : Int)).bind fun t1043 => (if 0 ≤ t1043 then (if t1043 ≤ (l0.length : Int) then ((footbridgeref11_Tree.f k (l0.take (t1043 : Int).toNat)).bind fun bt1048 => ((footbridgeref11_Tree.f k (l0.drop (t1043 : Int).toNat)).bind fun bt1056 => ((footbridgeref11_NodeText.f bt1048.1 bt1056.1).bind fun t1060 => (if ([] : List ByteArray).length + bt1048.2.length < 8796093022208 then ((some (([] : List ByteArray) ++ bt1048.2 : List ByteArray)).bind fun y1061 => (if y1061.length + bt1056.2.length < 8796093022208 then ((some (y1061 ++ bt1056.2 : List ByteArray)).bind fun y1064 => (if y1064.length < 8796093022208 then ((footbridgeref04_Sum.f t1060).bind fun t1070 => (some (t1070, (y1064 ++ [t1060])))) else (none))) else (none))) else (none))))) else (none)) else (none))))) = some (r1, r2) := h
 clear h
 by_cases c2 : (l0.length : Int) = 0
 · rw [if_pos c2] at H
   have c2b0 : ((l0.length : Int) == 0) = true := beq_iff_eq.mpr c2
   have c2b1 : ((l0.length : Int) != 0) = false := bne_eq_false_iff_eq.mpr c2
   clear c2
   simp only [Option.some.injEq, Prod.mk.injEq] at H
   obtain ⟨rfl, rfl⟩ := H
   go_enter Try.func134, Try.ntmps134
   go_wp2
   go_ret2
   exact ⟨_, by first | rfl | (simp [errW_none, errW_some] <;> rfl) | (simp [*, errW_none, errW_some] <;> rfl), by first | exact Kd.R_nil _ _ _ _ _ | exact Kd.N_nil _ _ _ _ _ | exact Kd.V_nil _ _ _ _ _ | exact Kd.Q_nil _ _ _ _ _ | exact Kd.S_nil _ _ _ _ _, by repeat (first | (with_reducible first | exact HB.out | apply pbA | apply pbN | apply pbD) | exact HB.out)⟩
 · rw [if_neg c2] at H
   have c2b0 : ((l0.length : Int) == 0) = false := beq_eq_false_iff_ne.mpr c2
   have c2b1 : ((l0.length : Int) != 0) = true := bne_iff_ne.mpr c2
   have c2b2 : ¬ (l0 = []) := fun h_ => c2 (by rw [h_]; rfl)
   by_cases c3 : (l0.length : Int) = 1
   · rw [if_pos c3] at H
     have c3b0 : ((l0.length : Int) == 1) = true := beq_iff_eq.mpr c3
     have c3b1 : ((l0.length : Int) != 1) = false := bne_eq_false_iff_eq.mpr c3
     clear c3
     by_cases c4 : 0 < (l0.length : Int)
     · rw [if_pos c4] at H
       have c4b0 : decide (0 < (l0.length : Int)) = true := decide_eq_true c4
       have c4b1 : decide (0 < l0.length) = true := decide_eq_true (by omega)
       clear c4
       replace H := Option.bind_eq_some_iff.mp H
       obtain ⟨t1038, A50, H⟩ := H
       replace H : ((footbridgeref04_Sum.f t1038).bind fun t1039 => (some (t1039, (([t1038] : List ByteArray))))) = some (r1, r2) := H
       have A5 := Aside0.mk A50
       clear A50
       replace H := Option.bind_eq_some_iff.mp H
       obtain ⟨t1039, A60, H⟩ := H
       replace H : (some (t1039, (([t1038] : List ByteArray)))) = some (r1, r2) := H
       have A6 := Aside0.mk A60
       clear A60
       obtain ⟨y1040, hy1040⟩ : ∃ y_ : List ByteArray, y_ = (([t1038] : List ByteArray)) := ⟨_, rfl⟩
       replace H : (some (t1039, y1040)) = some (r1, r2) := by first | (rw [hy1040]; with_reducible exact H) | (have H2_ := (Option.bind_some _ _).symm.trans H; rw [hy1040]; with_reducible exact H2_) | (have H2_ := (Option.bind_some _ _).symm.trans H; with_reducible exact H2_) | with_reducible exact H | (rw [hy1040]; exact H) | exact H
       have Ny1040 := Aside0.mk hy1040
       clear hy1040
       simp only [Option.some.injEq, Prod.mk.injEq] at H
       obtain ⟨rfl, rfl⟩ := H
       have p1037 : 0 ≤ (0 : Int) := (by omega)
       have q1037 : 0 < (l0.length : Int) := of_decide_eq_true (by first | (with_reducible assumption) | assumption)
       obtain ⟨ad1037, e1037, hx1037_0, hx1037_1⟩ := at_T86 HR0.out 0 p1037 q1037
       cases e1037
       have qi1037 : (0 < l0.length) = True := eq_true (by omega)
       (try rw [show ((0 : Int)).toNat = 0 from rfl] at hx1037_0)
       (try rw [show 0 * 2 = 0 from rfl] at hx1037_0)
       (try rw [Addr.add_zero'] at hx1037_0)
       (try rw [show ((0 : Int)).toNat = 0 from rfl] at hx1037_1)
       (try rw [show 0 * 2 = 0 from rfl] at hx1037_1)
       (try rw [Addr.add_zero'] at hx1037_1)
       replace p1037 := eq_true p1037
       replace q1037 := eq_true q1037
       go_enter Try.func134, Try.ntmps134
       go_wp2_with (first | ((with_reducible refine gate_callee (f := 161) rfl ?_); refine goesL_ (some 21) rfl rfl Try.func161 (by kernel_rfl) rfl #[.agg #[.string ((rd_T86 l0 0).f0), .string ((rd_T86 l0 0).f1)]] rfl (by (try simp only [List.map_toArray, List.map_cons, List.map_nil]); first | done | rfl | (simp only [List.length_drop, List.length_take]; rfl)) ?_; (with_reducible refine (footbridgeref11_LeafText.calls k ((rd_T86 l0 0).f0) ((rd_T86 l0 0).f1) t1038 _ A5.out).mono ?_); rintro e w7 ⟨rfl, hb⟩; refine ⟨_, rfl, ?_⟩; have n0_ := Aside0.mk (below_step (by repeat (first | (with_reducible first | exact HB.out | apply pbA | apply pbN | apply pbD) | exact HB.out)) hb); clear HB; have HB := n0_; clear n0_; (try clear hb); (try clear hb2); (try clear hk); (try clear hi)) | ((with_reducible refine gate_callee (f := 79) rfl ?_); refine goesL_ (some 23) rfl rfl Try.func79 (by kernel_rfl) rfl #[.string t1038] rfl (by (try simp only [List.map_toArray, List.map_cons, List.map_nil]); first | done | rfl | (simp only [List.length_drop, List.length_take]; rfl)) ?_; (with_reducible refine (footbridgeref04_Sum.calls t1038 t1039 _ A6.out).mono ?_); rintro e w8 ⟨rfl, hb⟩; refine ⟨_, rfl, ?_⟩; have n0_ := Aside0.mk (below_step (by repeat (first | (with_reducible first | exact HB.out | apply pbA | apply pbN | apply pbD) | exact HB.out)) hb); clear HB; have HB := n0_; clear n0_; (try clear hb); (try clear hb2); (try clear hk); (try clear hi)) | ((with_reducible refine gate_dst (N := 25) rfl ?_); refine Kd.R_lit Kd.string _ 9 ?hg (N := 25) ?hd (xs := ([t1038] : List ByteArray)) (inner := [.string t1038]) (ok := fun _ => True) (okp := fun _ => True) ?hr ?hp (fun _ hk => hk) trivial (Below.refl _ _) (Nat.le_refl _) (by simp) ?_; (case hd => rfl); (case hg => rfl); (case hr => first | (go_simp; done) | (go_simp; rfl)); (case hp => exact (Reps.one (show Kd.M Kd.string _ _ _ t1038 [.string t1038] from rfl) (Reps.none _ _))); intro v1041 w9 ho10 hb hg_ hnew_; clear hg_ hnew_; (first | rw [← Ny1040.out] at ho10 | (simp only [Int.reduceToNat] at ho10; rw [← Ny1040.out] at ho10)); have n0_ := Aside0.mk (Kd.R_lower ho10 (below_size (by repeat (first | (with_reducible first | exact HB.out | apply pbA | apply pbN | apply pbD) | exact HB.out)))); have n1_ := Aside0.mk (below_step (by repeat (first | (with_reducible first | exact HB.out | apply pbA | apply pbN | apply pbD) | exact HB.out)) hb); clear HB; have HO1042 := n0_; have HB := n1_; clear n0_ n1_; clear hb ho10))
       go_ret2
       exact ⟨_, by first | rfl | (simp [errW_none, errW_some] <;> rfl) | (simp [*, errW_none, errW_some] <;> rfl), by (with_reducible repeat (first | apply Kd.R_alloc | apply Kd.R_drewN | apply Kd.R_drew)); exact HO1042.out, by repeat (first | (with_reducible first | exact HB.out | apply pbA | apply pbN | apply pbD) | exact HB.out)⟩
     · rw [if_neg c4] at H
       exact absurd H (by simp)
   · rw [if_neg c3] at H
     have c3b0 : ((l0.length : Int) == 1) = false := beq_eq_false_iff_ne.mpr c3
     have c3b1 : ((l0.length : Int) != 1) = true := bne_iff_ne.mpr c3
     replace H := Option.bind_eq_some_iff.mp H
     obtain ⟨t1043, A110, H⟩ := H
     replace H : (if 0 ≤ t1043 then (if t1043 ≤ (l0.length : Int) then ((footbridgeref11_Tree.f k (l0.take (t1043 : Int).toNat)).bind fun bt1048 => ((footbridgeref11_Tree.f k (l0.drop (t1043 : Int).toNat)).bind fun bt1056 => ((footbridgeref11_NodeText.f bt1048.1 bt1056.1).bind fun t1060 => (if ([] : List ByteArray).length + bt1048.2.length < 8796093022208 then ((some (([] : List ByteArray) ++ bt1048.2 : List ByteArray)).bind fun y1061 => (if y1061.length + bt1056.2.length < 8796093022208 then ((some (y1061 ++ bt1056.2 : List ByteArray)).bind fun y1064 => (if y1064.length < 8796093022208 then ((footbridgeref04_Sum.f t1060).bind fun t1070 => (some (t1070, (y1064 ++ [t1060])))) else (none))) else (none))) else (none))))) else (none)) else (none)) = some (r1, r2) := H
     have A11 := Aside0.mk A110
     clear A110
     by_cases c12 : 0 ≤ t1043
     · rw [if_pos c12] at H
       have c12b0 := eq_true c12
       have c12b1 : decide (0 ≤ t1043) = true := decide_eq_true c12
       clear c12
       by_cases c13 : t1043 ≤ (l0.length : Int)
       · rw [if_pos c13] at H
         have c13b0 := eq_true c13
         have c13b1 : decide (t1043 ≤ (l0.length : Int)) = true := decide_eq_true c13
         clear c13
         obtain ⟨y1044, hy1044⟩ : ∃ y_ : List (S86), y_ = (l0.take (t1043 : Int).toNat) := ⟨_, rfl⟩
         replace H : ((footbridgeref11_Tree.f k y1044).bind fun bt1048 => ((footbridgeref11_Tree.f k (l0.drop (t1043 : Int).toNat)).bind fun bt1056 => ((footbridgeref11_NodeText.f bt1048.1 bt1056.1).bind fun t1060 => (if ([] : List ByteArray).length + bt1048.2.length < 8796093022208 then ((some (([] : List ByteArray) ++ bt1048.2 : List ByteArray)).bind fun y1061 => (if y1061.length + bt1056.2.length < 8796093022208 then ((some (y1061 ++ bt1056.2 : List ByteArray)).bind fun y1064 => (if y1064.length < 8796093022208 then ((footbridgeref04_Sum.f t1060).bind fun t1070 => (some (t1070, (y1064 ++ [t1060])))) else (none))) else (none))) else (none))))) = some (r1, r2) := by first | (rw [hy1044]; with_reducible exact H) | (have H2_ := (Option.bind_some _ _).symm.trans H; rw [hy1044]; with_reducible exact H2_) | (have H2_ := (Option.bind_some _ _).symm.trans H; with_reducible exact H2_) | with_reducible exact H | (rw [hy1044]; exact H) | exact H
         have Ny1044 := Aside0.mk hy1044
         clear hy1044
         replace H := Option.bind_eq_some_iff.mp H
         obtain ⟨⟨t1048, t1049⟩, A140, H⟩ := H
         replace H : ((footbridgeref11_Tree.f k (l0.drop (t1043 : Int).toNat)).bind fun bt1056 => ((footbridgeref11_NodeText.f t1048 bt1056.1).bind fun t1060 => (if ([] : List ByteArray).length + t1049.length < 8796093022208 then ((some (([] : List ByteArray) ++ t1049 : List ByteArray)).bind fun y1061 => (if y1061.length + bt1056.2.length < 8796093022208 then ((some (y1061 ++ bt1056.2 : List ByteArray)).bind fun y1064 => (if y1064.length < 8796093022208 then ((footbridgeref04_Sum.f t1060).bind fun t1070 => (some (t1070, (y1064 ++ [t1060])))) else (none))) else (none))) else (none)))) = some (r1, r2) := H
         have A14 := Aside0.mk A140
         clear A140
         have c15b0 := eq_true (of_decide_eq_true (by first | (with_reducible assumption) | assumption) : 0 ≤ t1043)
         have c16b0 := eq_true (of_decide_eq_true (by first | (with_reducible assumption) | assumption) : t1043 ≤ (l0.length : Int))
         obtain ⟨y1052, hy1052⟩ : ∃ y_ : List (S86), y_ = (l0.drop (t1043 : Int).toNat) := ⟨_, rfl⟩
         replace H : ((footbridgeref11_Tree.f k y1052).bind fun bt1056 => ((footbridgeref11_NodeText.f t1048 bt1056.1).bind fun t1060 => (if ([] : List ByteArray).length + t1049.length < 8796093022208 then ((some (([] : List ByteArray) ++ t1049 : List ByteArray)).bind fun y1061 => (if y1061.length + bt1056.2.length < 8796093022208 then ((some (y1061 ++ bt1056.2 : List ByteArray)).bind fun y1064 => (if y1064.length < 8796093022208 then ((footbridgeref04_Sum.f t1060).bind fun t1070 => (some (t1070, (y1064 ++ [t1060])))) else (none))) else (none))) else (none)))) = some (r1, r2) := by first | (rw [hy1052]; with_reducible exact H) | (have H2_ := (Option.bind_some _ _).symm.trans H; rw [hy1052]; with_reducible exact H2_) | (have H2_ := (Option.bind_some _ _).symm.trans H; with_reducible exact H2_) | with_reducible exact H | (rw [hy1052]; exact H) | exact H
         have Ny1052 := Aside0.mk hy1052
         clear hy1052
         replace H := Option.bind_eq_some_iff.mp H
         obtain ⟨⟨t1056, t1057⟩, A170, H⟩ := H
         replace H : ((footbridgeref11_NodeText.f t1048 t1056).bind fun t1060 => (if ([] : List ByteArray).length + t1049.length < 8796093022208 then ((some (([] : List ByteArray) ++ t1049 : List ByteArray)).bind fun y1061 => (if y1061.length + t1057.length < 8796093022208 then ((some (y1061 ++ t1057 : List ByteArray)).bind fun y1064 => (if y1064.length < 8796093022208 then ((footbridgeref04_Sum.f t1060).bind fun t1070 => (some (t1070, (y1064 ++ [t1060])))) else (none))) else (none))) else (none))) = some (r1, r2) := H
         have A17 := Aside0.mk A170
         clear A170
         replace H := Option.bind_eq_some_iff.mp H
         obtain ⟨t1060, A180, H⟩ := H
         replace H : (if ([] : List ByteArray).length + t1049.length < 8796093022208 then ((some (([] : List ByteArray) ++ t1049 : List ByteArray)).bind fun y1061 => (if y1061.length + t1057.length < 8796093022208 then ((some (y1061 ++ t1057 : List ByteArray)).bind fun y1064 => (if y1064.length < 8796093022208 then ((footbridgeref04_Sum.f t1060).bind fun t1070 => (some (t1070, (y1064 ++ [t1060])))) else (none))) else (none))) else (none)) = some (r1, r2) := H
         have A18 := Aside0.mk A180
         clear A180
         by_cases c19 : ([] : List ByteArray).length + t1049.length < 8796093022208
         · rw [if_pos c19] at H
           have LMc19 := Aside0.mk c19
           clear c19
           obtain ⟨y1061, hy1061⟩ : ∃ y_ : List ByteArray, y_ = (([] : List ByteArray) ++ t1049) := ⟨_, rfl⟩
           replace H : (if y1061.length + t1057.length < 8796093022208 then ((some (y1061 ++ t1057 : List ByteArray)).bind fun y1064 => (if y1064.length < 8796093022208 then ((footbridgeref04_Sum.f t1060).bind fun t1070 => (some (t1070, (y1064 ++ [t1060])))) else (none))) else (none)) = some (r1, r2) := by first | (rw [hy1061]; with_reducible exact H) | (have H2_ := (Option.bind_some _ _).symm.trans H; rw [hy1061]; with_reducible exact H2_) | (have H2_ := (Option.bind_some _ _).symm.trans H; with_reducible exact H2_) | with_reducible exact H | (rw [hy1061]; exact H) | exact H
           have Ny1061 := Aside0.mk hy1061
           clear hy1061
           by_cases c20 : y1061.length + t1057.length < 8796093022208
           · rw [if_pos c20] at H
             have LMc20 := Aside0.mk c20
             clear c20
             obtain ⟨y1064, hy1064⟩ : ∃ y_ : List ByteArray, y_ = (y1061 ++ t1057) := ⟨_, rfl⟩
             replace H : (if y1064.length < 8796093022208 then ((footbridgeref04_Sum.f t1060).bind fun t1070 => (some (t1070, (y1064 ++ [t1060])))) else (none)) = some (r1, r2) := by first | (rw [hy1064]; with_reducible exact H) | (have H2_ := (Option.bind_some _ _).symm.trans H; rw [hy1064]; with_reducible exact H2_) | (have H2_ := (Option.bind_some _ _).symm.trans H; with_reducible exact H2_) | with_reducible exact H | (rw [hy1064]; exact H) | exact H
             have Ny1064 := Aside0.mk hy1064
             clear hy1064
             by_cases c21 : y1064.length < 8796093022208
             · rw [if_pos c21] at H
               have LMc21 := Aside0.mk c21
               clear c21
               obtain ⟨y1067, hy1067⟩ : ∃ y_ : List ByteArray, y_ = (y1064 ++ [t1060]) := ⟨_, rfl⟩
               replace H : ((footbridgeref04_Sum.f t1060).bind fun t1070 => (some (t1070, y1067))) = some (r1, r2) := by first | (rw [hy1067]; with_reducible exact H) | (have H2_ := (Option.bind_some _ _).symm.trans H; rw [hy1067]; with_reducible exact H2_) | (have H2_ := (Option.bind_some _ _).symm.trans H; with_reducible exact H2_) | with_reducible exact H | (rw [hy1067]; exact H) | exact H
               have Ny1067 := Aside0.mk hy1067
               clear hy1067
               replace H := Option.bind_eq_some_iff.mp H
               obtain ⟨t1070, A220, H⟩ := H
               replace H : (some (t1070, y1067)) = some (r1, r2) := H
               have A22 := Aside0.mk A220
               clear A220
               simp only [Option.some.injEq, Prod.mk.injEq] at H
               obtain ⟨rfl, rfl⟩ := H
               go_enter Try.func134, Try.ntmps134
               go_wp2_with (first | ((with_reducible refine gate_callee (f := 160) rfl ?_); refine goesL_ (some 28) rfl rfl Try.func160 (by kernel_rfl) rfl #[.int .i64 (l0.length : Int)] rfl (by (try simp only [List.map_toArray, List.map_cons, List.map_nil]); first | done | rfl | (simp only [List.length_drop, List.length_take]; rfl)) ?_; (with_reducible refine (footbridgeref11_Split.calls k (l0.length : Int) t1043 _ A11.out).mono ?_); rintro e w' ⟨rfl, ⟨nd, rfl⟩⟩; refine ⟨_, rfl, ?_⟩; have q23 : (t1043 : Int) ≤ ((l0.length : Int) : Int) := of_decide_eq_true (by first | (with_reducible assumption) | assumption); obtain ⟨i023, hi023, _, hsz23, _⟩ := info_parts info86; have hroom23 : l0.length ≤ c0 := HC0.out; have hC23 : Kd.C k86 _ A0 l0.length l0 := HR0.out; have hcut23 := cut_to (P := Try.prog) 39 86 .i64 Try.underlying39 hi023 A0 l0.length c0 t1043 (of_decide_eq_true (by first | (with_reducible assumption) | assumption)) q23 hroom23; have hr23 := Kd.C_take (m := (t1043 : Int).toNat) hC23 (by omega); have hy23 : y1044.length = (t1043 : Int).toNat := (by rw [Ny1044.out, List.length_take]; omega); rw [← Ny1044.out] at hr23; rw [← hy23] at hcut23; have HR1047 := Aside0.mk hr23; have HC1047 := Aside0.mk (show y1044.length ≤ c0 from by omega); clear hr23 hC23 hroom23 hi023 hsz23; have KY23 := Aside0.mk hy23; clear hy23; replace q23 := eq_true q23) | ((with_reducible refine gate_callee (f := 134) rfl ?_); refine goesL_ (some 33) rfl rfl Try.func134 (by kernel_rfl) rfl #[.slice A0 y1044.length c0] rfl (by (try simp only [List.map_toArray, List.map_cons, List.map_nil]); first | done | rfl | (simp only [List.length_drop, List.length_take]; rfl)) ?_; (with_reducible refine (ih k (by omega) _ _ y1044 t1048 t1049 _ ?side1 ?side2 A14.out).mono ?_); (case side1 => repeat (first | exact HR1047.out | (with_reducible refine Kd.C_alloc ?_ _) | (with_reducible refine Kd.C_drewN ?_ _) | (with_reducible refine Kd.C_drew ?_))); (case side2 => exact HC1047.out); rintro e w24 ⟨v1050, rfl, ho0, hb⟩; refine ⟨_, rfl, ?_⟩; have n0_ := Aside0.mk (Kd.R_lower ho0 (below_size (by repeat (first | (with_reducible first | exact HB.out | apply pbA | apply pbN | apply pbD) | exact HB.out)))); have n1_ := Aside0.mk (below_step (by repeat (first | (with_reducible first | exact HB.out | apply pbA | apply pbN | apply pbD) | exact HB.out)) hb); clear HB; have HO1051 := n0_; have HB := n1_; clear n0_ n1_; (try clear hb); (try clear hb2); (try clear hk); (try clear hi); (try clear ho0); have q25 : (t1043 : Int) ≤ ((l0.length : Int) : Int) := of_decide_eq_true (by first | (with_reducible assumption) | assumption); obtain ⟨i025, hi025, _, hsz25, _⟩ := info_parts info86; have hroom25 : l0.length ≤ c0 := HC0.out; have hC25 : Kd.C k86 _ A0 l0.length l0 := HR0.out; have q025 : (0 : Int) ≤ (t1043 : Int) := of_decide_eq_true (by first | (with_reducible assumption) | assumption); have hcut25 := cut_from (P := Try.prog) 39 86 .i64 Try.underlying39 hi025 2 hsz25 A0 l0.length c0 t1043 q025 q25; have hr25 := Kd.C_drop (m := (t1043 : Int).toNat) (c := c0) hC25 (by omega) hroom25; obtain ⟨A25, hA25⟩ : ∃ A1, A1 = (if c0 = (t1043 : Int).toNat then A0 else (A0 : Option Addr).map (·.add ((t1043 : Int).toNat * 2))) := ⟨_, rfl⟩; obtain ⟨c25, hc25⟩ : ∃ c1, c1 = c0 - (t1043 : Int).toNat := ⟨_, rfl⟩; have hy25 : y1052.length = l0.length - (t1043 : Int).toNat := (by rw [Ny1052.out, List.length_drop] <;> omega); rw [show (l0).drop (t1043 : Int).toNat = y1052 from Ny1052.out.symm] at hr25; replace hr25 : Kd.C k86 _ A25 y1052.length y1052 := (by rw [hA25]; exact hr25); rw [← hy25, ← hA25, ← hc25] at hcut25; have HR1055 := Aside0.mk hr25; have HC1055 := Aside0.mk (show y1052.length ≤ c25 from by rw [hy25, hc25]; exact Nat.sub_le_sub_right hroom25 _); clear hr25 hC25 hroom25 hi025 hsz25 hc25; have KY25 := Aside0.mk hy25; have KA25 := Aside0.mk hA25; clear hy25 hA25; replace q25 := eq_true q25) | ((with_reducible refine gate_callee (f := 134) rfl ?_); refine goesL_ (some 40) rfl rfl Try.func134 (by kernel_rfl) rfl #[.slice A25 y1052.length c25] rfl (by (try simp only [List.map_toArray, List.map_cons, List.map_nil]); first | done | rfl | (simp only [List.length_drop, List.length_take]; rfl)) ?_; (with_reducible refine (ih k (by omega) _ _ y1052 t1056 t1057 _ ?side1 ?side2 A17.out).mono ?_); (case side1 => repeat (first | exact (Kd.C_below HR1055.out HB.out) | (with_reducible refine Kd.C_alloc ?_ _) | (with_reducible refine Kd.C_drewN ?_ _) | (with_reducible refine Kd.C_drew ?_))); (case side2 => exact HC1055.out); rintro e w26 ⟨v1058, rfl, ho0, hb⟩; refine ⟨_, rfl, ?_⟩; have n0_ := Aside0.mk (Kd.R_elder' (by (with_reducible repeat (first | apply Kd.R_alloc | apply Kd.R_drewN | apply Kd.R_drew)); exact HO1051.out) (Kd.R_base ho0) hb); have n1_ := Aside0.mk (Kd.R_lower (Kd.R_new' ho0 (Kd.R_lt (by (with_reducible repeat (first | apply Kd.R_alloc | apply Kd.R_drewN | apply Kd.R_drew)); exact HO1051.out))) (below_size (by repeat (first | (with_reducible first | exact HB.out | apply pbA | apply pbN | apply pbD) | exact HB.out)))); have n2_ := Aside0.mk (below_step (by repeat (first | (with_reducible first | exact HB.out | apply pbA | apply pbN | apply pbD) | exact HB.out)) hb); clear HO1051; clear HB; have HO1051 := n0_; have HO1059 := n1_; have HB := n2_; clear n0_ n1_ n2_; (try clear hb); (try clear hb2); (try clear hk); (try clear hi); (try clear ho0)) | ((with_reducible refine gate_callee (f := 164) rfl ?_); refine goesL_ (some 45) rfl rfl Try.func164 (by kernel_rfl) rfl #[.string t1048, .string t1056] rfl (by (try simp only [List.map_toArray, List.map_cons, List.map_nil]); first | done | rfl | (simp only [List.length_drop, List.length_take]; rfl)) ?_; (with_reducible refine (footbridgeref11_NodeText.calls t1048 t1056 t1060 _ A18.out).mono ?_); rintro e w' ⟨rfl, ⟨nd, rfl⟩⟩; refine ⟨_, rfl, ?_⟩; obtain ⟨Ao28, co28, eo28⟩ := Kd.R_slice HO1051.out; subst eo28) | ((with_reducible refine gate_builtin (b := .append) (xs := #[.tmp 46, .tmp 47]) rfl ?_); at_builtin; refine Kd.R_append_rows Kd.string (w0 := w) w.heap.size rfl (.tmp 46) (.tmp 47) 63 9 (.string ⟨#[]⟩) 16 rfl Try.underlying63 info9 rfl (by decide) (by omega) (.slice none 0 0) ([] : List ByteArray) t1049 _ _ _ (fun k_ => some k_ ≠ (.slice Ao28 t1049.length co28 : Value).ownBlock ∧ some k_ ≠ (v1058 : Value).ownBlock) (fun _ => False) rfl rfl ?aO ?aR (fun _ _ h => h) (fun _ h => h.elim) ?aF ?aB ?aS ?aL ?_; (case aR => repeat (first | exact (Kd.R_reads' HO1051.out).2.2 | (with_reducible refine Kd.C_alloc ?_ _) | (with_reducible refine Kd.C_drewN ?_ _) | (with_reducible refine Kd.C_drew ?_))); (case aB => exact (by repeat (first | (with_reducible first | exact HB.out | apply pbA | apply pbN | apply pbD) | exact HB.out))); (case aF => exact (fun k_ hk => ⟨Kd.fresh' (Kd.R_lt (by (with_reducible repeat (first | apply Kd.R_alloc | apply Kd.R_drewN | apply Kd.R_drew)); exact HO1051.out)) k_ hk, Kd.fresh' (Kd.R_lt (by (with_reducible repeat (first | apply Kd.R_alloc | apply Kd.R_drewN | apply Kd.R_drew)); exact HO1059.out)) k_ hk⟩)); (case aO => exact ((Kd.R_nil _ _ _ _ (fun k_ => some k_ ≠ (.slice Ao28 t1049.length co28 : Value).ownBlock ∧ some k_ ≠ (v1058 : Value).ownBlock)))); (case aS => exact (below_size (by repeat (first | (with_reducible first | exact HB.out | apply pbA | apply pbN | apply pbD) | exact HB.out)))); (case aL => have := LMc19.out; omega); intro v1062 w27 ho hb hg hat; rw [← Ny1061.out] at ho; have n0_ := Aside0.mk (Kd.R_after (Kd.R_apart_nil (by (with_reducible repeat (first | apply Kd.R_alloc | apply Kd.R_drewN | apply Kd.R_drew)); exact HO1051.out)) hg hat); have n1_ := Aside0.mk (Kd.R_after (Kd.R_apart_nil (by (with_reducible repeat (first | apply Kd.R_alloc | apply Kd.R_drewN | apply Kd.R_drew)); exact HO1059.out)) hg hat); have n2_ := Aside0.mk (hb); have n3_ := Aside0.mk (ho); clear HO1051; clear HO1059; clear HB; have HO1051 := n0_; have HO1059 := n1_; have HB := n2_; have HO1063 := n3_; clear n0_ n1_ n2_ n3_; clear ho hb hg hat; obtain ⟨Ao30, co30, eo30⟩ := Kd.R_slice HO1059.out; subst eo30) | ((with_reducible refine gate_builtin (b := .append) (xs := #[.tmp 49, .tmp 50]) rfl ?_); at_builtin; refine Kd.R_append_rows Kd.string (w0 := w) w.heap.size rfl (.tmp 49) (.tmp 50) 63 9 (.string ⟨#[]⟩) 16 rfl Try.underlying63 info9 rfl (by decide) (by omega) v1062 y1061 t1057 _ _ _ (fun k_ => some k_ ≠ (.slice Ao28 t1049.length co28 : Value).ownBlock ∧ some k_ ≠ (.slice Ao30 t1057.length co30 : Value).ownBlock) (fun _ => False) rfl rfl ?aO ?aR (fun _ _ h => h) (fun _ h => h.elim) ?aF ?aB ?aS ?aL ?_; (case aR => repeat (first | exact (Kd.R_reads' HO1059.out).2.2 | (with_reducible refine Kd.C_alloc ?_ _) | (with_reducible refine Kd.C_drewN ?_ _) | (with_reducible refine Kd.C_drew ?_))); (case aB => exact (by repeat (first | (with_reducible first | exact HB.out | apply pbA | apply pbN | apply pbD) | exact HB.out))); (case aF => exact (fun k_ hk => ⟨Kd.fresh' (Kd.R_lt (by (with_reducible repeat (first | apply Kd.R_alloc | apply Kd.R_drewN | apply Kd.R_drew)); exact HO1051.out)) k_ hk, Kd.fresh' (Kd.R_lt (by (with_reducible repeat (first | apply Kd.R_alloc | apply Kd.R_drewN | apply Kd.R_drew)); exact HO1059.out)) k_ hk⟩)); (case aO => exact (by (with_reducible repeat (first | apply Kd.R_alloc | apply Kd.R_drewN | apply Kd.R_drew)); exact HO1063.out)); (case aS => exact (below_size (by repeat (first | (with_reducible first | exact HB.out | apply pbA | apply pbN | apply pbD) | exact HB.out)))); (case aL => have := LMc20.out; omega); intro v1065 w29 ho hb hg hat; rw [← Ny1064.out] at ho; have n0_ := Aside0.mk (Kd.R_after (ok := (fun k_ => some k_ ≠ (.slice Ao30 t1057.length co30 : Value).ownBlock)) (by (with_reducible repeat (first | apply Kd.R_alloc | apply Kd.R_drewN | apply Kd.R_drew)); exact Kd.R_mono HO1051.out (fun _ hk => ⟨hk.1.2, hk.2⟩)) hg hat); have n1_ := Aside0.mk (Kd.R_after (ok := (fun k_ => some k_ ≠ (.slice Ao28 t1049.length co28 : Value).ownBlock)) (by (with_reducible repeat (first | apply Kd.R_alloc | apply Kd.R_drewN | apply Kd.R_drew)); exact Kd.R_mono HO1059.out (fun _ hk => ⟨hk.1.2, hk.2⟩)) hg hat); have n2_ := Aside0.mk (hb); have n3_ := Aside0.mk (ho); clear HO1051; clear HO1059; clear HB; clear HO1063; have HO1051 := n0_; have HO1059 := n1_; have HB := n2_; have HO1066 := n3_; clear n0_ n1_ n2_ n3_; clear ho hb hg hat) | ((with_reducible refine gate_builtin (b := .append) (xs := #[.tmp 52, .tmp 54]) rfl ?_); at_builtin; refine Kd.R_append Kd.string (w0 := w) w.heap.size rfl (.tmp 52) (.tmp 54) 63 9 (.string ⟨#[]⟩) 16 rfl Try.underlying63 info9 rfl (by decide) (by omega) v1065 y1064 t1060 [.string t1060] (fun k_ => some k_ ≠ (.slice Ao28 t1049.length co28 : Value).ownBlock ∧ some k_ ≠ (.slice Ao30 t1057.length co30 : Value).ownBlock) (fun _ => False) rfl rfl ?aP (fun _ hk => hk.elim) ?aF ?aO ?aB ?aS ?aL ?_; (case aP => exact rfl); (case aB => exact (by repeat (first | (with_reducible first | exact HB.out | apply pbA | apply pbN | apply pbD) | exact HB.out))); (case aF => exact (fun k_ hk => ⟨Kd.fresh' (Kd.R_lt (by (with_reducible repeat (first | apply Kd.R_alloc | apply Kd.R_drewN | apply Kd.R_drew)); exact HO1051.out)) k_ hk, Kd.fresh' (Kd.R_lt (by (with_reducible repeat (first | apply Kd.R_alloc | apply Kd.R_drewN | apply Kd.R_drew)); exact HO1059.out)) k_ hk⟩)); (case aO => exact (by (with_reducible repeat (first | apply Kd.R_alloc | apply Kd.R_drewN | apply Kd.R_drew)); exact HO1066.out)); (case aS => exact (below_size (by repeat (first | (with_reducible first | exact HB.out | apply pbA | apply pbN | apply pbD) | exact HB.out)))); (case aL => have := LMc21.out; omega); intro v1068 w31 ho hb hg hat; rw [← Ny1067.out] at ho; have n0_ := Aside0.mk (Kd.R_after (ok := (fun k_ => some k_ ≠ (.slice Ao30 t1057.length co30 : Value).ownBlock)) (by (with_reducible repeat (first | apply Kd.R_alloc | apply Kd.R_drewN | apply Kd.R_drew)); exact HO1051.out) hg hat); have n1_ := Aside0.mk (Kd.R_after (ok := (fun k_ => some k_ ≠ (.slice Ao28 t1049.length co28 : Value).ownBlock)) (by (with_reducible repeat (first | apply Kd.R_alloc | apply Kd.R_drewN | apply Kd.R_drew)); exact HO1059.out) hg hat); have n2_ := Aside0.mk (hb); have n3_ := Aside0.mk (ho); clear HO1051; clear HO1059; clear HB; clear HO1066; have HO1051 := n0_; have HO1059 := n1_; have HB := n2_; have HO1069 := n3_; clear n0_ n1_ n2_ n3_; clear ho hb hg hat) | ((with_reducible refine gate_callee (f := 79) rfl ?_); refine goesL_ (some 57) rfl rfl Try.func79 (by kernel_rfl) rfl #[.string t1060] rfl (by (try simp only [List.map_toArray, List.map_cons, List.map_nil]); first | done | rfl | (simp only [List.length_drop, List.length_take]; rfl)) ?_; (with_reducible refine (footbridgeref04_Sum.calls t1060 t1070 _ A22.out).mono ?_); rintro e w32 ⟨rfl, hb⟩; refine ⟨_, rfl, ?_⟩; have n0_ := Aside0.mk (Kd.R_below (by (with_reducible repeat (first | apply Kd.R_alloc | apply Kd.R_drewN | apply Kd.R_drew)); exact HO1051.out) hb); have n1_ := Aside0.mk (Kd.R_below (by (with_reducible repeat (first | apply Kd.R_alloc | apply Kd.R_drewN | apply Kd.R_drew)); exact HO1059.out) hb); have n2_ := Aside0.mk (Kd.R_below (by (with_reducible repeat (first | apply Kd.R_alloc | apply Kd.R_drewN | apply Kd.R_drew)); exact HO1069.out) hb); have n3_ := Aside0.mk (below_step (by repeat (first | (with_reducible first | exact HB.out | apply pbA | apply pbN | apply pbD) | exact HB.out)) hb); clear HO1051; clear HO1059; clear HO1069; clear HB; have HO1051 := n0_; have HO1059 := n1_; have HO1069 := n2_; have HB := n3_; clear n0_ n1_ n2_ n3_; (try clear hb); (try clear hb2); (try clear hk); (try clear hi)))
               go_ret2
               exact ⟨_, by first | rfl | (simp [errW_none, errW_some] <;> rfl) | (simp [*, errW_none, errW_some] <;> rfl), by (with_reducible repeat (first | apply Kd.R_alloc | apply Kd.R_drewN | apply Kd.R_drew)); exact Kd.R_mono HO1069.out (fun _ hk => trivial), by repeat (first | (with_reducible first | exact HB.out | apply pbA | apply pbN | apply pbD) | exact HB.out)⟩
             · rw [if_neg c21] at H
               exact absurd H (by simp)
           · rw [if_neg c20] at H
             exact absurd H (by simp)
         · rw [if_neg c19] at H
           exact absurd H (by simp)
       · rw [if_neg c13] at H
         exact absurd H (by simp)
     · rw [if_neg c12] at H
       exact absurd H (by simp)
end Go.Proofs.Ytipgldfbjlhpoab.P
