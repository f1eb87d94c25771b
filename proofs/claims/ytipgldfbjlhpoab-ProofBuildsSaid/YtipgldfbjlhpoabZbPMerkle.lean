-- Printed by wip/myprint.py.
import Derived.Test.YtipgldfbjlhpoabZbP0
import Derived.Test.YtipgldfbjlhpoabZbHBits
import Derived.Test.YtipgldfbjlhpoabZbHRSha
import Derived.Test.YtipgldfbjlhpoabZbHWire
import Derived.Test.YtipgldfbjlhpoabZbPWire
namespace Go.Proofs.Ytipgldfbjlhpoab.P
open Go.RowKit Go.Proofs.YtipgldfbjlhpoabW.PrintWords Go.Proofs.YtipgldfbjlhpoabW.PrintLast Go.Proofs.YtipgldfbjlhpoabW.PrintMore
attribute [local go_sem] max2_int min2_int max_two min_two max_three min_three max_four min_four   -- for this text's walks alone
set_option linter.unusedVariables false
set_option linter.unusedSimpArgs false
def merkle_Leaf.f (a0_0 : ByteArray) (a0_1 : ByteArray) : Option (ByteArray) := (wire_Text.f a0_0).bind fun bt910 => ((wire_Text.f a0_1).bind fun bt912 => (if 1 + bt910.1.size ≤ 9223372036854775807 then (if ((⟨#[0]⟩ : ByteArray) ++ bt910.1).size + bt912.1.size ≤ 9223372036854775807 then ((sha_Sum.f (((⟨#[0]⟩ : ByteArray) ++ bt910.1) ++ bt912.1)).bind fun t914 => (some t914)) else (none)) else (none)))
set_option maxHeartbeats 8000000 in
set_option maxRecDepth 100000 in
theorem merkle_Leaf.calls (a0_0 : ByteArray) (a0_1 : ByteArray) (r : ByteArray) (w : World) (h : merkle_Leaf.f a0_0 a0_1 = some r) :
  Calls Try.prog 119 #[.agg #[.string a0_0, .string a0_1]] w fun e w' => e = .returned (.string r) ∧ Below w.heap.size w w' := by
 have hu86 := Try.underlying86
 have HB := Aside0.mk (Below.refl w.heap.size w)
 have H : ((wire_Text.f a0_0).bind fun bt910 => ((wire_Text.f a0_1).bind fun bt912 => (if 1 + bt910.1.size ≤ 9223372036854775807 then (if ((⟨#[0]⟩ : ByteArray) ++ bt910.1).size + bt912.1.size ≤ 9223372036854775807 then ((sha_Sum.f (((⟨#[0]⟩ : ByteArray) ++ bt910.1) ++ bt912.1)).bind fun t914 => (some t914)) else (none)) else (none)))) = some r := h
 clear h
 replace H := Option.bind_eq_some_iff.mp H
 obtain ⟨⟨t910, t911⟩, A20, H⟩ := H
 replace H : ((wire_Text.f a0_1).bind fun bt912 => (if 1 + t910.size ≤ 9223372036854775807 then (if ((⟨#[0]⟩ : ByteArray) ++ t910).size + bt912.1.size ≤ 9223372036854775807 then ((sha_Sum.f (((⟨#[0]⟩ : ByteArray) ++ t910) ++ bt912.1)).bind fun t914 => (some t914)) else (none)) else (none))) = some r := H
 have A2 := Aside0.mk A20
 clear A20
 replace H := Option.bind_eq_some_iff.mp H
 obtain ⟨⟨t912, t913⟩, A30, H⟩ := H
 replace H : (if 1 + t910.size ≤ 9223372036854775807 then (if ((⟨#[0]⟩ : ByteArray) ++ t910).size + t912.size ≤ 9223372036854775807 then ((sha_Sum.f (((⟨#[0]⟩ : ByteArray) ++ t910) ++ t912)).bind fun t914 => (some t914)) else (none)) else (none)) = some r := H
 have A3 := Aside0.mk A30
 clear A30
 by_cases c4 : 1 + t910.size ≤ 9223372036854775807
 · rw [if_pos c4] at H
   have c4b0 := eq_true c4
   have c4b1 : decide (1 + t910.size ≤ 9223372036854775807) = true := decide_eq_true c4
   try have c4b2 : (9223372036854775807 < 1 + t910.size) = False := eq_false (Nat.not_lt.2 c4)
   by_cases c5 : ((⟨#[0]⟩ : ByteArray) ++ t910).size + t912.size ≤ 9223372036854775807
   · rw [if_pos c5] at H
     have c5b0 := eq_true c5
     have c5b1 : decide (((⟨#[0]⟩ : ByteArray) ++ t910).size + t912.size ≤ 9223372036854775807) = true := decide_eq_true c5
     try have c5b2 : (9223372036854775807 < ((⟨#[0]⟩ : ByteArray) ++ t910).size + t912.size) = False := eq_false (Nat.not_lt.2 c5)
     try (have c5b8 := c5b2; simp only [ByteArray.size_append] at c5b8)
     replace H := Option.bind_eq_some_iff.mp H
     obtain ⟨t914, A60, H⟩ := H
     replace H : (some t914) = some r := H
     have A6 := Aside0.mk A60
     clear A60
     obtain rfl := Option.some.inj H
     go_enter Try.func119, Try.ntmps119
     go_wp2_with (first | ((with_reducible refine gate_dst (N := 1) rfl ?_); refine box_event ?hg (N := 1) ?hd (cs := #[.string a0_0, .string a0_1]) (t := 86) ?hr ?_; (case hd => rfl); (case hg => rfl); (case hr => first | (go_simp; done) | (go_simp; rfl)); intro gb909 hg w7 hbox hb; have n0_ := Aside0.mk (below_step (by repeat (first | (with_reducible first | exact HB.out | apply pbA | apply pbN | apply pbD) | exact HB.out)) hb); have n1_ := Aside0.mk (hbox); have n2_ := Aside0.mk ((by rw [hg]; exact (below_size (by repeat (first | (with_reducible first | exact HB.out | apply pbA | apply pbN | apply pbD) | exact HB.out))) : w.heap.size ≤ gb909)); have n3_ := Aside0.mk ((by rw [hg]; exact (below_size (by repeat (first | (with_reducible first | exact HB.out | apply pbA | apply pbN | apply pbD) | exact HB.out))) : w.heap.size ≤ gb909)); clear HB; have HB := n0_; have BK909 := n1_; have GW909 := n2_; have GE909 := n3_; clear n0_ n1_ n2_ n3_; clear hb hbox hg; have hcz8_0 : w7.cell? ⟨gb909, 0, none⟩ = some (.string a0_0) := (pkC BK909.out 0).trans rfl; have hcz8_1 : w7.cell? ⟨gb909, 1, none⟩ = some (.string a0_1) := (pkC BK909.out 1).trans rfl; have hfz8_0 := pkF BK909.out 0; have hfz8_1 := pkF BK909.out 1) | ((with_reducible refine gate_callee (f := 67) rfl ?_); refine goesL_ (some 10) rfl rfl Try.func67 (by kernel_rfl) rfl #[.string a0_0] rfl (by (try simp only [List.map_toArray, List.map_cons, List.map_nil]); first | done | rfl | (simp only [List.length_drop, List.length_take]; rfl)) ?_; (with_reducible refine (wire_Text.calls a0_0 t910 t911 _ A2.out).mono ?_); rintro e w9 ⟨rfl, hb⟩; refine ⟨_, rfl, ?_⟩; have n0_ := Aside0.mk (blk_below (g := gb909) (o := .cells #[.string a0_0, .string a0_1] 86 (0, 0)) (by (with_reducible repeat (first | refine pkN ?_ _ | refine pkD ?_ | refine pkA ?_ _)); exact BK909.out) hb); have n1_ := Aside0.mk (below_step (by repeat (first | (with_reducible first | exact HB.out | apply pbA | apply pbN | apply pbD | refine pbS ?_ GE909.out) | exact HB.out)) hb); clear BK909; clear HB; have BK909 := n0_; have HB := n1_; clear n0_ n1_; (try clear hb); (try clear hb2); (try clear hk); (try clear hi); have hcz10_0 : w9.cell? ⟨gb909, 0, none⟩ = some (.string a0_0) := (pkC BK909.out 0).trans rfl; have hcz10_1 : w9.cell? ⟨gb909, 1, none⟩ = some (.string a0_1) := (pkC BK909.out 1).trans rfl; have hfz10_0 := pkF BK909.out 0; have hfz10_1 := pkF BK909.out 1) | ((with_reducible refine gate_callee (f := 67) rfl ?_); refine goesL_ (some 16) rfl rfl Try.func67 (by kernel_rfl) rfl #[.string a0_1] rfl (by (try simp only [List.map_toArray, List.map_cons, List.map_nil]); first | done | rfl | (simp only [List.length_drop, List.length_take]; rfl)) ?_; (with_reducible refine (wire_Text.calls a0_1 t912 t913 _ A3.out).mono ?_); rintro e w11 ⟨rfl, hb⟩; refine ⟨_, rfl, ?_⟩; have n0_ := Aside0.mk (blk_below (g := gb909) (o := .cells #[.string a0_0, .string a0_1] 86 (0, 0)) (by (with_reducible repeat (first | refine pkN ?_ _ | refine pkD ?_ | refine pkA ?_ _)); exact BK909.out) hb); have n1_ := Aside0.mk (below_step (by repeat (first | (with_reducible first | exact HB.out | apply pbA | apply pbN | apply pbD | refine pbS ?_ GE909.out) | exact HB.out)) hb); clear BK909; clear HB; have BK909 := n0_; have HB := n1_; clear n0_ n1_; (try clear hb); (try clear hb2); (try clear hk); (try clear hi)) | ((with_reducible refine gate_callee (f := 139) rfl ?_); refine goesL_ (some 23) rfl rfl Try.func139 (by kernel_rfl) rfl #[.string (((⟨#[0]⟩ : ByteArray) ++ t910) ++ t912)] rfl (by (try simp only [List.map_toArray, List.map_cons, List.map_nil]); first | done | rfl | (simp only [List.length_drop, List.length_take]; rfl)) ?_; (with_reducible refine (sha_Sum.calls (((⟨#[0]⟩ : ByteArray) ++ t910) ++ t912) t914 _ A6.out).mono ?_); rintro e w12 ⟨rfl, hb⟩; refine ⟨_, rfl, ?_⟩; have n0_ := Aside0.mk (blk_below (g := gb909) (o := .cells #[.string a0_0, .string a0_1] 86 (0, 0)) (by (with_reducible repeat (first | refine pkN ?_ _ | refine pkD ?_ | refine pkA ?_ _)); exact BK909.out) hb); have n1_ := Aside0.mk (below_step (by repeat (first | (with_reducible first | exact HB.out | apply pbA | apply pbN | apply pbD | refine pbS ?_ GE909.out) | exact HB.out)) hb); clear BK909; clear HB; have BK909 := n0_; have HB := n1_; clear n0_ n1_; (try clear hb); (try clear hb2); (try clear hk); (try clear hi)))
     go_ret
     exact ⟨by first | rfl | (simp [errW_none, errW_some] <;> rfl) | (simp [*, errW_none, errW_some] <;> rfl), by repeat (first | (with_reducible first | exact HB.out | apply pbA | apply pbN | apply pbD | refine pbS ?_ GE909.out) | exact HB.out)⟩
   · rw [if_neg c5] at H
     exact absurd H (by simp)
 · rw [if_neg c4] at H
   exact absurd H (by simp)
def merkle_Split.f (a0 : Int) : Option (Int) := if a0 < 2 then (some 0) else ((bits_Len.f (IntKind.u64.wrap (wrap64 (a0 - 1)))).bind fun t915 => (if 0 ≤ (wrap64 (t915 - 1)) then (some (shl .i64 1 (wrap64 (t915 - 1)))) else (none)))
set_option maxHeartbeats 8000000 in
set_option maxRecDepth 100000 in
theorem merkle_Split.calls (a0 : Int) (r : Int) (w : World) (h : merkle_Split.f a0 = some r) :
  Calls Try.prog 158 #[.int .i64 a0] w fun e w' => e = .returned (.int .i64 r) ∧ Drawn0 w w' := by
 have H : (if a0 < 2 then (some 0) else ((bits_Len.f (IntKind.u64.wrap (wrap64 (a0 - 1)))).bind fun t915 => (if 0 ≤ (wrap64 (t915 - 1)) then (some (shl .i64 1 (wrap64 (t915 - 1)))) else (none)))) = some r := h
 clear h
 by_cases c2 : a0 < 2
 · rw [if_pos c2] at H
   have c2b0 : decide (a0 < 2) = true := decide_eq_true c2
   clear c2
   obtain rfl := Option.some.inj H
   go_enter Try.func158, Try.ntmps158
   go_wp2
   go_ret
   exact ⟨by first | rfl | (simp; done) | (simp [*]; done), by repeat (first | exact Drawn0.refl _ | apply Drawn0.step)⟩
 · rw [if_neg c2] at H
   have c2b0 : decide (a0 < 2) = false := decide_eq_false c2
   clear c2
   replace H := Option.bind_eq_some_iff.mp H
   obtain ⟨t915, A30, H⟩ := H
   replace H : (if 0 ≤ (wrap64 (t915 - 1)) then (some (shl .i64 1 (wrap64 (t915 - 1)))) else (none)) = some r := H
   have A3 := Aside0.mk A30
   clear A30
   obtain ⟨ji4, hji4⟩ : ∃ j_ : Int, (wrap64 (t915 - 1)) = j_ := ⟨_, rfl⟩
   replace H : (if 0 ≤ (ji4) then (some (shl .i64 1 (ji4))) else (none)) = some r := by first | (rw [hji4] at H; exact H) | (simp only [hji4] at H ⊢; exact H)
   (try rw [hji4] at A3)
   have hji4w : (IntKind.i64.wrap (t915 - 1)) = ji4 := (i64_w _).trans hji4
   by_cases c5 : 0 ≤ (ji4)
   · rw [if_pos c5] at H
     have c5b0 := eq_true c5
     have c5b1 : decide (0 ≤ (ji4)) = true := decide_eq_true c5
     clear c5
     obtain ⟨ji6, hji6⟩ : ∃ j_ : Int, (shl .i64 1 (ji4)) = j_ := ⟨_, rfl⟩
     replace H : (some ji6) = some r := by first | (rw [hji6] at H; exact H) | (simp only [hji6] at H ⊢; exact H)
     (try rw [hji6] at A3)
     have hji6_ : (IntKind.i64.wrap (1 * 2 ^ min (ji4).toNat 64)) = ji6 := hji6
     have hji6z : (ji4) ≤ 64 → (IntKind.i64.wrap (1 * 2 ^ (ji4).toNat)) = ji6 := shl_small hji6
     have hji6u : (IntKind.i64.wrap (2 ^ min (ji4).toNat 64)) = ji6 := by have h_ := hji6_; rw [Int.one_mul] at h_; exact h_
     have hji6v : (ji4) ≤ 64 → (IntKind.i64.wrap (2 ^ (ji4).toNat)) = ji6 := fun hle_ => by have h_ := hji6z hle_; rw [Int.one_mul] at h_; exact h_
     have hji6y : (wrap64 (1 * 2 ^ min (ji4).toNat 64)) = ji6 := (i64_w _).symm.trans hji6_
     have hji6x : (ji4) ≤ 64 → (wrap64 (1 * 2 ^ (ji4).toNat)) = ji6 := fun h_ => (i64_w _).symm.trans (hji6z h_)
     obtain rfl := Option.some.inj H
     go_enter Try.func158, Try.ntmps158
     go_wp2_with (first | ((with_reducible refine gate_callee (f := 178) rfl ?_); refine goesL_ (some 8) rfl rfl Try.func178 (by kernel_rfl) rfl #[.int .u64 (IntKind.u64.wrap (wrap64 (a0 - 1)))] rfl (by (try simp only [List.map_toArray, List.map_cons, List.map_nil]); first | done | rfl | (simp only [List.length_drop, List.length_take]; rfl)) ?_; (with_reducible refine (bits_Len.calls (IntKind.u64.wrap (wrap64 (a0 - 1))) t915 _ A3.out).mono ?_); rintro e w' ⟨rfl, ⟨nd, rfl⟩⟩; refine ⟨_, rfl, ?_⟩))
     go_ret
     exact ⟨by first | rfl | (simp; done) | (simp only [← hji4, ← hji6] <;> (first | rfl | simp)) | (simp [*]; done), by repeat (first | exact Drawn0.refl _ | apply Drawn0.step)⟩
   · rw [if_neg c5] at H
     exact absurd H (by simp)
def merkle_Node.f (a0 : ByteArray) (a1 : ByteArray) : Option (ByteArray) := if 1 + a0.size ≤ 9223372036854775807 then (if ((⟨#[1]⟩ : ByteArray) ++ a0).size + a1.size ≤ 9223372036854775807 then ((sha_Sum.f (((⟨#[1]⟩ : ByteArray) ++ a0) ++ a1)).bind fun t916 => (some t916)) else (none)) else (none)
set_option maxHeartbeats 8000000 in
set_option maxRecDepth 100000 in
theorem merkle_Node.calls (a0 : ByteArray) (a1 : ByteArray) (r : ByteArray) (w : World) (h : merkle_Node.f a0 a1 = some r) :
  Calls Try.prog 133 #[.string a0, .string a1] w fun e w' => e = .returned (.string r) ∧ Below w.heap.size w w' := by
 have HB := Aside0.mk (Below.refl w.heap.size w)
 have H : (if 1 + a0.size ≤ 9223372036854775807 then (if ((⟨#[1]⟩ : ByteArray) ++ a0).size + a1.size ≤ 9223372036854775807 then ((sha_Sum.f (((⟨#[1]⟩ : ByteArray) ++ a0) ++ a1)).bind fun t916 => (some t916)) else (none)) else (none)) = some r := h
 clear h
 by_cases c3 : 1 + a0.size ≤ 9223372036854775807
 · rw [if_pos c3] at H
   have c3b0 := eq_true c3
   have c3b1 : decide (1 + a0.size ≤ 9223372036854775807) = true := decide_eq_true c3
   try have c3b2 : (9223372036854775807 < 1 + a0.size) = False := eq_false (Nat.not_lt.2 c3)
   by_cases c4 : ((⟨#[1]⟩ : ByteArray) ++ a0).size + a1.size ≤ 9223372036854775807
   · rw [if_pos c4] at H
     have c4b0 := eq_true c4
     have c4b1 : decide (((⟨#[1]⟩ : ByteArray) ++ a0).size + a1.size ≤ 9223372036854775807) = true := decide_eq_true c4
     try have c4b2 : (9223372036854775807 < ((⟨#[1]⟩ : ByteArray) ++ a0).size + a1.size) = False := eq_false (Nat.not_lt.2 c4)
     try (have c4b8 := c4b2; simp only [ByteArray.size_append] at c4b8)
     replace H := Option.bind_eq_some_iff.mp H
     obtain ⟨t916, A50, H⟩ := H
     replace H : (some t916) = some r := H
     have A5 := Aside0.mk A50
     clear A50
     obtain rfl := Option.some.inj H
     go_enter Try.func133, Try.ntmps133
     go_wp2_with (first | ((with_reducible refine gate_callee (f := 139) rfl ?_); refine goesL_ (some 9) rfl rfl Try.func139 (by kernel_rfl) rfl #[.string (((⟨#[1]⟩ : ByteArray) ++ a0) ++ a1)] rfl (by (try simp only [List.map_toArray, List.map_cons, List.map_nil]); first | done | rfl | (simp only [List.length_drop, List.length_take]; rfl)) ?_; (with_reducible refine (sha_Sum.calls (((⟨#[1]⟩ : ByteArray) ++ a0) ++ a1) t916 _ A5.out).mono ?_); rintro e w6 ⟨rfl, hb⟩; refine ⟨_, rfl, ?_⟩; have n0_ := Aside0.mk (below_step (by repeat (first | (with_reducible first | exact HB.out | apply pbA | apply pbN | apply pbD) | exact HB.out)) hb); clear HB; have HB := n0_; clear n0_; (try clear hb); (try clear hb2); (try clear hk); (try clear hi)))
     go_ret
     exact ⟨by first | rfl | (simp [errW_none, errW_some] <;> rfl) | (simp [*, errW_none, errW_some] <;> rfl), by repeat (first | (with_reducible first | exact HB.out | apply pbA | apply pbN | apply pbD) | exact HB.out)⟩
   · rw [if_neg c4] at H
     exact absurd H (by simp)
 · rw [if_neg c3] at H
   exact absurd H (by simp)
def merkle_Top.f (a0 : Int) (a1 : ByteArray) : Option (ByteArray) := (wire_Num.f a0).bind fun bt960 => (if 1 + bt960.1.size ≤ 9223372036854775807 then (if ((⟨#[2]⟩ : ByteArray) ++ bt960.1).size + a1.size ≤ 9223372036854775807 then ((sha_Sum.f (((⟨#[2]⟩ : ByteArray) ++ bt960.1) ++ a1)).bind fun t962 => (some t962)) else (none)) else (none))
set_option maxHeartbeats 8000000 in
set_option maxRecDepth 100000 in
theorem merkle_Top.calls (a0 : Int) (a1 : ByteArray) (r : ByteArray) (w : World) (h : merkle_Top.f a0 a1 = some r) :
  Calls Try.prog 129 #[.int .i64 a0, .string a1] w fun e w' => e = .returned (.string r) ∧ Below w.heap.size w w' := by
 have HB := Aside0.mk (Below.refl w.heap.size w)
 have H : ((wire_Num.f a0).bind fun bt960 => (if 1 + bt960.1.size ≤ 9223372036854775807 then (if ((⟨#[2]⟩ : ByteArray) ++ bt960.1).size + a1.size ≤ 9223372036854775807 then ((sha_Sum.f (((⟨#[2]⟩ : ByteArray) ++ bt960.1) ++ a1)).bind fun t962 => (some t962)) else (none)) else (none))) = some r := h
 clear h
 replace H := Option.bind_eq_some_iff.mp H
 obtain ⟨⟨t960, t961⟩, A30, H⟩ := H
 replace H : (if 1 + t960.size ≤ 9223372036854775807 then (if ((⟨#[2]⟩ : ByteArray) ++ t960).size + a1.size ≤ 9223372036854775807 then ((sha_Sum.f (((⟨#[2]⟩ : ByteArray) ++ t960) ++ a1)).bind fun t962 => (some t962)) else (none)) else (none)) = some r := H
 have A3 := Aside0.mk A30
 clear A30
 by_cases c4 : 1 + t960.size ≤ 9223372036854775807
 · rw [if_pos c4] at H
   have c4b0 := eq_true c4
   have c4b1 : decide (1 + t960.size ≤ 9223372036854775807) = true := decide_eq_true c4
   try have c4b2 : (9223372036854775807 < 1 + t960.size) = False := eq_false (Nat.not_lt.2 c4)
   by_cases c5 : ((⟨#[2]⟩ : ByteArray) ++ t960).size + a1.size ≤ 9223372036854775807
   · rw [if_pos c5] at H
     have c5b0 := eq_true c5
     have c5b1 : decide (((⟨#[2]⟩ : ByteArray) ++ t960).size + a1.size ≤ 9223372036854775807) = true := decide_eq_true c5
     try have c5b2 : (9223372036854775807 < ((⟨#[2]⟩ : ByteArray) ++ t960).size + a1.size) = False := eq_false (Nat.not_lt.2 c5)
     try (have c5b8 := c5b2; simp only [ByteArray.size_append] at c5b8)
     replace H := Option.bind_eq_some_iff.mp H
     obtain ⟨t962, A60, H⟩ := H
     replace H : (some t962) = some r := H
     have A6 := Aside0.mk A60
     clear A60
     obtain rfl := Option.some.inj H
     go_enter Try.func129, Try.ntmps129
     go_wp2_with (first | ((with_reducible refine gate_callee (f := 98) rfl ?_); refine goesL_ (some 9) rfl rfl Try.func98 (by kernel_rfl) rfl #[.int .i64 a0] rfl (by (try simp only [List.map_toArray, List.map_cons, List.map_nil]); first | done | rfl | (simp only [List.length_drop, List.length_take]; rfl)) ?_; (with_reducible refine (wire_Num.calls a0 t960 t961 _ A3.out).mono ?_); rintro e w7 ⟨rfl, hb⟩; refine ⟨_, rfl, ?_⟩; have n0_ := Aside0.mk (below_step (by repeat (first | (with_reducible first | exact HB.out | apply pbA | apply pbN | apply pbD) | exact HB.out)) hb); clear HB; have HB := n0_; clear n0_; (try clear hb); (try clear hb2); (try clear hk); (try clear hi)) | ((with_reducible refine gate_callee (f := 139) rfl ?_); refine goesL_ (some 16) rfl rfl Try.func139 (by kernel_rfl) rfl #[.string (((⟨#[2]⟩ : ByteArray) ++ t960) ++ a1)] rfl (by (try simp only [List.map_toArray, List.map_cons, List.map_nil]); first | done | rfl | (simp only [List.length_drop, List.length_take]; rfl)) ?_; (with_reducible refine (sha_Sum.calls (((⟨#[2]⟩ : ByteArray) ++ t960) ++ a1) t962 _ A6.out).mono ?_); rintro e w8 ⟨rfl, hb⟩; refine ⟨_, rfl, ?_⟩; have n0_ := Aside0.mk (below_step (by repeat (first | (with_reducible first | exact HB.out | apply pbA | apply pbN | apply pbD) | exact HB.out)) hb); clear HB; have HB := n0_; clear n0_; (try clear hb); (try clear hb2); (try clear hk); (try clear hi)))
     go_ret
     exact ⟨by first | rfl | (simp [errW_none, errW_some] <;> rfl) | (simp [*, errW_none, errW_some] <;> rfl), by repeat (first | (with_reducible first | exact HB.out | apply pbA | apply pbN | apply pbD) | exact HB.out)⟩
   · rw [if_neg c5] at H
     exact absurd H (by simp)
 · rw [if_neg c4] at H
   exact absurd H (by simp)
end Go.Proofs.Ytipgldfbjlhpoab.P
