import Derived.Test.YtipgldfbjlhpoabZeP0
import Derived.Test.YtipgldfbjlhpoabZeHBits
import Derived.Test.YtipgldfbjlhpoabZeHRSha
import Derived.Test.YtipgldfbjlhpoabZeHWire
import Derived.Test.YtipgldfbjlhpoabZePWire
-- Printed by wip/myprint.py.
namespace Go.Proofs.Ytipgldfbjlhpoab.P
open Go.RowKit Go.Proofs.YtipgldfbjlhpoabW.PrintWords Go.Proofs.YtipgldfbjlhpoabW.PrintLast Go.Proofs.YtipgldfbjlhpoabW.PrintMore
attribute [local go_sem] max2_int min2_int max_two min_two max_three min_three max_four min_four   -- for this text's walks alone
set_option linter.unusedVariables false
set_option linter.unusedSimpArgs false
def merkle_Leaf.f (a0_0 : ByteArray) (a0_1 : ByteArray) : Option (ByteArray) := (wire_Text.f a0_0).bind fun bt910 => ((wire_Text.f a0_1).bind fun bt912 => (if 1 + bt910.1.size ≤ 9223372036854775807 then (if ((⟨#[0]⟩ : ByteArray) ++ bt910.1).size + bt912.1.size ≤ 9223372036854775807 then ((sha_Sum.f (((⟨#[0]⟩ : ByteArray) ++ bt910.1) ++ bt912.1)).bind fun t914 => (some t914)) else (none)) else (none)))
set_option maxHeartbeats 8000000 in
set_option maxRecDepth 100000 in
theorem merkle_Leaf.calls (a0_0 : ByteArray) (a0_1 : ByteArray) (r : ByteArray) (w : World) (h : merkle_Leaf.f a0_0 a0_1 = some r) :
  Calls Try.prog 119 #[.agg #[.string a0_0, .string a0_1]] w fun e w' => e = .returned (.string r) ∧ Below w.heap.size w w' := by
 have hu86 := Try.underlying86; have HB := Aside0.mk (Below.refl w.heap.size w); have H : ((wire_Text.f a0_0).bind fun bt910 => ((wire_Text.f a0_1).bind fun bt912 => (if 1 + bt910.1.size ≤ 9223372036854775807 then (if ((⟨#[0]⟩ : ByteArray) ++ bt910.1).size + bt912.1.size ≤ 9223372036854775807 then ((sha_Sum.f (((⟨#[0]⟩ : ByteArray) ++ bt910.1) ++ bt912.1)).bind fun t914 => (some t914)) else (none)) else (none)))) = some r := h; clear h; replace H := Option.bind_eq_some_iff.mp H; obtain ⟨⟨t910, t911⟩, A20, H⟩ := H; replace H : ((wire_Text.f a0_1).bind fun bt912 => (if 1 + t910.size ≤ 9223372036854775807 then (if ((⟨#[0]⟩ : ByteArray) ++ t910).size + bt912.1.size ≤ 9223372036854775807 then ((sha_Sum.f (((⟨#[0]⟩ : ByteArray) ++ t910) ++ bt912.1)).bind fun t914 => (some t914)) else (none)) else (none))) = some r := H; have A2 := Aside0.mk A20; clear A20; replace H := Option.bind_eq_some_iff.mp H; obtain ⟨⟨t912, t913⟩, A30, H⟩ := H; replace H : (if 1 + t910.size ≤ 9223372036854775807 then (if ((⟨#[0]⟩ : ByteArray) ++ t910).size + t912.size ≤ 9223372036854775807 then ((sha_Sum.f (((⟨#[0]⟩ : ByteArray) ++ t910) ++ t912)).bind fun t914 => (some t914)) else (none)) else (none)) = some r := H; have A3 := Aside0.mk A30; clear A30
 by_cases c4 : 1 + t910.size ≤ 9223372036854775807
 · rw [if_pos c4] at H; have c4b0 := eq_true c4; have c4b1 : decide (1 + t910.size ≤ 9223372036854775807) = true := decide_eq_true c4; (try have c4b2 : (9223372036854775807 < 1 + t910.size) = False := eq_false (Nat.not_lt.2 c4))
   by_cases c5 : ((⟨#[0]⟩ : ByteArray) ++ t910).size + t912.size ≤ 9223372036854775807
   · rw [if_pos c5] at H; have c5b0 := eq_true c5; have c5b1 : decide (((⟨#[0]⟩ : ByteArray) ++ t910).size + t912.size ≤ 9223372036854775807) = true := decide_eq_true c5; (try have c5b2 : (9223372036854775807 < ((⟨#[0]⟩ : ByteArray) ++ t910).size + t912.size) = False := eq_false (Nat.not_lt.2 c5)); (try (have c5b8 := c5b2; simp only [ByteArray.size_append] at c5b8)); replace H := Option.bind_eq_some_iff.mp H; obtain ⟨t914, A60, H⟩ := H; replace H : (some t914) = some r := H; have A6 := Aside0.mk A60; clear A60; obtain rfl := Option.some.inj H
     go_enter Try.func119, Try.ntmps119
     go_wp2_with (first | ((with_reducible refine gate_dst (N := 1) rfl ?_); refine box_event ?hg (N := 1) ?hd (cs := #[.string a0_0, .string a0_1]) (t := 86) ?hr ?_; (case hd => rfl); (case hg => rfl); (case hr => first | (go_simp; done) | (go_simp; rfl)); intro gb909 hg w7 hbox hb; have n0_ := Aside0.mk (below_step (zh HB.out) hb); have n1_ := Aside0.mk (hbox); have n2_ := Aside0.mk ((by rw [hg]; exact (below_size (zh HB.out)) : w.heap.size ≤ gb909)); have n3_ := Aside0.mk ((by rw [hg]; exact (below_size (zh HB.out)) : w.heap.size ≤ gb909)); clear HB; have HB := n0_; have BK909 := n1_; have GW909 := n2_; have GE909 := n3_; clear n0_ n1_ n2_ n3_; clear hb hbox hg; obtain ⟨hcz8_0, hcz8_1⟩ := zw BK909.out; have hfz8_0 := pkF BK909.out 0; have hfz8_1 := pkF BK909.out 1) | ((with_reducible refine gate_callee (f := 67) rfl ?_); refine goesL_ (some 10) rfl rfl Try.func67 (by kernel_rfl) rfl #[.string a0_0] rfl (by (try simp only [List.map_toArray, List.map_cons, List.map_nil]); first | done | rfl | (simp only [List.length_drop, List.length_take]; rfl)) ?_; (with_reducible refine (wire_Text.calls a0_0 t910 t911 _ A2.out).mono ?_); rintro e w9 ⟨rfl, hb⟩; refine ⟨_, rfl, ?_⟩; have n0_ := Aside0.mk (blk_below (g := gb909) (o := .cells #[.string a0_0, .string a0_1] 86 (0, 0)) (zk BK909.out) hb); have n1_ := Aside0.mk (below_step (by repeat (first | (with_reducible first | exact HB.out | apply pbA | apply pbN | apply pbD | refine pbS ?_ GE909.out) | exact HB.out)) hb); clear BK909; clear HB; have BK909 := n0_; have HB := n1_; clear n0_ n1_; (try clear hb); (try clear hb2); (try clear hk); (try clear hi); obtain ⟨hcz10_0, hcz10_1⟩ := zw BK909.out; have hfz10_0 := pkF BK909.out 0; have hfz10_1 := pkF BK909.out 1) | ((with_reducible refine gate_callee (f := 67) rfl ?_); refine goesL_ (some 16) rfl rfl Try.func67 (by kernel_rfl) rfl #[.string a0_1] rfl (by (try simp only [List.map_toArray, List.map_cons, List.map_nil]); first | done | rfl | (simp only [List.length_drop, List.length_take]; rfl)) ?_; (with_reducible refine (wire_Text.calls a0_1 t912 t913 _ A3.out).mono ?_); rintro e w11 ⟨rfl, hb⟩; refine ⟨_, rfl, ?_⟩; have n0_ := Aside0.mk (blk_below (g := gb909) (o := .cells #[.string a0_0, .string a0_1] 86 (0, 0)) (zk BK909.out) hb); have n1_ := Aside0.mk (below_step (by repeat (first | (with_reducible first | exact HB.out | apply pbA | apply pbN | apply pbD | refine pbS ?_ GE909.out) | exact HB.out)) hb); clear BK909; clear HB; have BK909 := n0_; have HB := n1_; clear n0_ n1_; (try clear hb); (try clear hb2); (try clear hk); (try clear hi)) | ((with_reducible refine gate_callee (f := 139) rfl ?_); refine goesL_ (some 23) rfl rfl Try.func139 (by kernel_rfl) rfl #[.string (((⟨#[0]⟩ : ByteArray) ++ t910) ++ t912)] rfl (by (try simp only [List.map_toArray, List.map_cons, List.map_nil]); first | done | rfl | (simp only [List.length_drop, List.length_take]; rfl)) ?_; (with_reducible refine (sha_Sum.calls (((⟨#[0]⟩ : ByteArray) ++ t910) ++ t912) t914 _ A6.out).mono ?_); rintro e w12 ⟨rfl, hb⟩; refine ⟨_, rfl, ?_⟩; have n0_ := Aside0.mk (blk_below (g := gb909) (o := .cells #[.string a0_0, .string a0_1] 86 (0, 0)) (zk BK909.out) hb); have n1_ := Aside0.mk (below_step (by repeat (first | (with_reducible first | exact HB.out | apply pbA | apply pbN | apply pbD | refine pbS ?_ GE909.out) | exact HB.out)) hb); clear BK909; clear HB; have BK909 := n0_; have HB := n1_; clear n0_ n1_; (try clear hb); (try clear hb2); (try clear hk); (try clear hi)))
     go_ret; exact ⟨by first | rfl | (simp [errW_none, errW_some] <;> rfl) | (simp [*, errW_none, errW_some] <;> rfl), by repeat (first | (with_reducible first | exact HB.out | apply pbA | apply pbN | apply pbD | refine pbS ?_ GE909.out) | exact HB.out)⟩
   · rw [if_neg c5] at H; exact absurd H (by simp)
 · rw [if_neg c4] at H; exact absurd H (by simp)
def merkle_Split.f (a0 : Int) : Option (Int) := if a0 < 2 then (some 0) else ((bits_Len.f (IntKind.u64.wrap (wrap64 (a0 - 1)))).bind fun t915 => (if 0 ≤ (wrap64 (t915 - 1)) then (some (shl .i64 1 (wrap64 (t915 - 1)))) else (none)))
set_option maxHeartbeats 8000000 in
set_option maxRecDepth 100000 in
theorem merkle_Split.calls (a0 : Int) (r : Int) (w : World) (h : merkle_Split.f a0 = some r) :
  Calls Try.prog 158 #[.int .i64 a0] w fun e w' => e = .returned (.int .i64 r) ∧ Drawn0 w w' := by
 have H : (if a0 < 2 then (some 0) else ((bits_Len.f (IntKind.u64.wrap (wrap64 (a0 - 1)))).bind fun t915 => (if 0 ≤ (wrap64 (t915 - 1)) then (some (shl .i64 1 (wrap64 (t915 - 1)))) else (none)))) = some r := h; clear h
 by_cases c2 : a0 < 2
 · rw [if_pos c2] at H; have c2b0 : decide (a0 < 2) = true := decide_eq_true c2; clear c2; obtain rfl := Option.some.inj H
   go_enter Try.func158, Try.ntmps158
   go_wp2; go_ret; exact ⟨by first | rfl | (simp; done) | (simp [*]; done), by repeat (first | exact Drawn0.refl _ | apply Drawn0.step)⟩
 · rw [if_neg c2] at H; have c2b0 : decide (a0 < 2) = false := decide_eq_false c2; clear c2; replace H := Option.bind_eq_some_iff.mp H; obtain ⟨t915, A30, H⟩ := H; replace H : (if 0 ≤ (wrap64 (t915 - 1)) then (some (shl .i64 1 (wrap64 (t915 - 1)))) else (none)) = some r := H; have A3 := Aside0.mk A30; clear A30
   obtain ⟨ji4, hji4⟩ : ∃ j_ : Int, (wrap64 (t915 - 1)) = j_ := ⟨_, rfl⟩
   replace H : (if 0 ≤ (ji4) then (some (shl .i64 1 (ji4))) else (none)) = some r := by first | (rw [hji4] at H; exact H) | (simp only [hji4] at H ⊢; exact H)
   (try rw [hji4] at A3); have hji4w : (IntKind.i64.wrap (t915 - 1)) = ji4 := (i64_w _).trans hji4
   by_cases c5 : 0 ≤ (ji4)
   · rw [if_pos c5] at H; have c5b0 := eq_true c5; have c5b1 : decide (0 ≤ (ji4)) = true := decide_eq_true c5; clear c5
     obtain ⟨ji6, hji6⟩ : ∃ j_ : Int, (shl .i64 1 (ji4)) = j_ := ⟨_, rfl⟩
     replace H : (some ji6) = some r := by first | (rw [hji6] at H; exact H) | (simp only [hji6] at H ⊢; exact H)
     (try rw [hji6] at A3); have hji6_ : (IntKind.i64.wrap (1 * 2 ^ min (ji4).toNat 64)) = ji6 := hji6; have hji6z : (ji4) ≤ 64 → (IntKind.i64.wrap (1 * 2 ^ (ji4).toNat)) = ji6 := shl_small hji6
     have hji6u : (IntKind.i64.wrap (2 ^ min (ji4).toNat 64)) = ji6 := by have h_ := hji6_; rw [Int.one_mul] at h_; exact h_
     have hji6v : (ji4) ≤ 64 → (IntKind.i64.wrap (2 ^ (ji4).toNat)) = ji6 := fun hle_ => by have h_ := hji6z hle_; rw [Int.one_mul] at h_; exact h_
     have hji6y : (wrap64 (1 * 2 ^ min (ji4).toNat 64)) = ji6 := (i64_w _).symm.trans hji6_
     have hji6x : (ji4) ≤ 64 → (wrap64 (1 * 2 ^ (ji4).toNat)) = ji6 := fun h_ => (i64_w _).symm.trans (hji6z h_)
     obtain rfl := Option.some.inj H
     go_enter Try.func158, Try.ntmps158
     go_wp2_with (first | ((with_reducible refine gate_callee (f := 178) rfl ?_); refine goesL_ (some 8) rfl rfl Try.func178 (by kernel_rfl) rfl #[.int .u64 (IntKind.u64.wrap (wrap64 (a0 - 1)))] rfl (by (try simp only [List.map_toArray, List.map_cons, List.map_nil]); first | done | rfl | (simp only [List.length_drop, List.length_take]; rfl)) ?_; (with_reducible refine (bits_Len.calls (IntKind.u64.wrap (wrap64 (a0 - 1))) t915 _ A3.out).mono ?_); rintro e w' ⟨rfl, ⟨nd, rfl⟩⟩; refine ⟨_, rfl, ?_⟩))
     go_ret; exact ⟨by first | rfl | (simp; done) | (simp only [← hji4, ← hji6] <;> (first | rfl | simp)) | (simp [*]; done), by repeat (first | exact Drawn0.refl _ | apply Drawn0.step)⟩
   · rw [if_neg c5] at H; exact absurd H (by simp)
def merkle_Node.f (a0 : ByteArray) (a1 : ByteArray) : Option (ByteArray) := if 1 + a0.size ≤ 9223372036854775807 then (if ((⟨#[1]⟩ : ByteArray) ++ a0).size + a1.size ≤ 9223372036854775807 then ((sha_Sum.f (((⟨#[1]⟩ : ByteArray) ++ a0) ++ a1)).bind fun t916 => (some t916)) else (none)) else (none)
set_option maxHeartbeats 8000000 in
set_option maxRecDepth 100000 in
theorem merkle_Node.calls (a0 : ByteArray) (a1 : ByteArray) (r : ByteArray) (w : World) (h : merkle_Node.f a0 a1 = some r) :
  Calls Try.prog 133 #[.string a0, .string a1] w fun e w' => e = .returned (.string r) ∧ Below w.heap.size w w' := by
 have HB := Aside0.mk (Below.refl w.heap.size w); have H : (if 1 + a0.size ≤ 9223372036854775807 then (if ((⟨#[1]⟩ : ByteArray) ++ a0).size + a1.size ≤ 9223372036854775807 then ((sha_Sum.f (((⟨#[1]⟩ : ByteArray) ++ a0) ++ a1)).bind fun t916 => (some t916)) else (none)) else (none)) = some r := h; clear h
 by_cases c3 : 1 + a0.size ≤ 9223372036854775807
 · rw [if_pos c3] at H; have c3b0 := eq_true c3; have c3b1 : decide (1 + a0.size ≤ 9223372036854775807) = true := decide_eq_true c3; (try have c3b2 : (9223372036854775807 < 1 + a0.size) = False := eq_false (Nat.not_lt.2 c3))
   by_cases c4 : ((⟨#[1]⟩ : ByteArray) ++ a0).size + a1.size ≤ 9223372036854775807
   · rw [if_pos c4] at H; have c4b0 := eq_true c4; have c4b1 : decide (((⟨#[1]⟩ : ByteArray) ++ a0).size + a1.size ≤ 9223372036854775807) = true := decide_eq_true c4; (try have c4b2 : (9223372036854775807 < ((⟨#[1]⟩ : ByteArray) ++ a0).size + a1.size) = False := eq_false (Nat.not_lt.2 c4)); (try (have c4b8 := c4b2; simp only [ByteArray.size_append] at c4b8)); replace H := Option.bind_eq_some_iff.mp H; obtain ⟨t916, A50, H⟩ := H; replace H : (some t916) = some r := H; have A5 := Aside0.mk A50; clear A50; obtain rfl := Option.some.inj H
     go_enter Try.func133, Try.ntmps133
     go_wp2_with (first | ((with_reducible refine gate_callee (f := 139) rfl ?_); refine goesL_ (some 9) rfl rfl Try.func139 (by kernel_rfl) rfl #[.string (((⟨#[1]⟩ : ByteArray) ++ a0) ++ a1)] rfl (by (try simp only [List.map_toArray, List.map_cons, List.map_nil]); first | done | rfl | (simp only [List.length_drop, List.length_take]; rfl)) ?_; (with_reducible refine (sha_Sum.calls (((⟨#[1]⟩ : ByteArray) ++ a0) ++ a1) t916 _ A5.out).mono ?_); rintro e w6 ⟨rfl, hb⟩; refine ⟨_, rfl, ?_⟩; have n0_ := Aside0.mk (below_step (zh HB.out) hb); clear HB; have HB := n0_; clear n0_; (try clear hb); (try clear hb2); (try clear hk); (try clear hi)))
     go_ret; exact ⟨by first | rfl | (simp [errW_none, errW_some] <;> rfl) | (simp [*, errW_none, errW_some] <;> rfl), zh HB.out⟩
   · rw [if_neg c4] at H; exact absurd H (by simp)
 · rw [if_neg c3] at H; exact absurd H (by simp)
def merkle_Top.f (a0 : Int) (a1 : ByteArray) : Option (ByteArray) := (wire_Num.f a0).bind fun bt960 => (if 1 + bt960.1.size ≤ 9223372036854775807 then (if ((⟨#[2]⟩ : ByteArray) ++ bt960.1).size + a1.size ≤ 9223372036854775807 then ((sha_Sum.f (((⟨#[2]⟩ : ByteArray) ++ bt960.1) ++ a1)).bind fun t962 => (some t962)) else (none)) else (none))
set_option maxHeartbeats 8000000 in
set_option maxRecDepth 100000 in
theorem merkle_Top.calls (a0 : Int) (a1 : ByteArray) (r : ByteArray) (w : World) (h : merkle_Top.f a0 a1 = some r) :
  Calls Try.prog 129 #[.int .i64 a0, .string a1] w fun e w' => e = .returned (.string r) ∧ Below w.heap.size w w' := by
 have HB := Aside0.mk (Below.refl w.heap.size w); have H : ((wire_Num.f a0).bind fun bt960 => (if 1 + bt960.1.size ≤ 9223372036854775807 then (if ((⟨#[2]⟩ : ByteArray) ++ bt960.1).size + a1.size ≤ 9223372036854775807 then ((sha_Sum.f (((⟨#[2]⟩ : ByteArray) ++ bt960.1) ++ a1)).bind fun t962 => (some t962)) else (none)) else (none))) = some r := h; clear h; replace H := Option.bind_eq_some_iff.mp H; obtain ⟨⟨t960, t961⟩, A30, H⟩ := H; replace H : (if 1 + t960.size ≤ 9223372036854775807 then (if ((⟨#[2]⟩ : ByteArray) ++ t960).size + a1.size ≤ 9223372036854775807 then ((sha_Sum.f (((⟨#[2]⟩ : ByteArray) ++ t960) ++ a1)).bind fun t962 => (some t962)) else (none)) else (none)) = some r := H; have A3 := Aside0.mk A30; clear A30
 by_cases c4 : 1 + t960.size ≤ 9223372036854775807
 · rw [if_pos c4] at H; have c4b0 := eq_true c4; have c4b1 : decide (1 + t960.size ≤ 9223372036854775807) = true := decide_eq_true c4; (try have c4b2 : (9223372036854775807 < 1 + t960.size) = False := eq_false (Nat.not_lt.2 c4))
   by_cases c5 : ((⟨#[2]⟩ : ByteArray) ++ t960).size + a1.size ≤ 9223372036854775807
   · rw [if_pos c5] at H; have c5b0 := eq_true c5; have c5b1 : decide (((⟨#[2]⟩ : ByteArray) ++ t960).size + a1.size ≤ 9223372036854775807) = true := decide_eq_true c5; (try have c5b2 : (9223372036854775807 < ((⟨#[2]⟩ : ByteArray) ++ t960).size + a1.size) = False := eq_false (Nat.not_lt.2 c5)); (try (have c5b8 := c5b2; simp only [ByteArray.size_append] at c5b8)); replace H := Option.bind_eq_some_iff.mp H; obtain ⟨t962, A60, H⟩ := H; replace H : (some t962) = some r := H; have A6 := Aside0.mk A60; clear A60; obtain rfl := Option.some.inj H
     go_enter Try.func129, Try.ntmps129
     go_wp2_with (first | ((with_reducible refine gate_callee (f := 98) rfl ?_); refine goesL_ (some 9) rfl rfl Try.func98 (by kernel_rfl) rfl #[.int .i64 a0] rfl (by (try simp only [List.map_toArray, List.map_cons, List.map_nil]); first | done | rfl | (simp only [List.length_drop, List.length_take]; rfl)) ?_; (with_reducible refine (wire_Num.calls a0 t960 t961 _ A3.out).mono ?_); rintro e w7 ⟨rfl, hb⟩; refine ⟨_, rfl, ?_⟩; have n0_ := Aside0.mk (below_step (zh HB.out) hb); clear HB; have HB := n0_; clear n0_; (try clear hb); (try clear hb2); (try clear hk); (try clear hi)) | ((with_reducible refine gate_callee (f := 139) rfl ?_); refine goesL_ (some 16) rfl rfl Try.func139 (by kernel_rfl) rfl #[.string (((⟨#[2]⟩ : ByteArray) ++ t960) ++ a1)] rfl (by (try simp only [List.map_toArray, List.map_cons, List.map_nil]); first | done | rfl | (simp only [List.length_drop, List.length_take]; rfl)) ?_; (with_reducible refine (sha_Sum.calls (((⟨#[2]⟩ : ByteArray) ++ t960) ++ a1) t962 _ A6.out).mono ?_); rintro e w8 ⟨rfl, hb⟩; refine ⟨_, rfl, ?_⟩; have n0_ := Aside0.mk (below_step (zh HB.out) hb); clear HB; have HB := n0_; clear n0_; (try clear hb); (try clear hb2); (try clear hk); (try clear hi)))
     go_ret; exact ⟨by first | rfl | (simp [errW_none, errW_some] <;> rfl) | (simp [*, errW_none, errW_some] <;> rfl), zh HB.out⟩
   · rw [if_neg c5] at H; exact absurd H (by simp)
 · rw [if_neg c4] at H; exact absurd H (by simp)
end Go.Proofs.Ytipgldfbjlhpoab.P
namespace Go.Proofs.Ytipgldfbjlhpoab.P
set_option linter.unusedVariables false
set_option linter.unusedSimpArgs false
open Go.RowKit Go.Proofs.YtipgldfbjlhpoabW.PrintWords Go.Proofs.YtipgldfbjlhpoabW.PrintLast Go.Proofs.YtipgldfbjlhpoabW.PrintMore
set_option maxRecDepth 100000
def merkle_fold.f : Nat → List S86 → Option ByteArray
 | 0, _ => none
 | k + 1, l => if l.length = 1 then merkle_Leaf.f (rd_T86 l 0).f0 (rd_T86 l 0).f1 else
   (merkle_Split.f (l.length : Int)).bind fun s => if 0 < s then (if s < (l.length : Int) then
    ((merkle_fold.f k (l.take s.toNat)).bind fun a => (merkle_fold.f k (l.drop s.toNat)).bind fun b => merkle_Node.f a b) else none) else none
set_option maxHeartbeats 2000000 in
theorem merkle_fold.calls : ∀ (k : Nat) (A : Option Addr) (c : Nat) (l : List S86) (r : ByteArray) (w : World) (hC : Kd.C k86 w A l.length l) (hc : l.length ≤ c) (h : merkle_fold.f k l = some r),
  Calls Try.prog 132 #[.slice A l.length c, .func (.func 119) #[] #[], .func (.func 133) #[] #[]] w fun e w' => e = .returned (.string r) ∧ Below w.heap.size w w' := by
 intro k
 induction k with
 | zero => intro A c l r w hC hc h; simp [merkle_fold.f] at h
 | succ k ih =>
  intro A c l r w hC hc h; rw [merkle_fold.f] at h
  by_cases h1 : l.length = 1
  · rw [if_pos h1] at h
    have h1i : (l.length : Int) = 1 := by omega
    obtain ⟨ad, rfl, c0, c1⟩ := at_T86 hC 0 (by omega) (by omega)
    have e0 : ad.add ((0 : Int).toNat * 2) = ad := by
     cases ad with
     | mk b o s => cases s <;> simp [Addr.add]
    rw [e0] at c0 c1
    have hlt : (0 : Int) < (l.length : Int) := by omega
    go_enter Try.func132, Try.ntmps132
    go_wp2_with fail
    refine (merkle_Leaf.calls _ _ r _ h).mono ?_; rintro e w1 ⟨rfl, hb⟩
    go_wp2_with fail
    go_ret; exact ⟨rfl, hb⟩
  · rw [if_neg h1] at h
    have h1i : ¬ (l.length : Int) = 1 := by omega
    obtain ⟨s, hs, h⟩ := Option.bind_eq_some_iff.mp h
    split at h
    · rename_i p0
      split at h
      · rename_i p1
        obtain ⟨a, ha, h⟩ := Option.bind_eq_some_iff.mp h; obtain ⟨b, hb, h⟩ := Option.bind_eq_some_iff.mp h; obtain ⟨i0, hi0, _, hsz, _⟩ := info_parts info86; have ht := cut_to (P := Try.prog) 39 86 .i64 Try.underlying39 hi0 A l.length c s (by omega) (by omega) hc; have hf := cut_from (P := Try.prog) 39 86 .i64 Try.underlying39 hi0 2 hsz A l.length c s (by omega) (by omega)
        have lt : (l.take s.toNat).length = s.toNat := by rw [List.length_take]; omega
        have ld : (l.drop s.toNat).length = l.length - s.toNat := by rw [List.length_drop]
        have hfa : ∀ W, Kd.C k86 W A l.length l → Calls Try.prog 132 #[.slice A s.toNat c, .func (.func 119) #[] #[], .func (.func 133) #[] #[]] W fun e w' => e = .returned (.string a) ∧ Below W.heap.size W w' := by
         intro W hW; have := ih A c (l.take s.toNat) a W (Kd.C_take hW (by omega)) (by omega) ha
         rwa [lt] at this
        have hfb : ∀ W, Kd.C k86 W A l.length l → Calls Try.prog 132 #[.slice (if c = s.toNat then A else A.map (·.add (s.toNat * 2))) (l.length - s.toNat) (c - s.toNat), .func (.func 119) #[] #[], .func (.func 133) #[] #[]] W fun e w' => e = .returned (.string b) ∧ Below W.heap.size W w' := by
         intro W hW; have := ih _ (c - s.toNat) (l.drop s.toNat) b W (Kd.C_drop hW (by omega) hc) (by omega) hb
         rwa [ld] at this
        have hno : ∀ W, Calls Try.prog 133 #[.string a, .string b] W fun e w' => e = .returned (.string r) ∧ Below W.heap.size W w' := fun W => merkle_Node.calls a b r W h
        clear ih ha hb h lt ld
        obtain ⟨A2, hA2⟩ : ∃ A2, A2 = (if c = s.toNat then A else A.map (·.add (s.toNat * 2))) := ⟨_, rfl⟩
        obtain ⟨n2, hn2⟩ : ∃ n2, n2 = l.length - s.toNat := ⟨_, rfl⟩
        obtain ⟨c2, hc2⟩ : ∃ c2, c2 = c - s.toNat := ⟨_, rfl⟩
        obtain ⟨n1, hn1⟩ : ∃ n1, n1 = s.toNat := ⟨_, rfl⟩
        rw [← hA2, ← hn2, ← hc2] at hf hfb; rw [← hn1] at ht hfa; clear hA2 hn2 hc2 hn1
        go_enter Try.func132, Try.ntmps132
        go_wp2_with fail
        refine (merkle_Split.calls _ s _ hs).mono ?_; rintro e w1 ⟨rfl, nd, rfl⟩; have hC0 : Kd.C k86 (w.drewN nd) A l.length l := Kd.C_drewN hC nd; have hB0 : Below w.heap.size w (w.drewN nd) := pbN (Below.refl _ _) nd; clear hC hs
        generalize w.drewN nd = w1 at *
        have hC1 : Kd.C k86 w1.drew A l.length l := Kd.C_drew hC0; have hB1 : Below w.heap.size w w1.drew := below_drew hB0; clear hC0 hB0
        go_upto_region 4 with fail
        go_region_with (first
         | (go_at_call 132; refine (hfa _ hC1).mono ?_; rintro e w2 ⟨rfl, hb2⟩; have hC2 := Kd.C_below hC1 hb2; have hB2 := hB1.trans (hb2.mono hB1.size); clear hfa hb2 hC1 hB1)
         | (go_at_call 132; refine (hfb _ hC2).mono ?_; rintro e w3 ⟨rfl, hb3⟩; have hB3 := hB2.trans (hb3.mono hB2.size); clear hfb hb3 hC2 hB2)
         | (go_at_call 133; refine (hno _).mono ?_; rintro e w4 ⟨rfl, hb4⟩; have hB4 := hB3.trans (hb4.mono hB3.size); clear hb4 hB3))
        all_goals go_wp2_with fail
        all_goals go_ret
        all_goals exact ⟨rfl, hB4⟩
      · cases h
    · cases h
def merkle_Root.f (l : List S86) : Option ByteArray :=
 if l.length = 0 then merkle_Top.f 0 ⟨#[]⟩ else (merkle_fold.f l.length l).bind fun t => merkle_Top.f (l.length : Int) t
theorem merkle_Root.calls (A : Option Addr) (c : Nat) (l : List S86) (r : ByteArray) (w : World) (hC : Kd.C k86 w A l.length l) (hc : l.length ≤ c) (h : merkle_Root.f l = some r) :
  Calls Try.prog 62 #[.slice A l.length c] w fun e w' => e = .returned (.string r) ∧ Below w.heap.size w w' := by
 unfold merkle_Root.f at h
 by_cases h0 : l.length = 0
 · rw [if_pos h0] at h
   have h0i : (l.length : Int) = 0 := by omega
   go_enter Try.func62, Try.ntmps62
   go_wp2_with fail
   refine (merkle_Top.calls _ _ r _ h).mono ?_; rintro e w1 ⟨rfl, hb⟩
   go_wp2_with fail
   go_ret; exact ⟨rfl, hb⟩
 · rw [if_neg h0] at h
   have h0i : ¬ (l.length : Int) = 0 := by omega
   obtain ⟨t, ht, h⟩ := Option.bind_eq_some_iff.mp h; have hfold := merkle_fold.calls l.length A c l t w hC hc ht
   have htop := fun W => merkle_Top.calls (l.length : Int) t r W h
   clear hC ht h
   go_enter Try.func62, Try.ntmps62
   go_wp2_with fail
   refine hfold.mono ?_; rintro e w1 ⟨rfl, hb⟩
   go_wp2_with fail
   refine (htop _).mono ?_; rintro e w2 ⟨rfl, hb2⟩
   go_wp2_with fail
   go_ret; exact ⟨rfl, hb.trans (hb2.mono hb.size)⟩
end Go.Proofs.Ytipgldfbjlhpoab.P
