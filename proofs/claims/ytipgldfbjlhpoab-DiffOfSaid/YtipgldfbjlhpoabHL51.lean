/- The examples at the head of layer 51's statements ('awake') come out true. -/
import Derived.Test.YtipgldfbjlhpoabHDPut
import Derived.Test.YtipgldfbjlhpoabHDOf
import Derived.Test.YtipgldfbjlhpoabHDApply
import Derived.Test.YtipgldfbjlhpoabPDiff
import Derived.Test.YtipgldfbjlhpoabPR51S
import Derived.Test.YtipgldfbjlhpoabPR09S
import Derived.Deep.DrawnRows
import Derived.Deep.RegionHeld3
namespace Go.Proofs.Ytipgldfbjlhpoab.Diff
set_option linter.unusedVariables false
set_option linter.unusedSimpArgs false
open Go.RowKit Go.Proofs.Ytipgldfbjlhpoab.P Go.Proofs.Ytipgldfbjlhpoab.Sha Go.Proofs.YtipgldfbjlhpoabW.PrintWords Go.Proofs.YtipgldfbjlhpoabW.PrintLast Go.Proofs.YtipgldfbjlhpoabW.PrintMore
set_option maxRecDepth 100000
def pA1 : S86 := ⟨⟨#[97]⟩, ⟨#[49]⟩⟩
def pB2 : S86 := ⟨⟨#[98]⟩, ⟨#[50]⟩⟩
def pB3 : S86 := ⟨⟨#[98]⟩, ⟨#[51]⟩⟩
def pB0 : S86 := ⟨⟨#[98]⟩, ⟨#[]⟩⟩
def pA0 : S86 := ⟨⟨#[97]⟩, ⟨#[]⟩⟩
def cA : S62 := ⟨⟨#[97]⟩, ⟨#[]⟩, true⟩
def cB : S62 := ⟨⟨#[98]⟩, ⟨#[51]⟩, false⟩
def s51 : ByteArray := ⟨#[1, 2, 1, 1, 97, 1, 1, 1, 1, 98, 0, 1, 1, 51]⟩
theorem lessAB : Op.bytesLess (⟨#[97]⟩ : ByteArray).toList (⟨#[98]⟩ : ByteArray).toList = true := by decide +kernel
theorem lessBA : Op.bytesLess (⟨#[98]⟩ : ByteArray).toList (⟨#[97]⟩ : ByteArray).toList = false := by decide +kernel
theorem lessBB : Op.bytesLess (⟨#[98]⟩ : ByteArray).toList (⟨#[98]⟩ : ByteArray).toList = false := by decide +kernel
theorem ofA : diff_Of.f [pA1, pB2] [pB3] = some ([cA, cB], 0) := by
  unfold diff_Of.f
  rw [if_pos (by decide), if_pos (by decide +kernel), if_pos (by decide +kernel)]
  have h : ofM [pA1, pB2] [pB3] = [cA, cB] := by
    rw [ofM, if_pos (by decide +kernel), ofM, if_neg (by decide +kernel), if_neg (by decide +kernel), if_neg (by decide +kernel), ofM]
    rfl
  rw [h]
theorem ofB : diff_Of.f [pB0, pA0] [] = some ([], 6) := by
  unfold diff_Of.f
  rw [if_pos (by decide), if_neg (by decide +kernel)]
theorem apA : diff_Apply.f [pA1, pB2] [cA, cB] = some ([pB3], 0) := by
  unfold diff_Apply.f
  rw [if_pos (by decide), if_pos (by decide +kernel), if_pos (by decide +kernel)]
  have h : apM [pA1, pB2] [cA, cB] = [pB3] := by
    rw [apM, if_neg (by decide +kernel), if_neg (by decide +kernel), apM, if_neg (by decide +kernel), if_neg (by decide +kernel), apM]
    rfl
  have h2 : apE 0 [pA1, pB2] [cA, cB] = 0 := by
    rw [apE, if_neg (by decide +kernel), if_neg (by decide +kernel), apE, if_neg (by decide +kernel), if_neg (by decide +kernel), apE]
  rw [h2, if_pos rfl, h]
theorem apB : diff_Apply.f [pB3] [cA, cB] = some ([], 8) := by
  unfold diff_Apply.f
  rw [if_pos (by decide), if_pos (by decide +kernel), if_pos (by decide +kernel)]
  have h2 : apE 0 [pB3] [cA, cB] = 8 := by
    rw [apE, if_neg (by decide +kernel), if_pos (by decide +kernel), show (if cA.f2 = true then (8 : Int) else 0) = 8 from rfl, apE, if_neg (by decide +kernel), if_neg (by decide +kernel), apE]
  rw [h2, if_neg (by decide)]
theorem putA : diff_Put.f [cA, cB] = some (s51, 0) := by decide +kernel
theorem readA : diff_Read.f 400 s51 = some ([cA, cB], 0) := by kernel_rfl
theorem sameC : footbridgeref51_Same.f 5 [cA, cB] [cA, cB] = some true := by decide +kernel
theorem sameP : footbridgeref09_Same.f 5 [pB3] [pB3] = some true := by decide +kernel
theorem pairs1 {W : World} {b : Nat} {p : S86} (h0 : W.cell? ⟨b, 0, none⟩ = some (.string p.f0)) (h1 : W.cell? ⟨b, 1, none⟩ = some (.string p.f1)) : Kd.C k86 W (some ⟨b, 0, none⟩) 1 [p] := by
  refine ⟨rfl, by decide, fun _ => ⟨_, rfl, fun j q hj => ?_⟩⟩
  have hj1 : j < 1 := (List.getElem?_eq_some_iff.mp hj).1
  obtain rfl : j = 0 := by omega
  obtain rfl : p = q := Option.some.inj hj
  refine ⟨_, rfl, k86_mk W p, fun i u hi => ?_⟩
  match i, hi with
  | 0, hi => obtain rfl := Option.some.inj hi; exact h0
  | 1, hi => obtain rfl := Option.some.inj hi; exact h1
  | i + 2, hi => simp at hi
theorem pairs2 {W : World} {b : Nat} {p q : S86} (h0 : W.cell? ⟨b, 0, none⟩ = some (.string p.f0)) (h1 : W.cell? ⟨b, 1, none⟩ = some (.string p.f1)) (h2 : W.cell? ⟨b, 2, none⟩ = some (.string q.f0)) (h3 : W.cell? ⟨b, 3, none⟩ = some (.string q.f1)) : Kd.C k86 W (some ⟨b, 0, none⟩) 2 [p, q] := by
  refine ⟨rfl, by decide, fun _ => ⟨_, rfl, fun j r hj => ?_⟩⟩
  have hj2 : j < 2 := (List.getElem?_eq_some_iff.mp hj).1
  rcases (show j = 0 ∨ j = 1 by omega) with rfl | rfl
  · obtain rfl : p = r := Option.some.inj hj
    refine ⟨_, rfl, k86_mk W p, fun i u hi => ?_⟩
    match i, hi with
    | 0, hi => obtain rfl := Option.some.inj hi; exact h0
    | 1, hi => obtain rfl := Option.some.inj hi; exact h1
    | i + 2, hi => simp at hi
  · obtain rfl : q = r := Option.some.inj hj
    refine ⟨_, rfl, k86_mk W q, fun i u hi => ?_⟩
    match i, hi with
    | 0, hi => obtain rfl := Option.some.inj hi; exact h2
    | 1, hi => obtain rfl := Option.some.inj hi; exact h3
    | i + 2, hi => simp at hi
theorem changes2 {W : World} {b : Nat} {p q : S62} (h0 : W.cell? ⟨b, 0, none⟩ = some (.string p.f0)) (h1 : W.cell? ⟨b, 1, none⟩ = some (.string p.f1)) (h2 : W.cell? ⟨b, 2, none⟩ = some (.bool p.f2)) (h3 : W.cell? ⟨b, 3, none⟩ = some (.string q.f0)) (h4 : W.cell? ⟨b, 4, none⟩ = some (.string q.f1)) (h5 : W.cell? ⟨b, 5, none⟩ = some (.bool q.f2)) : Kd.C k62 W (some ⟨b, 0, none⟩) 2 [p, q] := by
  refine ⟨rfl, by decide, fun _ => ⟨_, rfl, fun j r hj => ?_⟩⟩
  have hj2 : j < 2 := (List.getElem?_eq_some_iff.mp hj).1
  rcases (show j = 0 ∨ j = 1 by omega) with rfl | rfl
  · obtain rfl : p = r := Option.some.inj hj
    refine ⟨_, rfl, k62_mk W p, fun i u hi => ?_⟩
    match i, hi with
    | 0, hi => obtain rfl := Option.some.inj hi; exact h0
    | 1, hi => obtain rfl := Option.some.inj hi; exact h1
    | 2, hi => obtain rfl := Option.some.inj hi; exact h2
    | i + 3, hi => simp at hi
  · obtain rfl : q = r := Option.some.inj hj
    refine ⟨_, rfl, k62_mk W q, fun i u hi => ?_⟩
    match i, hi with
    | 0, hi => obtain rfl := Option.some.inj hi; exact h3
    | 1, hi => obtain rfl := Option.some.inj hi; exact h4
    | 2, hi => obtain rfl := Option.some.inj hi; exact h5
    | i + 3, hi => simp at hi
/-- The two lists, and what came of the calls. -/
structure M51 (w W : World) (A B : Option Addr) : Prop where
  hA : Kd.C k86 W A 2 [pA1, pB2]
  hB : Kd.C k86 W B 1 [pB3]
  below : Below w.heap.size w W
theorem M51.under {w W W' : World} {A B : Option Addr} (h : M51 w W A B) (hb : Below W.heap.size W W') : M51 w W' A B :=
  ⟨Kd.C_below h.hA hb, Kd.C_below h.hB hb, h.below.trans (hb.mono h.below.size)⟩
theorem M51.drew {w W : World} {A B : Option Addr} (h : M51 w W A B) : M51 w W.drew A B := ⟨Kd.C_drew h.hA, Kd.C_drew h.hB, below_drew h.below⟩
structure C51 (W : World) (A : Option Addr) (c : Nat) : Prop where
  hC : Kd.C k62 W A 2 [cA, cB]
  le : 2 ≤ c
theorem C51.under {W W' : World} {A : Option Addr} {c : Nat} (h : C51 W A c) (hb : Below W.heap.size W W') : C51 W' A c := ⟨Kd.C_below h.hC hb, h.le⟩
structure P51 (W : World) (A : Option Addr) (c : Nat) : Prop where
  hC : Kd.C k86 W A 1 [pB3]
  le : 1 ≤ c
theorem P51.under {W W' : World} {A : Option Addr} {c : Nat} (h : P51 W A c) (hb : Below W.heap.size W W') : P51 W' A c := ⟨Kd.C_below h.hC hb, h.le⟩
structure All51 (w W : World) (A3 : Option Addr) (c3 : Nat) (A5 : Option Addr) (c5 : Nat) (A9 : Option Addr) (c9 : Nat) (B : Option Addr) : Prop where
  h3 : C51 W A3 c3
  h5 : P51 W A5 c5
  h9 : C51 W A9 c9
  hB : P51 W B 1
  below : Below w.heap.size w W
theorem All51.under {w W W' : World} {A3 : Option Addr} {c3 : Nat} {A5 : Option Addr} {c5 : Nat} {A9 : Option Addr} {c9 : Nat} {B : Option Addr} (h : All51 w W A3 c3 A5 c5 A9 c9 B) (hb : Below W.heap.size W W') : All51 w W' A3 c3 A5 c5 A9 c9 B :=
  ⟨h.h3.under hb, h.h5.under hb, h.h9.under hb, h.hB.under hb, h.below.trans (hb.mono h.below.size)⟩
theorem All51.alloc {w W : World} {A3 : Option Addr} {c3 : Nat} {A5 : Option Addr} {c5 : Nat} {A9 : Option Addr} {c9 : Nat} {B : Option Addr} (h : All51 w W A3 c3 A5 c5 A9 c9 B) (o : Obj) : All51 w (W.alloc o) A3 c3 A5 c5 A9 c9 B := h.under ((Below.refl _ _).alloc (Nat.le_refl _) o)
theorem All51.drew {w W : World} {A3 : Option Addr} {c3 : Nat} {A5 : Option Addr} {c5 : Nat} {A9 : Option Addr} {c9 : Nat} {B : Option Addr} (h : All51 w W A3 c3 A5 c5 A9 c9 B) : All51 w W.drew A3 c3 A5 c5 A9 c9 B := ⟨⟨Kd.C_drew h.h3.hC, h.h3.le⟩, ⟨Kd.C_drew h.h5.hC, h.h5.le⟩, ⟨Kd.C_drew h.h9.hC, h.h9.le⟩, ⟨Kd.C_drew h.hB.hC, h.hB.le⟩, below_drew h.below⟩
theorem same2_at (A : Option Addr) (c : Nat) (B : Option Addr) (d : Nat) (W : World) (hA : C51 W A c) (hB : C51 W B d) : Calls Try.prog 33 #[.slice A 2 c, .slice B 2 d] W fun e w' => e = .returned (.bool true) ∧ Below W.heap.size W w' :=
  (footbridgeref51_Same.calls 5 A c [cA, cB] B d [cA, cB] true W hA.hC hA.le hB.hC hB.le sameC).mono (by first | exact fun _ _ h => h | (rintro e w' ⟨rfl, nd, rfl⟩; exact ⟨rfl, pw_below_drewN (Below.refl _ _) nd⟩) | (rintro e w' ⟨rfl, rfl⟩; exact ⟨rfl, Below.refl _ _⟩))
theorem sameP_at (A : Option Addr) (c : Nat) (B : Option Addr) (d : Nat) (W : World) (hA : P51 W A c) (hB : P51 W B d) : Calls Try.prog 34 #[.slice A 1 c, .slice B 1 d] W fun e w' => e = .returned (.bool true) ∧ Below W.heap.size W w' :=
  (footbridgeref09_Same.calls 5 A c [pB3] B d [pB3] true W hA.hC hA.le hB.hC hB.le sameP).mono (by first | exact fun _ _ h => h | (rintro e w' ⟨rfl, nd, rfl⟩; exact ⟨rfl, pw_below_drewN (Below.refl _ _) nd⟩) | (rintro e w' ⟨rfl, rfl⟩; exact ⟨rfl, Below.refl _ _⟩))
theorem new51 (W : World) : C51 (W.alloc (.cells #[.string ⟨#[97]⟩, .string ⟨#[]⟩, .bool true, .string ⟨#[98]⟩, .string ⟨#[51]⟩, .bool false] 62)) (some ⟨W.heap.size, 0, none⟩) 2 := by
  have hA := heap_alloc_new W (.cells #[.string ⟨#[97]⟩, .string ⟨#[]⟩, .bool true, .string ⟨#[98]⟩, .string ⟨#[51]⟩, .bool false] 62)
  refine ⟨changes2 ?_ ?_ ?_ ?_ ?_ ?_, Nat.le_refl _⟩ <;> exact (cell_of_row _ _ _ _ _ _ hA).trans rfl
set_option maxHeartbeats 4000000 in
theorem awake51_any (w : World) : Calls Try.prog 28 #[] w fun e w' => e = .returned (.bool true) ∧ Below w.heap.size w w' := by
  go_enter Try.func28, Try.ntmps28
  have hM : M51 w ((w.alloc (.cells #[.string ⟨#[97]⟩, .string ⟨#[49]⟩, .string ⟨#[98]⟩, .string ⟨#[50]⟩] 86)).alloc (.cells #[.string ⟨#[98]⟩, .string ⟨#[51]⟩] 86)) (some ⟨w.heap.size, 0, none⟩) (some ⟨w.heap.size + 1, 0, none⟩) := by
    have hA := heap_alloc2_old w (.cells #[.string ⟨#[97]⟩, .string ⟨#[49]⟩, .string ⟨#[98]⟩, .string ⟨#[50]⟩] 86) (.cells #[.string ⟨#[98]⟩, .string ⟨#[51]⟩] 86)
    have hB := heap_alloc2_new w (.cells #[.string ⟨#[97]⟩, .string ⟨#[49]⟩, .string ⟨#[98]⟩, .string ⟨#[50]⟩] 86) (.cells #[.string ⟨#[98]⟩, .string ⟨#[51]⟩] 86)
    refine ⟨pairs2 ?_ ?_ ?_ ?_, pairs1 ?_ ?_, ((Below.refl _ _).alloc (Nat.le_refl _) _).alloc (by simp) _⟩
    · exact (cell_of_row _ _ _ _ _ _ hA).trans rfl
    · exact (cell_of_row _ _ _ _ _ _ hA).trans rfl
    · exact (cell_of_row _ _ _ _ _ _ hA).trans rfl
    · exact (cell_of_row _ _ _ _ _ _ hA).trans rfl
    · exact (cell_of_row _ _ _ _ _ _ hB).trans rfl
    · exact (cell_of_row _ _ _ _ _ _ hB).trans rfl
  have HM := Lib.hid hM
  clear hM
  go_wp2_with fail
  refine (diff_Of.calls _ 2 [pA1, pB2] _ 1 [pB3] _ _ _ HM.out.hA (by decide) HM.out.hB (by decide) ofA).mono ?_
  rintro e w1 ⟨v1, rfl, hR, hb⟩
  obtain ⟨A3, c3, rfl⟩ := Kd.R_slice hR
  replace HM := Lib.hid (HM.out.under hb)
  have C3 := Lib.hid (show C51 w1 A3 c3 from ⟨(Kd.R_reads' hR).2.2, (Kd.R_reads' hR).2.1⟩)
  clear hb hR
  have hcall := diff_Apply.calls _ 2 [pA1, pB2] _ _ [cA, cB] _ _ _ HM.out.hA (by decide) C3.out.hC C3.out.le apA
  go_wp2_with fail
  refine hcall.mono ?_
  clear hcall
  rintro e w2 ⟨v1, rfl, hR, hb⟩
  obtain ⟨A5, c5, rfl⟩ := Kd.R_slice hR
  have C5 := Lib.hid (show P51 w2 A5 c5 from ⟨(Kd.R_reads' hR).2.2, (Kd.R_reads' hR).2.1⟩)
  replace HM := Lib.hid (HM.out.under hb)
  replace C3 := Lib.hid (C3.out.under hb)
  clear hb hR
  have hcall := diff_Apply.calls _ 1 [pB3] _ _ [cA, cB] _ _ _ HM.out.hB (by decide) C3.out.hC C3.out.le apB
  go_wp2_with fail
  refine hcall.mono ?_
  clear hcall
  rintro e w3 ⟨v1, rfl, hR, hb⟩
  obtain ⟨A7, c7, rfl⟩ := Kd.R_slice hR
  replace HM := Lib.hid (HM.out.under hb)
  replace C3 := Lib.hid (C3.out.under hb)
  replace C5 := Lib.hid (C5.out.under hb)
  clear hb hR
  have hcall := diff_Put.calls _ _ [cA, cB] _ _ _ C3.out.hC C3.out.le putA
  go_wp2_with fail
  refine hcall.mono ?_
  clear hcall
  rintro e w4 ⟨rfl, hb⟩
  replace HM := Lib.hid (HM.out.under hb)
  replace C3 := Lib.hid (C3.out.under hb)
  replace C5 := Lib.hid (C5.out.under hb)
  clear hb
  have hcall := diff_Read.calls 400 _ _ _ w4 readA
  go_wp2_with fail
  refine hcall.mono ?_
  clear hcall
  rintro e w5 ⟨v1, rfl, hR, hb⟩
  obtain ⟨A9, c9, rfl⟩ := Kd.R_slice hR
  have C9 := Lib.hid (show C51 w5 A9 c9 from ⟨(Kd.R_reads' hR).2.2, (Kd.R_reads' hR).2.1⟩)
  replace HM := Lib.hid (HM.out.under hb)
  replace C3 := Lib.hid (C3.out.under hb)
  replace C5 := Lib.hid (C5.out.under hb)
  clear hb hR
  have hA := heap_alloc_new w5 (.cells #[.string ⟨#[98]⟩, .string ⟨#[]⟩, .string ⟨#[97]⟩, .string ⟨#[]⟩] 86)
  have hcall := diff_Of.calls _ 2 [pB0, pA0] none 0 [] _ _ _ (pairs2 ((cell_of_row _ _ _ _ _ _ hA).trans rfl) ((cell_of_row _ _ _ _ _ _ hA).trans rfl) ((cell_of_row _ _ _ _ _ _ hA).trans rfl) ((cell_of_row _ _ _ _ _ _ hA).trans rfl)) (by decide) (Kd.C_nil _ _) (by decide) ofB
  clear hA
  go_wp2_with fail
  refine hcall.mono ?_
  clear hcall
  rintro e w6 ⟨v1, rfl, hR, hb⟩
  obtain ⟨A11, c11, rfl⟩ := Kd.R_slice hR
  have hb0 : Below w5.heap.size w5 (w5.alloc (.cells #[.string ⟨#[98]⟩, .string ⟨#[]⟩, .string ⟨#[97]⟩, .string ⟨#[]⟩] 86)) := (Below.refl _ _).alloc (Nat.le_refl _) _
  replace HM := Lib.hid ((HM.out.under hb0).under hb)
  replace C3 := Lib.hid ((C3.out.under hb0).under hb)
  replace C5 := Lib.hid ((C5.out.under hb0).under hb)
  replace C9 := Lib.hid ((C9.out.under hb0).under hb)
  clear hb hR hb0
  have H := Lib.hid (show All51 w w6 A3 c3 A5 c5 A9 c9 (some ⟨w.heap.size + 1, 0, none⟩) from ⟨C3.out, C5.out, C9.out, ⟨HM.out.hB, Nat.le_refl _⟩, HM.out.below⟩)
  clear C3 C5 C9 HM
  have hcall := same2_at A3 c3 (some ⟨w6.heap.size, 0, none⟩) 2 _ (H.out.alloc _).h3 (new51 w6)
  go_wp2_with fail
  refine hcall.mono ?_
  clear hcall
  rintro e w7 ⟨rfl, hb⟩
  replace H := Lib.hid ((H.out.alloc _).under hb)
  clear hb
  have hcall := sameP_at A5 c5 _ 1 _ H.out.h5 H.out.hB
  go_wp2_with fail
  refine hcall.mono ?_
  clear hcall
  rintro e w8 ⟨rfl, hb⟩
  replace H := Lib.hid (H.out.under hb)
  clear hb
  have hcall := same2_at A9 c9 A3 c3 _ H.out.h9 H.out.h3
  go_wp2_with fail
  refine hcall.mono ?_
  clear hcall
  rintro e w9 ⟨rfl, hb⟩
  replace H := Lib.hid (H.out.under hb)
  clear hb
  go_wp2
  go_ret
  exact ⟨rfl, H.out.below⟩
end Go.Proofs.Ytipgldfbjlhpoab.Diff
namespace Go.Proofs.Ytipgldfbjlhpoab.P
open Go.RowKit
def footbridgelaw51_awake.f : Option Bool := some true
theorem footbridgelaw51_awake.calls (r : Bool) (w : World) (h : footbridgelaw51_awake.f = some r) :
    Calls Try.prog 28 #[] w fun e w' => e = .returned (.bool r) ∧ Below w.heap.size w w' := by
  obtain rfl := Option.some.inj h
  exact Diff.awake51_any w
end Go.Proofs.Ytipgldfbjlhpoab.P
