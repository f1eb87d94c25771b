/- The examples at the head of layer 1's statements ('awake') come out true. -/
import Derived.Test.YtipgldfbjlhpoaaPWire
import Derived.Test.YtipgldfbjlhpoaaPRWire
import Derived.WalkLawsBesides
namespace Go.Proofs.Ytipgldfbjlhpoaa.Wire
set_option linter.unusedVariables false
set_option linter.unusedSimpArgs false
open Go.RowKit Go.Proofs.YtipgldfbjlhpoaaW.PrintWords Go.Proofs.YtipgldfbjlhpoaaW.PrintLast Go.Proofs.YtipgldfbjlhpoaaW.PrintMore Go.Proofs.Ytipgldfbjlhpoaa.P
set_option maxRecDepth 100000

def r0 : ByteArray := ⟨#[2, 1, 44, 1, 2, 97, 98, 1, 1, 0, 120]⟩
def r1 : ByteArray := ⟨#[1, 2, 97, 98, 1, 1, 0, 120]⟩
def r2 : ByteArray := ⟨#[1, 1, 0, 120]⟩
def r3 : ByteArray := ⟨#[120]⟩
def q0 : ByteArray := ⟨#[2, 0, 1]⟩
theorem num300 : wire_Num.f 300 = some (⟨#[2, 1, 44]⟩, 0) := by decide +kernel
theorem num0 : wire_Num.f 0 = some (⟨#[0]⟩, 0) := by decide +kernel
theorem numM : wire_Num.f (-1) = some (⟨#[]⟩, 3) := by decide +kernel
theorem textAb : wire_Text.f ⟨#[97, 98]⟩ = some (⟨#[1, 2, 97, 98]⟩, 0) := by decide +kernel
theorem rNum : wire_Reader_Num.f r0 0 = some (300, r1, 0) := by decide +kernel
theorem rText : wire_Reader_Text.f r1 0 = some (⟨#[97, 98]⟩, r2, 0) := by decide +kernel
theorem rList : wire_Reader_List.f 10 r2 0 = some ([⟨#[]⟩], r3, 0) := by decide +kernel
theorem rErr : wire_Reader_Err.f r3 0 = some (0, r3, 0) := by decide +kernel
theorem rDone : wire_Reader_Done.f r3 0 = some (6, r3, 0) := by decide +kernel
theorem qNum : wire_Reader_Num.f q0 0 = some (0, q0, 6) := by decide +kernel
theorem qErr : wire_Reader_Err.f q0 6 = some (6, q0, 6) := by decide +kernel
theorem texts1 : footbridgeref01_Texts.f 10 [⟨#[]⟩] [⟨#[]⟩] = some true := by decide +kernel
set_option maxHeartbeats 1000000 in
theorem awake01_any (w : World) : Calls Try.prog 27 #[] w fun e w' => e = .returned (.bool true) ∧ Below w.heap.size w w' := by
  have hB := Below.refl w.heap.size w
  go_enter Try.func27, Try.ntmps27
  go_wp2_with fail
  refine (wire_Num.calls 300 _ _ _ num300).mono ?_
  rintro e w1 ⟨rfl, hb⟩
  have hB := hB.trans (hb.mono hB.size)
  clear hb
  go_wp2_with fail
  refine (wire_Text.calls ⟨#[97, 98]⟩ _ _ _ textAb).mono ?_
  rintro e w2 ⟨rfl, hb⟩
  have hB := hB.trans (hb.mono hB.size)
  clear hb
  go_wp2_with fail
  refine (wire_Num.calls 0 _ _ _ num0).mono ?_
  rintro e w3 ⟨rfl, hb⟩
  have hB := hB.trans (hb.mono hB.size)
  clear hb
  go_wp2_with fail
  refine (wire_Num.calls (-1) _ _ _ numM).mono ?_
  rintro e w4 ⟨rfl, hb⟩
  have hB := hB.trans (hb.mono hB.size)
  clear hb
  go_wp2_with fail
  refine (wire_New.calls r0 _ _ w _ hB rfl).mono ?_
  rintro e w5 ⟨g, rfl, hI, hB5, -⟩
  clear hB
  go_wp2_with fail
  refine (wire_Reader_Num.calls g r0 0 _ _ _ w _ hI hB5 rNum).mono ?_
  rintro e w6 ⟨rfl, hI6, hB6, -⟩
  clear hI hB5
  go_wp2_with fail
  refine (wire_Reader_Text.calls g r1 0 _ _ _ w _ hI6 hB6 rText).mono ?_
  rintro e w7 ⟨rfl, hI7, hB7, -⟩
  clear hI6 hB6
  go_wp2_with fail
  refine (wire_Reader_List.calls 10 g r2 0 _ _ _ w _ hI7 hB7 rList).mono ?_
  rintro e w8 ⟨v, rfl, hR8, hI8, hB8, -⟩
  clear hI7 hB7
  have hR8 := hI8.apart hR8 (by decide)
  go_wp2_with fail
  refine (wire_Reader_Err.calls g r3 0 _ _ _ w _ hI8 hB8 rErr).mono ?_
  rintro e w9 ⟨rfl, hI9, hB9, hk9⟩
  have hR9 := Kd.R_keep hR8 hk9 (fun k h => h.2)
  clear hI8 hB8 hR8 hk9
  go_wp2_with fail
  refine (wire_Reader_Done.calls g r3 0 _ _ _ w _ hI9 hB9 rDone).mono ?_
  rintro e w10 ⟨rfl, hI10, hB10, hk10⟩
  have hR10 := Kd.R_keep hR9 hk10 (fun k h => h.2)
  clear hI9 hB9 hR9 hk10 hI10
  go_wp2_with fail
  refine (wire_New.calls q0 _ _ w _ hB10 rfl).mono ?_
  rintro e w11 ⟨g2, rfl, hI, hB11, hb11⟩
  have hR11 := hI.apart (Kd.R_below hR10 hb11) (by decide)
  clear hR10 hB10 hb11
  go_wp2_with fail
  refine (wire_Reader_Num.calls g2 q0 0 _ _ _ w _ hI hB11 qNum).mono ?_
  rintro e w12 ⟨rfl, hI12, hB12, hk12⟩
  have hR12 := Kd.R_keep hR11 hk12 (fun k h => h.2)
  clear hI hB11 hR11 hk12
  obtain ⟨A, c, rfl⟩ := Kd.R_slice hR12
  go_wp2_with fail
  refine (footbridgeref01_Texts.calls 10 A c [⟨#[]⟩] (some ⟨w12.heap.size, 0, none⟩) 1 [⟨#[]⟩] true _ (Kd.C_alloc (Kd.R_reads' hR12).2.2 _) (Kd.R_reads' hR12).2.1 (Kd.C_of_reads (d := ByteArray.empty) ?_) (Nat.le_refl _) texts1).mono ?_
  · refine ⟨rfl, by decide, fun _ => ⟨_, rfl, fun j hj => ?_⟩⟩
    change j < 1 at hj
    obtain rfl : j = 0 := by omega
    exact (cell_of_row _ _ _ _ _ _ (heap_alloc_new w12 _)).trans rfl
  rintro e w13 ⟨rfl, nd, rfl⟩
  have hI13 := (hI12.alloc (.cells #[.string ⟨#[]⟩] 9)).drewN nd
  have hB13 : Below w.heap.size w ((w12.alloc (.cells #[.string ⟨#[]⟩] 9)).drewN nd) := pw_below_drewN (hB12.alloc hB12.size _) nd
  clear hI12 hB12 hR12
  go_wp2_with fail
  refine (wire_Reader_Err.calls g2 q0 6 _ _ _ w _ hI13 hB13 qErr).mono ?_
  rintro e w14 ⟨rfl, hI14, hB14, -⟩
  go_wp2_with fail
  go_ret
  exact ⟨rfl, hB14⟩
end Go.Proofs.Ytipgldfbjlhpoaa.Wire
namespace Go.Proofs.Ytipgldfbjlhpoaa.P
open Go.RowKit
def footbridgelaw01_awake.f : Option Bool := some true
theorem footbridgelaw01_awake.calls (r : Bool) (w : World) (h : footbridgelaw01_awake.f = some r) :
    Calls Try.prog 27 #[] w fun e w' => e = .returned (.bool r) ∧ Below w.heap.size w w' := by
  obtain rfl := Option.some.inj h
  exact Wire.awake01_any w
end Go.Proofs.Ytipgldfbjlhpoaa.P
