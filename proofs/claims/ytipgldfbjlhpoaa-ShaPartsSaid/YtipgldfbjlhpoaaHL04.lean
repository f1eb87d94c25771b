/- The examples at the head of layer 4's statements ('awake') come out true. -/
import Derived.Test.YtipgldfbjlhpoaaHRSha
import Derived.WalkLawsBesides
namespace Go.Proofs.Ytipgldfbjlhpoaa.Sha
set_option linter.unusedVariables false
set_option linter.unusedSimpArgs false
open Go.RowKit Go.Proofs.YtipgldfbjlhpoaaW.PrintWords Go.Proofs.YtipgldfbjlhpoaaW.PrintLast Go.Proofs.YtipgldfbjlhpoaaW.PrintMore
set_option maxRecDepth 100000

theorem sumB_nil : sumB ⟨#[]⟩ = ⟨#[227, 176, 196, 66, 152, 252, 28, 20, 154, 251, 244, 200, 153, 111, 185, 36, 39, 174, 65, 228, 100, 155, 147, 76, 164, 149, 153, 27, 120, 82, 184, 85]⟩ :=
  congrArg ofL (show sumL [] = [227, 176, 196, 66, 152, 252, 28, 20, 154, 251, 244, 200, 153, 111, 185, 36, 39, 174, 65, 228, 100, 155, 147, 76, 164, 149, 153, 27, 120, 82, 184, 85] by decide +kernel)
theorem sumB_abc : sumB ⟨#[97, 98, 99]⟩ = ⟨#[186, 120, 22, 191, 143, 1, 207, 234, 65, 65, 64, 222, 93, 174, 34, 35, 176, 3, 97, 163, 150, 23, 122, 156, 180, 16, 255, 97, 242, 0, 21, 173]⟩ :=
  congrArg ofL (show sumL [97, 98, 99] = [186, 120, 22, 191, 143, 1, 207, 234, 65, 65, 64, 222, 93, 174, 34, 35, 176, 3, 97, 163, 150, 23, 122, 156, 180, 16, 255, 97, 242, 0, 21, 173] by decide +kernel)
def zeroS : S8 := ⟨0, 0, 0, 0, 0, 0, 0, 0⟩
theorem block_zero : cells8 (block zeroS []) = #[.int .u32 2091193876, .int .u32 1113340840, .int .u32 3461668143, .int .u32 3254913767, .int .u32 3068490961, .int .u32 2551409935, .int .u32 2927503052, .int .u32 3205228454] := by
  have e : L8 (block zeroS []) = [2091193876, 1113340840, 3461668143, 3254913767, 3068490961, 2551409935, 2927503052, 3205228454] := by decide +kernel
  rw [cells8_eq, e]
  rfl
theorem pad_size (n : Nat) (k : Int) (hk : k = (n : Int)) (hn : n ≤ 1000) (w : World) (c : Nat) (hc : c = 9 + (119 - n % 64) % 64) :
    Calls Try.prog 20 #[.int .i64 k] w fun e w' => ∃ pb : ByteArray, pb.size = c ∧ e = .returned (.string pb) ∧ Below w.heap.size w w' := by
  subst hk
  refine (pad_any n _ w (by omega) rfl).mono fun e w' h => ⟨_, ?_, h.1, h.2⟩
  rw [size_ofL, length_pad, hc]

/-- The hash of the empty string, and of three letters: their lengths, their first bytes. -/
theorem sum_nil_any (w : World) : Calls Try.prog 16 #[.string ⟨#[]⟩] w fun e w' => ∃ A : ByteArray, A.size = 32 ∧ (A.extract 0 4).toList = [227, 176, 196, 66] ∧ e = .returned (.string A) ∧ Below w.heap.size w w' := by
  refine (sum_any ⟨#[]⟩ _ (by decide)).mono fun e w' h => ⟨_, ?_, ?_, h.1, h.2⟩
  · rw [sumB_nil]; rfl
  · rw [sumB_nil, ByteArray.toList_eq]; decide +kernel
theorem sum_abc_any (w : World) : Calls Try.prog 16 #[.string ⟨#[97, 98, 99]⟩] w fun e w' => ∃ A : ByteArray, A.size = 32 ∧ (A.extract 0 4).toList = [186, 120, 22, 191] ∧ e = .returned (.string A) ∧ Below w.heap.size w w' := by
  refine (sum_any ⟨#[97, 98, 99]⟩ _ (by decide)).mono fun e w' h => ⟨_, ?_, ?_, h.1, h.2⟩
  · rw [sumB_abc]; rfl
  · rw [sumB_abc, ByteArray.toList_eq]; decide +kernel
theorem pad_minus (w : World) : Calls Try.prog 20 #[.int .i64 (-1)] w fun e w' => e = .returned (.string ⟨#[]⟩) ∧ Below w.heap.size w w' :=
  P.sha_Pad.calls 0 (-1) _ _ (pad_neg (-1) (by omega))
set_option maxHeartbeats 800000 in
theorem awake04_any (w : World) : Calls Try.prog 15 #[] w fun e w' => e = .returned (.bool true) ∧ Below w.heap.size w w' := by
  have hne : ∀ w, (binOp .neq 26 (.agg #[.int .u32 2091193876, .int .u32 1113340840, .int .u32 3461668143, .int .u32 3254913767, .int .u32 3068490961, .int .u32 2551409935, .int .u32 2927503052, .int .u32 3205228454])
    (.agg #[.int .u32 0, .int .u32 0, .int .u32 0, .int .u32 0, .int .u32 0, .int .u32 0, .int .u32 0, .int .u32 0])).run Try.prog w = .ok (.bool true) w := fun _ => by kernel_rfl
  go_enter Try.func15, Try.ntmps15
  go_wp2_with fail
  refine (sum_nil_any _).mono ?_
  rintro e w1 ⟨A, hA, hA4, rfl, hb1⟩
  go_wp2_with fail
  refine (sum_abc_any _).mono ?_
  rintro e w2 ⟨B, hB, hB4, rfl, hb2⟩
  go_wp2_with fail
  refine (pad_size 0 _ rfl (by omega) _ 64 rfl).mono ?_
  rintro e w3 ⟨p1, hp1, rfl, hb3⟩
  go_wp2_with fail
  refine (pad_size 55 _ rfl (by omega) _ 9 rfl).mono ?_
  rintro e w4 ⟨p2, hp2, rfl, hb4⟩
  go_wp2_with fail
  refine (pad_size 56 _ rfl (by omega) _ 72 rfl).mono ?_
  rintro e w5 ⟨p3, hp3, rfl, hb5⟩
  go_wp2_with fail
  refine (pad_minus _).mono ?_
  rintro e w6 ⟨rfl, hb6⟩
  go_wp2_with fail
  refine (block_any zeroS ⟨#[]⟩ _ (by unfold maxLen; decide)).mono ?_
  rw [show (⟨#[]⟩ : ByteArray).data.toList = [] from rfl, block_zero]
  rintro e w7 ⟨rfl, hb7⟩
  go_wp2
  go_ret
  refine ⟨rfl, ?_⟩
  have z1 := hb1.size; have z2 := hb2.size; have z3 := hb3.size; have z4 := hb4.size; have z5 := hb5.size; have z6 := hb6.size
  exact hb1.trans ((hb2.mono (by omega)).trans ((hb3.mono (by omega)).trans ((hb4.mono (by omega)).trans ((hb5.mono (by omega)).trans ((hb6.mono (by omega)).trans (hb7.mono (by omega)))))))
end Go.Proofs.Ytipgldfbjlhpoaa.Sha
namespace Go.Proofs.Ytipgldfbjlhpoaa.P
open Go.RowKit
def footbridgelaw04_awake.f : Option Bool := some true
theorem footbridgelaw04_awake.calls (r : Bool) (w : World) (h : footbridgelaw04_awake.f = some r) :
    Calls Try.prog 15 #[] w fun e w' => e = .returned (.bool r) ∧ Below w.heap.size w w' := by
  obtain rfl := Option.some.inj h
  exact Sha.awake04_any w
end Go.Proofs.Ytipgldfbjlhpoaa.P
