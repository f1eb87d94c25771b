/- A reader that is none: what each method tells; WireNone's walk. -/
import Derived.Test.YtipgldfbjlhpoaaHL01
namespace Go.Proofs.Ytipgldfbjlhpoaa.Wire
set_option linter.unusedVariables false
set_option linter.unusedSimpArgs false
open Go.RowKit Go.Proofs.YtipgldfbjlhpoaaW.PrintWords Go.Proofs.YtipgldfbjlhpoaaW.PrintLast Go.Proofs.YtipgldfbjlhpoaaW.PrintMore
set_option maxRecDepth 100000

theorem stopped_none (w : World) : Calls Try.prog 69 #[.pointer none] w fun e w' => e = .returned (.bool true) ∧ w = w' := by
  go_enter Try.func69, Try.ntmps69
  go_wp2
  go_ret
  exact ⟨rfl, rfl⟩
theorem num_none (w : World) : Calls Try.prog 30 #[.pointer none] w fun e w' => e = .returned (.int .i64 0) ∧ w = w' := by
  go_enter Try.func30, Try.ntmps30
  go_wp2_with (go_at_call 69; refine (stopped_none _).mono ?_; rintro e w' ⟨rfl, rfl⟩)
  go_ret
  exact ⟨rfl, rfl⟩
theorem text_none (w : World) : Calls Try.prog 32 #[.pointer none] w fun e w' => e = .returned (.string ⟨#[]⟩) ∧ w = w' := by
  go_enter Try.func32, Try.ntmps32
  go_wp2_with (go_at_call 69; refine (stopped_none _).mono ?_; rintro e w' ⟨rfl, rfl⟩)
  go_ret
  exact ⟨rfl, rfl⟩
theorem list_none (w : World) : Calls Try.prog 35 #[.pointer none] w fun e w' => e = .returned (.slice none 0 0) ∧ w = w' := by
  go_enter Try.func35, Try.ntmps35
  go_wp2_with (go_at_call 69; refine (stopped_none _).mono ?_; rintro e w' ⟨rfl, rfl⟩)
  go_ret
  exact ⟨rfl, rfl⟩
theorem err_none (w : World) : Calls Try.prog 36 #[.pointer none] w fun e w' => e = .returned (.int .i64 2) ∧ w = w' := by
  go_enter Try.func36, Try.ntmps36
  go_wp2
  go_ret
  exact ⟨rfl, rfl⟩
theorem done_none (w : World) : Calls Try.prog 37 #[.pointer none] w fun e w' => e = .returned (.int .i64 2) ∧ w = w' := by
  go_enter Try.func37, Try.ntmps37
  go_wp2_with (go_at_call 36; refine (err_none _).mono ?_; rintro e w' ⟨rfl, rfl⟩)
  go_ret
  exact ⟨rfl, rfl⟩
theorem wireNone_any (n : Int) (h0 : 0 ≤ n) (h1 : n ≤ 255) (w : World) : Calls Try.prog 9 #[.int .u8 n] w fun e w' => e = .returned (.bool true) ∧ Below w.heap.size w w' := by
  by_cases hz : n % 2 = 0
  · go_enter Try.func9, Try.ntmps9
    go_wp2_with (first
      | (go_at_call 37; refine (done_none _).mono ?_; rintro e w' ⟨rfl, rfl⟩)
      | (go_at_call 30; refine (num_none _).mono ?_; rintro e w' ⟨rfl, rfl⟩)
      | (go_at_call 32; refine (text_none _).mono ?_; rintro e w' ⟨rfl, rfl⟩)
      | (go_at_call 35; refine (list_none _).mono ?_; rintro e w' ⟨rfl, rfl⟩)
      | (go_at_call 36; refine (err_none _).mono ?_; rintro e w' ⟨rfl, rfl⟩)
      | (go_at_call 27; refine (awake01_any _).mono ?_; rintro e w' ⟨rfl, hb⟩))
    go_ret
    exact ⟨rfl, hb⟩
  · go_enter Try.func9, Try.ntmps9
    go_wp2_with (first
      | (go_at_call 37; refine (done_none _).mono ?_; rintro e w' ⟨rfl, rfl⟩)
      | (go_at_call 30; refine (num_none _).mono ?_; rintro e w' ⟨rfl, rfl⟩)
      | (go_at_call 32; refine (text_none _).mono ?_; rintro e w' ⟨rfl, rfl⟩)
      | (go_at_call 35; refine (list_none _).mono ?_; rintro e w' ⟨rfl, rfl⟩)
      | (go_at_call 36; refine (err_none _).mono ?_; rintro e w' ⟨rfl, rfl⟩)
      | (go_at_call 27; refine (awake01_any _).mono ?_; rintro e w' ⟨rfl, hb⟩))
    go_ret
    exact ⟨rfl, hb⟩
end Go.Proofs.Ytipgldfbjlhpoaa.Wire
