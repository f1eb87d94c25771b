/- msg's table of shapes, and of: their contracts. -/
import Derived.Test.YtipgldfbjlhpoabHSha1
import Derived.WalkLawsBesides
namespace Go.Proofs.Ytipgldfbjlhpoab.Msg
set_option linter.unusedVariables false
set_option linter.unusedSimpArgs false
open Go.RowKit Go.Proofs.Ytipgldfbjlhpoab.P Go.Proofs.Ytipgldfbjlhpoab.Sha Go.Proofs.YtipgldfbjlhpoabW.PrintWords Go.Proofs.YtipgldfbjlhpoabW.PrintLast Go.Proofs.YtipgldfbjlhpoabW.PrintMore
set_option maxRecDepth 100000
def texts : List Int := [0, 3, 5, 2, 3, 3, 1, 5, 2, 3, 2, 1, 2, 2, 4, 3, 2, 4, 6, 4, 3, 2, 3, 2]
def nums : List Int := [0, 0, 0, 0, 0, 0, 1, 2, 1, 1, 1, 0, 0, 0, 1, 1, 1, 1, 2, 1, 1, 1, 1, 1]
def lists : List Bool := [false, false, false, false, false, false, false, true, false, false, false, false, false, false, false, false, false, false, false, false, false, false, false, false]
def shapesC : Array Value := #[.int .i64 0, .int .i64 0, .bool false, .int .i64 3, .int .i64 0, .bool false, .int .i64 5, .int .i64 0, .bool false, .int .i64 2, .int .i64 0, .bool false, .int .i64 3, .int .i64 0, .bool false, .int .i64 3, .int .i64 0, .bool false, .int .i64 1, .int .i64 1, .bool false, .int .i64 5, .int .i64 2, .bool true, .int .i64 2, .int .i64 1, .bool false, .int .i64 3, .int .i64 1, .bool false, .int .i64 2, .int .i64 1, .bool false, .int .i64 1, .int .i64 0, .bool false, .int .i64 2, .int .i64 0, .bool false, .int .i64 2, .int .i64 0, .bool false, .int .i64 4, .int .i64 1, .bool false, .int .i64 3, .int .i64 1, .bool false, .int .i64 2, .int .i64 1, .bool false, .int .i64 4, .int .i64 1, .bool false, .int .i64 6, .int .i64 2, .bool false, .int .i64 4, .int .i64 1, .bool false, .int .i64 3, .int .i64 1, .bool false, .int .i64 2, .int .i64 1, .bool false, .int .i64 3, .int .i64 1, .bool false, .int .i64 2, .int .i64 1, .bool false]
theorem shapes_any (w : World) : Calls Try.prog 150 #[] w fun e w' => e = .returned (.agg shapesC) ∧ Below w.heap.size w w' := by
  go_enter Try.func150, Try.ntmps150
  go_wp2_with (first
    | (refine build_to rfl 205 _ rfl shapesC (by kernel_rfl) ?_)
    | (refine wpList_store_row rfl 205 _ _ rfl w.heap.size shapesC rfl rfl 205 _ (heap_alloc_new w _) (by kernel_rfl) (by kernel_rfl) (by kernel_rfl) ?_))
  refine bodyPost_ret (results_cell_row (p := 0) (ty := 205) rfl _ _ w.heap.size 205 shapesC (0, 0) _ rfl ?_ Try.underlying205 rfl (by kernel_rfl)) rfl ⟨rfl, by rw [World.setRow_alloc_new]; exact (Below.refl _ _).alloc (Nat.le_refl _) _⟩
  rw [World.setRow_alloc_new]
  exact heap_alloc_new w _
def txt (k : Nat) : Int := texts.getD k 0
def nms (k : Nat) : Int := nums.getD k 0
def lst (k : Nat) : Bool := lists.getD k false
theorem index_shape (k : Nat) (h0 : 1 ≤ k) (h1 : k < 24) : ∀ w, (Instr.index 205 (.agg shapesC) (.int .i64 (k : Int))).run Try.prog w = .ok (.agg #[.int .i64 (txt k), .int .i64 (nms k), .bool (lst k)]) w := by
  intro w
  rcases (show k = 1 ∨ k = 2 ∨ k = 3 ∨ k = 4 ∨ k = 5 ∨ k = 6 ∨ k = 7 ∨ k = 8 ∨ k = 9 ∨ k = 10 ∨ k = 11 ∨ k = 12 ∨ k = 13 ∨ k = 14 ∨ k = 15 ∨ k = 16 ∨ k = 17 ∨ k = 18 ∨ k = 19 ∨ k = 20 ∨ k = 21 ∨ k = 22 ∨ k = 23 by omega) with rfl | rfl | rfl | rfl | rfl | rfl | rfl | rfl | rfl | rfl | rfl | rfl | rfl | rfl | rfl | rfl | rfl | rfl | rfl | rfl | rfl | rfl | rfl <;> kernel_rfl
end Go.Proofs.Ytipgldfbjlhpoab.Msg
