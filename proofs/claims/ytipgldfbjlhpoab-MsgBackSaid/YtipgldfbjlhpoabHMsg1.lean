/- msg.of: a kind's shape: its contract. -/
import Derived.Test.YtipgldfbjlhpoabHMsg0
import Derived.Test.YtipgldfbjlhpoabP0
namespace Go.Proofs.Ytipgldfbjlhpoab.P
set_option linter.unusedVariables false
set_option linter.unusedSimpArgs false
open Go.RowKit Go.Proofs.Ytipgldfbjlhpoab.Sha Go.Proofs.Ytipgldfbjlhpoab.Msg Go.Proofs.YtipgldfbjlhpoabW.PrintWords Go.Proofs.YtipgldfbjlhpoabW.PrintLast Go.Proofs.YtipgldfbjlhpoabW.PrintMore
set_option maxRecDepth 100000
def msg_of.f (a0 : Int) : Option (Int × Int × Bool × Bool) := if a0 < 1 then some (0, 0, false, false) else if 24 ≤ a0 then some (0, 0, false, false) else some (txt a0.toNat, nms a0.toNat, lst a0.toNat, true)
def zeroSh : Array Value := #[.int .i64 0, .int .i64 0, .bool false]
set_option maxHeartbeats 1000000 in
theorem msg_of.calls (a0 : Int) (r1 r2 : Int) (r3 r4 : Bool) (w : World) (h : msg_of.f a0 = some (r1, r2, r3, r4)) :
    Calls Try.prog 111 #[.int .i64 a0] w fun e w' => e = .returned (.tuple #[.agg #[.int .i64 r1, .int .i64 r2, .bool r3], .bool r4]) ∧ Below w.heap.size w w' := by
  have hnew : Below w.heap.size w (w.alloc (.cells zeroSh 160)) := (Below.refl _ _).alloc (Nat.le_refl _) _
  unfold msg_of.f at h
  by_cases h1 : a0 < 1
  · rw [if_pos h1] at h
    simp only [Option.some.injEq, Prod.mk.injEq] at h
    obtain ⟨rfl, rfl, rfl, rfl⟩ := h
    go_enter Try.func111, Try.ntmps111
    go_wp2
    exact bodyPost_ret (results_ct (p := 2) (ty := 160) rfl _ _ w.heap.size 160 zeroSh (0, 0) _ rfl ((heap_alloc_new w _).trans rfl) Try.underlying160 rfl (by kernel_rfl)) rfl ⟨rfl, hnew⟩
  · rw [if_neg h1] at h
    by_cases h2 : 24 ≤ a0
    · rw [if_pos h2] at h
      simp only [Option.some.injEq, Prod.mk.injEq] at h
      obtain ⟨rfl, rfl, rfl, rfl⟩ := h
      go_enter Try.func111, Try.ntmps111
      go_wp2
      exact bodyPost_ret (results_ct (p := 2) (ty := 160) rfl _ _ w.heap.size 160 zeroSh (0, 0) _ rfl ((heap_alloc_new w _).trans rfl) Try.underlying160 rfl (by kernel_rfl)) rfl ⟨rfl, hnew⟩
    · rw [if_neg h2] at h
      simp only [Option.some.injEq, Prod.mk.injEq] at h
      obtain ⟨rfl, rfl, rfl, rfl⟩ := h
      obtain ⟨k, rfl⟩ := Int.eq_ofNat_of_zero_le (show 0 ≤ a0 by omega)
      rw [Int.toNat_natCast]
      have hix := index_shape k (by omega) (by omega)
      have hrow : (w.alloc (.cells zeroSh 160)).heap[w.heap.size]? = some (.cells zeroSh 160 (0, 0)) := heap_alloc_new w _
      go_enter Try.func111, Try.ntmps111
      go_wp2_with fail
      refine (shapes_any _).mono ?_
      rintro e w2 ⟨rfl, hb2⟩
      have hr2 : w2.heap[w.heap.size]? = some (.cells zeroSh 160 (0, 0)) := blk_below hrow hb2
      have hB2 : Below w.heap.size w w2 := hnew.trans (hb2.mono hnew.size)
      clear hb2 hrow hnew
      have HR := Lib.hid hr2
      clear hr2
      go_wp2_with (refine wpList_store_row rfl 160 (.tmp 2) (.tmp 13) rfl w.heap.size #[.int .i64 (txt k), .int .i64 (nms k), .bool (lst k)] rfl rfl 160 _ HR.out (by kernel_rfl) rfl (by simp [Value.oneCell']) ?_)
      exact bodyPost_ret (results_ct (p := 2) (ty := 160) rfl _ _ w.heap.size 160 #[.int .i64 (txt k), .int .i64 (nms k), .bool (lst k)] (0, 0) _ rfl (setRow_heap _ _ _ _ _ _ HR.out) Try.underlying160 rfl (by kernel_rfl)) rfl ⟨rfl, below_setRow hB2 (Nat.le_refl _) _⟩
end Go.Proofs.Ytipgldfbjlhpoab.P
