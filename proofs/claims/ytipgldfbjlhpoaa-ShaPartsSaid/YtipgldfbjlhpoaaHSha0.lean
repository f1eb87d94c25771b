/- SHA-256's small functions (the rotation, the tables) over this program: contracts, in terms of 32-bit words. -/
import Derived.Test.YtipgldfbjlhpoaaProg
import Derived.Test.YtipgldfbjlhpoaaShaPure
import Derived.WalkKit
import Derived.Outline
import Derived.BigQuiet
import Derived.Deep.QuietTactic
import Derived.Lib.Hide
import Derived.Below
import Derived.Laws.Rows
import Derived.Deep.WholeRow
import Derived.Laws.Tables
import Derived.StillTailTactics
import Derived.KernelRfl
namespace Go.Proofs.Ytipgldfbjlhpoaa.Sha
set_option linter.unusedVariables false
set_option linter.unusedSimpArgs false
open Go.RowKit

/-! ### words of 32 bits as the walk has them -/
theorem bits_bv (f : BinOp) (x y : BitVec 32) : bits f .u32 (x.toNat : Int) (y.toNat : Int) = ((match f with | .and => x &&& y | .or => x ||| y | .xor => x ^^^ y | _ => x &&& ~~~y).toNat : Int) := by
  unfold bits
  have e : ∀ z : BitVec 32, BitVec.ofInt IntKind.u32.bits (z.toNat : Int) = z := by intro z; apply BitVec.eq_of_toNat_eq; simp [IntKind.bits]
  rw [e, e]
  have g : ∀ z : BitVec 32, IntKind.u32.wrap (z.toNat : Int) = (z.toNat : Int) := by
    intro z; rw [IntKind.wrap_u32]; have := z.isLt; omega
  exact g _
theorem xor_bv (x y : BitVec 32) : bits .xor .u32 (x.toNat : Int) (y.toNat : Int) = ((x ^^^ y).toNat : Int) := bits_bv .xor x y
theorem and_bv (x y : BitVec 32) : bits .and .u32 (x.toNat : Int) (y.toNat : Int) = ((x &&& y).toNat : Int) := bits_bv .and x y
theorem or_bv (x y : BitVec 32) : bits .or .u32 (x.toNat : Int) (y.toNat : Int) = ((x ||| y).toNat : Int) := bits_bv .or x y
theorem add_bv (x y : BitVec 32) : ((x.toNat : Int) + y.toNat) % 4294967296 = ((x + y).toNat : Int) := by rw [BitVec.toNat_add]; omega
theorem add_bv' (x y : BitVec 32) : IntKind.u32.wrap ((x.toNat : Int) + y.toNat) = ((x + y).toNat : Int) := by rw [IntKind.wrap_u32, add_bv]
theorem shr_bv (x : BitVec 32) (n : Nat) : (x.toNat : Int) / 2 ^ n = ((x >>> n).toNat : Int) := by
  simp [BitVec.toNat_ushiftRight, Nat.shiftRight_eq_div_pow]
theorem shl_bv (x : BitVec 32) (n : Nat) : ((x.toNat : Int) * 2 ^ n) % 4294967296 = ((x <<< n).toNat : Int) := by
  simp [BitVec.toNat_shiftLeft, Nat.shiftLeft_eq]
theorem shl_bv' (x : BitVec 32) (n : Nat) : IntKind.u32.wrap ((x.toNat : Int) * 2 ^ n) = ((x <<< n).toNat : Int) := by rw [IntKind.wrap_u32, shl_bv]
theorem shr3_bv (x : BitVec 32) : (x.toNat : Int) / (8 : Int) = ((x >>> 3).toNat : Int) := shr_bv x 3
theorem shr10_bv (x : BitVec 32) : (x.toNat : Int) / (1024 : Int) = ((x >>> 10).toNat : Int) := shr_bv x 10
def cellsW (L : List (BitVec 32)) : Array Value := (L.map fun x => Value.int .u32 (x.toNat : Int)).toArray
theorem size_cellsW (L : List (BitVec 32)) : (cellsW L).size = L.length := by simp [cellsW]
theorem cellsW_get (L : List (BitVec 32)) (i : Nat) (h : i < L.length) : (cellsW L)[i]? = some (.int .u32 ((L.getD i 0).toNat : Int)) := by
  simp [cellsW, List.getD, h]
theorem cellsW_set (L : List (BitVec 32)) (i : Nat) (x : BitVec 32) : (cellsW L).setIfInBounds i (.int .u32 (x.toNat : Int)) = cellsW (L.set i x) := by
  apply Array.ext'
  simp [cellsW, List.map_set]
def cells8 (s : S8) : Array Value := #[.int .u32 (s.a.toNat : Int), .int .u32 (s.b.toNat : Int), .int .u32 (s.c.toNat : Int), .int .u32 (s.d.toNat : Int), .int .u32 (s.e.toNat : Int), .int .u32 (s.f.toNat : Int), .int .u32 (s.g.toNat : Int), .int .u32 (s.h.toNat : Int)]

theorem ret_u32 {a b : Int} (h : a = b) : Ending.returned (.int .u32 a) = .returned (.int .u32 b) := by rw [h]

/-! ### the rotation -/
theorem rot_any (x : BitVec 32) (n : Int) (h0 : 0 < n) (h1 : n < 32) (w : World) :
    Calls Try.prog 75 #[.int .u32 (x.toNat : Int), .int .i64 (-n)] w fun e w' => e = .returned (.int .u32 ((ror x n.toNat).toNat : Int)) ∧ w = w' := by
  have e1 : bits .and .u64 (IntKind.u64.wrap (-n)) 31 = 32 - n := by
    obtain ⟨k, rfl⟩ := Int.eq_ofNat_of_zero_le (Int.le_of_lt h0)
    have hk : k < 32 := by omega
    have hk0 : 0 < k := by omega
    clear h0 h1
    revert hk0
    revert k
    decide +kernel
  have h2 : 0 ≤ 32 - n := by omega
  have e2 : IntKind.u64.wrap (32 - (32 - n)) = n := by
    have : (32 - (32 - n)) = n := by omega
    rw [this]; simp [IntKind.wrap, IntKind.bits, IntKind.signed]; omega
  have h3 : 0 ≤ n := by omega
  go_enter Try.func75, Try.ntmps75
  go_wp2
  go_ret
  refine ⟨ret_u32 ?_, rfl⟩
  have e3 : (32 - n).toNat = 32 - n.toNat := by omega
  rw [e3, shl_bv, shr_bv, or_bv]
  rfl
theorem down_any (x : BitVec 32) (n : Int) (h0 : 0 < n) (h1 : n < 32) (w : World) :
    Calls Try.prog 63 #[.int .u32 (x.toNat : Int), .int .i64 n] w fun e w' => e = .returned (.int .u32 ((ror x n.toNat).toNat : Int)) ∧ w = w' := by
  go_enter Try.func63, Try.ntmps63
  go_wp2_with (go_at_call 75; refine (rot_any x n h0 h1 _).mono ?_; rintro e w' ⟨rfl, rfl⟩)
  go_ret
  exact ⟨rfl, rfl⟩
theorem turned_any (x : BitVec 32) (n : Int) (h0 : 0 < n) (h1 : n < 32) (w : World) :
    Calls Try.prog 65 #[.int .u32 (x.toNat : Int), .int .u64 n] w fun e w' => e = .returned (.int .u32 ((ror x n.toNat).toNat : Int)) ∧ w = w' := by
  have h3 : 0 ≤ n := by omega
  go_enter Try.func65, Try.ntmps65
  go_wp2
  go_ret
  refine ⟨ret_u32 ?_, rfl⟩
  have e3 : (32 - n).toNat = 32 - n.toNat := by omega
  rw [e3, shl_bv, shr_bv, or_bv, BitVec.or_comm]
  rfl
/-! ### the tables -/
set_option maxRecDepth 100000
theorem build_to {P : Program} {ops : Array Oper} {rest : List Oper} {o : Oper} {a : Act} {w : World} {Q : Exit → Act → World → Prop} (hg : o.guard = none) (t : TypeId) (parts : Array (Nat × Operand)) (ho : o.op = .build t parts)
    (C : Array Value) (hf : P.built t (parts.map fun (i, x) => (i, a.eval x)).toList = some C) (h : wpList P ops Q rest (a.put o.dst (.agg C)) w) : wpList P ops Q (o :: rest) a w :=
  wpList_build hg t parts ho (by rw [hf]; rfl) (by rw [hf]; exact h)
theorem first_any (w : World) : Calls Try.prog 60 #[] w fun e w' => e = .returned (.agg (cells8 firstS)) ∧ Below w.heap.size w w' := by
  go_enter Try.func60, Try.ntmps60
  go_wp2
  refine bodyPost_ret (results_cell_row (p := 0) (ty := 26) rfl _ _ w.heap.size 26 (cells8 firstS) (0, 0) _ rfl ?_ Try.underlying26 rfl (by kernel_rfl)) rfl ⟨rfl, (Below.refl _ _).alloc (Nat.le_refl _) _⟩
  refine (heap_alloc_new w _).trans ?_
  kernel_rfl
theorem regs_any (w : World) : Calls Try.prog 22 #[] w fun e w' => e = .returned (.agg (cells8 firstS)) ∧ Below w.heap.size w w' := by
  go_enter Try.func22, Try.ntmps22
  go_wp2
  refine bodyPost_ret (results_cell_row (p := 0) (ty := 26) rfl _ _ w.heap.size 26 (cells8 firstS) (0, 0) _ rfl ?_ Try.underlying26 rfl (by kernel_rfl)) rfl ⟨rfl, (Below.refl _ _).alloc (Nat.le_refl _) _⟩
  refine (heap_alloc_new w _).trans ?_
  kernel_rfl
theorem constants_any (w : World) : Calls Try.prog 62 #[] w fun e w' => e = .returned (.agg (cellsW K)) ∧ Below w.heap.size w w' := by
  go_enter Try.func62, Try.ntmps62
  go_wp2_with (first
    | (refine build_to rfl 79 _ rfl (cellsW K) (by kernel_rfl) ?_)
    | (refine wpList_store_row rfl 79 _ _ rfl w.heap.size (cellsW K) rfl rfl 79 _ (heap_alloc_new w _) (by kernel_rfl) (by kernel_rfl) (by kernel_rfl) ?_))
  refine bodyPost_ret (results_cell_row (p := 0) (ty := 79) rfl _ _ w.heap.size 79 (cellsW K) (0, 0) _ rfl ?_ Try.underlying79 rfl (by kernel_rfl)) rfl ⟨rfl, by rw [World.setRow_alloc_new]; exact (Below.refl _ _).alloc (Nat.le_refl _) _⟩
  rw [World.setRow_alloc_new]
  exact heap_alloc_new w _
theorem consts_any (w : World) : Calls Try.prog 66 #[] w fun e w' => e = .returned (.agg (cellsW K)) ∧ Below w.heap.size w w' := by
  go_enter Try.func66, Try.ntmps66
  go_wp2_with (first
    | (refine build_to rfl 79 _ rfl (cellsW K) (by kernel_rfl) ?_)
    | (refine wpList_store_row rfl 79 _ _ rfl w.heap.size (cellsW K) rfl rfl 79 _ (heap_alloc_new w _) (by kernel_rfl) (by kernel_rfl) (by kernel_rfl) ?_))
  refine bodyPost_ret (results_cell_row (p := 0) (ty := 79) rfl _ _ w.heap.size 79 (cellsW K) (0, 0) _ rfl ?_ Try.underlying79 rfl (by kernel_rfl)) rfl ⟨rfl, by rw [World.setRow_alloc_new]; exact (Below.refl _ _).alloc (Nat.le_refl _) _⟩
  rw [World.setRow_alloc_new]
  exact heap_alloc_new w _
end Go.Proofs.Ytipgldfbjlhpoaa.Sha
