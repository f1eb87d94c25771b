/- SHA-256 as plain functions on lists of bytes and of 32-bit words, and the plain facts that the two programs' texts need. No program stands here. SHA-256's small functions (the rotation, the tables) over this program: contracts, in terms of 32-bit words. SHA-256's schedule of words, as sha.spread makes it: its contract. -/
import Derived.Test.YtipgldfbjlhpoabProg
import Derived.WalkKit
import Derived.Outline
import Derived.BigQuiet
import Derived.Deep.QuietTactic
import Derived.Lib.Hide
import Derived.Below
import Derived.Laws.Rows
import Derived.Deep.WholeRow
import Derived.Laws.Tables
import Derived.StillTailTactics
import Derived.KernelRfl
import Derived.Test.YtipgldfbjlhpoabZeP0
import Derived.Deep.CutRange
import Derived.Deep.DeepCutAuto
import Derived.Deep.LoopGhost
namespace Go.Proofs.Ytipgldfbjlhpoab.Sha
set_option linter.unusedVariables false
set_option linter.unusedSimpArgs false
structure S8 where
 (a b c d e f g h : BitVec 32)
def K : List (BitVec 32) := [
 0x428a2f98, 0x71374491, 0xb5c0fbcf, 0xe9b5dba5, 0x3956c25b, 0x59f111f1, 0x923f82a4, 0xab1c5ed5,
 0xd807aa98, 0x12835b01, 0x243185be, 0x550c7dc3, 0x72be5d74, 0x80deb1fe, 0x9bdc06a7, 0xc19bf174,
 0xe49b69c1, 0xefbe4786, 0x0fc19dc6, 0x240ca1cc, 0x2de92c6f, 0x4a7484aa, 0x5cb0a9dc, 0x76f988da,
 0x983e5152, 0xa831c66d, 0xb00327c8, 0xbf597fc7, 0xc6e00bf3, 0xd5a79147, 0x06ca6351, 0x14292967,
 0x27b70a85, 0x2e1b2138, 0x4d2c6dfc, 0x53380d13, 0x650a7354, 0x766a0abb, 0x81c2c92e, 0x92722c85,
 0xa2bfe8a1, 0xa81a664b, 0xc24b8b70, 0xc76c51a3, 0xd192e819, 0xd6990624, 0xf40e3585, 0x106aa070,
 0x19a4c116, 0x1e376c08, 0x2748774c, 0x34b0bcb5, 0x391c0cb3, 0x4ed8aa4a, 0x5b9cca4f, 0x682e6ff3,
 0x748f82ee, 0x78a5636f, 0x84c87814, 0x8cc70208, 0x90befffa, 0xa4506ceb, 0xbef9a3f7, 0xc67178f2]
def firstS : S8 := ⟨0x6a09e667, 0xbb67ae85, 0x3c6ef372, 0xa54ff53a, 0x510e527f, 0x9b05688c, 0x1f83d9ab, 0x5be0cd19⟩
def ror (x : BitVec 32) (n : Nat) : BitVec 32 := x <<< (32 - n) ||| x >>> n
def sg0 (x : BitVec 32) : BitVec 32 := ror x 7 ^^^ ror x 18 ^^^ x >>> 3
def sg1 (x : BitVec 32) : BitVec 32 := ror x 17 ^^^ ror x 19 ^^^ x >>> 10
def schedW (L : List (BitVec 32)) (t : Nat) : BitVec 32 := L.getD (t - 16) 0 + sg0 (L.getD (t - 15) 0) + L.getD (t - 7) 0 + sg1 (L.getD (t - 2) 0)
def schedStep (L : List (BitVec 32)) (t : Nat) : List (BitVec 32) := L.set t (schedW L t)
def byteAt (b : List UInt8) (i : Nat) : BitVec 32 := BitVec.ofNat 32 (b.getD i 0).toNat
def word (b : List UInt8) (i : Nat) : BitVec 32 := byteAt b i <<< 24 ||| byteAt b (i + 1) <<< 16 ||| byteAt b (i + 2) <<< 8 ||| byteAt b (i + 3)
def words (b : List UInt8) : List (BitVec 32) := (List.range 16).map (fun t => word b (4 * t)) ++ List.replicate 48 0
def schedN (b : List UInt8) (n : Nat) : List (BitVec 32) := (List.range n).foldl (fun L j => schedStep L (16 + j)) (words b)
def sched (b : List UInt8) : List (BitVec 32) := schedN b 48
def one (s : S8) (k w : BitVec 32) : BitVec 32 := s.h + (ror s.e 6 ^^^ ror s.e 11 ^^^ ror s.e 25) + (s.g ^^^ s.e &&& (s.f ^^^ s.g)) + k + w
def two (s : S8) : BitVec 32 := (ror s.a 2 ^^^ ror s.a 13 ^^^ ror s.a 22) + (s.a &&& (s.b ||| s.c) ||| s.b &&& s.c)
def round (s : S8) (k w : BitVec 32) : S8 := ⟨one s k w + two s, s.a, s.b, s.c, s.d + one s k w, s.e, s.f, s.g⟩
def rounds (L : List (BitVec 32)) (s : S8) (n : Nat) : S8 := (List.range n).foldl (fun s t => round s (K.getD t 0) (L.getD t 0)) s
def addS (x y : S8) : S8 := ⟨x.a + y.a, x.b + y.b, x.c + y.c, x.d + y.d, x.e + y.e, x.f + y.f, x.g + y.g, x.h + y.h⟩
def block (h : S8) (b : List UInt8) : S8 := addS h (rounds (sched b) h 64)
def pad (n : Nat) : List UInt8 := 128 :: (List.replicate ((119 - n % 64) % 64) 0 ++ (List.range 8).map (fun i => UInt8.ofNat (n * 8 / 2 ^ (8 * (7 - i)))))
def blocks (h : S8) : Nat → List UInt8 → S8
 | 0, _ => h
 | n + 1, b => blocks (block h b) n (b.drop 64)
def bytes4 (x : BitVec 32) : List UInt8 := [UInt8.ofNat (x.toNat / 2 ^ 24), UInt8.ofNat (x.toNat / 2 ^ 16), UInt8.ofNat (x.toNat / 2 ^ 8), UInt8.ofNat x.toNat]
def out (s : S8) : List UInt8 := bytes4 s.a ++ (bytes4 s.b ++ (bytes4 s.c ++ (bytes4 s.d ++ (bytes4 s.e ++ (bytes4 s.f ++ (bytes4 s.g ++ bytes4 s.h))))))
def sumL (m : List UInt8) : List UInt8 := out (blocks firstS ((m.length + (pad m.length).length) / 64) (m ++ pad m.length))
theorem ch_eq (e f g : BitVec 32) : ((e &&& f) ^^^ (~~~e &&& g)) = (g ^^^ (e &&& (f ^^^ g))) := by
 ext i; simp; cases e[i] <;> cases f[i] <;> cases g[i] <;> rfl
theorem maj_eq (a b c : BitVec 32) : ((a &&& b) ^^^ (a &&& c) ^^^ (b &&& c)) = ((a &&& (b ||| c)) ||| (b &&& c)) := by
 ext i; simp; cases a[i] <;> cases b[i] <;> cases c[i] <;> rfl
theorem length_words (b : List UInt8) : (words b).length = 64 := by simp [words]
theorem schedN_succ (b : List UInt8) (n : Nat) : schedN b (n + 1) = schedStep (schedN b n) (16 + n) := by simp [schedN, List.range_succ]
theorem length_schedN (b : List UInt8) (n : Nat) : (schedN b n).length = 64 := by
 induction n with
 | zero => exact length_words b
 | succ n ih => rw [schedN_succ, schedStep, List.length_set, ih]
theorem rounds_succ (L : List (BitVec 32)) (s : S8) (n : Nat) : rounds L s (n + 1) = round (rounds L s n) (K.getD n 0) (L.getD n 0) := by simp [rounds, List.range_succ]
theorem getD_getElem {α : Type} (l : List α) (d : α) (i : Nat) (h : i < l.length) : l.getD i d = l[i] := by simp [List.getD, h]
theorem getD_words (b : List UInt8) (t : Nat) (h : t < 16) : (words b).getD t 0 = word b (4 * t) := by
 simp [words, List.getD, List.getElem?_append, h, List.getElem?_range]
theorem byteAt_take (b : List UInt8) (i n : Nat) : byteAt (b.take n) i = if i < n then byteAt b i else 0 := by
 unfold byteAt; simp only [List.getD, List.getElem?_take]
 split <;> simp
theorem byteAt_cut (b : List UInt8) (n j : Nat) (h : n = 64 ∨ b.length ≤ n) (hj : j < 64) : byteAt (b.take n) j = byteAt b j := by
 rw [byteAt_take]
 split
 · rfl
 · have hb : b.length ≤ j := by omega
   simp [byteAt, List.getD, List.getElem?_eq_none hb]
theorem word_cut (b : List UInt8) (n t : Nat) (h : n = 64 ∨ b.length ≤ n) (ht : t < 16) : word (b.take n) (4 * t) = word b (4 * t) := by
 unfold word; rw [byteAt_cut b n _ h (by omega), byteAt_cut b n _ h (by omega), byteAt_cut b n _ h (by omega), byteAt_cut b n _ h (by omega)]
theorem words_take (b : List UInt8) (n : Nat) (h : n = 64 ∨ b.length ≤ n) : words (b.take n) = words b := by
 have e : (List.range 16).map (fun t => word (b.take n) (4 * t)) = (List.range 16).map (fun t => word b (4 * t)) :=
  List.map_congr_left fun t ht => word_cut b n t h (List.mem_range.1 ht)
 rw [words, e, ← words]
theorem words_high (b : List UInt8) (t : Nat) (h : 16 ≤ t) (ht : t < 64) : (words b).getD t 0 = 0 := by
 unfold words; simp only [List.getD]; rw [List.getElem?_append_right (by simpa using h), List.getElem?_replicate, if_pos (by simp; omega)]; rfl
theorem words_step (b : List UInt8) (i : Nat) (h : i < 64) :
  words (b.take (i + 1)) = (words (b.take i)).set (i / 4) ((words (b.take i)).getD (i / 4) 0 ||| byteAt b i <<< (24 - 8 * (i % 4))) := by
 apply List.ext_getElem
 · simp [length_words]
 · intro t h1 h2
   have ht : t < 64 := by simpa [length_words] using h1
   rw [List.getElem_set]
   by_cases h16 : t < 16
   · have g : ∀ m (hh : t < (words (b.take m)).length), (words (b.take m))[t] = word (b.take m) (4 * t) := by
      intro m hh; have := getD_words (b.take m) t h16; rw [getD_getElem _ _ _ hh] at this; exact this
     rw [g, g]
     split
     · rename_i e
       rw [e, getD_words _ _ h16]; have hm : i % 4 < 4 := Nat.mod_lt _ (by decide)
       have hi : i = 4 * t + i % 4 := by omega
       unfold word; rw [byteAt_take, byteAt_take, byteAt_take, byteAt_take, byteAt_take, byteAt_take, byteAt_take, byteAt_take]
       rcases (show i % 4 = 0 ∨ i % 4 = 1 ∨ i % 4 = 2 ∨ i % 4 = 3 by omega) with h0 | h0 | h0 | h0 <;> rw [h0] at hi ⊢ <;> subst hi
       · simp (disch := omega) [if_pos, if_neg, show ¬ 4 * t + 1 < 4 * t by omega, show ¬ 4 * t + 2 < 4 * t by omega, show ¬ 4 * t + 3 < 4 * t by omega]
       · simp (disch := omega) [if_pos, if_neg]
       · simp [show 4 * t < 4 * t + 2 by omega, show 4 * t < 4 * t + 2 + 1 by omega, show 4 * t + 1 < 4 * t + 2 + 1 by omega]
       · simp [show 4 * t < 4 * t + 3 by omega, show 4 * t < 4 * t + 3 + 1 by omega, show 4 * t + 1 < 4 * t + 3 + 1 by omega, show 4 * t + 2 < 4 * t + 3 + 1 by omega]
     · rename_i e
       unfold word; rw [byteAt_take, byteAt_take, byteAt_take, byteAt_take, byteAt_take, byteAt_take, byteAt_take, byteAt_take]
       have hs : ∀ j, j / 4 = t → ((j < i + 1) = (j < i)) := by intro j hj; apply propext; constructor <;> intro _ <;> omega
       simp only [hs (4 * t) (by omega), hs (4 * t + 1) (by omega), hs (4 * t + 2) (by omega), hs (4 * t + 3) (by omega)]
   · have g : ∀ m (hh : t < (words (b.take m)).length), (words (b.take m))[t] = 0 := by
      intro m hh; rw [← getD_getElem _ 0 _ hh]; exact words_high _ _ (by omega) ht
     rw [g, g, if_neg (by omega)]
theorem word_ref (b : List UInt8) (i : Nat) :
  ((byteAt b i <<< 8 ||| byteAt b (i + 1)) <<< 8 ||| byteAt b (i + 2)) <<< 8 ||| byteAt b (i + 3) = word b i := by
 unfold word
 generalize byteAt b i = x0
 generalize byteAt b (i + 1) = x1
 generalize byteAt b (i + 2) = x2
 generalize byteAt b (i + 3) = x3
 simp only [BitVec.shiftLeft_or_distrib, ← BitVec.shiftLeft_add]
theorem length_pad (n : Nat) : (pad n).length = 9 + (119 - n % 64) % 64 := by simp [pad]; omega
theorem pad_whole (n : Nat) : (n + (pad n).length) % 64 = 0 := by rw [length_pad]; omega
theorem length_out (s : S8) : (out s).length = 32 := by simp [out, bytes4]
theorem length_sumL (m : List UInt8) : (sumL m).length = 32 := length_out _
end Go.Proofs.Ytipgldfbjlhpoab.Sha
namespace Go.Proofs.Ytipgldfbjlhpoab.Sha
set_option linter.unusedVariables false
set_option linter.unusedSimpArgs false
open Go.RowKit
theorem bits_bv (f : BinOp) (x y : BitVec 32) : bits f .u32 (x.toNat : Int) (y.toNat : Int) = ((match f with | .and => x &&& y | .or => x ||| y | .xor => x ^^^ y | _ => x &&& ~~~y).toNat : Int) := by
 unfold bits
 have e : ∀ z : BitVec 32, BitVec.ofInt IntKind.u32.bits (z.toNat : Int) = z := by intro z; apply BitVec.eq_of_toNat_eq; simp [IntKind.bits]
 rw [e, e]
 have g : ∀ z : BitVec 32, IntKind.u32.wrap (z.toNat : Int) = (z.toNat : Int) := by
  intro z; rw [IntKind.wrap_u32]; have := z.isLt; omega
 exact g _
theorem xor_bv (x y : BitVec 32) : bits .xor .u32 (x.toNat : Int) (y.toNat : Int) = ((x ^^^ y).toNat : Int) := bits_bv .xor x y
theorem and_bv (x y : BitVec 32) : bits .and .u32 (x.toNat : Int) (y.toNat : Int) = ((x &&& y).toNat : Int) := bits_bv .and x y
theorem or_bv (x y : BitVec 32) : bits .or .u32 (x.toNat : Int) (y.toNat : Int) = ((x ||| y).toNat : Int) := bits_bv .or x y
theorem add_bv (x y : BitVec 32) : ((x.toNat : Int) + y.toNat) % 4294967296 = ((x + y).toNat : Int) := by rw [BitVec.toNat_add]; omega
theorem shr_bv (x : BitVec 32) (n : Nat) : (x.toNat : Int) / 2 ^ n = ((x >>> n).toNat : Int) := by
 simp [BitVec.toNat_ushiftRight, Nat.shiftRight_eq_div_pow]
theorem shl_bv (x : BitVec 32) (n : Nat) : ((x.toNat : Int) * 2 ^ n) % 4294967296 = ((x <<< n).toNat : Int) := by
 simp [BitVec.toNat_shiftLeft, Nat.shiftLeft_eq]
theorem shr3_bv (x : BitVec 32) : (x.toNat : Int) / (8 : Int) = ((x >>> 3).toNat : Int) := shr_bv x 3
theorem shr10_bv (x : BitVec 32) : (x.toNat : Int) / (1024 : Int) = ((x >>> 10).toNat : Int) := shr_bv x 10
def cellsW (L : List (BitVec 32)) : Array Value := (L.map fun x => Value.int .u32 (x.toNat : Int)).toArray
theorem size_cellsW (L : List (BitVec 32)) : (cellsW L).size = L.length := by simp [cellsW]
theorem cellsW_get (L : List (BitVec 32)) (i : Nat) (h : i < L.length) : (cellsW L)[i]? = some (.int .u32 ((L.getD i 0).toNat : Int)) := by
 simp [cellsW, List.getD, h]
theorem cellsW_set (L : List (BitVec 32)) (i : Nat) (x : BitVec 32) : (cellsW L).setIfInBounds i (.int .u32 (x.toNat : Int)) = cellsW (L.set i x) := by
 apply Array.ext'; simp [cellsW, List.map_set]
def cells8 (s : S8) : Array Value := #[.int .u32 (s.a.toNat : Int), .int .u32 (s.b.toNat : Int), .int .u32 (s.c.toNat : Int), .int .u32 (s.d.toNat : Int), .int .u32 (s.e.toNat : Int), .int .u32 (s.f.toNat : Int), .int .u32 (s.g.toNat : Int), .int .u32 (s.h.toNat : Int)]
theorem ret_u32 {a b : Int} (h : a = b) : Ending.returned (.int .u32 a) = .returned (.int .u32 b) := by rw [h]
theorem rot_any (x : BitVec 32) (n : Int) (h0 : 0 < n) (h1 : n < 32) (w : World) :
  Calls Try.prog 186 #[.int .u32 (x.toNat : Int), .int .i64 (-n)] w fun e w' => e = .returned (.int .u32 ((ror x n.toNat).toNat : Int)) ∧ w = w' := by
 have e1 : bits .and .u64 (IntKind.u64.wrap (-n)) 31 = 32 - n := by
  obtain ⟨k, rfl⟩ := Int.eq_ofNat_of_zero_le (Int.le_of_lt h0)
  have hk : k < 32 := by omega
  have hk0 : 0 < k := by omega
  clear h0 h1
  revert hk0
  revert k
  decide +kernel
 have h2 : 0 ≤ 32 - n := by omega
 have e2 : IntKind.u64.wrap (32 - (32 - n)) = n := by
  have : (32 - (32 - n)) = n := by omega
  rw [this]; simp [IntKind.wrap, IntKind.bits, IntKind.signed]; omega
 have h3 : 0 ≤ n := by omega
 go_enter Try.func186, Try.ntmps186
 go_wp2; go_ret; refine ⟨ret_u32 ?_, rfl⟩
 have e3 : (32 - n).toNat = 32 - n.toNat := by omega
 rw [e3, shl_bv, shr_bv, or_bv]; rfl
theorem down_any (x : BitVec 32) (n : Int) (h0 : 0 < n) (h1 : n < 32) (w : World) :
  Calls Try.prog 181 #[.int .u32 (x.toNat : Int), .int .i64 n] w fun e w' => e = .returned (.int .u32 ((ror x n.toNat).toNat : Int)) ∧ w = w' := by
 go_enter Try.func181, Try.ntmps181
 go_wp2_with (go_at_call 186; refine (rot_any x n h0 h1 _).mono ?_; rintro e w' ⟨rfl, rfl⟩)
 go_ret; exact ⟨rfl, rfl⟩
theorem turned_any (x : BitVec 32) (n : Int) (h0 : 0 < n) (h1 : n < 32) (w : World) :
  Calls Try.prog 169 #[.int .u32 (x.toNat : Int), .int .u64 n] w fun e w' => e = .returned (.int .u32 ((ror x n.toNat).toNat : Int)) ∧ w = w' := by
 have h3 : 0 ≤ n := by omega
 go_enter Try.func169, Try.ntmps169
 go_wp2; go_ret; refine ⟨ret_u32 ?_, rfl⟩
 have e3 : (32 - n).toNat = 32 - n.toNat := by omega
 rw [e3, shl_bv, shr_bv, or_bv, BitVec.or_comm]; rfl
set_option maxRecDepth 100000
theorem build_to {P : Program} {ops : Array Oper} {rest : List Oper} {o : Oper} {a : Act} {w : World} {Q : Exit → Act → World → Prop} (hg : o.guard = none) (t : TypeId) (parts : Array (Nat × Operand)) (ho : o.op = .build t parts)
  (C : Array Value) (hf : P.built t (parts.map fun (i, x) => (i, a.eval x)).toList = some C) (h : wpList P ops Q rest (a.put o.dst (.agg C)) w) : wpList P ops Q (o :: rest) a w :=
 wpList_build hg t parts ho (by rw [hf]; rfl) (by rw [hf]; exact h)
theorem first_any (w : World) : Calls Try.prog 165 #[] w fun e w' => e = .returned (.agg (cells8 firstS)) ∧ Below w.heap.size w w' := by
 go_enter Try.func165, Try.ntmps165
 go_wp2; refine bodyPost_ret (results_cell_row (p := 0) (ty := 195) rfl _ _ w.heap.size 195 (cells8 firstS) (0, 0) _ rfl ?_ Try.underlying195 rfl (by kernel_rfl)) rfl ⟨rfl, (Below.refl _ _).alloc (Nat.le_refl _) _⟩; refine (heap_alloc_new w _).trans ?_
 kernel_rfl
theorem regs_any (w : World) : Calls Try.prog 143 #[] w fun e w' => e = .returned (.agg (cells8 firstS)) ∧ Below w.heap.size w w' := by
 go_enter Try.func143, Try.ntmps143
 go_wp2; refine bodyPost_ret (results_cell_row (p := 0) (ty := 195) rfl _ _ w.heap.size 195 (cells8 firstS) (0, 0) _ rfl ?_ Try.underlying195 rfl (by kernel_rfl)) rfl ⟨rfl, (Below.refl _ _).alloc (Nat.le_refl _) _⟩; refine (heap_alloc_new w _).trans ?_
 kernel_rfl
theorem constants_any (w : World) : Calls Try.prog 180 #[] w fun e w' => e = .returned (.agg (cellsW K)) ∧ Below w.heap.size w w' := by
 go_enter Try.func180, Try.ntmps180
 go_wp2_with (first
  | (refine build_to rfl 218 _ rfl (cellsW K) (by kernel_rfl) ?_)
  | (refine wpList_store_row rfl 218 _ _ rfl w.heap.size (cellsW K) rfl rfl 218 _ (heap_alloc_new w _) (by kernel_rfl) (by kernel_rfl) (by kernel_rfl) ?_))
 refine bodyPost_ret (results_cell_row (p := 0) (ty := 218) rfl _ _ w.heap.size 218 (cellsW K) (0, 0) _ rfl ?_ Try.underlying218 rfl (by kernel_rfl)) rfl ⟨rfl, by rw [World.setRow_alloc_new]; exact (Below.refl _ _).alloc (Nat.le_refl _) _⟩; rw [World.setRow_alloc_new]; exact heap_alloc_new w _
theorem consts_any (w : World) : Calls Try.prog 170 #[] w fun e w' => e = .returned (.agg (cellsW K)) ∧ Below w.heap.size w w' := by
 go_enter Try.func170, Try.ntmps170
 go_wp2_with (first
  | (refine build_to rfl 218 _ rfl (cellsW K) (by kernel_rfl) ?_)
  | (refine wpList_store_row rfl 218 _ _ rfl w.heap.size (cellsW K) rfl rfl 218 _ (heap_alloc_new w _) (by kernel_rfl) (by kernel_rfl) (by kernel_rfl) ?_))
 refine bodyPost_ret (results_cell_row (p := 0) (ty := 218) rfl _ _ w.heap.size 218 (cellsW K) (0, 0) _ rfl ?_ Try.underlying218 rfl (by kernel_rfl)) rfl ⟨rfl, by rw [World.setRow_alloc_new]; exact (Below.refl _ _).alloc (Nat.le_refl _) _⟩; rw [World.setRow_alloc_new]; exact heap_alloc_new w _
end Go.Proofs.Ytipgldfbjlhpoab.Sha
namespace Go.Proofs.Ytipgldfbjlhpoab.Sha
set_option linter.unusedVariables false
set_option linter.unusedSimpArgs false
open Go.RowKit Go.Proofs.YtipgldfbjlhpoabW.PrintWords Go.Proofs.YtipgldfbjlhpoabW.PrintLast Go.Proofs.YtipgldfbjlhpoabW.PrintMore
attribute [local go_sem] max2_int min2_int max_two min_two
set_option maxRecDepth 100000
theorem byteAt_get (b : ByteArray) (k : Nat) (h : k < b.size) : IntKind.u32.wrap (((b[k]'h).toNat : Nat) : Int) = ((byteAt b.data.toList k).toNat : Int) := by
 have e : b.data.toList.getD k 0 = b[k]'h := by
  have h' : k < b.data.toList.length := by rw [Array.length_toList]; exact h
  rw [getD_getElem _ _ _ h']; rfl
 have := (b[k]'h).toNat_lt; unfold byteAt; rw [e, IntKind.wrap_u32, BitVec.toNat_ofNat]; omega
section
variable {w : World} {g i : Nat} {t : TypeId} {L : List (BitVec 32)} {cs : Array Value}
theorem row_cell (h : w.heap[g]? = some (.cells (cellsW L) t (0, 0))) (hi : i < L.length) {x : BitVec 32} (hx : x = L.getD i 0) : w.cell? ⟨g, i, none⟩ = some (.int .u32 (x.toNat : Int)) := by
 rw [cell_of_row _ _ _ _ _ _ h, cellsW_get _ _ hi, hx]
theorem row_set (h : w.heap[g]? = some (.cells (cellsW L) t (0, 0))) (x : BitVec 32) {v : Int} (hv : v = (x.toNat : Int)) : (w.setCell ⟨g, i, none⟩ (.int .u32 v)).heap[g]? = some (.cells (cellsW (L.set i x)) t (0, 0)) := by
 rw [hv, heap_setCell_same w g i _ t _ h, cellsW_set]
theorem row_far (h : w.heap[g]? = some (.cells cs t (0, 0))) {a : Addr} (v : Value) (hg : g ≠ a.block) : (w.setCell a v).heap[g]? = some (.cells cs t (0, 0)) := by
 rw [heap_setCell_other w a g v hg]; exact h
end
theorem oneCell_cellsW (L : List (BitVec 32)) : (cellsW L).all (·.oneCell') = true := by
 rw [Array.all_eq_true_iff_forall_mem]; intro v hv; simp only [cellsW, List.mem_toArray, List.mem_map] at hv; obtain ⟨x, _, rfl⟩ := hv; rfl
theorem below_setRow {B : Nat} {w w' : World} (h : Below B w w') {g : Nat} (hg : B ≤ g) (cs : Array Value) : Below B w (w'.setRow g cs) :=
 ⟨h.os, h.tape, h.output, by simp; exact h.size, fun b hb => (setRow_other w' g b cs (by omega)).trans (h.block b hb)⟩
set_option maxHeartbeats 1000000 in
theorem spread_any (b : ByteArray) (w : World) (hb : b.size ≤ maxLen) :
  Calls Try.prog 179 #[.string b] w fun e w' => e = .returned (.agg (cellsW (sched b.data.toList))) ∧ Below w.heap.size w w' := by
 unfold maxLen at hb
 go_enter Try.func179, Try.ntmps179
 go_upto_region 1 with fail
 go_cut [2, 3] (fun s2 s3 wx => s2 = .pointer (some ⟨w.heap.size, 0, none⟩) ∧ s3 = .pointer (some ⟨w.heap.size + 1, 0, none⟩) ∧ wx.heap[w.heap.size]? = some (.cells (cellsW (words [])) 218 (0, 0)) ∧
  wx.heap[w.heap.size + 1]? = some (.cells (cellsW (words [])) 218 (0, 0)) ∧ Below w.heap.size w wx)
 case first =>
  go_wp2_with fail
  go_meet; exact ⟨rfl, rfl, (heap_alloc2_old w _ _).trans (by kernel_rfl), (heap_alloc2_new w _ _).trans (by kernel_rfl), ((Below.refl _ _).alloc (Nat.le_refl _) _).alloc (by simp) _⟩
 case rest =>
  obtain ⟨rfl, rfl, h0, h1, hB⟩ := hcut
  obtain ⟨wp, rfl⟩ : ∃ wp : World, wp = wc := ⟨_, rfl⟩
  obtain ⟨M, hM⟩ : ∃ M : Nat, M = min 64 b.size := ⟨_, rfl⟩
  have HM := Lib.hid hM
  have hM1 : M ≤ b.size := by omega
  have hM2 : M ≤ 64 := by omega
  clear hM; have H0 := Lib.hid h0; have H1 := Lib.hid h1; clear h0 h1
  go_upto_region 2 with fail
  go_cut [12, 13] (fun s12 s13 wx => s12 = .int .i64 (M : Int) ∧ s13 = .int .i64 ((0 : Nat) : Int) ∧ wx = wp)
  case first =>
   go_wp2
   all_goals go_meet
   all_goals exact ⟨congrArg (Value.int .i64) (by have := HM.out; omega), rfl, rfl⟩
  case rest =>
   obtain ⟨rfl, rfl, rfl⟩ := hcut; go_wp2
   go_loopw [13, 4] (fun c i wr => ∃ k : Nat, k ≤ M ∧ c = .int .i64 (k : Int) ∧ wr.heap[w.heap.size]? = some (.cells (cellsW (words [])) 218 (0, 0)) ∧
     wr.heap[w.heap.size + 1]? = some (.cells (cellsW (words (b.data.toList.take k))) 218 (0, 0)) ∧ Below w.heap.size w wr) (fun c _ _ => M - (intOf c).toNat)
   case atStart => exact ⟨0, Nat.zero_le _, rfl, H0.out, H1.out, hB⟩
   case round =>
    obtain ⟨k, hk, rfl, h0, h1, hB⟩ := hrel
    by_cases hlt : k < M
    · have hdec : decide ((k : Int) < (M : Int)) = true := by simp; omega
      have hkb : k < b.size := by omega
      have hlen := length_words (b.data.toList.take k)
      obtain ⟨q, hq⟩ : ∃ q : Nat, q = k / 4 := ⟨_, rfl⟩
      obtain ⟨r, hr⟩ : ∃ r : Nat, r = k % 4 := ⟨_, rfl⟩
      obtain ⟨s, hs⟩ : ∃ s : Nat, s = 24 - 8 * r := ⟨_, rfl⟩
      have hq64 : q < 64 := by omega
      have hq64i : (q : Int) < 64 := by omega
      have hkbi : (k : Int) < (b.size : Int) := by omega
      have hr4 : r < 4 := by omega
      have e1 : IntKind.i64.wrap ((k : Int) / 4) = (q : Int) := by rw [IntKind.wrap_i64]; omega
      have e2 : (k : Int).tmod 4 = (r : Int) := by rw [Int.tmod_eq_emod_of_nonneg (by omega)]; omega
      have e3 : IntKind.i64.wrap (8 * (r : Int)) = 8 * (r : Int) := by rw [IntKind.wrap_i64]; omega
      have e4 : IntKind.i64.wrap (24 - 8 * (r : Int)) = (s : Int) := by rw [IntKind.wrap_i64]; omega
      obtain ⟨x, hx⟩ : ∃ x, x = (words (b.data.toList.take k)).getD q 0 := ⟨_, rfl⟩
      obtain ⟨y, hy⟩ : ∃ y, y = byteAt b.data.toList k := ⟨_, rfl⟩
      have hc : wr.cell? ⟨w.heap.size + 1, q, none⟩ = some (.int .u32 (x.toNat : Int)) := by
       rw [cell_of_row _ _ _ _ _ _ h1, cellsW_get _ _ (by omega), hx]
      have ey : IntKind.u32.wrap (((b[k]'hkb).toNat : Nat) : Int) = (y.toNat : Int) := by
       rw [hy]; exact byteAt_get b k hkb
      have Hx := Lib.hid hx; have Hy := Lib.hid hy
      have hs0 : (0 : Int) ≤ (s : Int) := by omega
      have hs32 : s ≤ 32 := by omega
      clear hx hy; have hf : wr.frozen? ⟨w.heap.size + 1, q, none⟩ = false := frozen_of_row _ _ _ _ _ h1; have Hq := Lib.hid hq; have Hr := Lib.hid hr; have Hs := Lib.hid hs; clear hq hr hs; have H0 := Lib.hid h0; have H1 := Lib.hid h1; have HL := Lib.hid hlen; clear h0 h1 hlen
      go_upto_region 5 with fail
      go_still_tail 15, (by kernel_rfl)
      change wpList _ _ _ _ _ wr.drew
      go_wp2
      have hv : bits .or .u32 (x.toNat : Int) ((y.toNat : Int) * 2 ^ s % 4294967296) = ((x ||| y <<< s).toNat : Int) := by rw [shl_bv, or_bv]
      have ew : words (b.data.toList.take (k + 1)) = (words (b.data.toList.take k)).set q (x ||| y <<< s) := by
       have := Hq.out; have := Hr.out; have := Hs.out
       rw [words_step _ _ (by omega), ← Hq.out, ← Hx.out, ← Hy.out, Hs.out, Hr.out]
      refine ⟨⟨k + 1, by omega, by go_num, ?_, ?_, ?_⟩, by simp [intOf]; omega⟩
      · exact row_far H0.out _ (by simp)
      · rw [ew]; exact row_set H1.out _ hv
      · exact below_drew (hB.setCell (by simp) _)
    · have hdec : decide ((k : Int) < (M : Int)) = false := by simp; omega
      have hkM : k = M := by omega
      rw [hkM, words_take _ _ (by have := HM.out; rw [Array.length_toList]; change M = 64 ∨ b.size ≤ M; omega)] at h1; have H0 := Lib.hid h0; have H1 := Lib.hid h1; clear h0 h1 hkM
      go_upto_region 7 with fail
      go_wp2
      go_loopw [5] (fun c wr => ∃ j : Nat, j ≤ 48 ∧ c = .int .i64 ((16 + j : Nat) : Int) ∧ wr.heap[w.heap.size]? = some (.cells (cellsW (words [])) 218 (0, 0)) ∧
        wr.heap[w.heap.size + 1]? = some (.cells (cellsW (schedN b.data.toList j)) 218 (0, 0)) ∧ Below w.heap.size w wr) (fun c _ => 64 - (intOf c).toNat)
      case atStart => exact ⟨0, by omega, rfl, H0.out, H1.out, hB⟩
      case round =>
       obtain ⟨j, hj, rfl, h0, h1, hB⟩ := hrel
       obtain ⟨t, ht⟩ : ∃ t : Nat, t = 16 + j := ⟨_, rfl⟩
       rw [← ht]; have hL := length_schedN b.data.toList j
       by_cases hlt : t < 64
       · have ht16 : 16 ≤ t := by omega
         have hdec : decide ((t : Int) < 64) = true := by simp; omega
         obtain ⟨t15, h15⟩ : ∃ t15 : Nat, t15 = t - 15 := ⟨_, rfl⟩
         obtain ⟨t2, h2⟩ : ∃ t2 : Nat, t2 = t - 2 := ⟨_, rfl⟩
         obtain ⟨t16, h16⟩ : ∃ t16 : Nat, t16 = t - 16 := ⟨_, rfl⟩
         obtain ⟨t7, h7⟩ : ∃ t7 : Nat, t7 = t - 7 := ⟨_, rfl⟩
         have e15 : IntKind.i64.wrap ((t : Int) - 15) = (t15 : Int) := by rw [IntKind.wrap_i64]; omega
         have e2 : IntKind.i64.wrap ((t : Int) - 2) = (t2 : Int) := by rw [IntKind.wrap_i64]; omega
         have e16 : IntKind.i64.wrap ((t : Int) - 16) = (t16 : Int) := by rw [IntKind.wrap_i64]; omega
         have e7 : IntKind.i64.wrap ((t : Int) - 7) = (t7 : Int) := by rw [IntKind.wrap_i64]; omega
         have b15 : (t15 : Int) < 64 := by omega
         have b2 : (t2 : Int) < 64 := by omega
         have b16 : (t16 : Int) < 64 := by omega
         have b7 : (t7 : Int) < 64 := by omega
         have bt : (t : Int) < 64 := by omega
         obtain ⟨x15, hx15⟩ : ∃ x, x = (schedN b.data.toList j).getD t15 0 := ⟨_, rfl⟩
         obtain ⟨x2, hx2⟩ : ∃ x, x = (schedN b.data.toList j).getD t2 0 := ⟨_, rfl⟩
         obtain ⟨x16, hx16⟩ : ∃ x, x = (schedN b.data.toList j).getD t16 0 := ⟨_, rfl⟩
         obtain ⟨x7, hx7⟩ : ∃ x, x = (schedN b.data.toList j).getD t7 0 := ⟨_, rfl⟩
         obtain ⟨xt, hxt⟩ : ∃ x, x = (schedN b.data.toList j).getD t 0 := ⟨_, rfl⟩
         have c15 := row_cell h1 (by omega) hx15; have c2 := row_cell h1 (by omega) hx2; have c16 := row_cell h1 (by omega) hx16; have c7 := row_cell h1 (by omega) hx7; have ct := row_cell h1 (by omega) hxt; have cf : wr.frozen? ⟨w.heap.size + 1, t, none⟩ = false := frozen_of_row _ _ _ _ _ h1; have HT := Lib.hid (And.intro ht (And.intro h15 (And.intro h2 (And.intro h16 h7)))); have HX := Lib.hid (And.intro hx15 (And.intro hx2 (And.intro hx16 hx7))); have H0 := Lib.hid h0; have H1 := Lib.hid h1; clear h0 h1 ht h15 h2 h16 h7 hx15 hx2 hx16 hx7 hxt hL
         go_upto_region 10 with fail
         go_quiet (fail)
         go_upto_region 13 with (go_at_call 181; refine (down_any _ _ (by omega) (by omega) _).mono ?_; rintro e w' ⟨rfl, rfl⟩)
         obtain ⟨lo, hlo⟩ : ∃ lo, lo = sg0 x15 := ⟨_, rfl⟩
         obtain ⟨hi, hhi⟩ : ∃ hi, hi = sg1 x2 := ⟨_, rfl⟩
         have elo : bits .xor .u32 (bits .xor .u32 ((ror x15 7).toNat : Int) ((ror x15 18).toNat : Int)) ((x15.toNat : Int) / 8) = (lo.toNat : Int) := by rw [shr3_bv, xor_bv, xor_bv, hlo]; rfl
         have ehi : bits .xor .u32 (bits .xor .u32 ((ror x2 17).toNat : Int) ((ror x2 19).toNat : Int)) ((x2.toNat : Int) / 1024) = (hi.toNat : Int) := by rw [shr10_bv, xor_bv, xor_bv, hhi]; rfl
         simp only [elo, ehi]; have HLH := Lib.hid (And.intro hlo hhi); clear hlo hhi elo ehi; replace H0 : RowKit.Hid ((wr.drewN nq).heap[w.heap.size]? = some (.cells (cellsW (words [])) 218 (0, 0))) := H0; replace H1 : RowKit.Hid ((wr.drewN nq).heap[w.heap.size + 1]? = some (.cells (cellsW (schedN b.data.toList j)) 218 (0, 0))) := H1; replace c16 : (wr.drewN nq).cell? ⟨w.heap.size + 1, t16, none⟩ = some (.int .u32 (x16.toNat : Int)) := c16; replace c7 : (wr.drewN nq).cell? ⟨w.heap.size + 1, t7, none⟩ = some (.int .u32 (x7.toNat : Int)) := c7; replace ct : (wr.drewN nq).cell? ⟨w.heap.size + 1, t, none⟩ = some (.int .u32 (xt.toNat : Int)) := ct; replace cf : (wr.drewN nq).frozen? ⟨w.heap.size + 1, t, none⟩ = false := cf; replace hB := pbN hB nq; clear c15 c2
         generalize wr.drewN nq = wq at *
         go_still_tail 15, (by kernel_rfl)
         change wpList _ _ _ _ _ wq.drew
         go_wp2
         have hv : (((x16.toNat : Int) + lo.toNat + x7.toNat + hi.toNat) % 4294967296) = ((x16 + lo + x7 + hi).toNat : Int) := by
          simp only [BitVec.toNat_add]; omega
         have es : schedN b.data.toList (j + 1) = (schedN b.data.toList j).set t (x16 + lo + x7 + hi) := by
          obtain ⟨g1, g2, g3, g4, g5⟩ := HT.out; obtain ⟨f1, f2, f3, f4⟩ := HX.out; rw [schedN_succ, schedStep, schedW, ← g1, ← g2, ← g3, ← g4, ← g5, ← f1, ← f2, ← f3, ← f4, HLH.out.1, HLH.out.2]
         have h1j := HT.out.1; refine ⟨⟨j + 1, by omega, by rw [h1j]; go_num, ?_, ?_, ?_⟩, by simp [intOf]; omega⟩
         · exact row_far H0.out _ (by simp)
         · rw [es]; exact row_set H1.out _ hv
         · exact below_drew (hB.setCell (by simp) _)
       · have hdec : decide ((t : Int) < 64) = false := by simp; omega
         have hj48 : j = 48 := by omega
         rw [hj48] at h1; have H0 := Lib.hid h0; have H1 := Lib.hid h1; clear h0 h1 hL ht hj48
         go_wp2_with (first
          | (refine wpList_load_row rfl 218 _ rfl (w.heap.size + 1) rfl 218 (cellsW (schedN b.data.toList 48)) (0, 0) _ H1.out Try.underlying218 rfl (by rw [size_cellsW, length_schedN]; kernel_rfl) ?_)
          | (refine wpList_store_row rfl 218 _ _ rfl w.heap.size (cellsW (schedN b.data.toList 48)) rfl rfl 218 (cellsW (words [])) H0.out (by rw [size_cellsW, length_schedN]; kernel_rfl) (by rw [size_cellsW, length_words, size_cellsW, length_schedN]) (oneCell_cellsW _) ?_))
         refine bodyPost_ret (results_cell_row (p := 2) (ty := 218) rfl _ _ w.heap.size 218 (cellsW (schedN b.data.toList 48)) (0, 0) _ rfl (setRow_heap _ _ _ _ _ _ H0.out) Try.underlying218 rfl (by rw [size_cellsW, length_schedN]; kernel_rfl)) rfl ⟨rfl, ?_⟩; exact below_setRow hB (Nat.le_refl _) _
end Go.Proofs.Ytipgldfbjlhpoab.Sha
