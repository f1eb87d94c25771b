/- The padding, as sha.Pad and the reference make it: both come to the plain 'pad'. -/
import Derived.Test.YtipgldfbjlhpoabZeHSha1
import Derived.Test.YtipgldfbjlhpoabZePRWireR
import Derived.Test.YtipgldfbjlhpoabZePRSha
import Derived.Test.YtipgldfbjlhpoabZeHRShaB
import Derived.Laws.AppendOwn
import Derived.Deep.RegionWith
import Derived.Lib.IndexBytes
import Derived.Lib.Strings
import Derived.Deep.RegionHeld3
import Derived.Deep.AppendLies
namespace Go.Proofs.Ytipgldfbjlhpoab.Sha
set_option linter.unusedVariables false
set_option linter.unusedSimpArgs false
open Go.RowKit Go.Proofs.YtipgldfbjlhpoabW.PrintWords Go.Proofs.YtipgldfbjlhpoabW.PrintLast Go.Proofs.YtipgldfbjlhpoabW.PrintMore
def ofL (l : List UInt8) : ByteArray := ⟨l.toArray⟩
def ints (l : List UInt8) : List Int := l.map fun b => (b.toNat : Int)
theorem ofL_ints (l : List UInt8) : strOfNums (ints l) = ofL l := by
 unfold strOfNums ofL ints
 congr 2
 rw [List.map_map]
 conv => rhs; rw [← List.map_id l]
 apply List.map_congr_left; intro b _; simp
def padByte (n i : Nat) : UInt8 := UInt8.ofNat (n * 8 / 2 ^ (8 * i))
theorem pad_eq (n : Nat) : pad n = 128 :: (List.replicate ((119 - n % 64) % 64) 0 ++ [padByte n 7, padByte n 6, padByte n 5, padByte n 4, padByte n 3, padByte n 2, padByte n 1, padByte n 0]) := rfl
theorem shr_byte (n : Nat) (i : Nat) (hn : n ≤ 9223372036854775807) (hi : i < 8) : shr .u64 (IntKind.u64.wrap ((IntKind.u64.wrap (n : Int)) * 8)) ((8 * i : Nat) : Int) % 256 = ((padByte n i).toNat : Int) := by
 have e1 : IntKind.u64.wrap (n : Int) = (n : Int) := by simp [IntKind.wrap, IntKind.bits, IntKind.signed]; omega
 have e2 : IntKind.u64.wrap ((n : Int) * 8) = ((n * 8 % 18446744073709551616 : Nat) : Int) := by simp [IntKind.wrap, IntKind.bits, IntKind.signed]
 rw [e1, e2]; unfold shr padByte; rw [show (UInt8.ofNat (n * 8 / 2 ^ (8 * i))).toNat = n * 8 / 2 ^ (8 * i) % 256 by simp]
 have e3 : min ((8 * i : Nat) : Int).toNat IntKind.u64.bits = 8 * i := by rw [Int.toNat_natCast]; exact Nat.min_eq_left (by simp [IntKind.bits]; omega)
 rw [e3]
 have e4 : n * 8 % 18446744073709551616 / 2 ^ (8 * i) % 256 = n * 8 / 2 ^ (8 * i) % 256 := by
  rcases (show i = 0 ∨ i = 1 ∨ i = 2 ∨ i = 3 ∨ i = 4 ∨ i = 5 ∨ i = 6 ∨ i = 7 by omega) with rfl | rfl | rfl | rfl | rfl | rfl | rfl | rfl <;> simp <;> omega
 rw [show ((2 : Int) ^ (8 * i)) = ((2 ^ (8 * i) : Nat) : Int) by simp]; rw [← e4]; simp only [Int.natCast_emod, Int.natCast_ediv]; rfl
theorem pad_step (n z : Nat) (hn : n ≤ 9223372036854775807) (hz : z < 64) (X : List Int) (hX : X.length = z + 1) (t : List Int) (ht : t.length = 8) (k i : Nat) (hi : i < 8) :
  P.sha_Pad.l0 (k + 1) (n : Int) (X ++ t) (i : Int) = P.sha_Pad.l0 k (n : Int) (X ++ t.set (7 - i) ((padByte n i).toNat : Int)) ((i + 1 : Nat) : Int) := by
 have hl : (X ++ t).length = z + 9 := by simp [hX, ht]
 have b1 : (i : Int) < 8 := by omega
 have b2 : (0 : Int) ≤ ((8 * i : Nat) : Int) := by omega
 have b3 : (0 : Int) ≤ ((z + 8 - i : Nat) : Int) := by omega
 have b4 : ((z + 8 - i : Nat) : Int) < ((z + 9 : Nat) : Int) := by omega
 have b5 : X.length ≤ z + 8 - i := by omega
 have b6 : z + 8 - i - (z + 1) = 7 - i := by omega
 have w1 : wrap64 (8 * (i : Int)) = ((8 * i : Nat) : Int) := by unfold wrap64; omega
 have w2 : wrap64 (((z + 9 : Nat) : Int) - 1) = ((z + 8 : Nat) : Int) := by unfold wrap64; omega
 have w3 : wrap64 (((z + 8 : Nat) : Int) - (i : Int)) = ((z + 8 - i : Nat) : Int) := by unfold wrap64; omega
 have w4 : wrap64 ((i : Int) + 1) = ((i + 1 : Nat) : Int) := by unfold wrap64; omega
 simp only [P.sha_Pad.l0]; rw [hl, w1, w2, w3, w4, if_pos b1, if_pos b2, if_pos b3, if_pos b4, shr_byte n i hn hi, Int.toNat_natCast, List.set_append_right _ _ b5, hX, b6]
theorem pad_ok (n : Nat) (hn : n ≤ 9223372036854775807) : P.sha_Pad.f 9 (n : Int) = some (ofL (pad n)) := by
 obtain ⟨z, hz⟩ : ∃ z, z = (119 - n % 64) % 64 := ⟨_, rfl⟩
 have hz64 : z < 64 := by omega
 have t1 : Int.tmod (n : Int) 64 = ((n % 64 : Nat) : Int) := by rw [Int.tmod_eq_emod_of_nonneg (by omega)]; omega
 have t2 : wrap64 (119 - ((n % 64 : Nat) : Int)) = ((119 - n % 64 : Nat) : Int) := by unfold wrap64; omega
 have t3 : Int.tmod ((119 - n % 64 : Nat) : Int) 64 = (z : Int) := by rw [Int.tmod_eq_emod_of_nonneg (by omega)]; omega
 have t4 : wrap64 (1 + (z : Int)) = ((z + 1 : Nat) : Int) := by unfold wrap64; omega
 have t5 : wrap64 (((z + 1 : Nat) : Int) + 8) = ((z + 9 : Nat) : Int) := by unfold wrap64; omega
 have X : (List.replicate (z + 9) (0 : Int)).set (0 : Int).toNat 128 = (128 :: List.replicate z 0) ++ [0, 0, 0, 0, 0, 0, 0, 0] := by
  rw [List.replicate_succ]
  show 128 :: List.replicate (z + 8) 0 = _
  rw [← List.replicate_append_replicate]; rfl
 unfold P.sha_Pad.f; rw [if_neg (by omega), t1, t2, t3, t4, t5, if_pos (by omega), if_pos (by omega), Int.toNat_natCast]; simp only [Option.bind_some]; rw [if_pos (by rw [List.length_replicate]; omega), X]
 have hX : (128 :: List.replicate z (0 : Int)).length = z + 1 := by simp
 have h0 : (0 : Int) = ((0 : Nat) : Int) := rfl; refine (congrArg (P.sha_Pad.l0 9 (n : Int) ((128 :: List.replicate z 0) ++ [0, 0, 0, 0, 0, 0, 0, 0])) h0).trans ?_
 rw [pad_step n z hn hz64 _ hX _ rfl 8 0 (by omega), pad_step n z hn hz64 _ hX _ (by simp) 7 1 (by omega), pad_step n z hn hz64 _ hX _ (by simp) 6 2 (by omega), pad_step n z hn hz64 _ hX _ (by simp) 5 3 (by omega),
  pad_step n z hn hz64 _ hX _ (by simp) 4 4 (by omega), pad_step n z hn hz64 _ hX _ (by simp) 3 5 (by omega), pad_step n z hn hz64 _ hX _ (by simp) 2 6 (by omega), pad_step n z hn hz64 _ hX _ (by simp) 1 7 (by omega)]
 simp only [P.sha_Pad.l0]; rw [if_neg (by omega), ← ofL_ints, pad_eq, ← hz]
 congr 1
 simp [ints]
theorem rpad_step1 (n : Nat) (hn : n ≤ 9223372036854775807) (xs : List Int) (hx : xs.length < 1000) (k i : Nat) (hi : i < 8) :
  P.footbridgeref04_Pad.l1 (k + 1) (n : Int) xs (i : Int) = P.footbridgeref04_Pad.l1 k (n : Int) (xs ++ [((padByte n i).toNat : Int)]) ((i : Int) - 1) := by
 have w1 : wrap64 (8 * (i : Int)) = ((8 * i : Nat) : Int) := by unfold wrap64; omega
 have w2 : IntKind.u64.wrap ((8 * i : Nat) : Int) = ((8 * i : Nat) : Int) := by simp [IntKind.wrap, IntKind.bits, IntKind.signed]; omega
 have w3 : wrap64 ((i : Int) - 1) = (i : Int) - 1 := by unfold wrap64; omega
 simp only [P.footbridgeref04_Pad.l1]; rw [if_pos (by omega), w1, w2, if_pos (by omega), if_pos (by omega), shr_byte n i hn hi, w3]
theorem rpad_tail (n : Nat) (hn : n ≤ 9223372036854775807) (xs : List Int) (hx : xs.length < 900) :
  P.footbridgeref04_Pad.l1 9 (n : Int) xs 7 = some (strOfNums (xs ++ ints [padByte n 7, padByte n 6, padByte n 5, padByte n 4, padByte n 3, padByte n 2, padByte n 1, padByte n 0])) := by
 refine (congrArg (P.footbridgeref04_Pad.l1 9 (n : Int) xs) (show (7 : Int) = ((7 : Nat) : Int) from rfl)).trans ?_; rw [rpad_step1 n hn _ (by omega) 8 7 (by omega)]; rw [show (((7 : Nat) : Int) - 1) = ((6 : Nat) : Int) from rfl, rpad_step1 n hn _ (by simp; omega) 7 6 (by omega)]; rw [show (((6 : Nat) : Int) - 1) = ((5 : Nat) : Int) from rfl, rpad_step1 n hn _ (by simp; omega) 6 5 (by omega)]; rw [show (((5 : Nat) : Int) - 1) = ((4 : Nat) : Int) from rfl, rpad_step1 n hn _ (by simp; omega) 5 4 (by omega)]; rw [show (((4 : Nat) : Int) - 1) = ((3 : Nat) : Int) from rfl, rpad_step1 n hn _ (by simp; omega) 4 3 (by omega)]; rw [show (((3 : Nat) : Int) - 1) = ((2 : Nat) : Int) from rfl, rpad_step1 n hn _ (by simp; omega) 3 2 (by omega)]; rw [show (((2 : Nat) : Int) - 1) = ((1 : Nat) : Int) from rfl, rpad_step1 n hn _ (by simp; omega) 2 1 (by omega)]; rw [show (((1 : Nat) : Int) - 1) = ((0 : Nat) : Int) from rfl, rpad_step1 n hn _ (by simp; omega) 1 0 (by omega)]; simp only [P.footbridgeref04_Pad.l1]; rw [if_neg (by omega)]; simp [ints]
theorem rpad_loop (n : Nat) (hn : n ≤ 9223372036854775807) (d : Nat) : ∀ (j : Nat), j + d = (119 - n % 64) % 64 → P.footbridgeref04_Pad.l0 (d + 10) (n : Int) (128 :: List.replicate j 0) = some (ofL (pad n)) := by
 have t1 : Int.tmod (n : Int) 64 = ((n % 64 : Nat) : Int) := by rw [Int.tmod_eq_emod_of_nonneg (by omega)]; omega
 have tt : ∀ j : Nat, j < 64 → Int.tmod (wrap64 ((wrap64 (((n % 64 : Nat) : Int) + ((128 :: List.replicate j (0 : Int)).length : Int))) + 8)) 64 = (((n % 64 + j + 9) % 64 : Nat) : Int) := by
  intro j hj
  have a1 : wrap64 (((n % 64 : Nat) : Int) + ((128 :: List.replicate j (0 : Int)).length : Int)) = ((n % 64 + j + 1 : Nat) : Int) := by simp only [List.length_cons, List.length_replicate]; unfold wrap64; omega
  have a2 : wrap64 (((n % 64 + j + 1 : Nat) : Int) + 8) = ((n % 64 + j + 9 : Nat) : Int) := by unfold wrap64; omega
  rw [a1, a2, Int.tmod_eq_emod_of_nonneg (by omega)]; omega
 induction d with
 | zero =>
  intro j hj; simp only [P.footbridgeref04_Pad.l0]; rw [t1, tt j (by omega), if_pos (by omega), rpad_tail n hn _ (by simp; omega), ← ofL_ints, pad_eq, ← hj]
  congr 2
  simp [ints]
 | succ d ih =>
  intro j hj; rw [show d + 1 + 10 = (d + 10) + 1 by omega]; simp only [P.footbridgeref04_Pad.l0]; rw [t1, tt j (by omega), if_neg (by omega), if_pos (by simp; omega)]
  have e : (128 :: List.replicate j (0 : Int)) ++ [0] = 128 :: List.replicate (j + 1) 0 := by
   rw [List.cons_append, List.replicate_succ']
  rw [e]; exact ih (j + 1) (by omega)
theorem rpad_ok (n : Nat) (hn : n ≤ 9223372036854775807) : P.footbridgeref04_Pad.f ((119 - n % 64) % 64 + 10) (n : Int) = some (ofL (pad n)) := by
 unfold P.footbridgeref04_Pad.f; rw [if_neg (by omega)]; exact rpad_loop n hn _ 0 (by omega)
end Go.Proofs.Ytipgldfbjlhpoab.Sha
namespace Go.Proofs.Ytipgldfbjlhpoab.Sha
set_option linter.unusedVariables false
set_option linter.unusedSimpArgs false
open Go.RowKit Go.Proofs.YtipgldfbjlhpoabW.PrintWords Go.Proofs.YtipgldfbjlhpoabW.PrintLast Go.Proofs.YtipgldfbjlhpoabW.PrintMore
set_option maxRecDepth 100000
theorem blocks_add (t : Nat) : ∀ (q : Nat) (h : S8) (b : List UInt8), blocks h (q + t) b = blocks (blocks h q b) t (b.drop (64 * q)) := by
  intro q
  induction q with
  | zero => intro h b; simp [blocks]
  | succ q ih =>
    intro h b
    rw [show q + 1 + t = (q + t) + 1 by omega, blocks, ih, blocks, List.drop_drop, show 64 + 64 * q = 64 * (q + 1) by omega]
theorem blocks_snoc (h : S8) (q : Nat) (b : List UInt8) : blocks h (q + 1) b = block (blocks h q b) (b.drop (64 * q)) := by
  rw [blocks_add]; rfl
theorem block_take (h : S8) (b : List UInt8) : block h (b.take 64) = block h b := by
  have e : ∀ n, schedN (b.take 64) n = schedN b n := by intro n; unfold schedN; rw [words_take b 64 (Or.inl rfl)]
  unfold block sched
  rw [e]
theorem block_front (h : S8) (a c : List UInt8) (hl : 64 ≤ a.length) : block h (a ++ c) = block h a := by
  rw [← block_take h (a ++ c), ← block_take h a, List.take_append_of_le_length hl]
theorem blocks_front (c : List UInt8) (q : Nat) : ∀ (h : S8) (a : List UInt8), 64 * q ≤ a.length → blocks h q (a ++ c) = blocks h q a := by
  induction q with
  | zero => intro h a _; rfl
  | succ q ih =>
    intro h a hl
    rw [blocks, blocks, block_front h a c (by omega), List.drop_append_of_le_length (by omega)]
    exact ih _ _ (by simp; omega)
theorem size_ofL (l : List UInt8) : (ofL l).size = l.length := by simp [ofL, ByteArray.size]
theorem data_ofL (l : List UInt8) : (ofL l).data.toList = l := by simp [ofL]
theorem ofL_data (s : ByteArray) : ofL s.data.toList = s := by cases s; simp [ofL]
theorem ofL_extract (l : List UInt8) (a : Nat) : (ofL l).extract a (ofL l).size = ofL (l.drop a) := by
  rw [← ofL_data ((ofL l).extract a (ofL l).size)]
  congr 1
  rw [Lib.extract_to_end, data_ofL]
theorem ofL_append (a b : List UInt8) : ofL a ++ ofL b = ofL (a ++ b) := by
  rw [← ofL_data (ofL a ++ ofL b)]
  simp [ofL]
def sumB (s : ByteArray) : ByteArray := ofL (sumL s.data.toList)
structure MemS (w0 w : World) (g : Nat) (s : S8) : Prop where
  below : Below w0.heap.size w0 w
  row : w.heap[g]? = some (.cells (cells8 s) 195 (0, 0))
  ge : w0.heap.size ≤ g
section
variable {w0 w : World} {g : Nat} {s : S8}
theorem MemS.drewN (h : MemS w0 w g s) (n : Nat) : MemS w0 (w.drewN n) g s := ⟨pbN h.below n, h.row, h.ge⟩
theorem MemS.drew (h : MemS w0 w g s) : MemS w0 w.drew g s := ⟨below_drew h.below, h.row, h.ge⟩
theorem MemS.under (h : MemS w0 w g s) {w' : World} (hb : Below w.heap.size w w') : MemS w0 w' g s := ⟨h.below.trans (hb.mono h.below.size), blk_below h.row hb, h.ge⟩
theorem MemS.put (h : MemS w0 w g s) (s' : S8) : MemS w0 (w.setRow g (cells8 s')) g s' := ⟨below_setRow h.below h.ge _, setRow_heap _ _ _ _ _ _ h.row, h.ge⟩
end
theorem pad_any (n : Nat) (pb : ByteArray) (w : World) (hn : n ≤ 9223372036854775807) (hp : pb = ofL (pad n)) : Calls Try.prog 167 #[.int .i64 (n : Int)] w fun e w' => e = .returned (.string pb) ∧ Below w.heap.size w w' := by
  subst hp
  exact P.sha_Pad.calls 9 (n : Int) _ w (pad_ok n hn)
theorem rpad_any (n : Nat) (pb : ByteArray) (w : World) (hn : n ≤ 9223372036854775807) (hp : pb = ofL (pad n)) : Calls Try.prog 142 #[.int .i64 (n : Int)] w fun e w' => e = .returned (.string pb) ∧ Below w.heap.size w w' := by
  subst hp
  exact P.footbridgeref04_Pad.calls _ (n : Int) _ w (rpad_ok n hn)
theorem info_u8 : (Try.prog.info? 5).map (fun i => (i.zero, i.size, i.bytes)) = some (some (.int .u8 0), 1, 1) := by kernel_rfl
def zeros32 : Array Value := Array.replicate 32 (.int .u8 0)
theorem index_row (s : S8) (i : Nat) (x : BitVec 32) (hi : i < 8) (hx : x = (L8 s).getD i 0) : ∀ w, (Instr.index 195 (.agg (cells8 s)) (.int .i64 (i : Int))).run Try.prog w = .ok (.int .u32 (x.toNat : Int)) w := by
  intro w
  subst hx
  rcases (show i = 0 ∨ i = 1 ∨ i = 2 ∨ i = 3 ∨ i = 4 ∨ i = 5 ∨ i = 6 ∨ i = 7 by omega) with rfl | rfl | rfl | rfl | rfl | rfl | rfl | rfl <;> kernel_rfl
def word4 (y : BitVec 32) : Array Value := #[.int .u8 ((y.toNat : Int) / 16777216), .int .u8 ((y.toNat : Int) / 65536 % 256), .int .u8 ((y.toNat : Int) / 256 % 256), .int .u8 ((y.toNat : Int) % 256)]
theorem word4_eq (y : BitVec 32) : (word4 y).toList = nums .u8 (ints (bytes4 y)) := by
  have h := y.isLt
  have e : ∀ n : Nat, (UInt8.ofNat n).toNat = n % 256 := fun n => by simp
  have e3 : ((y.toNat / 16777216 : Nat) : Int) = ((y.toNat / 16777216 % 256 : Nat) : Int) := by omega
  simp only [word4, nums, ints, bytes4, List.map_cons, List.map_nil, e]
  show [Value.int .u8 _, Value.int .u8 _, Value.int .u8 _, Value.int .u8 _] = [Value.int .u8 _, Value.int .u8 _, Value.int .u8 _, Value.int .u8 _]
  congr 2
theorem append_word {ops : Array Oper} {rest : List Oper} {o : Oper} {a : Act} {Q : Exit → Act → World → Prop} {wr : World} (base : Nat) (hgd : o.guard = none) (s x : Operand)
    (ho : o.op = .call { callee := .builtin .append, args := #[s, x], argTypes := #[142, 142] }) (v : Value) (n : Nat) (xs : List Value) (hs : a.eval s = v) (hown : wr.ownsRow base 5 1 v n xs)
    (y : BitVec 32) (hx : a.eval x = .slice (some ⟨wr.heap.size, 0, none⟩) 4 4) (hn : n ≤ 1000) (hb : base ≤ wr.heap.size)
    (h : ∀ v' w', w'.ownsRow base 5 1 v' (n + 4) (xs ++ nums .u8 (ints (bytes4 y))) → (∀ w0 : World, Below base w0 wr → Below base w0 w') → wpList Try.prog ops Q rest (a.put o.dst v') w') :
    wpList Try.prog ops Q (o :: rest) a (wr.alloc (.cells (word4 y) 5)) := by
  obtain ⟨i0, hi0, hz0, hz1, hz2⟩ := info_parts info_u8
  refine wpList_append_own _ hgd s x 142 ho base 5 i0 (.int .u8 0) 1 1 Try.underlying142 hi0 hz0 hz1 hz2 rfl (by omega) v n xs hs (hown.alloc _) ⟨wr.heap.size, 0, none⟩ 4 4 (word4 y).toList hx rfl ?_ ?_ (by unfold maxLen; omega) (by omega) (by simp; omega) ?_
  · intro j u hj
    rw [add_plain, World.cell?_alloc_new]
    simpa using hj
  · intro u hu
    simp only [word4, List.mem_cons, List.not_mem_nil, or_false] at hu
    rcases hu with rfl | rfl | rfl | rfl <;> rfl
  · intro v' w' ho' hg _
    refine h v' w' (by rw [← word4_eq]; exact ho') fun w0 hB => ?_
    exact (hB.alloc hb _).grown hg (by simp; omega) (fun k hk => own_base hown k hk)
theorem out_take (s : S8) (i : Nat) (x : BitVec 32) (hi : i < 8) (hx : x = (L8 s).getD i 0) : nums .u8 (ints ((out s).take (4 * (i + 1)))) = nums .u8 (ints ((out s).take (4 * i))) ++ nums .u8 (ints (bytes4 x)) := by
  have e : (out s).take (4 * (i + 1)) = (out s).take (4 * i) ++ bytes4 x := by
    subst hx
    rcases (show i = 0 ∨ i = 1 ∨ i = 2 ∨ i = 3 ∨ i = 4 ∨ i = 5 ∨ i = 6 ∨ i = 7 by omega) with rfl | rfl | rfl | rfl | rfl | rfl | rfl | rfl <;> rfl
  rw [e, ints, List.map_append, nums_append]
  rfl
set_option maxHeartbeats 800000 in
theorem sum_any (s : ByteArray) (w : World) (hs : s.size ≤ 1000000000000000) :
    Calls Try.prog 139 #[.string s] w fun e w' => e = .returned (.string (sumB s)) ∧ Below w.heap.size w w' := by
  obtain ⟨m, hm⟩ : ∃ m, m = s.data.toList := ⟨_, rfl⟩
  have hml : m.length = s.size := by rw [hm, Array.length_toList]; rfl
  obtain ⟨q, hq⟩ : ∃ q : Nat, q = s.size / 64 := ⟨_, rfl⟩
  obtain ⟨wh, hwh⟩ : ∃ wh : Nat, wh = 64 * q := ⟨_, rfl⟩
  have hwn : wh ≤ s.size := by omega
  have hqi : q ≤ 100000000000000 := by omega
  have e1 : IntKind.i64.wrap ((s.size : Int) - (s.size : Int).tmod 64) = (wh : Int) := by
    rw [IntKind.wrap_i64, Int.tmod_eq_emod_of_nonneg (by omega)]; omega
  have e2 : (s.size : Int) - (s.size : Int) % 64 = (wh : Int) := by omega
  have HH := Lib.hid (And.intro hm (And.intro hml (And.intro hq hwh)))
  clear hm hml hq hwh
  go_enter Try.func139, Try.ntmps139
  go_upto_region 1 with fail
  go_cut [3] (fun s3 wx => ∃ g, s3 = .pointer (some ⟨g, 0, none⟩) ∧ MemS w wx g firstS)
  case first =>
    go_wp2_with fail
    refine (first_any _).mono ?_
    rintro e w2 ⟨rfl, hb2⟩
    go_wp2_with (refine wpList_store_row rfl 195 (.tmp 3) (.tmp 10) rfl w2.heap.size (cells8 firstS) rfl rfl 195 _ (heap_alloc_new w2 _) (by kernel_rfl) (by kernel_rfl) (by kernel_rfl) ?_)
    go_meet
    rw [World.setRow_alloc_new]
    exact ⟨_, rfl, below_alloc2 hb2 hb2.size _, heap_alloc_new w2 _, hb2.size⟩
  case rest =>
    obtain ⟨g, rfl, hM⟩ := hcut
    have HM := Lib.hid hM
    clear hM
    go_upto_region 3 with fail
    go_wp2
    go_loopw [5] (fun c wr => ∃ j : Nat, j ≤ q ∧ c = .int .i64 ((64 * j : Nat) : Int) ∧ MemS w wr g (blocks firstS j m)) (fun c _ => wh - (intOf c).toNat)
    case atStart => exact ⟨0, Nat.zero_le _, rfl, HM.out⟩
    case round =>
      clear HM
      obtain ⟨j, hj, rfl, hM⟩ := hrel
      obtain ⟨a, ha⟩ : ∃ a : Nat, a = 64 * j := ⟨_, rfl⟩
      rw [← ha]
      have hwq := HH.out.2.2.2
      obtain ⟨st, hst⟩ : ∃ st, st = blocks firstS j m := ⟨_, rfl⟩
      rw [← hst] at hM
      by_cases hlt : j < q
      · have haw : a + 64 ≤ wh := by omega
        have hdec : decide ((a : Int) < (wh : Int)) = true := by simp; omega
        have has : (a : Int) ≤ (s.size : Int) := by omega
        have c0 : wr.cell? ⟨g, 0, none⟩ = some (.int .u32 (st.a.toNat : Int)) := (cell_of_row _ _ _ _ _ _ hM.row).trans rfl
        have c1 : wr.cell? ⟨g, 1, none⟩ = some (.int .u32 (st.b.toNat : Int)) := (cell_of_row _ _ _ _ _ _ hM.row).trans rfl
        have c2 : wr.cell? ⟨g, 2, none⟩ = some (.int .u32 (st.c.toNat : Int)) := (cell_of_row _ _ _ _ _ _ hM.row).trans rfl
        have c3 : wr.cell? ⟨g, 3, none⟩ = some (.int .u32 (st.d.toNat : Int)) := (cell_of_row _ _ _ _ _ _ hM.row).trans rfl
        have c4 : wr.cell? ⟨g, 4, none⟩ = some (.int .u32 (st.e.toNat : Int)) := (cell_of_row _ _ _ _ _ _ hM.row).trans rfl
        have c5 : wr.cell? ⟨g, 5, none⟩ = some (.int .u32 (st.f.toNat : Int)) := (cell_of_row _ _ _ _ _ _ hM.row).trans rfl
        have c6 : wr.cell? ⟨g, 6, none⟩ = some (.int .u32 (st.g.toNat : Int)) := (cell_of_row _ _ _ _ _ _ hM.row).trans rfl
        have c7 : wr.cell? ⟨g, 7, none⟩ = some (.int .u32 (st.h.toNat : Int)) := (cell_of_row _ _ _ _ _ _ hM.row).trans rfl
        have HM := Lib.hid hM
        have HA := Lib.hid (And.intro ha hst)
        clear hM ha hwq hst
        go_upto_region 6 with fail
        go_still_tail 4, (by kernel_rfl)
        change wpList _ _ _ _ _ wr.drew
        go_wp2_with fail
        clear c0 c1 c2 c3 c4 c5 c6 c7
        refine (block_any st (s.extract a s.size) _ ?_).mono ?_
        · unfold maxLen; rw [ByteArray.size_extract]; omega
        obtain ⟨st2, hst2⟩ : ∃ x, x = block st (s.extract a s.size).data.toList := ⟨_, rfl⟩
        rw [← hst2]
        have HS2 := Lib.hid hst2
        clear hst2
        rintro e w2 ⟨rfl, hb2⟩
        have HM2 := Lib.hid (HM.out.drew.under hb2)
        clear hb2
        go_wp2_with (refine wpList_store_row rfl 195 (.tmp 3) (.tmp 26) rfl g (cells8 st2) rfl rfl 195 (cells8 st) HM2.out.row (by kernel_rfl) (by kernel_rfl) (oneCell_cellsW (L8 st2)) ?_)
        have ha := HA.out.1
        refine ⟨⟨j + 1, by omega, by rw [ha]; go_num, ?_⟩, by simp [intOf]; omega⟩
        have eb : blocks firstS (j + 1) m = st2 := by
          rw [HS2.out, blocks_snoc, ← HA.out.2, Lib.extract_to_end, ← HH.out.1, HA.out.1]
        rw [eb]
        exact HM2.out.put _
      · have hjq : j = q := by omega
        have haw : wh = a := by omega
        subst haw
        have hdec : decide ((wh : Int) < (wh : Int)) = false := by simp
        rw [hjq] at hst
        have HM := Lib.hid hM
        have HA := Lib.hid hst
        clear hM ha hwq hst hjq
        obtain ⟨pb, hpb⟩ : ∃ pb, pb = ofL (pad s.size) := ⟨_, rfl⟩
        have hps : pb.size ≤ 100 := by rw [hpb, size_ofL, length_pad]; omega
        have hcat : s.size + pb.size ≤ 9223372036854775807 := by omega
        have HP := Lib.hid hpb
        clear hpb
        go_upto_region 7 with fail
        go_cut [6] (fun s6 wx => s6 = .string (s.extract wh s.size ++ pb) ∧ MemS w wx g st)
        case first =>
          go_region_with (go_at_call 167; refine (pad_any s.size pb _ (by omega) HP.out).mono ?_; rintro e w2 ⟨rfl, hb2⟩)
          all_goals go_wp2_with fail
          go_meet
          exact ⟨rfl, HM.out.drew.under hb2⟩
        case rest =>
          obtain ⟨rfl, hM⟩ := hcut
          clear HM
          obtain ⟨R, hR⟩ : ∃ R, R = m.drop wh ++ pad s.size := ⟨_, rfl⟩
          obtain ⟨T, hT⟩ : ∃ T : Nat, T = R.length / 64 := ⟨_, rfl⟩
          have hml := HH.out.2.1
          have hRT : R.length = 64 * T := by
            have := pad_whole s.size
            have h1 : R.length = (s.size - wh) + (pad s.size).length := by rw [hR, List.length_append, List.length_drop, hml]
            have := HH.out.2.2.2
            have := HH.out.2.2.1
            omega
          have hTs : T ≤ 10 := by
            have h1 : R.length = (s.size - wh) + (pad s.size).length := by rw [hR, List.length_append, List.length_drop, hml]
            have := HH.out.2.2.2
            have := HH.out.2.2.1
            have := length_pad s.size
            omega
          have hs6 : s.extract wh s.size ++ pb = ofL R := by
            rw [HP.out, ← ofL_data (s.extract wh s.size), Lib.extract_to_end, ofL_append, hR, HH.out.1]
          rw [hs6]
          have HR := Lib.hid (And.intro hR (And.intro hT hRT))
          have HM := Lib.hid hM
          clear hM hR hT hRT hs6 hml
          go_wp2
          go_loopw [6] (fun v wr => ∃ t : Nat, t ≤ T ∧ v = .string (ofL (R.drop (64 * t))) ∧ MemS w wr g (blocks st t R)) (fun v _ => match v with | .string x => x.size | _ => 0)
          case atStart => exact ⟨0, Nat.zero_le _, rfl, HM.out⟩
          case round =>
            clear HM
            obtain ⟨t, ht, rfl, hM⟩ := hrel
            obtain ⟨rb, hrb⟩ : ∃ rb, rb = ofL (R.drop (64 * t)) := ⟨_, rfl⟩
            rw [← hrb]
            have hsz : rb.size = 64 * (T - t) := by rw [hrb, size_ofL, List.length_drop, HR.out.2.2]; omega
            obtain ⟨s2, hs2⟩ : ∃ x, x = blocks st t R := ⟨_, rfl⟩
            rw [← hs2] at hM
            have HB := Lib.hid (And.intro hrb (And.intro hs2 hsz))
            have HM := Lib.hid hM
            by_cases hlt : t < T
            · have h64 : 64 ≤ rb.size := by omega
              have h640 : rb.size ≤ 640 := by omega
              have hne : rb.toList.isEmpty = false := by
                rw [ByteArray.toList_eq, List.isEmpty_eq_false_iff]
                intro e
                have : rb.data.toList.length = 0 := by rw [e]; rfl
                rw [Array.length_toList] at this
                change rb.size = 0 at this
                omega
              have h64i : (64 : Int) ≤ (rb.size : Int) := by omega
              clear hM hrb hs2 hsz
              go_upto_region 10 with fail
              go_wp2_with (refine wpList_load_row rfl 195 (.tmp 3) rfl g rfl 195 (cells8 s2) (0, 0) _ HM.out.row Try.underlying195 rfl (by kernel_rfl) ?_)
              refine (block_any s2 rb _ (by unfold maxLen; omega)).mono ?_
              obtain ⟨s3, hs3⟩ : ∃ x, x = block s2 rb.data.toList := ⟨_, rfl⟩
              rw [← hs3]
              have HS3 := Lib.hid hs3
              clear hs3
              rintro e w2 ⟨rfl, hb2⟩
              have HM2 := Lib.hid (HM.out.under hb2)
              clear hb2
              go_wp2_with (refine wpList_store_row rfl 195 (.tmp 3) (.tmp 40) rfl g (cells8 s3) rfl rfl 195 (cells8 s2) HM2.out.row (by kernel_rfl) (by kernel_rfl) (oneCell_cellsW (L8 s3)) ?_)
              have hx : rb.extract 64 rb.size = ofL (R.drop (64 * (t + 1))) := by
                rw [HB.out.1, ofL_extract, List.drop_drop, show 64 * t + 64 = 64 * (t + 1) by omega]
              refine ⟨⟨t + 1, by omega, congrArg Value.string hx, ?_⟩, ?_⟩
              · have eb : blocks st (t + 1) R = s3 := by rw [HS3.out, blocks_snoc, ← HB.out.2.1]; rw [HB.out.1, data_ofL]
                rw [eb]
                exact HM2.out.put _
              · show (rb.extract 64 rb.size).size < rb.size
                rw [ByteArray.size_extract]; omega
            · have h0 : rb.size = 0 := by omega
              have hne : rb.toList.isEmpty = true := by
                rw [ByteArray.toList_eq, List.isEmpty_iff]
                apply List.eq_nil_of_length_eq_zero
                rw [Array.length_toList]
                exact h0
              have htT : t = T := by omega
              have hfin : sumB s = ofL (out s2) := by
                have h1 := HH.out.2.2.2
                have h2 := HH.out.2.1
                have hl : (m.length + (pad m.length).length) / 64 = q + T := by
                  have := HR.out.2.2
                  have h3 : R.length = (s.size - wh) + (pad s.size).length := by rw [HR.out.1, List.length_append, List.length_drop, h2]
                  rw [h2]; omega
                have hd : (m ++ pad m.length).drop (64 * q) = R := by
                  rw [List.drop_append_of_le_length (by omega), HR.out.1, h1, h2]
                rw [sumB, ← HH.out.1, sumL, hl, blocks_add, hd, blocks_front _ _ _ _ (by omega), ← HA.out, ← htT, ← HB.out.2.1]
              have HF := Lib.hid hfin
              clear hM hrb hs2 hsz htT hfin h0
              go_upto_region 11 with fail
              go_cut [7] (fun s7 wx => ∃ g7, s7 = .slice (some ⟨g7, 0, none⟩) 0 32 ∧ MemS w wx g s2 ∧ wx.heap[g7]? = some (.cells zeros32 5 (0, 0)) ∧ w.heap.size ≤ g7)
              case first =>
                have hmk : ∀ w, (Instr.makeSlice 142 (.int .i64 0) (.int .i64 32)).run Try.prog w = .ok (.slice (some ⟨w.heap.size, 0, none⟩) 0 32) (w.alloc (.cells zeros32 5)) := fun _ => by kernel_rfl
                go_wp2_with fail
                go_meet
                have hb := HM.out.below.size
                exact ⟨_, rfl, HM.out.under (below_alloc2 (Below.refl _ _) (Nat.le_refl _) _), heap_alloc_new _ _, hb⟩
              case rest =>
                obtain ⟨g7, rfl, hM, h7, hg7⟩ := hcut
                clear HM
                have ho : wc.ownsRow w.heap.size 5 1 (.slice (some ⟨g7, 0, none⟩) 0 32) 0 (nums .u8 (ints ((out s2).take 0))) := ⟨by simp [ints, nums], .inr ⟨g7, 32, zeros32, rfl, hg7, h7, by omega, by unfold maxLen; omega, by kernel_rfl, by simp [ints, nums]⟩⟩
                have HO := Lib.hid ho
                have HM := Lib.hid hM
                clear ho hM h7 hg7
                go_upto_region 12 with fail
                go_wp2_with (refine wpList_load_row rfl 195 (.tmp 3) rfl g rfl 195 (cells8 s2) (0, 0) _ HM.out.row Try.underlying195 rfl (by kernel_rfl) ?_)
                go_loopw [43, 7] (fun c v wr => ∃ i : Nat, i ≤ 8 ∧ c = .int .i64 (i : Int) ∧ wr.ownsRow w.heap.size 5 1 v (4 * i) (nums .u8 (ints ((out s2).take (4 * i)))) ∧ Below w.heap.size w wr) (fun c _ _ => 8 - (intOf c).toNat)
                case atStart => exact ⟨0, by omega, rfl, HO.out, HM.out.below⟩
                case round =>
                  clear HO HM
                  obtain ⟨i, hi, rfl, ho, hB⟩ := hrel
                  have HO := Lib.hid ho
                  by_cases hlt : i < 8
                  · have hii : (i : Int) < 8 := by omega
                    obtain ⟨x, hx⟩ : ∃ x, x = (L8 s2).getD i 0 := ⟨_, rfl⟩
                    have hix := index_row s2 i x hlt hx
                    have HX := Lib.hid hx
                    have hl4 : 4 * i + 4 ≤ 32 := by omega
                    clear ho hx
                    go_wp2_with (at_builtin; refine append_word w.heap.size rfl (.tmp 46) (.tmp 58) rfl u7 (4 * i) (nums .u8 (ints ((out s2).take (4 * i)))) rfl HO.out x rfl (by omega) hB.size ?_; intro v2 w2 ho2 hb2)
                    refine ⟨⟨i + 1, by omega, by go_num, ?_, ?_⟩, by simp [intOf]; omega⟩
                    · rw [out_take s2 i x hlt HX.out]
                      exact ho2
                    · exact hb2 _ hB
                  · have hi8 : i = 8 := by omega
                    have hii : ¬ (i : Int) < 8 := by omega
                    rw [hi8] at ho
                    have hcv : (convert 142 9 u7).run Try.prog wr = .ok (.string (sumB s)) wr := by
                      rw [own_string Try.underlying142 Try.underlying5 Try.underlying9 ho, HF.out, ofL_ints, List.take_of_length_le (by rw [length_out]; omega)]
                    clear ho hi8
                    go_wp2
                    go_ret
                    exact ⟨rfl, hB⟩
end Go.Proofs.Ytipgldfbjlhpoab.Sha
namespace Go.Proofs.Ytipgldfbjlhpoab.P
open Go.RowKit
def sha_Sum.f (a0 : ByteArray) : Option ByteArray := if a0.size ≤ 1000000000000000 then some (Sha.sumB a0) else none
theorem sha_Sum.calls (a0 : ByteArray) (r : ByteArray) (w : World) (h : sha_Sum.f a0 = some r) :
    Calls Try.prog 139 #[.string a0] w fun e w' => e = .returned (.string r) ∧ Below w.heap.size w w' := by
  unfold sha_Sum.f at h
  split at h
  · rename_i hs
    obtain rfl := Option.some.inj h
    exact Sha.sum_any a0 w hs
  · cases h
end Go.Proofs.Ytipgldfbjlhpoab.P
namespace Go.Proofs.Ytipgldfbjlhpoab.Sha
set_option linter.unusedVariables false
set_option linter.unusedSimpArgs false
open Go.RowKit Go.Proofs.YtipgldfbjlhpoabW.PrintWords Go.Proofs.YtipgldfbjlhpoabW.PrintLast Go.Proofs.YtipgldfbjlhpoabW.PrintMore
set_option maxRecDepth 100000
theorem MemS.grown {w0 w w' : World} {g : Nat} {s : S8} {row : Option Nat} (h : MemS w0 w g s) (hg : w.grownBy w' row) (hne : some g ≠ row) (hr : ∀ k, row = some k → w0.heap.size ≤ k) : MemS w0 w' g s :=
  ⟨h.below.grown hg h.below.size hr, blk_grown h.row hg hne, h.ge⟩
theorem word4_one (x : BitVec 32) : ∀ u ∈ (word4 x).toList, u.oneCell' = true := by
  intro u hu
  simp only [word4, List.mem_cons, List.not_mem_nil, or_false] at hu
  rcases hu with rfl | rfl | rfl | rfl <;> rfl
theorem own_ne_base {W : World} {g n : Nat} {e : TypeId} {v : Value} {xs : List Value} (h : W.ownsRow (g + 1) e 1 v n xs) : some g ≠ v.ownBlock := by
  intro he
  have := own_base h g he.symm
  omega
set_option maxHeartbeats 800000 in
theorem rsum_any (s : ByteArray) (w : World) (hs : s.size ≤ 1000000000000000) :
    Calls Try.prog 79 #[.string s] w fun e w' => e = .returned (.string (sumB s)) ∧ Below w.heap.size w w' := by
  obtain ⟨m, hm⟩ : ∃ m, m = s.data.toList := ⟨_, rfl⟩
  have hml : m.length = s.size := by rw [hm, Array.length_toList]; rfl
  obtain ⟨pb, hpb⟩ : ∃ pb, pb = ofL (pad s.size) := ⟨_, rfl⟩
  have hps : pb.size ≤ 100 := by rw [hpb, size_ofL, length_pad]; omega
  have hcat : s.size + pb.size ≤ 9223372036854775807 := by omega
  obtain ⟨sb, hsb⟩ : ∃ sb, sb = s ++ pb := ⟨_, rfl⟩
  obtain ⟨T, hT⟩ : ∃ T : Nat, T = sb.size / 64 := ⟨_, rfl⟩
  have hM : sb = ofL (m ++ pad s.size) := by rw [hsb, hpb, ← ofL_data s, ofL_append, ← hm, size_ofL, hml]
  have hbs : sb.size = s.size + (pad s.size).length := by rw [hM, size_ofL, List.length_append, hml]
  have hsT : sb.size = 64 * T := by have := pad_whole s.size; omega
  have hTs : T ≤ 100000000000000 := by have := length_pad s.size; omega
  have hsbi : sb.size ≤ 6400000000000000 := by omega
  have hcl : (m.length + (pad m.length).length) / 64 = T := by rw [hml]; omega
  have hfinal : sumB s = ofL (out (blocks firstS T sb.data.toList)) := by rw [sumB, ← hm, sumL, hcl, hml, hM, data_ofL]
  have HH := Lib.hid (And.intro hpb (And.intro hsb (And.intro hsT hfinal)))
  clear hm hml hpb hsb hT hM hbs hsT hcl hfinal
  go_enter Try.func79, Try.ntmps79
  go_upto_region 1 with fail
  go_cut [0] (fun s0 wx => s0 = .string sb ∧ Below w.heap.size w wx)
  case first =>
    go_wp2_with fail
    refine (rpad_any s.size pb _ (by omega) HH.out.1).mono ?_
    rintro e w2 ⟨rfl, hb2⟩
    go_wp2_with fail
    go_meet
    exact ⟨congrArg Value.string HH.out.2.1.symm, hb2⟩
  case rest =>
    obtain ⟨rfl, hB⟩ := hcut
    go_upto_region 2 with fail
    go_cut [3] (fun s3 wx => ∃ g, s3 = .pointer (some ⟨g, 0, none⟩) ∧ MemS w wx g firstS)
    case first =>
      obtain ⟨wq, rfl⟩ : ∃ wq : World, wq = wc := ⟨_, rfl⟩
      go_wp2_with fail
      refine (regs_any _).mono ?_
      rintro e w2 ⟨rfl, hb2⟩
      go_wp2_with (refine wpList_store_row rfl 195 (.tmp 3) (.tmp 12) rfl w2.heap.size (cells8 firstS) rfl rfl 195 _ (heap_alloc_new w2 _) (by kernel_rfl) (by kernel_rfl) (by kernel_rfl) ?_)
      go_meet
      rw [World.setRow_alloc_new]
      have hz := hB.size
      have hz2 := hb2.size
      exact ⟨_, rfl, below_alloc2 (hB.trans (hb2.mono hz)) (by omega) _, heap_alloc_new w2 _, by omega⟩
    case rest =>
      obtain ⟨g, rfl, hM⟩ := hcut
      have HM := Lib.hid hM
      clear hM hB
      go_upto_region 3 with fail
      go_wp2
      go_loopw [4] (fun c wr => ∃ j : Nat, j ≤ T ∧ c = .int .i64 ((64 * j : Nat) : Int) ∧ MemS w wr g (blocks firstS j sb.data.toList)) (fun c _ => sb.size - (intOf c).toNat)
      case atStart => exact ⟨0, Nat.zero_le _, rfl, HM.out⟩
      case round =>
        clear HM
        obtain ⟨j, hj, rfl, hM⟩ := hrel
        obtain ⟨a, ha⟩ : ∃ a : Nat, a = 64 * j := ⟨_, rfl⟩
        rw [← ha]
        have hsT := HH.out.2.2.1
        obtain ⟨st, hst⟩ : ∃ st, st = blocks firstS j sb.data.toList := ⟨_, rfl⟩
        rw [← hst] at hM
        by_cases hlt : j < T
        · have haw : a + 64 ≤ sb.size := by omega
          have hdec : decide ((a : Int) < (sb.size : Int)) = true := by simp; omega
          have has : (a : Int) + 64 ≤ (sb.size : Int) := by omega
          obtain ⟨a2, ha2⟩ : ∃ a2 : Nat, a2 = a + 64 := ⟨_, rfl⟩
          have e64 : IntKind.i64.wrap ((a : Int) + 64) = (a2 : Int) := by rw [IntKind.wrap_i64]; omega
          have l1 : (a2 : Int) ≤ (sb.size : Int) := by omega
          have l2 : (a : Int) ≤ (a2 : Int) := by omega
          have l3 : a2 ≤ sb.size := by omega
          have l4 : a ≤ a2 := by omega
          have c0 : wr.cell? ⟨g, 0, none⟩ = some (.int .u32 (st.a.toNat : Int)) := (cell_of_row _ _ _ _ _ _ hM.row).trans rfl
          have c1 : wr.cell? ⟨g, 1, none⟩ = some (.int .u32 (st.b.toNat : Int)) := (cell_of_row _ _ _ _ _ _ hM.row).trans rfl
          have c2 : wr.cell? ⟨g, 2, none⟩ = some (.int .u32 (st.c.toNat : Int)) := (cell_of_row _ _ _ _ _ _ hM.row).trans rfl
          have c3 : wr.cell? ⟨g, 3, none⟩ = some (.int .u32 (st.d.toNat : Int)) := (cell_of_row _ _ _ _ _ _ hM.row).trans rfl
          have c4 : wr.cell? ⟨g, 4, none⟩ = some (.int .u32 (st.e.toNat : Int)) := (cell_of_row _ _ _ _ _ _ hM.row).trans rfl
          have c5 : wr.cell? ⟨g, 5, none⟩ = some (.int .u32 (st.f.toNat : Int)) := (cell_of_row _ _ _ _ _ _ hM.row).trans rfl
          have c6 : wr.cell? ⟨g, 6, none⟩ = some (.int .u32 (st.g.toNat : Int)) := (cell_of_row _ _ _ _ _ _ hM.row).trans rfl
          have c7 : wr.cell? ⟨g, 7, none⟩ = some (.int .u32 (st.h.toNat : Int)) := (cell_of_row _ _ _ _ _ _ hM.row).trans rfl
          have HM := Lib.hid hM
          have HA := Lib.hid (And.intro ha (And.intro hst ha2))
          clear hM ha hst hsT ha2
          go_upto_region 6 with fail
          go_still_tail 6, (by kernel_rfl)
          change wpList _ _ _ _ _ wr.drew
          go_wp2_with fail
          clear c0 c1 c2 c3 c4 c5 c6 c7
          refine (rblock_any st (sb.extract a a2) _).mono ?_
          obtain ⟨st2, hst2⟩ : ∃ x, x = block st (sb.extract a a2).data.toList := ⟨_, rfl⟩
          rw [← hst2]
          have HS2 := Lib.hid hst2
          clear hst2
          rintro e w2 ⟨rfl, hb2⟩
          have HM2 := Lib.hid (HM.out.drew.under hb2)
          clear hb2
          go_wp2_with (refine wpList_store_row rfl 195 (.tmp 3) (.tmp 25) rfl g (cells8 st2) rfl rfl 195 (cells8 st) HM2.out.row (by kernel_rfl) (by kernel_rfl) (oneCell_cellsW (L8 st2)) ?_)
          have ha := HA.out.1
          refine ⟨⟨j + 1, by omega, by rw [HA.out.2.2, ha]; go_num, ?_⟩, by rw [HA.out.2.2]; simp [intOf]; omega⟩
          have eb : blocks firstS (j + 1) sb.data.toList = st2 := by
            rw [HS2.out, blocks_snoc, ← HA.out.2.1, Lib.extract_data, HA.out.2.2, HA.out.1, show 64 * j + 64 - 64 * j = 64 by omega, block_take]
          rw [eb]
          exact HM2.out.put _
        · have hjT : j = T := by omega
          have haw : a = sb.size := by omega
          have hdec : decide ((sb.size : Int) < (sb.size : Int)) = false := by simp
          subst haw
          rw [hjT] at hst
          have hfin : sumB s = ofL (out st) := by rw [hst]; exact HH.out.2.2.2
          have HF := Lib.hid hfin
          have HM := Lib.hid hM
          clear hM ha hst hsT hjT hfin
          go_upto_region 8 with fail
          go_wp2
          go_loopw [6, 5] (fun c v wr => ∃ i : Nat, i ≤ 8 ∧ c = .int .i64 (i : Int) ∧ wr.ownsRow (g + 1) 5 1 v (4 * i) (nums .u8 (ints ((out st).take (4 * i)))) ∧ MemS w wr g st) (fun c _ _ => 8 - (intOf c).toNat)
          case atStart => exact ⟨0, by omega, rfl, ⟨by simp [ints, nums], .inl ⟨rfl, rfl⟩⟩, HM.out⟩
          case round =>
            clear HM
            obtain ⟨i, hi, rfl, ho, hM⟩ := hrel
            have HO := Lib.hid ho
            by_cases hlt : i < 8
            · have hii : (i : Int) < 8 := by omega
              obtain ⟨x, hx⟩ : ∃ x, x = (L8 st).getD i 0 := ⟨_, rfl⟩
              have cx : wr.cell? ⟨g, i, none⟩ = some (.int .u32 (x.toNat : Int)) := row_cell (L := L8 st) hM.row hlt hx
              have HX := Lib.hid hx
              have HM := Lib.hid hM
              have hgs : g < wr.heap.size := blk_lt hM.row
              clear ho hx hM
              obtain ⟨i0, hi0, hz0, hz1, hz2⟩ := info_parts info_u8
              have HI := Lib.hid (And.intro hi0 (And.intro hz0 (And.intro hz1 hz2)))
              clear hi0 hz0 hz1 hz2
              have w1 : IntKind.u8.wrap ((x.toNat : Int) / 16777216) = (x.toNat : Int) / 16777216 := by rw [IntKind.wrap_u8]; have := x.isLt; omega
              have w2 : IntKind.u8.wrap ((x.toNat : Int) / 65536) = (x.toNat : Int) / 65536 % 256 := IntKind.wrap_u8 _
              have w3 : IntKind.u8.wrap ((x.toNat : Int) / 256) = (x.toNat : Int) / 256 % 256 := IntKind.wrap_u8 _
              have w4 : IntKind.u8.wrap (x.toNat : Int) = (x.toNat : Int) % 256 := IntKind.wrap_u8 _
              go_upto_region 11 with fail
              go_region_held3 (fun w' => w'.cell? ⟨g, i, none⟩ = some (.int .u32 (x.toNat : Int)))
                (first
                  | go_keep
                  | (rw [hgrow.cell_far _ (by simp; omega) (own_ne_base HO.out)]; assumption))
                ((refine step_append_lies _ (by rfl) _ _ _ (by rfl) (g + 1) 5 i0 _ 1 1 Try.underlying142 HI.out.1 HI.out.2.1 HI.out.2.2.1 HI.out.2.2.2 rfl (by omega) u5 (4 * i) (nums .u8 (ints ((out st).take (4 * i)))) (by rfl) ((HO.out.alloc _).drew)
                    ⟨wr.heap.size, 0, none⟩ 4 4 (word4 x).toList (by rfl) (by rfl) (World.news_of_block (cs := word4 x) (t := 5) (fr := (0, 0)) (heap_alloc_new wr _)) (word4_one x)
                    (by omega) (by unfold maxLen; omega) (by omega) (by simp; omega) (wr.heap.size + 1) (by simp) ?_; intro gg cap w2 ho2 hgrow hat hgg))
              go_wp2_with fail
              refine ⟨⟨i + 1, by omega, by go_num, ?_, ?_⟩, by simp [intOf]; omega⟩
              · rw [out_take st i x hlt HX.out, ← word4_eq]
                exact ho2
              · exact ((HM.out.under (below_alloc2 (Below.refl _ _) (Nat.le_refl _) _)).drew).grown hgrow (own_ne_base HO.out) (fun k hk => by have := own_base HO.out k hk; have := HM.out.ge; omega)
            · have hi8 : i = 8 := by omega
              have hii : ¬ (i : Int) < 8 := by omega
              rw [hi8] at ho
              have hcv : (convert 142 9 u5).run Try.prog wr = .ok (.string (sumB s)) wr := by
                rw [own_string Try.underlying142 Try.underlying5 Try.underlying9 ho, HF.out, ofL_ints, List.take_of_length_le (by rw [length_out]; omega)]
              have hB := hM.below
              clear ho hi8 hM
              go_wp2
              go_ret
              exact ⟨rfl, hB⟩
end Go.Proofs.Ytipgldfbjlhpoab.Sha
namespace Go.Proofs.Ytipgldfbjlhpoab.P
open Go.RowKit
def footbridgeref04_Sum.f (a0 : ByteArray) : Option ByteArray := if a0.size ≤ 1000000000000000 then some (Sha.sumB a0) else none
theorem footbridgeref04_Sum.calls (a0 : ByteArray) (r : ByteArray) (w : World) (h : footbridgeref04_Sum.f a0 = some r) :
    Calls Try.prog 79 #[.string a0] w fun e w' => e = .returned (.string r) ∧ Below w.heap.size w w' := by
  unfold footbridgeref04_Sum.f at h
  split at h
  · rename_i hs
    obtain rfl := Option.some.inj h
    exact Sha.rsum_any a0 w hs
  · cases h
end Go.Proofs.Ytipgldfbjlhpoab.P
