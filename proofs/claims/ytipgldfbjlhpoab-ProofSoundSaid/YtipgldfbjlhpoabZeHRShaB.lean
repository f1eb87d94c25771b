/- SHA-256's block, as the reference makes it: its contract: the same plain function as sha.Block's. -/
import Derived.Test.YtipgldfbjlhpoabZeHShaB
import Derived.Test.YtipgldfbjlhpoabZePRSha
namespace Go.Proofs.Ytipgldfbjlhpoab.Sha
set_option linter.unusedVariables false
set_option linter.unusedSimpArgs false
open Go.RowKit Go.Proofs.YtipgldfbjlhpoabW.PrintWords Go.Proofs.YtipgldfbjlhpoabW.PrintLast Go.Proofs.YtipgldfbjlhpoabW.PrintMore
set_option maxRecDepth 100000
theorem bt_byteAt (b : ByteArray) (i : Nat) (h : i < b.size) : bt b (i : Int) = ((byteAt b.data.toList i).toNat : Int) := by
  have e := byteAt_get b i h; unfold bt; rw [dif_pos (by simpa using h), ← e, IntKind.wrap_u32]
  show (((b[i]'h).toNat : Nat) : Int) = _
  have := (b[i]'h).toNat_lt; omega
theorem byteAt_out (b : List UInt8) (i : Nat) (h : b.length ≤ i) : byteAt b i = 0 := by
  simp [byteAt, List.getD, List.getElem?_eq_none h]
theorem wstep (x : BitVec 32) (b : ByteArray) (i : Nat) : ∃ y : BitVec 32, y = (x <<< 8 ||| byteAt b.data.toList i) ∧ ((i : Int) < (b.size : Int) → Go.bits .or .u32 ((x.toNat : Int) * 256 % 4294967296) (bt b (i : Int) % 4294967296) = (y.toNat : Int)) ∧
    (¬ (i : Int) < (b.size : Int) → (x.toNat : Int) * 256 % 4294967296 = (y.toNat : Int)) := by
  refine ⟨_, rfl, fun h => ?_, fun h => ?_⟩
  · rw [bt_byteAt b i (by omega), show (256 : Int) = 2 ^ 8 from rfl, shl_bv]; have := (byteAt b.data.toList i).isLt; rw [show (((byteAt b.data.toList i).toNat : Int) % 4294967296) = ((byteAt b.data.toList i).toNat : Int) by omega, or_bv]
  · rw [byteAt_out _ _ (by rw [Array.length_toList]; change b.size ≤ i; omega), show (256 : Int) = 2 ^ 8 from rfl, shl_bv]; simp
theorem word_ok (b : ByteArray) (i : Nat) (hi : i ≤ 1000) : P.footbridgeref04_word.f 5 b (i : Int) = some ((word b.data.toList i).toNat : Int) := by
  have w4 : wrap64 ((i : Int) + 4) = ((i + 4 : Nat) : Int) := by unfold wrap64; omega
  have s1 : wrap64 ((i : Int) + 1) = ((i + 1 : Nat) : Int) := by unfold wrap64; omega
  have s2 : wrap64 (((i + 1 : Nat) : Int) + 1) = ((i + 2 : Nat) : Int) := by unfold wrap64; omega
  have s3 : wrap64 (((i + 2 : Nat) : Int) + 1) = ((i + 3 : Nat) : Int) := by unfold wrap64; omega
  have s4 : wrap64 (((i + 3 : Nat) : Int) + 1) = ((i + 4 : Nat) : Int) := by unfold wrap64; omega
  have step : ∀ (k : Nat) (x : BitVec 32) (j : Nat), j < i + 4 → j ≤ 2000 → P.footbridgeref04_word.l0 (k + 1) b (i : Int) (x.toNat : Int) (j : Int) = P.footbridgeref04_word.l0 k b (i : Int) ((x <<< 8 ||| byteAt b.data.toList j).toNat : Int) (wrap64 ((j : Int) + 1)) := by
    intro k x j hj hj2; obtain ⟨y, hy, hy1, hy2⟩ := wstep x b j; rw [← hy]; simp only [P.footbridgeref04_word.l0]; rw [w4, if_pos (by omega)]
    by_cases h : (j : Int) < (b.size : Int)
    · rw [if_pos h, if_pos (by omega), hy1 h]
    · rw [if_neg h, hy2 h]
  unfold P.footbridgeref04_word.f; have h0 : (0 : Int) = ((0 : BitVec 32).toNat : Int) := rfl; rw [h0, step 4 0 i (by omega) (by omega), s1, step 3 _ (i + 1) (by omega) (by omega), s2, step 2 _ (i + 2) (by omega) (by omega), s3, step 1 _ (i + 3) (by omega) (by omega), s4]; simp only [P.footbridgeref04_word.l0]; rw [w4, if_neg (by omega), ← word_ref]; simp
theorem word_any (b : ByteArray) (i : Nat) (hi : i ≤ 1000) (w : World) : Calls Try.prog 168 #[.string b, .int .i64 (i : Int)] w fun e w' => e = .returned (.int .u32 ((word b.data.toList i).toNat : Int)) ∧ ∃ n, w' = w.drewN n :=
  (P.footbridgeref04_word.calls 5 b (i : Int) _ w (word_ok b i hi)).mono fun _ _ h => ⟨h.1, h.2.out⟩
theorem words_16 (b : List UInt8) : (words b).take 16 ++ (List.replicate 64 (0 : BitVec 32)).drop 16 = words b := by
  unfold words; rw [List.take_append_of_le_length (by simp), List.take_of_length_le (by simp)]; rfl
theorem below_alloc2 {B : Nat} {w W : World} (h : Below B w W) (hB : B ≤ W.heap.size) (o : Obj) : Below B w (W.alloc o) := h.alloc hB o
structure Mem2 (w0 w : World) (A L : List (BitVec 32)) : Prop where
  below : Below w0.heap.size w0 w
  r2 : w.heap[w0.heap.size]? = some (.cells (cellsW A) 195 (0, 0))
  res : ∃ Z, w.heap[w0.heap.size + 1]? = some (.cells (cellsW Z) 195 (0, 0)) ∧ Z.length = 8
  r5 : w.heap[w0.heap.size + 2]? = some (.cells (cellsW L) 218 (0, 0))
section
variable {w0 w : World} {A L : List (BitVec 32)}
theorem Mem2.drew (h : Mem2 w0 w A L) : Mem2 w0 w.drew A L := ⟨below_drew h.below, h.r2, h.res, h.r5⟩
theorem Mem2.drewN (h : Mem2 w0 w A L) (n : Nat) : Mem2 w0 (w.drewN n) A L := ⟨pbN h.below n, h.r2, h.res, h.r5⟩
theorem Mem2.set5 (h : Mem2 w0 w A L) (i : Nat) (x : BitVec 32) {v : Int} (hv : v = (x.toNat : Int)) : Mem2 w0 (w.setCell ⟨w0.heap.size + 2, i, none⟩ (.int .u32 v)) A (L.set i x) := by
  obtain ⟨Z, hZ, hZ8⟩ := h.res; exact ⟨h.below.setCell (by simp) _, row_far h.r2 _ (by simp), ⟨Z, row_far hZ _ (by simp), hZ8⟩, row_set h.r5 x hv⟩
theorem Mem2.under (h : Mem2 w0 w A L) {w' : World} (hb : Below w.heap.size w w') : Mem2 w0 w' A L := by
  obtain ⟨Z, hZ, hZ8⟩ := h.res; exact ⟨h.below.trans (hb.mono h.below.size), blk_below h.r2 hb, ⟨Z, blk_below hZ hb, hZ8⟩, blk_below h.r5 hb⟩
theorem Mem2.alloc (h : Mem2 w0 w A L) (o : Obj) : Mem2 w0 (w.alloc o) A L := h.under (below_alloc2 (Below.refl _ _) (Nat.le_refl _) o)
end
structure Mem3 (w0 w : World) (g10 g11 : Nat) (A L C : List (BitVec 32)) : Prop where
  below : Below w0.heap.size w0 w
  r2 : w.heap[w0.heap.size]? = some (.cells (cellsW A) 195 (0, 0))
  res : ∃ Z, w.heap[w0.heap.size + 1]? = some (.cells (cellsW Z) 195 (0, 0)) ∧ Z.length = 8
  r5 : w.heap[w0.heap.size + 2]? = some (.cells (cellsW L) 218 (0, 0))
  r10 : w.heap[g10]? = some (.cells (cellsW K) 218 (0, 0))
  r11 : w.heap[g11]? = some (.cells (cellsW C) 195 (0, 0))
  lt : w0.heap.size + 2 < g11 ∧ g10 ≠ g11
theorem mem3_new {w0 w : World} {g10 : Nat} {A L C : List (BitVec 32)} (h : Mem2 w0 w A L) (h10 : w.heap[g10]? = some (.cells (cellsW K) 218 (0, 0))) (z : w0.heap.size + 2 < g10) :
    Mem3 w0 (w.alloc (.cells (cellsW C) 195)) g10 w.heap.size A L C := by
  have h' := h.alloc (.cells (cellsW C) 195); have z1 := blk_lt h10; exact ⟨h'.below, h'.r2, h'.res, h'.r5, (Below.heap_alloc _ _ _ z1).trans h10, heap_alloc_new w _, by omega, by omega⟩
section
variable {w0 w : World} {g10 g11 : Nat} {A L C : List (BitVec 32)}
theorem Mem3.drew (h : Mem3 w0 w g10 g11 A L C) : Mem3 w0 w.drew g10 g11 A L C := ⟨below_drew h.below, h.r2, h.res, h.r5, h.r10, h.r11, h.lt⟩
theorem Mem3.drewN (h : Mem3 w0 w g10 g11 A L C) (n : Nat) : Mem3 w0 (w.drewN n) g10 g11 A L C := ⟨pbN h.below n, h.r2, h.res, h.r5, h.r10, h.r11, h.lt⟩
theorem Mem3.set11 (h : Mem3 w0 w g10 g11 A L C) (i : Nat) (x : BitVec 32) {v : Int} (hv : v = (x.toNat : Int)) : Mem3 w0 (w.setCell ⟨g11, i, none⟩ (.int .u32 v)) g10 g11 A L (C.set i x) := by
  obtain ⟨Z, hZ, hZ8⟩ := h.res; obtain ⟨n1, n2⟩ := h.lt; exact ⟨h.below.setCell (by simp; omega) _, row_far h.r2 _ (by simp; omega), ⟨Z, row_far hZ _ (by simp; omega), hZ8⟩, row_far h.r5 _ (by simp; omega), row_far h.r10 _ (by simpa using n2), row_set h.r11 x hv, h.lt⟩
theorem Mem3.row11 (h : Mem3 w0 w g10 g11 A L C) (C' : List (BitVec 32)) : Mem3 w0 (w.setRow g11 (cellsW C')) g10 g11 A L C' := by
  obtain ⟨Z, hZ, hZ8⟩ := h.res; obtain ⟨n1, n2⟩ := h.lt; exact ⟨below_setRow h.below (by omega) _, (setRow_other _ _ _ _ (by omega)).trans h.r2, ⟨Z, (setRow_other _ _ _ _ (by omega)).trans hZ, hZ8⟩, (setRow_other _ _ _ _ (by omega)).trans h.r5, (setRow_other _ _ _ _ n2).trans h.r10, setRow_heap _ _ _ _ _ _ h.r11, h.lt⟩
end
theorem sched_val (x16 x7 x15 x2 : BitVec 32) : ((x16.toNat : Int) + (x7.toNat : Int) + bits .xor .u32 (bits .xor .u32 ((ror x15 7).toNat : Int) ((ror x15 18).toNat : Int)) ((x15.toNat : Int) / (8 : Int)) +
    bits .xor .u32 (bits .xor .u32 ((ror x2 17).toNat : Int) ((ror x2 19).toNat : Int)) ((x2.toNat : Int) / (1024 : Int))) % 4294967296 = ((x16 + sg0 x15 + x7 + sg1 x2).toNat : Int) := by
  rw [shr3_bv, shr10_bv, xor_bv, xor_bv, xor_bv, xor_bv]; unfold sg0 sg1; simp only [BitVec.toNat_add]; omega
theorem not_bv (x : BitVec 32) : bits .xor .u32 IntKind.u32.max (x.toNat : Int) = ((~~~x).toNat : Int) := by
  have : IntKind.u32.max = ((BitVec.allOnes 32).toNat : Int) := by kernel_rfl
  rw [this, xor_bv, BitVec.allOnes_xor]
theorem one_val2 (s : S8) (kk wk : BitVec 32) : ((s.h.toNat : Int) + bits .xor .u32 (bits .xor .u32 ((ror s.e 6).toNat : Int) ((ror s.e 11).toNat : Int)) ((ror s.e 25).toNat : Int) +
    bits .xor .u32 (bits .and .u32 (s.e.toNat : Int) (s.f.toNat : Int)) (bits .and .u32 (bits .xor .u32 IntKind.u32.max (s.e.toNat : Int)) (s.g.toNat : Int)) + (kk.toNat : Int) + (wk.toNat : Int)) % 4294967296 = ((one s kk wk).toNat : Int) := by
  rw [xor_bv, xor_bv, and_bv, not_bv, and_bv, xor_bv, ch_eq]; unfold one; simp only [BitVec.toNat_add]; omega
theorem two_val2 (s : S8) : (bits .xor .u32 (bits .xor .u32 ((ror s.a 2).toNat : Int) ((ror s.a 13).toNat : Int)) ((ror s.a 22).toNat : Int) +
    bits .xor .u32 (bits .xor .u32 (bits .and .u32 (s.a.toNat : Int) (s.b.toNat : Int)) (bits .and .u32 (s.a.toNat : Int) (s.c.toNat : Int))) (bits .and .u32 (s.b.toNat : Int) (s.c.toNat : Int))) % 4294967296 = ((two s).toNat : Int) := by
  rw [xor_bv, xor_bv, and_bv, and_bv, and_bv, xor_bv, xor_bv, maj_eq]; unfold two; simp only [BitVec.toNat_add]; omega
def row8 (v0 v4 : Int) (x1 x2 x3 x5 x6 x7 : BitVec 32) : Array Value := #[.int .u32 v0, .int .u32 (x1.toNat : Int), .int .u32 (x2.toNat : Int), .int .u32 (x3.toNat : Int), .int .u32 v4, .int .u32 (x5.toNat : Int), .int .u32 (x6.toNat : Int), .int .u32 (x7.toNat : Int)]
theorem row8_eq {v0 v4 : Int} {x0 x1 x2 x3 x4 x5 x6 x7 : BitVec 32} (h0 : v0 = (x0.toNat : Int)) (h4 : v4 = (x4.toNat : Int)) : row8 v0 v4 x1 x2 x3 x5 x6 x7 = cellsW [x0, x1, x2, x3, x4, x5, x6, x7] := by
  subst h0 h4; rfl
set_option maxHeartbeats 4000000 in
theorem rblock_any (h : S8) (b : ByteArray) (w : World) :
    Calls Try.prog 144 #[.agg (cells8 h), .string b] w fun e w' => e = .returned (.agg (cells8 (block h b.data.toList))) ∧ Below w.heap.size w w' := by
  go_enter Try.func144, Try.ntmps144
  go_upto_region 0 with fail
  go_cut [2, 4] (fun s2 s4 wx => s2 = .pointer (some ⟨w.heap.size, 0, none⟩) ∧ s4 = .pointer (some ⟨w.heap.size + 1, 0, none⟩) ∧ wx.heap[w.heap.size]? = some (.cells (cellsW (L8 h)) 195 (0, 0)) ∧
    wx.heap[w.heap.size + 1]? = some (.cells (cellsW (List.replicate 8 0)) 195 (0, 0)) ∧ Below w.heap.size w wx ∧ wx.heap.size = w.heap.size + 2)
  case first =>
    go_wp2_with fail
    go_meet; exact ⟨rfl, rfl, (heap_alloc2_old w _ _).trans rfl, (heap_alloc2_new w _ _).trans (by kernel_rfl), ((Below.refl _ _).alloc (Nat.le_refl _) _).alloc (by simp) _, by simp⟩
  case rest =>
    obtain ⟨rfl, rfl, h0, h1, hB, hsz⟩ := hcut
    obtain ⟨wp, rfl⟩ : ∃ wp : World, wp = wc := ⟨_, rfl⟩
    have HH := Lib.hid (And.intro h0 (And.intro h1 hsz)); clear h0 h1 hsz
    go_upto_region 1 with fail
    go_cut [5] (fun s5 wx => s5 = .pointer (some ⟨w.heap.size + 2, 0, none⟩) ∧ Mem2 w wx (L8 h) (List.replicate 64 0))
    case first =>
      go_wp2_with fail
      go_meet; obtain ⟨h0, h1, hsz⟩ := HH.out; refine ⟨by rw [hsz], below_alloc2 hB (by omega) _, (Below.heap_alloc _ _ _ (by omega)).trans h0, ⟨_, (Below.heap_alloc _ _ _ (by omega)).trans h1, rfl⟩, ?_⟩; rw [← hsz]; exact (heap_alloc_new wp _).trans (by kernel_rfl)
    case rest =>
      obtain ⟨rfl, hM⟩ := hcut; clear hB HH; have HM := Lib.hid hM; clear hM
      go_upto_region 2 with fail
      go_wp2
      go_loopw [6] (fun c wr => ∃ j : Nat, j ≤ 16 ∧ c = .int .i64 (j : Int) ∧ Mem2 w wr (L8 h) ((words b.data.toList).take j ++ (List.replicate 64 0).drop j)) (fun c _ => 16 - (intOf c).toNat)
      case atStart => exact ⟨0, by omega, rfl, HM.out⟩
      case round =>
        clear HM; obtain ⟨j, hj, rfl, hM⟩ := hrel; have hwl := length_words b.data.toList
        by_cases hlt : j < 16
        · have hdec : decide ((j : Int) < 16) = true := by simp; omega
          have hji : (j : Int) < 64 := by omega
          obtain ⟨j4, hj4⟩ : ∃ j4 : Nat, j4 = 4 * j := ⟨_, rfl⟩
          have e4 : IntKind.i64.wrap (4 * (j : Int)) = (j4 : Int) := by rw [IntKind.wrap_i64]; omega
          have e4' : 4 * (j : Int) = (j4 : Int) := by omega
          obtain ⟨x, hx⟩ : ∃ x, x = word b.data.toList j4 := ⟨_, rfl⟩
          have hlen : ((words b.data.toList).take j ++ (List.replicate 64 (0 : BitVec 32)).drop j).length = 64 := by simp [length_words]; omega
          have ct : wr.cell? ⟨w.heap.size + 2, j, none⟩ = some (.int .u32 ((((words b.data.toList).take j ++ (List.replicate 64 (0 : BitVec 32)).drop j).getD j 0).toNat : Int)) := row_cell hM.r5 (by omega) rfl
          generalize (((words b.data.toList).take j ++ (List.replicate 64 (0 : BitVec 32)).drop j).getD j 0) = old at ct
          have cf : wr.frozen? ⟨w.heap.size + 2, j, none⟩ = false := frozen_of_row _ _ _ _ _ hM.r5; have H4 := Lib.hid (And.intro hj4 hx); have HM := Lib.hid hM; have HL := Lib.hid hwl; clear hM hj4 hx hlen hwl
          go_upto_region 5 with fail
          go_wp2_with fail
          refine (word_any b j4 (by have := H4.out.1; omega) _).mono ?_; rintro e w' ⟨rfl, n, rfl⟩; rw [← H4.out.2]; go_wp2; refine ⟨⟨j + 1, by omega, by go_num, ?_⟩, by simp [intOf]; omega⟩; have hM2 := (HM.out.drewN n).set5 j x rfl
          have ex : x = (words b.data.toList).getD j 0 := by rw [H4.out.2, H4.out.1, getD_words _ _ hlt]
          rw [ex, mix_set (words b.data.toList) (List.replicate 64 0) j 0 (by have := HL.out; omega) (by rw [HL.out]; rfl), ← ex] at hM2; exact hM2
        · have hdec : decide ((j : Int) < 16) = false := by simp; omega
          have hj16 : j = 16 := by omega
          rw [hj16, words_16] at hM; have HM := Lib.hid hM; clear hM hj16 hwl
          go_upto_region 6 with fail
          go_wp2
          go_loopw [7] (fun c wr => ∃ j : Nat, j ≤ 48 ∧ c = .int .i64 ((16 + j : Nat) : Int) ∧ Mem2 w wr (L8 h) (schedN b.data.toList j)) (fun c _ => 64 - (intOf c).toNat)
          case atStart => exact ⟨0, by omega, rfl, HM.out⟩
          case round =>
            clear HM; obtain ⟨j, hj, rfl, hM⟩ := hrel
            obtain ⟨t, ht⟩ : ∃ t : Nat, t = 16 + j := ⟨_, rfl⟩
            rw [← ht]; have hL := length_schedN b.data.toList j
            by_cases hlt : t < 64
            · have ht16 : 16 ≤ t := by omega
              have hdec : decide ((t : Int) < 64) = true := by simp; omega
              obtain ⟨t15, h15⟩ : ∃ t15 : Nat, t15 = t - 15 := ⟨_, rfl⟩
              obtain ⟨t2, h2⟩ : ∃ t2 : Nat, t2 = t - 2 := ⟨_, rfl⟩
              obtain ⟨t16, h16⟩ : ∃ t16 : Nat, t16 = t - 16 := ⟨_, rfl⟩
              obtain ⟨t7, h7⟩ : ∃ t7 : Nat, t7 = t - 7 := ⟨_, rfl⟩
              have e15 : IntKind.i64.wrap ((t : Int) - 15) = (t15 : Int) := by rw [IntKind.wrap_i64]; omega
              have e2 : IntKind.i64.wrap ((t : Int) - 2) = (t2 : Int) := by rw [IntKind.wrap_i64]; omega
              have e16 : IntKind.i64.wrap ((t : Int) - 16) = (t16 : Int) := by rw [IntKind.wrap_i64]; omega
              have e7 : IntKind.i64.wrap ((t : Int) - 7) = (t7 : Int) := by rw [IntKind.wrap_i64]; omega
              have b15 : (t15 : Int) < 64 := by omega
              have b2 : (t2 : Int) < 64 := by omega
              have b16 : (t16 : Int) < 64 := by omega
              have b7 : (t7 : Int) < 64 := by omega
              have bt : (t : Int) < 64 := by omega
              obtain ⟨x15, hx15⟩ : ∃ x, x = (schedN b.data.toList j).getD t15 0 := ⟨_, rfl⟩
              obtain ⟨x2, hx2⟩ : ∃ x, x = (schedN b.data.toList j).getD t2 0 := ⟨_, rfl⟩
              obtain ⟨x16, hx16⟩ : ∃ x, x = (schedN b.data.toList j).getD t16 0 := ⟨_, rfl⟩
              obtain ⟨x7, hx7⟩ : ∃ x, x = (schedN b.data.toList j).getD t7 0 := ⟨_, rfl⟩
              obtain ⟨xt, hxt⟩ : ∃ x, x = (schedN b.data.toList j).getD t 0 := ⟨_, rfl⟩
              have c15 := row_cell hM.r5 (by omega) hx15; have c2 := row_cell hM.r5 (by omega) hx2; have HT := Lib.hid (And.intro ht (And.intro h15 (And.intro h2 (And.intro h16 h7)))); have HX := Lib.hid (And.intro hx15 (And.intro hx2 (And.intro hx16 (And.intro hx7 hxt)))); have HL := Lib.hid hL; have HM := Lib.hid hM; clear hM ht h15 h2 h16 h7 hx15 hx2 hx16 hx7 hxt hL
              go_upto_region 9 with fail
              go_cut [8, 9] (fun s8 s9 wx => s8 = .int .u32 (x15.toNat : Int) ∧ s9 = .int .u32 (x2.toNat : Int) ∧ Mem2 w wx (L8 h) (schedN b.data.toList j))
              case first =>
                go_quiet (fail)
                go_wp2_with fail
                go_meet; exact ⟨rfl, rfl, HM.out.drewN _⟩
              case rest =>
                obtain ⟨rfl, rfl, hM⟩ := hcut; clear c15 c2 HM; have c16 := row_cell hM.r5 (by rw [HL.out]; omega) HX.out.2.2.1; have c7 := row_cell hM.r5 (by rw [HL.out]; omega) HX.out.2.2.2.1; have ct := row_cell hM.r5 (by rw [HL.out]; omega) HX.out.2.2.2.2; have cf : wc.frozen? ⟨w.heap.size + 2, t, none⟩ = false := frozen_of_row _ _ _ _ _ hM.r5; have HM := Lib.hid hM; clear hM
                go_upto_region 10 with fail
                refine wp_region_still_tail 29 (by kernel_rfl) (by kernel_rfl) ?_; simp only [List.take_succ_cons, List.take_zero, List.drop_succ_cons, List.drop_zero]
                repeat (first | still_step | still_call ((turned_any _ _ (by omega) (by omega) _).mono fun e w' he => ⟨he.1, he.2.symm⟩))
                try refine wpStill_nil ?_
                change wpList _ _ _ _ _ wc.drew
                go_wp2
                have es : schedN b.data.toList (j + 1) = (schedN b.data.toList j).set t (x16 + sg0 x15 + x7 + sg1 x2) := by
                  obtain ⟨g1, g2, g3, g4, g5⟩ := HT.out; obtain ⟨f1, f2, f3, f4, _⟩ := HX.out; rw [schedN_succ, schedStep, schedW, ← g1, ← g2, ← g3, ← g4, ← g5, ← f1, ← f2, ← f3, ← f4]
                have h1j := HT.out.1; refine ⟨⟨j + 1, by omega, by rw [h1j]; go_num, ?_⟩, by simp [intOf]; omega⟩; rw [es]; exact (HM.out.set5 t _ (sched_val x16 x7 x15 x2)).drew
            · have hdec : decide ((t : Int) < 64) = false := by simp; omega
              have hj48 : j = 48 := by omega
              rw [hj48] at hM; have HM := Lib.hid hM; clear hM hL ht hj48
              obtain ⟨L, hL⟩ : ∃ L, L = sched b.data.toList := ⟨_, rfl⟩
              have hL64 : L.length = 64 := by rw [hL, sched, length_schedN]
              replace HM : RowKit.Hid (Mem2 w wr (L8 h) L) := by rw [hL]; exact HM
              have HL := Lib.hid (And.intro hL hL64); clear hL hL64
              go_upto_region 11 with fail
              go_cut [10] (fun s10 wx => ∃ g10, s10 = .pointer (some ⟨g10, 0, none⟩) ∧ Mem2 w wx (L8 h) L ∧ wx.heap[g10]? = some (.cells (cellsW K) 218 (0, 0)) ∧ w.heap.size + 2 < g10)
              case first =>
                go_wp2_with fail
                refine (consts_any _).mono ?_; rintro e w2 ⟨rfl, hb2⟩
                go_wp2_with (refine wpList_store_row rfl 218 (.tmp 10) (.tmp 69) rfl w2.heap.size (cellsW K) rfl rfl 218 _ (heap_alloc_new w2 _) (by kernel_rfl) (by kernel_rfl) (oneCell_cellsW _) ?_)
                go_meet; have z1 := hb2.size; have z2 := blk_lt HM.out.r5; rw [World.setRow_alloc_new]; exact ⟨_, rfl, ((HM.out.under hb2).alloc _), heap_alloc_new w2 _, by omega⟩
              case rest =>
                obtain ⟨g10, rfl, hM, h10, z10⟩ := hcut; clear HM; have HM := Lib.hid (And.intro hM h10); have r2 := hM.r2; have R2 := Lib.hid r2; clear r2 hM h10
                go_upto_region 12 with fail
                go_cut [11] (fun s11 wx => ∃ g11, s11 = .pointer (some ⟨g11, 0, none⟩) ∧ Mem3 w wx g10 g11 (L8 h) L (L8 h))
                case first =>
                  obtain ⟨wq, rfl⟩ : ∃ wq : World, wq = wc := ⟨_, rfl⟩
                  go_wp2_with (first
                    | (refine wpList_load_row rfl 195 (.tmp 2) rfl w.heap.size rfl 195 (cellsW (L8 h)) (0, 0) _ R2.out Try.underlying195 rfl (by kernel_rfl) ?_)
                    | (refine wpList_store_row rfl 195 (.tmp 11) (.tmp 70) rfl wq.heap.size (cellsW (L8 h)) rfl rfl 195 _ (heap_alloc_new wq _) (by kernel_rfl) (by kernel_rfl) (oneCell_cellsW _) ?_))
                  go_meet; rw [World.setRow_alloc_new]; obtain ⟨hM, h10⟩ := HM.out; exact ⟨_, rfl, mem3_new hM h10 z10⟩
                case rest =>
                  obtain ⟨g11, rfl, hM⟩ := hcut; clear HM R2; have HM := Lib.hid hM; clear hM
                  go_upto_region 13 with fail
                  go_wp2
                  go_loopw [12] (fun c wr => ∃ k : Nat, k ≤ 64 ∧ c = .int .i64 (k : Int) ∧ Mem3 w wr g10 g11 (L8 h) L (L8 (rounds L h k))) (fun c _ => 64 - (intOf c).toNat)
                  case atStart => exact ⟨0, by omega, rfl, HM.out⟩
                  case round =>
                    clear HM; obtain ⟨k, hk, rfl, hM⟩ := hrel
                    by_cases hlt : k < 64
                    · have hdec : decide ((k : Int) < 64) = true := by simp; omega
                      have hki : (k : Int) < 64 := by omega
                      obtain ⟨s, hs⟩ : ∃ s, s = rounds L h k := ⟨_, rfl⟩
                      rw [← hs] at hM
                      obtain ⟨wk, hwk⟩ : ∃ x, x = L.getD k 0 := ⟨_, rfl⟩
                      obtain ⟨kk, hkk⟩ : ∃ x, x = K.getD k 0 := ⟨_, rfl⟩
                      have c0 : wr.cell? ⟨g11, 0, none⟩ = some (.int .u32 (s.a.toNat : Int)) := (cell_of_row _ _ _ _ _ _ hM.r11).trans rfl; have c4 : wr.cell? ⟨g11, 4, none⟩ = some (.int .u32 (s.e.toNat : Int)) := (cell_of_row _ _ _ _ _ _ hM.r11).trans rfl; have HM := Lib.hid hM; have HS := Lib.hid (And.intro hs (And.intro hwk hkk)); clear hM hs hwk hkk
                      go_upto_region 16 with fail
                      go_cut [13, 14] (fun s13 s14 wx => s13 = .int .u32 (s.a.toNat : Int) ∧ s14 = .int .u32 (s.e.toNat : Int) ∧ Mem3 w wx g10 g11 (L8 h) L (L8 s))
                      case first =>
                        go_quiet (fail)
                        go_wp2_with fail
                        go_meet; exact ⟨rfl, rfl, HM.out.drewN _⟩
                      case rest =>
                        obtain ⟨rfl, rfl, hM⟩ := hcut; clear c0 c4 HM; have c5 : wc.cell? ⟨g11, 5, none⟩ = some (.int .u32 (s.f.toNat : Int)) := (cell_of_row _ _ _ _ _ _ hM.r11).trans rfl; have c6 : wc.cell? ⟨g11, 6, none⟩ = some (.int .u32 (s.g.toNat : Int)) := (cell_of_row _ _ _ _ _ _ hM.r11).trans rfl; have c7 : wc.cell? ⟨g11, 7, none⟩ = some (.int .u32 (s.h.toNat : Int)) := (cell_of_row _ _ _ _ _ _ hM.r11).trans rfl; have cw := row_cell hM.r5 (by rw [HL.out.2]; exact hlt) HS.out.2.1
                        have ck := row_cell hM.r10 (by have : K.length = 64 := by kernel_rfl
                                                       omega) HS.out.2.2
                        have HM := Lib.hid hM; clear hM
                        go_upto_region 17 with fail
                        go_cut [15] (fun s15 wx => s15 = .int .u32 ((one s kk wk).toNat : Int) ∧ Mem3 w wx g10 g11 (L8 h) L (L8 s))
                        case first =>
                          go_quiet ((go_at_call 169; exact Calls.quiet_of_same ((turned_any _ _ (by omega) (by omega) _).mono fun e w' he => ⟨he.1, he.2.symm⟩)))
                          go_wp2_with fail
                          go_meet; exact ⟨congrArg (Value.int .u32) (one_val2 s kk wk), HM.out.drewN _⟩
                        case rest =>
                          obtain ⟨rfl, hM⟩ := hcut; clear c5 c6 c7 cw ck HM; have c1 : wc.cell? ⟨g11, 1, none⟩ = some (.int .u32 (s.b.toNat : Int)) := (cell_of_row _ _ _ _ _ _ hM.r11).trans rfl; have c2 : wc.cell? ⟨g11, 2, none⟩ = some (.int .u32 (s.c.toNat : Int)) := (cell_of_row _ _ _ _ _ _ hM.r11).trans rfl; have HM := Lib.hid hM; clear hM
                          go_upto_region 18 with fail
                          go_cut [16] (fun s16 wx => s16 = .int .u32 ((two s).toNat : Int) ∧ Mem3 w wx g10 g11 (L8 h) L (L8 s))
                          case first =>
                            go_quiet ((go_at_call 169; exact Calls.quiet_of_same ((turned_any _ _ (by omega) (by omega) _).mono fun e w' he => ⟨he.1, he.2.symm⟩)))
                            go_wp2_with fail
                            go_meet; exact ⟨congrArg (Value.int .u32) (two_val2 s), HM.out.drewN _⟩
                          case rest =>
                            obtain ⟨rfl, hM⟩ := hcut; clear c1 c2 HM
                            obtain ⟨o1, ho1⟩ : ∃ x, x = one s kk wk := ⟨_, rfl⟩
                            obtain ⟨o2, ho2⟩ : ∃ x, x = two s := ⟨_, rfl⟩
                            rw [← ho1, ← ho2]; have HO := Lib.hid (And.intro ho1 ho2); clear ho1 ho2; have c1 : wc.cell? ⟨g11, 1, none⟩ = some (.int .u32 (s.b.toNat : Int)) := (cell_of_row _ _ _ _ _ _ hM.r11).trans rfl; have c2 : wc.cell? ⟨g11, 2, none⟩ = some (.int .u32 (s.c.toNat : Int)) := (cell_of_row _ _ _ _ _ _ hM.r11).trans rfl; have c3 : wc.cell? ⟨g11, 3, none⟩ = some (.int .u32 (s.d.toNat : Int)) := (cell_of_row _ _ _ _ _ _ hM.r11).trans rfl; have c5 : wc.cell? ⟨g11, 5, none⟩ = some (.int .u32 (s.f.toNat : Int)) := (cell_of_row _ _ _ _ _ _ hM.r11).trans rfl; have c6 : wc.cell? ⟨g11, 6, none⟩ = some (.int .u32 (s.g.toNat : Int)) := (cell_of_row _ _ _ _ _ _ hM.r11).trans rfl; have HM := Lib.hid hM; clear hM; have v1 : ((o1.toNat : Int) + (o2.toNat : Int)) % 4294967296 = ((o1 + o2).toNat : Int) := add_bv _ _; have v4 : ((s.d.toNat : Int) + (o1.toNat : Int)) % 4294967296 = ((s.d + o1).toNat : Int) := add_bv _ _; have V := Lib.hid (And.intro v1 v4); clear v1 v4
                            go_wp2_with (first
                              | (refine build_to rfl 195 _ rfl (row8 (((o1.toNat : Int) + (o2.toNat : Int)) % 4294967296) (((s.d.toNat : Int) + (o1.toNat : Int)) % 4294967296) s.a s.b s.c s.e s.f s.g) (by kernel_rfl) ?_; rw [row8_eq V.out.1 V.out.2])
                              | (refine wpList_store_row rfl 195 (.tmp 11) (.tmp 150) rfl g11 (cellsW [o1 + o2, s.a, s.b, s.c, s.d + o1, s.e, s.f, s.g]) rfl rfl 195 (cellsW (L8 s)) HM.out.r11 (by kernel_rfl) (by kernel_rfl) (oneCell_cellsW _) ?_))
                            refine ⟨⟨k + 1, by omega, by go_num, ?_⟩, by simp [intOf]; omega⟩; rw [rounds_succ, ← HS.out.1, ← HS.out.2.1, ← HS.out.2.2]
                            have e : L8 (round s kk wk) = [o1 + o2, s.a, s.b, s.c, s.d + o1, s.e, s.f, s.g] := by rw [HO.out.1, HO.out.2]; rfl
                            rw [e]; exact HM.out.row11 _
                    · have hdec : decide ((k : Int) < 64) = false := by simp; omega
                      have hk64 : k = 64 := by omega
                      rw [hk64] at hM
                      obtain ⟨s, hs⟩ : ∃ s, s = rounds L h 64 := ⟨_, rfl⟩
                      rw [← hs] at hM; have HS := Lib.hid hs; clear hs hk64; have HM := Lib.hid hM; clear hM
                      go_upto_region 20 with fail
                      go_wp2
                      go_loopw [17] (fun c wr => ∃ i : Nat, i ≤ 8 ∧ c = .int .i64 (i : Int) ∧ Mem3 w wr g10 g11 (L8 h) L ((L8 (addS h s)).take i ++ (L8 s).drop i)) (fun c _ => 8 - (intOf c).toNat)
                      case atStart => exact ⟨0, by omega, rfl, HM.out⟩
                      case round =>
                        clear HM; obtain ⟨i, hi, rfl, hM⟩ := hrel
                        by_cases hi8 : i < 8
                        · have hdec8 : decide ((i : Int) < 8) = true := by simp; omega
                          have hii : (i : Int) < 8 := by omega
                          obtain ⟨x, hx⟩ : ∃ x, x = (L8 h).getD i 0 := ⟨_, rfl⟩
                          obtain ⟨y, hy⟩ : ∃ y, y = (L8 s).getD i 0 := ⟨_, rfl⟩
                          have hlen : ((L8 (addS h s)).take i ++ (L8 s).drop i).length = 8 := by simp [L8]; omega
                          have cy : wr.cell? ⟨g11, i, none⟩ = some (.int .u32 (y.toNat : Int)) := row_cell hM.r11 (by omega) (by rw [hy, mix_get (L8 (addS h s)) (L8 s) i 0 hi8]); have cx : wr.cell? ⟨w.heap.size, i, none⟩ = some (.int .u32 (x.toNat : Int)) := row_cell hM.r2 hi8 hx; have qx : wr.frozen? ⟨g11, i, none⟩ = false := frozen_of_row _ _ _ _ _ hM.r11; have HX := Lib.hid (And.intro hx hy); have HM := Lib.hid hM; clear hM hx hy hlen
                          go_upto_region 23 with fail
                          go_still_tail 9, (by kernel_rfl)
                          change wpList _ _ _ _ _ wr.drew
                          go_wp2
                          have hv : ((y.toNat : Int) + (x.toNat : Int)) % 4294967296 = ((x + y).toNat : Int) := by rw [Int.add_comm]; exact add_bv _ _
                          refine ⟨⟨i + 1, by omega, by go_num, ?_⟩, by simp [intOf]; omega⟩
                          have e : x + y = (L8 (addS h s)).getD i 0 := by
                            rw [HX.out.1, HX.out.2]
                            rcases (show i = 0 ∨ i = 1 ∨ i = 2 ∨ i = 3 ∨ i = 4 ∨ i = 5 ∨ i = 6 ∨ i = 7 by omega) with rfl | rfl | rfl | rfl | rfl | rfl | rfl | rfl <;> rfl
                          have hM2 := (HM.out.set11 i _ hv).drew; rw [e, mix_set (L8 (addS h s)) (L8 s) i 0 hi8 rfl] at hM2; exact hM2
                        · have hdec8 : decide ((i : Int) < 8) = false := by simp; omega
                          have hi8' : i = 8 := by omega
                          rw [hi8'] at hM; have hM' : Mem3 w wr g10 g11 (L8 h) L (L8 (addS h s)) := hM; have HM := Lib.hid hM'; obtain ⟨Z, hZ, hZ8⟩ := hM'.res; have hbel := hM'.below; have HZ := Lib.hid (And.intro hZ hZ8); clear hM hM' hZ hZ8 hi8'
                          go_wp2_with (first
                            | (refine wpList_load_row rfl 195 (.tmp 11) rfl g11 rfl 195 (cellsW (L8 (addS h s))) (0, 0) _ HM.out.r11 Try.underlying195 rfl (by kernel_rfl) ?_)
                            | (refine wpList_store_row rfl 195 (.tmp 4) (.tmp 164) rfl (w.heap.size + 1) (cellsW (L8 (addS h s))) rfl rfl 195 (cellsW Z) HZ.out.1 (by kernel_rfl) (by rw [size_cellsW, HZ.out.2]; rfl) (oneCell_cellsW _) ?_))
                          have eb : block h b.data.toList = addS h s := by rw [block, ← HL.out.1, ← HS.out]
                          rw [eb]; refine bodyPost_ret (results_cell_row (p := 4) (ty := 195) rfl _ _ (w.heap.size + 1) 195 (cellsW (L8 (addS h s))) (0, 0) _ rfl (setRow_heap _ _ _ _ _ _ HZ.out.1) Try.underlying195 rfl (by kernel_rfl)) rfl ⟨rfl, ?_⟩; exact below_setRow hbel (by omega) _
end Go.Proofs.Ytipgldfbjlhpoab.Sha
