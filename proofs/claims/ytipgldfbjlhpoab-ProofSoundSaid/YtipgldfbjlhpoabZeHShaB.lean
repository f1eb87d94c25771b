/- SHA-256's block, as sha.Block makes it: its contract. -/
import Derived.Test.YtipgldfbjlhpoabZeHSha1
import Derived.Laws.CopyOwn
namespace Go.Proofs.Ytipgldfbjlhpoab.Sha
set_option linter.unusedVariables false
set_option linter.unusedSimpArgs false
open Go.RowKit Go.Proofs.YtipgldfbjlhpoabW.PrintWords Go.Proofs.YtipgldfbjlhpoabW.PrintLast Go.Proofs.YtipgldfbjlhpoabW.PrintMore
set_option maxRecDepth 100000
def L8 (s : S8) : List (BitVec 32) := [s.a, s.b, s.c, s.d, s.e, s.f, s.g, s.h]
theorem mix_set {α : Type} (X Y : List α) (i : Nat) (d : α) (hX : i < X.length) (hl : X.length = Y.length) : (X.take i ++ Y.drop i).set i (X.getD i d) = X.take (i + 1) ++ Y.drop (i + 1) := by
  rw [List.set_append_right _ _ (by simp; omega)]
  have e1 : (X.take i).length = i := by simp; omega
  rw [e1, Nat.sub_self, List.drop_eq_getElem_cons (by omega : i < Y.length), List.set_cons_zero, getD_getElem _ _ _ hX, List.take_succ_eq_append_getElem hX, List.append_assoc]; rfl
theorem mix_get {α : Type} (X Y : List α) (i : Nat) (d : α) (hX : i < X.length) : (X.take i ++ Y.drop i).getD i d = Y.getD i d := by
  have e1 : (X.take i).length = i := by simp; omega
  simp only [List.getD]; rw [List.getElem?_append_right (by omega), e1, Nat.sub_self, List.getElem?_drop, Nat.add_zero]
structure Mem (w0 w : World) (g5 g6 g7 g8 : Nat) (L A C : List (BitVec 32)) : Prop where
  below : Below w0.heap.size w0 w
  res : ∃ Z, w.heap[w0.heap.size + 1]? = some (.cells (cellsW Z) 195 (0, 0)) ∧ Z.length = 8
  r5 : w.heap[g5]? = some (.cells (cellsW L) 218 (0, 0))
  r6 : w.heap[g6]? = some (.cells (cellsW K) 218 (0, 0))
  r7 : w.heap[g7]? = some (.cells (cellsW A) 195 (0, 0))
  r8 : w.heap[g8]? = some (.cells (cellsW C) 195 (0, 0))
  lt7 : w0.heap.size + 1 < g7
  lt8 : w0.heap.size + 1 < g8
  ne : g7 ≠ g8 ∧ g5 ≠ g7 ∧ g5 ≠ g8 ∧ g6 ≠ g7 ∧ g6 ≠ g8
section
variable {w0 w : World} {g5 g6 g7 g8 : Nat} {L A C : List (BitVec 32)}
theorem Mem.drew (h : Mem w0 w g5 g6 g7 g8 L A C) : Mem w0 w.drew g5 g6 g7 g8 L A C :=
  ⟨below_drew h.below, h.res, h.r5, h.r6, h.r7, h.r8, h.lt7, h.lt8, h.ne⟩
theorem Mem.drewN (h : Mem w0 w g5 g6 g7 g8 L A C) (n : Nat) : Mem w0 (w.drewN n) g5 g6 g7 g8 L A C :=
  ⟨pbN h.below n, h.res, h.r5, h.r6, h.r7, h.r8, h.lt7, h.lt8, h.ne⟩
theorem Mem.set8 (h : Mem w0 w g5 g6 g7 g8 L A C) (i : Nat) (x : BitVec 32) {v : Int} (hv : v = (x.toNat : Int)) : Mem w0 (w.setCell ⟨g8, i, none⟩ (.int .u32 v)) g5 g6 g7 g8 L A (C.set i x) := by
  obtain ⟨n1, n2, n3, n4, n5⟩ := h.ne; have := h.lt8; obtain ⟨Z, hZ, hZ8⟩ := h.res; exact ⟨h.below.setCell (by simp; omega) _, ⟨Z, row_far hZ _ (by simp; omega), hZ8⟩, row_far h.r5 _ (by simpa using n3), row_far h.r6 _ (by simpa using n5), row_far h.r7 _ (by simpa using n1), row_set h.r8 x hv, h.lt7, h.lt8, h.ne⟩
theorem Mem.set7 (h : Mem w0 w g5 g6 g7 g8 L A C) (i : Nat) (x : BitVec 32) {v : Int} (hv : v = (x.toNat : Int)) : Mem w0 (w.setCell ⟨g7, i, none⟩ (.int .u32 v)) g5 g6 g7 g8 L (A.set i x) C := by
  obtain ⟨n1, n2, n3, n4, n5⟩ := h.ne; have := h.lt7; obtain ⟨Z, hZ, hZ8⟩ := h.res; exact ⟨h.below.setCell (by simp; omega) _, ⟨Z, row_far hZ _ (by simp; omega), hZ8⟩, row_far h.r5 _ (by simpa using n2), row_far h.r6 _ (by simpa using n4), row_set h.r7 x hv, row_far h.r8 _ (by simpa using n1.symm), h.lt7, h.lt8, h.ne⟩
theorem Mem.row8 (h : Mem w0 w g5 g6 g7 g8 L A C) (C' : List (BitVec 32)) : Mem w0 (w.setRow g8 (cellsW C')) g5 g6 g7 g8 L A C' := by
  obtain ⟨n1, n2, n3, n4, n5⟩ := h.ne; have := h.lt8; obtain ⟨Z, hZ, hZ8⟩ := h.res; exact ⟨below_setRow h.below (by omega) _, ⟨Z, (setRow_other _ _ _ _ (by omega)).trans hZ, hZ8⟩, (setRow_other _ _ _ _ n3).trans h.r5, (setRow_other _ _ _ _ n5).trans h.r6, (setRow_other _ _ _ _ n1).trans h.r7, setRow_heap _ _ _ _ _ _ h.r8, h.lt7, h.lt8, h.ne⟩
end
theorem one_val (s : S8) (kk wk : BitVec 32) : ((((s.h.toNat : Int) + bits .xor .u32 (bits .xor .u32 ((ror s.e 6).toNat : Int) ((ror s.e 11).toNat : Int)) ((ror s.e 25).toNat : Int) +
    bits .xor .u32 (s.g.toNat : Int) (bits .and .u32 (s.e.toNat : Int) (bits .xor .u32 (s.f.toNat : Int) (s.g.toNat : Int))) + (kk.toNat : Int)) % 4294967296 + (wk.toNat : Int)) % 4294967296) = ((one s kk wk).toNat : Int) := by
  rw [xor_bv, xor_bv, xor_bv, and_bv, xor_bv]; unfold one; simp only [BitVec.toNat_add]; omega
theorem two_val (s : S8) : (bits .xor .u32 (bits .xor .u32 ((ror s.a 2).toNat : Int) ((ror s.a 13).toNat : Int)) ((ror s.a 22).toNat : Int) +
    bits .or .u32 (bits .and .u32 (s.a.toNat : Int) (bits .or .u32 (s.b.toNat : Int) (s.c.toNat : Int))) (bits .and .u32 (s.b.toNat : Int) (s.c.toNat : Int))) % 4294967296 = ((two s).toNat : Int) := by
  rw [xor_bv, xor_bv, or_bv, and_bv, and_bv, or_bv]; unfold two; simp only [BitVec.toNat_add]; omega
theorem mem_new {w wq : World} {g5 g6 g7 g8 : Nat} {L : List (BitVec 32)} (h : S8) (hB : Below w.heap.size w wq) (z5 : g5 < wq.heap.size) (z6 : g6 < wq.heap.size) (z7 : w.heap.size + 1 < wq.heap.size)
    (H : wq.heap[w.heap.size]? = some (.cells (cellsW (L8 h)) 195 (0, 0)) ∧ wq.heap[w.heap.size + 1]? = some (.cells (cellsW (List.replicate 8 0)) 195 (0, 0)) ∧
      wq.heap[g5]? = some (.cells (cellsW L) 218 (0, 0)) ∧ wq.heap[g6]? = some (.cells (cellsW K) 218 (0, 0)))
    (hg : (g7 = wq.heap.size ∧ g8 = wq.heap.size + 1) ∨ (g7 = wq.heap.size + 1 ∧ g8 = wq.heap.size)) {A C : Array Value} (hA : A = cellsW (L8 h)) (hC : C = cellsW (L8 h)) :
    Mem w ((wq.alloc (.cells A 195)).alloc (.cells C 195)).drew g5 g6 g7 g8 L (L8 h) (L8 h) := by
  subst hA hC; obtain ⟨h0, h1, h5, h6⟩ := H; have n1 := heap_alloc2_old wq (.cells (cellsW (L8 h)) 195) (.cells (cellsW (L8 h)) 195); have n2 := heap_alloc2_new wq (.cells (cellsW (L8 h)) 195) (.cells (cellsW (L8 h)) 195)
  have old : ∀ (k : Nat) (o : Obj), k < wq.heap.size → wq.heap[k]? = some o → ((wq.alloc (.cells (cellsW (L8 h)) 195)).alloc (.cells (cellsW (L8 h)) 195)).heap[k]? = some o := fun k o hk e =>
    (Below.heap_alloc _ _ k (by simp; omega)).trans ((Below.heap_alloc _ _ k hk).trans e)
  refine ⟨below_drew ((hB.alloc (by omega) _).alloc (by simp; omega) _), ⟨_, old _ _ (by omega) h1, rfl⟩, old _ _ z5 h5, old _ _ z6 h6, ?_, ?_, by omega, by omega, by omega⟩
  · rcases hg with ⟨rfl, rfl⟩ | ⟨rfl, rfl⟩
    · exact n1
    · exact n2
  · rcases hg with ⟨rfl, rfl⟩ | ⟨rfl, rfl⟩
    · exact n2
    · exact n1
theorem cell_keep1 {w : World} {a : Addr} {v : Value} (h : w.cell? a = some v) : ∀ o, (w.alloc o).cell? a = some v := fun o => (World.cell?_alloc_lt w o a (World.block_lt_of_cell? w a h)).trans h
theorem cell_keep2 {w : World} {a : Addr} {v : Value} (h : w.cell? a = some v) : ∀ o o', ((w.alloc o).alloc o').cell? a = some v := fun o => cell_keep1 (cell_keep1 h o)
set_option maxHeartbeats 2000000 in
theorem block_any (h : S8) (b : ByteArray) (w : World) (hb : b.size ≤ maxLen) :
    Calls Try.prog 166 #[.agg (cells8 h), .string b] w fun e w' => e = .returned (.agg (cells8 (block h b.data.toList))) ∧ Below w.heap.size w w' := by
  go_enter Try.func166, Try.ntmps166
  go_upto_region 0 with fail
  go_cut [2, 4] (fun s2 s4 wx => s2 = .pointer (some ⟨w.heap.size, 0, none⟩) ∧ s4 = .pointer (some ⟨w.heap.size + 1, 0, none⟩) ∧ wx.heap[w.heap.size]? = some (.cells (cellsW (L8 h)) 195 (0, 0)) ∧
    wx.heap[w.heap.size + 1]? = some (.cells (cellsW (List.replicate 8 0)) 195 (0, 0)) ∧ Below w.heap.size w wx)
  case first =>
    go_wp2_with fail
    go_meet; exact ⟨rfl, rfl, (heap_alloc2_old w _ _).trans rfl, (heap_alloc2_new w _ _).trans (by kernel_rfl), ((Below.refl _ _).alloc (Nat.le_refl _) _).alloc (by simp) _⟩
  case rest =>
    obtain ⟨rfl, rfl, h0, h1, hB⟩ := hcut
    obtain ⟨wp, rfl⟩ : ∃ wp : World, wp = wc := ⟨_, rfl⟩
    have z0 := blk_lt h1; have H0 := Lib.hid h0; have H1 := Lib.hid h1; clear h0 h1
    go_upto_region 1 with fail
    go_cut [5, 6] (fun s5 s6 wx => ∃ g5 g6, s5 = .pointer (some ⟨g5, 0, none⟩) ∧ s6 = .pointer (some ⟨g6, 0, none⟩) ∧ wx.heap[g5]? = some (.cells (cellsW (sched b.data.toList)) 218 (0, 0)) ∧
      wx.heap[g6]? = some (.cells (cellsW K) 218 (0, 0)) ∧ Below wp.heap.size wp wx ∧ wp.heap.size ≤ g5)
    case first =>
      go_wp2_with fail
      go_at_call 179
      refine (spread_any b _ hb).mono ?_; rintro e w1 ⟨rfl, hb1⟩
      go_wp2_with fail
      go_at_call 180
      refine (constants_any _).mono ?_; rintro e w2 ⟨rfl, hb2⟩
      have hs1 : (cellsW (sched b.data.toList)).size = 64 := by rw [size_cellsW, sched, length_schedN]
      have HS := Lib.hid hs1; clear hs1
      go_wp2_with (first
       | (refine wpList_store_row rfl 218 (.tmp 5) (.tmp 16) rfl w2.heap.size (cellsW (sched b.data.toList)) rfl rfl 218 _ (heap_alloc2_old w2 _ _) (by rw [HS.out]; kernel_rfl) (by rw [HS.out]; kernel_rfl) (oneCell_cellsW _) ?_)
       | (refine wpList_store_row rfl 218 (.tmp 6) (.tmp 17) rfl (w2.heap.size + 1) (cellsW K) rfl rfl 218 _ ((setRow_other _ _ _ _ (by omega)).trans (heap_alloc2_new w2 _ _)) (by kernel_rfl) (by kernel_rfl) (oneCell_cellsW _) ?_))
      go_meet; refine ⟨w2.heap.size, w2.heap.size + 1, rfl, rfl, (setRow_other _ _ _ _ (by omega)).trans (setRow_heap _ _ _ _ _ _ (heap_alloc2_old w2 _ _)), setRow_heap _ _ _ _ _ _ ((setRow_other _ _ _ _ (by omega)).trans (heap_alloc2_new w2 _ _)), ?_, ?_⟩
      · have z1 := hb1.size; have z2 := hb2.size
        refine below_setRow (below_setRow (((?_ : Below wp.heap.size wp w2).alloc (by omega) _).alloc (by simp; omega) _) (by omega) _) (by omega) _; exact hb1.trans (hb2.mono z1)
      · have z1 := hb1.size; have z2 := hb2.size
        omega
    case rest =>
      obtain ⟨g5, g6, rfl, rfl, h5, h6, hB1, z5⟩ := hcut
      obtain ⟨wq, rfl⟩ : ∃ wq : World, wq = wc := ⟨_, rfl⟩
      have z51 := blk_lt h5; have z61 := blk_lt h6
      have z7 : w.heap.size + 1 < wq.heap.size := by have := hB1.size; omega
      have h0 : wq.heap[w.heap.size]? = some (.cells (cellsW (L8 h)) 195 (0, 0)) := (hB1.block _ (by omega)).trans H0.out; have h1 : wq.heap[w.heap.size + 1]? = some (.cells (cellsW (List.replicate 8 0)) 195 (0, 0)) := (hB1.block _ z0).trans H1.out; have hBq : Below w.heap.size w wq := hB.trans (hB1.mono hB.size); have c0 : wq.cell? ⟨w.heap.size, 0, none⟩ = some (.int .u32 (h.a.toNat : Int)) := (cell_of_row _ _ _ _ _ _ h0).trans rfl; have c1 : wq.cell? ⟨w.heap.size, 1, none⟩ = some (.int .u32 (h.b.toNat : Int)) := (cell_of_row _ _ _ _ _ _ h0).trans rfl; have c2 : wq.cell? ⟨w.heap.size, 2, none⟩ = some (.int .u32 (h.c.toNat : Int)) := (cell_of_row _ _ _ _ _ _ h0).trans rfl; have c3 : wq.cell? ⟨w.heap.size, 3, none⟩ = some (.int .u32 (h.d.toNat : Int)) := (cell_of_row _ _ _ _ _ _ h0).trans rfl; have c4 : wq.cell? ⟨w.heap.size, 4, none⟩ = some (.int .u32 (h.e.toNat : Int)) := (cell_of_row _ _ _ _ _ _ h0).trans rfl; have c5 : wq.cell? ⟨w.heap.size, 5, none⟩ = some (.int .u32 (h.f.toNat : Int)) := (cell_of_row _ _ _ _ _ _ h0).trans rfl; have c6 : wq.cell? ⟨w.heap.size, 6, none⟩ = some (.int .u32 (h.g.toNat : Int)) := (cell_of_row _ _ _ _ _ _ h0).trans rfl; have c7 : wq.cell? ⟨w.heap.size, 7, none⟩ = some (.int .u32 (h.h.toNat : Int)) := (cell_of_row _ _ _ _ _ _ h0).trans rfl; have HH := Lib.hid (And.intro h0 (And.intro h1 (And.intro h5 h6))); clear h0 h1 h5 h6; have d0 := cell_keep1 c0; have f0 := cell_keep2 c0; have d1 := cell_keep1 c1; have f1 := cell_keep2 c1; have d2 := cell_keep1 c2; have f2 := cell_keep2 c2; have d3 := cell_keep1 c3; have f3 := cell_keep2 c3; have d4 := cell_keep1 c4; have f4 := cell_keep2 c4; have d5 := cell_keep1 c5; have f5 := cell_keep2 c5; have d6 := cell_keep1 c6; have f6 := cell_keep2 c6; have d7 := cell_keep1 c7; have f7 := cell_keep2 c7
      go_upto_region 2 with fail
      go_cut [7, 8] (fun s7 s8 wx => ∃ g7 g8, s7 = .pointer (some ⟨g7, 0, none⟩) ∧ s8 = .pointer (some ⟨g8, 0, none⟩) ∧ Mem w wx g5 g6 g7 g8 (sched b.data.toList) (L8 h) (L8 h))
      case first =>
        go_region
        all_goals (go_wp2_with fail; go_meet)
        · exact ⟨wq.heap.size, wq.heap.size + 1, rfl, rfl, mem_new h hBq z51 z61 z7 HH.out (Or.inl ⟨rfl, rfl⟩) rfl rfl⟩
        · exact ⟨wq.heap.size + 1, wq.heap.size, rfl, rfl, mem_new h hBq z51 z61 z7 HH.out (Or.inr ⟨rfl, rfl⟩) rfl rfl⟩
      case rest =>
        obtain ⟨g7, g8, rfl, rfl, hM⟩ := hcut; clear c0 c1 c2 c3 c4 c5 c6 c7 d0 d1 d2 d3 d4 d5 d6 d7 f0 f1 f2 f3 f4 f5 f6 f7 HH H0 H1 z0 z5 z51 z61 z7 hB hB1 hBq
        obtain ⟨L, hL⟩ : ∃ L, L = sched b.data.toList := ⟨_, rfl⟩
        rw [← hL] at hM
        have hL64 : L.length = 64 := by rw [hL, sched, length_schedN]
        have HL := Lib.hid (And.intro hL hL64); clear hL hL64; go_wp2
        go_loopw [20] (fun c wr => ∃ k : Nat, k ≤ 64 ∧ c = .int .i64 (k : Int) ∧ Mem w wr g5 g6 g7 g8 L (L8 h) (L8 (rounds L h k))) (fun c _ => 64 - (intOf c).toNat)
        case atStart => exact ⟨0, by omega, rfl, hM⟩
        case round =>
          clear hM; obtain ⟨k, hk, rfl, hM⟩ := hrel
          by_cases hlt : k < 64
          · have hdec : decide ((k : Int) < 64) = true := by simp; omega
            have hki : (k : Int) < 64 := by omega
            obtain ⟨s, hs⟩ : ∃ s, s = rounds L h k := ⟨_, rfl⟩
            rw [← hs] at hM
            obtain ⟨wk, hwk⟩ : ∃ x, x = L.getD k 0 := ⟨_, rfl⟩
            obtain ⟨kk, hkk⟩ : ∃ x, x = K.getD k 0 := ⟨_, rfl⟩
            have c0 : wr.cell? ⟨g8, 0, none⟩ = some (.int .u32 (s.a.toNat : Int)) := (cell_of_row _ _ _ _ _ _ hM.r8).trans rfl; have c1 : wr.cell? ⟨g8, 1, none⟩ = some (.int .u32 (s.b.toNat : Int)) := (cell_of_row _ _ _ _ _ _ hM.r8).trans rfl; have c2 : wr.cell? ⟨g8, 2, none⟩ = some (.int .u32 (s.c.toNat : Int)) := (cell_of_row _ _ _ _ _ _ hM.r8).trans rfl; have c4 : wr.cell? ⟨g8, 4, none⟩ = some (.int .u32 (s.e.toNat : Int)) := (cell_of_row _ _ _ _ _ _ hM.r8).trans rfl; have c5 : wr.cell? ⟨g8, 5, none⟩ = some (.int .u32 (s.f.toNat : Int)) := (cell_of_row _ _ _ _ _ _ hM.r8).trans rfl; have c6 : wr.cell? ⟨g8, 6, none⟩ = some (.int .u32 (s.g.toNat : Int)) := (cell_of_row _ _ _ _ _ _ hM.r8).trans rfl; have c7 : wr.cell? ⟨g8, 7, none⟩ = some (.int .u32 (s.h.toNat : Int)) := (cell_of_row _ _ _ _ _ _ hM.r8).trans rfl; have cw := row_cell hM.r5 (by rw [HL.out.2]; exact hlt) hwk
            have ck := row_cell hM.r6 (by have : K.length = 64 := by kernel_rfl
                                          omega) hkk
            have HM := Lib.hid hM; have HS := Lib.hid (And.intro hs (And.intro hwk hkk)); clear hM hs hwk hkk
            go_upto_region 7 with fail
            go_cut [11] (fun s11 wx => s11 = .int .u32 ((one s kk wk).toNat : Int) ∧ Mem w wx g5 g6 g7 g8 L (L8 h) (L8 s))
            case first =>
              go_quiet ((go_at_call 181; exact Calls.quiet_of_same ((down_any _ _ (by omega) (by omega) _).mono fun e w' he => ⟨he.1, he.2.symm⟩)))
              go_wp2_with fail
              go_meet; exact ⟨congrArg (Value.int .u32) (one_val s kk wk), HM.out.drewN _⟩
            case rest =>
              obtain ⟨rfl, hM⟩ := hcut; clear c0 c1 c2 c4 c5 c6 c7 cw ck HM; have c0 : wc.cell? ⟨g8, 0, none⟩ = some (.int .u32 (s.a.toNat : Int)) := (cell_of_row _ _ _ _ _ _ hM.r8).trans rfl; have c1 : wc.cell? ⟨g8, 1, none⟩ = some (.int .u32 (s.b.toNat : Int)) := (cell_of_row _ _ _ _ _ _ hM.r8).trans rfl; have c2 : wc.cell? ⟨g8, 2, none⟩ = some (.int .u32 (s.c.toNat : Int)) := (cell_of_row _ _ _ _ _ _ hM.r8).trans rfl; have HM := Lib.hid hM; clear hM
              go_upto_region 9 with fail
              go_cut [13] (fun s13 wx => s13 = .int .u32 ((two s).toNat : Int) ∧ Mem w wx g5 g6 g7 g8 L (L8 h) (L8 s))
              case first =>
                go_quiet ((go_at_call 181; exact Calls.quiet_of_same ((down_any _ _ (by omega) (by omega) _).mono fun e w' he => ⟨he.1, he.2.symm⟩)))
                go_wp2_with fail
                go_meet; exact ⟨congrArg (Value.int .u32) (two_val s), HM.out.drewN _⟩
              case rest =>
                obtain ⟨rfl, hM⟩ := hcut; clear c0 c1 c2 HM
                go_upto_region 10 with fail
                go_cut [] (fun wx => Mem w wx g5 g6 g7 g8 L (L8 h) [s.a, s.a, s.b, s.c, s.d, s.e, s.f, s.g])
                case first =>
                  go_still_tail 2, (by kernel_rfl)
                  change wpList _ _ _ _ _ wc.drew
                  refine wpList_copy_own rfl (.tmp 79) (.tmp 80) 231 231 rfl 194 Try.underlying231 (by kernel_rfl) g8 1 7 7 ⟨g8, 0, none⟩ 7 8 rfl rfl (cellsW (L8 s)) 195 (hM.drew).r8
                    [.int .u32 (s.a.toNat : Int), .int .u32 (s.b.toNat : Int), .int .u32 (s.c.toNat : Int), .int .u32 (s.d.toNat : Int), .int .u32 (s.e.toNat : Int), .int .u32 (s.f.toNat : Int), .int .u32 (s.g.toNat : Int)] rfl ?_ (by rw [size_cellsW]; exact Nat.le_refl 8) ?_ ?_
                  · intro j v hj; rw [add_plain, cell_of_row _ _ _ _ _ _ (hM.drew).r8]
                    have hj7 : j < 7 := by have := (List.getElem?_eq_some_iff.1 hj).1; simpa using this
                    rcases (show j = 0 ∨ j = 1 ∨ j = 2 ∨ j = 3 ∨ j = 4 ∨ j = 5 ∨ j = 6 by omega) with rfl | rfl | rfl | rfl | rfl | rfl | rfl <;> exact hj
                  · intro v hv; simp only [List.mem_cons, List.not_mem_nil, or_false] at hv
                    rcases hv with rfl | rfl | rfl | rfl | rfl | rfl | rfl <;> rfl
                  · go_wp2_with fail
                    go_meet; exact (hM.drew).row8 [s.a, s.a, s.b, s.c, s.d, s.e, s.f, s.g]
                case rest =>
                  obtain ⟨o1, ho1⟩ : ∃ x, x = one s kk wk := ⟨_, rfl⟩
                  obtain ⟨o2, ho2⟩ : ∃ x, x = two s := ⟨_, rfl⟩
                  rw [← ho1, ← ho2]; have HO := Lib.hid (And.intro ho1 ho2); clear ho1 ho2 hM; have hM := hcut; clear hcut; have c4 : wc.cell? ⟨g8, 4, none⟩ = some (.int .u32 (s.d.toNat : Int)) := (cell_of_row _ _ _ _ _ _ hM.r8).trans rfl; have c0 : wc.cell? ⟨g8, 0, none⟩ = some (.int .u32 (s.a.toNat : Int)) := (cell_of_row _ _ _ _ _ _ hM.r8).trans rfl; have q4 : wc.frozen? ⟨g8, 4, none⟩ = false := frozen_of_row _ _ _ _ _ hM.r8; have q0 : wc.frozen? ⟨g8, 0, none⟩ = false := frozen_of_row _ _ _ _ _ hM.r8; have HM := Lib.hid hM; clear hM; go_wp2; have hv4 : ((s.d.toNat : Int) + (o1.toNat : Int)) % 4294967296 = ((s.d + o1).toNat : Int) := add_bv _ _; have hv0 : ((o1.toNat : Int) + (o2.toNat : Int)) % 4294967296 = ((o1 + o2).toNat : Int) := add_bv _ _; have hM2 := (HM.out.set8 4 _ hv4).set8 0 _ hv0; refine ⟨⟨k + 1, by omega, by go_num, ?_⟩, by simp [intOf]; omega⟩; rw [rounds_succ, ← HS.out.1, ← HS.out.2.1, ← HS.out.2.2]
                  have e : L8 (round s kk wk) = ([s.a, s.a, s.b, s.c, s.d, s.e, s.f, s.g].set 4 (s.d + o1)).set 0 (o1 + o2) := by rw [HO.out.1, HO.out.2]; rfl
                  rw [e]; exact hM2
          · have hdec : decide ((k : Int) < 64) = false := by simp; omega
            have hk64 : k = 64 := by omega
            rw [hk64] at hM
            obtain ⟨s, hs⟩ : ∃ s, s = rounds L h 64 := ⟨_, rfl⟩
            rw [← hs] at hM; have HS := Lib.hid hs; clear hs hk64; have HM := Lib.hid hM; clear hM
            go_upto_region 14 with fail
            go_wp2
            go_loopw [92] (fun c wr => ∃ i : Nat, i ≤ 8 ∧ c = .int .i64 (i : Int) ∧ Mem w wr g5 g6 g7 g8 L ((L8 (addS h s)).take i ++ (L8 h).drop i) (L8 s)) (fun c _ => 8 - (intOf c).toNat)
            case atStart => exact ⟨0, by omega, rfl, HM.out⟩
            case round =>
              clear HM; obtain ⟨i, hi, rfl, hM⟩ := hrel
              by_cases hi8 : i < 8
              · have hdec8 : decide ((i : Int) < 8) = true := by simp; omega
                have hii : (i : Int) < 8 := by omega
                obtain ⟨x, hx⟩ : ∃ x, x = (L8 h).getD i 0 := ⟨_, rfl⟩
                obtain ⟨y, hy⟩ : ∃ y, y = (L8 s).getD i 0 := ⟨_, rfl⟩
                have hlen : ((L8 (addS h s)).take i ++ (L8 h).drop i).length = 8 := by simp [L8]; omega
                have cx : wr.cell? ⟨g7, i, none⟩ = some (.int .u32 (x.toNat : Int)) := row_cell hM.r7 (by omega) (by rw [hx, mix_get (L8 (addS h s)) (L8 h) i 0 hi8]); have cy : wr.cell? ⟨g8, i, none⟩ = some (.int .u32 (y.toNat : Int)) := row_cell hM.r8 (by simpa [L8] using hi8) hy; have qx : wr.frozen? ⟨g7, i, none⟩ = false := frozen_of_row _ _ _ _ _ hM.r7; have HX := Lib.hid (And.intro hx hy); have HM := Lib.hid hM; clear hM hx hy hlen
                go_upto_region 17 with fail
                go_still_tail 8, (by kernel_rfl)
                change wpList _ _ _ _ _ wr.drew
                go_wp2; have hv : ((x.toNat : Int) + (y.toNat : Int)) % 4294967296 = ((x + y).toNat : Int) := add_bv _ _; refine ⟨⟨i + 1, by omega, by go_num, ?_⟩, by simp [intOf]; omega⟩
                have e : x + y = (L8 (addS h s)).getD i 0 := by
                  rw [HX.out.1, HX.out.2]
                  rcases (show i = 0 ∨ i = 1 ∨ i = 2 ∨ i = 3 ∨ i = 4 ∨ i = 5 ∨ i = 6 ∨ i = 7 by omega) with rfl | rfl | rfl | rfl | rfl | rfl | rfl | rfl <;> rfl
                have hM2 := (HM.out.set7 i _ hv).drew; rw [e, mix_set (L8 (addS h s)) (L8 h) i 0 hi8 rfl] at hM2; exact hM2
              · have hdec8 : decide ((i : Int) < 8) = false := by simp; omega
                have hi8' : i = 8 := by omega
                rw [hi8'] at hM; have hM' : Mem w wr g5 g6 g7 g8 L (L8 (addS h s)) (L8 s) := hM; have HM := Lib.hid hM'; obtain ⟨Z, hZ, hZ8⟩ := hM'.res; have hbel := hM'.below; have HZ := Lib.hid (And.intro hZ hZ8); clear hM hM' hZ hZ8 hi8'
                go_wp2_with (first
                  | (refine wpList_load_row rfl 195 (.tmp 7) rfl g7 rfl 195 (cellsW (L8 (addS h s))) (0, 0) _ HM.out.r7 Try.underlying195 rfl (by rw [size_cellsW]; kernel_rfl) ?_)
                  | (refine wpList_store_row rfl 195 (.tmp 4) (.tmp 104) rfl (w.heap.size + 1) (cellsW (L8 (addS h s))) rfl rfl 195 (cellsW Z) HZ.out.1 (by rw [size_cellsW]; kernel_rfl) (by rw [size_cellsW, HZ.out.2, size_cellsW]; rfl) (oneCell_cellsW _) ?_))
                have eb : block h b.data.toList = addS h s := by rw [block, ← HL.out.1, ← HS.out]
                rw [eb]; refine bodyPost_ret (results_cell_row (p := 4) (ty := 195) rfl _ _ (w.heap.size + 1) 195 (cellsW (L8 (addS h s))) (0, 0) _ rfl (setRow_heap _ _ _ _ _ _ HZ.out.1) Try.underlying195 rfl (by rw [size_cellsW]; kernel_rfl)) rfl ⟨rfl, ?_⟩; exact below_setRow hbel (by omega) _
end Go.Proofs.Ytipgldfbjlhpoab.Sha
