/- SHA-256's schedule of words, as sha.spread makes it: its contract. -/
import Derived.Test.YtipgldfbjlhpoaaHSha0
import Derived.Test.YtipgldfbjlhpoaaP0
import Derived.Deep.CutRange
import Derived.Deep.DeepCutAuto
import Derived.Deep.LoopGhost
namespace Go.Proofs.Ytipgldfbjlhpoaa.Sha
set_option linter.unusedVariables false
set_option linter.unusedSimpArgs false
open Go.RowKit Go.Proofs.YtipgldfbjlhpoaaW.PrintWords Go.Proofs.YtipgldfbjlhpoaaW.PrintLast Go.Proofs.YtipgldfbjlhpoaaW.PrintMore
attribute [local go_sem] max2_int min2_int max_two min_two
set_option maxRecDepth 100000

theorem byteAt_get (b : ByteArray) (k : Nat) (h : k < b.size) : IntKind.u32.wrap (((b[k]'h).toNat : Nat) : Int) = ((byteAt b.data.toList k).toNat : Int) := by
  have e : b.data.toList.getD k 0 = b[k]'h := by
    have h' : k < b.data.toList.length := by rw [Array.length_toList]; exact h
    rw [getD_getElem _ _ _ h']; rfl
  have := (b[k]'h).toNat_lt
  unfold byteAt
  rw [e, IntKind.wrap_u32, BitVec.toNat_ofNat]
  omega
section
variable {w : World} {g i : Nat} {t : TypeId} {L : List (BitVec 32)} {cs : Array Value}
theorem row_cell (h : w.heap[g]? = some (.cells (cellsW L) t (0, 0))) (hi : i < L.length) {x : BitVec 32} (hx : x = L.getD i 0) : w.cell? ⟨g, i, none⟩ = some (.int .u32 (x.toNat : Int)) := by
  rw [cell_of_row _ _ _ _ _ _ h, cellsW_get _ _ hi, hx]
theorem row_set (h : w.heap[g]? = some (.cells (cellsW L) t (0, 0))) (x : BitVec 32) {v : Int} (hv : v = (x.toNat : Int)) : (w.setCell ⟨g, i, none⟩ (.int .u32 v)).heap[g]? = some (.cells (cellsW (L.set i x)) t (0, 0)) := by
  rw [hv, heap_setCell_same w g i _ t _ h, cellsW_set]
theorem row_far (h : w.heap[g]? = some (.cells cs t (0, 0))) {a : Addr} (v : Value) (hg : g ≠ a.block) : (w.setCell a v).heap[g]? = some (.cells cs t (0, 0)) := by
  rw [heap_setCell_other w a g v hg]; exact h
end
theorem oneCell_cellsW (L : List (BitVec 32)) : (cellsW L).all (·.oneCell') = true := by
  rw [Array.all_eq_true_iff_forall_mem]
  intro v hv
  simp only [cellsW, List.mem_toArray, List.mem_map] at hv
  obtain ⟨x, _, rfl⟩ := hv
  rfl
theorem below_setRow {B : Nat} {w w' : World} (h : Below B w w') {g : Nat} (hg : B ≤ g) (cs : Array Value) : Below B w (w'.setRow g cs) :=
  ⟨h.os, h.tape, h.output, by simp; exact h.size, fun b hb => (setRow_other w' g b cs (by omega)).trans (h.block b hb)⟩
theorem le_maxLen {n : Nat} (h : n ≤ maxLen) : n ≤ 9223372036854775807 := by unfold maxLen at h; omega
set_option maxHeartbeats 1000000 in
theorem spread_any (b : ByteArray) (w : World) (hb : b.size ≤ maxLen) :
    Calls Try.prog 61 #[.string b] w fun e w' => e = .returned (.agg (cellsW (sched b.data.toList))) ∧ Below w.heap.size w w' := by
  unfold maxLen at hb
  go_enter Try.func61, Try.ntmps61
  go_upto_region 1 with fail
  go_cut [2, 3] (fun s2 s3 wx => s2 = .pointer (some ⟨w.heap.size, 0, none⟩) ∧ s3 = .pointer (some ⟨w.heap.size + 1, 0, none⟩) ∧ wx.heap[w.heap.size]? = some (.cells (cellsW (words [])) 79 (0, 0)) ∧
    wx.heap[w.heap.size + 1]? = some (.cells (cellsW (words [])) 79 (0, 0)) ∧ Below w.heap.size w wx)
  case first =>
    go_wp2_with fail
    go_meet
    exact ⟨rfl, rfl, (heap_alloc2_old w _ _).trans (by kernel_rfl), (heap_alloc2_new w _ _).trans (by kernel_rfl), ((Below.refl _ _).alloc (Nat.le_refl _) _).alloc (by simp) _⟩
  case rest =>
    obtain ⟨rfl, rfl, h0, h1, hB⟩ := hcut
    obtain ⟨wp, rfl⟩ : ∃ wp : World, wp = wc := ⟨_, rfl⟩
    obtain ⟨M, hM⟩ : ∃ M : Nat, M = min 64 b.size := ⟨_, rfl⟩
    have HM := Lib.hid hM
    have hM1 : M ≤ b.size := by omega
    have hM2 : M ≤ 64 := by omega
    clear hM
    have H0 := Lib.hid h0
    have H1 := Lib.hid h1
    clear h0 h1
    go_upto_region 2 with fail
    go_cut [12, 13] (fun s12 s13 wx => s12 = .int .i64 (M : Int) ∧ s13 = .int .i64 ((0 : Nat) : Int) ∧ wx = wp)
    case first =>
      go_wp2
      all_goals go_meet
      all_goals exact ⟨congrArg (Value.int .i64) (by have := HM.out; omega), rfl, rfl⟩
    case rest =>
      obtain ⟨rfl, rfl, rfl⟩ := hcut
      go_wp2
      go_loopw [13, 4] (fun c i wr => ∃ k : Nat, k ≤ M ∧ c = .int .i64 (k : Int) ∧ wr.heap[w.heap.size]? = some (.cells (cellsW (words [])) 79 (0, 0)) ∧
          wr.heap[w.heap.size + 1]? = some (.cells (cellsW (words (b.data.toList.take k))) 79 (0, 0)) ∧ Below w.heap.size w wr) (fun c _ _ => M - (intOf c).toNat)
      case atStart => exact ⟨0, Nat.zero_le _, rfl, H0.out, H1.out, hB⟩
      case round =>
        obtain ⟨k, hk, rfl, h0, h1, hB⟩ := hrel
        by_cases hlt : k < M
        · have hdec : decide ((k : Int) < (M : Int)) = true := by simp; omega
          have hkb : k < b.size := by omega
          have hlen := length_words (b.data.toList.take k)
          obtain ⟨q, hq⟩ : ∃ q : Nat, q = k / 4 := ⟨_, rfl⟩
          obtain ⟨r, hr⟩ : ∃ r : Nat, r = k % 4 := ⟨_, rfl⟩
          obtain ⟨s, hs⟩ : ∃ s : Nat, s = 24 - 8 * r := ⟨_, rfl⟩
          have hq64 : q < 64 := by omega
          have hq64i : (q : Int) < 64 := by omega
          have hkbi : (k : Int) < (b.size : Int) := by omega
          have hr4 : r < 4 := by omega
          have e1 : IntKind.i64.wrap ((k : Int) / 4) = (q : Int) := by rw [IntKind.wrap_i64]; omega
          have e2 : (k : Int).tmod 4 = (r : Int) := by rw [Int.tmod_eq_emod_of_nonneg (by omega)]; omega
          have e3 : IntKind.i64.wrap (8 * (r : Int)) = 8 * (r : Int) := by rw [IntKind.wrap_i64]; omega
          have e4 : IntKind.i64.wrap (24 - 8 * (r : Int)) = (s : Int) := by rw [IntKind.wrap_i64]; omega
          obtain ⟨x, hx⟩ : ∃ x, x = (words (b.data.toList.take k)).getD q 0 := ⟨_, rfl⟩
          obtain ⟨y, hy⟩ : ∃ y, y = byteAt b.data.toList k := ⟨_, rfl⟩
          have hc : wr.cell? ⟨w.heap.size + 1, q, none⟩ = some (.int .u32 (x.toNat : Int)) := by
            rw [cell_of_row _ _ _ _ _ _ h1, cellsW_get _ _ (by omega), hx]
          have ey : IntKind.u32.wrap (((b[k]'hkb).toNat : Nat) : Int) = (y.toNat : Int) := by
            rw [hy]; exact byteAt_get b k hkb
          have Hx := Lib.hid hx
          have Hy := Lib.hid hy
          have hs0 : (0 : Int) ≤ (s : Int) := by omega
          have hs32 : s ≤ 32 := by omega
          clear hx hy
          have hf : wr.frozen? ⟨w.heap.size + 1, q, none⟩ = false := frozen_of_row _ _ _ _ _ h1
          have Hq := Lib.hid hq
          have Hr := Lib.hid hr
          have Hs := Lib.hid hs
          clear hq hr hs
          have H0 := Lib.hid h0
          have H1 := Lib.hid h1
          have HL := Lib.hid hlen
          clear h0 h1 hlen
          go_upto_region 5 with fail
          go_still_tail 15, (by kernel_rfl)
          change wpList _ _ _ _ _ wr.drew
          go_wp2
          have hv : bits .or .u32 (x.toNat : Int) ((y.toNat : Int) * 2 ^ s % 4294967296) = ((x ||| y <<< s).toNat : Int) := by rw [shl_bv, or_bv]
          have ew : words (b.data.toList.take (k + 1)) = (words (b.data.toList.take k)).set q (x ||| y <<< s) := by
            have := Hq.out; have := Hr.out; have := Hs.out
            rw [words_step _ _ (by omega), ← Hq.out, ← Hx.out, ← Hy.out, Hs.out, Hr.out]
          refine ⟨⟨k + 1, by omega, by go_num, ?_, ?_, ?_⟩, by simp [intOf]; omega⟩
          · exact row_far H0.out _ (by simp)
          · rw [ew]; exact row_set H1.out _ hv
          · exact below_drew (hB.setCell (by simp) _)
        · have hdec : decide ((k : Int) < (M : Int)) = false := by simp; omega
          have hkM : k = M := by omega
          rw [hkM, words_take _ _ (by have := HM.out; rw [Array.length_toList]; change M = 64 ∨ b.size ≤ M; omega)] at h1
          have H0 := Lib.hid h0
          have H1 := Lib.hid h1
          clear h0 h1 hkM
          go_upto_region 7 with fail
          go_wp2
          go_loopw [5] (fun c wr => ∃ j : Nat, j ≤ 48 ∧ c = .int .i64 ((16 + j : Nat) : Int) ∧ wr.heap[w.heap.size]? = some (.cells (cellsW (words [])) 79 (0, 0)) ∧
              wr.heap[w.heap.size + 1]? = some (.cells (cellsW (schedN b.data.toList j)) 79 (0, 0)) ∧ Below w.heap.size w wr) (fun c _ => 64 - (intOf c).toNat)
          case atStart => exact ⟨0, by omega, rfl, H0.out, H1.out, hB⟩
          case round =>
            obtain ⟨j, hj, rfl, h0, h1, hB⟩ := hrel
            obtain ⟨t, ht⟩ : ∃ t : Nat, t = 16 + j := ⟨_, rfl⟩
            rw [← ht]
            have hL := length_schedN b.data.toList j
            by_cases hlt : t < 64
            · have ht16 : 16 ≤ t := by omega
              have hdec : decide ((t : Int) < 64) = true := by simp; omega
              obtain ⟨t15, h15⟩ : ∃ t15 : Nat, t15 = t - 15 := ⟨_, rfl⟩
              obtain ⟨t2, h2⟩ : ∃ t2 : Nat, t2 = t - 2 := ⟨_, rfl⟩
              obtain ⟨t16, h16⟩ : ∃ t16 : Nat, t16 = t - 16 := ⟨_, rfl⟩
              obtain ⟨t7, h7⟩ : ∃ t7 : Nat, t7 = t - 7 := ⟨_, rfl⟩
              have e15 : IntKind.i64.wrap ((t : Int) - 15) = (t15 : Int) := by rw [IntKind.wrap_i64]; omega
              have e2 : IntKind.i64.wrap ((t : Int) - 2) = (t2 : Int) := by rw [IntKind.wrap_i64]; omega
              have e16 : IntKind.i64.wrap ((t : Int) - 16) = (t16 : Int) := by rw [IntKind.wrap_i64]; omega
              have e7 : IntKind.i64.wrap ((t : Int) - 7) = (t7 : Int) := by rw [IntKind.wrap_i64]; omega
              have b15 : (t15 : Int) < 64 := by omega
              have b2 : (t2 : Int) < 64 := by omega
              have b16 : (t16 : Int) < 64 := by omega
              have b7 : (t7 : Int) < 64 := by omega
              have bt : (t : Int) < 64 := by omega
              obtain ⟨x15, hx15⟩ : ∃ x, x = (schedN b.data.toList j).getD t15 0 := ⟨_, rfl⟩
              obtain ⟨x2, hx2⟩ : ∃ x, x = (schedN b.data.toList j).getD t2 0 := ⟨_, rfl⟩
              obtain ⟨x16, hx16⟩ : ∃ x, x = (schedN b.data.toList j).getD t16 0 := ⟨_, rfl⟩
              obtain ⟨x7, hx7⟩ : ∃ x, x = (schedN b.data.toList j).getD t7 0 := ⟨_, rfl⟩
              obtain ⟨xt, hxt⟩ : ∃ x, x = (schedN b.data.toList j).getD t 0 := ⟨_, rfl⟩
              have c15 := row_cell h1 (by omega) hx15
              have c2 := row_cell h1 (by omega) hx2
              have c16 := row_cell h1 (by omega) hx16
              have c7 := row_cell h1 (by omega) hx7
              have ct := row_cell h1 (by omega) hxt
              have cf : wr.frozen? ⟨w.heap.size + 1, t, none⟩ = false := frozen_of_row _ _ _ _ _ h1
              have HT := Lib.hid (And.intro ht (And.intro h15 (And.intro h2 (And.intro h16 h7))))
              have HX := Lib.hid (And.intro hx15 (And.intro hx2 (And.intro hx16 hx7)))
              have H0 := Lib.hid h0
              have H1 := Lib.hid h1
              clear h0 h1 ht h15 h2 h16 h7 hx15 hx2 hx16 hx7 hxt hL
              go_upto_region 10 with fail
              go_quiet (fail)
              go_upto_region 13 with (go_at_call 63; refine (down_any _ _ (by omega) (by omega) _).mono ?_; rintro e w' ⟨rfl, rfl⟩)
              obtain ⟨lo, hlo⟩ : ∃ lo, lo = sg0 x15 := ⟨_, rfl⟩
              obtain ⟨hi, hhi⟩ : ∃ hi, hi = sg1 x2 := ⟨_, rfl⟩
              have elo : bits .xor .u32 (bits .xor .u32 ((ror x15 7).toNat : Int) ((ror x15 18).toNat : Int)) ((x15.toNat : Int) / 8) = (lo.toNat : Int) := by rw [shr3_bv, xor_bv, xor_bv, hlo]; rfl
              have ehi : bits .xor .u32 (bits .xor .u32 ((ror x2 17).toNat : Int) ((ror x2 19).toNat : Int)) ((x2.toNat : Int) / 1024) = (hi.toNat : Int) := by rw [shr10_bv, xor_bv, xor_bv, hhi]; rfl
              simp only [elo, ehi]
              have HLH := Lib.hid (And.intro hlo hhi)
              clear hlo hhi elo ehi
              replace H0 : RowKit.Hid ((wr.drewN nq).heap[w.heap.size]? = some (.cells (cellsW (words [])) 79 (0, 0))) := H0
              replace H1 : RowKit.Hid ((wr.drewN nq).heap[w.heap.size + 1]? = some (.cells (cellsW (schedN b.data.toList j)) 79 (0, 0))) := H1
              replace c16 : (wr.drewN nq).cell? ⟨w.heap.size + 1, t16, none⟩ = some (.int .u32 (x16.toNat : Int)) := c16
              replace c7 : (wr.drewN nq).cell? ⟨w.heap.size + 1, t7, none⟩ = some (.int .u32 (x7.toNat : Int)) := c7
              replace ct : (wr.drewN nq).cell? ⟨w.heap.size + 1, t, none⟩ = some (.int .u32 (xt.toNat : Int)) := ct
              replace cf : (wr.drewN nq).frozen? ⟨w.heap.size + 1, t, none⟩ = false := cf
              replace hB := pw_below_drewN hB nq
              clear c15 c2
              generalize wr.drewN nq = wq at *
              go_still_tail 15, (by kernel_rfl)
              change wpList _ _ _ _ _ wq.drew
              go_wp2
              have hv : (((x16.toNat : Int) + lo.toNat + x7.toNat + hi.toNat) % 4294967296) = ((x16 + lo + x7 + hi).toNat : Int) := by
                simp only [BitVec.toNat_add]; omega
              have es : schedN b.data.toList (j + 1) = (schedN b.data.toList j).set t (x16 + lo + x7 + hi) := by
                obtain ⟨g1, g2, g3, g4, g5⟩ := HT.out
                obtain ⟨f1, f2, f3, f4⟩ := HX.out
                rw [schedN_succ, schedStep, schedW, ← g1, ← g2, ← g3, ← g4, ← g5, ← f1, ← f2, ← f3, ← f4, HLH.out.1, HLH.out.2]
              have h1j := HT.out.1
              refine ⟨⟨j + 1, by omega, by rw [h1j]; go_num, ?_, ?_, ?_⟩, by simp [intOf]; omega⟩
              · exact row_far H0.out _ (by simp)
              · rw [es]; exact row_set H1.out _ hv
              · exact below_drew (hB.setCell (by simp) _)
            · have hdec : decide ((t : Int) < 64) = false := by simp; omega
              have hj48 : j = 48 := by omega
              rw [hj48] at h1
              have H0 := Lib.hid h0
              have H1 := Lib.hid h1
              clear h0 h1 hL ht hj48
              go_wp2_with (first
                | (refine wpList_load_row rfl 79 _ rfl (w.heap.size + 1) rfl 79 (cellsW (schedN b.data.toList 48)) (0, 0) _ H1.out Try.underlying79 rfl (by rw [size_cellsW, length_schedN]; kernel_rfl) ?_)
                | (refine wpList_store_row rfl 79 _ _ rfl w.heap.size (cellsW (schedN b.data.toList 48)) rfl rfl 79 (cellsW (words [])) H0.out (by rw [size_cellsW, length_schedN]; kernel_rfl) (by rw [size_cellsW, length_words, size_cellsW, length_schedN]) (oneCell_cellsW _) ?_))
              refine bodyPost_ret (results_cell_row (p := 2) (ty := 79) rfl _ _ w.heap.size 79 (cellsW (schedN b.data.toList 48)) (0, 0) _ rfl (setRow_heap _ _ _ _ _ _ H0.out) Try.underlying79 rfl (by rw [size_cellsW, length_schedN]; kernel_rfl)) rfl ⟨rfl, ?_⟩
              exact below_setRow hB (Nat.le_refl _) _
end Go.Proofs.Ytipgldfbjlhpoaa.Sha
