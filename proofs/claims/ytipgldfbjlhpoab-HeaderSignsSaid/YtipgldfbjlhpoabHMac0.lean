/- The key's mixed bytes, as the closure in mac.Sum makes them: its contract. -/
import Derived.Test.YtipgldfbjlhpoabHRSha
import Derived.Lib.BufferWrite
namespace Go.Proofs.Ytipgldfbjlhpoab.Sha
set_option linter.unusedVariables false
set_option linter.unusedSimpArgs false
open Go.RowKit Go.Proofs.YtipgldfbjlhpoabW.PrintWords Go.Proofs.YtipgldfbjlhpoabW.PrintLast Go.Proofs.YtipgldfbjlhpoabW.PrintMore
set_option maxRecDepth 100000

def macC (key : ByteArray) (i : Nat) : Int := if i < key.size then bt key i else 0
def mixTo (key : ByteArray) (b : Int) (n : Nat) : List Int := (List.range 64).map fun j => if j < n then bits .xor .u8 (macC key j) b else macC key j
def mixS (key : ByteArray) (b : Int) : ByteArray := strOfNums (mixTo key b 64)
theorem length_mixTo (key : ByteArray) (b : Int) (n : Nat) : (mixTo key b n).length = 64 := by simp [mixTo]
theorem mixTo_at (key : ByteArray) (b : Int) (n i : Nat) (hi : i < 64) : (mixTo key b n)[i]? = some (if i < n then bits .xor .u8 (macC key i) b else macC key i) := by
  simp [mixTo, hi]
theorem mixTo_set (key : ByteArray) (b : Int) (n : Nat) (hn : n < 64) : (mixTo key b n).set n (bits .xor .u8 (macC key n) b) = mixTo key b (n + 1) := by
  apply List.ext_getElem?
  intro i
  by_cases hi : i < 64
  · rw [List.getElem?_set, mixTo_at _ _ _ _ hi, mixTo_at _ _ _ _ hi, length_mixTo]
    by_cases h : n = i
    · subst h; simp [hn]
    · have : i < n + 1 ↔ i < n := by omega
      simp [h, this]
  · rw [List.getElem?_eq_none (by simp [length_mixTo]; omega), List.getElem?_eq_none (by simp [length_mixTo]; omega)]
def rowN (L : List Int) : Array Value := (nums .u8 L).toArray
theorem rowN_get (L : List Int) (i : Nat) (x : Int) (h : L[i]? = some x) : (rowN L)[i]? = some (.int .u8 x) := by
  simp [rowN, nums, h]
theorem rowN_set (L : List Int) (i : Nat) (x : Int) : (rowN L).setIfInBounds i (.int .u8 x) = rowN (L.set i x) := by
  apply Array.ext'
  simp [rowN, nums, List.map_set]
def zeros64 : Array Value := Array.replicate 64 (.int .u8 0)
theorem copied (key : ByteArray) (b : Int) (hs : key.size ≤ 64) : (zeros64.toList.take 0 ++ Lib.byteCells key.data.toList ++ zeros64.toList.drop (0 + key.size)).toArray = rowN (mixTo key b 0) := by
  unfold rowN
  congr 1
  have hl : key.data.toList.length = key.size := by rw [Array.length_toList]; rfl
  apply List.ext_getElem?
  intro i
  by_cases hi : i < 64
  · simp only [nums, List.getElem?_map, mixTo_at _ _ _ _ hi, List.take_zero, List.nil_append, Nat.zero_add]
    by_cases hk : i < key.size
    · rw [List.getElem?_append_left (by simp [Lib.byteCells, hl, hk])]
      simp only [Lib.byteCells, List.getElem?_map, Nat.not_lt_zero, if_false, Option.map_some, macC, hk, if_true, bt]
      have : i < key.data.toList.length := by omega
      rw [List.getElem?_eq_getElem this]
      simp [hk]
      rfl
    · rw [List.getElem?_append_right (by simp [Lib.byteCells, hl]; omega)]
      simp only [Lib.byteCells, List.length_map, hl, List.getElem?_drop, zeros64, Array.toList_replicate]
      rw [show key.size + (i - key.size) = i by omega, List.getElem?_replicate]
      simp [hi, macC, hk]
  · rw [List.getElem?_eq_none (by simp [Lib.byteCells, hl, zeros64]; omega), List.getElem?_eq_none (by simp [length_mixTo, nums]; omega)]
section
variable {w : World} {g i : Nat} {t : TypeId} {L : List Int}
theorem rown_cell (h : w.heap[g]? = some (.cells (rowN L) t (0, 0))) {x : Int} (hx : L[i]? = some x) : w.cell? ⟨g, i, none⟩ = some (.int .u8 x) := by
  rw [cell_of_row _ _ _ _ _ _ h, rowN_get _ _ _ hx]
theorem rown_set (h : w.heap[g]? = some (.cells (rowN L) t (0, 0))) (x : Int) : (w.setCell ⟨g, i, none⟩ (.int .u8 x)).heap[g]? = some (.cells (rowN (L.set i x)) t (0, 0)) := by
  rw [heap_setCell_same w g i _ t _ h, rowN_set]
end
theorem xor_range (a b : Int) : IntKind.u8.wrap (bits .xor .u8 a b) = bits .xor .u8 a b := by
  unfold bits
  simp [IntKind.wrap, IntKind.signed, IntKind.bits]
set_option maxHeartbeats 1000000 in
theorem mixed_any (key : ByteArray) (b : Int) (kp : Nat) (w : World) (hs : key.size ≤ 64) (hk : w.cell? ⟨kp, 0, none⟩ = some (.string key)) :
    Calls Try.prog 140 #[.int .u8 b, .pointer (some ⟨kp, 0, none⟩)] w fun e w' => e = .returned (.string (mixS key b)) ∧ Below w.heap.size w w' := by
  have hkp : kp < w.heap.size := by
    rcases Nat.lt_or_ge kp w.heap.size with h | h
    · exact h
    · simp [World.cell?, h] at hk
  go_enter Try.func140, Try.ntmps140
  go_upto_region 1 with fail
  go_cut [4] (fun s4 wx => s4 = .pointer (some ⟨w.heap.size, 0, none⟩) ∧ wx.heap[w.heap.size]? = some (.cells zeros64 191 (0, 0)) ∧ Below w.heap.size w wx)
  case first =>
    go_wp2_with fail
    go_meet
    exact ⟨rfl, (heap_alloc_new w _).trans (by kernel_rfl), (Below.refl _ _).alloc (Nat.le_refl _) _⟩
  case rest =>
    obtain ⟨rfl, h0, hB⟩ := hcut
    have hkc : wc.cell? ⟨kp, 0, none⟩ = some (.string key) := by rw [← hk]; exact hB.cell hkp
    have hks : key.size ≤ 9223372036854775807 := by omega
    have hcp : (Builtin.copy_ #[142, 9] 3 #[.slice (some ⟨w.heap.size, 0, none⟩) 64 64, .string key]).run Try.prog wc.drew = .ok (goInt key.size) (wc.drew.setRow w.heap.size (rowN (mixTo key b 0))) := by
      rw [← copied key b hs]
      exact Lib.run_copy_row_string wc.drew 142 9 3 5 w.heap.size 0 64 64 key zeros64 191 Try.underlying142 (by kernel_rfl) h0 hs (by simp [zeros64]; omega)
    go_upto_region 2 with fail
    go_cut [4] (fun s4 wx => s4 = .pointer (some ⟨w.heap.size, 0, none⟩) ∧ wx.heap[w.heap.size]? = some (.cells (rowN (mixTo key b 0)) 191 (0, 0)) ∧ Below w.heap.size w wx)
    case first =>
      go_still_tail 2, (by kernel_rfl)
      change wpList _ _ _ _ _ wc.drew
      go_wp2_with fail
      go_meet
      exact ⟨rfl, setRow_heap _ _ _ _ _ _ h0, below_setRow (below_drew hB) (Nat.le_refl _) _⟩
    case rest =>
      clear hcp hkc h0 hB hks
      obtain ⟨rfl, h0, hB⟩ := hcut
      have H0 := Lib.hid h0
      clear h0
      go_wp2
      go_loopw [9, 5] (fun c i wr => ∃ k : Nat, k ≤ 64 ∧ c = .int .i64 (k : Int) ∧ wr.heap[w.heap.size]? = some (.cells (rowN (mixTo key b k)) 191 (0, 0)) ∧ Below w.heap.size w wr) (fun c _ _ => 64 - (intOf c).toNat)
      case atStart => exact ⟨0, Nat.zero_le _, rfl, H0.out, hB⟩
      case round =>
        clear H0
        obtain ⟨k, hk, rfl, h0, hB⟩ := hrel
        by_cases hlt : k < 64
        · have hki : (k : Int) < 64 := by omega
          obtain ⟨x, hx⟩ : ∃ x, x = macC key k := ⟨_, rfl⟩
          have hc : wr.cell? ⟨w.heap.size, k, none⟩ = some (.int .u8 x) := rown_cell h0 (by rw [mixTo_at _ _ _ _ hlt]; simp [hx])
          have hfz : wr.frozen? ⟨w.heap.size, k, none⟩ = false := frozen_of_row _ _ _ _ _ h0
          have H0 := Lib.hid h0
          have HX := Lib.hid hx
          clear h0 hx
          go_wp2_with fail
          refine ⟨⟨k + 1, by omega, by go_num, ?_, ?_⟩, ?_⟩
          · rw [← mixTo_set key b k hlt, ← HX.out]
            exact rown_set H0.out _
          · exact hB.setCell (Nat.le_refl _) _
          · simp [intOf]; omega
        · have hk64 : k = 64 := by omega
          have hki : ¬ (k : Int) < 64 := by omega
          subst hk64
          have hcv : (convert 142 9 (.slice (some ⟨w.heap.size, 0, none⟩) 64 64)).run Try.prog wr = .ok (.string (mixS key b)) wr :=
            run_convert_bytes_arg wr 142 5 Try.underlying142 Try.underlying5 w.heap.size 0 64 64 (mixTo key b 64) (length_mixTo _ _ _) (fun i hi => by
              rw [Nat.zero_add]
              exact rown_cell h0 (by rw [List.getD_eq_getElem?_getD, mixTo_at _ _ _ _ hi]; rfl)) _ Try.underlying9
          clear h0
          go_wp2
          go_ret
          exact ⟨rfl, hB⟩
end Go.Proofs.Ytipgldfbjlhpoab.Sha
