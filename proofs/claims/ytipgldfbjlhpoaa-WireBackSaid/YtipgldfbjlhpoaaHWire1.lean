/- A number's bytes, as wire.Num makes them: its contract. -/
import Derived.Test.YtipgldfbjlhpoaaHWire0
import Derived.Deep.RegionWith
namespace Go.Proofs.Ytipgldfbjlhpoaa.Wire
set_option linter.unusedVariables false
set_option linter.unusedSimpArgs false
open Go.RowKit Go.Proofs.YtipgldfbjlhpoaaW.PrintWords Go.Proofs.YtipgldfbjlhpoaaW.PrintLast Go.Proofs.YtipgldfbjlhpoaaW.PrintMore Go.Proofs.Ytipgldfbjlhpoaa.Sha
set_option maxRecDepth 100000

/-- A number's bytes ahead of others. -/
def beA : Nat → Nat → List Int → List Int
  | 0, _, acc => acc
  | f + 1, n, acc => if n = 0 then acc else beA f (n / 256) (((n % 256 : Nat) : Int) :: acc)
def be (n : Nat) : List Int := beA 8 n []
theorem beA_zero (f : Nat) (acc : List Int) : beA f 0 acc = acc := by cases f <;> simp [beA]
theorem length_beA : ∀ (f n : Nat) (acc : List Int) (p : Nat), n < 256 ^ p → (beA f n acc).length ≤ acc.length + p
  | 0, n, acc, p, _ => by simp [beA]
  | f + 1, n, acc, p, h => by
    unfold beA
    split
    · omega
    · rename_i hn
      cases p with
      | zero => simp at h; omega
      | succ p =>
        have := length_beA f (n / 256) (((n % 256 : Nat) : Int) :: acc) p (by rw [Nat.pow_succ] at h; omega)
        simp only [List.length_cons] at this
        omega
def numB (n : Nat) : ByteArray := strOfNums (((be n).length : Int) :: be n)
def rowN (L : List Int) : Array Value := (nums .u8 L).toArray
theorem rowN_get (L : List Int) (i : Nat) (x : Int) (h : L[i]? = some x) : (rowN L)[i]? = some (.int .u8 x) := by
  simp [rowN, nums, h]
theorem rowN_set (L : List Int) (i : Nat) (x : Int) : (rowN L).setIfInBounds i (.int .u8 x) = rowN (L.set i x) := by
  apply Array.ext'
  simp [rowN, nums, List.map_set]
section
variable {w : World} {g i : Nat} {t : TypeId} {L : List Int}
theorem rown_cell (h : w.heap[g]? = some (.cells (rowN L) t (0, 0))) {x : Int} (hx : L[i]? = some x) : w.cell? ⟨g, i, none⟩ = some (.int .u8 x) := by
  rw [cell_of_row _ _ _ _ _ _ h, rowN_get _ _ _ hx]
theorem rown_set (h : w.heap[g]? = some (.cells (rowN L) t (0, 0))) (x : Int) : (w.setCell ⟨g, i, none⟩ (.int .u8 x)).heap[g]? = some (.cells (rowN (L.set i x)) t (0, 0)) := by
  rw [heap_setCell_same w g i _ t _ h, rowN_set]
end
theorem set_front (a : Nat) (acc : List Int) (x : Int) : (List.replicate (a + 1) (0 : Int) ++ acc).set a x = List.replicate a 0 ++ x :: acc := by
  rw [List.replicate_succ', List.append_assoc, List.set_append_right _ _ (by simp)]
  simp
set_option maxHeartbeats 1000000 in
theorem num_ok (n : Nat) (w : World) (hn : n ≤ 9007199254740992) :
    Calls Try.prog 39 #[.int .i64 (n : Int)] w fun e w' => e = .returned (.tuple #[.string (numB n), .int .i64 0]) ∧ Below w.heap.size w w' := by
  have h1 : ¬ (n : Int) < 0 := by omega
  have h2 : ¬ (9007199254740992 : Int) < (n : Int) := by omega
  go_enter Try.func39, Try.ntmps39
  go_upto_region 3 with fail
  go_cut [4] (fun s4 wx => s4 = .pointer (some ⟨w.heap.size, 0, none⟩) ∧ wx.heap[w.heap.size]? = some (.cells (rowN (List.replicate 8 0)) 97 (0, 0)) ∧ Below w.heap.size w wx)
  case first =>
    go_wp2_with fail
    go_meet
    exact ⟨rfl, (heap_alloc_new w _).trans (by kernel_rfl), (Below.refl _ _).alloc (Nat.le_refl _) _⟩
  case rest =>
    obtain ⟨rfl, h0, hB⟩ := hcut
    have H0 := Lib.hid h0
    clear h0
    go_upto_region 4 with fail
    go_wp2
    go_loopw [0, 5] (fun v c wr => ∃ (m at_ : Nat) (acc : List Int), v = .int .i64 (m : Int) ∧ c = .int .i64 (at_ : Int) ∧ at_ + acc.length = 8 ∧ beA at_ m acc = be n ∧ m < 256 ^ (at_ - 1) ∧ 1 ≤ at_ ∧ wr.heap[w.heap.size]? = some (.cells (rowN (List.replicate at_ 0 ++ acc)) 97 (0, 0)) ∧ Below w.heap.size w wr) (fun _ c _ => (intOf c).toNat)
    case atStart => exact ⟨n, 8, [], rfl, rfl, rfl, rfl, by omega, by omega, H0.out, hB⟩
    case round =>
      clear H0
      obtain ⟨m, at_, acc, rfl, rfl, hlen, hbe, hm, h1at, h0, hB⟩ := hrel
      by_cases hpos : 0 < m
      · have hpi : (0 : Int) < (m : Int) := by omega
        obtain ⟨a, ha⟩ : ∃ a, at_ = a + 1 := ⟨at_ - 1, by omega⟩
        have ha0 : 1 ≤ a := by
          rcases Nat.eq_zero_or_pos a with h | h
          · subst h; rw [ha] at hm; simp at hm; omega
          · exact h
        subst ha
        have ha8 : a < 8 := by omega
        have ha8i : (a : Int) < 8 := by omega
        have hfz : wr.frozen? ⟨w.heap.size, a, none⟩ = false := frozen_of_row _ _ _ _ _ h0
        obtain ⟨c, hc⟩ : ∃ c, wr.cell? ⟨w.heap.size, a, none⟩ = some c := by
          refine ⟨_, rown_cell h0 (x := 0) ?_⟩
          rw [List.getElem?_append_left (by simp)]
          simp
        have e1 : (((a + 1 : Nat) : Int) - 1) = (a : Int) := by omega
        have HH := Lib.hid (And.intro hlen (And.intro hbe (And.intro hm h0)))
        clear hlen hbe hm h0
        go_wp2_with fail
        obtain ⟨hlen, hbe, hm, h0⟩ := HH.out
        have hm2 : m < 256 ^ a := hm
        refine ⟨⟨m / 256, a, ((m % 256 : Nat) : Int) :: acc, by go_num, rfl, by simp; omega, ?_, ?_, ha0, ?_, hB.setCell (Nat.le_refl _) _⟩, by simp [intOf]⟩
        · rw [← hbe, beA, if_neg (by omega)]
        · obtain ⟨p, rfl⟩ : ∃ p, a = p + 1 := ⟨a - 1, by omega⟩
          rw [Nat.pow_succ] at hm2
          show m / 256 < 256 ^ p
          omega
        · rw [← set_front]
          exact rown_set h0 _
      · have hpi : ¬ (0 : Int) < (m : Int) := by omega
        have hm0 : m = 0 := by omega
        subst hm0
        rw [beA_zero] at hbe
        subst hbe
        obtain ⟨L, hL⟩ : ∃ L, L = (be n).length := ⟨_, rfl⟩
        rw [← hL] at hlen
        have e8 : (8 : Int) - (at_ : Int) = (L : Int) := by omega
        have e9 : IntKind.i64.wrap (L : Int) = (L : Int) := by rw [IntKind.wrap_i64]; omega
        have e11 : IntKind.u8.wrap (L : Int) = (L : Int) := by simp [IntKind.wrap, IntKind.signed, IntKind.bits]; omega
        have h8 : (at_ : Int) ≤ 8 := by omega
        have h8n : at_ ≤ 8 := by omega
        have e10 : 8 - at_ = L := by omega
        have hsz := hB.size
        have hc1 : (convert 31 9 (.slice (some ⟨wr.heap.size, 0, none⟩) 1 1)).run Try.prog (wr.alloc (.cells #[.int .u8 (L : Int)] 5)).drew = .ok (.string (strOfNums [(L : Int)])) (wr.alloc (.cells #[.int .u8 (L : Int)] 5)).drew :=
          run_convert_bytes_arg _ 31 5 Try.underlying31 Try.underlying5 wr.heap.size 0 1 1 [(L : Int)] rfl (fun i hi => by
            obtain rfl : i = 0 := by omega
            rw [cell_of_row _ _ _ _ _ _ (show (wr.alloc (.cells #[.int .u8 (L : Int)] 5)).drew.heap[wr.heap.size]? = _ from heap_alloc_new wr _)]; rfl) _ Try.underlying9
        have hcell : ∀ W : World, W.heap[w.heap.size]? = wr.heap[w.heap.size]? → (convert 31 9 (.slice (some (if 8 = at_ then { block := w.heap.size, off := 0 } else { block := w.heap.size, off := at_ })) L L)).run Try.prog W = .ok (.string (strOfNums (be n))) W := fun W hW => by
          by_cases h8 : 8 = at_
          · have hL0 : L = 0 := by omega
            have hb0 : be n = [] := List.eq_nil_of_length_eq_zero (by omega)
            rw [if_pos h8, hL0]
            exact run_convert_bytes_arg W 31 5 Try.underlying31 Try.underlying5 w.heap.size 0 0 0 (be n) (by rw [hb0]; rfl) (fun i hi => by omega) _ Try.underlying9
          · rw [if_neg h8]
            exact run_convert_bytes_arg W 31 5 Try.underlying31 Try.underlying5 w.heap.size at_ L L (be n) hL.symm (fun i hi => by
              refine rown_cell (hW.trans h0) ?_
              rw [List.getElem?_append_right (by simp), List.length_replicate, show at_ + i - at_ = i by omega, List.getElem?_eq_getElem (by omega), List.getD_eq_getElem?_getD, List.getElem?_eq_getElem (by omega)]
              rfl) _ Try.underlying9
        have hlt0 : w.heap.size < wr.heap.size := by
          rcases Nat.lt_or_ge w.heap.size wr.heap.size with h | h
          · exact h
          · rw [Array.getElem?_eq_none h] at h0; cases h0
        have hc2 := hcell wr.drew rfl
        have hc3 := hcell (wr.alloc (.cells #[.int .u8 (L : Int)] 5)).drew (by first | exact heap_alloc_old wr _ hlt0 | exact heap_alloc_old wr _ _ hlt0)
        obtain ⟨sL, hsL⟩ : ∃ sL, sL = strOfNums [(L : Int)] := ⟨_, rfl⟩
        obtain ⟨sB, hsB⟩ : ∃ sB, sB = strOfNums (be n) := ⟨_, rfl⟩
        have hcat : sL.size + sB.size ≤ 9223372036854775807 := by rw [hsL, hsB, strOfNums_size, strOfNums_size, ← hL]; simp; omega
        have hall : numB n = sL ++ sB := by
          rw [hsL, hsB, numB, ← hL]
          simp [strOfNums]
          rfl
        rw [← hsL] at hc1
        rw [← hsB] at hc2 hc3
        have HS := Lib.hid (And.intro hsL (And.intro hsB hall))
        clear hsL hsB hall
        have HH := Lib.hid (And.intro hL (And.intro hlen (And.intro hm h0)))
        clear hL hlen hm h0 hcell
        go_upto_region 9 with fail
        go_region
        all_goals go_wp2
        all_goals go_ret2
        all_goals exact ⟨by rw [HS.out.2.2]; rfl, by first | exact hB.alloc hsz _ | exact below_drew (hB.alloc hsz _)⟩
theorem num_bad (n : Int) (w : World) (hn : n < 0 ∨ 9007199254740992 < n) :
    Calls Try.prog 39 #[.int .i64 n] w fun e w' => e = .returned (.tuple #[.string ⟨#[]⟩, .int .i64 3]) ∧ Below w.heap.size w w' := by
  by_cases h1 : n < 0
  · go_enter Try.func39, Try.ntmps39
    go_wp2
    go_ret2
    exact ⟨rfl, Below.refl _ _⟩
  · have h2 : (9007199254740992 : Int) < n := by omega
    go_enter Try.func39, Try.ntmps39
    go_wp2
    go_ret2
    exact ⟨rfl, Below.refl _ _⟩
end Go.Proofs.Ytipgldfbjlhpoaa.Wire
