/- Lists of changes that came in. -/
import Derived.Test.YtipgldfbjlhpoabHRd
namespace Go.Proofs.Ytipgldfbjlhpoab.Rd
set_option linter.unusedVariables false
set_option linter.unusedSimpArgs false
open Go.RowKit Go.Deep Go.ChangeShapes Go.WideShapes Go.Proofs.Ytipgldfbjlhpoab.P Go.Proofs.YtipgldfbjlhpoabW.PrintWords
set_option maxRecDepth 100000
section
variable {H : Type} {enc : TypeId × Value → H} {W : World} {base : Nat} {sp : Nat → Bool} {held : Bool}
theorem change_cells : Try.prog.cellsOf 62 = 3 := by kernel_rfl
theorem bool_cells : Try.prog.cellsOf 4 = 1 := by kernel_rfl
theorem cell_bool {t : TypeId} (ht : Try.prog.underlying t = some .bool) {n : Nat} {cs : List Value} {y : DataW H × List MemPlace} (h : DataW.trod enc Try.prog W base sp held n t cs = some y) : ∃ s : Bool, cs = [.bool s] := by
  obtain ⟨s, hs, _⟩ := DataW.trod_bool ht h
  exact ⟨s, hs⟩
theorem change {n : Nat} {cs : List Value} {y : DataW H × List MemPlace} (h : DataW.trod enc Try.prog W base sp held n 62 cs = some y) : ∃ p : S62, k62.K W p cs := by
  obtain ⟨m0, v0, z0, c0, h0⟩ := field Try.underlying62 h 0 _ rfl rfl string_cells (by rw [change_cells]; decide)
  obtain ⟨m1, v1, z1, c1, h1⟩ := field Try.underlying62 h 1 _ rfl rfl string_cells (by rw [change_cells]; decide)
  obtain ⟨m2, v2, z2, c2, h2⟩ := field Try.underlying62 h 2 _ rfl rfl bool_cells (by rw [change_cells]; decide)
  obtain ⟨s0, e0⟩ := cell_string Try.underlying9 h0
  obtain ⟨s1, e1⟩ := cell_string Try.underlying9 h1
  obtain ⟨s2, e2⟩ := cell_bool Try.underlying4 h2
  obtain rfl : v0 = .string s0 := List.head_eq_of_cons_eq e0
  obtain rfl : v1 = .string s1 := List.head_eq_of_cons_eq e1
  obtain rfl : v2 = .bool s2 := List.head_eq_of_cons_eq e2
  obtain ⟨_, _, _, _, hl, _⟩ := DataW.trod_struct Try.underlying62 h
  refine ⟨⟨s0, s1, s2⟩, ?_⟩
  rw [list3 (hl.trans change_cells) c0 c1 c2]
  exact k62_mk W ⟨s0, s1, s2⟩
theorem changes {fuel : Nat} {cs : List Value} {x : DataW H × List MemPlace} (h : DataW.trod enc Try.prog W base sp held fuel 40 cs = some x) : ∃ (a : Option Addr) (cap : Nat) (l : List S62), cs = [.slice a l.length cap] ∧ Kd.C k62 W a l.length l ∧ l.length ≤ cap :=
  slice k62 Try.underlying40 change_cells (fun n cs y h => change h) h
end
end Go.Proofs.Ytipgldfbjlhpoab.Rd
