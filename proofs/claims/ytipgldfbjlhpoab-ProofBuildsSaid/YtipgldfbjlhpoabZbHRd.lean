/- What came in, read as lists: slices of elements of whatever kind. -/
import Derived.Test.YtipgldfbjlhpoabZbP0
import Derived.Deep.Slices
import Derived.Deep.Fields
import Derived.ChangeArms
namespace Go.Proofs.Ytipgldfbjlhpoab.Rd
set_option linter.unusedVariables false
set_option linter.unusedSimpArgs false
open Go.RowKit Go.Deep Go.Proofs.Ytipgldfbjlhpoab.P Go.Proofs.YtipgldfbjlhpoabW.PrintWords
theorem list_of {α : Type} {p : Nat → α → Prop} (n : Nat) (h : ∀ i, i < n → ∃ v, p i v) : ∃ l : List α, l.length = n ∧ ∀ (i : Nat) (v : α), l[i]? = some v → p i v := by
 induction n with
 | zero => exact ⟨[], rfl, fun i v hv => by simp at hv⟩
 | succ n ih =>
  obtain ⟨l, hl, hp⟩ := ih (fun i hi => h i (by omega))
  obtain ⟨v, hv⟩ := h n (by omega)
  refine ⟨l ++ [v], by simp [hl], fun i u hu => ?_⟩
  rcases Nat.lt_trichotomy i n with hi | hi | hi
  · rw [List.getElem?_append_left (by omega)] at hu
    exact hp i u hu
  · subst hi
    rw [List.getElem?_append_right (by omega), hl, Nat.sub_self] at hu
    obtain rfl : v = u := Option.some.inj hu
    exact hv
  · rw [List.getElem?_eq_none (by simp; omega)] at hu
    cases hu
section
variable {H : Type} {enc : TypeId × Value → H} {W : World} {P : Program} {base : Nat} {sp : Nat → Bool} {held : Bool}
theorem slice {α : Type} (k : Kd α) {t e : TypeId} (ht : P.underlying t = some (.slice e)) (hC : P.cellsOf e = k.sz)
  (hel : ∀ (n : Nat) (cs : List Value) (y : DataW H × List MemPlace), DataW.trod enc P W base sp held n e cs = some y → ∃ v, k.K W v cs)
  {fuel : Nat} {cs : List Value} {x : DataW H × List MemPlace} (h : DataW.trod enc P W base sp held fuel t cs = some x) : ∃ (a : Option Addr) (cap : Nat) (l : List α), cs = [.slice a l.length cap] ∧ Kd.C k W a l.length l ∧ l.length ≤ cap := by
 rcases open_slice ht h with ⟨hcs, _⟩ | ⟨ad, n, c, m, f, D, Pl, hcs, _, hl, hm, hmm, _, hi⟩
 · exact ⟨none, 0, [], hcs, Kd.C_nil _ _, Nat.le_refl _⟩
 · have hnm : n ≤ m := by rw [hmm]; split <;> omega
   obtain ⟨l, hll, hp⟩ := list_of (p := fun i v => ∃ c, c.length = k.sz ∧ k.K W v c ∧ ∀ j u, c[j]? = some u → W.cell? (ad.add (i * k.sz + j)) = some u) n (fun i hin => by
    obtain ⟨cs', hc, ht'⟩ := hi i (by omega)
    obtain ⟨v, hv⟩ := hel _ _ _ ht'
    rw [hC] at hc
    obtain ⟨_, hlen, hat⟩ := World.cells?_some hc
    refine ⟨v, cs', hlen, hv, fun j u hu => ?_⟩
    have hj : j < k.sz := by rw [← hlen]; exact (List.getElem?_eq_some_iff.mp hu).1
    rw [← Go.Deep.add_add, hat j hj, hu])
   refine ⟨some ad, c, l, by rw [hcs, hll], ⟨rfl, by unfold maxLen at hm; omega, fun _ => ⟨ad, rfl, hp⟩⟩, by omega⟩
theorem cell_string {t : TypeId} (ht : P.underlying t = some .string) {n : Nat} {cs : List Value} {y : DataW H × List MemPlace} (h : DataW.trod enc P W base sp held n t cs = some y) : ∃ s : ByteArray, cs = [.string s] := by
 obtain ⟨s, hs, _⟩ := DataW.trod_string ht h
 exact ⟨s, hs⟩
theorem field {t : TypeId} {fs : Array Field} {n : Nat} {cs : List Value} {y : DataW H × List MemPlace} (ht : P.underlying t = some (.struct fs)) (h : DataW.trod enc P W base sp held n t cs = some y) (i : Nat) (f : Field) (hf : fs[i]? = some f)
  (ho : f.offset = i) (hc : P.cellsOf f.type = 1) (hi : i < P.cellsOf t) : ∃ (m : Nat) (v : Value) (z : DataW H × List MemPlace), cs[i]? = some v ∧ DataW.trod enc P W base sp held m f.type [v] = some z := by
 obtain ⟨xs, m, _, _, hl, hx, hp⟩ := DataW.trod_struct ht h
 have h1 := hp i f hf
 rw [ho, hc] at h1
 have hv : cs[i]? = some (cs[i]'(by omega)) := List.getElem?_eq_getElem (by omega)
 have hd : (cs.drop i).take 1 = [cs[i]'(by omega)] := by
  rw [List.drop_eq_getElem_cons (by omega)]
  rfl
 rw [hd] at h1
 have hxi : i < xs.length := by rw [hx]; exact (Array.getElem?_eq_some_iff.mp hf).1
 rw [List.getElem?_eq_getElem hxi] at h1
 exact ⟨m, _, _, hv, h1⟩
theorem list2 {α : Type} {l : List α} {a b : α} (h : l.length = 2) (h0 : l[0]? = some a) (h1 : l[1]? = some b) : l = [a, b] := by
 match l, h with
 | [x, y], _ => simp at h0 h1; rw [h0, h1]
end
section
variable {H : Type} {enc : TypeId × Value → H} {W : World} {base : Nat} {sp : Nat → Bool} {held : Bool}
theorem pair_cells : Try.prog.cellsOf 86 = 2 := by kernel_rfl
theorem string_cells : Try.prog.cellsOf 9 = 1 := by kernel_rfl
theorem pair {n : Nat} {cs : List Value} {y : DataW H × List MemPlace} (h : DataW.trod enc Try.prog W base sp held n 86 cs = some y) : ∃ p : S86, k86.K W p cs := by
 obtain ⟨m0, v0, z0, c0, h0⟩ := field Try.underlying86 h 0 _ rfl rfl string_cells (by rw [pair_cells]; decide)
 obtain ⟨m1, v1, z1, c1, h1⟩ := field Try.underlying86 h 1 _ rfl rfl string_cells (by rw [pair_cells]; decide)
 obtain ⟨s0, e0⟩ := cell_string Try.underlying9 h0
 obtain ⟨s1, e1⟩ := cell_string Try.underlying9 h1
 obtain rfl : v0 = .string s0 := List.head_eq_of_cons_eq e0
 obtain rfl : v1 = .string s1 := List.head_eq_of_cons_eq e1
 obtain ⟨_, _, _, _, hl, _⟩ := DataW.trod_struct Try.underlying86 h
 refine ⟨⟨s0, s1⟩, ?_⟩
 rw [list2 (hl.trans pair_cells) c0 c1]
 exact k86_mk W ⟨s0, s1⟩
theorem pairs {fuel : Nat} {cs : List Value} {x : DataW H × List MemPlace} (h : DataW.trod enc Try.prog W base sp held fuel 39 cs = some x) : ∃ (a : Option Addr) (cap : Nat) (l : List S86), cs = [.slice a l.length cap] ∧ Kd.C k86 W a l.length l ∧ l.length ≤ cap :=
 slice k86 Try.underlying39 pair_cells (fun n cs y h => pair h) h
end
end Go.Proofs.Ytipgldfbjlhpoab.Rd
