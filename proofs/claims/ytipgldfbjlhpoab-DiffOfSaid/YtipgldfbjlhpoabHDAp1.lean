/- diff.Apply: what is done with each pair and change: the closures' contracts. -/
import Derived.Test.YtipgldfbjlhpoabHDOf1
namespace Go.Proofs.Ytipgldfbjlhpoab.P
set_option linter.unusedVariables false
set_option linter.unusedSimpArgs false
open Go.RowKit Go.Proofs.YtipgldfbjlhpoabW.PrintWords Go.Proofs.YtipgldfbjlhpoabW.PrintLast Go.Proofs.YtipgldfbjlhpoabW.PrintMore
set_option maxRecDepth 100000
/-- A list of pairs that grows in a variable. -/
structure OutP (base : Nat) (W : World) (q : Nat) (v : Value) (l : List S86) : Prop where
  hq : W.heap[q]? = some (.cells #[v] 39 (0, 0))
  hR : Kd.R k86 86 W base (fun _ => True) v l
  ge : base ≤ q
theorem OutP.under {base : Nat} {W W' : World} {q : Nat} {v : Value} {l : List S86} (h : OutP base W q v l) (hb : Below W.heap.size W W') : OutP base W' q v l :=
  ⟨blk_below h.hq hb, Kd.R_below h.hR hb, h.ge⟩
theorem OutP.cell {base : Nat} {W : World} {q : Nat} {v : Value} {l : List S86} (h : OutP base W q v l) : W.cell? ⟨q, 0, none⟩ = some v ∧ W.frozen? ⟨q, 0, none⟩ = false :=
  ⟨(cell_of_row _ _ _ _ _ _ h.hq).trans rfl, frozen_of_row _ _ _ _ _ h.hq⟩
/-- What an append and the store behind it leave. -/
theorem OutP.put {base : Nat} {W w1 : World} {q : Nat} {v v1 : Value} {l l1 : List S86} (h : OutP base W q v l) (ho : Kd.R k86 86 w1 base (fun _ => True) v1 l1) (hb : Below base W w1) (hg : W.grownBy w1 v.ownBlock) (hat : v1.ownBlock = v.ownBlock ∨ ∃ b, v1.ownBlock = some b ∧ W.heap.size ≤ b) :
    OutP base (w1.setCell ⟨q, 0, none⟩ v1) q v1 l1 ∧ Grew base q W (w1.setCell ⟨q, 0, none⟩ v1) v v1 := by
  have hq1 : w1.heap[q]? = some (.cells #[v] 39 (0, 0)) := blk_grown h.hq hg (Kd.R_ne h.hR h.hq (by decide))
  refine ⟨⟨(heap_setCell_same _ _ _ _ _ _ hq1).trans rfl, ?_, h.ge⟩, ⟨hb.setCell h.ge _, fun g hlt hne hno => ?_, hat⟩⟩
  · exact Kd.R_mono (Kd.R_far (p := ⟨q, 0, none⟩) (Kd.R_types ho hq1 (by decide)) (fun k hk => hk.2) v1) (fun _ _ => trivial)
  · rw [Below.heap_setCell w1 ⟨q, 0, none⟩ v1 g hne]
    exact hg.block g hlt hno
set_option maxHeartbeats 4000000 in
theorem ap2_any (base q : Nat) (a b : ByteArray) (v : Value) (l : List S86) (W : World) (h : OutP base W q v l) (hl : l.length < 3518437208883) :
    Calls Try.prog 92 #[.agg #[.string a, .string b], .pointer (some ⟨q, 0, none⟩)] W fun e w' => e = .returned (.tuple #[]) ∧ ∃ v1, OutP base w' q v1 (l ++ [⟨a, b⟩]) ∧ Grew base q W w' v v1 := by
  have hbW : base ≤ W.heap.size := by have := blk_lt h.hq; have := h.ge; omega
  have hn : Below W.heap.size W (W.alloc (.cells #[.string a, .string b] 86)) := (Below.refl _ _).alloc (Nat.le_refl _) _
  have HO := Lib.hid (h.under hn)
  obtain ⟨c0, f0⟩ := (h.under hn).cell
  have HN := Lib.hid hn
  obtain ⟨A, c, rfl⟩ := Kd.R_slice h.hR
  clear h hn
  go_enter Try.func92, Try.ntmps92
  go_wp2_with ((with_reducible refine gate_builtin (b := .append) (xs := #[.tmp 3, .tmp 5]) rfl ?_); at_builtin; refine And.right (a := True) ?_)
  refine ⟨trivial, ?_⟩
  refine Kd.R_append k86 (w0 := (W.alloc (.cells #[.string a, .string b] 86))) base rfl (.tmp 3) (.tmp 5) 39 86 (.agg #[(.string ⟨#[]⟩), (.string ⟨#[]⟩)]) 32 rfl Try.underlying39 info86 rfl (by decide) (by omega) (.slice A l.length c) l (⟨a, b⟩ : S86) [.string a, .string b] (fun _ => True) (fun _ => False) rfl (by first | (go_simp; done) | (go_simp; rfl)) (k86_mkM _ _ _ (⟨a, b⟩ : S86)) (fun _ hk => hk.elim) (fun _ _ => trivial) HO.out.hR (Below.refl _ _) (by have := HN.out.size; omega) (by omega) ?_
  intro v1 w1 ho hb hg hat
  have hput := HO.out.put ho hb hg hat
  have hq1 := blk_grown HO.out.hq hg (Kd.R_ne HO.out.hR HO.out.hq (by decide))
  obtain ⟨A1, c1, rfl⟩ := Kd.R_slice ho
  have x1 : w1.cell? ⟨q, 0, none⟩ = some (.slice A l.length c) := (cell_of_row _ _ _ _ _ _ hq1).trans rfl
  have y1 : w1.frozen? ⟨q, 0, none⟩ = false := frozen_of_row _ _ _ _ _ hq1
  rw [show ∀ p : S86, (l ++ [p]).length = l.length + 1 from fun p => by simp] at hput
  have HP := Lib.hid hput
  clear ho hb hg hat hput hq1
  go_wp2
  go_end0
  exact ⟨rfl, _, HP.out.1, HP.out.2.since HN.out hbW⟩
set_option maxHeartbeats 4000000 in
theorem ap1_any (base q : Nat) (a b : ByteArray) (g : Bool) (v : Value) (l : List S86) (W : World) (h : OutP base W q v l) (hl : l.length < 3518437208883) :
    Calls Try.prog 89 #[.agg #[.string a, .string b, .bool g], .pointer (some ⟨q, 0, none⟩)] W fun e w' => e = .returned (.tuple #[]) ∧ ∃ v1, OutP base w' q v1 (l ++ (if g = true then [] else [⟨a, b⟩])) ∧ Grew base q W w' v v1 := by
  have hbW : base ≤ W.heap.size := by have := blk_lt h.hq; have := h.ge; omega
  have hn : Below W.heap.size W (W.alloc (.cells #[.string a, .string b, .bool g] 62)) := (Below.refl _ _).alloc (Nat.le_refl _) _
  have HO := Lib.hid (h.under hn)
  obtain ⟨c0, f0⟩ := (h.under hn).cell
  have HN := Lib.hid hn
  obtain ⟨A, c, rfl⟩ := Kd.R_slice h.hR
  clear h hn
  cases g with
  | true =>
    go_enter Try.func89, Try.ntmps89
    go_wp2
    go_end0
    exact ⟨rfl, _, by first | exact HO.out | (rw [if_pos rfl, List.append_nil]; exact HO.out), Grew.none HN.out hbW⟩
  | false =>
    go_enter Try.func89, Try.ntmps89
    go_wp2_with ((with_reducible refine gate_builtin (b := .append) (xs := #[.tmp 6, .tmp 12]) rfl ?_); at_builtin; refine And.right (a := True) ?_)
    refine ⟨trivial, ?_⟩
    refine Kd.R_append k86 (w0 := (W.alloc (.cells #[.string a, .string b, .bool false] 62))) base rfl (.tmp 6) (.tmp 12) 39 86 (.agg #[(.string ⟨#[]⟩), (.string ⟨#[]⟩)]) 32 rfl Try.underlying39 info86 rfl (by decide) (by omega) (.slice A l.length c) l (⟨a, b⟩ : S86) [.string a, .string b] (fun _ => True) (fun _ => False) rfl (by first | (go_simp; done) | (go_simp; rfl)) (k86_mkM _ _ _ (⟨a, b⟩ : S86)) (fun _ hk => hk.elim) (fun _ _ => trivial) HO.out.hR (Below.refl _ _) (by have := HN.out.size; omega) (by omega) ?_
    intro v1 w1 ho hb hg hat
    have hput := HO.out.put ho hb hg hat
    have hq1 := blk_grown HO.out.hq hg (Kd.R_ne HO.out.hR HO.out.hq (by decide))
    obtain ⟨A1, c1, rfl⟩ := Kd.R_slice ho
    have x1 : w1.cell? ⟨q, 0, none⟩ = some (.slice A l.length c) := (cell_of_row _ _ _ _ _ _ hq1).trans rfl
    have y1 : w1.frozen? ⟨q, 0, none⟩ = false := frozen_of_row _ _ _ _ _ hq1
    rw [show ∀ p : S86, (l ++ [p]).length = l.length + 1 from fun p => by simp] at hput
    have HP := Lib.hid hput
    clear ho hb hg hat hput hq1
    go_wp2
    go_end0
    exact ⟨rfl, _, HP.out.1, HP.out.2.since HN.out hbW⟩
end Go.Proofs.Ytipgldfbjlhpoab.P
