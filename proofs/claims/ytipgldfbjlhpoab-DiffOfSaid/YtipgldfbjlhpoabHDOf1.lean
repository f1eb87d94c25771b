/- diff.Of: what is done with each pair: the closures' contracts. -/
import Derived.Test.YtipgldfbjlhpoabHFine
namespace Go.Proofs.Ytipgldfbjlhpoab.P
set_option linter.unusedVariables false
set_option linter.unusedSimpArgs false
open Go.RowKit Go.Proofs.YtipgldfbjlhpoabW.PrintWords Go.Proofs.YtipgldfbjlhpoabW.PrintLast Go.Proofs.YtipgldfbjlhpoabW.PrintMore
set_option maxRecDepth 100000
/-- A list of changes that grows in a variable. -/
structure OutC (base : Nat) (W : World) (q : Nat) (v : Value) (l : List S62) : Prop where
  hq : W.heap[q]? = some (.cells #[v] 40 (0, 0))
  hR : Kd.R k62 62 W base (fun _ => True) v l
  ge : base ≤ q
structure Grew (base q : Nat) (W W' : World) (v v1 : Value) : Prop where
  below : Below base W W'
  rest : ∀ g, g < W.heap.size → g ≠ q → some g ≠ v.ownBlock → W'.heap[g]? = W.heap[g]?
  own : v1.ownBlock = v.ownBlock ∨ ∃ b, v1.ownBlock = some b ∧ W.heap.size ≤ b
theorem OutC.under {base : Nat} {W W' : World} {q : Nat} {v : Value} {l : List S62} (h : OutC base W q v l) (hb : Below W.heap.size W W') : OutC base W' q v l :=
  ⟨blk_below h.hq hb, Kd.R_below h.hR hb, h.ge⟩
theorem OutC.cell {base : Nat} {W : World} {q : Nat} {v : Value} {l : List S62} (h : OutC base W q v l) : W.cell? ⟨q, 0, none⟩ = some v ∧ W.frozen? ⟨q, 0, none⟩ = false :=
  ⟨(cell_of_row _ _ _ _ _ _ h.hq).trans rfl, frozen_of_row _ _ _ _ _ h.hq⟩
/-- What an append and the store behind it leave. -/
theorem OutC.put {base : Nat} {W w1 : World} {q : Nat} {v v1 : Value} {l l1 : List S62} (h : OutC base W q v l) (ho : Kd.R k62 62 w1 base (fun _ => True) v1 l1) (hb : Below base W w1) (hg : W.grownBy w1 v.ownBlock) (hat : v1.ownBlock = v.ownBlock ∨ ∃ b, v1.ownBlock = some b ∧ W.heap.size ≤ b) :
    OutC base (w1.setCell ⟨q, 0, none⟩ v1) q v1 l1 ∧ Grew base q W (w1.setCell ⟨q, 0, none⟩ v1) v v1 := by
  have hq1 : w1.heap[q]? = some (.cells #[v] 40 (0, 0)) := blk_grown h.hq hg (Kd.R_ne h.hR h.hq (by decide))
  refine ⟨⟨(heap_setCell_same _ _ _ _ _ _ hq1).trans rfl, ?_, h.ge⟩, ⟨hb.setCell h.ge _, fun g hlt hne hno => ?_, hat⟩⟩
  · exact Kd.R_mono (Kd.R_far (p := ⟨q, 0, none⟩) (Kd.R_types ho hq1 (by decide)) (fun k hk => hk.2) v1) (fun _ _ => trivial)
  · rw [Below.heap_setCell w1 ⟨q, 0, none⟩ v1 g hne]
    exact hg.block g hlt hno
theorem Grew.since {base q : Nat} {W W1 W' : World} {v v1 : Value} (h : Grew base q W1 W' v v1) (hn : Below W.heap.size W W1) (hb : base ≤ W.heap.size) : Grew base q W W' v v1 :=
  ⟨(hn.mono hb).trans h.below, fun g hlt hne hno => (h.rest g (Nat.lt_of_lt_of_le hlt hn.size) hne hno).trans (hn.block g hlt), h.own.imp_right fun ⟨b, e, hb⟩ => ⟨b, e, Nat.le_trans hn.size hb⟩⟩
theorem Grew.none {base q : Nat} {W W' : World} {v : Value} (hn : Below W.heap.size W W') (hb : base ≤ W.heap.size) : Grew base q W W' v v :=
  ⟨hn.mono hb, fun g hlt _ _ => hn.block g hlt, .inl rfl⟩
set_option maxHeartbeats 4000000 in
theorem of1_any (base q : Nat) (a b : ByteArray) (v : Value) (l : List S62) (W : World) (h : OutC base W q v l) (hl : l.length < 3518437208883) :
    Calls Try.prog 84 #[.agg #[.string a, .string b], .pointer (some ⟨q, 0, none⟩)] W fun e w' => e = .returned (.tuple #[]) ∧ ∃ v1, OutC base w' q v1 (l ++ [⟨a, ⟨#[]⟩, true⟩]) ∧ Grew base q W w' v v1 := by
  have hbW : base ≤ W.heap.size := by have := blk_lt h.hq; have := h.ge; omega
  have hn : Below W.heap.size W (W.alloc (.cells #[.string a, .string b] 86)) := (Below.refl _ _).alloc (Nat.le_refl _) _
  have HO := Lib.hid (h.under hn)
  obtain ⟨c0, f0⟩ := (h.under hn).cell
  have HN := Lib.hid hn
  obtain ⟨A, c, rfl⟩ := Kd.R_slice h.hR
  clear h hn
  go_enter Try.func84, Try.ntmps84
  go_wp2_with ((with_reducible refine gate_builtin (b := .append) (xs := #[.tmp 3, .tmp 7]) rfl ?_); at_builtin; refine And.right (a := True) ?_)
  refine ⟨trivial, ?_⟩
  refine Kd.R_append k62 (w0 := (W.alloc (.cells #[.string a, .string b] 86))) base rfl (.tmp 3) (.tmp 7) 40 62 (.agg #[(.string ⟨#[]⟩), (.string ⟨#[]⟩), (.bool false)]) 40 rfl Try.underlying40 info62 rfl (by decide) (by omega) (.slice A l.length c) l (⟨a, ⟨#[]⟩, true⟩ : S62) [.string a, .string ⟨#[]⟩, .bool true] (fun _ => True) (fun _ => False) rfl (by first | (go_simp; done) | (go_simp; rfl)) (k62_mkM _ _ _ (⟨a, ⟨#[]⟩, true⟩ : S62)) (fun _ hk => hk.elim) (fun _ _ => trivial) HO.out.hR (Below.refl _ _) (by have := HN.out.size; omega) (by omega) ?_
  intro v1 w1 ho hb hg hat
  have hput := HO.out.put ho hb hg hat
  have hq1 := blk_grown HO.out.hq hg (Kd.R_ne HO.out.hR HO.out.hq (by decide))
  obtain ⟨A1, c1, rfl⟩ := Kd.R_slice ho
  have x1 : w1.cell? ⟨q, 0, none⟩ = some (.slice A l.length c) := (cell_of_row _ _ _ _ _ _ hq1).trans rfl
  have y1 : w1.frozen? ⟨q, 0, none⟩ = false := frozen_of_row _ _ _ _ _ hq1
  rw [show ∀ p : S62, (l ++ [p]).length = l.length + 1 from fun p => by simp] at hput
  have HP := Lib.hid hput
  clear ho hb hg hat hput hq1
  go_wp2
  go_end0
  exact ⟨rfl, _, HP.out.1, HP.out.2.since HN.out hbW⟩
set_option maxHeartbeats 4000000 in
theorem of2_any (base q : Nat) (a b : ByteArray) (v : Value) (l : List S62) (W : World) (h : OutC base W q v l) (hl : l.length < 3518437208883) :
    Calls Try.prog 85 #[.agg #[.string a, .string b], .pointer (some ⟨q, 0, none⟩)] W fun e w' => e = .returned (.tuple #[]) ∧ ∃ v1, OutC base w' q v1 (l ++ [⟨a, b, false⟩]) ∧ Grew base q W w' v v1 := by
  have hbW : base ≤ W.heap.size := by have := blk_lt h.hq; have := h.ge; omega
  have hn : Below W.heap.size W (W.alloc (.cells #[.string a, .string b] 86)) := (Below.refl _ _).alloc (Nat.le_refl _) _
  have HO := Lib.hid (h.under hn)
  obtain ⟨c0, f0⟩ := (h.under hn).cell
  have HN := Lib.hid hn
  obtain ⟨A, c, rfl⟩ := Kd.R_slice h.hR
  clear h hn
  go_enter Try.func85, Try.ntmps85
  go_wp2_with ((with_reducible refine gate_builtin (b := .append) (xs := #[.tmp 3, .tmp 9]) rfl ?_); at_builtin; refine And.right (a := True) ?_)
  refine ⟨trivial, ?_⟩
  refine Kd.R_append k62 (w0 := (W.alloc (.cells #[.string a, .string b] 86))) base rfl (.tmp 3) (.tmp 9) 40 62 (.agg #[(.string ⟨#[]⟩), (.string ⟨#[]⟩), (.bool false)]) 40 rfl Try.underlying40 info62 rfl (by decide) (by omega) (.slice A l.length c) l (⟨a, b, false⟩ : S62) [.string a, .string b, .bool false] (fun _ => True) (fun _ => False) rfl (by first | (go_simp; done) | (go_simp; rfl)) (k62_mkM _ _ _ (⟨a, b, false⟩ : S62)) (fun _ hk => hk.elim) (fun _ _ => trivial) HO.out.hR (Below.refl _ _) (by have := HN.out.size; omega) (by omega) ?_
  intro v1 w1 ho hb hg hat
  have hput := HO.out.put ho hb hg hat
  have hq1 := blk_grown HO.out.hq hg (Kd.R_ne HO.out.hR HO.out.hq (by decide))
  obtain ⟨A1, c1, rfl⟩ := Kd.R_slice ho
  have x1 : w1.cell? ⟨q, 0, none⟩ = some (.slice A l.length c) := (cell_of_row _ _ _ _ _ _ hq1).trans rfl
  have y1 : w1.frozen? ⟨q, 0, none⟩ = false := frozen_of_row _ _ _ _ _ hq1
  rw [show ∀ p : S62, (l ++ [p]).length = l.length + 1 from fun p => by simp] at hput
  have HP := Lib.hid hput
  clear ho hb hg hat hput hq1
  go_wp2
  go_end0
  exact ⟨rfl, _, HP.out.1, HP.out.2.since HN.out hbW⟩
set_option maxHeartbeats 4000000 in
theorem of3_any (base q : Nat) (a b a2 b2 : ByteArray) (v : Value) (l : List S62) (W : World) (h : OutC base W q v l) (hl : l.length < 3518437208883) :
    Calls Try.prog 86 #[.agg #[.string a, .string b], .agg #[.string a2, .string b2], .pointer (some ⟨q, 0, none⟩)] W fun e w' => e = .returned (.tuple #[]) ∧ ∃ v1, OutC base w' q v1 (l ++ (if b.toList = b2.toList then [] else [⟨a2, b2, false⟩])) ∧ Grew base q W w' v v1 := by
  have hbW : base ≤ W.heap.size := by have := blk_lt h.hq; have := h.ge; omega
  have hn : Below W.heap.size W ((W.alloc (.cells #[.string a, .string b] 86)).alloc (.cells #[.string a2, .string b2] 86)) := ((Below.refl _ _).alloc (Nat.le_refl _) _).alloc (by simp) _
  have HO := Lib.hid (h.under hn)
  obtain ⟨c0, f0⟩ := (h.under hn).cell
  have HN := Lib.hid hn
  obtain ⟨A, c, rfl⟩ := Kd.R_slice h.hR
  clear h hn
  by_cases heq : b.toList = b2.toList
  · have hsame : (if b.toList = b2.toList then ([] : List S62) else [⟨a2, b2, false⟩]) = [] := if_pos heq
    have HE := Lib.hid hsame
    clear hsame
    have heb : (b.toList == b2.toList) = true := beq_iff_eq.mpr heq
    go_enter Try.func86, Try.ntmps86
    go_wp2
    go_end0
    exact ⟨rfl, _, by first | exact HO.out | (rw [HE.out, List.append_nil]; exact HO.out), Grew.none HN.out hbW⟩
  · have hsame0 : (if b.toList = b2.toList then ([] : List S62) else [⟨a2, b2, false⟩]) = [⟨a2, b2, false⟩] := if_neg heq
    obtain ⟨T, hT⟩ : ∃ T : List S62, T = (if b.toList = b2.toList then ([] : List S62) else [⟨a2, b2, false⟩]) := ⟨_, rfl⟩
    rw [← hT] at hsame0 ⊢
    clear hT
    have HS := Lib.hid hsame0
    clear hsame0
    have heb : (b.toList == b2.toList) = false := beq_eq_false_iff_ne.mpr heq
    go_enter Try.func86, Try.ntmps86
    go_wp2_with ((with_reducible refine gate_builtin (b := .append) (xs := #[.tmp 10, .tmp 16]) rfl ?_); at_builtin; refine And.right (a := True) ?_)
    refine ⟨trivial, ?_⟩
    refine Kd.R_append k62 (w0 := ((W.alloc (.cells #[.string a, .string b] 86)).alloc (.cells #[.string a2, .string b2] 86))) base rfl (.tmp 10) (.tmp 16) 40 62 (.agg #[(.string ⟨#[]⟩), (.string ⟨#[]⟩), (.bool false)]) 40 rfl Try.underlying40 info62 rfl (by decide) (by omega) (.slice A l.length c) l (⟨a2, b2, false⟩ : S62) [.string a2, .string b2, .bool false] (fun _ => True) (fun _ => False) rfl (by first | (go_simp; done) | (go_simp; rfl)) (k62_mkM _ _ _ (⟨a2, b2, false⟩ : S62)) (fun _ hk => hk.elim) (fun _ _ => trivial) HO.out.hR (Below.refl _ _) (by have := HN.out.size; omega) (by omega) ?_
    intro v1 w1 ho hb hg hat
    have hput := HO.out.put ho hb hg hat
    have hq1 := blk_grown HO.out.hq hg (Kd.R_ne HO.out.hR HO.out.hq (by decide))
    obtain ⟨A1, c1, rfl⟩ := Kd.R_slice ho
    have x1 : w1.cell? ⟨q, 0, none⟩ = some (.slice A l.length c) := (cell_of_row _ _ _ _ _ _ hq1).trans rfl
    have y1 : w1.frozen? ⟨q, 0, none⟩ = false := frozen_of_row _ _ _ _ _ hq1
    rw [show ∀ p : S62, (l ++ [p]).length = l.length + 1 from fun p => by simp] at hput
    have HP := Lib.hid hput
    clear ho hb hg hat hput hq1
    go_wp2
    go_end0
    exact ⟨rfl, _, by rw [HS.out]; exact HP.out.1, HP.out.2.since HN.out hbW⟩
end Go.Proofs.Ytipgldfbjlhpoab.P
