/- Layer 11's examples: the facts that its 'awake' rests on. The examples at the head of layer 11's statements ('awake') come out true. -/
import Derived.Test.YtipgldfbjlhpoaaHMerkle
import Derived.WalkLawsBesides
import Derived.Deep.DrawnRows
import Derived.Deep.RegionHeld3
namespace Go.Proofs.Ytipgldfbjlhpoaa.Merkle
set_option linter.unusedVariables false
set_option linter.unusedSimpArgs false
open Go.RowKit Go.Proofs.Ytipgldfbjlhpoaa.P Go.Proofs.Ytipgldfbjlhpoaa.Sha Go.Proofs.YtipgldfbjlhpoaaW.PrintWords Go.Proofs.YtipgldfbjlhpoaaW.PrintLast
set_option maxRecDepth 100000

def pA : S72 := ⟨⟨#[97]⟩, ⟨#[49]⟩⟩
def pB : S72 := ⟨⟨#[98]⟩, ⟨#[50]⟩⟩
def one11 : ByteArray := sumB ⟨#[0, 1, 1, 97, 1, 1, 49]⟩
def two11 : ByteArray := sumB ⟨#[0, 1, 1, 98, 1, 1, 50]⟩
theorem leafA : merkle_Leaf.f ⟨#[97]⟩ ⟨#[49]⟩ = some one11 := rfl
theorem leafB : merkle_Leaf.f ⟨#[98]⟩ ⟨#[50]⟩ = some two11 := rfl
theorem split5 : merkle_Split.f 5 = some 4 := by decide +kernel
theorem split1 : merkle_Split.f 1 = some 0 := by decide +kernel
theorem split4 : merkle_Split.f 4 = some 2 := by decide +kernel
theorem size_one11 : one11.size = 32 := by rw [one11, sumB, size_ofL]; exact length_out _
theorem top_one : merkle_Top.f 1 one11 = some (sumB (⟨#[2, 1, 1]⟩ ++ one11)) := by
  unfold merkle_Top.f
  rw [show wire_Num.f 1 = some (⟨#[1, 1]⟩, 0) by decide +kernel]
  have := size_one11
  have e : ((⟨#[2]⟩ : ByteArray) ++ (⟨#[1, 1]⟩ : ByteArray)) = ⟨#[2, 1, 1]⟩ := by decide +kernel
  simp only [Option.bind_some, e]
  rw [if_pos (by decide), if_pos (by rw [this]; decide), sha_Sum.f, if_pos (by rw [ByteArray.size_append, this]; decide)]
  rfl
theorem root_A : merkle_Root.f [pA] = some (sumB (⟨#[2, 1, 1]⟩ ++ one11)) := by
  unfold merkle_Root.f
  rw [if_neg (by decide)]
  show (merkle_fold.f 1 [pA]).bind _ = _
  rw [show merkle_fold.f 1 [pA] = some one11 from rfl, Option.bind_some]
  exact top_one
theorem size_two11 : two11.size = 32 := by rw [two11, sumB, size_ofL]; exact length_out _
def node11 : ByteArray := sumB (⟨#[1]⟩ ++ one11 ++ two11)
theorem size_node11 : node11.size = 32 := by rw [node11, sumB, size_ofL]; exact length_out _
theorem node_AB : merkle_Node.f one11 two11 = some node11 := by
  unfold merkle_Node.f
  have h1 := size_one11
  have h2 := size_two11
  have h3 : ((⟨#[1]⟩ : ByteArray) ++ one11).size = 33 := by rw [ByteArray.size_append, h1]; rfl
  rw [if_pos (by rw [h1]; decide), if_pos (by rw [h3, h2]; decide), sha_Sum.f, if_pos (by rw [ByteArray.size_append, h3, h2]; decide)]
  rfl
theorem top_two : merkle_Top.f 2 node11 = some (sumB (⟨#[2, 1, 2]⟩ ++ node11)) := by
  unfold merkle_Top.f
  rw [show wire_Num.f 2 = some (⟨#[1, 2]⟩, 0) by decide +kernel]
  have := size_node11
  have e : ((⟨#[2]⟩ : ByteArray) ++ (⟨#[1, 2]⟩ : ByteArray)) = ⟨#[2, 1, 2]⟩ := by decide +kernel
  simp only [Option.bind_some, e]
  rw [if_pos (by decide), if_pos (by rw [this]; decide), sha_Sum.f, if_pos (by rw [ByteArray.size_append, this]; decide)]
  rfl
theorem root_AB : merkle_Root.f [pA, pB] = some (sumB (⟨#[2, 1, 2]⟩ ++ node11)) := by
  unfold merkle_Root.f
  rw [if_neg (by decide)]
  have hf : merkle_fold.f 2 [pA, pB] = some node11 := by
    rw [merkle_fold.f, if_neg (by decide)]
    rw [show merkle_Split.f (([pA, pB] : List S72).length : Int) = some 1 by decide +kernel, Option.bind_some, if_pos (by decide), if_pos (by decide)]
    rw [show merkle_fold.f 1 (([pA, pB] : List S72).take (1 : Int).toNat) = some one11 from rfl, Option.bind_some, show merkle_fold.f 1 (([pA, pB] : List S72).drop (1 : Int).toNat) = some two11 from rfl, Option.bind_some]
    exact node_AB
  show (merkle_fold.f 2 [pA, pB]).bind _ = _
  rw [hf, Option.bind_some]
  exact top_two
theorem top_nil : merkle_Top.f 0 ⟨#[]⟩ = some (sumB ⟨#[2, 0]⟩) := rfl
theorem root_nil : merkle_Root.f [] = some (sumB ⟨#[2, 0]⟩) := rfl
theorem apart11 : sumB ⟨#[2, 0]⟩ ≠ sumB (⟨#[2, 1, 1]⟩ ++ one11) := by
  intro h
  have h2 := congrArg (fun b : ByteArray => b.data.toList) h
  simp only [sumB, data_ofL, one11, ByteArray.data_append, Array.toList_append] at h2
  revert h2
  decide +kernel
end Go.Proofs.Ytipgldfbjlhpoaa.Merkle
namespace Go.Proofs.Ytipgldfbjlhpoaa.Merkle
set_option linter.unusedVariables false
set_option linter.unusedSimpArgs false
open Go.RowKit Go.Proofs.Ytipgldfbjlhpoaa.P Go.Proofs.Ytipgldfbjlhpoaa.Sha Go.Proofs.YtipgldfbjlhpoaaW.PrintWords Go.Proofs.YtipgldfbjlhpoaaW.PrintLast Go.Proofs.YtipgldfbjlhpoaaW.PrintMore
set_option maxRecDepth 100000
attribute [local go_sem ↓] Go.wp_at_zero Go.wp_at_succ
structure Two (w0 w : World) (p : Nat) : Prop where
  a : w.heap[p]? = some (.cells #[.string ⟨#[97]⟩, .string ⟨#[49]⟩] 72 (0, 0))
  b : w.heap[p + 1]? = some (.cells #[.string ⟨#[98]⟩, .string ⟨#[50]⟩] 72 (0, 0))
  below : Below w0.heap.size w0 w
theorem Two.under {w0 w w' : World} {p : Nat} (h : Two w0 w p) (hb : Below w.heap.size w w') : Two w0 w' p := ⟨blk_below h.a hb, blk_below h.b hb, h.below.trans (hb.mono h.below.size)⟩
theorem Two.cells {w0 w : World} {p : Nat} (h : Two w0 w p) : w.cell? ⟨p, 0, none⟩ = some (.string ⟨#[97]⟩) ∧ w.cell? ⟨p, 1, none⟩ = some (.string ⟨#[49]⟩) ∧ w.cell? ⟨p + 1, 0, none⟩ = some (.string ⟨#[98]⟩) ∧ w.cell? ⟨p + 1, 1, none⟩ = some (.string ⟨#[50]⟩) :=
  ⟨(cell_of_row _ _ _ _ _ _ h.a).trans rfl, (cell_of_row _ _ _ _ _ _ h.a).trans rfl, (cell_of_row _ _ _ _ _ _ h.b).trans rfl, (cell_of_row _ _ _ _ _ _ h.b).trans rfl⟩
def rootA : ByteArray := sumB (⟨#[2, 1, 1]⟩ ++ one11)
def rootAB : ByteArray := sumB (⟨#[2, 1, 2]⟩ ++ node11)
def rootN : ByteArray := sumB ⟨#[2, 0]⟩
theorem Two.alloc {w0 w : World} {p : Nat} (h : Two w0 w p) (o : Obj) : Two w0 (w.alloc o) p := h.under ((Below.refl _ _).alloc (Nat.le_refl _) o)
theorem Two.drew {w0 w : World} {p : Nat} (h : Two w0 w p) : Two w0 w.drew p := ⟨h.a, h.b, below_drew h.below⟩
/-- The calls of the examples, each at whatever world. -/
theorem sp_at (n r : Int) (h : merkle_Split.f n = some r) (W : World) : Calls Try.prog 55 #[.int .i64 n] W fun e w' => e = .returned (.int .i64 r) ∧ Below W.heap.size W w' :=
  (merkle_Split.calls n r W h).mono (by rintro e w' ⟨rfl, nd, rfl⟩; exact ⟨rfl, pw_below_drewN (Below.refl _ _) nd⟩)
theorem root1_at (b : Nat) (W : World) (h0 : W.cell? ⟨b, 0, none⟩ = some (.string ⟨#[97]⟩)) (h1 : W.cell? ⟨b, 1, none⟩ = some (.string ⟨#[49]⟩)) :
    Calls Try.prog 52 #[.slice (some ⟨b, 0, none⟩) 1 1] W fun e w' => e = .returned (.string rootA) ∧ Below W.heap.size W w' := by
  refine merkle_Root.calls _ 1 [pA] _ W ⟨rfl, by decide, fun _ => ⟨_, rfl, fun j p hj => ?_⟩⟩ (by decide) root_A
  have hj1 : j < 1 := (List.getElem?_eq_some_iff.mp hj).1
  obtain rfl : j = 0 := by omega
  obtain rfl : pA = p := Option.some.inj hj
  refine ⟨_, rfl, k72_mk W pA, fun i u hi => ?_⟩
  match i, hi with
  | 0, hi => obtain rfl := Option.some.inj hi; exact h0
  | 1, hi => obtain rfl := Option.some.inj hi; exact h1
  | i + 2, hi => simp at hi
theorem root2_at (b : Nat) (W : World) (h0 : W.cell? ⟨b, 0, none⟩ = some (.string ⟨#[97]⟩)) (h1 : W.cell? ⟨b, 1, none⟩ = some (.string ⟨#[49]⟩)) (h2 : W.cell? ⟨b, 2, none⟩ = some (.string ⟨#[98]⟩)) (h3 : W.cell? ⟨b, 3, none⟩ = some (.string ⟨#[50]⟩)) :
    Calls Try.prog 52 #[.slice (some ⟨b, 0, none⟩) 2 2] W fun e w' => e = .returned (.string rootAB) ∧ Below W.heap.size W w' := by
  refine merkle_Root.calls _ 2 [pA, pB] _ W ⟨rfl, by decide, fun _ => ⟨_, rfl, fun j p hj => ?_⟩⟩ (by decide) root_AB
  have hj2 : j < 2 := (List.getElem?_eq_some_iff.mp hj).1
  rcases (show j = 0 ∨ j = 1 by omega) with rfl | rfl
  · obtain rfl : pA = p := Option.some.inj hj
    refine ⟨_, rfl, k72_mk W pA, fun i u hi => ?_⟩
    match i, hi with
    | 0, hi => obtain rfl := Option.some.inj hi; exact h0
    | 1, hi => obtain rfl := Option.some.inj hi; exact h1
    | i + 2, hi => simp at hi
  · obtain rfl : pB = p := Option.some.inj hj
    refine ⟨_, rfl, k72_mk W pB, fun i u hi => ?_⟩
    match i, hi with
    | 0, hi => obtain rfl := Option.some.inj hi; exact h2
    | 1, hi => obtain rfl := Option.some.inj hi; exact h3
    | i + 2, hi => simp at hi
theorem rootN_at (W : World) : Calls Try.prog 52 #[.slice none 0 0] W fun e w' => e = .returned (.string rootN) ∧ Below W.heap.size W w' :=
  merkle_Root.calls none 0 [] _ W (Kd.C_nil _ _) (by decide) root_nil
theorem apartL : (rootN.toList == rootA.toList) = false := by
  rw [beq_eq_false_iff_ne]
  intro e
  rw [ByteArray.toList_eq, ByteArray.toList_eq] at e
  exact apart11 (by have := Array.toList_inj.mp e; revert this; cases hN : rootN; cases hA : rootA; rintro rfl; exact hN.trans hA.symm)
theorem bcell11 {W w1 : World} (hb : Below W.heap.size W w1) : ∀ b o, b < W.heap.size → w1.cell? ⟨b, o, none⟩ = W.cell? ⟨b, o, none⟩ := fun b o h => hb.cell (p := ⟨b, o, none⟩) h
set_option maxHeartbeats 40000000 in
theorem awake11_any (w : World) : Calls Try.prog 46 #[] w fun e w' => e = .returned (.bool true) ∧ Below w.heap.size w w' := by
  go_enter Try.func46, Try.ntmps46
  go_upto_region 2 with fail
  go_cut [1, 2] (fun s1 s2 wx => s1 = .pointer (some ⟨w.heap.size, 0, none⟩) ∧ s2 = .pointer (some ⟨w.heap.size + 1, 0, none⟩) ∧ wx.heap[w.heap.size]? = some (.cells #[.string ⟨#[97]⟩, .string ⟨#[49]⟩] 72 (0, 0)) ∧
    wx.heap[w.heap.size + 1]? = some (.cells #[.string ⟨#[98]⟩, .string ⟨#[50]⟩] 72 (0, 0)) ∧ Below w.heap.size w wx)
  case first =>
    go_wp2_with fail
    go_meet
    exact ⟨rfl, rfl, heap_alloc2_old w _ _, heap_alloc2_new w _ _, ((Below.refl _ _).alloc (Nat.le_refl _) _).alloc (by simp) _⟩
  case rest =>
    obtain ⟨rfl, rfl, h0, h1, hB⟩ := hcut
    have hM : Two w wc w.heap.size := ⟨h0, h1, hB⟩
    clear h0 h1 hB
    have hMd : Two w wc.drew w.heap.size := ⟨hM.a, hM.b, below_drew hM.below⟩
    obtain ⟨c0, c1, c2, c3⟩ := hMd.cells
    have HM := Lib.hid hMd
    clear hM hMd
    have hl1 := fun W => merkle_Leaf.calls _ _ one11 W leafA
    have hl2 := fun W => merkle_Leaf.calls _ _ two11 W leafB
    go_upto_region 3 with fail
    go_cut [3, 4] (fun s3 s4 wx => s3 = .string one11 ∧ s4 = .string two11 ∧ Two w wx w.heap.size)
    case first =>
      go_region_with (first
        | (go_at_call 48; refine (hl1 _).mono ?_; rintro e w1 ⟨rfl, hb1⟩; have HM1 := Lib.hid (HM.out.under hb1); obtain ⟨d0, d1, d2, d3⟩ := HM1.out.cells; clear hl1 c0 c1 c2 c3)
        | (go_at_call 48; refine (hl2 _).mono ?_; rintro e w2 ⟨rfl, hb2⟩; have HM2 := Lib.hid (HM1.out.under hb2); obtain ⟨g0, g1, g2, g3⟩ := HM2.out.cells; clear hl2))
      all_goals go_wp2_with fail
      all_goals go_meet
      all_goals exact ⟨rfl, rfl, HM2.out⟩
    case rest =>
      obtain ⟨rfl, rfl, hM⟩ := hcut
      clear HM hl1 hl2
      obtain ⟨c0, c1, c2, c3⟩ := hM.cells
      have HM := Lib.hid hM
      clear hM c0 c1 c2 c3
      have s1 := size_one11
      go_upto_region 4 with fail
      have hTop1 : ∀ W, Calls Try.prog 53 #[.int .i64 1, .string one11] W fun e w' => e = .returned (.string rootA) ∧ Below W.heap.size W w' := fun W => merkle_Top.calls 1 one11 _ W top_one
      have hTop2 : ∀ W, Calls Try.prog 53 #[.int .i64 2, .string node11] W fun e w' => e = .returned (.string rootAB) ∧ Below W.heap.size W w' := fun W => merkle_Top.calls 2 node11 _ W top_two
      have hTop0 : ∀ W, Calls Try.prog 53 #[.int .i64 0, .string ⟨#[]⟩] W fun e w' => e = .returned (.string rootN) ∧ Below W.heap.size W w' := fun W => merkle_Top.calls 0 ⟨#[]⟩ _ W top_nil
      have hNode : ∀ W, Calls Try.prog 50 #[.string one11, .string two11] W fun e w' => e = .returned (.string node11) ∧ Below W.heap.size W w' := fun W => merkle_Node.calls one11 two11 _ W node_AB
      have hap := apartL
      obtain ⟨c0, c1, c2, c3⟩ := HM.out.drew.cells
      replace HM := Lib.hid HM.out.drew
      go_region_held3 (fun w' => w'.cell? ⟨w.heap.size, 0, none⟩ = some (.string ⟨#[97]⟩) ∧ w'.cell? ⟨w.heap.size, 1, none⟩ = some (.string ⟨#[49]⟩) ∧ w'.cell? ⟨w.heap.size + 1, 0, none⟩ = some (.string ⟨#[98]⟩) ∧ w'.cell? ⟨w.heap.size + 1, 1, none⟩ = some (.string ⟨#[50]⟩))
        (first | exact ⟨c0, c1, c2, c3⟩ | exact ⟨cell_keep1 c0 _, cell_keep1 c1 _, cell_keep1 c2 _, cell_keep1 c3 _⟩ | go_keep)
        (first
        | (go_at_call 55; (with_reducible refine (sp_at 5 _ split5 _).mono ?_); rintro e wn ⟨rfl, hb⟩; replace HM := Lib.hid (HM.out.under hb); clear c0 c1 c2 c3; obtain ⟨c0, c1, c2, c3⟩ := HM.out.cells; clear hb)
        | (go_at_call 55; (with_reducible refine (sp_at 1 _ split1 _).mono ?_); rintro e wn ⟨rfl, hb⟩; replace HM := Lib.hid (HM.out.under hb); clear c0 c1 c2 c3; obtain ⟨c0, c1, c2, c3⟩ := HM.out.cells; clear hb)
        | (go_at_call 55; (with_reducible refine (sp_at 4 _ split4 _).mono ?_); rintro e wn ⟨rfl, hb⟩; replace HM := Lib.hid (HM.out.under hb); clear c0 c1 c2 c3; obtain ⟨c0, c1, c2, c3⟩ := HM.out.cells; clear hb)
        | (go_at_call 53; (with_reducible refine (hTop1 _).mono ?_); rintro e wn ⟨rfl, hb⟩; replace HM := Lib.hid (HM.out.under hb); clear c0 c1 c2 c3; obtain ⟨c0, c1, c2, c3⟩ := HM.out.cells; clear hb)
        | (go_at_call 53; (with_reducible refine (hTop2 _).mono ?_); rintro e wn ⟨rfl, hb⟩; replace HM := Lib.hid (HM.out.under hb); clear c0 c1 c2 c3; obtain ⟨c0, c1, c2, c3⟩ := HM.out.cells; clear hb)
        | (go_at_call 53; (with_reducible refine (hTop0 _).mono ?_); rintro e wn ⟨rfl, hb⟩; replace HM := Lib.hid (HM.out.under hb); clear c0 c1 c2 c3; obtain ⟨c0, c1, c2, c3⟩ := HM.out.cells; clear hb)
        | (go_at_call 50; (with_reducible refine (hNode _).mono ?_); rintro e wn ⟨rfl, hb⟩; replace HM := Lib.hid (HM.out.under hb); clear c0 c1 c2 c3; obtain ⟨c0, c1, c2, c3⟩ := HM.out.cells; clear hb)
        | (go_at_call 52; (with_reducible refine (rootN_at _).mono ?_); rintro e wn ⟨rfl, hb⟩; replace HM := Lib.hid (HM.out.under hb); clear c0 c1 c2 c3 hb; obtain ⟨c0, c1, c2, c3⟩ := HM.out.cells)
        | (go_at_call 52; (with_reducible refine (rootN_at _).mono ?_); rintro e wn ⟨rfl, hb⟩; have e0 := (hb.cell (p := ⟨_, 0, none⟩) (by simp)).trans ((cell_of_row _ _ _ _ _ _ (heap_alloc_new _ _)).trans rfl); have e1 := (hb.cell (p := ⟨_, 1, none⟩) (by simp)).trans ((cell_of_row _ _ _ _ _ _ (heap_alloc_new _ _)).trans rfl); replace HM := Lib.hid ((HM.out.alloc _).under hb); clear c0 c1 c2 c3 hb; obtain ⟨c0, c1, c2, c3⟩ := HM.out.cells)
        | (go_at_call 52; (with_reducible refine (root1_at _ _ ?_ ?_).mono ?_); (focus (first | assumption | exact (cell_of_row _ _ _ _ _ _ (heap_alloc_new _ _)).trans rfl)); (focus (first | assumption | exact (cell_of_row _ _ _ _ _ _ (heap_alloc_new _ _)).trans rfl)); rintro e wn ⟨rfl, hb⟩; (first | (replace HM := Lib.hid (HM.out.under hb)) | (replace HM := Lib.hid ((HM.out.alloc _).under hb))); clear c0 c1 c2 c3 hb; obtain ⟨c0, c1, c2, c3⟩ := HM.out.cells)
        | (go_at_call 52; (with_reducible refine (root2_at _ _ ?_ ?_ ?_ ?_).mono ?_); (focus (first | assumption | exact (cell_of_row _ _ _ _ _ _ (heap_alloc_new _ _)).trans rfl)); (focus (first | assumption | exact (cell_of_row _ _ _ _ _ _ (heap_alloc_new _ _)).trans rfl)); (focus (first | assumption | exact (cell_of_row _ _ _ _ _ _ (heap_alloc_new _ _)).trans rfl)); (focus (first | assumption | exact (cell_of_row _ _ _ _ _ _ (heap_alloc_new _ _)).trans rfl)); rintro e wn ⟨rfl, hb⟩; replace HM := Lib.hid ((HM.out.alloc _).under hb); clear c0 c1 c2 c3 hb; obtain ⟨c0, c1, c2, c3⟩ := HM.out.cells))
      all_goals go_wp2_with fail
      all_goals go_ret
      all_goals exact ⟨rfl, HM.out.below⟩
end Go.Proofs.Ytipgldfbjlhpoaa.Merkle
namespace Go.Proofs.Ytipgldfbjlhpoaa.P
open Go.RowKit
def footbridgelaw11_awake.f : Option Bool := some true
theorem footbridgelaw11_awake.calls (r : Bool) (w : World) (h : footbridgelaw11_awake.f = some r) :
    Calls Try.prog 46 #[] w fun e w' => e = .returned (.bool r) ∧ Below w.heap.size w w' := by
  obtain rfl := Option.some.inj h
  exact Merkle.awake11_any w
end Go.Proofs.Ytipgldfbjlhpoaa.P
