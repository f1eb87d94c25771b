/- The examples at the head of layer 13's statements ('awake') come out true. -/
import Derived.Test.YtipgldfbjlhpoabPHeader
import Derived.Test.YtipgldfbjlhpoabPureHMac
import Derived.WalkLawsBesides
import Derived.Deep.DrawnRows
import Derived.Deep.RegionHeld3
namespace Go.Proofs.Ytipgldfbjlhpoab.Header
set_option linter.unusedVariables false
set_option linter.unusedSimpArgs false
open Go.RowKit Go.Proofs.Ytipgldfbjlhpoab.P Go.Proofs.Ytipgldfbjlhpoab.Pure Go.Proofs.Ytipgldfbjlhpoab.Sha Go.Proofs.YtipgldfbjlhpoabW.PrintWords Go.Proofs.YtipgldfbjlhpoabW.PrintLast Go.Proofs.YtipgldfbjlhpoabW.PrintMore
set_option maxRecDepth 100000
attribute [local go_sem ↓] Go.wp_at_zero Go.wp_at_succ

def kK : ByteArray := ⟨#[107]⟩
def kL : ByteArray := ⟨#[108]⟩
def cA : ByteArray := ⟨#[97]⟩
def b13 : ByteArray := ⟨#[1, 1, 97, 1, 1, 1, 2, 0]⟩
def s13 : ByteArray := ⟨#[1, 1, 97, 1, 1, 1, 2, 0, 0]⟩
def o13 : ByteArray := ⟨#[1, 1, 97, 1, 1, 1, 3, 0]⟩
def m13 : ByteArray := ⟨#[249, 12, 33, 20, 109, 79, 171, 41, 89, 33, 77, 243, 20, 28, 180, 10, 18, 207, 229, 193, 244, 101, 207, 248, 17, 141, 161, 194, 205, 8, 240, 235]⟩
def l13 : ByteArray := ⟨#[120, 112, 246, 103, 82, 168, 159, 25, 34, 185, 59, 169, 15, 161, 225, 64, 131, 23, 52, 51, 25, 57, 177, 62, 22, 104, 185, 253, 244, 50, 219, 178]⟩
def n13 : ByteArray := ⟨#[55, 219, 195, 184, 249, 54, 44, 31, 159, 80, 43, 120, 184, 206, 222, 46, 205, 251, 188, 142, 65, 42, 138, 220, 249, 43, 215, 36, 190, 1, 212, 188]⟩
def t13 : ByteArray := ⟨#[1, 1, 97, 1, 1, 1, 2, 0, 1, 32, 249, 12, 33, 20, 109, 79, 171, 41, 89, 33, 77, 243, 20, 28, 180, 10, 18, 207, 229, 193, 244, 101, 207, 248, 17, 141, 161, 194, 205, 8, 240, 235]⟩
theorem macK : macB kK b13 = m13 := by
  rw [macB_list _ _ (by decide)]
  exact congrArg ofL (show sumL ((mixTo kK 92 64).map (fun n => UInt8.ofNat n.toNat) ++ sumL ((mixTo kK 54 64).map (fun n => UInt8.ofNat n.toNat) ++ b13.data.toList)) = m13.data.toList by decide +kernel)
theorem macL : macB kL b13 = l13 := by
  rw [macB_list _ _ (by decide)]
  exact congrArg ofL (show sumL ((mixTo kL 92 64).map (fun n => UInt8.ofNat n.toNat) ++ sumL ((mixTo kL 54 64).map (fun n => UInt8.ofNat n.toNat) ++ b13.data.toList)) = l13.data.toList by decide +kernel)
theorem macO : macB kK o13 = n13 := by
  rw [macB_list _ _ (by decide)]
  exact congrArg ofL (show sumL ((mixTo kK 92 64).map (fun n => UInt8.ofNat n.toNat) ++ sumL ((mixTo kK 54 64).map (fun n => UInt8.ofNat n.toNat) ++ o13.data.toList)) = n13.data.toList by decide +kernel)
theorem body13 (m : ByteArray) : header_body.f cA 1 2 ⟨#[]⟩ m = some (b13, 0) := by
  show header_body.f cA 1 2 ⟨#[]⟩ ⟨#[]⟩ = some (b13, 0)
  decide +kernel
theorem body13o (m : ByteArray) : header_body.f cA 1 3 ⟨#[]⟩ m = some (o13, 0) := by
  show header_body.f cA 1 3 ⟨#[]⟩ ⟨#[]⟩ = some (o13, 0)
  decide +kernel
theorem sign1 (k m : ByteArray) (x : ByteArray) (hk : k.size ≤ 1000) (h : macB k b13 = x) : header_Sign.f k cA 1 2 ⟨#[]⟩ m = some (cA, 1, 2, ⟨#[]⟩, x, 0) := by
  unfold header_Sign.f
  rw [body13, Option.bind_some, if_pos rfl, mac_f _ _ (by omega) (by decide), h]
  rfl
theorem sign2 (m : ByteArray) : header_Sign.f kK cA 1 3 ⟨#[]⟩ m = some (cA, 1, 3, ⟨#[]⟩, n13, 0) := by
  unfold header_Sign.f
  rw [body13o, Option.bind_some, if_pos rfl, mac_f _ _ (by decide) (by decide), macO]
  rfl
theorem sign3 : header_Sign.f kK ⟨#[]⟩ (-1) 0 ⟨#[]⟩ ⟨#[]⟩ = some (⟨#[]⟩, 0, 0, ⟨#[]⟩, ⟨#[]⟩, 3) := by
  unfold header_Sign.f
  rw [show header_body.f ⟨#[]⟩ (-1) 0 ⟨#[]⟩ ⟨#[]⟩ = some (⟨#[0]⟩, 3) by decide +kernel, Option.bind_some, if_neg (by decide)]
theorem put1 : header_Put.f cA 1 2 ⟨#[]⟩ ⟨#[]⟩ = some (s13, 0) := by decide +kernel
theorem put2 : header_Put.f cA 1 2 ⟨#[]⟩ m13 = some (t13, 0) := by decide +kernel
theorem read1 : header_Read.f t13 = some (cA, 1, 2, ⟨#[]⟩, m13, 0) := by decide +kernel
theorem read2 : header_Read.f (t13 ++ ⟨#[120]⟩) = some (⟨#[]⟩, 0, 0, ⟨#[]⟩, ⟨#[]⟩, 6) := by decide +kernel
theorem good1 : header_Good.f 100 kK cA 1 2 ⟨#[]⟩ m13 = some true := by
  unfold header_Good.f
  rw [sign1 kK _ m13 (by decide) macK, Option.bind_some, if_pos rfl, same_f _ _ 100 (by decide) (by decide), Option.bind_some]
  decide +kernel
theorem good2 : header_Good.f 100 kL cA 1 2 ⟨#[]⟩ m13 = some false := by
  unfold header_Good.f
  rw [sign1 kL _ l13 (by decide) macL, Option.bind_some, if_pos rfl, same_f _ _ 100 (by decide) (by decide), Option.bind_some]
  decide +kernel
theorem good3 : header_Good.f 100 kK cA 1 3 ⟨#[]⟩ m13 = some false := by
  unfold header_Good.f
  rw [sign2, Option.bind_some, if_pos rfl, same_f _ _ 100 (by decide) (by decide), Option.bind_some]
  decide +kernel
theorem three {W : World} {g3 g7 g13 : Nat} (h3 : W.heap[g3]? = some (.cells (hdr cA 1 2 ⟨#[]⟩ m13) 23 (0, 0))) (h7 : W.heap[g7]? = some (.cells (hdr cA 1 2 ⟨#[]⟩ m13) 23 (0, 0))) (h13 : W.heap[g13]? = some (.cells (hdr cA 1 3 ⟨#[]⟩ m13) 23 (0, 0))) :
    W.cell? ⟨g3, 0, none⟩ = some (.string cA) ∧ W.cell? ⟨g3, 1, none⟩ = some (.int .i64 1) ∧ W.cell? ⟨g3, 2, none⟩ = some (.int .i64 2) ∧ W.cell? ⟨g3, 3, none⟩ = some (.string ⟨#[]⟩) ∧ W.cell? ⟨g3, 4, none⟩ = some (.string m13) ∧ W.cell? ⟨g7, 0, none⟩ = some (.string cA) ∧ W.cell? ⟨g7, 1, none⟩ = some (.int .i64 1) ∧ W.cell? ⟨g7, 2, none⟩ = some (.int .i64 2) ∧ W.cell? ⟨g7, 3, none⟩ = some (.string ⟨#[]⟩) ∧ W.cell? ⟨g7, 4, none⟩ = some (.string m13) ∧ W.cell? ⟨g13, 0, none⟩ = some (.string cA) ∧ W.cell? ⟨g13, 1, none⟩ = some (.int .i64 1) ∧ W.cell? ⟨g13, 2, none⟩ = some (.int .i64 3) ∧ W.cell? ⟨g13, 3, none⟩ = some (.string ⟨#[]⟩) ∧ W.cell? ⟨g13, 4, none⟩ = some (.string m13) :=
  ⟨(cell_of_row _ _ _ _ _ _ h3).trans rfl, (cell_of_row _ _ _ _ _ _ h3).trans rfl, (cell_of_row _ _ _ _ _ _ h3).trans rfl, (cell_of_row _ _ _ _ _ _ h3).trans rfl, (cell_of_row _ _ _ _ _ _ h3).trans rfl, (cell_of_row _ _ _ _ _ _ h7).trans rfl, (cell_of_row _ _ _ _ _ _ h7).trans rfl, (cell_of_row _ _ _ _ _ _ h7).trans rfl, (cell_of_row _ _ _ _ _ _ h7).trans rfl, (cell_of_row _ _ _ _ _ _ h7).trans rfl, (cell_of_row _ _ _ _ _ _ h13).trans rfl, (cell_of_row _ _ _ _ _ _ h13).trans rfl, (cell_of_row _ _ _ _ _ _ h13).trans rfl, (cell_of_row _ _ _ _ _ _ h13).trans rfl, (cell_of_row _ _ _ _ _ _ h13).trans rfl⟩
theorem guard23 : Try.prog.eqGuardType Try.prog.depth 23 = false := by kernel_rfl
set_option maxHeartbeats 40000000 in
theorem awake13_any (w : World) : Calls Try.prog 15 #[] w fun e w' => e = .returned (.bool true) ∧ Below w.heap.size w w' := by
  have hPut1 : ∀ W, Calls Try.prog 16 #[.agg #[.string ⟨#[97]⟩, .int .i64 1, .int .i64 2, .string ⟨#[]⟩, .string ⟨#[]⟩]] W fun e w' => e = .returned (.tuple #[.string s13, .int .i64 0]) ∧ Below W.heap.size W w' := fun W => header_Put.calls cA 1 2 ⟨#[]⟩ ⟨#[]⟩ _ _ W put1
  have hPut2 : ∀ W, Calls Try.prog 16 #[.agg #[.string cA, .int .i64 1, .int .i64 2, .string ⟨#[]⟩, .string m13]] W fun e w' => e = .returned (.tuple #[.string t13, .int .i64 0]) ∧ Below W.heap.size W w' := fun W => header_Put.calls cA 1 2 ⟨#[]⟩ m13 _ _ W put2
  have hSign1 : ∀ W, Calls Try.prog 20 #[.string ⟨#[107]⟩, .agg #[.string ⟨#[97]⟩, .int .i64 1, .int .i64 2, .string ⟨#[]⟩, .string ⟨#[]⟩]] W fun e w' => e = .returned (.tuple #[.agg #[.string cA, .int .i64 1, .int .i64 2, .string ⟨#[]⟩, .string m13], .int .i64 0]) ∧ Below W.heap.size W w' := fun W => header_Sign.calls kK cA 1 2 ⟨#[]⟩ ⟨#[]⟩ _ _ _ _ _ _ W (sign1 kK _ m13 (by decide) macK)
  have hSign3 : ∀ W, Calls Try.prog 20 #[.string ⟨#[107]⟩, .agg #[.string ⟨#[]⟩, .int .i64 (-1), .int .i64 0, .string ⟨#[]⟩, .string ⟨#[]⟩]] W fun e w' => e = .returned (.tuple #[.agg #[.string ⟨#[]⟩, .int .i64 0, .int .i64 0, .string ⟨#[]⟩, .string ⟨#[]⟩], .int .i64 3]) ∧ Below W.heap.size W w' := fun W => header_Sign.calls kK ⟨#[]⟩ (-1) 0 ⟨#[]⟩ ⟨#[]⟩ _ _ _ _ _ _ W sign3
  have hRead1 : ∀ W, Calls Try.prog 18 #[.string t13] W fun e w' => e = .returned (.tuple #[.agg #[.string cA, .int .i64 1, .int .i64 2, .string ⟨#[]⟩, .string m13], .int .i64 0]) ∧ Below W.heap.size W w' := fun W => header_Read.calls t13 _ _ _ _ _ _ W read1
  have hRead2 : ∀ W, Calls Try.prog 18 #[.string (t13 ++ ⟨#[120]⟩)] W fun e w' => e = .returned (.tuple #[.agg #[.string ⟨#[]⟩, .int .i64 0, .int .i64 0, .string ⟨#[]⟩, .string ⟨#[]⟩], .int .i64 6]) ∧ Below W.heap.size W w' := fun W => header_Read.calls _ _ _ _ _ _ _ W read2
  have htx : t13.size + (1 : Nat) ≤ 9223372036854775807 := by decide
  go_enter Try.func15, Try.ntmps15
  go_wp2_with fail
  refine (hPut1 _).mono ?_
  rintro e w1 ⟨rfl, hb1⟩
  go_wp2_with fail
  refine (hSign1 _).mono ?_
  rintro e w2 ⟨rfl, hb2⟩
  have hB2 : Below w.heap.size w w2 := hb1.trans (hb2.mono hb1.size)
  clear hb1 hb2
  go_wp2_with fail
  refine (hPut2 _).mono ?_
  rintro e w3 ⟨rfl, hb3⟩
  have h3 : w3.heap[w2.heap.size]? = some (.cells (hdr cA 1 2 ⟨#[]⟩ m13) 23 (0, 0)) := blk_below (heap_alloc_new w2 _) hb3
  have hB3 : Below w.heap.size w w3 := (hB2.alloc hB2.size _).trans (hb3.mono (by have := hB2.size; simp; omega))
  clear hb3 hB2 hPut1 hPut2 hSign1
  obtain ⟨g3, hg3⟩ : ∃ g : Nat, g = w2.heap.size := ⟨_, rfl⟩
  rw [← hg3] at h3 ⊢
  clear hg3
  have H3 := Lib.hid h3
  clear h3
  go_wp2_with fail
  refine (hRead1 _).mono ?_
  rintro e w4 ⟨rfl, hb4⟩
  replace H3 := Lib.hid (blk_below H3.out hb4)
  have hB4 : Below w.heap.size w w4 := hB3.trans (hb4.mono hB3.size)
  clear hb4 hB3 hRead1
  go_wp2_with fail
  refine (hRead2 _).mono ?_
  rintro e w5 ⟨rfl, hb5⟩
  replace H3 := Lib.hid (blk_below (blk_alloc H3.out _) hb5)
  have h7 : w5.heap[w4.heap.size]? = some (.cells (hdr cA 1 2 ⟨#[]⟩ m13) 23 (0, 0)) := blk_below (heap_alloc_new w4 _) hb5
  have hB5 : Below w.heap.size w w5 := (hB4.alloc hB4.size _).trans (hb5.mono (by have := hB4.size; simp; omega))
  clear hb5 hB4 hRead2
  obtain ⟨g7, hg7⟩ : ∃ g : Nat, g = w4.heap.size := ⟨_, rfl⟩
  rw [← hg7] at h7 ⊢
  clear hg7
  have H7 := Lib.hid h7
  clear h7
  go_wp2_with fail
  refine (hSign3 _).mono ?_
  rintro e w6 ⟨rfl, hb6⟩
  replace H3 := Lib.hid (blk_below (blk_alloc H3.out _) hb6)
  replace H7 := Lib.hid (blk_below (blk_alloc H7.out _) hb6)
  have hB6 : Below w.heap.size w w6 := (hB5.alloc hB5.size _).trans (hb6.mono (by have := hB5.size; simp; omega))
  clear hb6 hB5 hSign3
  have a0 : w6.cell? ⟨g3, 0, none⟩ = some (.string cA) := (cell_of_row _ _ _ _ _ _ H3.out).trans rfl
  have a1 : w6.cell? ⟨g3, 1, none⟩ = some (.int .i64 1) := (cell_of_row _ _ _ _ _ _ H3.out).trans rfl
  have a2 : w6.cell? ⟨g3, 2, none⟩ = some (.int .i64 2) := (cell_of_row _ _ _ _ _ _ H3.out).trans rfl
  have a3 : w6.cell? ⟨g3, 3, none⟩ = some (.string ⟨#[]⟩) := (cell_of_row _ _ _ _ _ _ H3.out).trans rfl
  have a4 : w6.cell? ⟨g3, 4, none⟩ = some (.string m13) := (cell_of_row _ _ _ _ _ _ H3.out).trans rfl
  have hgs : g3 < w6.heap.size := blk_lt H3.out
  go_upto_region 8 with fail
  go_cut [13] (fun s13 wx => ∃ g13, s13 = .pointer (some ⟨g13, 0, none⟩) ∧ wx.heap[g3]? = some (.cells (hdr cA 1 2 ⟨#[]⟩ m13) 23 (0, 0)) ∧ wx.heap[g7]? = some (.cells (hdr cA 1 2 ⟨#[]⟩ m13) 23 (0, 0)) ∧ wx.heap[g13]? = some (.cells (hdr cA 1 3 ⟨#[]⟩ m13) 23 (0, 0)) ∧ Below w.heap.size w wx)
  case first =>
    have hz := hB6.size
    go_wp2_with fail
    go_meet
    refine ⟨_, rfl, ?_, ?_, ?_, ?_⟩
    · exact blk_alloc (blk_alloc H3.out _) _
    · exact blk_alloc (blk_alloc H7.out _) _
    · exact (heap_alloc2_new w6 _ _).trans rfl
    · exact ((hB6.alloc hz _).alloc (by simp; omega) _)
  case rest =>
    obtain ⟨g13, rfl, h3, h7, h13, hB⟩ := hcut
    clear H3 H7 a0 a1 a2 a3 a4 hgs hB6
    have H3 : Hid (wc.heap[g3]? = some (.cells (hdr cA 1 2 ⟨#[]⟩ m13) 23 (0, 0))) := h3
    have H7 : Hid (wc.heap[g7]? = some (.cells (hdr cA 1 2 ⟨#[]⟩ m13) 23 (0, 0))) := h7
    have H13 : Hid (wc.heap[g13]? = some (.cells (hdr cA 1 3 ⟨#[]⟩ m13) 23 (0, 0))) := h13
    have HB := Lib.hid hB
    clear h3 h7 h13 hB
    obtain ⟨a0, a1, a2, a3, a4, b0, b1, b2, b3, b4, c0, c1, c2, c3, c4⟩ := three H3.out H7.out H13.out
    have hG1 : ∀ W, Calls Try.prog 22 #[.string ⟨#[107]⟩, .agg #[.string cA, .int .i64 1, .int .i64 2, .string ⟨#[]⟩, .string m13]] W fun e w' => e = .returned (.bool true) ∧ Below W.heap.size W w' := fun W => header_Good.calls 100 kK cA 1 2 ⟨#[]⟩ m13 _ W good1
    have hG2 : ∀ W, Calls Try.prog 22 #[.string ⟨#[108]⟩, .agg #[.string cA, .int .i64 1, .int .i64 2, .string ⟨#[]⟩, .string m13]] W fun e w' => e = .returned (.bool false) ∧ Below W.heap.size W w' := fun W => header_Good.calls 100 kL cA 1 2 ⟨#[]⟩ m13 _ W good2
    have hG3 : ∀ W, Calls Try.prog 22 #[.string ⟨#[107]⟩, .agg #[.string cA, .int .i64 1, .int .i64 3, .string ⟨#[]⟩, .string m13]] W fun e w' => e = .returned (.bool false) ∧ Below W.heap.size W w' := fun W => header_Good.calls 100 kK cA 1 3 ⟨#[]⟩ m13 _ W good3
    have hgd := guard23
    have hs13 : s13.toList = [1, 1, 97, 1, 1, 1, 2, 0, 0] := by rw [ByteArray.toList_eq]; rfl
    have hm13 : m13.size = 32 := rfl
    go_wp2_with fail
    refine (hG1 _).mono ?_
    rintro e wn1 ⟨rfl, hb⟩
    replace H3 := Lib.hid (blk_below H3.out hb)
    replace H7 := Lib.hid (blk_below H7.out hb)
    replace H13 := Lib.hid (blk_below H13.out hb)
    replace HB := Lib.hid (HB.out.trans (hb.mono HB.out.size))
    clear a0 a1 a2 a3 a4 b0 b1 b2 b3 b4 c0 c1 c2 c3 c4 hb
    obtain ⟨a0, a1, a2, a3, a4, b0, b1, b2, b3, b4, c0, c1, c2, c3, c4⟩ := three H3.out H7.out H13.out
    go_wp2_with fail
    refine (hG2 _).mono ?_
    rintro e wn2 ⟨rfl, hb⟩
    replace H3 := Lib.hid (blk_below H3.out hb)
    replace H7 := Lib.hid (blk_below H7.out hb)
    replace H13 := Lib.hid (blk_below H13.out hb)
    replace HB := Lib.hid (HB.out.trans (hb.mono HB.out.size))
    clear a0 a1 a2 a3 a4 b0 b1 b2 b3 b4 c0 c1 c2 c3 c4 hb
    obtain ⟨a0, a1, a2, a3, a4, b0, b1, b2, b3, b4, c0, c1, c2, c3, c4⟩ := three H3.out H7.out H13.out
    go_wp2_with fail
    refine (hG3 _).mono ?_
    rintro e wn3 ⟨rfl, hb⟩
    replace H3 := Lib.hid (blk_below H3.out hb)
    replace H7 := Lib.hid (blk_below H7.out hb)
    replace H13 := Lib.hid (blk_below H13.out hb)
    replace HB := Lib.hid (HB.out.trans (hb.mono HB.out.size))
    clear a0 a1 a2 a3 a4 b0 b1 b2 b3 b4 c0 c1 c2 c3 c4 hb
    obtain ⟨a0, a1, a2, a3, a4, b0, b1, b2, b3, b4, c0, c1, c2, c3, c4⟩ := three H3.out H7.out H13.out
    go_wp2_with fail
    go_ret
    exact ⟨rfl, HB.out⟩
end Go.Proofs.Ytipgldfbjlhpoab.Header
namespace Go.Proofs.Ytipgldfbjlhpoab.P
open Go.RowKit
def footbridgelaw13_awake.f : Option Bool := some true
theorem footbridgelaw13_awake.calls (r : Bool) (w : World) (h : footbridgelaw13_awake.f = some r) :
    Calls Try.prog 15 #[] w fun e w' => e = .returned (.bool r) ∧ Below w.heap.size w w' := by
  obtain rfl := Option.some.inj h
  exact Header.awake13_any w
end Go.Proofs.Ytipgldfbjlhpoab.P
