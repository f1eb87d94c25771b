/- The examples at the head of layer 37's statements ('awake') come out true. -/
import Derived.Test.YtipgldfbjlhpoabPMsg
import Derived.Test.YtipgldfbjlhpoabHMsg3
namespace Go.Proofs.Ytipgldfbjlhpoab.Msg
set_option linter.unusedVariables false
set_option linter.unusedSimpArgs false
open Go.RowKit Go.Proofs.Ytipgldfbjlhpoab.P Go.Proofs.Ytipgldfbjlhpoab.Sha Go.Proofs.YtipgldfbjlhpoabW.PrintWords Go.Proofs.YtipgldfbjlhpoabW.PrintLast Go.Proofs.YtipgldfbjlhpoabW.PrintMore
set_option maxRecDepth 100000
def sAl : ByteArray := ⟨#[97, 108]⟩
def sCat : ByteArray := ⟨#[99, 97, 116]⟩
def s37 : ByteArray := ⟨#[1, 3, 1, 2, 97, 108, 1, 2, 1, 3, 99, 97, 116, 1, 1, 49, 0]⟩
theorem putA : msg_Put.f 3 sAl [sCat, ⟨#[49]⟩] [] [] = some (s37, 0) := by decide +kernel
theorem readA : msg_Read.f 400 s37 = some (3, sAl, [sCat, ⟨#[49]⟩], [], [], 0) := by kernel_rfl
theorem readB : msg_Read.f 400 (s37 ++ ⟨#[120]⟩) = some (0, ⟨#[]⟩, [], [], [], 6) := by kernel_rfl
theorem checkA : msg_Check.f 3 sAl [sCat] [] [] = some 6 := by decide +kernel
theorem checkB : msg_Check.f 24 sAl [sCat] [] [] = some 1 := by decide +kernel
theorem checkC : msg_Check.f 11 ⟨#[97, 47, 98]⟩ [⟨#[120]⟩] [] [] = some 7 := by decide +kernel
theorem strings1 {W : World} {b : Nat} {s : ByteArray} (h0 : W.cell? ⟨b, 0, none⟩ = some (.string s)) : Kd.C Kd.string W (some ⟨b, 0, none⟩) 1 [s] :=
  Kd.C_of_reads (d := ByteArray.empty) ⟨rfl, by decide, fun _ => ⟨_, rfl, fun j hj => by
    change j < 1 at hj
    obtain rfl : j = 0 := by omega
    exact h0⟩⟩
theorem strings2 {W : World} {b : Nat} {s t : ByteArray} (h0 : W.cell? ⟨b, 0, none⟩ = some (.string s)) (h1 : W.cell? ⟨b, 1, none⟩ = some (.string t)) : Kd.C Kd.string W (some ⟨b, 0, none⟩) 2 [s, t] :=
  Kd.C_of_reads (d := ByteArray.empty) ⟨rfl, by decide, fun _ => ⟨_, rfl, fun j hj => by
    change j < 2 at hj
    rcases (show j = 0 ∨ j = 1 by omega) with rfl | rfl
    · exact h0
    · exact h1⟩⟩
theorem put_at (b : Nat) (W : World) (h0 : W.cell? ⟨b, 0, none⟩ = some (.string sCat)) (h1 : W.cell? ⟨b, 1, none⟩ = some (.string ⟨#[49]⟩)) :
    Calls Try.prog 43 #[.agg #[.int .i64 3, .string ⟨#[97, 108]⟩, .slice (some ⟨b, 0, none⟩) 2 2, .slice none 0 0, .slice none 0 0]] W fun e w' => e = .returned (.tuple #[.string s37, .int .i64 0]) ∧ Below W.heap.size W w' :=
  msg_Put.calls 3 sAl (some ⟨b, 0, none⟩) 2 [sCat, ⟨#[49]⟩] none 0 [] none 0 [] _ _ W (strings2 h0 h1) (by decide) (Kd.C_nil _ _) (by decide) (Kd.C_nil _ _) (by decide) putA
theorem check_at (k r : Int) (f s : ByteArray) (h : msg_Check.f k f [s] [] [] = some r) (b : Nat) (W : World) (h0 : W.cell? ⟨b, 0, none⟩ = some (.string s)) :
    Calls Try.prog 47 #[.agg #[.int .i64 k, .string f, .slice (some ⟨b, 0, none⟩) 1 1, .slice none 0 0, .slice none 0 0]] W fun e w' => e = .returned (.int .i64 r) ∧ Below W.heap.size W w' :=
  msg_Check.calls k f (some ⟨b, 0, none⟩) 1 [s] none 0 [] none 0 [] _ W (strings1 h0) (Nat.le_refl _) (Kd.C_nil _ _) (by decide) (Kd.C_nil _ _) (by decide) h
set_option maxHeartbeats 4000000 in
theorem awake37_any (w : World) : Calls Try.prog 42 #[] w fun e w' => e = .returned (.bool true) ∧ Below w.heap.size w w' := by
  have hsx : s37.size + (1 : Nat) ≤ 9223372036854775807 := by decide
  go_enter Try.func42, Try.ntmps42
  go_wp2_with fail
  refine (put_at _ _ ?_ ?_).mono ?_
  · exact (cell_of_row _ _ _ _ _ _ (heap_alloc2_old w _ _)).trans rfl
  · exact (cell_of_row _ _ _ _ _ _ (heap_alloc2_old w _ _)).trans rfl
  rintro e w1 ⟨rfl, hb1⟩
  have hm : w1.heap[w.heap.size + 1]? = some (.cells #[.int .i64 3, .string ⟨#[97, 108]⟩, .slice (some ⟨w.heap.size, 0, none⟩) 2 2, .slice none 0 0, .slice none 0 0] 66 (0, 0)) := blk_below (heap_alloc2_new w _ _) hb1
  have hB1 : Below w.heap.size w w1 := (((Below.refl _ _).alloc (Nat.le_refl _) _).alloc (by simp) _).trans (hb1.mono (by simp; omega))
  have hge : w.heap.size ≤ w.heap.size + 1 := by omega
  obtain ⟨g, hg⟩ : ∃ g : Nat, g = w.heap.size + 1 := ⟨_, rfl⟩
  rw [← hg] at hm hge ⊢
  clear hg hb1
  have H := Lib.hid hm
  clear hm
  go_wp2_with fail
  refine (msg_Read.calls 400 s37 _ _ _ _ _ _ _ readA).mono ?_
  rintro e w2 ⟨v2, v3, v4, rfl, hR2, hR3, hR4, hb⟩
  obtain ⟨A2, c2, rfl⟩ := Kd.R_slice hR2
  obtain ⟨A3, c3, rfl⟩ := Kd.R_slice hR3
  obtain ⟨A4, c4, rfl⟩ := Kd.R_slice hR4
  clear hR2 hR3 hR4
  replace H := Lib.hid (blk_below H.out hb)
  have hB2 : Below w.heap.size w w2 := hB1.trans (hb.mono hB1.size)
  clear hb hB1
  go_wp2_with fail
  refine (msg_Read.calls 400 _ _ _ _ _ _ _ _ readB).mono ?_
  rintro e w3 ⟨x2, x3, x4, rfl, hR2, hR3, hR4, hb⟩
  obtain ⟨B2, e2, rfl⟩ := Kd.R_slice hR2
  obtain ⟨B3, e3, rfl⟩ := Kd.R_slice hR3
  obtain ⟨B4, e4, rfl⟩ := Kd.R_slice hR4
  clear hR2 hR3 hR4
  have hgn : g < w2.heap.size := blk_lt H.out
  replace H := Lib.hid (blk_below (blk_alloc H.out _) hb)
  have hn : w3.heap[w2.heap.size]? = some (.cells #[.int .i64 3, .string sAl, .slice A2 2 c2, .slice A3 0 c3, .slice A4 0 c4] 66 (0, 0)) := blk_below (heap_alloc_new w2 _) hb
  have hB3 : Below w.heap.size w w3 := (hB2.alloc hB2.size _).trans (hb.mono (by have := hB2.size; simp; omega))
  have hne : g ≠ w2.heap.size := by omega
  obtain ⟨q, hq⟩ : ∃ q : Nat, q = w2.heap.size := ⟨_, rfl⟩
  rw [← hq] at hn hne ⊢
  clear hb hB2 hgn hq
  have N := Lib.hid hn
  clear hn
  have m2 : w3.cell? ⟨g, 2, none⟩ = some (.slice (some ⟨w.heap.size, 0, none⟩) 2 2) := (cell_of_row _ _ _ _ _ _ H.out).trans rfl
  have f2 : w3.frozen? ⟨g, 2, none⟩ = false := frozen_of_row _ _ _ _ _ H.out
  have hgs : g < w3.heap.size := blk_lt H.out
  go_upto_region 5 with fail
  go_cut [1, 4] (fun v1 v4 wx => v1 = .pointer (some ⟨g, 0, none⟩) ∧ v4 = .pointer (some ⟨q, 0, none⟩) ∧ ∃ d, wx.heap[g]? = some (.cells #[.int .i64 3, .string ⟨#[97, 108]⟩, .slice (some ⟨d, 0, none⟩) 1 1, .slice none 0 0, .slice none 0 0] 66 (0, 0)) ∧
    wx.heap[q]? = some (.cells #[.int .i64 3, .string sAl, .slice A2 2 c2, .slice A3 0 c3, .slice A4 0 c4] 66 (0, 0)) ∧ wx.heap[d]? = some (.cells #[.string sCat] 9 (0, 0)) ∧ d ≠ g ∧ Below w.heap.size w wx)
  case first =>
    go_wp2_with fail
    go_meet
    have hs3 := hB3.size
    have hz : (w3.setCell ⟨g, 2, none⟩ (.slice (some ⟨w3.heap.size + 1, 0, none⟩) 1 1)).heap.size = w3.heap.size := by simp
    have hD := heap_alloc2_new (w3.setCell ⟨g, 2, none⟩ (.slice (some ⟨w3.heap.size + 1, 0, none⟩) 1 1)) (.cells #[.int .i64 0, .string ⟨#[]⟩, .slice B2 0 e2, .slice B3 0 e3, .slice B4 0 e4] 66) (.cells #[.string ⟨#[99, 97, 116]⟩] 9)
    rw [hz] at hD
    refine ⟨rfl, rfl, w3.heap.size + 1, ?_, ?_, hD, by omega, ?_⟩
    · exact blk_alloc (blk_alloc ((heap_setCell_same _ _ _ _ _ _ H.out).trans rfl) _) _
    · exact blk_alloc (blk_alloc (row_far N.out _ (Ne.symm hne)) _) _
    · exact ((hB3.setCell (p := ⟨g, 2, none⟩) hge _).alloc (by rw [hz]; exact hs3) _).alloc (by simp; omega) _
  case rest =>
    obtain ⟨rfl, rfl, d, hm, hn, hd, hdg, hB⟩ := hcut
    clear H N m2 f2 hgs hB3
    have m0 : wc.cell? ⟨g, 0, none⟩ = some (.int .i64 3) := (cell_of_row _ _ _ _ _ _ hm).trans rfl
    have m1 : wc.cell? ⟨g, 1, none⟩ = some (.string ⟨#[97, 108]⟩) := (cell_of_row _ _ _ _ _ _ hm).trans rfl
    have m2 : wc.cell? ⟨g, 2, none⟩ = some (.slice (some ⟨d, 0, none⟩) 1 1) := (cell_of_row _ _ _ _ _ _ hm).trans rfl
    have m3 : wc.cell? ⟨g, 3, none⟩ = some (.slice none 0 0) := (cell_of_row _ _ _ _ _ _ hm).trans rfl
    have m4 : wc.cell? ⟨g, 4, none⟩ = some (.slice none 0 0) := (cell_of_row _ _ _ _ _ _ hm).trans rfl
    have d0 : wc.cell? ⟨d, 0, none⟩ = some (.string sCat) := (cell_of_row _ _ _ _ _ _ hd).trans rfl
    have H := Lib.hid hm
    have N := Lib.hid hn
    have D := Lib.hid hd
    clear hm hn hd
    have hchk := check_at 3 6 ⟨#[97, 108]⟩ sCat checkA d wc d0
    go_wp2_with fail
    refine hchk.mono ?_
    rintro e w5 ⟨rfl, hb⟩
    replace H := Lib.hid (blk_below H.out hb)
    replace N := Lib.hid (blk_below N.out hb)
    replace D := Lib.hid (blk_below D.out hb)
    have hB5 : Below w.heap.size w w5 := hB.trans (hb.mono hB.size)
    clear hb hB m0 m1 m2 m3 m4 d0 hchk
    have m0 : w5.cell? ⟨g, 0, none⟩ = some (.int .i64 3) := (cell_of_row _ _ _ _ _ _ H.out).trans rfl
    have f0 : w5.frozen? ⟨g, 0, none⟩ = false := frozen_of_row _ _ _ _ _ H.out
    go_upto_region 7 with fail
    go_cut [1, 4] (fun v1 v4 wx => v1 = .pointer (some ⟨g, 0, none⟩) ∧ v4 = .pointer (some ⟨q, 0, none⟩) ∧ wx.heap[g]? = some (.cells #[.int .i64 24, .string ⟨#[97, 108]⟩, .slice (some ⟨d, 0, none⟩) 1 1, .slice none 0 0, .slice none 0 0] 66 (0, 0)) ∧ wx.heap[q]? = some (.cells #[.int .i64 3, .string sAl, .slice A2 2 c2, .slice A3 0 c3, .slice A4 0 c4] 66 (0, 0)) ∧ wx.heap[d]? = some (.cells #[.string sCat] 9 (0, 0)) ∧ Below w.heap.size w wx)
    case first =>
      go_wp2_with fail
      go_meet
      exact ⟨rfl, rfl, (heap_setCell_same _ _ _ _ _ _ H.out).trans rfl, row_far N.out _ (Ne.symm hne), row_far D.out _ hdg, hB5.setCell hge _⟩
    case rest =>
      clear H N D m0 f0 hB5
      obtain ⟨rfl, rfl, hm, hn, hd, hB⟩ := hcut
      have m0 : wc.cell? ⟨g, 0, none⟩ = some (.int .i64 24) := (cell_of_row _ _ _ _ _ _ hm).trans rfl
      have m1 : wc.cell? ⟨g, 1, none⟩ = some (.string ⟨#[97, 108]⟩) := (cell_of_row _ _ _ _ _ _ hm).trans rfl
      have m2 : wc.cell? ⟨g, 2, none⟩ = some (.slice (some ⟨d, 0, none⟩) 1 1) := (cell_of_row _ _ _ _ _ _ hm).trans rfl
      have m3 : wc.cell? ⟨g, 3, none⟩ = some (.slice none 0 0) := (cell_of_row _ _ _ _ _ _ hm).trans rfl
      have m4 : wc.cell? ⟨g, 4, none⟩ = some (.slice none 0 0) := (cell_of_row _ _ _ _ _ _ hm).trans rfl
      have d0 : wc.cell? ⟨d, 0, none⟩ = some (.string sCat) := (cell_of_row _ _ _ _ _ _ hd).trans rfl
      have N := Lib.hid hn
      clear hm hn hd
      have hchk := check_at 24 1 ⟨#[97, 108]⟩ sCat checkB d wc d0
      go_wp2_with fail
      refine hchk.mono ?_
      rintro e w6 ⟨rfl, hb⟩
      replace N := Lib.hid (blk_below N.out hb)
      have hB6 : Below w.heap.size w w6 := hB.trans (hb.mono hB.size)
      clear hb hB m0 m1 m2 m3 m4 d0 hchk
      have q0 : w6.cell? ⟨q, 0, none⟩ = some (.int .i64 3) := (cell_of_row _ _ _ _ _ _ N.out).trans rfl
      have q2 : w6.cell? ⟨q, 2, none⟩ = some (.slice A2 2 c2) := (cell_of_row _ _ _ _ _ _ N.out).trans rfl
      have hchk := check_at 11 7 ⟨#[97, 47, 98]⟩ ⟨#[120]⟩ checkC w6.heap.size (w6.alloc (.cells #[.string ⟨#[120]⟩] 9)) ((cell_of_row _ _ _ _ _ _ (heap_alloc_new w6 _)).trans rfl)
      go_wp2_with fail
      refine hchk.mono ?_
      rintro e w7 ⟨rfl, hb⟩
      go_wp2_with fail
      go_ret
      exact ⟨rfl, (hB6.alloc hB6.size _).trans (hb.mono (by have := hB6.size; simp; omega))⟩
end Go.Proofs.Ytipgldfbjlhpoab.Msg
namespace Go.Proofs.Ytipgldfbjlhpoab.P
open Go.RowKit
def footbridgelaw37_awake.f : Option Bool := some true
theorem footbridgelaw37_awake.calls (r : Bool) (w : World) (h : footbridgelaw37_awake.f = some r) :
    Calls Try.prog 42 #[] w fun e w' => e = .returned (.bool r) ∧ Below w.heap.size w w' := by
  obtain rfl := Option.some.inj h
  exact Msg.awake37_any w
end Go.Proofs.Ytipgldfbjlhpoab.P
