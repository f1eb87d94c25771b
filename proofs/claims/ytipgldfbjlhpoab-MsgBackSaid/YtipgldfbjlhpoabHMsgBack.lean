/- MsgBack: its walk. -/
import Derived.Test.YtipgldfbjlhpoabHMsgAt
namespace Go.Proofs.Ytipgldfbjlhpoab.P
set_option linter.unusedVariables false
set_option linter.unusedSimpArgs false
open Go.RowKit Go.Proofs.Ytipgldfbjlhpoab.Sha Go.Proofs.Ytipgldfbjlhpoab.Msg Go.Proofs.YtipgldfbjlhpoabW.PrintWords Go.Proofs.YtipgldfbjlhpoabW.PrintLast Go.Proofs.YtipgldfbjlhpoabW.PrintMore
set_option maxRecDepth 100000
set_option maxHeartbeats 4000000 in
theorem footbridgelaw37_MsgBack.calls (k0 : Nat) (k : Int) (f : ByteArray) (A2 : Option Addr) (c2 : Nat) (l2 : List ByteArray) (A3 : Option Addr) (c3 : Nat) (l3 : List ByteArray) (A4 : Option Addr) (c4 : Nat) (l4 : List Int) (s : ByteArray) (b : Bool) (w : World)
    (h2 : Kd.C Kd.string w A2 l2.length l2) (e2 : l2.length ≤ c2) (h3 : Kd.C Kd.string w A3 l3.length l3) (e3 : l3.length ≤ c3) (h4 : Kd.C (Kd.int .i64) w A4 l4.length l4) (e4 : l4.length ≤ c4)
    (hF : footbridgelaw37_Few.f k0 k f l2 l3 l4 = some b)
    (hmain : b = true → ¬ (s.size : Int) > 5000 → ∃ (r : ByteArray) (e : Int) (kb : Int) (fb : ByteArray) (l2b l3b : List ByteArray) (l4b : List Int) (f0 : Int) (kx : Int) (fx : ByteArray) (l2x l3x : List ByteArray) (l4x : List Int) (g : Int) (d : ByteArray) (h : Int),
      msg_Put.f k f l2 l3 l4 = some (r, e) ∧ msg_Read.f k0 r = some (kb, fb, l2b, l3b, l4b, f0) ∧ msg_Read.f k0 s = some (kx, fx, l2x, l3x, l4x, g) ∧ msg_Put.f kx fx l2x l3x l4x = some (d, h) ∧
      (e = 0 → footbridgeref37_Same.f k0 kb fb l2b l3b l4b k f l2 l3 l4 = some true ∧ f0 = 0) ∧ (g = 0 → d = s ∧ h = 0)) :
    Calls Try.prog 10 #[.agg #[.int .i64 k, .string f, .slice A2 l2.length c2, .slice A3 l3.length c3, .slice A4 l4.length c4], .string s] w fun e w' => e = .returned (.bool true) ∧ Below w.heap.size w w' := by
  have hM : MsgAt (w.alloc (.cells #[.int .i64 k, .string f, .slice A2 l2.length c2, .slice A3 l3.length c3, .slice A4 l4.length c4] 66)) w.heap.size k f A2 c2 l2 A3 c3 l3 A4 c4 l4 := ⟨heap_alloc_new w _, Kd.C_alloc h2 _, e2, Kd.C_alloc h3 _, e3, Kd.C_alloc h4 _, e4⟩
  have hB : Below w.heap.size w (w.alloc (.cells #[.int .i64 k, .string f, .slice A2 l2.length c2, .slice A3 l3.length c3, .slice A4 l4.length c4] 66)) := (Below.refl _ _).alloc (Nat.le_refl _) _
  clear h2 h3 h4
  have hcall := hM.few k0 hF
  have HM := Lib.hid hM
  have HB := Lib.hid hB
  have HN := Lib.hid hmain
  clear hM hB hF hmain
  go_enter Try.func10, Try.ntmps10
  go_wp2_with fail
  refine hcall.mono ?_
  rintro e w1 ⟨rfl, hb⟩
  clear hcall
  replace HM := Lib.hid (HM.out.under hb)
  replace HB := Lib.hid (HB.out.trans (hb.mono HB.out.size))
  clear hb
  cases b with
  | false =>
    go_wp2_with fail
    refine (Msg.awake37_any _).mono ?_
    rintro e w2 ⟨rfl, hb⟩
    go_wp2_with fail
    go_ret
    exact ⟨rfl, HB.out.trans (hb.mono HB.out.size)⟩
  | true =>
    by_cases hs : (s.size : Int) > 5000
    · go_wp2_with fail
      refine (Msg.awake37_any _).mono ?_
      rintro e w2 ⟨rfl, hb⟩
      go_wp2_with fail
      go_ret
      exact ⟨rfl, HB.out.trans (hb.mono HB.out.size)⟩
    · obtain ⟨r, e0, kb, fb, l2b, l3b, l4b, f0, kx, fx, l2x, l3x, l4x, g0, d0, h0, hP, hRb, hR, hPx, hE, hG⟩ := HN.out (by first | rfl | trivial) (by omega)
      clear HN
      have hgt : w.heap.size < w1.heap.size := blk_lt HM.out.hm
      obtain ⟨p, hp⟩ : ∃ p : Nat, p = w.heap.size := ⟨_, rfl⟩
      have hpl : w.heap.size ≤ p := by omega
      rw [← hp] at HM hgt
      have hcall := HM.out.put hP
      obtain ⟨m0, m1, m2, m3, m4⟩ := HM.out.cells
      rw [← hp]
      clear hp
      go_wp2_with fail
      refine hcall.mono ?_
      rintro e w2 ⟨rfl, hb⟩
      clear hcall m0 m1 m2 m3 m4 hgt
      replace HM := Lib.hid (HM.out.under hb)
      replace HB := Lib.hid (HB.out.trans (hb.mono HB.out.size))
      clear hb
      have HE := Lib.hid hE
      have HG := Lib.hid hG
      clear hE hG
      have hcall := msg_Read.calls k0 r _ _ _ _ _ _ w2 hRb
      go_wp2_with fail
      refine hcall.mono ?_
      rintro e w3 ⟨v2, v3, v4, rfl, hR2, hR3, hR4, hb⟩
      clear hcall
      obtain ⟨A2b, c2b, A3b, c3b, A4b, c4b, rfl, rfl, rfl, hX⟩ := MsgAt.made kb fb hR2 hR3 hR4
      clear hR2 hR3 hR4
      have hn : Below w3.heap.size w3 (w3.alloc (.cells #[.int .i64 kb, .string fb, .slice A2b l2b.length c2b, .slice A3b l3b.length c3b, .slice A4b l4b.length c4b] 66)) := (Below.refl _ _).alloc (Nat.le_refl _) _
      replace HM := Lib.hid ((HM.out.under hb).under hn)
      replace HB := Lib.hid ((HB.out.trans (hb.mono HB.out.size)).trans (hn.mono (by have := HB.out.size; have := hb.size; omega)))
      have HX := Lib.hid hX
      clear hb hX hn
      obtain ⟨q, hqq⟩ : ∃ q : Nat, q = w3.heap.size := ⟨_, rfl⟩
      have hcall := msg_Read.calls k0 s _ _ _ _ _ _ (w3.alloc (.cells #[.int .i64 kb, .string fb, .slice A2b l2b.length c2b, .slice A3b l3b.length c3b, .slice A4b l4b.length c4b] 66)) hR
      go_wp2_with fail
      rw [← hqq] at HX ⊢
      clear hqq
      refine hcall.mono ?_
      rintro e w4 ⟨v2, v3, v4, rfl, hR2, hR3, hR4, hb⟩
      clear hcall
      obtain ⟨A2x, c2x, A3x, c3x, A4x, c4x, rfl, rfl, rfl, hY⟩ := MsgAt.made kx fx hR2 hR3 hR4
      clear hR2 hR3 hR4
      have hn : Below w4.heap.size w4 (w4.alloc (.cells #[.int .i64 kx, .string fx, .slice A2x l2x.length c2x, .slice A3x l3x.length c3x, .slice A4x l4x.length c4x] 66)) := (Below.refl _ _).alloc (Nat.le_refl _) _
      replace HM := Lib.hid ((HM.out.under hb).under hn)
      replace HX := Lib.hid ((HX.out.under hb).under hn)
      replace HB := Lib.hid ((HB.out.trans (hb.mono HB.out.size)).trans (hn.mono (by have := HB.out.size; have := hb.size; omega)))
      have HY := Lib.hid hY
      clear hb hY hn
      obtain ⟨t, hqt⟩ : ∃ q : Nat, q = w4.heap.size := ⟨_, rfl⟩
      have hcall := HY.out.put hPx
      obtain ⟨y0, y1, y2, y3, y4⟩ := HY.out.cells
      go_wp2_with fail
      rw [← hqt] at HY ⊢
      clear hqt
      refine hcall.mono ?_
      rintro e w5 ⟨rfl, hb⟩
      clear hcall y0 y1 y2 y3 y4
      replace HM := Lib.hid (HM.out.under hb)
      replace HX := Lib.hid (HX.out.under hb)
      replace HB := Lib.hid (HB.out.trans (hb.mono HB.out.size))
      clear hb HY hPx hR hRb hP
      obtain ⟨m0, m1, m2, m3, m4⟩ := HM.out.cells
      obtain ⟨x0, x1, x2, x3, x4⟩ := HX.out.cells
      by_cases he : e0 = 0
      · obtain ⟨hS, rfl⟩ := HE.out he
        subst he
        clear HE
        have hcall := HX.out.same HM.out k0 hS
        by_cases hg : g0 = 0
        · obtain ⟨rfl, rfl⟩ := HG.out hg
          subst hg
          clear HG
          go_wp2_with fail
          refine hcall.mono ?_
          rintro e w6 ⟨rfl, hb⟩
          replace HB := Lib.hid (HB.out.trans (hb.mono HB.out.size))
          clear hb hcall m0 m1 m2 m3 m4 x0 x1 x2 x3 x4
          go_wp2_with fail
          refine (Msg.awake37_any _).mono ?_
          rintro e w7 ⟨rfl, hb⟩
          go_wp2_with fail
          go_ret
          exact ⟨rfl, HB.out.trans (hb.mono HB.out.size)⟩
        · clear HG
          go_wp2_with fail
          refine hcall.mono ?_
          rintro e w6 ⟨rfl, hb⟩
          replace HB := Lib.hid (HB.out.trans (hb.mono HB.out.size))
          clear hb hcall m0 m1 m2 m3 m4 x0 x1 x2 x3 x4
          go_wp2_with fail
          refine (Msg.awake37_any _).mono ?_
          rintro e w7 ⟨rfl, hb⟩
          go_wp2_with fail
          go_ret
          exact ⟨rfl, HB.out.trans (hb.mono HB.out.size)⟩
      · clear HE
        by_cases hg : g0 = 0
        · obtain ⟨rfl, rfl⟩ := HG.out hg
          subst hg
          clear HG
          go_wp2_with fail
          refine (Msg.awake37_any _).mono ?_
          rintro e w7 ⟨rfl, hb⟩
          go_wp2_with fail
          go_ret
          exact ⟨rfl, HB.out.trans (hb.mono HB.out.size)⟩
        · clear HG
          go_wp2_with fail
          refine (Msg.awake37_any _).mono ?_
          rintro e w7 ⟨rfl, hb⟩
          go_wp2_with fail
          go_ret
          exact ⟨rfl, HB.out.trans (hb.mono HB.out.size)⟩
end Go.Proofs.Ytipgldfbjlhpoab.P
