/- MsgBytes: its walk. -/
import Derived.Test.YtipgldfbjlhpoabHMsgAt
namespace Go.Proofs.Ytipgldfbjlhpoab.P
set_option linter.unusedVariables false
set_option linter.unusedSimpArgs false
open Go.RowKit Go.Proofs.Ytipgldfbjlhpoab.Sha Go.Proofs.Ytipgldfbjlhpoab.Msg Go.Proofs.YtipgldfbjlhpoabW.PrintWords Go.Proofs.YtipgldfbjlhpoabW.PrintLast Go.Proofs.YtipgldfbjlhpoabW.PrintMore
set_option maxRecDepth 100000
set_option maxHeartbeats 4000000 in
theorem footbridgelaw37_MsgBytes.calls (k0 : Nat) (k : Int) (f : ByteArray) (A2 : Option Addr) (c2 : Nat) (l2 : List ByteArray) (A3 : Option Addr) (c3 : Nat) (l3 : List ByteArray) (A4 : Option Addr) (c4 : Nat) (l4 : List Int) (s : ByteArray) (b : Bool) (w : World)
    (h2 : Kd.C Kd.string w A2 l2.length l2) (e2 : l2.length ≤ c2) (h3 : Kd.C Kd.string w A3 l3.length l3) (e3 : l3.length ≤ c3) (h4 : Kd.C (Kd.int .i64) w A4 l4.length l4) (e4 : l4.length ≤ c4)
    (hF : footbridgelaw37_Few.f k0 k f l2 l3 l4 = some b)
    (hmain : b = true → ¬ (s.size : Int) > 5000 → ∃ (r : ByteArray) (e c : Int) (kx : Int) (fx : ByteArray) (l2x l3x : List ByteArray) (l4x : List Int) (g : Int),
      msg_Put.f k f l2 l3 l4 = some (r, e) ∧ footbridgeref37_Put.f k0 k f l2 l3 l4 = some (r, e) ∧ msg_Read.f k0 s = some (kx, fx, l2x, l3x, l4x, g) ∧ footbridgeref37_Read.f k0 s = some (kx, fx, l2x, l3x, l4x, g) ∧
      msg_Check.f k f l2 l3 l4 = some c ∧ footbridgeref37_Check.f k0 k f l2 l3 l4 = some c ∧ footbridgeref37_Same.f k0 kx fx l2x l3x l4x kx fx l2x l3x l4x = some true) :
    Calls Try.prog 9 #[.agg #[.int .i64 k, .string f, .slice A2 l2.length c2, .slice A3 l3.length c3, .slice A4 l4.length c4], .string s] w fun e w' => e = .returned (.bool true) ∧ Below w.heap.size w w' := by
  have hM : MsgAt (w.alloc (.cells #[.int .i64 k, .string f, .slice A2 l2.length c2, .slice A3 l3.length c3, .slice A4 l4.length c4] 66)) w.heap.size k f A2 c2 l2 A3 c3 l3 A4 c4 l4 := ⟨heap_alloc_new w _, Kd.C_alloc h2 _, e2, Kd.C_alloc h3 _, e3, Kd.C_alloc h4 _, e4⟩
  have hB : Below w.heap.size w (w.alloc (.cells #[.int .i64 k, .string f, .slice A2 l2.length c2, .slice A3 l3.length c3, .slice A4 l4.length c4] 66)) := (Below.refl _ _).alloc (Nat.le_refl _) _
  clear h2 h3 h4
  have hcall := hM.few k0 hF
  have HM := Lib.hid hM
  have HB := Lib.hid hB
  have HN := Lib.hid hmain
  clear hM hB hF hmain
  go_enter Try.func9, Try.ntmps9
  go_wp2_with fail
  refine hcall.mono ?_
  rintro e w1 ⟨rfl, hb⟩
  clear hcall
  replace HM := Lib.hid (HM.out.under hb)
  replace HB := Lib.hid (HB.out.trans (hb.mono HB.out.size))
  clear hb
  cases b with
  | false =>
    go_wp2_with fail
    refine (Msg.awake37_any _).mono ?_
    rintro e w2 ⟨rfl, hb⟩
    go_wp2_with fail
    go_ret
    exact ⟨rfl, HB.out.trans (hb.mono HB.out.size)⟩
  | true =>
    by_cases hs : (s.size : Int) > 5000
    · go_wp2_with fail
      refine (Msg.awake37_any _).mono ?_
      rintro e w2 ⟨rfl, hb⟩
      go_wp2_with fail
      go_ret
      exact ⟨rfl, HB.out.trans (hb.mono HB.out.size)⟩
    · obtain ⟨r, e0, c0, kx, fx, l2x, l3x, l4x, g0, hP, hRP, hR, hRR, hC, hRC, hS⟩ := HN.out (by first | rfl | trivial) (by omega)
      clear HN
      have hgt : w.heap.size < w1.heap.size := blk_lt HM.out.hm
      obtain ⟨p, hp⟩ : ∃ p : Nat, p = w.heap.size := ⟨_, rfl⟩
      have hpl : w.heap.size ≤ p := by omega
      rw [← hp] at HM hgt
      have hcall := HM.out.put hP
      obtain ⟨m0, m1, m2, m3, m4⟩ := HM.out.cells
      rw [← hp]
      clear hp
      go_wp2_with fail
      refine hcall.mono ?_
      rintro e w2 ⟨rfl, hb⟩
      clear hcall m0 m1 m2 m3 m4 hgt
      replace HM := Lib.hid (HM.out.under hb)
      replace HB := Lib.hid (HB.out.trans (hb.mono HB.out.size))
      clear hb
      have hcall := HM.out.rput k0 hRP
      obtain ⟨m0, m1, m2, m3, m4⟩ := HM.out.cells
      go_wp2_with fail
      refine hcall.mono ?_
      rintro e w3 ⟨rfl, hb⟩
      clear hcall m0 m1 m2 m3 m4
      replace HM := Lib.hid (HM.out.under hb)
      replace HB := Lib.hid (HB.out.trans (hb.mono HB.out.size))
      clear hb hP hRP
      have hcall := msg_Read.calls k0 s _ _ _ _ _ _ w3 hR
      go_wp2_with fail
      refine hcall.mono ?_
      rintro e w4 ⟨v2, v3, v4, rfl, hR2, hR3, hR4, hb⟩
      clear hcall
      obtain ⟨A2x, c2x, A3x, c3x, A4x, c4x, rfl, rfl, rfl, hX⟩ := MsgAt.made kx fx hR2 hR3 hR4
      clear hR2 hR3 hR4
      have hn : Below w4.heap.size w4 (w4.alloc (.cells #[.int .i64 kx, .string fx, .slice A2x l2x.length c2x, .slice A3x l3x.length c3x, .slice A4x l4x.length c4x] 66)) := (Below.refl _ _).alloc (Nat.le_refl _) _
      replace HM := Lib.hid ((HM.out.under hb).under hn)
      replace HB := Lib.hid ((HB.out.trans (hb.mono HB.out.size)).trans (hn.mono (by have := HB.out.size; have := hb.size; omega)))
      have HX := Lib.hid hX
      clear hb hX hn
      have hcall := footbridgeref37_Read.calls k0 s _ _ _ _ _ _ (w4.alloc (.cells #[.int .i64 kx, .string fx, .slice A2x l2x.length c2x, .slice A3x l3x.length c3x, .slice A4x l4x.length c4x] 66)) hRR
      obtain ⟨q, hq⟩ : ∃ q : Nat, q = w4.heap.size := ⟨_, rfl⟩
      go_wp2_with fail
      rw [← hq] at HX ⊢
      clear hq
      refine hcall.mono ?_
      rintro e w5 ⟨v2, v3, v4, rfl, hR2, hR3, hR4, hb⟩
      clear hcall
      obtain ⟨A2y, c2y, A3y, c3y, A4y, c4y, rfl, rfl, rfl, hY⟩ := MsgAt.made kx fx hR2 hR3 hR4
      clear hR2 hR3 hR4
      have hn : Below w5.heap.size w5 (w5.alloc (.cells #[.int .i64 kx, .string fx, .slice A2y l2x.length c2y, .slice A3y l3x.length c3y, .slice A4y l4x.length c4y] 66)) := (Below.refl _ _).alloc (Nat.le_refl _) _
      replace HM := Lib.hid ((HM.out.under hb).under hn)
      replace HX := Lib.hid ((HX.out.under hb).under hn)
      replace HB := Lib.hid ((HB.out.trans (hb.mono HB.out.size)).trans (hn.mono (by have := HB.out.size; have := hb.size; omega)))
      have HY := Lib.hid hY
      clear hb hY hn hR hRR
      go_upto_region 7 with fail
      obtain ⟨t, ht⟩ : ∃ t : Nat, t = w5.heap.size := ⟨_, rfl⟩
      rw [← ht] at HY ⊢
      clear ht
      obtain ⟨W5, hW5⟩ : ∃ W : World, W = w5.alloc (.cells #[.int .i64 kx, .string fx, .slice A2y l2x.length c2y, .slice A3y l3x.length c3y, .slice A4y l4x.length c4y] 66) := ⟨_, rfl⟩
      rw [← hW5] at HM HX HY HB ⊢
      clear hW5
      replace HM := Lib.hid (show MsgAt W5.drew p k f A2 c2 l2 A3 c3 l3 A4 c4 l4 from HM.out.under ((Below.refl _ _).drew))
      replace HX := Lib.hid (show MsgAt W5.drew q kx fx A2x c2x l2x A3x c3x l3x A4x c4x l4x from HX.out.under ((Below.refl _ _).drew))
      replace HY := Lib.hid (show MsgAt W5.drew t kx fx A2y c2y l2x A3y c3y l3x A4y c4y l4x from HY.out.under ((Below.refl _ _).drew))
      replace HB := Lib.hid (HB.out.drew)
      have hc1 : ∀ W, MsgAt W p k f A2 c2 l2 A3 c3 l3 A4 c4 l4 → _ := fun W h => MsgAt.check h hC
      have hc2 : ∀ W, MsgAt W p k f A2 c2 l2 A3 c3 l3 A4 c4 l4 → _ := fun W h => MsgAt.rcheck h k0 hRC
      have hc3 : ∀ W, MsgAt W q kx fx A2x c2x l2x A3x c3x l3x A4x c4x l4x → MsgAt W t kx fx A2y c2y l2x A3y c3y l3x A4y c4y l4x → _ := fun W h h' => MsgAt.same h h' k0 hS
      obtain ⟨m0, m1, m2, m3, m4⟩ := HM.out.cells
      obtain ⟨x0, x1, x2, x3, x4⟩ := HX.out.cells
      obtain ⟨y0, y1, y2, y3, y4⟩ := HY.out.cells
      go_region_held3 (fun w' => w'.cell? ⟨p, 0, none⟩ = some (.int .i64 k) ∧ w'.cell? ⟨p, 1, none⟩ = some (.string f) ∧ w'.cell? ⟨p, 2, none⟩ = some (.slice A2 l2.length c2) ∧ w'.cell? ⟨p, 3, none⟩ = some (.slice A3 l3.length c3) ∧ w'.cell? ⟨p, 4, none⟩ = some (.slice A4 l4.length c4) ∧ w'.cell? ⟨q, 0, none⟩ = some (.int .i64 kx) ∧ w'.cell? ⟨q, 1, none⟩ = some (.string fx) ∧ w'.cell? ⟨q, 2, none⟩ = some (.slice A2x l2x.length c2x) ∧ w'.cell? ⟨q, 3, none⟩ = some (.slice A3x l3x.length c3x) ∧ w'.cell? ⟨q, 4, none⟩ = some (.slice A4x l4x.length c4x) ∧ w'.cell? ⟨t, 0, none⟩ = some (.int .i64 kx) ∧ w'.cell? ⟨t, 1, none⟩ = some (.string fx) ∧ w'.cell? ⟨t, 2, none⟩ = some (.slice A2y l2x.length c2y) ∧ w'.cell? ⟨t, 3, none⟩ = some (.slice A3y l3x.length c3y) ∧ w'.cell? ⟨t, 4, none⟩ = some (.slice A4y l4x.length c4y))
        (first | exact ⟨m0, m1, m2, m3, m4, x0, x1, x2, x3, x4, y0, y1, y2, y3, y4⟩ | go_keep)
        (first
        | (go_at_call 47; (with_reducible refine (hc1 _ HM.out).mono ?_); rintro e wn ⟨rfl, hb⟩; replace HM := Lib.hid (HM.out.under hb); replace HX := Lib.hid (HX.out.under hb); replace HY := Lib.hid (HY.out.under hb); replace HB := Lib.hid (HB.out.trans (hb.mono HB.out.size)); clear hb m0 m1 m2 m3 m4 x0 x1 x2 x3 x4 y0 y1 y2 y3 y4; obtain ⟨m0, m1, m2, m3, m4⟩ := HM.out.cells; obtain ⟨x0, x1, x2, x3, x4⟩ := HX.out.cells; obtain ⟨y0, y1, y2, y3, y4⟩ := HY.out.cells)
        | (go_at_call 48; (with_reducible refine (hc2 _ HM.out).mono ?_); rintro e wn ⟨rfl, hb⟩; replace HM := Lib.hid (HM.out.under hb); replace HX := Lib.hid (HX.out.under hb); replace HY := Lib.hid (HY.out.under hb); replace HB := Lib.hid (HB.out.trans (hb.mono HB.out.size)); clear hb m0 m1 m2 m3 m4 x0 x1 x2 x3 x4 y0 y1 y2 y3 y4; obtain ⟨m0, m1, m2, m3, m4⟩ := HM.out.cells; obtain ⟨x0, x1, x2, x3, x4⟩ := HX.out.cells; obtain ⟨y0, y1, y2, y3, y4⟩ := HY.out.cells)
        | (go_at_call 49; (with_reducible refine (hc3 _ HX.out HY.out).mono ?_); rintro e wn ⟨rfl, hb⟩; replace HM := Lib.hid (HM.out.under hb); replace HX := Lib.hid (HX.out.under hb); replace HY := Lib.hid (HY.out.under hb); replace HB := Lib.hid (HB.out.trans (hb.mono HB.out.size)); clear hb m0 m1 m2 m3 m4 x0 x1 x2 x3 x4 y0 y1 y2 y3 y4; obtain ⟨m0, m1, m2, m3, m4⟩ := HM.out.cells; obtain ⟨x0, x1, x2, x3, x4⟩ := HX.out.cells; obtain ⟨y0, y1, y2, y3, y4⟩ := HY.out.cells)
        | (go_at_call 42; (with_reducible refine (Msg.awake37_any _).mono ?_); rintro e wn ⟨rfl, hb⟩; replace HM := Lib.hid (HM.out.under hb); replace HX := Lib.hid (HX.out.under hb); replace HY := Lib.hid (HY.out.under hb); replace HB := Lib.hid (HB.out.trans (hb.mono HB.out.size)); clear hb m0 m1 m2 m3 m4 x0 x1 x2 x3 x4 y0 y1 y2 y3 y4; obtain ⟨m0, m1, m2, m3, m4⟩ := HM.out.cells; obtain ⟨x0, x1, x2, x3, x4⟩ := HX.out.cells; obtain ⟨y0, y1, y2, y3, y4⟩ := HY.out.cells))
      all_goals go_wp2_with fail
      all_goals go_ret
      all_goals exact ⟨rfl, HB.out⟩
end Go.Proofs.Ytipgldfbjlhpoab.P
