/- WireBack's walk: two readers at once. -/
import Derived.Test.YtipgldfbjlhpoaaHL01
namespace Go.Proofs.Ytipgldfbjlhpoaa.Wire
set_option linter.unusedVariables false
set_option linter.unusedSimpArgs false
open Go.RowKit Go.Proofs.YtipgldfbjlhpoaaW.PrintWords Go.Proofs.YtipgldfbjlhpoaaW.PrintLast Go.Proofs.YtipgldfbjlhpoaaW.PrintMore Go.Proofs.Ytipgldfbjlhpoaa.P
set_option maxRecDepth 100000

theorem back_far (n : Int) (s : ByteArray) (A : Option Addr) (c : Nat) (l : List ByteArray) (w : World) (h : 60 < l.length ∨ 1000 < s.size) (hl : l.length ≤ 9223372036854775807) :
    Calls Try.prog 11 #[.int .u32 n, .slice A l.length c, .string s] w fun e w' => e = .returned (.bool true) ∧ Below w.heap.size w w' := by
  by_cases h1 : 60 < l.length
  · have h1i : (60 : Int) < (l.length : Int) := by omega
    go_enter Try.func11, Try.ntmps11
    go_wp2_with (go_at_call 27; refine (awake01_any _).mono ?_; rintro e w' ⟨rfl, hb⟩)
    go_ret
    exact ⟨rfl, hb⟩
  · have h1i : ¬ (60 : Int) < (l.length : Int) := by omega
    have h2i : (1000 : Int) < (s.size : Int) := by omega
    go_enter Try.func11, Try.ntmps11
    go_wp2_with (go_at_call 27; refine (awake01_any _).mono ?_; rintro e w' ⟨rfl, hb⟩)
    go_ret
    exact ⟨rfl, hb⟩
theorem back_bad (K : Nat) (n : Nat) (hn : n ≤ 4294967295) (s : ByteArray) (A : Option Addr) (c : Nat) (l : List ByteArray) (e : Int) (he : e ≠ 0) (w : World) (hC : Kd.C Kd.string w A l.length l) (hc : l.length ≤ c) (h1 : ¬ 60 < l.length) (h2 : ¬ 1000 < s.size)
    (a : ByteArray) (hN : wire_Num.f (n : Int) = some (a, 0)) (hJ : wire_Join.f K l = some (⟨#[]⟩, e)) :
    Calls Try.prog 11 #[.int .u32 (n : Int), .slice A l.length c, .string s] w fun e w' => e = .returned (.bool true) ∧ Below w.heap.size w w' := by
  have h1i : ¬ (60 : Int) < (l.length : Int) := by omega
  have h2i : ¬ (1000 : Int) < (s.size : Int) := by omega
  have hw : IntKind.i64.wrap (n : Int) = (n : Int) := by rw [IntKind.wrap_i64]; omega
  have hB := Below.refl w.heap.size w
  go_enter Try.func11, Try.ntmps11
  go_wp2_with fail
  refine (wire_Num.calls (n : Int) _ _ _ hN).mono ?_
  rintro e w1 ⟨rfl, hb⟩
  have hB := hB.trans (hb.mono hB.size)
  clear hb
  go_wp2_with fail
  refine (wire_Join.calls K A c l _ _ _ (Kd.C_below hC hB) hc hJ).mono ?_
  rintro e w2 ⟨rfl, hb⟩
  have hB := hB.trans (hb.mono hB.size)
  clear hb
  go_wp2_with fail
  refine (awake01_any _).mono ?_
  rintro e w3 ⟨rfl, hb⟩
  have hB := hB.trans (hb.mono hB.size)
  go_wp2_with fail
  go_ret
  exact ⟨rfl, hB⟩
set_option maxHeartbeats 1000000 in
theorem back_good (K : Nat) (n : Nat) (hn : n ≤ 4294967295) (s : ByteArray) (A : Option Addr) (c : Nat) (l : List ByteArray) (w : World) (hC : Kd.C Kd.string w A l.length l) (hc : l.length ≤ c) (h1 : ¬ 60 < l.length) (h2 : ¬ 1000 < s.size)
    (a b : ByteArray) (hN : wire_Num.f (n : Int) = some (a, 0)) (hJ : wire_Join.f K l = some (b, 0)) (hcat : a.size + b.size ≤ 9223372036854775807)
    (hrN : wire_Reader_Num.f (a ++ b) 0 = some ((n : Int), b, 0)) (hrL : wire_Reader_List.f K b 0 = some (l, ⟨#[]⟩, 0)) (hT : footbridgeref01_Texts.f K l l = some true)
    (x : List ByteArray) (s' : ByteArray) (e' : Int) (hqL : wire_Reader_List.f K s 0 = some (x, s', e')) (y : ByteArray) (ey : Int) (hY : wire_Join.f K x = some (y, ey)) (dv : Int) (hD : wire_Reader_Done.f s' e' = some (dv, s', e'))
    (hend : dv = 0 → y = s) :
    Calls Try.prog 11 #[.int .u32 (n : Int), .slice A l.length c, .string s] w fun e w' => e = .returned (.bool true) ∧ Below w.heap.size w w' := by
  have h1i : ¬ (60 : Int) < (l.length : Int) := by omega
  have h2i : ¬ (1000 : Int) < (s.size : Int) := by omega
  have hw : IntKind.i64.wrap (n : Int) = (n : Int) := by rw [IntKind.wrap_i64]; omega
  have hB := Below.refl w.heap.size w
  have hd0 : wire_Reader_Done.f ⟨#[]⟩ 0 = some (0, ⟨#[]⟩, 0) := by decide +kernel
  go_enter Try.func11, Try.ntmps11
  go_wp2_with fail
  refine (wire_Num.calls (n : Int) _ _ _ hN).mono ?_
  rintro e w1 ⟨rfl, hb⟩
  have hB := hB.trans (hb.mono hB.size)
  clear hb
  go_wp2_with fail
  refine (wire_Join.calls K A c l _ _ _ (Kd.C_below hC hB) hc hJ).mono ?_
  rintro e w2 ⟨rfl, hb⟩
  have hB := hB.trans (hb.mono hB.size)
  clear hb
  go_wp2_with fail
  refine (wire_New.calls (a ++ b) _ _ w _ hB rfl).mono ?_
  rintro e w3 ⟨g, rfl, hI, hB3, -⟩
  clear hB
  go_wp2_with fail
  refine (wire_New.calls s _ _ w3 _ (Below.refl _ _) rfl).mono ?_
  rintro e w4 ⟨q, rfl, hQ0, hb4, -⟩
  have hqg : q ≠ g := by
    have z1 := hI.lt
    have z2 := hQ0.ge
    omega
  have hQ : P.IsS91 w w4 q s 0 := ⟨hQ0.1, Nat.le_trans hB3.size hQ0.ge⟩
  have hI4 := hI.below hb4
  have hB4 := hB3.trans (hb4.mono hB3.size)
  clear hI hB3 hb4 hQ0
  go_wp2_with fail
  refine (wire_Reader_Num.calls g (a ++ b) 0 _ _ _ w _ hI4 hB4 hrN).mono ?_
  rintro e w5 ⟨rfl, hI5, hB5, hk5⟩
  have hQ5 : P.IsS91 w w5 q s 0 := ⟨(hk5.2 q hQ.lt hqg (by simp)).trans hQ.1, hQ.2⟩
  clear hI4 hB4 hk5 hQ
  go_wp2_with fail
  refine (wire_Reader_List.calls K g b 0 _ _ _ w _ hI5 hB5 hrL).mono ?_
  rintro e w6 ⟨v, rfl, hR6, hI6, hB6, hk6⟩
  have hQ6 : P.IsS91 w w6 q s 0 := ⟨(hk6.2 q hQ5.lt hqg (by simp)).trans hQ5.1, hQ5.2⟩
  clear hI5 hB5 hk6 hQ5
  obtain ⟨A6, c6, rfl⟩ := Kd.R_slice hR6
  go_wp2_with fail
  refine (footbridgeref01_Texts.calls K A6 c6 l A c l true _ (Kd.R_reads' hR6).2.2 (Kd.R_reads' hR6).2.1 (Kd.C_below hC hB6) hc hT).mono ?_
  rintro e w7 ⟨rfl, nd, rfl⟩
  have hI7 := hI6.drewN nd
  have hQ7 := hQ6.drewN nd
  have hB7 := pw_below_drewN hB6 nd
  clear hI6 hQ6 hB6 hR6
  go_wp2_with fail
  refine (wire_Reader_Done.calls g ⟨#[]⟩ 0 _ _ _ w _ hI7 hB7 hd0).mono ?_
  rintro e w8 ⟨rfl, hI8, hB8, hk8⟩
  have hQ8 : P.IsS91 w w8 q s 0 := ⟨(hk8.2 q hQ7.lt hqg (by simp)).trans hQ7.1, hQ7.2⟩
  clear hI7 hB7 hk8 hQ7 hI8
  go_wp2_with fail
  refine (wire_Reader_List.calls K q s 0 _ _ _ w _ hQ8 hB8 hqL).mono ?_
  rintro e w9 ⟨v, rfl, hR9, hQ9, hB9, -⟩
  clear hQ8 hB8
  obtain ⟨A9, c9, rfl⟩ := Kd.R_slice hR9
  go_wp2_with fail
  refine (wire_Join.calls K A9 c9 x _ _ _ (Kd.R_reads' hR9).2.2 (Kd.R_reads' hR9).2.1 hY).mono ?_
  rintro e w10 ⟨rfl, hb⟩
  have hQ10 := hQ9.below hb
  have hB10 := hB9.trans (hb.mono hB9.size)
  clear hb hR9 hQ9 hB9
  go_wp2_with fail
  refine (wire_Reader_Done.calls q s' e' _ _ _ w _ hQ10 hB10 hD).mono ?_
  rintro e w11 ⟨rfl, hQ11, hB11, -⟩
  clear hQ10 hB10
  by_cases hdv : dv = 0
  · have hys := hend hdv
    subst hys
    subst hdv
    go_wp2_with fail
    refine (awake01_any _).mono ?_
    rintro e w12 ⟨rfl, hb⟩
    have hB12 := hB11.trans (hb.mono hB11.size)
    go_wp2_with fail
    go_ret
    exact ⟨rfl, hB12⟩
  · go_wp2_with fail
    refine (awake01_any _).mono ?_
    rintro e w12 ⟨rfl, hb⟩
    have hB12 := hB11.trans (hb.mono hB11.size)
    go_wp2_with fail
    go_ret
    exact ⟨rfl, hB12⟩
end Go.Proofs.Ytipgldfbjlhpoaa.Wire
