/- math/bits.Len: its contract. -/
import Derived.Test.YtipgldfbjlhpoabZeHSha1
import Derived.Laws.MathBits
namespace Go.Proofs.Ytipgldfbjlhpoab.Merkle
set_option linter.unusedVariables false
set_option linter.unusedSimpArgs false
open Go.RowKit Go.Proofs.YtipgldfbjlhpoabW.PrintWords Go.Proofs.YtipgldfbjlhpoabW.PrintLast Go.Proofs.YtipgldfbjlhpoabW.PrintMore
set_option maxRecDepth 100000
theorem key (x y n : Nat) (hy : y < 256) (hn : n ≤ 100) (T : Nat) (hT : T = bitLen y) (hx : bitLen x = n + bitLen y) : wrap64 ((n : Int) + wrap64 (T : Int)) = (bitLen x : Int) := by
 have := bitLen_le8 y hy; unfold wrap64; omega
theorem key0 (y : Nat) (hy : y < 256) (T : Nat) (hT : T = bitLen y) : wrap64 (wrap64 (T : Int)) = (bitLen y : Int) := by
 have := bitLen_le8 y hy; unfold wrap64; omega
theorem len64_111 (x x1 x2 x3 : Nat) (c0 : (4294967296 : Int) ≤ (x : Int)) (e0 : (x : Int) / 4294967296 = (x1 : Int)) (c1 : (65536 : Int) ≤ (x1 : Int)) (e1 : (x1 : Int) / 65536 = (x2 : Int)) (c2 : (256 : Int) ≤ (x2 : Int)) (e2 : (x2 : Int) / 256 = (x3 : Int)) (hl : x3 < 256) (hx : bitLen x = 56 + bitLen x3) (w : World) : Calls Try.prog 185 #[.int .u64 (x : Int)] w fun e w' => e = .returned (.int .i64 (bitLen x : Int)) ∧ w = w' := by
 have HX := Lib.hid hx; clear hx
 go_enter Try.func185, Try.ntmps185
 go_upto_region 10 with fail
 go_wp2_with fail
 go_ret; refine ⟨congrArg Ending.returned (congrArg (Value.int .i64) ?_), rfl⟩; exact key x x3 56 hl (by omega) _ (len8tab_get x3 hl) HX.out
theorem len64_110 (x x1 x2 : Nat) (c0 : (4294967296 : Int) ≤ (x : Int)) (e0 : (x : Int) / 4294967296 = (x1 : Int)) (c1 : (65536 : Int) ≤ (x1 : Int)) (e1 : (x1 : Int) / 65536 = (x2 : Int)) (c2 : ¬ (256 : Int) ≤ (x2 : Int)) (hl : x2 < 256) (hx : bitLen x = 48 + bitLen x2) (w : World) : Calls Try.prog 185 #[.int .u64 (x : Int)] w fun e w' => e = .returned (.int .i64 (bitLen x : Int)) ∧ w = w' := by
 have HX := Lib.hid hx; clear hx
 go_enter Try.func185, Try.ntmps185
 go_upto_region 10 with fail
 go_wp2_with fail
 go_ret; refine ⟨congrArg Ending.returned (congrArg (Value.int .i64) ?_), rfl⟩; exact key x x2 48 hl (by omega) _ (len8tab_get x2 hl) HX.out
theorem len64_101 (x x1 x3 : Nat) (c0 : (4294967296 : Int) ≤ (x : Int)) (e0 : (x : Int) / 4294967296 = (x1 : Int)) (c1 : ¬ (65536 : Int) ≤ (x1 : Int)) (c2 : (256 : Int) ≤ (x1 : Int)) (e2 : (x1 : Int) / 256 = (x3 : Int)) (hl : x3 < 256) (hx : bitLen x = 40 + bitLen x3) (w : World) : Calls Try.prog 185 #[.int .u64 (x : Int)] w fun e w' => e = .returned (.int .i64 (bitLen x : Int)) ∧ w = w' := by
 have HX := Lib.hid hx; clear hx
 go_enter Try.func185, Try.ntmps185
 go_upto_region 9 with fail
 go_cut [0, 2] (fun s0 s2 wx => s0 = .int .u64 (x3 : Int) ∧ s2 = .int .i64 40 ∧ wx = w)
 case first =>
  go_wp2_with fail
  go_meet; exact ⟨rfl, rfl, rfl⟩
 case rest =>
  obtain ⟨rfl, rfl, rfl⟩ := hcut; clear c0 e0 c1 c2 e2
  go_wp2_with fail
  go_ret; refine ⟨congrArg Ending.returned (congrArg (Value.int .i64) ?_), rfl⟩; exact key x x3 40 hl (by omega) _ (len8tab_get x3 hl) HX.out
theorem len64_100 (x x1 : Nat) (c0 : (4294967296 : Int) ≤ (x : Int)) (e0 : (x : Int) / 4294967296 = (x1 : Int)) (c1 : ¬ (65536 : Int) ≤ (x1 : Int)) (c2 : ¬ (256 : Int) ≤ (x1 : Int)) (hl : x1 < 256) (hx : bitLen x = 32 + bitLen x1) (w : World) : Calls Try.prog 185 #[.int .u64 (x : Int)] w fun e w' => e = .returned (.int .i64 (bitLen x : Int)) ∧ w = w' := by
 have HX := Lib.hid hx; clear hx
 go_enter Try.func185, Try.ntmps185
 go_upto_region 10 with fail
 go_wp2_with fail
 go_ret; refine ⟨congrArg Ending.returned (congrArg (Value.int .i64) ?_), rfl⟩; exact key x x1 32 hl (by omega) _ (len8tab_get x1 hl) HX.out
theorem len64_011 (x x2 x3 : Nat) (c0 : ¬ (4294967296 : Int) ≤ (x : Int)) (c1 : (65536 : Int) ≤ (x : Int)) (e1 : (x : Int) / 65536 = (x2 : Int)) (c2 : (256 : Int) ≤ (x2 : Int)) (e2 : (x2 : Int) / 256 = (x3 : Int)) (hl : x3 < 256) (hx : bitLen x = 24 + bitLen x3) (w : World) : Calls Try.prog 185 #[.int .u64 (x : Int)] w fun e w' => e = .returned (.int .i64 (bitLen x : Int)) ∧ w = w' := by
 have HX := Lib.hid hx; clear hx
 go_enter Try.func185, Try.ntmps185
 go_upto_region 9 with fail
 go_cut [0, 2] (fun s0 s2 wx => s0 = .int .u64 (x3 : Int) ∧ s2 = .int .i64 24 ∧ wx = w)
 case first =>
  go_wp2_with fail
  go_meet; exact ⟨rfl, rfl, rfl⟩
 case rest =>
  obtain ⟨rfl, rfl, rfl⟩ := hcut; clear c0 c1 e1 c2 e2
  go_wp2_with fail
  go_ret; refine ⟨congrArg Ending.returned (congrArg (Value.int .i64) ?_), rfl⟩; exact key x x3 24 hl (by omega) _ (len8tab_get x3 hl) HX.out
theorem len64_010 (x x2 : Nat) (c0 : ¬ (4294967296 : Int) ≤ (x : Int)) (c1 : (65536 : Int) ≤ (x : Int)) (e1 : (x : Int) / 65536 = (x2 : Int)) (c2 : ¬ (256 : Int) ≤ (x2 : Int)) (hl : x2 < 256) (hx : bitLen x = 16 + bitLen x2) (w : World) : Calls Try.prog 185 #[.int .u64 (x : Int)] w fun e w' => e = .returned (.int .i64 (bitLen x : Int)) ∧ w = w' := by
 have HX := Lib.hid hx; clear hx
 go_enter Try.func185, Try.ntmps185
 go_upto_region 10 with fail
 go_wp2_with fail
 go_ret; refine ⟨congrArg Ending.returned (congrArg (Value.int .i64) ?_), rfl⟩; exact key x x2 16 hl (by omega) _ (len8tab_get x2 hl) HX.out
theorem len64_001 (x x3 : Nat) (c0 : ¬ (4294967296 : Int) ≤ (x : Int)) (c1 : ¬ (65536 : Int) ≤ (x : Int)) (c2 : (256 : Int) ≤ (x : Int)) (e2 : (x : Int) / 256 = (x3 : Int)) (hl : x3 < 256) (hx : bitLen x = 8 + bitLen x3) (w : World) : Calls Try.prog 185 #[.int .u64 (x : Int)] w fun e w' => e = .returned (.int .i64 (bitLen x : Int)) ∧ w = w' := by
 have HX := Lib.hid hx; clear hx
 go_enter Try.func185, Try.ntmps185
 go_upto_region 9 with fail
 go_cut [0, 2] (fun s0 s2 wx => s0 = .int .u64 (x3 : Int) ∧ s2 = .int .i64 8 ∧ wx = w)
 case first =>
  go_wp2_with fail
  go_meet; exact ⟨rfl, rfl, rfl⟩
 case rest =>
  obtain ⟨rfl, rfl, rfl⟩ := hcut; clear c0 c1 c2 e2
  go_wp2_with fail
  go_ret; refine ⟨congrArg Ending.returned (congrArg (Value.int .i64) ?_), rfl⟩; exact key x x3 8 hl (by omega) _ (len8tab_get x3 hl) HX.out
theorem len64_000 (x : Nat) (c0 : ¬ (4294967296 : Int) ≤ (x : Int)) (c1 : ¬ (65536 : Int) ≤ (x : Int)) (c2 : ¬ (256 : Int) ≤ (x : Int)) (hl : x < 256) (hx : bitLen x = 0 + bitLen x) (w : World) : Calls Try.prog 185 #[.int .u64 (x : Int)] w fun e w' => e = .returned (.int .i64 (bitLen x : Int)) ∧ w = w' := by
 have HX := Lib.hid hx; clear hx
 go_enter Try.func185, Try.ntmps185
 go_upto_region 10 with fail
 go_wp2_with fail
 go_ret; refine ⟨congrArg Ending.returned (congrArg (Value.int .i64) ?_), rfl⟩; exact key0 x hl _ (len8tab_get x hl)
theorem len64_any (x : Nat) (h : x < 18446744073709551616) (w : World) : Calls Try.prog 185 #[.int .u64 (x : Int)] w fun e w' => e = .returned (.int .i64 (bitLen x : Int)) ∧ w = w' := by
 by_cases g0 : 4294967296 ≤ x
 · obtain ⟨x1, hx1⟩ : ∃ y, y = x / 4294967296 := ⟨_, rfl⟩
   have l0 : bitLen x = 32 + bitLen x1 := by rw [hx1]; exact bitLen_shift x 32 (by change x / 4294967296 ≠ 0; omega)
   by_cases g1 : 65536 ≤ x1
   · obtain ⟨x2, hx2⟩ : ∃ y, y = x1 / 65536 := ⟨_, rfl⟩
     have l1 : bitLen x1 = 16 + bitLen x2 := by rw [hx2]; exact bitLen_shift x1 16 (by change x1 / 65536 ≠ 0; omega)
     by_cases g2 : 256 ≤ x2
     · obtain ⟨x3, hx3⟩ : ∃ y, y = x2 / 256 := ⟨_, rfl⟩
       have l2 : bitLen x2 = 8 + bitLen x3 := by rw [hx3]; exact bitLen_shift x2 8 (by change x2 / 256 ≠ 0; omega)
       exact len64_111 x x1 x2 x3 (by omega) (by omega) (by omega) (by omega) (by omega) (by omega) (by omega) (by omega) w
     ·
      exact len64_110 x x1 x2 (by omega) (by omega) (by omega) (by omega) (by omega) (by omega) (by omega) w
   ·
    by_cases g2 : 256 ≤ x1
    · obtain ⟨x3, hx3⟩ : ∃ y, y = x1 / 256 := ⟨_, rfl⟩
      have l2 : bitLen x1 = 8 + bitLen x3 := by rw [hx3]; exact bitLen_shift x1 8 (by change x1 / 256 ≠ 0; omega)
      exact len64_101 x x1 x3 (by omega) (by omega) (by omega) (by omega) (by omega) (by omega) (by omega) w
    ·
     exact len64_100 x x1 (by omega) (by omega) (by omega) (by omega) (by omega) (by omega) w
 ·
  by_cases g1 : 65536 ≤ x
  · obtain ⟨x2, hx2⟩ : ∃ y, y = x / 65536 := ⟨_, rfl⟩
    have l1 : bitLen x = 16 + bitLen x2 := by rw [hx2]; exact bitLen_shift x 16 (by change x / 65536 ≠ 0; omega)
    by_cases g2 : 256 ≤ x2
    · obtain ⟨x3, hx3⟩ : ∃ y, y = x2 / 256 := ⟨_, rfl⟩
      have l2 : bitLen x2 = 8 + bitLen x3 := by rw [hx3]; exact bitLen_shift x2 8 (by change x2 / 256 ≠ 0; omega)
      exact len64_011 x x2 x3 (by omega) (by omega) (by omega) (by omega) (by omega) (by omega) (by omega) w
    ·
     exact len64_010 x x2 (by omega) (by omega) (by omega) (by omega) (by omega) (by omega) w
  ·
   by_cases g2 : 256 ≤ x
   · obtain ⟨x3, hx3⟩ : ∃ y, y = x / 256 := ⟨_, rfl⟩
     have l2 : bitLen x = 8 + bitLen x3 := by rw [hx3]; exact bitLen_shift x 8 (by change x / 256 ≠ 0; omega)
     exact len64_001 x x3 (by omega) (by omega) (by omega) (by omega) (by omega) (by omega) w
   ·
    exact len64_000 x (by omega) (by omega) (by omega) (by omega) (by omega) w
theorem len_any (x : Nat) (h : x < 18446744073709551616) (w : World) : Calls Try.prog 178 #[.int .u64 (x : Int)] w fun e w' => e = .returned (.int .i64 (bitLen x : Int)) ∧ w = w' := by
 go_enter Try.func178, Try.ntmps178
 go_wp2_with (go_at_call 185; refine (len64_any x h _).mono ?_; rintro e w' ⟨rfl, rfl⟩)
 go_ret; exact ⟨rfl, rfl⟩
end Go.Proofs.Ytipgldfbjlhpoab.Merkle
namespace Go.Proofs.Ytipgldfbjlhpoab.P
open Go.RowKit Go.Proofs.YtipgldfbjlhpoabW.PrintWords
def bits_Len.f (a0 : Int) : Option Int := if 0 ≤ a0 then if a0 < 18446744073709551616 then some (bitLen a0.toNat : Int) else none else none
theorem bits_Len.calls (a0 : Int) (r : Int) (w : World) (h : bits_Len.f a0 = some r) :
  Calls Try.prog 178 #[.int .u64 a0] w fun e w' => e = .returned (.int .i64 r) ∧ Drawn0 w w' := by
 unfold bits_Len.f at h
 split at h
 · split at h
   · obtain rfl := Option.some.inj h; have := Merkle.len_any a0.toNat (by omega) w; rw [show ((a0.toNat : Nat) : Int) = a0 by omega] at this; refine this.mono ?_; rintro e w' ⟨rfl, rfl⟩; exact ⟨rfl, Drawn0.refl _⟩
   · cases h
 · cases h
end Go.Proofs.Ytipgldfbjlhpoab.P
