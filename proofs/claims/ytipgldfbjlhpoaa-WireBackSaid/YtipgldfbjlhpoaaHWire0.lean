/- The number at the head of bytes, as wire.number reads it: its contract. -/
import Derived.Test.YtipgldfbjlhpoaaHSha1
import Derived.WalkMore
import Derived.ScopeJumps
import Derived.Laws.Strings
namespace Go.Proofs.Ytipgldfbjlhpoaa.Wire
set_option linter.unusedVariables false
set_option linter.unusedSimpArgs false
open Go.RowKit Go.Proofs.YtipgldfbjlhpoaaW.PrintWords Go.Proofs.YtipgldfbjlhpoaaW.PrintLast Go.Proofs.YtipgldfbjlhpoaaW.PrintMore
set_option maxRecDepth 100000

def byteN (s : ByteArray) (i : Nat) : Nat := if h : i < s.size then (s[i]'h).toNat else 0
theorem byteN_at (s : ByteArray) (i : Nat) (h : i < s.size) : (s[i]'h).toNat = byteN s i := by simp [byteN, h]
theorem byteN_lt (s : ByteArray) (i : Nat) : byteN s i < 256 := by
  unfold byteN
  split
  · exact UInt8.toNat_lt _
  · omega
/-- The number that the bytes 1 to j make. -/
def numTo (s : ByteArray) : Nat → Nat
  | 0 => 0
  | j + 1 => numTo s j * 256 + byteN s (j + 1)
theorem numTo_lt (s : ByteArray) : ∀ j, numTo s j < 256 ^ j
  | 0 => by simp [numTo]
  | j + 1 => by
    have h1 := numTo_lt s j
    have h2 := byteN_lt s (j + 1)
    rw [numTo, Nat.pow_succ]
    omega
theorem or_shift (n b : Nat) (hn : n < 2 ^ 50) (hb : b < 256) : bits .or .i64 ((n * 256 : Nat) : Int) (b : Int) = ((n * 256 + b : Nat) : Int) := by
  have e : ∀ z : Nat, z < 2 ^ 63 → BitVec.ofInt IntKind.i64.bits (z : Int) = BitVec.ofNat 64 z := by
    intro z _; apply BitVec.eq_of_toNat_eq; simp [IntKind.bits]
  have h1 : n * 256 + b = n * 256 ||| b := by
    have := Nat.shiftLeft_add_eq_or_of_lt (show b < 2 ^ 8 by omega) n
    rwa [Nat.shiftLeft_eq] at this
  unfold bits
  rw [e _ (by omega), e _ (by omega)]
  show IntKind.i64.wrap (((BitVec.ofNat 64 (n * 256) ||| BitVec.ofNat 64 b).toNat : Nat) : Int) = _
  rw [BitVec.toNat_or, BitVec.toNat_ofNat, BitVec.toNat_ofNat, Nat.mod_eq_of_lt (by omega), Nat.mod_eq_of_lt (by omega), ← h1, IntKind.wrap_i64]
  omega
def numberS (s : ByteArray) : Int × Int × Int :=
  if s.size = 0 then (0, 0, 5)
  else if 7 < byteN s 0 then (0, 0, 6)
  else if 0 < byteN s 0 ∧ 1 < s.size ∧ byteN s 1 = 0 then (0, 0, 6)
  else if s.size ≤ byteN s 0 then (0, 0, 5)
  else if 9007199254740992 < numTo s (byteN s 0) then (0, 0, 3)
  else ((numTo s (byteN s 0) : Int), (byteN s 0 : Int) + 1, 0)
set_option maxHeartbeats 1000000 in
theorem number_any (s : ByteArray) (w : World) :
    Calls Try.prog 70 #[.string s] w fun e w' => e = .returned (.tuple #[.int .i64 (numberS s).1, .int .i64 (numberS s).2.1, .int .i64 (numberS s).2.2]) ∧ w' = w := by
  obtain ⟨r, hr⟩ : ∃ r, r = numberS s := ⟨_, rfl⟩
  rw [← hr]
  by_cases h0 : s.size = 0
  · have hne : s.toList.isEmpty = true := by
      rw [ByteArray.toList_eq, List.isEmpty_iff]
      exact List.eq_nil_of_length_eq_zero (by rw [Array.length_toList]; exact h0)
    have hr' : r = (0, 0, 5) := by rw [hr, numberS, if_pos h0]
    subst hr'
    go_enter Try.func70, Try.ntmps70
    go_wp2
    go_step3
    go_wp2
    rw [Exit.noGoto_ret]
    go_ret3
    exact ⟨rfl, rfl⟩
  · have hne : s.toList.isEmpty = false := by
      rw [ByteArray.toList_eq, List.isEmpty_eq_false_iff]
      intro e
      have : s.data.toList.length = 0 := by rw [e]; rfl
      rw [Array.length_toList] at this
      exact h0 this
    have hp0 : 0 < s.size := by omega
    have hp0i : (0 : Int) < (s.size : Int) := by omega
    obtain ⟨k, hk⟩ : ∃ k, k = byteN s 0 := ⟨_, rfl⟩
    have e0 : (s[0]'hp0).toNat = k := by rw [hk]; exact byteN_at s 0 hp0
    have hk256 : k < 256 := by rw [hk]; exact byteN_lt s 0
    by_cases h7 : 7 < k
    · have h7i : (7 : Int) < (k : Int) := by omega
      have hr' : r = (0, 0, 6) := by rw [hr, numberS, if_neg h0, ← hk, if_pos h7]
      subst hr'
      clear hr hk
      go_enter Try.func70, Try.ntmps70
      go_wp2
      go_step3
      go_wp2
      rw [Exit.noGoto_ret]
      go_ret3
      exact ⟨rfl, rfl⟩
    · have h7i : ¬ (7 : Int) < (k : Int) := by omega
      by_cases hkz : k = 0
      · have hr' : r = (0, 1, 0) := by
          rw [hr, numberS, if_neg h0, ← hk, if_neg h7, if_neg (by omega), if_neg (by omega), hkz]
          rfl
        subst hr'
        clear hr hk
        subst hkz
        go_enter Try.func70, Try.ntmps70
        go_wp2
        go_step3
        go_wp2
        go_step3
        go_wp2
        rw [Exit.noGoto_ret]
        go_ret3
        exact ⟨rfl, rfl⟩
      · have hkzi : (0 : Int) < (k : Int) := by omega
        by_cases h1 : 1 < s.size
        · have h1i : (1 : Int) < (s.size : Int) := by omega
          obtain ⟨b1, hb1⟩ : ∃ b1, b1 = byteN s 1 := ⟨_, rfl⟩
          have e1 : (s[1]'h1).toNat = b1 := by rw [hb1]; exact byteN_at s 1 h1
          by_cases hz : b1 = 0
          · have hr' : r = (0, 0, 6) := by
              rw [hr, numberS, if_neg h0, ← hk, if_neg h7, if_pos ⟨by omega, h1, by omega⟩]
            subst hr'
            clear hr hk hb1
            subst hz
            go_enter Try.func70, Try.ntmps70
            go_wp2
            go_step3
            go_wp2
            rw [Exit.noGoto_ret]
            go_ret3
            exact ⟨rfl, rfl⟩
          · have hzi : ¬ (b1 : Int) = 0 := by omega
            by_cases hc : s.size ≤ k
            · have hci : (s.size : Int) ≤ (k : Int) := by omega
              have hr' : r = (0, 0, 5) := by
                rw [hr, numberS, if_neg h0, ← hk, if_neg h7, if_neg (by omega), if_pos hc]
              subst hr'
              clear hr hk hb1
              go_enter Try.func70, Try.ntmps70
              go_wp2
              go_step3
              go_wp2
              rw [Exit.noGoto_ret]
              go_ret3
              exact ⟨rfl, rfl⟩
            · have hci : ¬ (s.size : Int) ≤ (k : Int) := by omega
              have HR := Lib.hid (And.intro hr hk)
              have H1 := Lib.hid hb1
              clear hr hk hb1
              go_enter Try.func70, Try.ntmps70
              go_wp2
              refine wp_scope_jumps 0 (fun a' w' => w' = w ∧ ∃ (j : Nat) (x6 : Int) (u8 u9 u10 u11 u12 u13 u14 u15 u16 u17 u18 u19 u20 u21 u22 u23 u24 u25 u26 u27 u28 u29 u30 u31 u32 u33 u34 u35 u36 u37 u38 u39 u40 u41 u42 u43 u44 u45 u46 u47 u48 : Value), a' = { tmps := #[.string s, undef, .int .i64 0, .int .i64 0, .int .i64 0, .int .i64 (k : Int), .int .i64 x6, .int .i64 (j : Int), u8, u9, u10, u11, u12, u13, u14, u15, u16, u17, u18, u19, u20, u21, u22, u23, u24, u25, u26, u27, u28, u29, u30, u31, u32, u33, u34, u35, u36, u37, u38, u39, u40, u41, u42, u43, u44, u45, u46, u47, u48], defers := [] } ∧ 1 ≤ j ∧ j ≤ k + 1 ∧ x6 = (numTo s (j - 1) : Int)) (fun a' _ => 9 - (intOf (a'.tmps.getD 7 undef)).toNat) rfl ?_ ?_
              · go_wp2
                go_step3
                go_wp2
                go_step3
                refine ⟨rfl, rfl, 2, _, _, _, _, _, _, _, _, _, _, _, _, _, _, _, _, _, _, _, _, _, _, _, _, _, _, _, _, _, _, _, _, _, _, _, _, _, _, _, _, _, _, rfl, by omega, by omega, ?_⟩
                have h256 : b1 < 256 := by rw [H1.out]; exact byteN_lt s 1
                have h := or_shift 0 b1 (by omega) h256
                have hw : wrap64 (b1 : Int) = (b1 : Int) := by unfold wrap64; omega
                rw [hw]
                refine h.trans ?_
                rw [H1.out]
                simp [numTo]
              · rintro a' w' ⟨rfl, j, x6, u8, u9, u10, u11, u12, u13, u14, u15, u16, u17, u18, u19, u20, u21, u22, u23, u24, u25, u26, u27, u28, u29, u30, u31, u32, u33, u34, u35, u36, u37, u38, u39, u40, u41, u42, u43, u44, u45, u46, u47, u48, rfl, hj1, hj, hx⟩
                by_cases hlt : j ≤ k
                · have hji : (j : Int) ≤ (k : Int) := by omega
                  have hjs : j < s.size := by omega
                  have hjsi : (j : Int) < (s.size : Int) := by omega
                  obtain ⟨b, hb⟩ : ∃ b, b = byteN s j := ⟨_, rfl⟩
                  have ej : (s[j]'hjs).toNat = b := by rw [hb]; exact byteN_at s j hjs
                  go_wp2
                  go_step3
                  have h256 : byteN s j < 256 := byteN_lt s j
                  have hn := numTo_lt s (j - 1)
                  have hp : 256 ^ (j - 1) ≤ 256 ^ 6 := Nat.pow_le_pow_right (by omega) (by omega)
                  have h := or_shift (numTo s (j - 1)) (byteN s j) (by omega) h256
                  have hw : wrap64 (byteN s j : Int) = (byteN s j : Int) := by unfold wrap64; omega
                  have hw2 : wrap64 ((numTo s (j - 1) : Int) * 256) = ((numTo s (j - 1) * 256 : Nat) : Int) := by unfold wrap64; omega
                  refine ⟨rfl, ⟨rfl, j + 1, _, _, _, _, _, _, _, _, _, _, _, _, _, _, _, _, _, _, _, _, _, _, _, _, _, _, _, _, _, _, _, _, _, _, _, _, _, _, _, _, _, _, rfl, by omega, by omega, ?_⟩, ?_⟩
                  · rw [hw, hw2, h, show numTo s (j + 1 - 1) = numTo s (j - 1) * 256 + byteN s j by rw [show j + 1 - 1 = (j - 1) + 1 by omega, numTo, show j - 1 + 1 = j by omega]]
                  · simp [intOf]
                    omega
                · have hji : ¬ (j : Int) ≤ (k : Int) := by omega
                  have hjk : j = k + 1 := by omega
                  subst hjk
                  rw [show k + 1 - 1 = k by omega] at hx
                  by_cases hbig : 9007199254740992 < numTo s k
                  · have hbi : (9007199254740992 : Int) < x6 := by rw [hx]; omega
                    have hr' : r = (0, 0, 3) := by
                      rw [HR.out.1, numberS, if_neg h0, ← HR.out.2, if_neg h7, if_neg (by rw [← H1.out]; omega), if_neg hc, if_pos hbig]
                    subst hr'
                    clear hx
                    go_wp2
                    simp only [Exit.jump]
                    go_ret3
                    exact ⟨rfl, rfl⟩
                  · have hbi : ¬ (9007199254740992 : Int) < x6 := by rw [hx]; omega
                    have hr' : r = (x6, ((k + 1 : Nat) : Int), 0) := by
                      rw [HR.out.1, numberS, if_neg h0, ← HR.out.2, if_neg h7, if_neg (by rw [← H1.out]; omega), if_neg hc, if_neg hbig, hx]
                      rfl
                    subst hr'
                    clear hx
                    go_wp2
                    simp only [Exit.jump]
                    go_ret3
                    exact ⟨rfl, rfl⟩
        · have h1i : ¬ (1 : Int) < (s.size : Int) := by omega
          have hci : (s.size : Int) ≤ (k : Int) := by omega
          have hr' : r = (0, 0, 5) := by
            rw [hr, numberS, if_neg h0, ← hk, if_neg h7, if_neg (by omega), if_pos (by omega)]
          subst hr'
          clear hr hk
          go_enter Try.func70, Try.ntmps70
          go_wp2
          go_step3
          go_wp2
          go_ret3
          exact ⟨rfl, rfl⟩
end Go.Proofs.Ytipgldfbjlhpoaa.Wire
