/- slices.BinarySearchFunc over pairs by key, as proof.Build calls it: its contract. -/
import Derived.Test.YtipgldfbjlhpoabZcHCmp
import Derived.Deep.RegionHeld3
import Derived.WalkLawsBesides
import Derived.Outline
import Derived.Lib.Hide
import Derived.Deep.LoopGhost
import Derived.Deep.CutRange
import Derived.Deep.DeepCutAuto
namespace Go.Proofs.Ytipgldfbjlhpoab.P
set_option linter.unusedVariables false
set_option linter.unusedSimpArgs false
open Go.RowKit Go.Proofs.YtipgldfbjlhpoabW.PrintWords Go.Proofs.YtipgldfbjlhpoabW.PrintLast Go.Proofs.YtipgldfbjlhpoabW.PrintMore
set_option maxRecDepth 100000
structure MB (w W : World) (A : Option Addr) (l : List S86) : Prop where
 hC : Kd.C k86 W A l.length l
 below : Below w.heap.size w W
theorem MB.under {w W W' : World} {A : Option Addr} {l : List S86} (h : MB w W A l) (hb : Below W.heap.size W W') : MB w W' A l :=
 ⟨Kd.C_below h.hC hb, h.below.trans (hb.mono h.below.size)⟩
def cmpK (a b : ByteArray) : Int := Lib.compareBytes a.data.toList b.data.toList
theorem cmpK_neg (a b : ByteArray) : cmpK a b < 0 ↔ Op.bytesLess a.toList b.toList = true := by
 rw [cmpK, Pure.cmp_neg, ByteArray.toList_eq, ByteArray.toList_eq]
theorem cmpK_zero (a b : ByteArray) : cmpK a b = 0 ↔ a.toList = b.toList := by
 rw [cmpK, Pure.cmp_zero, ByteArray.toList_eq, ByteArray.toList_eq]
set_option maxHeartbeats 4000000 in
theorem binCmp_any (x : S86) (key : ByteArray) (w : World) :
  Calls Try.prog 121 #[.agg #[.string x.f0, .string x.f1], .string key] w fun e w' => e = .returned (.int .i64 (cmpK x.f0 key)) ∧ Below w.heap.size w w' := by
 obtain ⟨a, b⟩ := x
 have hnew : Below w.heap.size w (w.alloc (.cells #[.string a, .string b] 86)) := (Below.refl _ _).alloc (Nat.le_refl _) _
 have hcall : ∀ W, Calls Try.prog 122 #[.string a, .string key] W fun e w' => e = .returned (.int .i64 (cmpK a key)) ∧ w' = W := fun W => strings_Compare a key W
 dsimp only
 obtain ⟨c, hc⟩ : ∃ c, c = cmpK a key := ⟨_, rfl⟩
 rw [← hc] at hcall ⊢
 clear hc
 go_enter Try.func121, Try.ntmps121
 go_wp2_with fail
 refine (hcall _).mono ?_
 rintro e wn ⟨rfl, rfl⟩
 clear hcall
 go_wp2
 go_ret
 exact ⟨rfl, hnew⟩
set_option maxHeartbeats 4000000 in
theorem bin_any (A : Option Addr) (c : Nat) (l : List S86) (key : ByteArray) (t : Nat) (w : World) (h : Kd.C k86 w A l.length l) (ht : t ≤ l.length) (hs : ∀ i, i < l.length → (cmpK (rd_T86 l (i : Int)).f0 key < 0 ↔ i < t)) :
  Calls Try.prog 120 #[.slice A l.length c, .string key, .func (.func 121) #[] #[]] w fun e w' => e = .returned (.tuple #[.int .i64 (t : Int), .bool (decide (t < l.length) && decide (cmpK (rd_T86 l (t : Int)).f0 key = 0))]) ∧ Below w.heap.size w w' := by
 have hm := Kd.C_max h
 have HM0 := Lib.hid (show MB w w A l from ⟨h, Below.refl _ _⟩)
 have HS := Lib.hid hs
 obtain ⟨R, hR⟩ : ∃ R, R = (decide (t < l.length) && decide (cmpK (rd_T86 l (t : Int)).f0 key = 0)) := ⟨_, rfl⟩
 rw [← hR]
 have HRR := Lib.hid hR
 clear h hs hR
 go_enter Try.func120, Try.ntmps120
 go_wp2
 go_loopw [9, 10] (fun i j wr => ∃ a b : Nat, a ≤ t ∧ t ≤ b ∧ b ≤ l.length ∧ i = .int .i64 (a : Int) ∧ j = .int .i64 (b : Int) ∧ MB w wr A l) (fun i j _ => (intOf j).toNat - (intOf i).toNat)
 case atStart => exact ⟨0, l.length, Nat.zero_le _, ht, Nat.le_refl _, rfl, rfl, HM0.out⟩
 case round =>
  clear HM0
  obtain ⟨a, b, hat, htb, hbl, rfl, rfl, hM⟩ := hrel
  have HM := Lib.hid hM
  clear hM
  by_cases hab : a < b
  · have hki : (a : Int) < (b : Int) := by omega
    have hmx : l.length < 9223372036854775808 := by unfold maxLen at hm; omega
    have hw : wrap64 (IntKind.u64.wrap (wrap64 ((a : Int) + (b : Int))) / 2) = (((a + b) / 2 : Nat) : Int) := by
     have h1 : wrap64 ((a : Int) + (b : Int)) = (a : Int) + (b : Int) ∨ wrap64 ((a : Int) + (b : Int)) = (a : Int) + (b : Int) - 18446744073709551616 := by
      unfold wrap64
      omega
     have h2 : IntKind.u64.wrap (wrap64 ((a : Int) + (b : Int))) = (a : Int) + (b : Int) := by
      unfold IntKind.wrap
      simp only [IntKind.signed, IntKind.bits]
      rcases h1 with h1 | h1 <;> rw [h1] <;> simp <;> omega
     rw [h2]
     unfold wrap64
     omega
    clear hmx
    obtain ⟨m, hmm⟩ : ∃ m : Nat, m = (a + b) / 2 := ⟨_, rfl⟩
    have ham : a ≤ m := by omega
    have hmb : m < b := by omega
    have hml : m < l.length := by omega
    rw [← hmm] at hw
    clear hmm
    go_upto_region 5 with fail
    rw [hw]
    clear hw
    have hS := HS.out m hml
    obtain ⟨ad, rfl, x0, x1⟩ := at_T86 HM.out.hC (m : Int) (by omega) (by omega)
    rw [Int.toNat_natCast] at x0 x1
    obtain ⟨P, hP⟩ : ∃ P, P = rd_T86 l (m : Int) := ⟨_, rfl⟩
    rw [← hP] at x0 x1 hS
    clear hP
    have hcall := binCmp_any P key wr
    obtain ⟨cv, hcv⟩ : ∃ cv, cv = cmpK P.f0 key := ⟨_, rfl⟩
    rw [← hcv] at hS hcall
    clear hcv
    have H5 := Lib.hid hS
    clear hS
    have hk1 : (m : Int) < (l.length : Int) := by omega
    have hk0 : (0 : Int) ≤ (m : Int) := by omega
    go_wp2_with fail
    refine hcall.mono ?_
    rintro e wn ⟨rfl, hb⟩
    replace HM := Lib.hid (HM.out.under hb)
    clear hb hcall x0 x1
    by_cases hneg : cv < 0
    · have hmt := H5.out.mp hneg
      go_wp2
      exact ⟨⟨m + 1, b, by omega, by omega, by omega, by go_num, rfl, HM.out⟩, by simp [intOf]; omega⟩
    · have hmt : ¬ m < t := fun h => hneg (H5.out.mpr h)
      go_wp2
      exact ⟨⟨a, m, by omega, by omega, by omega, rfl, rfl, HM.out⟩, by simp [intOf]; omega⟩
  · obtain rfl : a = t := by omega
    obtain rfl : b = a := by omega
    have hki : ¬ (b : Int) < (b : Int) := by omega
    by_cases hlt : b < l.length
    · have hk1 : (b : Int) < (l.length : Int) := by omega
      have hk0 : (0 : Int) ≤ (b : Int) := by omega
      obtain ⟨ad, rfl, x0, x1⟩ := at_T86 HM.out.hC (b : Int) (by omega) (by omega)
      rw [Int.toNat_natCast] at x0 x1
      obtain ⟨P, hP⟩ : ∃ P, P = rd_T86 l (b : Int) := ⟨_, rfl⟩
      have hR := HRR.out
      rw [← hP] at x0 x1 hR
      clear hP HS HRR
      have hcall := binCmp_any P key wr
      obtain ⟨cv, hcv⟩ : ∃ cv, cv = cmpK P.f0 key := ⟨_, rfl⟩
      rw [← hcv] at hcall hR
      clear hcv
      rw [decide_eq_true hlt, Bool.true_and] at hR
      have HRR := Lib.hid hR
      clear hR
      go_wp2_with fail
      refine hcall.mono ?_
      rintro e wn ⟨rfl, hb⟩
      replace HM := Lib.hid (HM.out.under hb)
      clear hb hcall x0 x1
      go_wp2
      go_ret2
      exact ⟨by rw [HRR.out]; first | rfl | simp, HM.out.below⟩
    · have hk1 : ¬ (b : Int) < (l.length : Int) := by omega
      have hR := HRR.out
      rw [decide_eq_false hlt, Bool.false_and] at hR
      subst hR
      clear HRR
      go_wp2
      go_ret2
      exact ⟨rfl, HM.out.below⟩
end Go.Proofs.Ytipgldfbjlhpoab.P
