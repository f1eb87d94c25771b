/- The order of strings, and lists that rise by a key. -/
import Derived.Test.YtipgldfbjlhpoabZePureWire
import Derived.Shelf.Small.Strs
import Derived.Test.YtipgldfbjlhpoabProg
import Derived.Test.YtipgldfbjlhpoabZePRWireR
import Derived.Deep.RegionHeld3
import Derived.WalkLawsBesides
import Derived.Outline
import Derived.Lib.Hide
import Derived.Deep.LoopGhost
import Derived.Deep.CutRange
import Derived.Deep.DeepCutAuto
namespace Go.Proofs.Ytipgldfbjlhpoab.Pure
set_option linter.unusedVariables false
set_option linter.unusedSimpArgs false
open Go.RowKit Go.Proofs.Ytipgldfbjlhpoab.P
theorem less_cons (a b : UInt8) (x y : List UInt8) : Op.bytesLess (a :: x) (b :: y) = true ↔ a < b ∨ (a = b ∧ Op.bytesLess x y = true) := by
 simp only [Op.bytesLess]
 by_cases h1 : a < b
 · simp [h1]
 · by_cases h2 : a = b
   · subst h2; simp [h1]
   · have : b < a := by
      rcases Nat.lt_trichotomy a.toNat b.toNat with h | h | h
      · exact absurd (UInt8.lt_iff_toNat_lt.mpr h) h1
      · exact absurd (UInt8.toNat_inj.mp h) h2
      · exact UInt8.lt_iff_toNat_lt.mpr h
     simp [h1, h2, this]
theorem less_nil (x : List UInt8) : Op.bytesLess x [] = false := by cases x <;> rfl
theorem less_irrefl : ∀ x : List UInt8, Op.bytesLess x x = false := by
 intro x
 induction x with
 | nil => rfl
 | cons a x ih =>
  rw [Bool.eq_false_iff]; intro h
  rcases (less_cons _ _ _ _).mp h with h | ⟨_, h⟩
  · exact absurd (UInt8.lt_iff_toNat_lt.mp h) (Nat.lt_irrefl _)
  · rw [ih] at h; cases h
theorem less_trans : ∀ x y z : List UInt8, Op.bytesLess x y = true → Op.bytesLess y z = true → Op.bytesLess x z = true := by
 intro x
 induction x with
 | nil =>
  intro y z h1 h2
  cases z with
  | nil => rw [less_nil] at h2; cases h2
  | cons c z => rfl
 | cons a x ih =>
  intro y z h1 h2
  cases y with
  | nil => rw [less_nil] at h1; cases h1
  | cons b y =>
   cases z with
   | nil => rw [less_nil] at h2; cases h2
   | cons c z =>
    rw [less_cons] at h1 h2 ⊢
    rcases h1 with h1 | ⟨rfl, h1⟩
    · rcases h2 with h2 | ⟨rfl, h2⟩
      · exact Or.inl (UInt8.lt_iff_toNat_lt.mpr (Nat.lt_trans (UInt8.lt_iff_toNat_lt.mp h1) (UInt8.lt_iff_toNat_lt.mp h2)))
      · exact Or.inl h1
    · rcases h2 with h2 | ⟨rfl, h2⟩
      · exact Or.inl h2
      · exact Or.inr ⟨rfl, ih _ _ h1 h2⟩
theorem less_tri : ∀ x y : List UInt8, Op.bytesLess x y = false → Op.bytesLess y x = false → x = y := by
 intro x
 induction x with
 | nil =>
  intro y h1 h2
  cases y with
  | nil => rfl
  | cons b y => cases h1
 | cons a x ih =>
  intro y h1 h2
  cases y with
  | nil => cases h2
  | cons b y =>
   rw [Bool.eq_false_iff, ne_eq, less_cons] at h1 h2
   have hab : a = b := by
    rcases Nat.lt_trichotomy a.toNat b.toNat with h | h | h
    · exact absurd (Or.inl (UInt8.lt_iff_toNat_lt.mpr h)) h1
    · exact UInt8.toNat_inj.mp h
    · exact absurd (Or.inl (UInt8.lt_iff_toNat_lt.mpr h)) h2
   subst hab; rw [ih y (by rw [Bool.eq_false_iff]; intro h; exact h1 (Or.inr ⟨rfl, h⟩)) (by rw [Bool.eq_false_iff]; intro h; exact h2 (Or.inr ⟨rfl, h⟩))]
theorem less_asymm {x y : List UInt8} (h : Op.bytesLess x y = true) : Op.bytesLess y x = false := by
 rw [Bool.eq_false_iff]; intro h2; have := less_trans _ _ _ h h2; rw [less_irrefl] at this; cases this
theorem toList_inj {a b : ByteArray} (h : a.toList = b.toList) : a = b := by
 rw [ByteArray.toList_eq, ByteArray.toList_eq] at h; cases a; cases b
 congr 1
 exact Array.toList_inj.mp h
def Up {α : Type} (key : α → List UInt8) : List α → Prop
 | [] => True
 | x :: l => (∀ y ∈ l, Op.bytesLess (key x) (key y) = true) ∧ Up key l
theorem up_of {α : Type} (key : α → List UInt8) : ∀ l : List α, (∀ i (h : i + 1 < l.length), Op.bytesLess (key l[i]) (key l[i + 1]) = true) → Up key l := by
 intro l
 induction l with
 | nil => intro _; exact trivial
 | cons x l ih =>
  intro h; have hl : Up key l := ih (fun i hi => h (i + 1) (by simp; omega)); refine ⟨?_, hl⟩
  cases l with
  | nil => intro y hy; cases hy
  | cons z l =>
   have hz : Op.bytesLess (key x) (key z) = true := h 0 (by simp); intro y hy
   rcases List.mem_cons.mp hy with rfl | hy
   · exact hz
   · exact less_trans _ _ _ hz (hl.1 y hy)
theorem of_up {α : Type} (key : α → List UInt8) : ∀ l : List α, Up key l → ∀ i (h : i + 1 < l.length), Op.bytesLess (key l[i]) (key l[i + 1]) = true := by
 intro l
 induction l with
 | nil => intro _ i h; simp at h
 | cons x l ih =>
  intro hu i h
  cases i with
  | zero => exact hu.1 _ (List.getElem_mem (by simpa using h))
  | succ i => exact ih hu.2 i (by simpa using h)
end Go.Proofs.Ytipgldfbjlhpoab.Pure
namespace Go.Proofs.Ytipgldfbjlhpoab.P
open Go.Shelf
def cpR : Go.Shelf.Ren := ⟨fun | 106 => 122 | 213 => 157 | 265 => 177 | n => n, fun n => n, fun n => n⟩
theorem cpL : Go.Proofs.Lays.n106 Try.prog cpR := {
 mixed := by kernel_rfl
 f106 := Try.func122.trans (congrArg some (by kernel_rfl))
 f213 := Try.func157.trans (congrArg some (by kernel_rfl))
 f265 := Try.func177.trans (congrArg some (by kernel_rfl))
 t3 := Try.underlying3
 a3 := Try.isAgg3
 z3 := Try.sizeOf3
 v3 := Try.zeroValue3
 t9 := Try.underlying9
 a9 := Try.isAgg9
 z9 := Try.sizeOf9
 v9 := Try.zeroValue9 }
open Go.RowKit in
theorem strings_Compare (a b : ByteArray) (w : World) :
  Calls Try.prog 122 #[.string a, .string b] w fun e w' => e = .returned (.int .i64 (Lib.compareBytes a.data.toList b.data.toList)) ∧ w' = w := Go.Proofs.Any.strings_Compare cpL a b w
end Go.Proofs.Ytipgldfbjlhpoab.P
namespace Go.Proofs.Ytipgldfbjlhpoab.Pure
theorem cmp_neg : ∀ x y : List UInt8, Lib.compareBytes x y < 0 ↔ Op.bytesLess x y = true := by
 intro x
 induction x with
 | nil =>
  intro y
  cases y with
  | nil => simp [Lib.compareBytes, Op.bytesLess]
  | cons b y => simp [Lib.compareBytes, Op.bytesLess]
 | cons a x ih =>
  intro y
  cases y with
  | nil => simp [Lib.compareBytes, Op.bytesLess]
  | cons b y =>
   rw [less_cons, Lib.compareBytes]
   by_cases h1 : a < b
   · simp [h1]
   · rw [if_neg h1]
     by_cases h2 : b < a
     · rw [if_pos h2]; constructor
       · intro h; omega
       · rintro (h | ⟨rfl, h⟩)
         · exact absurd h h1
         · exact absurd h2 h1
     · rw [if_neg h2, ih]
       have hab : a = b := by
        rcases Nat.lt_trichotomy a.toNat b.toNat with h | h | h
        · exact absurd (UInt8.lt_iff_toNat_lt.mpr h) h1
        · exact UInt8.toNat_inj.mp h
        · exact absurd (UInt8.lt_iff_toNat_lt.mpr h) h2
       constructor
       · intro h; exact Or.inr ⟨hab, h⟩
       · rintro (h | ⟨_, h⟩)
         · exact absurd h h1
         · exact h
theorem cmp_zero : ∀ x y : List UInt8, Lib.compareBytes x y = 0 ↔ x = y := by
 intro x
 induction x with
 | nil =>
  intro y
  cases y with
  | nil => simp [Lib.compareBytes]
  | cons b y => simp [Lib.compareBytes]
 | cons a x ih =>
  intro y
  cases y with
  | nil => simp [Lib.compareBytes]
  | cons b y =>
   rw [Lib.compareBytes]
   by_cases h1 : a < b
   · rw [if_pos h1]; constructor
     · intro h; omega
     · intro h
       injection h with h _
       subst h; exact absurd (UInt8.lt_iff_toNat_lt.mp h1) (Nat.lt_irrefl _)
   · rw [if_neg h1]
     by_cases h2 : b < a
     · rw [if_pos h2]; constructor
       · intro h; omega
       · intro h
         injection h with h _
         subst h; exact absurd h2 h1
     · rw [if_neg h2, ih]
       have hab : a = b := by
        rcases Nat.lt_trichotomy a.toNat b.toNat with h | h | h
        · exact absurd (UInt8.lt_iff_toNat_lt.mpr h) h1
        · exact UInt8.toNat_inj.mp h
        · exact absurd (UInt8.lt_iff_toNat_lt.mpr h) h2
       rw [hab]; simp
end Go.Proofs.Ytipgldfbjlhpoab.Pure
namespace Go.Proofs.Ytipgldfbjlhpoab.P
set_option linter.unusedVariables false
set_option linter.unusedSimpArgs false
open Go.RowKit Go.Proofs.YtipgldfbjlhpoabW.PrintWords Go.Proofs.YtipgldfbjlhpoabW.PrintLast Go.Proofs.YtipgldfbjlhpoabW.PrintMore
set_option maxRecDepth 100000
structure MB (w W : World) (A : Option Addr) (l : List S86) : Prop where
 hC : Kd.C k86 W A l.length l
 below : Below w.heap.size w W
theorem MB.under {w W W' : World} {A : Option Addr} {l : List S86} (h : MB w W A l) (hb : Below W.heap.size W W') : MB w W' A l :=
 ⟨Kd.C_below h.hC hb, h.below.trans (hb.mono h.below.size)⟩
def cmpK (a b : ByteArray) : Int := Lib.compareBytes a.data.toList b.data.toList
theorem cmpK_neg (a b : ByteArray) : cmpK a b < 0 ↔ Op.bytesLess a.toList b.toList = true := by
 rw [cmpK, Pure.cmp_neg, ByteArray.toList_eq, ByteArray.toList_eq]
theorem cmpK_zero (a b : ByteArray) : cmpK a b = 0 ↔ a.toList = b.toList := by
 rw [cmpK, Pure.cmp_zero, ByteArray.toList_eq, ByteArray.toList_eq]
set_option maxHeartbeats 4000000 in
theorem binCmp_any (x : S86) (key : ByteArray) (w : World) :
  Calls Try.prog 121 #[.agg #[.string x.f0, .string x.f1], .string key] w fun e w' => e = .returned (.int .i64 (cmpK x.f0 key)) ∧ Below w.heap.size w w' := by
 obtain ⟨a, b⟩ := x; have hnew : Below w.heap.size w (w.alloc (.cells #[.string a, .string b] 86)) := (Below.refl _ _).alloc (Nat.le_refl _) _
 have hcall : ∀ W, Calls Try.prog 122 #[.string a, .string key] W fun e w' => e = .returned (.int .i64 (cmpK a key)) ∧ w' = W := fun W => strings_Compare a key W
 dsimp only
 obtain ⟨c, hc⟩ : ∃ c, c = cmpK a key := ⟨_, rfl⟩
 rw [← hc] at hcall ⊢; clear hc
 go_enter Try.func121, Try.ntmps121
 go_wp2_with fail
 refine (hcall _).mono ?_; rintro e wn ⟨rfl, rfl⟩; clear hcall; go_wp2; go_ret; exact ⟨rfl, hnew⟩
set_option maxHeartbeats 4000000 in
theorem bin_any (A : Option Addr) (c : Nat) (l : List S86) (key : ByteArray) (t : Nat) (w : World) (h : Kd.C k86 w A l.length l) (ht : t ≤ l.length) (hs : ∀ i, i < l.length → (cmpK (rd_T86 l (i : Int)).f0 key < 0 ↔ i < t)) :
  Calls Try.prog 120 #[.slice A l.length c, .string key, .func (.func 121) #[] #[]] w fun e w' => e = .returned (.tuple #[.int .i64 (t : Int), .bool (decide (t < l.length) && decide (cmpK (rd_T86 l (t : Int)).f0 key = 0))]) ∧ Below w.heap.size w w' := by
 have hm := Kd.C_max h; have HM0 := Lib.hid (show MB w w A l from ⟨h, Below.refl _ _⟩); have HS := Lib.hid hs
 obtain ⟨R, hR⟩ : ∃ R, R = (decide (t < l.length) && decide (cmpK (rd_T86 l (t : Int)).f0 key = 0)) := ⟨_, rfl⟩
 rw [← hR]; have HRR := Lib.hid hR; clear h hs hR
 go_enter Try.func120, Try.ntmps120
 go_wp2
 go_loopw [9, 10] (fun i j wr => ∃ a b : Nat, a ≤ t ∧ t ≤ b ∧ b ≤ l.length ∧ i = .int .i64 (a : Int) ∧ j = .int .i64 (b : Int) ∧ MB w wr A l) (fun i j _ => (intOf j).toNat - (intOf i).toNat)
 case atStart => exact ⟨0, l.length, Nat.zero_le _, ht, Nat.le_refl _, rfl, rfl, HM0.out⟩
 case round =>
  clear HM0; obtain ⟨a, b, hat, htb, hbl, rfl, rfl, hM⟩ := hrel; have HM := Lib.hid hM; clear hM
  by_cases hab : a < b
  · have hki : (a : Int) < (b : Int) := by omega
    have hmx : l.length < 9223372036854775808 := by unfold maxLen at hm; omega
    have hw : wrap64 (IntKind.u64.wrap (wrap64 ((a : Int) + (b : Int))) / 2) = (((a + b) / 2 : Nat) : Int) := by
     have h1 : wrap64 ((a : Int) + (b : Int)) = (a : Int) + (b : Int) ∨ wrap64 ((a : Int) + (b : Int)) = (a : Int) + (b : Int) - 18446744073709551616 := by
      unfold wrap64; omega
     have h2 : IntKind.u64.wrap (wrap64 ((a : Int) + (b : Int))) = (a : Int) + (b : Int) := by
      unfold IntKind.wrap; simp only [IntKind.signed, IntKind.bits]
      rcases h1 with h1 | h1 <;> rw [h1] <;> simp <;> omega
     rw [h2]; unfold wrap64; omega
    clear hmx
    obtain ⟨m, hmm⟩ : ∃ m : Nat, m = (a + b) / 2 := ⟨_, rfl⟩
    have ham : a ≤ m := by omega
    have hmb : m < b := by omega
    have hml : m < l.length := by omega
    rw [← hmm] at hw; clear hmm
    go_upto_region 5 with fail
    rw [hw]; clear hw; have hS := HS.out m hml; obtain ⟨ad, rfl, x0, x1⟩ := at_T86 HM.out.hC (m : Int) (by omega) (by omega); rw [Int.toNat_natCast] at x0 x1
    obtain ⟨P, hP⟩ : ∃ P, P = rd_T86 l (m : Int) := ⟨_, rfl⟩
    rw [← hP] at x0 x1 hS; clear hP; have hcall := binCmp_any P key wr
    obtain ⟨cv, hcv⟩ : ∃ cv, cv = cmpK P.f0 key := ⟨_, rfl⟩
    rw [← hcv] at hS hcall; clear hcv; have H5 := Lib.hid hS; clear hS
    have hk1 : (m : Int) < (l.length : Int) := by omega
    have hk0 : (0 : Int) ≤ (m : Int) := by omega
    go_wp2_with fail
    refine hcall.mono ?_; rintro e wn ⟨rfl, hb⟩; replace HM := Lib.hid (HM.out.under hb); clear hb hcall x0 x1
    by_cases hneg : cv < 0
    · have hmt := H5.out.mp hneg; go_wp2; exact ⟨⟨m + 1, b, by omega, by omega, by omega, by go_num, rfl, HM.out⟩, by simp [intOf]; omega⟩
    · have hmt : ¬ m < t := fun h => hneg (H5.out.mpr h)
      go_wp2; exact ⟨⟨a, m, by omega, by omega, by omega, rfl, rfl, HM.out⟩, by simp [intOf]; omega⟩
  · obtain rfl : a = t := by omega
    obtain rfl : b = a := by omega
    have hki : ¬ (b : Int) < (b : Int) := by omega
    by_cases hlt : b < l.length
    · have hk1 : (b : Int) < (l.length : Int) := by omega
      have hk0 : (0 : Int) ≤ (b : Int) := by omega
      obtain ⟨ad, rfl, x0, x1⟩ := at_T86 HM.out.hC (b : Int) (by omega) (by omega); rw [Int.toNat_natCast] at x0 x1
      obtain ⟨P, hP⟩ : ∃ P, P = rd_T86 l (b : Int) := ⟨_, rfl⟩
      have hR := HRR.out; rw [← hP] at x0 x1 hR; clear hP HS HRR; have hcall := binCmp_any P key wr
      obtain ⟨cv, hcv⟩ : ∃ cv, cv = cmpK P.f0 key := ⟨_, rfl⟩
      rw [← hcv] at hcall hR; clear hcv; rw [decide_eq_true hlt, Bool.true_and] at hR; have HRR := Lib.hid hR; clear hR
      go_wp2_with fail
      refine hcall.mono ?_; rintro e wn ⟨rfl, hb⟩; replace HM := Lib.hid (HM.out.under hb); clear hb hcall x0 x1; go_wp2
      go_ret2
      exact ⟨by rw [HRR.out]; first | rfl | simp, HM.out.below⟩
    · have hk1 : ¬ (b : Int) < (l.length : Int) := by omega
      have hR := HRR.out; rw [decide_eq_false hlt, Bool.false_and] at hR; subst hR; clear HRR; go_wp2
      go_ret2
      exact ⟨rfl, HM.out.below⟩
end Go.Proofs.Ytipgldfbjlhpoab.P
