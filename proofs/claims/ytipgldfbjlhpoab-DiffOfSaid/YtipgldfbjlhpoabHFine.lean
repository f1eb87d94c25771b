/- diff.fine: whether changes may be: its contract. -/
import Derived.Test.YtipgldfbjlhpoabHRise
namespace Go.Proofs.Ytipgldfbjlhpoab.P
set_option linter.unusedVariables false
set_option linter.unusedSimpArgs false
open Go.RowKit Go.Proofs.YtipgldfbjlhpoabW.PrintWords Go.Proofs.YtipgldfbjlhpoabW.PrintLast Go.Proofs.YtipgldfbjlhpoabW.PrintMore
set_option maxRecDepth 100000
def badC (x : S62) : Bool := x.f2 && !(x.f1.toList.isEmpty)
def cleanC (l : List S62) (n : Nat) : Bool := (List.range n).all fun i => !badC (rd_T62 l (i : Int))
theorem cleanC_succ (l : List S62) (n : Nat) : cleanC l (n + 1) = (cleanC l n && !badC (rd_T62 l (n : Int))) := by
  simp [cleanC, List.range_succ]
theorem cleanC_le (l : List S62) {n m : Nat} (h : cleanC l n = true) (hm : m ≤ n) : cleanC l m = true := by
  unfold cleanC at h ⊢
  rw [List.all_eq_true] at h ⊢
  intro x hx
  rw [List.mem_range] at hx
  exact h x (List.mem_range.mpr (by omega))
theorem cleanC_no (l : List S62) {n m : Nat} (h : badC (rd_T62 l (m : Int)) = true) (hm : m < n) : cleanC l n = false := by
  cases hx : cleanC l n with
  | false => rfl
  | true =>
    have := cleanC_le l hx (show m + 1 ≤ n by omega)
    rw [cleanC_succ, h, Bool.not_true, Bool.and_false] at this
    cases this
set_option maxHeartbeats 4000000 in
theorem fine1_any (x : S62) (w : World) :
    Calls Try.prog 147 #[.agg #[.string x.f0, .string x.f1, .bool x.f2]] w fun e w' => e = .returned (.bool (badC x)) ∧ Below w.heap.size w w' := by
  obtain ⟨a, b, c⟩ := x
  have hb : badC ⟨a, b, c⟩ = (c && !(b.toList.isEmpty)) := rfl
  obtain ⟨B, hB⟩ : ∃ B, B = badC ⟨a, b, c⟩ := ⟨_, rfl⟩
  rw [← hB] at hb ⊢
  clear hB
  have hnew : Below w.heap.size w (w.alloc (.cells #[.string a, .string b, .bool c] 62)) := (Below.refl _ _).alloc (Nat.le_refl _) _
  dsimp only at hb ⊢
  cases c with
  | false =>
    have HBB := Lib.hid hb
    clear hb
    go_enter Try.func147, Try.ntmps147
    go_wp2
    go_ret
    exact ⟨by rw [HBB.out]; rfl, hnew⟩
  | true =>
    rw [Bool.true_and] at hb
    cases hc : b.toList.isEmpty with
    | true =>
      rw [hc] at hb
      have hc2 : (b.toList == ([] : List UInt8)) = true := by rw [← hc]; cases b.toList <;> rfl
      subst hb
      go_enter Try.func147, Try.ntmps147
      go_wp2
      go_ret
      exact ⟨by first | rfl | (simp [hc]; done), hnew⟩
    | false =>
      rw [hc] at hb
      have hc2 : (b.toList == ([] : List UInt8)) = false := by rw [← hc]; cases b.toList <;> rfl
      subst hb
      go_enter Try.func147, Try.ntmps147
      go_wp2
      go_ret
      exact ⟨by first | rfl | (simp [hc]; done), hnew⟩
set_option maxHeartbeats 4000000 in
theorem index_any (A : Option Addr) (c : Nat) (l : List S62) (w : World) (h : Kd.C k62 w A l.length l) :
    Calls Try.prog 171 #[.slice A l.length c, .func (.func 147) #[] #[]] w fun e w' => (∃ r : Int, e = .returned (.int .i64 r) ∧ decide (0 ≤ r) = !cleanC l l.length) ∧ Below w.heap.size w w' := by
  have hm := Kd.C_max h
  have HM0 := Lib.hid (show MRc w w A l from ⟨h, Below.refl _ _⟩)
  clear h
  go_enter Try.func171, Try.ntmps171
  go_wp2
  go_loopw [8] (fun i wr => ∃ k : Nat, k ≤ l.length ∧ i = .int .i64 (k : Int) ∧ cleanC l k = true ∧ MRc w wr A l) (fun i _ => l.length - (intOf i).toNat)
  case atStart => exact ⟨0, Nat.zero_le _, rfl, rfl, HM0.out⟩
  case round =>
    clear HM0
    obtain ⟨k, hk, rfl, hl, hM⟩ := hrel
    have HL := Lib.hid hl
    have HM := Lib.hid hM
    clear hl hM
    by_cases hlt : k < l.length
    · have hki : (k : Int) < (l.length : Int) := by omega
      have hk0 : (0 : Int) ≤ (k : Int) := by omega
      obtain ⟨ad, rfl, x0, x1, x2⟩ := at_T62 HM.out.hC (k : Int) (by omega) (by omega)
      rw [Int.toNat_natCast] at x0 x1 x2
      have hS := cleanC_succ l k
      have hno := fun h => cleanC_no l (n := l.length) (m := k) h hlt
      obtain ⟨P, hP⟩ : ∃ P, P = rd_T62 l (k : Int) := ⟨_, rfl⟩
      rw [← hP] at x0 x1 x2 hS hno
      clear hP
      have HS := Lib.hid hS
      have HN := Lib.hid hno
      clear hS hno
      have hcall := fine1_any P wr
      go_wp2_with fail
      refine hcall.mono ?_
      rintro e wn ⟨rfl, hb⟩
      replace HM := Lib.hid (HM.out.under hb)
      clear hb hcall x0 x1 x2
      cases hbad : badC P with
      | true =>
        go_wp2
        go_ret
        exact ⟨⟨_, rfl, by rw [HN.out hbad]; exact decide_eq_true hk0⟩, HM.out.below⟩
      | false =>
        go_wp2
        exact ⟨⟨k + 1, by omega, by go_num, by rw [HS.out, HL.out, hbad]; rfl, HM.out⟩, by simp [intOf]; omega⟩
    · have hki : ¬ (k : Int) < (l.length : Int) := by omega
      obtain rfl : k = l.length := by omega
      go_wp2
      go_ret
      exact ⟨⟨_, rfl, by rw [HL.out]; rfl⟩, HM.out.below⟩
set_option maxHeartbeats 4000000 in
theorem contains_any (A : Option Addr) (c : Nat) (l : List S62) (w : World) (h : Kd.C k62 w A l.length l) :
    Calls Try.prog 146 #[.slice A l.length c, .func (.func 147) #[] #[]] w fun e w' => e = .returned (.bool (!cleanC l l.length)) ∧ Below w.heap.size w w' := by
  have hcall := index_any A c l w h
  clear h
  go_enter Try.func146, Try.ntmps146
  go_wp2_with fail
  refine hcall.mono ?_
  rintro e wn ⟨⟨r, rfl, hr⟩, hb⟩
  clear hcall
  have HR := Lib.hid hr
  clear hr
  go_wp2
  go_ret
  exact ⟨by rw [← HR.out]; rfl, hb⟩
def diff_fine.f (l : List S62) : Option Bool := some (risC l (l.length - 1) && cleanC l l.length)
set_option maxHeartbeats 4000000 in
theorem diff_fine.calls (A0 : Option Addr) (c0 : Nat) (l0 : List (S62)) (r : Bool) (w : World) (hr0 : Kd.C k62 w A0 l0.length l0) (hc0 : l0.length ≤ c0) (h : diff_fine.f l0 = some r) :
    Calls Try.prog 88 #[.slice A0 l0.length c0] w fun e w' => e = .returned (.bool r) ∧ Below w.heap.size w w' := by
  obtain rfl := Option.some.inj h
  have HM := Lib.hid (show MRc w w A0 l0 from ⟨hr0, Below.refl _ _⟩)
  clear hr0
  have hcall := risingC_any A0 c0 l0 w HM.out.hC
  obtain ⟨b, hb⟩ : ∃ b, b = risC l0 (l0.length - 1) := ⟨_, rfl⟩
  obtain ⟨d, hd⟩ : ∃ d, d = cleanC l0 l0.length := ⟨_, rfl⟩
  have hcall2 : ∀ W, MRc w W A0 l0 → _ := fun W h => contains_any A0 c0 l0 W h.hC
  rw [← hd] at hcall2 ⊢
  rw [← hb] at hcall ⊢
  clear hb hd
  go_enter Try.func88, Try.ntmps88
  cases b with
  | false =>
    go_wp2_with fail
    refine hcall.mono ?_
    rintro e w1 ⟨rfl, hb⟩
    replace HM := Lib.hid (HM.out.under hb)
    clear hb hcall hcall2
    go_wp2
    go_ret
    exact ⟨rfl, HM.out.below⟩
  | true =>
    go_wp2_with fail
    refine hcall.mono ?_
    rintro e w1 ⟨rfl, hb⟩
    replace HM := Lib.hid (HM.out.under hb)
    clear hb hcall
    go_wp2_with fail
    refine (hcall2 _ HM.out).mono ?_
    rintro e w2 ⟨rfl, hb⟩
    replace HM := Lib.hid (HM.out.under hb)
    clear hb hcall2
    go_wp2
    go_ret
    exact ⟨by cases d <;> rfl, HM.out.below⟩
end Go.Proofs.Ytipgldfbjlhpoab.P
