/- names.plain, and names.Check at an account's kind: their contracts. -/
import Derived.Test.YtipgldfbjlhpoabPNames
import Derived.WalkLawsBesides
import Derived.Outline
import Derived.Lib.Hide
import Derived.Deep.LoopGhost
import Derived.Deep.CutRange
import Derived.Deep.DeepCutAuto
namespace Go.Proofs.Ytipgldfbjlhpoab.P
set_option linter.unusedVariables false
set_option linter.unusedSimpArgs false
open Go.RowKit Go.Proofs.YtipgldfbjlhpoabW.PrintWords Go.Proofs.YtipgldfbjlhpoabW.PrintLast Go.Proofs.YtipgldfbjlhpoabW.PrintMore
set_option maxRecDepth 100000
def letB (c : Int) : Bool := (names_letter.f 20 c).getD false
def allL (s : ByteArray) (n : Nat) : Bool := (List.range n).all fun i => letB (bt s (i : Int))
theorem letB_f (c : Int) : names_letter.f 20 c = some (letB c) := by
  obtain ⟨b, hb⟩ : ∃ b, names_letter.f 20 c = some b := by
    simp only [names_letter.f, names_letter.j0, names_letter.j1, names_letter.j2]
    repeat' split
    all_goals exact ⟨_, rfl⟩
  unfold letB
  rw [hb]
  rfl
theorem allL_succ (s : ByteArray) (n : Nat) : allL s (n + 1) = (allL s n && letB (bt s (n : Int))) := by
  simp [allL, List.range_succ]
theorem allL_le (s : ByteArray) {n m : Nat} (h : allL s n = true) (hm : m ≤ n) : allL s m = true := by
  unfold allL at h ⊢
  rw [List.all_eq_true] at h ⊢
  intro x hx
  rw [List.mem_range] at hx
  exact h x (List.mem_range.mpr (by omega))
def names_plain.f (s : ByteArray) : Option Bool := some (decide (0 < s.size ∧ s.size ≤ 64) && allL s s.size)
set_option maxHeartbeats 1000000 in
theorem plain_any (s : ByteArray) (w : World) (hs : s.size ≤ maxLen) :
    Calls Try.prog 153 #[.string s] w fun e w' => e = .returned (.bool (decide (0 < s.size ∧ s.size ≤ 64) && allL s s.size)) ∧ Below w.heap.size w w' := by
  unfold maxLen at hs
  obtain ⟨b0, hb0⟩ : ∃ b0, b0 = decide (0 < s.size ∧ s.size ≤ 64) := ⟨_, rfl⟩
  rw [← hb0]
  by_cases hz : s.size = 0
  · have hn : s.toList = [] := by
      rw [ByteArray.toList_eq]
      exact List.eq_nil_of_length_eq_zero (by rw [Array.length_toList]; exact hz)
    have HV : Hid (Value.bool false = .bool b0) := by (rw [hb0, decide_eq_false (by omega)]; exact Lib.hid rfl)
    clear hb0 hz
    go_enter Try.func153, Try.ntmps153
    go_wp2
    go_step3
    go_wp2
    go_step3
    go_wp2
    go_loopw [14, 3] (fun c v wr => ∃ k : Nat, k ≤ s.size ∧ c = .int .i64 (k : Int) ∧ v = .bool b0 ∧ allL s k = true ∧ ∃ nd, wr = w.drewN nd) (fun c _ _ => s.size - (intOf c).toNat)
    case atStart => exact ⟨0, Nat.zero_le _, rfl, HV.out, rfl, 0, rfl⟩
    case round =>
      obtain ⟨k, hk, rfl, rfl, hl, nd, rfl⟩ := hrel
      by_cases hlt : k < s.size
      · have hki : (k : Int) < (s.size : Int) := by omega
        obtain ⟨c, hc⟩ : ∃ c, c = (s[k]'hlt).toNat := ⟨_, rfl⟩
        have hbt : bt s (k : Int) = (c : Int) := by rw [hc]; simp [bt, hlt]
        have hL := allL_succ s k
        rw [hl, hbt, Bool.true_and] at hL
        have hcc : (s[k]'hlt).toNat = c := hc.symm
        have HC := Lib.hid hl
        clear hc hbt hl
        cases hb : letB (c : Int) with
        | true =>
          rw [hb] at hL
          have HL := Lib.hid hL
          clear hL
          have hcall := fun W => names_letter.calls 20 (c : Int) true W (by rw [letB_f, hb])
          clear hb
          go_wp2_with fail
          refine (hcall _).mono ?_
          rintro e w2 ⟨rfl, n2, rfl⟩
          go_wp2_with fail
          refine ⟨⟨k + 1, by omega, by go_num, rfl, HL.out, nd + n2, rfl⟩, by simp [intOf]; omega⟩
        | false =>
          rw [hb] at hL
          have hres : allL s s.size = false := by
            cases ha : allL s s.size with
            | false => rfl
            | true => exact absurd (allL_le s ha (show k + 1 ≤ s.size by omega)) (by rw [hL]; decide)
          have HL := Lib.hid hres
          clear hL hres
          have hcall := fun W => names_letter.calls 20 (c : Int) false W (by rw [letB_f, hb])
          clear hb
          go_wp2_with fail
          refine (hcall _).mono ?_
          rintro e w2 ⟨rfl, n2, rfl⟩
          go_wp2_with fail
          rw [Exit.noGoto_ret]
          go_ret
          exact ⟨by rw [HL.out, Bool.and_false]; rfl, pw_below_drewN (Below.refl _ _) _⟩
      · have hki : ¬ (k : Int) < (s.size : Int) := by omega
        obtain rfl : k = s.size := by omega
        have HC := Lib.hid hl
        clear hl
        go_wp2
        go_ret
        exact ⟨by rw [HC.out, Bool.and_true]; rfl, pw_below_drewN (Below.refl _ _) _⟩
  · have hn : ¬ s.toList = [] := by
      rw [ByteArray.toList_eq]
      intro e
      have := congrArg List.length e
      rw [Array.length_toList] at this
      exact hz this
    have HV : Hid (Value.bool (!s.toList.isEmpty && decide ((s.size : Int) ≤ 64)) = .bool b0) := by
      rw [hb0, show s.toList.isEmpty = false by cases hs : s.toList with | nil => exact absurd hs hn | cons a l => rfl]
      simp only [Bool.not_false, Bool.true_and]
      congr 1
      rw [Bool.eq_iff_iff, decide_eq_true_iff, decide_eq_true_iff]
      omega
    clear hb0 hz
    go_enter Try.func153, Try.ntmps153
    go_wp2
    go_step3
    go_wp2
    go_step3
    go_wp2
    go_loopw [14, 3] (fun c v wr => ∃ k : Nat, k ≤ s.size ∧ c = .int .i64 (k : Int) ∧ v = .bool b0 ∧ allL s k = true ∧ ∃ nd, wr = w.drewN nd) (fun c _ _ => s.size - (intOf c).toNat)
    case atStart => exact ⟨0, Nat.zero_le _, rfl, HV.out, rfl, 0, rfl⟩
    case round =>
      obtain ⟨k, hk, rfl, rfl, hl, nd, rfl⟩ := hrel
      by_cases hlt : k < s.size
      · have hki : (k : Int) < (s.size : Int) := by omega
        obtain ⟨c, hc⟩ : ∃ c, c = (s[k]'hlt).toNat := ⟨_, rfl⟩
        have hbt : bt s (k : Int) = (c : Int) := by rw [hc]; simp [bt, hlt]
        have hL := allL_succ s k
        rw [hl, hbt, Bool.true_and] at hL
        have hcc : (s[k]'hlt).toNat = c := hc.symm
        have HC := Lib.hid hl
        clear hc hbt hl
        cases hb : letB (c : Int) with
        | true =>
          rw [hb] at hL
          have HL := Lib.hid hL
          clear hL
          have hcall := fun W => names_letter.calls 20 (c : Int) true W (by rw [letB_f, hb])
          clear hb
          go_wp2_with fail
          refine (hcall _).mono ?_
          rintro e w2 ⟨rfl, n2, rfl⟩
          go_wp2_with fail
          refine ⟨⟨k + 1, by omega, by go_num, rfl, HL.out, nd + n2, rfl⟩, by simp [intOf]; omega⟩
        | false =>
          rw [hb] at hL
          have hres : allL s s.size = false := by
            cases ha : allL s s.size with
            | false => rfl
            | true => exact absurd (allL_le s ha (show k + 1 ≤ s.size by omega)) (by rw [hL]; decide)
          have HL := Lib.hid hres
          clear hL hres
          have hcall := fun W => names_letter.calls 20 (c : Int) false W (by rw [letB_f, hb])
          clear hb
          go_wp2_with fail
          refine (hcall _).mono ?_
          rintro e w2 ⟨rfl, n2, rfl⟩
          go_wp2_with fail
          rw [Exit.noGoto_ret]
          go_ret
          exact ⟨by rw [HL.out, Bool.and_false]; rfl, pw_below_drewN (Below.refl _ _) _⟩
      · have hki : ¬ (k : Int) < (s.size : Int) := by omega
        obtain rfl : k = s.size := by omega
        have HC := Lib.hid hl
        clear hl
        go_wp2
        go_ret
        exact ⟨by rw [HC.out, Bool.and_true]; rfl, pw_below_drewN (Below.refl _ _) _⟩
def names_Check.f (a0 : Int) (s : ByteArray) : Option Int := if a0 = 6 then (if s.size ≤ 1000000000000000 then some (if (decide (0 < s.size ∧ s.size ≤ 64) && allL s s.size) = true then 0 else 7) else none) else none
theorem names_Check.calls (a0 : Int) (a1 : ByteArray) (r : Int) (w : World) (h : names_Check.f a0 a1 = some r) :
    Calls Try.prog 114 #[.int .i64 a0, .string a1] w fun e w' => e = .returned (.int .i64 r) ∧ Below w.heap.size w w' := by
  unfold names_Check.f at h
  by_cases h6 : a0 = 6
  · subst h6
    rw [if_pos rfl] at h
    by_cases hs : a1.size ≤ 1000000000000000
    · rw [if_pos hs] at h
      have hp := fun W => plain_any a1 W (by unfold maxLen; omega)
      cases hb : (decide (0 < a1.size ∧ a1.size ≤ 64) && allL a1 a1.size) with
      | true =>
        rw [hb, if_pos rfl] at h
        simp only [hb] at hp
        obtain rfl := Option.some.inj h
        clear hb
        go_enter Try.func114, Try.ntmps114
        go_wp2_with fail
        refine (names_head.calls 6 ⟨#[]⟩ _ rfl).mono ?_
        rintro e w1 ⟨rfl, n1, rfl⟩
        go_wp2_with fail
        refine (hp _).mono ?_
        rintro e w2 ⟨rfl, hb2⟩
        go_wp2_with fail
        go_ret
        exact ⟨rfl, (pw_below_drewN (Below.refl w.heap.size w) n1).trans hb2⟩
      | false =>
        rw [hb, if_neg (by decide)] at h
        simp only [hb] at hp
        obtain rfl := Option.some.inj h
        clear hb
        go_enter Try.func114, Try.ntmps114
        go_wp2_with fail
        refine (names_head.calls 6 ⟨#[]⟩ _ rfl).mono ?_
        rintro e w1 ⟨rfl, n1, rfl⟩
        go_wp2_with fail
        refine (hp _).mono ?_
        rintro e w2 ⟨rfl, hb2⟩
        go_wp2_with fail
        go_ret
        exact ⟨rfl, (pw_below_drewN (Below.refl w.heap.size w) n1).trans hb2⟩
    · rw [if_neg hs] at h; cases h
  · rw [if_neg h6] at h; cases h
end Go.Proofs.Ytipgldfbjlhpoab.P
