/- msg.Check: why a message may not be: its contract. -/
import Derived.Test.YtipgldfbjlhpoabHMsg1
import Derived.Test.YtipgldfbjlhpoabHNames
import Derived.Test.YtipgldfbjlhpoabPWireL
import Derived.Deep.LoopGhost
import Derived.Deep.CutRange
import Derived.Deep.DeepCutAuto
namespace Go.Proofs.Ytipgldfbjlhpoab.P
set_option linter.unusedVariables false
set_option linter.unusedSimpArgs false
open Go.RowKit Go.Proofs.Ytipgldfbjlhpoab.Sha Go.Proofs.Ytipgldfbjlhpoab.Msg Go.Proofs.YtipgldfbjlhpoabW.PrintWords Go.Proofs.YtipgldfbjlhpoabW.PrintLast Go.Proofs.YtipgldfbjlhpoabW.PrintMore
set_option maxRecDepth 100000
def joinK : Nat := 400
def badN (n : Int) : Bool := decide (n < 0) || decide (1099511627776 < n)
def msg_Check.f (kind : Int) (from_ : ByteArray) (ts ls : List ByteArray) (ns : List Int) : Option Int :=
  (msg_of.f kind).bind fun s => if s.2.2.2 = false then some 1 else
    if ¬ (ts.length : Int) = s.1 then some 6 else if ¬ (ns.length : Int) = s.2.1 then some 6 else if 0 < ls.length ∧ s.2.2.1 = false then some 6 else
    (names_Check.f 6 from_).bind fun e => if e = 0 then
      (if ns.any badN = true then some 3 else (wire_Join.f joinK ts).bind fun x => if x.2 = 0 then ((wire_Join.f joinK ls).bind fun y => some y.2) else some x.2) else some 7
theorem badN_none {ns : List Int} (h : ¬ ns.any badN = true) (k : Nat) (hk : k < ns.length) : 0 ≤ ns[k] ∧ ns[k] ≤ 1099511627776 := by
  have : badN ns[k] = false := by
    cases hb : badN ns[k] with
    | false => rfl
    | true => exact absurd (List.any_eq_true.mpr ⟨ns[k], List.getElem_mem hk, hb⟩) h
  unfold badN at this
  rw [Bool.or_eq_false_iff, decide_eq_false_iff_not, decide_eq_false_iff_not] at this
  omega
theorem int_at {w : World} {A : Option Addr} {xs : List Int} (h : Kd.C (Kd.int .i64) w A xs.length xs) (k : Nat) (hk : k < xs.length) : ∃ ad, A = some ad ∧ w.cell? (ad.add k) = some (.int .i64 xs[k]) := by
  obtain ⟨ad, c, e, _, hK, hc⟩ := Kd.C_get h 0 (k : Int) (by omega) (by omega)
  have e1 : xs.getD (k : Int).toNat 0 = xs[k] := by rw [Int.toNat_natCast, List.getD_eq_getElem?_getD, List.getElem?_eq_getElem hk]; rfl
  rw [e1] at hK
  have hK' : c = [.int .i64 xs[k]] := hK
  subst hK'
  have := hc 0 _ rfl
  rw [Int.toNat_natCast] at this
  refine ⟨ad, e, ?_⟩
  have h1 : (Kd.int .i64).sz = 1 := rfl
  rw [h1, Nat.mul_one, Nat.add_zero] at this
  exact this
def AllGood (ns : List Int) (k : Nat) : Prop := ∀ (j : Nat) (hj : j < ns.length), j < k → badN ns[j] = false
theorem AllGood.step {ns : List Int} {k : Nat} (h : AllGood ns k) (hk : k < ns.length) (hb : badN ns[k] = false) : AllGood ns (k + 1) := fun j hj hjk => by
  by_cases e : j = k
  · subst e; exact hb
  · exact h j hj (by omega)
theorem AllGood.none {ns : List Int} (h : AllGood ns ns.length) : ns.any badN = false := by
  rw [List.any_eq_false]
  intro x hx
  obtain ⟨j, hj, rfl⟩ := List.mem_iff_getElem.mp hx
  rw [h j hj hj]
  decide
def JRel (k : Nat) (x r : Int) : Prop := (1 ≤ k → x = 0) ∧ (2 ≤ k → r = 0)
structure MC (w W : World) (p : Nat) (cs : Array Value) (A2 A3 A4 : Option Addr) (ts ls : List ByteArray) (ns : List Int) : Prop where
  hm : W.heap[p]? = some (.cells cs 66 (0, 0))
  h2 : Kd.C Kd.string W A2 ts.length ts
  h3 : Kd.C Kd.string W A3 ls.length ls
  h4 : Kd.C (Kd.int .i64) W A4 ns.length ns
  below : Below w.heap.size w W
theorem MC.under {w W W' : World} {p : Nat} {cs : Array Value} {A2 A3 A4 : Option Addr} {ts ls : List ByteArray} {ns : List Int} (h : MC w W p cs A2 A3 A4 ts ls ns) (hb : Below W.heap.size W W') : MC w W' p cs A2 A3 A4 ts ls ns :=
  ⟨blk_below h.hm hb, Kd.C_below h.h2 hb, Kd.C_below h.h3 hb, Kd.C_below h.h4 hb, h.below.trans (hb.mono h.below.size)⟩
set_option maxHeartbeats 4000000 in
theorem msg_Check.calls (a0_0 : Int) (a0_1 : ByteArray) (A0_2 : Option Addr) (c0_2 : Nat) (l0_2 : List ByteArray) (A0_3 : Option Addr) (c0_3 : Nat) (l0_3 : List ByteArray) (A0_4 : Option Addr) (c0_4 : Nat) (l0_4 : List Int) (r : Int) (w : World)
    (hr0_2 : Kd.C Kd.string w A0_2 l0_2.length l0_2) (hc0_2 : l0_2.length ≤ c0_2) (hr0_3 : Kd.C Kd.string w A0_3 l0_3.length l0_3) (hc0_3 : l0_3.length ≤ c0_3) (hr0_4 : Kd.C (Kd.int .i64) w A0_4 l0_4.length l0_4) (hc0_4 : l0_4.length ≤ c0_4) (h : msg_Check.f a0_0 a0_1 l0_2 l0_3 l0_4 = some r) :
    Calls Try.prog 47 #[.agg #[.int .i64 a0_0, .string a0_1, .slice A0_2 l0_2.length c0_2, .slice A0_3 l0_3.length c0_3, .slice A0_4 l0_4.length c0_4]] w fun e w' => e = .returned (.int .i64 r) ∧ Below w.heap.size w w' := by
  unfold msg_Check.f at h
  obtain ⟨⟨s1, s2, s3, s4⟩, hof, h⟩ := Option.bind_eq_some_iff.mp h
  have hm4 := Kd.C_max hr0_4
  have HF := Lib.hid h
  clear h
  have hnew : Below w.heap.size w (w.alloc (.cells #[.int .i64 a0_0, .string a0_1, .slice A0_2 l0_2.length c0_2, .slice A0_3 l0_3.length c0_3, .slice A0_4 l0_4.length c0_4] 66)) := (Below.refl _ _).alloc (Nat.le_refl _) _
  have HM0 := Lib.hid (show MC w (w.alloc (.cells #[.int .i64 a0_0, .string a0_1, .slice A0_2 l0_2.length c0_2, .slice A0_3 l0_3.length c0_3, .slice A0_4 l0_4.length c0_4] 66)) w.heap.size #[.int .i64 a0_0, .string a0_1, .slice A0_2 l0_2.length c0_2, .slice A0_3 l0_3.length c0_3, .slice A0_4 l0_4.length c0_4] A0_2 A0_3 A0_4 l0_2 l0_3 l0_4 from
    ⟨heap_alloc_new w _, Kd.C_alloc hr0_2 _, Kd.C_alloc hr0_3 _, Kd.C_alloc hr0_4 _, hnew⟩)
  clear hr0_2 hr0_3 hr0_4 hnew
  go_enter Try.func47, Try.ntmps47
  go_upto_region 1 with fail
  go_cut [1, 3, 4] (fun v1 v3 v4 wx => v4 = .bool s4 ∧ ∃ p g, v1 = .pointer (some ⟨p, 0, none⟩) ∧ v3 = .pointer (some ⟨g, 0, none⟩) ∧ MC w wx p #[.int .i64 a0_0, .string a0_1, .slice A0_2 l0_2.length c0_2, .slice A0_3 l0_3.length c0_3, .slice A0_4 l0_4.length c0_4] A0_2 A0_3 A0_4 l0_2 l0_3 l0_4 ∧ wx.heap[g]? = some (.cells #[.int .i64 s1, .int .i64 s2, .bool s3] 160 (0, 0)))
  case first =>
    go_wp2_with fail
    refine (msg_of.calls _ _ _ _ _ _ hof).mono ?_
    rintro e w2 ⟨rfl, hb2⟩
    have hM2 := HM0.out.under hb2
    clear hb2 HM0
    go_wp2_with fail
    go_meet
    exact ⟨rfl, _, _, rfl, rfl, hM2.under ((Below.refl _ _).alloc (Nat.le_refl _) _), heap_alloc_new w2 _⟩
  case rest =>
    obtain ⟨rfl, p, g, rfl, rfl, hM, hg⟩ := hcut
    clear HM0 hof
    have m1 : wc.cell? ⟨p, 1, none⟩ = some (.string a0_1) := (cell_of_row _ _ _ _ _ _ hM.hm).trans rfl
    have m2 : wc.cell? ⟨p, 2, none⟩ = some (.slice A0_2 l0_2.length c0_2) := (cell_of_row _ _ _ _ _ _ hM.hm).trans rfl
    have m3 : wc.cell? ⟨p, 3, none⟩ = some (.slice A0_3 l0_3.length c0_3) := (cell_of_row _ _ _ _ _ _ hM.hm).trans rfl
    have m4 : wc.cell? ⟨p, 4, none⟩ = some (.slice A0_4 l0_4.length c0_4) := (cell_of_row _ _ _ _ _ _ hM.hm).trans rfl
    have g0 : wc.cell? ⟨g, 0, none⟩ = some (.int .i64 s1) := (cell_of_row _ _ _ _ _ _ hg).trans rfl
    have g1 : wc.cell? ⟨g, 1, none⟩ = some (.int .i64 s2) := (cell_of_row _ _ _ _ _ _ hg).trans rfl
    have g2 : wc.cell? ⟨g, 2, none⟩ = some (.bool s3) := (cell_of_row _ _ _ _ _ _ hg).trans rfl
    have HM := Lib.hid hM
    clear hM hg
    have h := HF.out
    dsimp only at h
    clear HF
    cases s4 with
    | false =>
      rw [if_pos rfl] at h
      obtain rfl := Option.some.inj h
      go_wp2
      go_ret
      exact ⟨rfl, HM.out.below⟩
    | true =>
      rw [if_neg (by decide)] at h
      by_cases q1 : (l0_2.length : Int) = s1
      · rw [if_neg (by simpa using q1)] at h
        by_cases q2 : (l0_4.length : Int) = s2
        · rw [if_neg (by simpa using q2)] at h
          by_cases q3 : 0 < l0_3.length ∧ s3 = false
          · rw [if_pos q3] at h
            obtain rfl := Option.some.inj h
            obtain ⟨q3, rfl⟩ := q3
            have q3i : (0 : Int) < (l0_3.length : Int) := by omega
            go_wp2
            go_ret
            exact ⟨rfl, HM.out.below⟩
          · rw [if_neg q3] at h
            have H := Lib.hid h
            clear h
            go_upto_region 4 with fail
            go_cut [20] (fun v20 wx => v20 = .bool false ∧ MC w wx p #[.int .i64 a0_0, .string a0_1, .slice A0_2 l0_2.length c0_2, .slice A0_3 l0_3.length c0_3, .slice A0_4 l0_4.length c0_4] A0_2 A0_3 A0_4 l0_2 l0_3 l0_4)
            case first =>
              by_cases q4 : 0 < l0_3.length
              · have q4i : (0 : Int) < (l0_3.length : Int) := by omega
                have q5 : s3 = true := by
                  cases s3 with
                  | true => rfl
                  | false => exact absurd ⟨q4, rfl⟩ q3
                subst q5
                clear q3
                go_wp2_with fail
                go_meet
                exact ⟨rfl, HM.out⟩
              · have q4i : ¬ (0 : Int) < (l0_3.length : Int) := by omega
                clear q3
                go_wp2_with fail
                go_meet
                exact ⟨rfl, HM.out⟩
            case rest =>
              clear q3 q1 q2 m1 m2 m3 m4 g0 g1 g2
              clear HM
              obtain ⟨rfl, hM⟩ := hcut
              have m1 : wc.cell? ⟨p, 1, none⟩ = some (.string a0_1) := (cell_of_row _ _ _ _ _ _ hM.hm).trans rfl
              have HM := Lib.hid hM
              clear hM
              obtain ⟨e0, hnc, h⟩ := Option.bind_eq_some_iff.mp H.out
              clear H
              go_wp2_with fail
              refine (names_Check.calls 6 a0_1 e0 _ hnc).mono ?_
              rintro e wn ⟨rfl, hb⟩
              have hM := HM.out.under hb
              clear HM hb m1 hnc
              have m2 : wn.cell? ⟨p, 2, none⟩ = some (.slice A0_2 l0_2.length c0_2) := (cell_of_row _ _ _ _ _ _ hM.hm).trans rfl
              have m3 : wn.cell? ⟨p, 3, none⟩ = some (.slice A0_3 l0_3.length c0_3) := (cell_of_row _ _ _ _ _ _ hM.hm).trans rfl
              have m4 : wn.cell? ⟨p, 4, none⟩ = some (.slice A0_4 l0_4.length c0_4) := (cell_of_row _ _ _ _ _ _ hM.hm).trans rfl
              have HM := Lib.hid hM
              clear hM
              by_cases he : e0 = 0
              · subst he
                rw [if_pos rfl] at h
                have H := Lib.hid h
                clear h
                go_wp2
                go_loop [54] (fun i => ∃ k : Nat, k ≤ l0_4.length ∧ i = .int .i64 (k : Int) ∧ AllGood l0_4 k) (fun i => l0_4.length - (intOf i).toNat)
                case atStart => exact ⟨0, Nat.zero_le _, rfl, fun j _ hj => by omega⟩
                case round =>
                  obtain ⟨k, hk, rfl, hg⟩ := hrel
                  have HG := Lib.hid hg
                  clear hg
                  by_cases hlt : k < l0_4.length
                  · have hki : (k : Int) < (l0_4.length : Int) := by omega
                    obtain ⟨ad, had, hc⟩ := int_at HM.out.h4 k hlt
                    obtain ⟨x, hx⟩ : ∃ x, x = l0_4[k] := ⟨_, rfl⟩
                    rw [← hx] at hc
                    have HX := Lib.hid hx
                    clear hx
                    subst had
                    by_cases b1 : x < 0
                    · have hr : r = 3 := by
                        have h := H.out
                        rw [if_pos (List.any_eq_true.mpr ⟨l0_4[k], List.getElem_mem hlt, by rw [← HX.out]; simp [badN, b1]⟩)] at h
                        exact (Option.some.inj h).symm
                      subst hr
                      go_wp2
                      go_ret
                      exact ⟨rfl, HM.out.below⟩
                    · by_cases b2 : 1099511627776 < x
                      · have hr : r = 3 := by
                          have h := H.out
                          rw [if_pos (List.any_eq_true.mpr ⟨l0_4[k], List.getElem_mem hlt, by rw [← HX.out]; simp [badN, b2]⟩)] at h
                          exact (Option.some.inj h).symm
                        subst hr
                        go_wp2
                        go_ret
                        exact ⟨rfl, HM.out.below⟩
                      · go_wp2
                        refine ⟨⟨k + 1, by omega, by go_num, HG.out.step hlt (by rw [← HX.out]; simp [badN, b1, b2])⟩, by simp [intOf]; omega⟩
                  · have hki : ¬ (k : Int) < (l0_4.length : Int) := by omega
                    obtain rfl : k = l0_4.length := by omega
                    have h := H.out
                    rw [if_neg (by rw [HG.out.none]; decide)] at h
                    obtain ⟨⟨x1, x2⟩, hx, h⟩ := Option.bind_eq_some_iff.mp h
                    dsimp only at h
                    clear H HG
                    have H := Lib.hid h
                    clear h
                    have i0 : ∀ W, (Instr.index 167 (.agg #[.slice A0_2 l0_2.length c0_2, .slice A0_3 l0_3.length c0_3]) (.int .i64 0)).run Try.prog W = .ok (.slice A0_2 l0_2.length c0_2) W := fun _ => by kernel_rfl
                    have i1 : ∀ W, (Instr.index 167 (.agg #[.slice A0_2 l0_2.length c0_2, .slice A0_3 l0_3.length c0_3]) (.int .i64 1)).run Try.prog W = .ok (.slice A0_3 l0_3.length c0_3) W := fun _ => by kernel_rfl
                    go_wp2
                    clear m2 m3 m4
                    go_loopw [70] (fun i wr => ∃ k : Nat, k ≤ 2 ∧ i = .int .i64 (k : Int) ∧ JRel k x2 r ∧ MC w wr p #[.int .i64 a0_0, .string a0_1, .slice A0_2 l0_2.length c0_2, .slice A0_3 l0_3.length c0_3, .slice A0_4 l0_4.length c0_4] A0_2 A0_3 A0_4 l0_2 l0_3 l0_4) (fun i _ => 2 - (intOf i).toNat)
                    case atStart => exact ⟨0, by omega, rfl, ⟨fun h => by omega, fun h => by omega⟩, HM.out⟩
                    case round =>
                      clear HM
                      obtain ⟨k, hk, rfl, hj, hM⟩ := hrel
                      have HJ := Lib.hid hj
                      have HM := Lib.hid hM
                      clear hj hM
                      rcases (show k = 0 ∨ k = 1 ∨ k = 2 by omega) with rfl | rfl | rfl
                      · go_wp2_with fail
                        refine (wire_Join.calls joinK A0_2 c0_2 l0_2 x1 x2 _ HM.out.h2 hc0_2 hx).mono ?_
                        rintro e wj ⟨rfl, hb⟩
                        have HM2 := Lib.hid (HM.out.under hb)
                        clear hb HM
                        by_cases hx2 : x2 = 0
                        · subst hx2
                          go_wp2_with fail
                          refine ⟨⟨1, by omega, rfl, ⟨fun _ => rfl, fun h => by omega⟩, HM2.out⟩, by simp [intOf]⟩
                        · have hr : r = x2 := by
                            have h := H.out
                            rw [if_neg hx2] at h
                            exact (Option.some.inj h).symm
                          subst hr
                          go_wp2
                          go_ret
                          exact ⟨rfl, HM2.out.below⟩
                      · have hx2 : x2 = 0 := HJ.out.1 (by omega)
                        subst hx2
                        have h := H.out
                        rw [if_pos rfl] at h
                        obtain ⟨⟨y1, y2⟩, hy, h⟩ := Option.bind_eq_some_iff.mp h
                        obtain rfl : y2 = r := Option.some.inj h
                        clear h
                        go_wp2_with fail
                        refine (wire_Join.calls joinK A0_3 c0_3 l0_3 y1 y2 _ HM.out.h3 hc0_3 hy).mono ?_
                        rintro e wj ⟨rfl, hb⟩
                        have HM2 := Lib.hid (HM.out.under hb)
                        clear hb HM
                        by_cases hy2 : y2 = 0
                        · subst hy2
                          go_wp2_with fail
                          refine ⟨⟨2, by omega, rfl, ⟨fun _ => rfl, fun _ => rfl⟩, HM2.out⟩, by simp [intOf]⟩
                        · go_wp2
                          go_ret
                          exact ⟨rfl, HM2.out.below⟩
                      · have hr : r = 0 := HJ.out.2 (by omega)
                        subst hr
                        go_wp2
                        go_ret
                        exact ⟨rfl, HM.out.below⟩
              · rw [if_neg he] at h
                obtain rfl := Option.some.inj h
                go_wp2
                go_ret
                exact ⟨rfl, HM.out.below⟩
        · rw [if_pos (by simpa using q2)] at h
          obtain rfl := Option.some.inj h
          go_wp2
          go_ret
          exact ⟨rfl, HM.out.below⟩
      · rw [if_pos (by simpa using q1)] at h
        obtain rfl := Option.some.inj h
        go_wp2
        go_ret
        exact ⟨rfl, HM.out.below⟩
end Go.Proofs.Ytipgldfbjlhpoab.P
