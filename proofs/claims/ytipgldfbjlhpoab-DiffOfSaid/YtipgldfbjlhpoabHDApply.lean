/- diff.Apply: pairs with changes: its contract. -/
import Derived.Test.YtipgldfbjlhpoabHDAp3
import Derived.Laws.EntriesVeiled
namespace Go.Proofs.Ytipgldfbjlhpoab.P
set_option linter.unusedVariables false
set_option linter.unusedSimpArgs false
open Go.RowKit Go.Proofs.YtipgldfbjlhpoabW.PrintWords Go.Proofs.YtipgldfbjlhpoabW.PrintLast Go.Proofs.YtipgldfbjlhpoabW.PrintMore
set_option maxRecDepth 100000
def diff_Apply.f (l0 : List S86) (l1 : List S62) : Option (List S86 × Int) :=
  if l0.length + l1.length < 3518437208883 then (if risP l0 (l0.length - 1) = true then (if (risC l1 (l1.length - 1) && cleanC l1 l1.length) = true then (if apE 0 l0 l1 = 0 then some (apM l0 l1, 0) else some ([], apE 0 l0 l1)) else some ([], 6)) else some ([], 6)) else none
set_option maxHeartbeats 4000000 in
theorem diff_Apply.calls (A0 : Option Addr) (c0 : Nat) (l0 : List (S86)) (A1 : Option Addr) (c1 : Nat) (l1 : List (S62)) (r1 : List (S86)) (r2 : Int) (w : World) (hr0 : Kd.C k86 w A0 l0.length l0) (hc0 : l0.length ≤ c0) (hr1 : Kd.C k62 w A1 l1.length l1) (hc1 : l1.length ≤ c1) (h : diff_Apply.f l0 l1 = some (r1, r2)) :
    Calls Try.prog 31 #[.slice A0 l0.length c0, .slice A1 l1.length c1] w fun e w' => ∃ v0_ : Value, e = .returned (.tuple #[v0_, .int .i64 r2]) ∧ Kd.R k86 86 w' w.heap.size (fun _ => True) v0_ r1 ∧ Below w.heap.size w w' := by
  unfold diff_Apply.f at h
  by_cases hsz : l0.length + l1.length < 3518437208883
  · rw [if_pos hsz] at h
    have hcall := risingP_any A0 c0 l0 w hr0
    obtain ⟨b0, hb0⟩ : ∃ b, b = risP l0 (l0.length - 1) := ⟨_, rfl⟩
    obtain ⟨b1, hb1⟩ : ∃ b, b = (risC l1 (l1.length - 1) && cleanC l1 l1.length) := ⟨_, rfl⟩
    rw [← hb0] at h hcall
    rw [← hb1] at h
    have hcall1 := fun W (hC : Kd.C k62 W A1 l1.length l1) => diff_fine.calls A1 c1 l1 b1 W hC hc1 (by unfold diff_fine.f; rw [hb1])
    clear hb0 hb1
    have HC0 := Lib.hid hr0
    have HC1 := Lib.hid hr1
    clear hr0 hr1
    cases b0 with
    | false =>
      rw [if_neg (by decide)] at h
      simp only [Option.some.injEq, Prod.mk.injEq] at h
      obtain ⟨rfl, rfl⟩ := h
      clear hcall1
      go_enter Try.func31, Try.ntmps31
      go_wp2_with fail
      refine hcall.mono ?_
      rintro e w1 ⟨rfl, hb⟩
      clear hcall
      go_wp2
      go_ret2
      exact ⟨_, rfl, Kd.R_nil _ _ _ _ _, hb⟩
    | true =>
      rw [if_pos rfl] at h
      cases b1 with
      | false =>
        rw [if_neg (by decide)] at h
        simp only [Option.some.injEq, Prod.mk.injEq] at h
        obtain ⟨rfl, rfl⟩ := h
        go_enter Try.func31, Try.ntmps31
        go_wp2_with fail
        refine hcall.mono ?_
        rintro e w1 ⟨rfl, hb⟩
        clear hcall
        have hcall := hcall1 w1 (Kd.C_below HC1.out hb)
        have HB := Lib.hid hb
        clear hb hcall1
        go_wp2_with fail
        refine hcall.mono ?_
        rintro e w2 ⟨rfl, hb⟩
        clear hcall
        go_wp2
        go_ret2
        exact ⟨_, rfl, Kd.R_nil _ _ _ _ _, HB.out.trans (hb.mono HB.out.size)⟩
      | true =>
        rw [if_pos rfl] at h
        have H := Lib.hid h
        clear h
        go_enter Try.func31, Try.ntmps31
        go_wp2_with fail
        refine hcall.mono ?_
        rintro e w1 ⟨rfl, hb⟩
        clear hcall
        have hcall := hcall1 w1 (Kd.C_below HC1.out hb)
        have HB := Lib.hid hb
        clear hb hcall1
        go_wp2_with fail
        refine hcall.mono ?_
        rintro e w2 ⟨rfl, hb⟩
        clear hcall
        replace HB := Lib.hid (HB.out.trans (hb.mono HB.out.size))
        clear hb
        have hlt : w.heap.size ≤ w2.heap.size := HB.out.size
        have s1 : (w2.alloc (.cells #[.slice none 0 0] 39)).heap.size = w2.heap.size + 1 := by simp
        have s2 : ((w2.alloc (.cells #[.slice none 0 0] 39)).alloc (.cells #[.int .i64 0] 25)).heap.size = w2.heap.size + 2 := by simp
        have s3 : (((w2.alloc (.cells #[.slice none 0 0] 39)).alloc (.cells #[.int .i64 0] 25)).alloc (.cells #[.func (.func 89) #[] #[.pointer (some ⟨w2.heap.size, 0, none⟩)]] 131)).heap.size = w2.heap.size + 3 := by simp
        have k0 := heap_alloc_new w2 (.cells #[.slice none 0 0] 39)
        have k1 := heap_alloc_new (w2.alloc (.cells #[.slice none 0 0] 39)) (.cells #[.int .i64 0] 25)
        have k2 := heap_alloc_new ((w2.alloc (.cells #[.slice none 0 0] 39)).alloc (.cells #[.int .i64 0] 25)) (.cells #[.func (.func 89) #[] #[.pointer (some ⟨w2.heap.size, 0, none⟩)]] 131)
        have s4 : ((((w2.alloc (.cells #[.slice none 0 0] 39)).alloc (.cells #[.int .i64 0] 25)).alloc (.cells #[.func (.func 89) #[] #[.pointer (some ⟨w2.heap.size, 0, none⟩)]] 131)).alloc (.cells #[.slice A0 l0.length c0, .slice A1 l1.length c1, .func (.func 82) #[] #[], .func (.func 90) #[] #[]] 134)).heap.size = w2.heap.size + 4 := by simp
        have k3 := heap_alloc_new ((((w2.alloc (.cells #[.slice none 0 0] 39)).alloc (.cells #[.int .i64 0] 25)).alloc (.cells #[.func (.func 89) #[] #[.pointer (some ⟨w2.heap.size, 0, none⟩)]] 131)).alloc (.cells #[.slice A0 l0.length c0, .slice A1 l1.length c1, .func (.func 82) #[] #[], .func (.func 90) #[] #[]] 134)) (.cells #[.slice A0 l0.length c0, .slice A1 l1.length c1, .func (.func 82) #[] #[], .func (.func 90) #[] #[]] 134)
        rw [s1] at k1
        rw [s2] at k2
        have hE : EA w (((((w2.alloc (.cells #[.slice none 0 0] 39)).alloc (.cells #[.int .i64 0] 25)).alloc (.cells #[.func (.func 89) #[] #[.pointer (some ⟨w2.heap.size, 0, none⟩)]] 131)).alloc (.cells #[.slice A0 l0.length c0, .slice A1 l1.length c1, .func (.func 82) #[] #[], .func (.func 90) #[] #[]] 134)).alloc (.cells #[.slice A0 l0.length c0, .slice A1 l1.length c1, .func (.func 82) #[] #[], .func (.func 90) #[] #[]] 134)) w2.heap.size ((((w2.alloc (.cells #[.slice none 0 0] 39)).alloc (.cells #[.int .i64 0] 25)).alloc (.cells #[.func (.func 89) #[] #[.pointer (some ⟨w2.heap.size, 0, none⟩)]] 131)).alloc (.cells #[.slice A0 l0.length c0, .slice A1 l1.length c1, .func (.func 82) #[] #[], .func (.func 90) #[] #[]] 134)).heap.size (w2.heap.size + 1) (w2.heap.size + 2) (.slice none 0 0) [] 0 #[.slice A0 l0.length c0, .slice A1 l1.length c1, .func (.func 82) #[] #[], .func (.func 90) #[] #[]] :=
          ⟨⟨blk_alloc (blk_alloc (blk_alloc (blk_alloc k0 _) _) _) _, Kd.R_nil _ _ _ _ _, hlt⟩, k3, blk_alloc (blk_alloc (blk_alloc k1 _) _) _, blk_alloc (blk_alloc k2 _) _, by simp [Value.ownBlock], by simp [Value.ownBlock], by simp [Value.ownBlock],
            by rw [s4]; omega, by omega, by omega, by rw [s4]; omega, by omega, by omega, ((((HB.out.alloc hlt _).alloc (by rw [s1]; omega) _).alloc (by rw [s2]; omega) _).alloc (by rw [s3]; omega) _).alloc (by rw [s4]; omega) _⟩
        have hcall := eachA_any w w2.heap.size (w2.heap.size + 1) (w2.heap.size + 2) A0 c0 l0 A1 c1 l1 (.slice none 0 0) ((((w2.alloc (.cells #[.slice none 0 0] 39)).alloc (.cells #[.int .i64 0] 25)).alloc (.cells #[.func (.func 89) #[] #[.pointer (some ⟨w2.heap.size, 0, none⟩)]] 131)).alloc (.cells #[.slice A0 l0.length c0, .slice A1 l1.length c1, .func (.func 82) #[] #[], .func (.func 90) #[] #[]] 134)) HC0.out hc0 HC1.out hc1 hE hsz
        clear k0 k1 k2 k3 hE s1 s2 s3 s4
        obtain ⟨R, hR⟩ : ∃ R, R = apM l0 l1 := ⟨_, rfl⟩
        obtain ⟨E, hE⟩ : ∃ E, E = apE 0 l0 l1 := ⟨_, rfl⟩
        have h := H.out
        rw [← hR, ← hE] at h hcall
        clear H hR hE
        have H := Lib.hid h
        clear h
        go_wp2_with fail
        refine hcall.mono ?_
        rintro e w3 ⟨rfl, v1, m, hE⟩
        clear hcall
        have HE := Lib.hid hE
        have x0 := hE.hO.cell.1
        have y0 : w3.cell? ⟨w2.heap.size + 1, 0, none⟩ = some (.int .i64 E) := (cell_of_row _ _ _ _ _ _ hE.he).trans rfl
        obtain ⟨A, c, rfl⟩ := Kd.R_slice hE.hO.hR
        clear hE
        by_cases he : E = 0
        · have h := H.out
          rw [if_pos he] at h
          simp only [Option.some.injEq, Prod.mk.injEq] at h
          obtain ⟨rfl, rfl⟩ := h
          subst he
          clear H
          go_wp2
          go_ret2
          exact ⟨_, rfl, HE.out.hO.hR, HE.out.below⟩
        · have h := H.out
          rw [if_neg he] at h
          simp only [Option.some.injEq, Prod.mk.injEq] at h
          obtain ⟨rfl, rfl⟩ := h
          clear H
          go_wp2
          go_quiet (fail)
          go_wp2
          go_ret2
          exact ⟨_, rfl, Kd.R_nil _ _ _ _ _, HE.out.below.trans (pw_below_drewN (Below.refl _ _) nq)⟩
  · rw [if_neg hsz] at h
    cases h
end Go.Proofs.Ytipgldfbjlhpoab.P
