/- diff.Of: what has changed: its contract. -/
import Derived.Test.YtipgldfbjlhpoabHDOf2
namespace Go.Proofs.Ytipgldfbjlhpoab.P
set_option linter.unusedVariables false
set_option linter.unusedSimpArgs false
open Go.RowKit Go.Proofs.YtipgldfbjlhpoabW.PrintWords Go.Proofs.YtipgldfbjlhpoabW.PrintLast Go.Proofs.YtipgldfbjlhpoabW.PrintMore
set_option maxRecDepth 100000
def diff_Of.f (l0 l1 : List S86) : Option (List S62 × Int) :=
  if l0.length + l1.length < 3518437208883 then (if risP l0 (l0.length - 1) = true then (if risP l1 (l1.length - 1) = true then some (ofM l0 l1, 0) else some ([], 6)) else some ([], 6)) else none
set_option maxHeartbeats 4000000 in
theorem diff_Of.calls (A0 : Option Addr) (c0 : Nat) (l0 : List (S86)) (A1 : Option Addr) (c1 : Nat) (l1 : List (S86)) (r1 : List (S62)) (r2 : Int) (w : World) (hr0 : Kd.C k86 w A0 l0.length l0) (hc0 : l0.length ≤ c0) (hr1 : Kd.C k86 w A1 l1.length l1) (hc1 : l1.length ≤ c1) (h : diff_Of.f l0 l1 = some (r1, r2)) :
    Calls Try.prog 29 #[.slice A0 l0.length c0, .slice A1 l1.length c1] w fun e w' => ∃ v0_ : Value, e = .returned (.tuple #[v0_, .int .i64 r2]) ∧ Kd.R k62 62 w' w.heap.size (fun _ => True) v0_ r1 ∧ Below w.heap.size w w' := by
  unfold diff_Of.f at h
  by_cases hsz : l0.length + l1.length < 3518437208883
  · rw [if_pos hsz] at h
    have hcall := risingP_any A0 c0 l0 w hr0
    have H := Lib.hid h
    have hlen : ∀ l : List S86, risP l (l.length - 1) = risP l (l.length - 1) := fun _ => rfl
    clear h hlen
    obtain ⟨b0, hb0⟩ : ∃ b, b = risP l0 (l0.length - 1) := ⟨_, rfl⟩
    obtain ⟨b1, hb1⟩ : ∃ b, b = risP l1 (l1.length - 1) := ⟨_, rfl⟩
    obtain ⟨n0, hn0⟩ : ∃ n, n = l0.length := ⟨_, rfl⟩
    rw [← hb0] at H hcall
    rw [← hb1] at H
    have hcall1 := fun W (hC : Kd.C k86 W A1 l1.length l1) => risingP_any A1 c1 l1 W hC
    rw [← hb1] at hcall1
    clear hb0 hb1 hn0 n0
    have HC0 := Lib.hid hr0
    have HC1 := Lib.hid hr1
    clear hr0 hr1
    go_enter Try.func29, Try.ntmps29
    cases b0 with
    | false =>
      have h := H.out
      rw [if_neg (by decide)] at h
      simp only [Option.some.injEq, Prod.mk.injEq] at h
      obtain ⟨rfl, rfl⟩ := h
      clear H hcall1
      go_wp2_with fail
      refine hcall.mono ?_
      rintro e w1 ⟨rfl, hb⟩
      clear hcall
      go_wp2
      go_ret2
      exact ⟨_, rfl, Kd.R_nil _ _ _ _ _, hb⟩
    | true =>
      have h := H.out
      rw [if_pos rfl] at h
      clear H
      have H := Lib.hid h
      clear h
      go_wp2_with fail
      refine hcall.mono ?_
      rintro e w1 ⟨rfl, hb⟩
      clear hcall
      have hcall := hcall1 w1 (Kd.C_below HC1.out hb)
      clear hcall1
      have HB := Lib.hid hb
      clear hb
      have h := H.out
      clear H
      cases b1 with
      | false =>
        rw [if_neg (by decide)] at h
        simp only [Option.some.injEq, Prod.mk.injEq] at h
        obtain ⟨rfl, rfl⟩ := h
        go_wp2_with fail
        refine hcall.mono ?_
        rintro e w2 ⟨rfl, hb⟩
        clear hcall
        go_wp2
        go_ret2
        exact ⟨_, rfl, Kd.R_nil _ _ _ _ _, HB.out.trans (hb.mono HB.out.size)⟩
      | true =>
        rw [if_pos rfl] at h
        simp only [Option.some.injEq, Prod.mk.injEq] at h
        obtain ⟨rfl, rfl⟩ := h
        go_wp2_with fail
        refine hcall.mono ?_
        rintro e w2 ⟨rfl, hb⟩
        clear hcall
        replace HB := Lib.hid (HB.out.trans (hb.mono HB.out.size))
        clear hb
        have hlt : w.heap.size ≤ w2.heap.size := HB.out.size
        have hB2 : Below w.heap.size w ((w2.alloc (.cells #[.slice none 0 0] 40)).alloc (.cells #[.slice A0 l0.length c0, .slice A1 l1.length c1, .func (.func 82) #[] #[], .func (.func 82) #[] #[]] 126)) := (HB.out.alloc hlt _).alloc (by simp; omega) _
        have hcall := eachP_any w w2.heap.size A0 c0 l0 A1 c1 l1 (.slice none 0 0) _ HC0.out hc0 HC1.out hc1 ⟨heap_alloc2_old w2 _ _, Kd.R_nil _ _ _ _ _, hlt⟩ hB2 hsz
        have hset : ((w2.alloc (.cells #[.slice none 0 0] 40)).alloc (.cells #[.slice none 0 0, .slice none 0 0, .nilFunc, .nilFunc] 126)).setRow (w2.heap.size + 1) #[.slice A0 l0.length c0, .slice A1 l1.length c1, .func (.func 82) #[] #[], .func (.func 82) #[] #[]] = (w2.alloc (.cells #[.slice none 0 0] 40)).alloc (.cells #[.slice A0 l0.length c0, .slice A1 l1.length c1, .func (.func 82) #[] #[], .func (.func 82) #[] #[]] 126) := by
          have := World.setRow_alloc_new (w2.alloc (.cells #[.slice none 0 0] 40)) #[.slice none 0 0, .slice none 0 0, .nilFunc, .nilFunc] #[.slice A0 l0.length c0, .slice A1 l1.length c1, .func (.func 82) #[] #[], .func (.func 82) #[] #[]] 126
          rwa [show (w2.alloc (.cells #[.slice none 0 0] 40)).heap.size = w2.heap.size + 1 by simp] at this
        go_wp2_with (refine wpList_store_row rfl 126 (.tmp 7) (.tmp 18) rfl (w2.heap.size + 1) #[.slice A0 l0.length c0, .slice A1 l1.length c1, .func (.func 82) #[] #[], .func (.func 82) #[] #[]] rfl rfl 126 _ (heap_alloc2_new w2 _ _) (by kernel_rfl) rfl (by simp [Value.oneCell']) ?_; rw [hset])
        refine hcall.mono ?_
        rintro e w3 ⟨rfl, v1, hO, hb⟩
        clear hcall
        have x0 := hO.cell.1
        have HO := Lib.hid hO
        obtain ⟨A, c, rfl⟩ := Kd.R_slice hO.hR
        clear hO
        go_wp2
        go_ret2
        exact ⟨_, rfl, HO.out.hR, hb⟩
  · rw [if_neg hsz] at h
    cases h
end Go.Proofs.Ytipgldfbjlhpoab.P
