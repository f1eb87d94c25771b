/- diff.Apply: going over pairs and changes by rising keys. -/
import Derived.Test.YtipgldfbjlhpoabHDOf2
import Derived.Test.YtipgldfbjlhpoabHDAp2
import Derived.BigQuiet
import Derived.Deep.RegionHeld3
namespace Go.Proofs.Ytipgldfbjlhpoab.P
set_option linter.unusedVariables false
set_option linter.unusedSimpArgs false
open Go.RowKit Go.Proofs.YtipgldfbjlhpoabW.PrintWords Go.Proofs.YtipgldfbjlhpoabW.PrintLast Go.Proofs.YtipgldfbjlhpoabW.PrintMore
set_option maxRecDepth 100000
def apM : List S86 → List S62 → List S86
  | [], [] => []
  | x :: a, [] => x :: apM a []
  | [], y :: b => putC y ++ apM [] b
  | x :: a, y :: b => if Op.bytesLess x.f0.toList y.f0.toList = true then x :: apM a (y :: b) else if Op.bytesLess y.f0.toList x.f0.toList = true then putC y ++ apM (x :: a) b else putC y ++ apM a b
termination_by a b => a.length + b.length
def apE (er : Int) : List S86 → List S62 → Int
  | [], [] => er
  | x :: a, [] => apE er a []
  | [], y :: b => apE (if y.f2 = true then 8 else er) [] b
  | x :: a, y :: b => if Op.bytesLess x.f0.toList y.f0.toList = true then apE er a (y :: b) else if Op.bytesLess y.f0.toList x.f0.toList = true then apE (if y.f2 = true then 8 else er) (x :: a) b else apE er a b
termination_by a b => a.length + b.length
theorem putC_le (c : S62) : (putC c).length ≤ 1 := by
  unfold putC
  split <;> simp
theorem tailC {w0 : World} {A : Option Addr} {c n : Nat} {x : S62} {l : List S62} (hn : n = (x :: l).length) (h : Kd.C k62 w0 A (x :: l).length (x :: l)) (e : (x :: l).length ≤ c) :
    ∃ A1, (∀ W : World, (Instr.slice 40 (.slice A n c) (some (.int .i64 1)) none none).run Try.prog W = .ok (.slice A1 l.length (c - 1)) W) ∧ Kd.C k62 w0 A1 l.length l ∧ l.length ≤ c - 1 := by
  obtain ⟨i0, hi, _, hsz, _⟩ := info_parts info62
  have hl : (x :: l).length = l.length + 1 := rfl
  have h1 := cut_from (P := Try.prog) 40 62 .i64 Try.underlying40 hi 3 hsz A n c 1 (by decide) (by omega)
  have h2 := Kd.C_drop (m := 1) (c := c) h (by omega) e
  refine ⟨_, fun W => ?_, h2, ?_⟩
  · rw [h1 W, hn]
    rfl
  · change l.length ≤ c - 1
    omega
set_option maxHeartbeats 4000000 in
theorem eachA_any (w0 : World) (q pe p : Nat) (A : Option Addr) (c : Nat) (l : List S86) (A' : Option Addr) (c' : Nat) (l' : List S62) (v : Value) (W : World)
    (h1 : Kd.C k86 w0 A l.length l) (e1 : l.length ≤ c) (h2 : Kd.C k62 w0 A' l'.length l') (e2 : l'.length ≤ c') (hE : EA w0 (W.alloc (.cells #[.slice A l.length c, .slice A' l'.length c', .func (.func 82) #[] #[], .func (.func 90) #[] #[]] 134)) q W.heap.size pe p v [] 0 #[.slice A l.length c, .slice A' l'.length c', .func (.func 82) #[] #[], .func (.func 90) #[] #[]]) (hsz : l.length + l'.length < 3518437208883) :
    Calls Try.prog 91 #[.agg #[.slice A l.length c, .slice A' l'.length c', .func (.func 82) #[] #[], .func (.func 90) #[] #[]], .func (.func 92) #[] #[.pointer (some ⟨q, 0, none⟩)], .func (.func 93) #[] #[.pointer (some ⟨pe, 0, none⟩), .pointer (some ⟨p, 0, none⟩)], .func (.func 94) #[] #[.pointer (some ⟨p, 0, none⟩)]] W
      fun e w' => e = .returned (.tuple #[]) ∧ ∃ v1 m, EA w0 w' q m pe p v1 (apM l l') (apE 0 l l') #[.slice A l.length c, .slice A' l'.length c', .func (.func 82) #[] #[], .func (.func 90) #[] #[]] := by
  have HE := Lib.hid hE
  obtain ⟨m0, m1⟩ : (W.alloc (.cells #[.slice A l.length c, .slice A' l'.length c', .func (.func 82) #[] #[], .func (.func 90) #[] #[]] 134)).cell? ⟨W.heap.size, 0, none⟩ = some (.slice A l.length c) ∧ (W.alloc (.cells #[.slice A l.length c, .slice A' l'.length c', .func (.func 82) #[] #[], .func (.func 90) #[] #[]] 134)).cell? ⟨W.heap.size, 1, none⟩ = some (.slice A' l'.length c') :=
    ⟨(cell_of_row _ _ _ _ _ _ HE.out.hm).trans rfl, (cell_of_row _ _ _ _ _ _ HE.out.hm).trans rfl⟩
  clear hE
  go_enter Try.func91, Try.ntmps91
  go_wp2
  go_quiet (fail)
  replace HE := Lib.hid (HE.out.under (pw_below_drewN (Below.refl _ _) nq))
  obtain ⟨m, hm⟩ : ∃ m : Nat, m = W.heap.size := ⟨_, rfl⟩
  rw [← hm] at HE ⊢
  clear m0 m1 hm
  go_wp2
  go_loopw [8, 9] (fun a b wr => ∃ (done : List S86) (l1 : List S86) (l2 : List S62) (A1 : Option Addr) (c1 : Nat) (A2 : Option Addr) (c2 : Nat) (v1 : Value) (er : Int), a = .slice A1 l1.length c1 ∧ b = .slice A2 l2.length c2 ∧ Kd.C k86 w0 A1 l1.length l1 ∧ l1.length ≤ c1 ∧ Kd.C k62 w0 A2 l2.length l2 ∧ l2.length ≤ c2 ∧ apM l l' = done ++ apM l1 l2 ∧ apE 0 l l' = apE er l1 l2 ∧ done.length + l1.length + l2.length < 3518437208883 ∧
    EA w0 wr q m pe p v1 done er #[.slice A l.length c, .slice A' l'.length c', .func (.func 82) #[] #[], .func (.func 90) #[] #[]]) (fun a b _ => lenOf a + lenOf b)
  case atStart => exact ⟨[], l, l', A, c, A', c', v, 0, rfl, rfl, h1, e1, h2, e2, rfl, rfl, by simpa using hsz, HE.out⟩
  case round =>
    clear HE h1 h2 e1 e2
    obtain ⟨done, l1, l2, A1, c1, A2, c2, v1, er, rfl, rfl, h1, e1, h2, e2, hof, hor, hsz, hE⟩ := hrel
    have HOF := Lib.hid hof
    have HOR := Lib.hid hor
    have HE := Lib.hid hE
    clear hof hor hE
    have m2 : wr.cell? ⟨m, 2, none⟩ = some (.func (.func 82) #[] #[]) := (cell_of_row _ _ _ _ _ _ HE.out.hm).trans rfl
    have m3 : wr.cell? ⟨m, 3, none⟩ = some (.func (.func 90) #[] #[]) := (cell_of_row _ _ _ _ _ _ HE.out.hm).trans rfl
    cases l1 with
    | nil =>
      cases l2 with
      | nil =>
        have hof := HOF.out
        have hor := HOR.out
        rw [apM, List.append_nil] at hof
        rw [apE] at hor
        clear HOF HOR
        have HOF := Lib.hid hof
        have HOR := Lib.hid hor
        clear hof hor
        go_wp2
        go_end0
        exact ⟨rfl, v1, m, by rw [HOF.out, HOR.out]; exact HE.out⟩
      | cons y b =>
        obtain ⟨ad2, rfl, y0, y1, y2⟩ := at_T62 (Kd.C_below h2 HE.out.below) 0 (by decide) (by simp)
        change wr.cell? ad2 = some (.string y.f0) at y0
        change wr.cell? ⟨ad2.block, ad2.off + 1, none⟩ = some (.string y.f1) at y1
        change wr.cell? ⟨ad2.block, ad2.off + 2, none⟩ = some (.bool y.f2) at y2
        obtain ⟨n2, hn2⟩ : ∃ n, n = (y :: b).length := ⟨_, rfl⟩
        have hn2' : n2 = b.length + 1 := by rw [hn2]; rfl
        rw [← hn2]
        have yp0 : (0 : Int) < (n2 : Int) := by omega
        have yp1 : (1 : Int) ≤ (n2 : Int) := by omega
        obtain ⟨An2, hcut2, hCn2, hen2⟩ := tailC hn2 h2 e2
        have e2' : n2 ≤ c2 := by rw [hn2]; exact e2
        have yp2 : ((n2 : Int) == 0) = false := by rw [beq_eq_false_iff_ne]; omega
        have yp3 : ¬ (n2 : Int) = 0 := by omega
        have yp4 : ¬ n2 = 0 := by omega
        have yp5 : 0 < n2 := by omega
        have yp6 : decide (0 < n2) = true := decide_eq_true yp5
        have HN2 := Lib.hid hn2'
        clear hn2 hn2'
        have hd : done.length < 3518437208883 := by omega
        go_upto_region 5 with fail
        go_quiet (fail)
        replace HE := Lib.hid (HE.out.under (pw_below_drewN (Below.refl _ _) nq))
        obtain ⟨w5, hw⟩ : ∃ W : World, W = wr.drewN nq := ⟨_, rfl⟩
        rw [← hw] at HE ⊢
        replace m2 : w5.cell? ⟨m, 2, none⟩ = some (.func (.func 82) #[] #[]) := by rw [hw]; exact m2
        replace m3 : w5.cell? ⟨m, 3, none⟩ = some (.func (.func 90) #[] #[]) := by rw [hw]; exact m3
        replace y0 : w5.cell? ad2 = some (.string y.f0) := by rw [hw]; exact y0
        replace y1 : w5.cell? ⟨ad2.block, ad2.off + 1, none⟩ = some (.string y.f1) := by rw [hw]; exact y1
        replace y2 : w5.cell? ⟨ad2.block, ad2.off + 2, none⟩ = some (.bool y.f2) := by rw [hw]; exact y2
        clear hw nq
        go_upto_region 8 with fail
        go_quiet (fail)
        replace HE := Lib.hid (HE.out.under (pw_below_drewN (Below.refl _ _) nq))
        obtain ⟨w8, hw⟩ : ∃ W : World, W = w5.drewN nq := ⟨_, rfl⟩
        rw [← hw] at HE ⊢
        replace m2 : w8.cell? ⟨m, 2, none⟩ = some (.func (.func 82) #[] #[]) := by rw [hw]; exact m2
        replace m3 : w8.cell? ⟨m, 3, none⟩ = some (.func (.func 90) #[] #[]) := by rw [hw]; exact m3
        replace y0 : w8.cell? ad2 = some (.string y.f0) := by rw [hw]; exact y0
        replace y1 : w8.cell? ⟨ad2.block, ad2.off + 1, none⟩ = some (.string y.f1) := by rw [hw]; exact y1
        replace y2 : w8.cell? ⟨ad2.block, ad2.off + 2, none⟩ = some (.bool y.f2) := by rw [hw]; exact y2
        clear hw nq
        have hcall := ap3_at y HE.out hd
        go_wp2_with fail
        refine hcall.mono ?_
        rintro e w9 ⟨rfl, vn, hE⟩
        replace HE := Lib.hid hE
        clear hcall hE m2 m3 y0 y1 y2
        go_wp2
        exact ⟨⟨done ++ putC y, [], b, A1, c1, An2, c2 - 1, vn, if y.f2 = true then 8 else er, rfl, rfl, h1, e1, hCn2, hen2, by rw [HOF.out, apM]; simp, by rw [HOR.out, apE], by have := putC_le y; simp at hsz ⊢; omega, HE.out⟩, by have := HN2.out; simp [lenOf]; omega⟩
    | cons x a =>
      cases l2 with
      | nil =>
        obtain ⟨ad1, rfl, x0, x1⟩ := at_T86 (Kd.C_below h1 HE.out.below) 0 (by decide) (by simp)
        change wr.cell? ad1 = some (.string x.f0) at x0
        change wr.cell? ⟨ad1.block, ad1.off + 1, none⟩ = some (.string x.f1) at x1
        obtain ⟨n1, hn1⟩ : ∃ n, n = (x :: a).length := ⟨_, rfl⟩
        have hn1' : n1 = a.length + 1 := by rw [hn1]; rfl
        rw [← hn1]
        have xp0 : (0 : Int) < (n1 : Int) := by omega
        have xp1 : (1 : Int) ≤ (n1 : Int) := by omega
        obtain ⟨An1, hcut1, hCn1, hen1⟩ := tailP hn1 h1 e1
        have e1' : n1 ≤ c1 := by rw [hn1]; exact e1
        have xp2 : ((n1 : Int) == 0) = false := by rw [beq_eq_false_iff_ne]; omega
        have xp3 : ¬ (n1 : Int) = 0 := by omega
        have xp4 : ¬ n1 = 0 := by omega
        have xp5 : 0 < n1 := by omega
        have xp6 : decide (0 < n1) = true := decide_eq_true xp5
        have HN1 := Lib.hid hn1'
        clear hn1 hn1'
        have hd : done.length < 3518437208883 := by omega
        go_upto_region 5 with fail
        go_quiet (fail)
        replace HE := Lib.hid (HE.out.under (pw_below_drewN (Below.refl _ _) nq))
        obtain ⟨w5, hw⟩ : ∃ W : World, W = wr.drewN nq := ⟨_, rfl⟩
        rw [← hw] at HE ⊢
        replace m2 : w5.cell? ⟨m, 2, none⟩ = some (.func (.func 82) #[] #[]) := by rw [hw]; exact m2
        replace m3 : w5.cell? ⟨m, 3, none⟩ = some (.func (.func 90) #[] #[]) := by rw [hw]; exact m3
        replace x0 : w5.cell? ad1 = some (.string x.f0) := by rw [hw]; exact x0
        replace x1 : w5.cell? ⟨ad1.block, ad1.off + 1, none⟩ = some (.string x.f1) := by rw [hw]; exact x1
        clear hw nq
        have hcall := ap2_at x HE.out hd
        go_wp2_with fail
        refine hcall.mono ?_
        rintro e w9 ⟨rfl, vn, hE⟩
        replace HE := Lib.hid hE
        clear hcall hE m2 m3 x0 x1
        go_wp2
        exact ⟨⟨done ++ [x], a, [], An1, c1 - 1, A2, c2, vn, er, rfl, rfl, hCn1, hen1, h2, e2, by rw [HOF.out, apM]; simp, by rw [HOR.out, apE], by simp at hsz ⊢; omega, HE.out⟩, by have := HN1.out; simp [lenOf]; omega⟩
      | cons y b =>
        obtain ⟨ad1, rfl, x0, x1⟩ := at_T86 (Kd.C_below h1 HE.out.below) 0 (by decide) (by simp)
        change wr.cell? ad1 = some (.string x.f0) at x0
        change wr.cell? ⟨ad1.block, ad1.off + 1, none⟩ = some (.string x.f1) at x1
        obtain ⟨n1, hn1⟩ : ∃ n, n = (x :: a).length := ⟨_, rfl⟩
        have hn1' : n1 = a.length + 1 := by rw [hn1]; rfl
        rw [← hn1]
        have xp0 : (0 : Int) < (n1 : Int) := by omega
        have xp1 : (1 : Int) ≤ (n1 : Int) := by omega
        obtain ⟨An1, hcut1, hCn1, hen1⟩ := tailP hn1 h1 e1
        have e1' : n1 ≤ c1 := by rw [hn1]; exact e1
        have xp2 : ((n1 : Int) == 0) = false := by rw [beq_eq_false_iff_ne]; omega
        have xp3 : ¬ (n1 : Int) = 0 := by omega
        have xp4 : ¬ n1 = 0 := by omega
        have xp5 : 0 < n1 := by omega
        have xp6 : decide (0 < n1) = true := decide_eq_true xp5
        have HN1 := Lib.hid hn1'
        clear hn1 hn1'
        obtain ⟨ad2, rfl, y0, y1, y2⟩ := at_T62 (Kd.C_below h2 HE.out.below) 0 (by decide) (by simp)
        change wr.cell? ad2 = some (.string y.f0) at y0
        change wr.cell? ⟨ad2.block, ad2.off + 1, none⟩ = some (.string y.f1) at y1
        change wr.cell? ⟨ad2.block, ad2.off + 2, none⟩ = some (.bool y.f2) at y2
        obtain ⟨n2, hn2⟩ : ∃ n, n = (y :: b).length := ⟨_, rfl⟩
        have hn2' : n2 = b.length + 1 := by rw [hn2]; rfl
        rw [← hn2]
        have yp0 : (0 : Int) < (n2 : Int) := by omega
        have yp1 : (1 : Int) ≤ (n2 : Int) := by omega
        obtain ⟨An2, hcut2, hCn2, hen2⟩ := tailC hn2 h2 e2
        have e2' : n2 ≤ c2 := by rw [hn2]; exact e2
        have yp2 : ((n2 : Int) == 0) = false := by rw [beq_eq_false_iff_ne]; omega
        have yp3 : ¬ (n2 : Int) = 0 := by omega
        have yp4 : ¬ n2 = 0 := by omega
        have yp5 : 0 < n2 := by omega
        have yp6 : decide (0 < n2) = true := decide_eq_true yp5
        have HN2 := Lib.hid hn2'
        clear hn2 hn2'
        have hd : done.length < 3518437208883 := by omega
        cases hxy : Op.bytesLess x.f0.toList y.f0.toList with
        | true =>
          go_upto_region 5 with fail
          replace HE := Lib.hid HE.out.drew
          replace m2 := (show wr.drew.cell? _ = _ from m2)
          replace m3 := (show wr.drew.cell? _ = _ from m3)
          replace x0 := (show wr.drew.cell? _ = _ from x0)
          replace x1 := (show wr.drew.cell? _ = _ from x1)
          replace y0 := (show wr.drew.cell? _ = _ from y0)
          replace y1 := (show wr.drew.cell? _ = _ from y1)
          replace y2 := (show wr.drew.cell? _ = _ from y2)
          go_region_held3 (fun w' => w'.cell? ⟨m, 2, none⟩ = some (.func (.func 82) #[] #[]) ∧ w'.cell? ⟨m, 3, none⟩ = some (.func (.func 90) #[] #[]) ∧ w'.cell? ad1 = some (.string x.f0) ∧ w'.cell? ⟨ad1.block, ad1.off + 1, none⟩ = some (.string x.f1) ∧ w'.cell? ad2 = some (.string y.f0) ∧ w'.cell? ⟨ad2.block, ad2.off + 1, none⟩ = some (.string y.f1) ∧ w'.cell? ⟨ad2.block, ad2.off + 2, none⟩ = some (.bool y.f2))
            (first | exact ⟨m2, m3, x0, x1, y0, y1, y2⟩ | go_keep)
            (first
            | (go_at_call 82; (with_reducible refine (diff_pairKey.calls x.f0 x.f1 _ _ rfl).mono ?_); rintro e wn ⟨rfl, hb⟩; replace HE := Lib.hid (HE.out.under hb); replace m2 := (hb.cell (World.block_lt_of_cell? _ _ m2)).trans m2; replace m3 := (hb.cell (World.block_lt_of_cell? _ _ m3)).trans m3; replace x0 := (hb.cell (World.block_lt_of_cell? _ _ x0)).trans x0; replace x1 := (hb.cell (World.block_lt_of_cell? _ _ x1)).trans x1; replace y0 := (hb.cell (World.block_lt_of_cell? _ _ y0)).trans y0; replace y1 := (hb.cell (World.block_lt_of_cell? _ _ y1)).trans y1; replace y2 := (hb.cell (World.block_lt_of_cell? _ _ y2)).trans y2; clear hb)
            | (go_at_call 90; (with_reducible refine (diff_changeKey.calls y.f0 y.f1 y.f2 _ _ rfl).mono ?_); rintro e wn ⟨rfl, hb⟩; replace HE := Lib.hid (HE.out.under hb); replace m2 := (hb.cell (World.block_lt_of_cell? _ _ m2)).trans m2; replace m3 := (hb.cell (World.block_lt_of_cell? _ _ m3)).trans m3; replace x0 := (hb.cell (World.block_lt_of_cell? _ _ x0)).trans x0; replace x1 := (hb.cell (World.block_lt_of_cell? _ _ x1)).trans x1; replace y0 := (hb.cell (World.block_lt_of_cell? _ _ y0)).trans y0; replace y1 := (hb.cell (World.block_lt_of_cell? _ _ y1)).trans y1; replace y2 := (hb.cell (World.block_lt_of_cell? _ _ y2)).trans y2; clear hb))
          have hcall := ap2_at x HE.out hd
          go_wp2_with fail
          refine hcall.mono ?_
          rintro e w9 ⟨rfl, vn, hE⟩
          replace HE := Lib.hid hE
          clear hcall hE m2 m3 x0 x1 y0 y1 y2
          go_wp2
          exact ⟨⟨done ++ [x], a, y :: b, An1, c1 - 1, some ad2, c2, vn, er, rfl, by rw [HN2.out]; rfl, hCn1, hen1, h2, e2, by rw [HOF.out, apM, if_pos hxy]; simp, by rw [HOR.out, apE, if_pos hxy], by simp at hsz ⊢; omega, HE.out⟩, by have := HN1.out; simp [lenOf]; omega⟩
        | false =>
          go_upto_region 5 with fail
          replace HE := Lib.hid HE.out.drew
          replace m2 := (show wr.drew.cell? _ = _ from m2)
          replace m3 := (show wr.drew.cell? _ = _ from m3)
          replace x0 := (show wr.drew.cell? _ = _ from x0)
          replace x1 := (show wr.drew.cell? _ = _ from x1)
          replace y0 := (show wr.drew.cell? _ = _ from y0)
          replace y1 := (show wr.drew.cell? _ = _ from y1)
          replace y2 := (show wr.drew.cell? _ = _ from y2)
          go_region_held3 (fun w' => w'.cell? ⟨m, 2, none⟩ = some (.func (.func 82) #[] #[]) ∧ w'.cell? ⟨m, 3, none⟩ = some (.func (.func 90) #[] #[]) ∧ w'.cell? ad1 = some (.string x.f0) ∧ w'.cell? ⟨ad1.block, ad1.off + 1, none⟩ = some (.string x.f1) ∧ w'.cell? ad2 = some (.string y.f0) ∧ w'.cell? ⟨ad2.block, ad2.off + 1, none⟩ = some (.string y.f1) ∧ w'.cell? ⟨ad2.block, ad2.off + 2, none⟩ = some (.bool y.f2))
            (first | exact ⟨m2, m3, x0, x1, y0, y1, y2⟩ | go_keep)
            (first
            | (go_at_call 82; (with_reducible refine (diff_pairKey.calls x.f0 x.f1 _ _ rfl).mono ?_); rintro e wn ⟨rfl, hb⟩; replace HE := Lib.hid (HE.out.under hb); replace m2 := (hb.cell (World.block_lt_of_cell? _ _ m2)).trans m2; replace m3 := (hb.cell (World.block_lt_of_cell? _ _ m3)).trans m3; replace x0 := (hb.cell (World.block_lt_of_cell? _ _ x0)).trans x0; replace x1 := (hb.cell (World.block_lt_of_cell? _ _ x1)).trans x1; replace y0 := (hb.cell (World.block_lt_of_cell? _ _ y0)).trans y0; replace y1 := (hb.cell (World.block_lt_of_cell? _ _ y1)).trans y1; replace y2 := (hb.cell (World.block_lt_of_cell? _ _ y2)).trans y2; clear hb)
            | (go_at_call 90; (with_reducible refine (diff_changeKey.calls y.f0 y.f1 y.f2 _ _ rfl).mono ?_); rintro e wn ⟨rfl, hb⟩; replace HE := Lib.hid (HE.out.under hb); replace m2 := (hb.cell (World.block_lt_of_cell? _ _ m2)).trans m2; replace m3 := (hb.cell (World.block_lt_of_cell? _ _ m3)).trans m3; replace x0 := (hb.cell (World.block_lt_of_cell? _ _ x0)).trans x0; replace x1 := (hb.cell (World.block_lt_of_cell? _ _ x1)).trans x1; replace y0 := (hb.cell (World.block_lt_of_cell? _ _ y0)).trans y0; replace y1 := (hb.cell (World.block_lt_of_cell? _ _ y1)).trans y1; replace y2 := (hb.cell (World.block_lt_of_cell? _ _ y2)).trans y2; clear hb))
          cases hyx : Op.bytesLess y.f0.toList x.f0.toList with
          | true =>
            go_upto_region 8 with fail
            replace HE := Lib.hid HE.out.drew
            replace m2 := (show wn.drew.cell? _ = _ from m2)
            replace m3 := (show wn.drew.cell? _ = _ from m3)
            replace x0 := (show wn.drew.cell? _ = _ from x0)
            replace x1 := (show wn.drew.cell? _ = _ from x1)
            replace y0 := (show wn.drew.cell? _ = _ from y0)
            replace y1 := (show wn.drew.cell? _ = _ from y1)
            replace y2 := (show wn.drew.cell? _ = _ from y2)
            go_region_held3 (fun w' => w'.cell? ⟨m, 2, none⟩ = some (.func (.func 82) #[] #[]) ∧ w'.cell? ⟨m, 3, none⟩ = some (.func (.func 90) #[] #[]) ∧ w'.cell? ad1 = some (.string x.f0) ∧ w'.cell? ⟨ad1.block, ad1.off + 1, none⟩ = some (.string x.f1) ∧ w'.cell? ad2 = some (.string y.f0) ∧ w'.cell? ⟨ad2.block, ad2.off + 1, none⟩ = some (.string y.f1) ∧ w'.cell? ⟨ad2.block, ad2.off + 2, none⟩ = some (.bool y.f2))
              (first | exact ⟨m2, m3, x0, x1, y0, y1, y2⟩ | go_keep)
              (first
              | (go_at_call 82; (with_reducible refine (diff_pairKey.calls x.f0 x.f1 _ _ rfl).mono ?_); rintro e wn ⟨rfl, hb⟩; replace HE := Lib.hid (HE.out.under hb); replace m2 := (hb.cell (World.block_lt_of_cell? _ _ m2)).trans m2; replace m3 := (hb.cell (World.block_lt_of_cell? _ _ m3)).trans m3; replace x0 := (hb.cell (World.block_lt_of_cell? _ _ x0)).trans x0; replace x1 := (hb.cell (World.block_lt_of_cell? _ _ x1)).trans x1; replace y0 := (hb.cell (World.block_lt_of_cell? _ _ y0)).trans y0; replace y1 := (hb.cell (World.block_lt_of_cell? _ _ y1)).trans y1; replace y2 := (hb.cell (World.block_lt_of_cell? _ _ y2)).trans y2; clear hb)
              | (go_at_call 90; (with_reducible refine (diff_changeKey.calls y.f0 y.f1 y.f2 _ _ rfl).mono ?_); rintro e wn ⟨rfl, hb⟩; replace HE := Lib.hid (HE.out.under hb); replace m2 := (hb.cell (World.block_lt_of_cell? _ _ m2)).trans m2; replace m3 := (hb.cell (World.block_lt_of_cell? _ _ m3)).trans m3; replace x0 := (hb.cell (World.block_lt_of_cell? _ _ x0)).trans x0; replace x1 := (hb.cell (World.block_lt_of_cell? _ _ x1)).trans x1; replace y0 := (hb.cell (World.block_lt_of_cell? _ _ y0)).trans y0; replace y1 := (hb.cell (World.block_lt_of_cell? _ _ y1)).trans y1; replace y2 := (hb.cell (World.block_lt_of_cell? _ _ y2)).trans y2; clear hb))
            have hcall := ap3_at y HE.out hd
            go_wp2_with fail
            refine hcall.mono ?_
            rintro e w9 ⟨rfl, vn, hE⟩
            replace HE := Lib.hid hE
            clear hcall hE m2 m3 x0 x1 y0 y1 y2
            go_wp2
            exact ⟨⟨done ++ putC y, x :: a, b, some ad1, c1, An2, c2 - 1, vn, if y.f2 = true then 8 else er, by rw [HN1.out]; rfl, rfl, h1, e1, hCn2, hen2, by rw [HOF.out, apM, if_neg (by rw [hxy]; decide), if_pos hyx]; simp, by rw [HOR.out, apE, if_neg (by rw [hxy]; decide), if_pos hyx], by have := putC_le y; simp at hsz ⊢; omega, HE.out⟩, by have := HN2.out; simp [lenOf]; omega⟩
          | false =>
            go_upto_region 8 with fail
            replace HE := Lib.hid HE.out.drew
            replace m2 := (show wn.drew.cell? _ = _ from m2)
            replace m3 := (show wn.drew.cell? _ = _ from m3)
            replace x0 := (show wn.drew.cell? _ = _ from x0)
            replace x1 := (show wn.drew.cell? _ = _ from x1)
            replace y0 := (show wn.drew.cell? _ = _ from y0)
            replace y1 := (show wn.drew.cell? _ = _ from y1)
            replace y2 := (show wn.drew.cell? _ = _ from y2)
            go_region_held3 (fun w' => w'.cell? ⟨m, 2, none⟩ = some (.func (.func 82) #[] #[]) ∧ w'.cell? ⟨m, 3, none⟩ = some (.func (.func 90) #[] #[]) ∧ w'.cell? ad1 = some (.string x.f0) ∧ w'.cell? ⟨ad1.block, ad1.off + 1, none⟩ = some (.string x.f1) ∧ w'.cell? ad2 = some (.string y.f0) ∧ w'.cell? ⟨ad2.block, ad2.off + 1, none⟩ = some (.string y.f1) ∧ w'.cell? ⟨ad2.block, ad2.off + 2, none⟩ = some (.bool y.f2))
              (first | exact ⟨m2, m3, x0, x1, y0, y1, y2⟩ | go_keep)
              (first
              | (go_at_call 82; (with_reducible refine (diff_pairKey.calls x.f0 x.f1 _ _ rfl).mono ?_); rintro e wn ⟨rfl, hb⟩; replace HE := Lib.hid (HE.out.under hb); replace m2 := (hb.cell (World.block_lt_of_cell? _ _ m2)).trans m2; replace m3 := (hb.cell (World.block_lt_of_cell? _ _ m3)).trans m3; replace x0 := (hb.cell (World.block_lt_of_cell? _ _ x0)).trans x0; replace x1 := (hb.cell (World.block_lt_of_cell? _ _ x1)).trans x1; replace y0 := (hb.cell (World.block_lt_of_cell? _ _ y0)).trans y0; replace y1 := (hb.cell (World.block_lt_of_cell? _ _ y1)).trans y1; replace y2 := (hb.cell (World.block_lt_of_cell? _ _ y2)).trans y2; clear hb)
              | (go_at_call 90; (with_reducible refine (diff_changeKey.calls y.f0 y.f1 y.f2 _ _ rfl).mono ?_); rintro e wn ⟨rfl, hb⟩; replace HE := Lib.hid (HE.out.under hb); replace m2 := (hb.cell (World.block_lt_of_cell? _ _ m2)).trans m2; replace m3 := (hb.cell (World.block_lt_of_cell? _ _ m3)).trans m3; replace x0 := (hb.cell (World.block_lt_of_cell? _ _ x0)).trans x0; replace x1 := (hb.cell (World.block_lt_of_cell? _ _ x1)).trans x1; replace y0 := (hb.cell (World.block_lt_of_cell? _ _ y0)).trans y0; replace y1 := (hb.cell (World.block_lt_of_cell? _ _ y1)).trans y1; replace y2 := (hb.cell (World.block_lt_of_cell? _ _ y2)).trans y2; clear hb))
            go_upto_region 3 with fail
            replace m2 := (show wn.drew.cell? _ = _ from m2)
            replace m3 := (show wn.drew.cell? _ = _ from m3)
            replace x0 := (show wn.drew.cell? _ = _ from x0)
            replace x1 := (show wn.drew.cell? _ = _ from x1)
            replace y0 := (show wn.drew.cell? _ = _ from y0)
            replace y1 := (show wn.drew.cell? _ = _ from y1)
            replace y2 := (show wn.drew.cell? _ = _ from y2)
            replace HE := Lib.hid HE.out.drew
            go_still_tail 7, (by kernel_rfl)
            change wpList _ _ _ _ _ wn.drew
            have hcall := ap4_at x y HE.out hd
            go_wp2_with fail
            refine hcall.mono ?_
            rintro e w9 ⟨rfl, vn, hE⟩
            replace HE := Lib.hid hE
            clear hcall hE m2 m3 x0 x1 y0 y1 y2
            go_wp2_with fail
            go_quiet (fail)
            replace HE := Lib.hid (HE.out.under (pw_below_drewN (Below.refl _ _) nq))
            go_wp2
            exact ⟨⟨done ++ putC y, a, b, An1, c1 - 1, An2, c2 - 1, vn, er, rfl, rfl, hCn1, hen1, hCn2, hen2, by rw [HOF.out, apM, if_neg (by rw [hxy]; decide), if_neg (by rw [hyx]; decide), List.append_assoc], by rw [HOR.out, apE, if_neg (by rw [hxy]; decide), if_neg (by rw [hyx]; decide)], by have := putC_le y; simp at hsz ⊢; omega, HE.out⟩, by have := HN2.out; have := HN1.out; simp [lenOf]; omega⟩
end Go.Proofs.Ytipgldfbjlhpoab.P
