/- diff.rising: whether keys rise, of pairs and of changes: their contracts. -/
import Derived.Test.YtipgldfbjlhpoabPDiff1
import Derived.Test.YtipgldfbjlhpoabHStr
import Derived.Deep.RegionHeld3
import Derived.WalkLawsBesides
import Derived.Outline
import Derived.Lib.Hide
import Derived.Deep.LoopGhost
import Derived.Deep.CutRange
import Derived.Deep.DeepCutAuto
namespace Go.Proofs.Ytipgldfbjlhpoab.P
set_option linter.unusedVariables false
set_option linter.unusedSimpArgs false
open Go.RowKit Go.Proofs.YtipgldfbjlhpoabW.PrintWords Go.Proofs.YtipgldfbjlhpoabW.PrintLast Go.Proofs.YtipgldfbjlhpoabW.PrintMore
set_option maxRecDepth 100000
attribute [local go_sem] geq_str gtr_str
def lessP (l : List S86) (i : Nat) : Bool := Op.bytesLess ((rd_T86 l (i : Int)).f0).toList ((rd_T86 l ((i + 1 : Nat) : Int)).f0).toList
def risP (l : List S86) (n : Nat) : Bool := (List.range n).all fun i => lessP l i
theorem risP_succ (l : List S86) (n : Nat) : risP l (n + 1) = (risP l n && lessP l n) := by
  simp [risP, List.range_succ]
theorem risP_le (l : List S86) {n m : Nat} (h : risP l n = true) (hm : m ≤ n) : risP l m = true := by
  unfold risP at h ⊢
  rw [List.all_eq_true] at h ⊢
  intro x hx
  rw [List.mem_range] at hx
  exact h x (List.mem_range.mpr (by omega))
theorem risP_no (l : List S86) {n m : Nat} (h : lessP l m = false) (hm : m < n) : risP l n = false := by
  cases hx : risP l n with
  | false => rfl
  | true =>
    have := risP_le l hx (show m + 1 ≤ n by omega)
    rw [risP_succ, h, Bool.and_false] at this
    cases this
theorem wsub1 {n : Nat} (h : n ≤ maxLen) : wrap64 ((n : Int) - 1) = (n : Int) - 1 := by unfold maxLen at h; unfold wrap64; omega
theorem wadd1 {n : Nat} (h : n < 9223372036854775807) : wrap64 ((n : Int) + 1) = ((n + 1 : Nat) : Int) := by unfold wrap64; omega
structure MR (w W : World) (A : Option Addr) (l : List S86) : Prop where
  hC : Kd.C k86 W A l.length l
  below : Below w.heap.size w W
theorem MR.drew {w W : World} {A : Option Addr} {l : List S86} (h : MR w W A l) : MR w W.drew A l := ⟨Kd.C_drew h.hC, below_drew h.below⟩
theorem MR.under {w W W' : World} {A : Option Addr} {l : List S86} (h : MR w W A l) (hb : Below W.heap.size W W') : MR w W' A l :=
  ⟨Kd.C_below h.hC hb, h.below.trans (hb.mono h.below.size)⟩
set_option maxHeartbeats 4000000 in
theorem risingP_any (A : Option Addr) (c : Nat) (l : List S86) (w : World) (h : Kd.C k86 w A l.length l) :
    Calls Try.prog 81 #[.slice A l.length c, .func (.func 82) #[] #[]] w fun e w' => e = .returned (.bool (risP l (l.length - 1))) ∧ Below w.heap.size w w' := by
  have hm := Kd.C_max h
  have hw := wsub1 hm
  have HM0 := Lib.hid (show MR w w A l from ⟨h, Below.refl _ _⟩)
  clear h
  go_enter Try.func81, Try.ntmps81
  go_wp2
  go_loopw [9] (fun i wr => ∃ k : Nat, k ≤ l.length - 1 ∧ i = .int .i64 (k : Int) ∧ risP l k = true ∧ MR w wr A l) (fun i _ => l.length - (intOf i).toNat)
  case atStart => exact ⟨0, Nat.zero_le _, rfl, rfl, HM0.out⟩
  case round =>
    clear HM0
    obtain ⟨k, hk, rfl, hl, hM⟩ := hrel
    have HL := Lib.hid hl
    have HM := Lib.hid hM
    clear hl hM
    by_cases hlt : k + 1 < l.length
    · have hki : (k : Int) < (l.length : Int) - 1 := by omega
      obtain ⟨ad, rfl, x0, x1⟩ := at_T86 HM.out.hC (k : Int) (by omega) (by omega)
      obtain ⟨ad', e', y0, y1⟩ := at_T86 HM.out.hC ((k + 1 : Nat) : Int) (by omega) (by omega)
      obtain rfl : ad = ad' := Option.some.inj e'
      clear e'
      have hk0 : (0 : Int) ≤ (k : Int) := by omega
      have hk1 : (k : Int) < (l.length : Int) := by omega
      have hk2 : (0 : Int) ≤ ((k + 1 : Nat) : Int) := by omega
      have hk3 : ((k + 1 : Nat) : Int) < (l.length : Int) := by omega
      have hwa : wrap64 ((k : Int) + 1) = ((k + 1 : Nat) : Int) := wadd1 (by omega)
      obtain ⟨P, hP⟩ : ∃ P, P = rd_T86 l (k : Int) := ⟨_, rfl⟩
      obtain ⟨Q, hQ⟩ : ∃ Q, Q = rd_T86 l ((k + 1 : Nat) : Int) := ⟨_, rfl⟩
      have hLs := risP_succ l k
      have hless : lessP l k = Op.bytesLess P.f0.toList Q.f0.toList := by rw [hP, hQ]; rfl
      rw [← hP] at x0 x1
      rw [← hQ] at y0 y1
      clear hP hQ
      rw [Int.toNat_natCast] at x0 x1 y0 y1
      have hk4 : (0 : Int) ≤ (k : Int) + 1 := by omega
      have hk5 : (k : Int) + 1 < (l.length : Int) := by omega
      have hwb : IntKind.i64.wrap ((k : Int) + 1) = (k : Int) + 1 := (i64_w _).trans (hwa.trans (by omega))
      replace hwa : wrap64 ((k : Int) + 1) = (k : Int) + 1 := hwa.trans (by omega)
      have hkn : ((k : Int) + 1).toNat = k + 1 := by omega
      cases hb : Op.bytesLess P.f0.toList Q.f0.toList with
      | true =>
        go_upto_region 4 with fail
        replace x0 := (show wr.drew.cell? _ = _ from x0)
        replace x1 := (show wr.drew.cell? _ = _ from x1)
        replace y0 := (show wr.drew.cell? _ = _ from y0)
        replace y1 := (show wr.drew.cell? _ = _ from y1)
        replace HM := Lib.hid HM.out.drew
        go_region_held3 (fun w' => w'.cell? (ad.add (k * 2)) = some (.string P.f0) ∧ w'.cell? ⟨(ad.add (k * 2)).block, (ad.add (k * 2)).off + 1, none⟩ = some (.string P.f1) ∧ w'.cell? (ad.add ((k + 1) * 2)) = some (.string Q.f0) ∧ w'.cell? ⟨(ad.add ((k + 1) * 2)).block, (ad.add ((k + 1) * 2)).off + 1, none⟩ = some (.string Q.f1))
          (first | exact ⟨x0, x1, y0, y1⟩ | go_keep)
          (first
          | (go_at_call 82; (with_reducible refine (diff_pairKey.calls P.f0 P.f1 _ _ rfl).mono ?_); rintro e wn ⟨rfl, hb⟩; replace HM := Lib.hid (HM.out.under hb); replace x0 := (hb.cell (World.block_lt_of_cell? _ _ x0)).trans x0; replace x1 := (hb.cell (World.block_lt_of_cell? _ _ x1)).trans x1; replace y0 := (hb.cell (World.block_lt_of_cell? _ _ y0)).trans y0; replace y1 := (hb.cell (World.block_lt_of_cell? _ _ y1)).trans y1; clear hb)
          | (go_at_call 82; (with_reducible refine (diff_pairKey.calls Q.f0 Q.f1 _ _ rfl).mono ?_); rintro e wn ⟨rfl, hb⟩; replace HM := Lib.hid (HM.out.under hb); replace x0 := (hb.cell (World.block_lt_of_cell? _ _ x0)).trans x0; replace x1 := (hb.cell (World.block_lt_of_cell? _ _ x1)).trans x1; replace y0 := (hb.cell (World.block_lt_of_cell? _ _ y0)).trans y0; replace y1 := (hb.cell (World.block_lt_of_cell? _ _ y1)).trans y1; clear hb))
        all_goals go_wp2
        all_goals exact ⟨⟨k + 1, by omega, by go_num, by rw [hLs, HL.out, hless, hb]; rfl, HM.out⟩, by simp [intOf]; omega⟩
      | false =>
        go_upto_region 4 with fail
        replace x0 := (show wr.drew.cell? _ = _ from x0)
        replace x1 := (show wr.drew.cell? _ = _ from x1)
        replace y0 := (show wr.drew.cell? _ = _ from y0)
        replace y1 := (show wr.drew.cell? _ = _ from y1)
        replace HM := Lib.hid HM.out.drew
        go_region_held3 (fun w' => w'.cell? (ad.add (k * 2)) = some (.string P.f0) ∧ w'.cell? ⟨(ad.add (k * 2)).block, (ad.add (k * 2)).off + 1, none⟩ = some (.string P.f1) ∧ w'.cell? (ad.add ((k + 1) * 2)) = some (.string Q.f0) ∧ w'.cell? ⟨(ad.add ((k + 1) * 2)).block, (ad.add ((k + 1) * 2)).off + 1, none⟩ = some (.string Q.f1))
          (first | exact ⟨x0, x1, y0, y1⟩ | go_keep)
          (first
          | (go_at_call 82; (with_reducible refine (diff_pairKey.calls P.f0 P.f1 _ _ rfl).mono ?_); rintro e wn ⟨rfl, hb⟩; replace HM := Lib.hid (HM.out.under hb); replace x0 := (hb.cell (World.block_lt_of_cell? _ _ x0)).trans x0; replace x1 := (hb.cell (World.block_lt_of_cell? _ _ x1)).trans x1; replace y0 := (hb.cell (World.block_lt_of_cell? _ _ y0)).trans y0; replace y1 := (hb.cell (World.block_lt_of_cell? _ _ y1)).trans y1; clear hb)
          | (go_at_call 82; (with_reducible refine (diff_pairKey.calls Q.f0 Q.f1 _ _ rfl).mono ?_); rintro e wn ⟨rfl, hb⟩; replace HM := Lib.hid (HM.out.under hb); replace x0 := (hb.cell (World.block_lt_of_cell? _ _ x0)).trans x0; replace x1 := (hb.cell (World.block_lt_of_cell? _ _ x1)).trans x1; replace y0 := (hb.cell (World.block_lt_of_cell? _ _ y0)).trans y0; replace y1 := (hb.cell (World.block_lt_of_cell? _ _ y1)).trans y1; clear hb))
        all_goals go_wp2
        all_goals go_ret
        all_goals exact ⟨by first | (rw [risP_no l (hless.trans hb) (show k < l.length - 1 by omega)]; rfl) | (simp [risP_no l (hless.trans hb) (show k < l.length - 1 by omega)]; done), HM.out.below⟩
    · have hki : ¬ (k : Int) < (l.length : Int) - 1 := by omega
      have hr : risP l (l.length - 1) = true := by
        rw [show l.length - 1 = k by omega]
        exact HL.out
      go_wp2
      go_ret
      exact ⟨by first | rfl | (rw [hr]; rfl), HM.out.below⟩
def lessC (l : List S62) (i : Nat) : Bool := Op.bytesLess ((rd_T62 l (i : Int)).f0).toList ((rd_T62 l ((i + 1 : Nat) : Int)).f0).toList
def risC (l : List S62) (n : Nat) : Bool := (List.range n).all fun i => lessC l i
theorem risC_succ (l : List S62) (n : Nat) : risC l (n + 1) = (risC l n && lessC l n) := by
  simp [risC, List.range_succ]
theorem risC_le (l : List S62) {n m : Nat} (h : risC l n = true) (hm : m ≤ n) : risC l m = true := by
  unfold risC at h ⊢
  rw [List.all_eq_true] at h ⊢
  intro x hx
  rw [List.mem_range] at hx
  exact h x (List.mem_range.mpr (by omega))
theorem risC_no (l : List S62) {n m : Nat} (h : lessC l m = false) (hm : m < n) : risC l n = false := by
  cases hx : risC l n with
  | false => rfl
  | true =>
    have := risC_le l hx (show m + 1 ≤ n by omega)
    rw [risC_succ, h, Bool.and_false] at this
    cases this
structure MRc (w W : World) (A : Option Addr) (l : List S62) : Prop where
  hC : Kd.C k62 W A l.length l
  below : Below w.heap.size w W
theorem MRc.drew {w W : World} {A : Option Addr} {l : List S62} (h : MRc w W A l) : MRc w W.drew A l := ⟨Kd.C_drew h.hC, below_drew h.below⟩
theorem MRc.under {w W W' : World} {A : Option Addr} {l : List S62} (h : MRc w W A l) (hb : Below W.heap.size W W') : MRc w W' A l :=
  ⟨Kd.C_below h.hC hb, h.below.trans (hb.mono h.below.size)⟩
set_option maxHeartbeats 4000000 in
theorem risingC_any (A : Option Addr) (c : Nat) (l : List S62) (w : World) (h : Kd.C k62 w A l.length l) :
    Calls Try.prog 145 #[.slice A l.length c, .func (.func 90) #[] #[]] w fun e w' => e = .returned (.bool (risC l (l.length - 1))) ∧ Below w.heap.size w w' := by
  have hm := Kd.C_max h
  have hw := wsub1 hm
  have HM0 := Lib.hid (show MRc w w A l from ⟨h, Below.refl _ _⟩)
  clear h
  go_enter Try.func145, Try.ntmps145
  go_wp2
  go_loopw [9] (fun i wr => ∃ k : Nat, k ≤ l.length - 1 ∧ i = .int .i64 (k : Int) ∧ risC l k = true ∧ MRc w wr A l) (fun i _ => l.length - (intOf i).toNat)
  case atStart => exact ⟨0, Nat.zero_le _, rfl, rfl, HM0.out⟩
  case round =>
    clear HM0
    obtain ⟨k, hk, rfl, hl, hM⟩ := hrel
    have HL := Lib.hid hl
    have HM := Lib.hid hM
    clear hl hM
    by_cases hlt : k + 1 < l.length
    · have hki : (k : Int) < (l.length : Int) - 1 := by omega
      obtain ⟨ad, rfl, x0, x1, x2⟩ := at_T62 HM.out.hC (k : Int) (by omega) (by omega)
      obtain ⟨ad', e', y0, y1, y2⟩ := at_T62 HM.out.hC ((k + 1 : Nat) : Int) (by omega) (by omega)
      obtain rfl : ad = ad' := Option.some.inj e'
      clear e'
      have hk0 : (0 : Int) ≤ (k : Int) := by omega
      have hk1 : (k : Int) < (l.length : Int) := by omega
      have hk2 : (0 : Int) ≤ ((k + 1 : Nat) : Int) := by omega
      have hk3 : ((k + 1 : Nat) : Int) < (l.length : Int) := by omega
      have hwa : wrap64 ((k : Int) + 1) = ((k + 1 : Nat) : Int) := wadd1 (by omega)
      obtain ⟨P, hP⟩ : ∃ P, P = rd_T62 l (k : Int) := ⟨_, rfl⟩
      obtain ⟨Q, hQ⟩ : ∃ Q, Q = rd_T62 l ((k + 1 : Nat) : Int) := ⟨_, rfl⟩
      have hLs := risC_succ l k
      have hless : lessC l k = Op.bytesLess P.f0.toList Q.f0.toList := by rw [hP, hQ]; rfl
      rw [← hP] at x0 x1 x2
      rw [← hQ] at y0 y1 y2
      clear hP hQ
      rw [Int.toNat_natCast] at x0 x1 x2 y0 y1 y2
      have hk4 : (0 : Int) ≤ (k : Int) + 1 := by omega
      have hk5 : (k : Int) + 1 < (l.length : Int) := by omega
      have hwb : IntKind.i64.wrap ((k : Int) + 1) = (k : Int) + 1 := (i64_w _).trans (hwa.trans (by omega))
      replace hwa : wrap64 ((k : Int) + 1) = (k : Int) + 1 := hwa.trans (by omega)
      have hkn : ((k : Int) + 1).toNat = k + 1 := by omega
      cases hb : Op.bytesLess P.f0.toList Q.f0.toList with
      | true =>
        go_upto_region 4 with fail
        replace x0 := (show wr.drew.cell? _ = _ from x0)
        replace x1 := (show wr.drew.cell? _ = _ from x1)
        replace x2 := (show wr.drew.cell? _ = _ from x2)
        replace y0 := (show wr.drew.cell? _ = _ from y0)
        replace y1 := (show wr.drew.cell? _ = _ from y1)
        replace y2 := (show wr.drew.cell? _ = _ from y2)
        replace HM := Lib.hid HM.out.drew
        go_region_held3 (fun w' => w'.cell? (ad.add (k * 3)) = some (.string P.f0) ∧ w'.cell? ⟨(ad.add (k * 3)).block, (ad.add (k * 3)).off + 1, none⟩ = some (.string P.f1) ∧ w'.cell? ⟨(ad.add (k * 3)).block, (ad.add (k * 3)).off + 2, none⟩ = some (.bool P.f2) ∧ w'.cell? (ad.add ((k + 1) * 3)) = some (.string Q.f0) ∧ w'.cell? ⟨(ad.add ((k + 1) * 3)).block, (ad.add ((k + 1) * 3)).off + 1, none⟩ = some (.string Q.f1) ∧ w'.cell? ⟨(ad.add ((k + 1) * 3)).block, (ad.add ((k + 1) * 3)).off + 2, none⟩ = some (.bool Q.f2))
          (first | exact ⟨x0, x1, x2, y0, y1, y2⟩ | go_keep)
          (first
          | (go_at_call 90; (with_reducible refine (diff_changeKey.calls P.f0 P.f1 P.f2 _ _ rfl).mono ?_); rintro e wn ⟨rfl, hb⟩; replace HM := Lib.hid (HM.out.under hb); replace x0 := (hb.cell (World.block_lt_of_cell? _ _ x0)).trans x0; replace x1 := (hb.cell (World.block_lt_of_cell? _ _ x1)).trans x1; replace x2 := (hb.cell (World.block_lt_of_cell? _ _ x2)).trans x2; replace y0 := (hb.cell (World.block_lt_of_cell? _ _ y0)).trans y0; replace y1 := (hb.cell (World.block_lt_of_cell? _ _ y1)).trans y1; replace y2 := (hb.cell (World.block_lt_of_cell? _ _ y2)).trans y2; clear hb)
          | (go_at_call 90; (with_reducible refine (diff_changeKey.calls Q.f0 Q.f1 Q.f2 _ _ rfl).mono ?_); rintro e wn ⟨rfl, hb⟩; replace HM := Lib.hid (HM.out.under hb); replace x0 := (hb.cell (World.block_lt_of_cell? _ _ x0)).trans x0; replace x1 := (hb.cell (World.block_lt_of_cell? _ _ x1)).trans x1; replace x2 := (hb.cell (World.block_lt_of_cell? _ _ x2)).trans x2; replace y0 := (hb.cell (World.block_lt_of_cell? _ _ y0)).trans y0; replace y1 := (hb.cell (World.block_lt_of_cell? _ _ y1)).trans y1; replace y2 := (hb.cell (World.block_lt_of_cell? _ _ y2)).trans y2; clear hb))
        all_goals go_wp2
        all_goals exact ⟨⟨k + 1, by omega, by go_num, by rw [hLs, HL.out, hless, hb]; rfl, HM.out⟩, by simp [intOf]; omega⟩
      | false =>
        go_upto_region 4 with fail
        replace x0 := (show wr.drew.cell? _ = _ from x0)
        replace x1 := (show wr.drew.cell? _ = _ from x1)
        replace x2 := (show wr.drew.cell? _ = _ from x2)
        replace y0 := (show wr.drew.cell? _ = _ from y0)
        replace y1 := (show wr.drew.cell? _ = _ from y1)
        replace y2 := (show wr.drew.cell? _ = _ from y2)
        replace HM := Lib.hid HM.out.drew
        go_region_held3 (fun w' => w'.cell? (ad.add (k * 3)) = some (.string P.f0) ∧ w'.cell? ⟨(ad.add (k * 3)).block, (ad.add (k * 3)).off + 1, none⟩ = some (.string P.f1) ∧ w'.cell? ⟨(ad.add (k * 3)).block, (ad.add (k * 3)).off + 2, none⟩ = some (.bool P.f2) ∧ w'.cell? (ad.add ((k + 1) * 3)) = some (.string Q.f0) ∧ w'.cell? ⟨(ad.add ((k + 1) * 3)).block, (ad.add ((k + 1) * 3)).off + 1, none⟩ = some (.string Q.f1) ∧ w'.cell? ⟨(ad.add ((k + 1) * 3)).block, (ad.add ((k + 1) * 3)).off + 2, none⟩ = some (.bool Q.f2))
          (first | exact ⟨x0, x1, x2, y0, y1, y2⟩ | go_keep)
          (first
          | (go_at_call 90; (with_reducible refine (diff_changeKey.calls P.f0 P.f1 P.f2 _ _ rfl).mono ?_); rintro e wn ⟨rfl, hb⟩; replace HM := Lib.hid (HM.out.under hb); replace x0 := (hb.cell (World.block_lt_of_cell? _ _ x0)).trans x0; replace x1 := (hb.cell (World.block_lt_of_cell? _ _ x1)).trans x1; replace x2 := (hb.cell (World.block_lt_of_cell? _ _ x2)).trans x2; replace y0 := (hb.cell (World.block_lt_of_cell? _ _ y0)).trans y0; replace y1 := (hb.cell (World.block_lt_of_cell? _ _ y1)).trans y1; replace y2 := (hb.cell (World.block_lt_of_cell? _ _ y2)).trans y2; clear hb)
          | (go_at_call 90; (with_reducible refine (diff_changeKey.calls Q.f0 Q.f1 Q.f2 _ _ rfl).mono ?_); rintro e wn ⟨rfl, hb⟩; replace HM := Lib.hid (HM.out.under hb); replace x0 := (hb.cell (World.block_lt_of_cell? _ _ x0)).trans x0; replace x1 := (hb.cell (World.block_lt_of_cell? _ _ x1)).trans x1; replace x2 := (hb.cell (World.block_lt_of_cell? _ _ x2)).trans x2; replace y0 := (hb.cell (World.block_lt_of_cell? _ _ y0)).trans y0; replace y1 := (hb.cell (World.block_lt_of_cell? _ _ y1)).trans y1; replace y2 := (hb.cell (World.block_lt_of_cell? _ _ y2)).trans y2; clear hb))
        all_goals go_wp2
        all_goals go_ret
        all_goals exact ⟨by first | (rw [risC_no l (hless.trans hb) (show k < l.length - 1 by omega)]; rfl) | (simp [risC_no l (hless.trans hb) (show k < l.length - 1 by omega)]; done), HM.out.below⟩
    · have hki : ¬ (k : Int) < (l.length : Int) - 1 := by omega
      have hr : risC l (l.length - 1) = true := by
        rw [show l.length - 1 = k by omega]
        exact HL.out
      go_wp2
      go_ret
      exact ⟨by first | rfl | (rw [hr]; rfl), HM.out.below⟩
end Go.Proofs.Ytipgldfbjlhpoab.P
