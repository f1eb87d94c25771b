/- proof.Has: its contract, walked by hand. -/
import Derived.Test.YtipgldfbjlhpoabZePProof
import Derived.Deep.DrawnRows
import Derived.Deep.RegionHeld3
import Derived.BigQuiet
import Derived.Test.YtipgldfbjlhpoabZePureBack
import Derived.Test.YtipgldfbjlhpoabZeHMerkle
import Derived.Test.YtipgldfbjlhpoabZePRMerkle
namespace Go.Proofs.Ytipgldfbjlhpoab.P
set_option linter.unusedVariables false
set_option linter.unusedSimpArgs false
open Go.RowKit Go.Proofs.YtipgldfbjlhpoabW.PrintWords Go.Proofs.YtipgldfbjlhpoabW.PrintLast Go.Proofs.YtipgldfbjlhpoabW.PrintMore
set_option maxRecDepth 100000
structure HasM (w W : World) (b1 b2 : Nat) (cs ds : Array Value) : Prop where
 h1 : W.heap[b1]? = some (.cells cs 86 (0, 0))
 h2 : W.heap[b2]? = some (.cells ds 82 (0, 0))
 below : Below w.heap.size w W
theorem HasM.under {w W W' : World} {b1 b2 : Nat} {cs ds : Array Value} (h : HasM w W b1 b2 cs ds) (hb : Below W.heap.size W W') : HasM w W' b1 b2 cs ds :=
 ⟨blk_below h.h1 hb, blk_below h.h2 hb, h.below.trans (hb.mono h.below.size)⟩
theorem HasM.drew {w W : World} {b1 b2 : Nat} {cs ds : Array Value} (h : HasM w W b1 b2 cs ds) : HasM w W.drew b1 b2 cs ds := ⟨h.h1, h.h2, below_drew h.below⟩
theorem HasM.cells {w W : World} {b1 b2 : Nat} {x y : ByteArray} {n a : Int} {th : Bool} {v3 v4 : Value} (h : HasM w W b1 b2 #[.string x, .string y] #[.int .i64 n, .int .i64 a, .bool th, v3, v4]) :
  W.cell? ⟨b1, 0, none⟩ = some (.string x) ∧ W.cell? ⟨b1, 1, none⟩ = some (.string y) ∧ W.cell? ⟨b2, 0, none⟩ = some (.int .i64 n) ∧ W.cell? ⟨b2, 1, none⟩ = some (.int .i64 a) ∧ W.cell? ⟨b2, 2, none⟩ = some (.bool th) ∧ W.cell? ⟨b2, 3, none⟩ = some v3 ∧ W.cell? ⟨b2, 4, none⟩ = some v4 :=
 ⟨(cell_of_row _ _ _ _ _ _ h.h1).trans rfl, (cell_of_row _ _ _ _ _ _ h.h1).trans rfl, (cell_of_row _ _ _ _ _ _ h.h2).trans rfl, (cell_of_row _ _ _ _ _ _ h.h2).trans rfl, (cell_of_row _ _ _ _ _ _ h.h2).trans rfl, (cell_of_row _ _ _ _ _ _ h.h2).trans rfl, (cell_of_row _ _ _ _ _ _ h.h2).trans rfl⟩
set_option maxHeartbeats 4000000 in
theorem proof_Has.calls (k : Nat) (a0 : ByteArray) (a1_0 : ByteArray) (a1_1 : ByteArray) (a2_0 : Int) (a2_1 : Int) (a2_2 : Bool) (A2_3 : Option Addr) (c2_3 : Nat) (l2_3 : List S86) (A2_4 : Option Addr) (c2_4 : Nat) (l2_4 : List (List ByteArray)) (r : Bool) (w : World) (hr2_3 : Kd.C k86 w A2_3 l2_3.length l2_3) (hc2_3 : l2_3.length ≤ c2_3) (hr2_4 : Kd.C (Kd.slice 9 Kd.string) w A2_4 l2_4.length l2_4) (hc2_4 : l2_4.length ≤ c2_4) (h : proof_Has.f k a0 a1_0 a1_1 a2_0 a2_1 a2_2 l2_3 l2_4 = some r) :
  Calls Try.prog 58 #[.string a0, .agg #[.string a1_0, .string a1_1], .agg #[.int .i64 a2_0, .int .i64 a2_1, .bool a2_2, .slice A2_3 l2_3.length c2_3, .slice A2_4 l2_4.length c2_4]] w fun e w' => e = .returned (.bool r) ∧ Below w.heap.size w w' := by
 obtain ⟨n3, hn3⟩ : ∃ n3, n3 = l2_3.length := ⟨_, rfl⟩
 obtain ⟨n4, hn4⟩ : ∃ n4, n4 = l2_4.length := ⟨_, rfl⟩
 have hM : HasM w ((w.alloc (.cells #[.string a1_0, .string a1_1] 86)).alloc (.cells #[.int .i64 a2_0, .int .i64 a2_1, .bool a2_2, .slice A2_3 n3 c2_3, .slice A2_4 n4 c2_4] 82)) w.heap.size (w.heap.size + 1) #[.string a1_0, .string a1_1] #[.int .i64 a2_0, .int .i64 a2_1, .bool a2_2, .slice A2_3 n3 c2_3, .slice A2_4 n4 c2_4] := by
  have h1 := (Below.refl w.heap.size w).alloc (Nat.le_refl _) (.cells #[.string a1_0, .string a1_1] 86); have h2 := (Below.refl (w.alloc (.cells #[.string a1_0, .string a1_1] 86)).heap.size (w.alloc (.cells #[.string a1_0, .string a1_1] 86))).alloc (Nat.le_refl _) (.cells #[.int .i64 a2_0, .int .i64 a2_1, .bool a2_2, .slice A2_3 n3 c2_3, .slice A2_4 n4 c2_4] 82); refine ⟨blk_below (heap_alloc_new w _) h2, ?_, h1.trans (h2.mono h1.size)⟩; have := heap_alloc_new (w.alloc (.cells #[.string a1_0, .string a1_1] 86)) (.cells #[.int .i64 a2_0, .int .i64 a2_1, .bool a2_2, .slice A2_3 n3 c2_3, .slice A2_4 n4 c2_4] 82); rw [show (w.alloc (.cells #[.string a1_0, .string a1_1] 86)).heap.size = w.heap.size + 1 from Array.size_push ..] at this; exact this
 have HM := Lib.hid hM; have HR := Lib.hid hr2_4; have HN := Lib.hid hn4; have H := Lib.hid h; clear hM hr2_4 hr2_3 h; rw [← hn3, ← hn4]; rw [← hn4] at hc2_4; have HN3 := Lib.hid hn3; clear hn4 hn3
 go_enter Try.func58, Try.ntmps58
 go_upto_region 1 with fail
 obtain ⟨W0, hW0⟩ : ∃ W0, W0 = (w.alloc (.cells #[.string a1_0, .string a1_1] 86)).alloc (.cells #[.int .i64 a2_0, .int .i64 a2_1, .bool a2_2, .slice A2_3 n3 c2_3, .slice A2_4 n4 c2_4] 82) := ⟨_, rfl⟩
 rw [← hW0] at HM ⊢; clear hW0
 obtain ⟨b2, hb2⟩ : ∃ b2, b2 = w.heap.size + 1 := ⟨_, rfl⟩
 rw [← hb2] at HM ⊢; clear hb2
 obtain ⟨b1, hb1⟩ : ∃ b1, b1 = w.heap.size := ⟨_, rfl⟩
 rw [← hb1] at HM ⊢; have H0 := H.out; have N3 := HN3.out; have N4 := HN.out; unfold proof_Has.f at H0; rw [← N3, ← N4] at H0; clear H N3
 by_cases hth : a2_2 = true
 · subst hth; rw [if_pos rfl] at H0
   by_cases h3 : (n3 : Int) = 0
   · rw [if_pos h3] at H0
     obtain rfl : n3 = 0 := by omega
     by_cases h4 : (n4 : Int) = 1
     · rw [if_pos h4, if_pos (by omega)] at H0
       obtain rfl : n4 = 1 := by omega
       obtain ⟨t, ht, H1⟩ := Option.bind_eq_some_iff.mp H0; obtain rfl := Option.some.inj H1; obtain ⟨ad, A5, c5, rfl, hx, h5, hC5⟩ := at_L10 HR.out 0 (by omega) (by omega)
       obtain ⟨q, hq⟩ : ∃ q, q = rd_L10 l2_4 0 := ⟨_, rfl⟩
       rw [← hq] at hx h5 hC5 ht; rw [show ((0 : Int)).toNat = 0 from rfl, Addr.add_zero'] at hx
       have hcall := fun W hW => proof_leads.calls k a0 a1_0 a1_1 a2_0 a2_1 A5 c5 q t W hW h5 ht
       obtain ⟨n5, hn5⟩ : ∃ n5, n5 = q.length := ⟨_, rfl⟩
       rw [← hn5] at hx hC5 hcall; have HC := Lib.hid (Kd.C_drew (Kd.C_below hC5 HM.out.below)); have z := (HM.out.below.cell (World.block_lt_of_cell? w _ hx)).trans hx; replace z : W0.drew.cell? ad = some (.slice A5 n5 c5) := z; clear H0 H1 h3 h4 N4 HN HR hx hC5 h5 ht hq hn5 HN3 hb1; replace HM := Lib.hid HM.out.drew; obtain ⟨x0, x1, y0, y1, y2, y3, y4⟩ := HM.out.cells
       go_region_held3 (fun w' => w'.cell? ⟨b1, 0, none⟩ = some (.string a1_0) ∧ w'.cell? ⟨b1, 1, none⟩ = some (.string a1_1) ∧ w'.cell? ⟨b2, 0, none⟩ = some (.int .i64 a2_0) ∧ w'.cell? ⟨b2, 1, none⟩ = some (.int .i64 a2_1) ∧ w'.cell? ⟨b2, 2, none⟩ = some (.bool true) ∧ w'.cell? ⟨b2, 3, none⟩ = some (.slice A2_3 0 c2_3) ∧ w'.cell? ⟨b2, 4, none⟩ = some (.slice (some ad) 1 c2_4) ∧ w'.cell? ad = some (.slice A5 n5 c5))
        (first | exact ⟨x0, x1, y0, y1, y2, y3, y4, z⟩ | exact ⟨cell_keep1 x0 _, cell_keep1 x1 _, cell_keep1 y0 _, cell_keep1 y1 _, cell_keep1 y2 _, cell_keep1 y3 _, cell_keep1 y4 _, cell_keep1 z _⟩ | go_keep)
        (first
        | (go_at_call 128; (with_reducible refine (hcall _ HC.out).mono ?_); rintro e wn ⟨rfl, hb⟩; replace HM := Lib.hid (HM.out.under hb); replace z := (hb.cell (World.block_lt_of_cell? _ _ z)).trans z; clear x0 x1 y0 y1 y2 y3 y4 hb; obtain ⟨x0, x1, y0, y1, y2, y3, y4⟩ := HM.out.cells))
       all_goals go_wp2
       all_goals go_ret
       all_goals exact ⟨rfl, HM.out.below⟩
     · rw [if_neg h4] at H0; obtain rfl := Option.some.inj H0; have q4 : ((n4 : Int) == 1) = false := beq_eq_false_iff_ne.mpr h4; clear H0 h3 h4 N4 HN HR hb1 HN3; obtain ⟨x0, x1, y0, y1, y2, y3, y4⟩ := HM.out.cells
       go_quiet (fail)
       go_wp2; go_ret; exact ⟨rfl, HM.out.below.trans (pbN (Below.refl _ _) nq)⟩
   · rw [if_neg h3] at H0; obtain rfl := Option.some.inj H0; have q3 : ((n3 : Int) == 0) = false := beq_eq_false_iff_ne.mpr h3; clear H0 h3 N4 HN HR hb1 HN3; obtain ⟨x0, x1, y0, y1, y2, y3, y4⟩ := HM.out.cells
     go_quiet (fail)
     go_wp2; go_ret; exact ⟨rfl, HM.out.below.trans (pbN (Below.refl _ _) nq)⟩
 · obtain rfl : a2_2 = false := Bool.eq_false_iff.mpr hth; rw [if_neg hth] at H0; obtain rfl := Option.some.inj H0; clear H0 hth N4 HN HR hb1 HN3; obtain ⟨x0, x1, y0, y1, y2, y3, y4⟩ := HM.out.cells
   go_quiet (fail)
   go_wp2; go_ret; exact ⟨rfl, HM.out.below.trans (pbN (Below.refl _ _) nq)⟩
end Go.Proofs.Ytipgldfbjlhpoab.P
namespace Go.Proofs.Ytipgldfbjlhpoab.P
set_option linter.unusedVariables false
set_option linter.unusedSimpArgs false
open Go.RowKit Go.Proofs.YtipgldfbjlhpoabW.PrintWords Go.Proofs.YtipgldfbjlhpoabW.PrintLast Go.Proofs.YtipgldfbjlhpoabW.PrintMore
attribute [local go_sem] max2_int
set_option maxRecDepth 100000
structure LkM (w W : World) (b : Nat) (n a : Int) (A3 : Option Addr) (n3 c3 : Nat) (l3 : List S86) (A4 : Option Addr) (n4 c4 : Nat) (l4 : List (List ByteArray)) : Prop where
 hb : W.heap[b]? = some (.cells #[.int .i64 n, .int .i64 a, .bool false, .slice A3 n3 c3, .slice A4 n4 c4] 82 (0, 0))
 hN : Kd.C k86 W A3 n3 l3
 hP : Kd.C (Kd.slice 9 Kd.string) W A4 n4 l4
 below : Below w.heap.size w W
section
variable {w W W' : World} {b : Nat} {n a : Int} {A3 : Option Addr} {n3 c3 : Nat} {l3 : List S86} {A4 : Option Addr} {n4 c4 : Nat} {l4 : List (List ByteArray)}
theorem LkM.under (h : LkM w W b n a A3 n3 c3 l3 A4 n4 c4 l4) (hb : Below W.heap.size W W') : LkM w W' b n a A3 n3 c3 l3 A4 n4 c4 l4 :=
 ⟨blk_below h.hb hb, Kd.C_below h.hN hb, Kd.C_below h.hP hb, h.below.trans (hb.mono h.below.size)⟩
theorem LkM.drew (h : LkM w W b n a A3 n3 c3 l3 A4 n4 c4 l4) : LkM w W.drew b n a A3 n3 c3 l3 A4 n4 c4 l4 := ⟨h.hb, Kd.C_drew h.hN, Kd.C_drew h.hP, below_drew h.below⟩
theorem LkM.cells (h : LkM w W b n a A3 n3 c3 l3 A4 n4 c4 l4) :
  W.cell? ⟨b, 0, none⟩ = some (.int .i64 n) ∧ W.cell? ⟨b, 1, none⟩ = some (.int .i64 a) ∧ W.cell? ⟨b, 2, none⟩ = some (.bool false) ∧ W.cell? ⟨b, 3, none⟩ = some (.slice A3 n3 c3) ∧ W.cell? ⟨b, 4, none⟩ = some (.slice A4 n4 c4) :=
 ⟨(cell_of_row _ _ _ _ _ _ h.hb).trans rfl, (cell_of_row _ _ _ _ _ _ h.hb).trans rfl, (cell_of_row _ _ _ _ _ _ h.hb).trans rfl, (cell_of_row _ _ _ _ _ _ h.hb).trans rfl, (cell_of_row _ _ _ _ _ _ h.hb).trans rfl⟩
end
set_option maxHeartbeats 4000000 in
theorem proof_Lacks.calls (k : Nat) (a0 : ByteArray) (a1 : ByteArray) (a2_0 : Int) (a2_1 : Int) (a2_2 : Bool) (A2_3 : Option Addr) (c2_3 : Nat) (l2_3 : List S86) (A2_4 : Option Addr) (c2_4 : Nat) (l2_4 : List (List ByteArray)) (r : Bool) (w : World) (hr2_3 : Kd.C k86 w A2_3 l2_3.length l2_3) (hc2_3 : l2_3.length ≤ c2_3) (hr2_4 : Kd.C (Kd.slice 9 Kd.string) w A2_4 l2_4.length l2_4) (hc2_4 : l2_4.length ≤ c2_4) (h : proof_Lacks.f k a0 a1 a2_0 a2_1 a2_2 l2_3 l2_4 = some r) :
  Calls Try.prog 59 #[.string a0, .string a1, .agg #[.int .i64 a2_0, .int .i64 a2_1, .bool a2_2, .slice A2_3 l2_3.length c2_3, .slice A2_4 l2_4.length c2_4]] w fun e w' => e = .returned (.bool r) ∧ Below w.heap.size w w' := by
 have hbox := (Below.refl w.heap.size w).alloc (Nat.le_refl _) (.cells #[.int .i64 a2_0, .int .i64 a2_1, .bool a2_2, .slice A2_3 l2_3.length c2_3, .slice A2_4 l2_4.length c2_4] 82); have hrow := heap_alloc_new w (.cells #[.int .i64 a2_0, .int .i64 a2_1, .bool a2_2, .slice A2_3 l2_3.length c2_3, .slice A2_4 l2_4.length c2_4] 82); have hm3 := Kd.C_max hr2_3; have hN := Kd.C_below hr2_3 hbox; have hP := Kd.C_below hr2_4 hbox
 obtain ⟨n3, hn3⟩ : ∃ n3, n3 = l2_3.length := ⟨_, rfl⟩
 obtain ⟨n4, hn4⟩ : ∃ n4, n4 = l2_4.length := ⟨_, rfl⟩
 rw [← hn3] at hbox hrow hN hP hm3 ⊢; rw [← hn4] at hbox hrow hN hP ⊢; unfold proof_Lacks.f at h; rw [← hn3, ← hn4] at h; have HN3 := Lib.hid hn3; have HN4 := Lib.hid hn4; clear hn3 hn4 hr2_3 hr2_4 hc2_3 hc2_4
 obtain ⟨b, hb⟩ : ∃ b, b = w.heap.size := ⟨_, rfl⟩
 obtain ⟨W0, hW0⟩ : ∃ W0, W0 = w.alloc (.cells #[.int .i64 a2_0, .int .i64 a2_1, .bool a2_2, .slice A2_3 n3 c2_3, .slice A2_4 n4 c2_4] 82) := ⟨_, rfl⟩
 rw [← hW0] at hbox hrow hN hP; rw [← hb] at hrow; have HB := Lib.hid hb; have HW0 := Lib.hid hW0; have HBX := Lib.hid hbox; have HH := Lib.hid h; have HN := Lib.hid hN; have HP := Lib.hid hP; have HR := Lib.hid hrow; clear hb hW0 h hbox hN hP hrow
 go_enter Try.func59, Try.ntmps59
 go_upto_region 1 with fail
 rw [← HW0.out, ← HB.out]; have y0 : W0.cell? ⟨b, 0, none⟩ = some (.int .i64 a2_0) := (cell_of_row _ _ _ _ _ _ HR.out).trans rfl; have y1 : W0.cell? ⟨b, 1, none⟩ = some (.int .i64 a2_1) := (cell_of_row _ _ _ _ _ _ HR.out).trans rfl; have y2 : W0.cell? ⟨b, 2, none⟩ = some (.bool a2_2) := (cell_of_row _ _ _ _ _ _ HR.out).trans rfl; have y3 : W0.cell? ⟨b, 3, none⟩ = some (.slice A2_3 n3 c2_3) := (cell_of_row _ _ _ _ _ _ HR.out).trans rfl; have y4 : W0.cell? ⟨b, 4, none⟩ = some (.slice A2_4 n4 c2_4) := (cell_of_row _ _ _ _ _ _ HR.out).trans rfl; clear HB HW0
 have hbad : ∀ k, proof_Lacks.j0 k a0 a1 true a2_0 a2_1 a2_2 l2_3 l2_4 = some r → r = false := by
  intro k h
  cases k with
  | zero => rw [proof_Lacks.j0] at h; cases h
  | succ k => rw [proof_Lacks.j0, if_pos rfl] at h; exact (Option.some.inj h).symm
 have h := HH.out; clear HH
 by_cases c0 : a2_2 = true
 · rw [if_pos c0] at h; obtain rfl := hbad _ h; subst c0; clear h hbad; go_wp2; go_ret; exact ⟨rfl, HBX.out⟩
 · obtain rfl : a2_2 = false := Bool.eq_false_iff.mpr c0; rw [if_neg c0] at h; clear c0
   by_cases c1 : a2_1 < 0
   · rw [if_pos c1] at h; obtain rfl := hbad _ h; clear h hbad; go_wp2; go_ret; exact ⟨rfl, HBX.out⟩
   · rw [if_neg c1] at h
     by_cases c2 : a2_1 > a2_0
     · rw [if_pos c2] at h; obtain rfl := hbad _ h; clear h hbad; go_wp2; go_ret; exact ⟨rfl, HBX.out⟩
     · rw [if_neg c2] at h
       by_cases c3 : n4 = n3
       · subst c3; have hM := Lib.hid (show LkM w W0 b a2_0 a2_1 A2_3 n4 c2_3 l2_3 A2_4 n4 c2_4 l2_4 from ⟨HR.out, HN.out, HP.out, HBX.out⟩); clear HR HN HP HBX hbad; rw [show ((n4 : Int) != (n4 : Int)) = false from bne_self_eq_false _] at h; have HH := Lib.hid h; clear h; have c2' : ¬ a2_0 < a2_1 := c2
         go_upto_region 3 with fail
         have z1 : W0.drew.cell? ⟨b, 1, none⟩ = some (.int .i64 a2_1) := y1
         obtain ⟨x7, hx7⟩ : ∃ x7, x7 = mx 0 (wrap64 (a2_1 - 1)) := ⟨_, rfl⟩
         have HH := HH.out
         cases k with
         | zero => rw [proof_Lacks.j0] at HH; cases HH
         | succ k =>
         rw [proof_Lacks.j0, if_neg (by decide), ← hx7] at HH; have hx8 : (if 0 < wrap64 (a2_1 - 1) then wrap64 (a2_1 - 1) else 0) = x7 := hx7.symm; have HX8 := Lib.hid hx8; have H1 := Lib.hid HH; clear HH hx7 hx8
         go_region
         rw [HX8.out]; clear HX8; have hM1 := Lib.hid hM.out.drew; have z0 : W0.drew.cell? ⟨b, 0, none⟩ = some (.int .i64 a2_0) := y0
         obtain ⟨W1, hW1⟩ : ∃ W1, W1 = W0.drew := ⟨_, rfl⟩
         rw [← hW1] at hM1 z0 z1 ⊢; clear hW1 hM y0 y1 y2 y3 y4
         go_upto_if 46 with (fail)
         go_cut [8] (fun v8 wc => ∃ (kq : Nat) (x8 : Int), v8 = .int .i64 x8 ∧ proof_Lacks.j1 kq a0 a1 x7 x8 a2_0 a2_1 false l2_3 l2_4 = some r ∧ LkM w wc b a2_0 a2_1 A2_3 n4 c2_3 l2_3 A2_4 n4 c2_4 l2_4)
         case first =>
          have h := H1.out; clear H1
          by_cases c18 : a2_1 < a2_0
          · rw [if_pos c18] at h; have h := Lib.hid h; go_wp2; go_meet; exact ⟨_, _, rfl, h.out, hM1.out⟩
          · rw [if_neg c18] at h; have h := Lib.hid h; go_wp2; go_meet; exact ⟨_, _, rfl, h.out, hM1.out⟩
         case rest =>
          clear hM1 H1 z0 z1; obtain ⟨kq, x8, rfl, h, hM⟩ := hcut; have HM := Lib.hid hM
          cases kq with
          | zero => rw [proof_Lacks.j1] at h; cases h
          | succ kq =>
          rw [proof_Lacks.j1, ← HN3.out] at h; obtain ⟨y0, y1, y2, y3, y4⟩ := hM.cells; clear hM
          by_cases c19 : (n4 : Int) = wrap64 (x8 - x7)
          · rw [if_pos c19] at h; have H := Lib.hid h; have q0 : ((n4 : Int) == wrap64 (x8 - x7)) = true := beq_iff_eq.mpr c19; have q1 : ((n4 : Int) != wrap64 (x8 - x7)) = false := bne_eq_false_iff_eq.mpr c19; clear h c19; go_wp2
            go_loopw [59] (fun v wr => ∃ (j : Nat) (kr : Nat), j ≤ n4 ∧ v = .int .i64 (j : Int) ∧ proof_Lacks.l0 kr a0 a1 x7 l2_3 (n4 : Int) (j : Int) a2_0 a2_1 false l2_3 l2_4 = some r ∧ LkM w wr b a2_0 a2_1 A2_3 n4 c2_3 l2_3 A2_4 n4 c2_4 l2_4) (fun v _ => n4 - (intOf v).toNat)
            case atStart => exact ⟨0, kq, Nat.zero_le _, rfl, H.out, HM.out⟩
            case round =>
             clear H HM y0 y1 y2 y3 y4 q0 q1; obtain ⟨j, kr, hj, rfl, h, hM⟩ := hrel; have HM := Lib.hid hM; clear hM
             cases kr with
             | zero => rw [proof_Lacks.l0] at h; cases h
             | succ kr =>
             rw [proof_Lacks.l0, ← HN3.out] at h
             by_cases c21 : (j : Int) < (n4 : Int)
             · rw [if_pos c21, if_pos (by omega), if_pos c21] at h; obtain ⟨ad, rfl, x0, x1⟩ := at_T86 HM.out.hN (j : Int) (by omega) c21; rw [Int.toNat_natCast] at x0 x1
               obtain ⟨P, hP⟩ : ∃ P, P = rd_T86 l2_3 (j : Int) := ⟨_, rfl⟩
               rw [← hP] at x0 x1 h; obtain ⟨y0, y1, y2, y3, y4⟩ := HM.out.cells
               obtain ⟨i, hi⟩ : ∃ i, i = wrap64 (x7 + (j : Int)) := ⟨_, rfl⟩
               rw [← hi] at h; have H := Lib.hid h; have HI := Lib.hid hi
               have k0 : (0 : Int) ≤ (j : Int) := by omega
               clear h hP hi; have hba := (Below.refl wr.heap.size wr).alloc (Nat.le_refl _) (.cells #[.string P.f0, .string P.f1] 86); have z1 := (HM.out.under hba).cells.2.1; have hrow := heap_alloc_new wr (.cells #[.string P.f0, .string P.f1] 86); have HM2 := Lib.hid (HM.out.under hba); have HROW := Lib.hid hrow; clear hba hrow HM
               go_upto_region 13 with fail
               obtain ⟨W2, hW2⟩ : ∃ W2, W2 = wr.alloc (.cells #[.string P.f0, .string P.f1] 86) := ⟨_, rfl⟩
               rw [← hW2] at HM2 HROW ⊢
               obtain ⟨b9, hb9⟩ : ∃ b9, b9 = wr.heap.size := ⟨_, rfl⟩
               rw [← hb9] at HROW ⊢; rw [← HI.out]; clear z1 x0 x1 y0 y1 y2 y3 y4 hW2 hb9
               by_cases g1 : (decide (i < a2_1) != Op.bytesLess P.f0.toList a1.toList) = true
               · have h := H.out; rw [if_pos g1] at h; obtain rfl := Option.some.inj h
                 have g2 : decide (decide (i < a2_1) = Op.bytesLess P.f0.toList a1.toList) = false := by simpa using g1
                 have g3 : (decide (i < a2_1) == Op.bytesLess P.f0.toList a1.toList) = false := by simpa using g1
                 clear h H; obtain ⟨y0, y1, y2, y3, y4⟩ := HM2.out.cells; have p0 : W2.cell? ⟨b9, 0, none⟩ = some (.string P.f0) := (cell_of_row _ _ _ _ _ _ HROW.out).trans rfl; have p1 : W2.cell? ⟨b9, 1, none⟩ = some (.string P.f1) := (cell_of_row _ _ _ _ _ _ HROW.out).trans rfl
                 go_quiet (fail)
                 go_wp2; go_ret; exact ⟨rfl, HM2.out.below.trans (pbN (Below.refl _ _) nq)⟩
               · have g0 : (decide (i < a2_1) != Op.bytesLess P.f0.toList a1.toList) = false := by simpa using g1
                 have g2 : decide (decide (i < a2_1) = Op.bytesLess P.f0.toList a1.toList) = true := by simpa using g1
                 have g3 : (decide (i < a2_1) == Op.bytesLess P.f0.toList a1.toList) = true := by simpa using g1
                 by_cases g4 : P.f0.toList = a1.toList
                 · have h := H.out; rw [if_neg g1, if_pos g4] at h; obtain rfl := Option.some.inj h; have g5 : (P.f0.toList == a1.toList) = true := beq_iff_eq.mpr g4; clear h H g1 g4; obtain ⟨y0, y1, y2, y3, y4⟩ := HM2.out.cells; have p0 : W2.cell? ⟨b9, 0, none⟩ = some (.string P.f0) := (cell_of_row _ _ _ _ _ _ HROW.out).trans rfl; have p1 : W2.cell? ⟨b9, 1, none⟩ = some (.string P.f1) := (cell_of_row _ _ _ _ _ _ HROW.out).trans rfl
                   go_quiet (fail)
                   go_wp2; go_ret; exact ⟨rfl, HM2.out.below.trans (pbN (Below.refl _ _) nq)⟩
                 · have h := H.out; rw [if_neg g1, if_neg g4, ← HN4.out, if_pos c21] at h; obtain ⟨t, ht, h⟩ := Option.bind_eq_some_iff.mp h; have g5 : (P.f0.toList == a1.toList) = false := beq_eq_false_iff_ne.mpr g4; obtain ⟨ae, A5, c5, rfl, hx, h5, hC5⟩ := at_L10 HM2.out.hP (j : Int) (by omega) c21
                   obtain ⟨q, hq⟩ : ∃ q, q = rd_L10 l2_4 (j : Int) := ⟨_, rfl⟩
                   rw [← hq] at hx h5 hC5 ht; rw [Int.toNat_natCast] at hx
                   have hcall := fun W hW => proof_leads.calls kr a0 P.f0 P.f1 a2_0 i A5 c5 q t W hW h5 ht
                   obtain ⟨n5, hn5⟩ : ∃ n5, n5 = q.length := ⟨_, rfl⟩
                   rw [← hn5] at hx hC5 hcall; have HCQ := Lib.hid (Kd.C_drew hC5); replace hx : W2.drew.cell? (ae.add j) = some (.slice A5 n5 c5) := hx; have HH := Lib.hid h; clear h H g1 g4 h5 hC5 ht hq hn5; obtain ⟨z0, z1, z2, z3, z4⟩ := HM2.out.drew.cells; have p0 : W2.drew.cell? ⟨b9, 0, none⟩ = some (.string P.f0) := (cell_of_row _ _ _ _ _ _ HROW.out).trans rfl; have p1 : W2.drew.cell? ⟨b9, 1, none⟩ = some (.string P.f1) := (cell_of_row _ _ _ _ _ _ HROW.out).trans rfl; replace HM2 := Lib.hid HM2.out.drew; clear z1 z2 z3
                   cases t with
                   | false =>
                    obtain rfl := Option.some.inj HH.out; clear HH
                    go_region_held3 (fun w' => w'.cell? ⟨b9, 0, none⟩ = some (.string P.f0) ∧ w'.cell? ⟨b9, 1, none⟩ = some (.string P.f1) ∧ w'.cell? ⟨b, 0, none⟩ = some (.int .i64 a2_0) ∧ w'.cell? ⟨b, 4, none⟩ = some (.slice (some ae) n4 c2_4) ∧ w'.cell? (ae.add j) = some (.slice A5 n5 c5))
                     (first | exact ⟨p0, p1, z0, z4, hx⟩ | exact ⟨cell_keep1 p0 _, cell_keep1 p1 _, cell_keep1 z0 _, cell_keep1 z4 _, cell_keep1 hx _⟩ | go_keep)
                     (first
                     | (go_at_call 128; (with_reducible refine (hcall _ HCQ.out).mono ?_); rintro e wn ⟨rfl, hb⟩; replace HM2 := Lib.hid (HM2.out.under hb); replace hx := (hb.cell (World.block_lt_of_cell? _ _ hx)).trans hx; replace p0 := (hb.cell (World.block_lt_of_cell? _ _ p0)).trans p0; replace p1 := (hb.cell (World.block_lt_of_cell? _ _ p1)).trans p1; replace z0 := (hb.cell (World.block_lt_of_cell? _ _ z0)).trans z0; replace z4 := (hb.cell (World.block_lt_of_cell? _ _ z4)).trans z4; clear hb))
                    all_goals go_wp2
                    all_goals go_ret
                    all_goals exact ⟨rfl, HM2.out.below⟩
                   | true =>
                    have h2 := HH.out
                    have hw : wrap64 ((j : Int) + 1) = ((j + 1 : Nat) : Int) := by unfold wrap64; omega
                    rw [if_pos rfl, hw] at h2; have HK := Lib.hid h2; clear h2 hw HH
                    go_region_held3 (fun w' => w'.cell? ⟨b9, 0, none⟩ = some (.string P.f0) ∧ w'.cell? ⟨b9, 1, none⟩ = some (.string P.f1) ∧ w'.cell? ⟨b, 0, none⟩ = some (.int .i64 a2_0) ∧ w'.cell? ⟨b, 4, none⟩ = some (.slice (some ae) n4 c2_4) ∧ w'.cell? (ae.add j) = some (.slice A5 n5 c5))
                     (first | exact ⟨p0, p1, z0, z4, hx⟩ | exact ⟨cell_keep1 p0 _, cell_keep1 p1 _, cell_keep1 z0 _, cell_keep1 z4 _, cell_keep1 hx _⟩ | go_keep)
                     (first
                     | (go_at_call 128; (with_reducible refine (hcall _ HCQ.out).mono ?_); rintro e wn ⟨rfl, hb⟩; replace HM2 := Lib.hid (HM2.out.under hb); replace hx := (hb.cell (World.block_lt_of_cell? _ _ hx)).trans hx; replace p0 := (hb.cell (World.block_lt_of_cell? _ _ p0)).trans p0; replace p1 := (hb.cell (World.block_lt_of_cell? _ _ p1)).trans p1; replace z0 := (hb.cell (World.block_lt_of_cell? _ _ z0)).trans z0; replace z4 := (hb.cell (World.block_lt_of_cell? _ _ z4)).trans z4; clear hb))
                    all_goals go_wp2
                    all_goals exact ⟨⟨j + 1, kr, by omega, by go_num, HK.out, HM2.out⟩, by simp [intOf]; omega⟩
             · rw [if_neg c21] at h; obtain ⟨y0, y1, y2, y3, y4⟩ := HM.out.cells
               by_cases c55 : 0 < a2_0
               · rw [if_pos c55] at h; obtain rfl := Option.some.inj h; clear h; go_wp2; go_ret; exact ⟨rfl, HM.out.below⟩
               · rw [if_neg c55] at h; obtain ⟨t, ht, h⟩ := Option.bind_eq_some_iff.mp h; obtain rfl := Option.some.inj h; have htop := merkle_Top.calls 0 ⟨#[]⟩ t wr ht; clear h ht
                 go_wp2_with fail
                 refine htop.mono ?_; rintro e wn ⟨rfl, hb⟩; replace HM := Lib.hid (HM.out.under hb); clear hb htop y0 y1 y2 y3 y4; go_wp2; go_ret; exact ⟨rfl, HM.out.below⟩
          · rw [if_neg c19] at h; obtain rfl := Option.some.inj h; have q0 : ((n4 : Int) == wrap64 (x8 - x7)) = false := beq_eq_false_iff_ne.mpr c19; have q1 : ((n4 : Int) != wrap64 (x8 - x7)) = true := bne_iff_ne.mpr c19; clear h c19; go_wp2; go_ret; exact ⟨rfl, HM.out.below⟩
       · have q0 : ((n4 : Int) == (n3 : Int)) = false := by rw [beq_eq_false_iff_ne]; omega
         have q1 : ((n4 : Int) != (n3 : Int)) = true := by rw [bne_iff_ne]; omega
         rw [q1] at h; obtain rfl := hbad _ h; clear h hbad c3; have c2' : ¬ a2_0 < a2_1 := c2; go_wp2; go_ret; exact ⟨rfl, HBX.out⟩
end Go.Proofs.Ytipgldfbjlhpoab.P
namespace Go.Proofs.Ytipgldfbjlhpoab.Pure
set_option linter.unusedVariables false
set_option linter.unusedSimpArgs false
open Go.RowKit Go.Proofs.Ytipgldfbjlhpoab.P Go.Proofs.Ytipgldfbjlhpoab.Wire Go.Proofs.Ytipgldfbjlhpoab.Sha Go.Proofs.YtipgldfbjlhpoabW.PrintWords Go.Proofs.YtipgldfbjlhpoabW.PrintLast
theorem sum_f (s : ByteArray) (h : s.size ≤ 1000000000000000) : sha_Sum.f s = some (sumB s) := by unfold sha_Sum.f; rw [if_pos h]
theorem rsum_f (s : ByteArray) (h : s.size ≤ 1000000000000000) : footbridgeref04_Sum.f s = some (sumB s) := by unfold footbridgeref04_Sum.f; rw [if_pos h]
theorem size_sumB (s : ByteArray) : (sumB s).size = 32 := by rw [sumB, size_ofL, length_sumL]
def leafT (p : S86) : ByteArray := ((⟨#[0]⟩ : ByteArray) ++ enc1 p.f0) ++ enc1 p.f1
def nodeT (a b : ByteArray) : ByteArray := ((⟨#[1]⟩ : ByteArray) ++ a) ++ b
def numE (n : Int) : ByteArray := match wire_Num.f n with | some x => x.1 | none => ⟨#[]⟩
def topT (n : Int) (t : ByteArray) : ByteArray := ((⟨#[2]⟩ : ByteArray) ++ numE n) ++ t
theorem numE_f (n : Int) : ∃ e, wire_Num.f n = some (numE n, e) := by
 obtain ⟨x, hx⟩ : ∃ x, wire_Num.f n = some x := ⟨_, rfl⟩
 unfold numE; rw [hx]; exact ⟨x.2, rfl⟩
theorem numE_nat (n : Nat) (hn : n ≤ 9007199254740992) : numE (n : Int) = numB n := by unfold numE; rw [num_f n hn]
theorem size_numE (n : Int) : (numE n).size ≤ 9 := by
 by_cases h : n < 0 ∨ 9007199254740992 < n
 · unfold numE wire_Num.f; rw [if_pos h]; exact Nat.zero_le _
 · obtain ⟨m, rfl⟩ := Int.eq_ofNat_of_zero_le (show 0 ≤ n by omega); rw [numE_nat m (by omega)]; exact size_numB m (by omega)
theorem one_size (x : UInt8) : (⟨#[x]⟩ : ByteArray).size = 1 := rfl
theorem size_nodeT (a b : ByteArray) : (nodeT a b).size = 1 + a.size + b.size := by unfold nodeT; rw [ByteArray.size_append, ByteArray.size_append, one_size]
theorem size_topT (n : Int) (t : ByteArray) : (topT n t).size = 1 + (numE n).size + t.size := by unfold topT; rw [ByteArray.size_append, ByteArray.size_append, one_size]
theorem size_leafT (p : S86) : (leafT p).size = 1 + (enc1 p.f0).size + (enc1 p.f1).size := by unfold leafT; rw [ByteArray.size_append, ByteArray.size_append, one_size]
theorem text_f (s : ByteArray) (hs : s.size ≤ 65536) : wire_Text.f s = some (enc1 s, 0) := by
 unfold wire_Text.f; rw [if_neg (by omega), num_f _ (by omega), Option.bind_some, if_pos (by have := size_numB s.size (by omega); simp only; omega)]; rfl
theorem enc1_le (s : ByteArray) (hs : s.size ≤ 65536) : (enc1 s).size ≤ s.size + 9 := by
 rw [size_enc1]; have := size_numB s.size (by omega); omega
theorem leaf_f (a b : ByteArray) (h0 : a.size ≤ 1000) (h1 : b.size ≤ 1000) : merkle_Leaf.f a b = some (sumB (leafT ⟨a, b⟩)) := by
 have e0 := enc1_le a (by omega); have e1 := enc1_le b (by omega); unfold merkle_Leaf.f; rw [text_f _ (by omega), text_f _ (by omega)]; simp only [Option.bind_some]; rw [if_pos (by omega), if_pos (by rw [ByteArray.size_append, one_size]; omega), sum_f _ (by rw [ByteArray.size_append, ByteArray.size_append, one_size]; omega), Option.bind_some]; rfl
theorem rleaf_f (a b : ByteArray) (k : Nat) (hk : 12 ≤ k) (h0 : a.size ≤ 1000) (h1 : b.size ≤ 1000) : footbridgeref11_LeafText.f k a b = some (leafT ⟨a, b⟩) := by
 have e0 := enc1_le a (by omega); have e1 := enc1_le b (by omega); unfold footbridgeref11_LeafText.f; rw [lay_text _ k hk, lay_text _ k hk, text_f _ (by omega), text_f _ (by omega)]; simp only [Option.bind_some]; rw [if_pos (by omega), if_pos (by rw [ByteArray.size_append, one_size]; omega)]; rfl
theorem node_f (a b : ByteArray) (h0 : a.size ≤ 1000000) (h1 : b.size ≤ 1000000) : merkle_Node.f a b = some (sumB (nodeT a b)) := by
 unfold merkle_Node.f; rw [if_pos (by omega), if_pos (by rw [ByteArray.size_append, one_size]; omega), sum_f _ (by rw [ByteArray.size_append, ByteArray.size_append, one_size]; omega), Option.bind_some]; rfl
theorem rnode_f (a b : ByteArray) (h0 : a.size ≤ 1000000) (h1 : b.size ≤ 1000000) : footbridgeref11_NodeText.f a b = some (nodeT a b) := by
 unfold footbridgeref11_NodeText.f; rw [if_pos (by omega), if_pos (by rw [ByteArray.size_append, one_size]; omega)]; rfl
theorem top_f (n : Int) (t : ByteArray) (ht : t.size ≤ 1000000) : merkle_Top.f n t = some (sumB (topT n t)) := by
 obtain ⟨e, he⟩ := numE_f n; have := size_numE n; unfold merkle_Top.f; rw [he]; simp only [Option.bind_some]; rw [if_pos (by omega), if_pos (by rw [ByteArray.size_append, one_size]; omega), sum_f _ (by rw [ByteArray.size_append, ByteArray.size_append, one_size]; omega), Option.bind_some]; rfl
theorem rtop_f (n : Int) (t : ByteArray) (k : Nat) (hk : 12 ≤ k) (ht : t.size ≤ 1000000) : footbridgeref11_TopText.f k n t = some (topT n t) := by
 obtain ⟨e, he⟩ := numE_f n; have := size_numE n; unfold footbridgeref11_TopText.f; rw [rlay_f _ k hk, he]; simp only [Option.bind_some]; rw [if_pos (by omega), if_pos (by rw [ByteArray.size_append, one_size]; omega)]; rfl
def sp (n : Nat) : Nat := if n < 2 then 0 else 2 ^ (n - 1).log2
theorem sp_bounds (n : Nat) (h : 2 ≤ n) : 1 ≤ sp n ∧ sp n < n ∧ n ≤ 2 * sp n := by
 unfold sp; rw [if_neg (by omega)]; have h1 := Nat.log2_self_le (n := n - 1) (by omega); have h2 := Nat.lt_log2_self (n := n - 1); have h3 : 0 < 2 ^ (n - 1).log2 := Nat.two_pow_pos _; rw [Nat.pow_succ] at h2; omega
theorem sp_eq (n j : Nat) (h : 2 ^ j < n) (h2 : n ≤ 2 * 2 ^ j) : sp n = 2 ^ j := by
 have h3 : 0 < 2 ^ j := Nat.two_pow_pos _; unfold sp; rw [if_neg (by omega)]
 congr 1
 rw [Nat.log2_eq_iff (by omega), Nat.pow_succ]; omega
theorem log_lt (n : Nat) (h : 2 ≤ n) (hn : n ≤ 1099511627776) : (n - 1).log2 < 40 := by
 rw [Nat.log2_lt (by omega)]; omega
theorem split_f (n : Nat) (hn : n ≤ 1099511627776) : merkle_Split.f (n : Int) = some (sp n : Int) := by
 unfold merkle_Split.f
 by_cases h : n < 2
 · rw [if_pos (by omega)]; unfold sp; rw [if_pos h]; rfl
 · have hl := log_lt n (by omega) hn
   have w1 : wrap64 ((n : Int) - 1) = ((n - 1 : Nat) : Int) := by rw [w64 (by omega) (by omega)]; omega
   have w2 : IntKind.u64.wrap ((n - 1 : Nat) : Int) = ((n - 1 : Nat) : Int) := by simp [IntKind.wrap, IntKind.bits, IntKind.signed]; omega
   have hb : bitLen (n - 1) = (n - 1).log2 + 1 := by unfold bitLen; rw [if_neg (by omega)]
   have w3 : wrap64 ((((n - 1).log2 + 1 : Nat) : Int) - 1) = (((n - 1).log2 : Nat) : Int) := by rw [w64 (by omega) (by omega)]; omega
   rw [if_neg (by omega), w1, w2]; unfold bits_Len.f; rw [if_pos (by omega), if_pos (by omega), Int.toNat_natCast, hb, Option.bind_some, w3, if_pos (by omega)]; unfold sp; rw [if_neg h]
   congr 1
   generalize (n - 1).log2 = j at hl
   clear w1 w2 w3 hb
   revert j
   decide +kernel
theorem rsplit_l0 (n : Nat) (hn : n ≤ 1099511627776) : ∀ (d j k : Nat), j + d = 41 → 2 ^ j < n → d < k → footbridgeref11_Split.l0 k (n : Int) ((2 ^ j : Nat) : Int) = some (sp n : Int) := by
 intro d
 induction d with
 | zero =>
  intro j k hj h hk
  obtain rfl : j = 41 := by omega
  have : (2 : Nat) ^ 41 = 2199023255552 := rfl; omega
 | succ d ih =>
  intro j k hj h hk
  obtain ⟨k, rfl⟩ : ∃ q, k = q + 1 := ⟨k - 1, by omega⟩
  obtain ⟨p, hp⟩ : ∃ p, p = 2 ^ j := ⟨_, rfl⟩
  have hs : 2 ^ (j + 1) = 2 * p := by rw [Nat.pow_succ, hp]; omega
  have hp1 : p < n := by rw [hp]; exact h
  rw [← hp]
  have w1 : wrap64 ((n : Int) - (p : Int)) = ((n - p : Nat) : Int) := by rw [w64 (by omega) (by omega)]; omega
  have w2 : wrap64 (2 * (p : Int)) = ((2 * p : Nat) : Int) := by rw [w64 (by omega) (by omega)]; omega
  rw [footbridgeref11_Split.l0, w1, w2]
  by_cases h2 : 2 * p < n
  · have := ih (j + 1) k (by omega) (by rw [hs]; exact h2) (by omega); rw [hs] at this; rw [if_pos (by clear w1 w2; omega)]; exact this
  · rw [if_neg (by clear w1 w2; omega), sp_eq n j (by rw [← hp]; exact hp1) (by rw [← hp]; omega), hp]
theorem rsplit_f (n : Nat) (hn : n ≤ 1099511627776) (k : Nat) (hk : 50 ≤ k) : footbridgeref11_Split.f k (n : Int) = some (sp n : Int) := by
 unfold footbridgeref11_Split.f
 by_cases h : n < 2
 · rw [if_pos (by omega)]; unfold sp; rw [if_pos h]; rfl
 · rw [if_neg (by omega)]; exact rsplit_l0 n hn 41 0 k (by omega) (by simp; omega) (by omega)
def short (m : Nat) (l : List S86) : Prop := ∀ p ∈ l, p.f0.size ≤ m ∧ p.f1.size ≤ m
theorem short_take {m : Nat} {l : List S86} (h : short m l) (n : Nat) : short m (l.take n) := fun p hp => h p (List.mem_of_mem_take hp)
theorem short_drop {m : Nat} {l : List S86} (h : short m l) (n : Nat) : short m (l.drop n) := fun p hp => h p (List.mem_of_mem_drop hp)
theorem rd_mem {l : List S86} (i : Nat) (h : i < l.length) : rd_T86 l (i : Int) = l[i] := by
 unfold rd_T86; rw [Int.toNat_natCast, List.getD_eq_getElem?_getD, List.getElem?_eq_getElem h]; rfl
def tree : Nat → List S86 → ByteArray
 | 0, _ => ⟨#[]⟩
 | d + 1, l => if l.length = 0 then ⟨#[]⟩ else if l.length = 1 then sumB (leafT (rd_T86 l 0)) else sumB (nodeT (tree d (l.take (sp l.length))) (tree d (l.drop (sp l.length))))
def alls : Nat → List S86 → List ByteArray
 | 0, _ => []
 | d + 1, l => if l.length = 0 then [] else if l.length = 1 then [leafT (rd_T86 l 0)] else
   alls d (l.take (sp l.length)) ++ alls d (l.drop (sp l.length)) ++ [nodeT (tree d (l.take (sp l.length))) (tree d (l.drop (sp l.length)))]
theorem tree_size (d : Nat) (l : List S86) : (tree d l).size ≤ 32 := by
 cases d with
 | zero => exact Nat.zero_le _
 | succ d =>
  rw [tree]
  split
  · exact Nat.zero_le _
  · split
    · rw [size_sumB]; exact Nat.le_refl _
    · rw [size_sumB]; exact Nat.le_refl _
theorem tree_32 (d : Nat) (l : List S86) (h : 1 ≤ l.length) (hd : l.length ≤ d) : (tree d l).size = 32 := by
 cases d with
 | zero => omega
 | succ d =>
  rw [tree, if_neg (by omega)]
  split
  · rw [size_sumB]
  · rw [size_sumB]
theorem parts_len (l : List S86) (h : 2 ≤ l.length) : (l.take (sp l.length)).length = sp l.length ∧ (l.drop (sp l.length)).length = l.length - sp l.length := by
 have := sp_bounds l.length h; rw [List.length_take, List.length_drop]; omega
theorem alls_len : ∀ (d : Nat) (l : List S86), (alls d l).length ≤ 2 * l.length - 1 := by
 intro d
 induction d with
 | zero => intro l; exact Nat.zero_le _
 | succ d ih =>
  intro l; rw [alls]
  split
  · exact Nat.zero_le _
  · split
    · simp; omega
    · have hp := parts_len l (by omega); have hb := sp_bounds l.length (by omega); have h1 := ih (l.take (sp l.length)); have h2 := ih (l.drop (sp l.length)); rw [List.length_append, List.length_append, List.length_singleton]; omega
theorem alls_size : ∀ (d : Nat) (l : List S86), short 200 l → ∀ t ∈ alls d l, t.size ≤ 1000 := by
 intro d
 induction d with
 | zero => intro l _ t ht; cases ht
 | succ d ih =>
  intro l hs t ht; rw [alls] at ht
  split at ht
  · cases ht
  · split at ht
    · rename_i h0 h1
      have hm : rd_T86 l 0 ∈ l := by
       have := rd_mem (l := l) 0 (by omega); rw [show ((0 : Nat) : Int) = 0 from rfl] at this; rw [this]; exact List.getElem_mem _
      have := hs _ hm; rw [List.mem_singleton] at ht; rw [ht, size_leafT]; have e0 := enc1_le (rd_T86 l 0).f0 (by omega); have e1 := enc1_le (rd_T86 l 0).f1 (by omega); omega
    · rw [List.mem_append, List.mem_append, List.mem_singleton] at ht
      rcases ht with (ht | ht) | rfl
      · exact ih _ (short_take hs _) t ht
      · exact ih _ (short_drop hs _) t ht
      · rw [size_nodeT]; have := tree_size d (l.take (sp l.length)); have := tree_size d (l.drop (sp l.length)); omega
theorem rd_short {l : List S86} {m : Nat} (hs : short m l) (h : 0 < l.length) : (rd_T86 l 0).f0.size ≤ m ∧ (rd_T86 l 0).f1.size ≤ m := by
 have := rd_mem (l := l) 0 h; rw [show ((0 : Nat) : Int) = 0 from rfl] at this; rw [this]; exact hs _ (List.getElem_mem _)
theorem rtree_f : ∀ (d : Nat) (l : List S86) (k : Nat), l.length ≤ d → d + 60 ≤ k → l.length ≤ 1000 → short 200 l → footbridgeref11_Tree.f k l = some (tree d l, alls d l) := by
 intro d
 induction d with
 | zero =>
  intro l k h2 hk hl hs
  obtain ⟨k, rfl⟩ : ∃ q, k = q + 1 := ⟨k - 1, by omega⟩
  rw [footbridgeref11_Tree.f, if_pos (by omega)]; rfl
 | succ d ih =>
  intro l k h2 hk hl hs
  obtain ⟨k, rfl⟩ : ∃ q, k = q + 1 := ⟨k - 1, by omega⟩
  rw [footbridgeref11_Tree.f, tree, alls]
  by_cases h0 : l.length = 0
  · rw [if_pos (by omega), if_pos h0, if_pos h0]
  · rw [if_neg (by omega), if_neg h0, if_neg h0]
    by_cases h : l.length = 1
    · have := rd_short hs (by omega); have e0 := enc1_le (rd_T86 l 0).f0 (by omega); have e1 := enc1_le (rd_T86 l 0).f1 (by omega); rw [if_pos (by omega), if_pos (by omega), if_pos h, if_pos h, rleaf_f _ _ k (by omega) (by omega) (by omega), Option.bind_some, rsum_f _ (by rw [size_leafT]; simp only; omega), Option.bind_some]
    · have hp := parts_len l (by omega); have hb := sp_bounds l.length (by omega); have a1 := alls_len d (l.take (sp l.length)); have a2 := alls_len d (l.drop (sp l.length)); have t1 := tree_size d (l.take (sp l.length)); have t2 := tree_size d (l.drop (sp l.length))
      rw [if_neg (by omega), if_neg h, if_neg h, rsplit_f _ (by omega) k (by omega), Option.bind_some, if_pos (by omega), if_pos (by omega), Int.toNat_natCast,
       ih (l.take (sp l.length)) k (by omega) (by omega) (by omega) (short_take hs _), Option.bind_some,
       ih (l.drop (sp l.length)) k (by omega) (by omega) (by omega) (short_drop hs _), Option.bind_some,
       rnode_f _ _ (by dsimp only; omega) (by dsimp only; omega), Option.bind_some, if_pos (by simp only [List.length_nil]; omega), Option.bind_some,
       if_pos (by rw [List.nil_append]; dsimp only; omega), Option.bind_some, if_pos (by rw [List.nil_append, List.length_append]; dsimp only; omega),
       rsum_f _ (by rw [size_nodeT]; dsimp only; omega), Option.bind_some, List.nil_append]
def rootP (l : List S86) : ByteArray := sumB (topT (l.length : Int) (tree 20 l))
def rootA (l : List S86) : List ByteArray := alls 20 l ++ [topT (l.length : Int) (tree 20 l)]
theorem rroot_f (l : List S86) (k : Nat) (hk : 100 ≤ k) (hl : l.length ≤ 20) (hs : short 200 l) : footbridgeref11_Root.f k l = some (rootP l, rootA l) := by
 have a1 := alls_len 20 l; have t1 := tree_size 20 l; have z := size_numE (l.length : Int); unfold footbridgeref11_Root.f
 rw [rtree_f 20 l k hl (by omega) (by omega) hs, Option.bind_some, rtop_f _ _ k (by omega) (by simp only; omega), Option.bind_some, if_pos (by simp only [List.length_nil]; omega), Option.bind_some, if_pos (by rw [List.nil_append]; simp only; omega),
  rsum_f _ (by rw [size_topT]; simp only; omega), Option.bind_some, List.nil_append]
 rfl
end Go.Proofs.Ytipgldfbjlhpoab.Pure
