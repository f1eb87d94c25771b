import Derived.Test.YtipgldfbjlhpoabZdP0
import Derived.Test.YtipgldfbjlhpoabZdHWire
import Derived.Test.YtipgldfbjlhpoabZdPS
import Derived.Test.YtipgldfbjlhpoabZdPWire
-- Printed by wip/myprint.py.
namespace Go.Proofs.Ytipgldfbjlhpoab.P
open Go.RowKit Go.Proofs.YtipgldfbjlhpoabW.PrintWords Go.Proofs.YtipgldfbjlhpoabW.PrintLast Go.Proofs.YtipgldfbjlhpoabW.PrintMore
attribute [local go_sem] max2_int min2_int max_two min_two max_three min_three max_four min_four   -- for this text's walks alone
set_option linter.unusedVariables false
set_option linter.unusedSimpArgs false
def wire_Join.l0 : Nat → ByteArray → List ByteArray → Int → Int → Option (ByteArray × Int)
 | 0, _, _, _, _ => none
 | k + 1, x4, x19, x20, x21 => if x21 < x20 then (if 0 ≤ x21 then (if x21 < (x19.length : Int) then ((wire_Text.f (rdOf ByteArray.empty x19 x21)).bind fun bt658 => (if bt658.2 = 0 then (if x4.size + bt658.1.size ≤ 9223372036854775807 then (wire_Join.l0 k (x4 ++ bt658.1) x19 x20 (wrap64 (x21 + 1))) else (none)) else (some ((⟨#[]⟩ : ByteArray), bt658.2)))) else (none)) else (none)) else (some (x4, 0))
def wire_Join.f (k : Nat) (l0 : List ByteArray) : Option (ByteArray × Int) := if (l0.length : Int) > 256 then (some ((⟨#[]⟩ : ByteArray), 4)) else ((wire_Num.f (l0.length : Int)).bind fun bt655 => (wire_Join.l0 k bt655.1 l0 (l0.length : Int) 0))
set_option maxHeartbeats 8000000 in
set_option maxRecDepth 100000 in
theorem wire_Join.calls (k : Nat) (A0 : Option Addr) (c0 : Nat) (l0 : List ByteArray) (r1 : ByteArray) (r2 : Int) (w : World) (hr0 : Kd.C Kd.string w A0 l0.length l0) (hc0 : l0.length ≤ c0) (h : wire_Join.f k l0 = some (r1, r2)) :
  Calls Try.prog 107 #[.slice A0 l0.length c0] w fun e w' => e = .returned (.tuple #[.string r1, .int .i64 r2]) ∧ Below w.heap.size w w' := by
 have HR0 := Aside0.mk hr0
 have HC0 := Aside0.mk hc0
 clear hr0 hc0
 have HB := Aside0.mk (Below.refl w.heap.size w)
 have H : (if (l0.length : Int) > 256 then (some ((⟨#[]⟩ : ByteArray), 4)) else ((wire_Num.f (l0.length : Int)).bind fun bt655 => (wire_Join.l0 k bt655.1 l0 (l0.length : Int) 0))) = some (r1, r2) := h
 clear h
 by_cases c2 : (l0.length : Int) > 256
 · rw [if_pos c2] at H
   have c2b0 : decide (256 < (l0.length : Int)) = true := decide_eq_true c2
   have c2b1 : decide (256 < l0.length) = true := decide_eq_true (by omega)
   clear c2
   simp only [Option.some.injEq, Prod.mk.injEq] at H
   obtain ⟨rfl, rfl⟩ := H
   go_enter Try.func107, Try.ntmps107
   go_wp2
   go_ret2
   exact ⟨by first | rfl | (simp [errW_none, errW_some] <;> rfl) | (simp [*, errW_none, errW_some] <;> rfl), by repeat (first | (with_reducible first | exact HB.out | apply pbA | apply pbN | apply pbD) | exact HB.out)⟩
 · rw [if_neg c2] at H
   have c2b0 : decide (256 < (l0.length : Int)) = false := decide_eq_false c2
   have c2b1 : decide (256 < l0.length) = false := decide_eq_false (by omega)
   clear c2
   replace H := Option.bind_eq_some_iff.mp H
   obtain ⟨⟨t655, t656⟩, A30, H⟩ := H
   replace H : (wire_Join.l0 k t655 l0 (l0.length : Int) 0) = some (r1, r2) := H
   have A3 := Aside0.mk A30
   clear A30
   have H' := Aside0.mk H
   clear H
   go_enter Try.func107, Try.ntmps107
   go_wp2_with (first | ((with_reducible refine gate_callee (f := 98) rfl ?_); refine goesL_ (some 16) rfl rfl Try.func98 (by kernel_rfl) rfl #[.int .i64 (l0.length : Int)] rfl (by (try simp only [List.map_toArray, List.map_cons, List.map_nil]); first | done | rfl | (simp only [List.length_drop, List.length_take]; rfl)) ?_; (with_reducible refine (wire_Num.calls (l0.length : Int) t655 t656 _ A3.out).mono ?_); rintro e w4 ⟨rfl, hb⟩; refine ⟨_, rfl, ?_⟩; have n0_ := Aside0.mk (below_step (by repeat (first | (with_reducible first | exact HB.out | apply pbA | apply pbN | apply pbD) | exact HB.out)) hb); clear HB; have HB := n0_; clear n0_; (try clear hb); (try clear hb2); (try clear hk); (try clear hi)))
   go_loopg [4, 21] k (fun kq v4 v21 w' => ∃ (x4_1 : ByteArray) (x21_1 : Int), v4 = .string x4_1 ∧ v21 = .int .i64 x21_1 ∧ Aside0 (wire_Join.l0 kq x4_1 l0 (l0.length : Int) x21_1 = some (r1, r2)) ∧ Aside0 (kq ≤ k) ∧ Aside0 (Below w.heap.size w w'))
   case atStart => exact ⟨(t655), (0), (by first | rfl | (simp; done) | (simp [*]; done)), (by first | rfl | (simp; done) | (simp [*]; done)), H', ⟨Nat.le_refl _⟩, ⟨by repeat (first | (with_reducible first | exact HB.out | apply pbA | apply pbN | apply pbD) | exact HB.out)⟩⟩
   case round =>
    clear H'
    try clear c1
    try clear c2
    try clear c2b0
    try clear c2b1
    try clear p2
    obtain ⟨x4_1, x21_1, rfl, rfl, HA, HK1, HB⟩ := hrel
    cases gk with
    | zero => exact absurd HA.out (by simp [wire_Join.l0])
    | succ k1 =>
     have H := HA.out
     clear HA
     simp only [wire_Join.l0] at H
     by_cases c5 : x21_1 < (l0.length : Int)
     · rw [if_pos c5] at H
       have c5b0 : decide (x21_1 < (l0.length : Int)) = true := decide_eq_true c5
       clear c5
       by_cases c6 : 0 ≤ x21_1
       · rw [if_pos c6] at H
         have c6b0 : decide (0 ≤ x21_1) = true := decide_eq_true c6
         clear c6
         by_cases c7 : x21_1 < (l0.length : Int)
         · rw [if_pos c7] at H
           have c7b0 : decide (x21_1 < (l0.length : Int)) = true := decide_eq_true c7
           clear c7
           replace H := Option.bind_eq_some_iff.mp H
           obtain ⟨⟨t658, t659⟩, A80, H⟩ := H
           replace H : (if t659 = 0 then (if x4_1.size + t658.size ≤ 9223372036854775807 then (wire_Join.l0 k1 (x4_1 ++ t658) l0 (l0.length : Int) (wrap64 (x21_1 + 1))) else (none)) else (some ((⟨#[]⟩ : ByteArray), t659))) = some (r1, r2) := H
           have A8 := Aside0.mk A80
           clear A80
           by_cases c9 : t659 = 0
           · rw [if_pos c9] at H
             have c9b0 : (t659 == 0) = true := beq_iff_eq.mpr c9
             have c9b1 : (t659 != 0) = false := bne_eq_false_iff_eq.mpr c9
             clear c9
             by_cases c10 : x4_1.size + t658.size ≤ 9223372036854775807
             · rw [if_pos c10] at H
               have c10b0 := eq_true c10
               have c10b1 : decide (x4_1.size + t658.size ≤ 9223372036854775807) = true := decide_eq_true c10
               try have c10b2 : (9223372036854775807 < x4_1.size + t658.size) = False := eq_false (Nat.not_lt.2 c10)
               have H' := Aside0.mk H
               clear H
               have p657 : 0 ≤ (x21_1 : Int) := of_decide_eq_true (by first | (with_reducible assumption) | assumption)
               have q657 : x21_1 < (l0.length : Int) := of_decide_eq_true (by first | (with_reducible assumption) | assumption)
               obtain ⟨ad657, e657, hx657_0⟩ := Kd.at_string HR0.out x21_1 p657 q657
               cases e657
               replace hx657_0 := (HB.out.cell (World.block_lt_of_cell? w _ hx657_0)).trans hx657_0
               replace p657 := eq_true p657
               replace q657 := eq_true q657
               go_wp2_with (first | ((with_reducible refine gate_callee (f := 67) rfl ?_); refine goesL_ (some 27) rfl rfl Try.func67 (by kernel_rfl) rfl #[.string (rdOf ByteArray.empty l0 x21_1)] rfl (by (try simp only [List.map_toArray, List.map_cons, List.map_nil]); first | done | rfl | (simp only [List.length_drop, List.length_take]; rfl)) ?_; (with_reducible refine (wire_Text.calls (rdOf ByteArray.empty l0 x21_1) t658 t659 _ A8.out).mono ?_); rintro e w11 ⟨rfl, hb⟩; refine ⟨_, rfl, ?_⟩; have n0_ := Aside0.mk (below_step (by repeat (first | (with_reducible first | exact HB.out | apply pbA | apply pbN | apply pbD) | exact HB.out)) hb); clear HB; have HB := n0_; clear n0_; (try clear hb); (try clear hb2); (try clear hk); (try clear hi)))
               go_roundg k1
               case measure => have := HK1.out; omega
               case rel => exact ⟨(x4_1 ++ t658), (wrap64 (x21_1 + 1)), (by first | rfl | (simp; done) | (simp [*]; done)), (by first | rfl | (simp; done) | (simp [*]; done)), H', ⟨by have := HK1.out; omega⟩, ⟨by repeat (first | (with_reducible first | exact HB.out | apply pbA | apply pbN | apply pbD) | exact HB.out)⟩⟩
             · rw [if_neg c10] at H
               exact absurd H (by simp)
           · rw [if_neg c9] at H
             have c9b0 : (t659 == 0) = false := beq_eq_false_iff_ne.mpr c9
             have c9b1 : (t659 != 0) = true := bne_iff_ne.mpr c9
             simp only [Option.some.injEq, Prod.mk.injEq] at H
             obtain ⟨rfl, rfl⟩ := H
             have p657 : 0 ≤ (x21_1 : Int) := of_decide_eq_true (by first | (with_reducible assumption) | assumption)
             have q657 : x21_1 < (l0.length : Int) := of_decide_eq_true (by first | (with_reducible assumption) | assumption)
             obtain ⟨ad657, e657, hx657_0⟩ := Kd.at_string HR0.out x21_1 p657 q657
             cases e657
             replace hx657_0 := (HB.out.cell (World.block_lt_of_cell? w _ hx657_0)).trans hx657_0
             replace p657 := eq_true p657
             replace q657 := eq_true q657
             go_wp2_with (first | ((with_reducible refine gate_callee (f := 67) rfl ?_); refine goesL_ (some 27) rfl rfl Try.func67 (by kernel_rfl) rfl #[.string (rdOf ByteArray.empty l0 x21_1)] rfl (by (try simp only [List.map_toArray, List.map_cons, List.map_nil]); first | done | rfl | (simp only [List.length_drop, List.length_take]; rfl)) ?_; (with_reducible refine (wire_Text.calls (rdOf ByteArray.empty l0 x21_1) t658 t659 _ A8.out).mono ?_); rintro e w12 ⟨rfl, hb⟩; refine ⟨_, rfl, ?_⟩; have n0_ := Aside0.mk (below_step (by repeat (first | (with_reducible first | exact HB.out | apply pbA | apply pbN | apply pbD) | exact HB.out)) hb); clear HB; have HB := n0_; clear n0_; (try clear hb); (try clear hb2); (try clear hk); (try clear hi)))
             go_ret2
             exact ⟨by first | rfl | (simp [errW_none, errW_some] <;> rfl) | (simp [*, errW_none, errW_some] <;> rfl), by repeat (first | (with_reducible first | exact HB.out | apply pbA | apply pbN | apply pbD) | exact HB.out)⟩
         · rw [if_neg c7] at H
           exact absurd H (by simp)
       · rw [if_neg c6] at H
         exact absurd H (by simp)
     · rw [if_neg c5] at H
       have c5b0 : decide (x21_1 < (l0.length : Int)) = false := decide_eq_false c5
       clear c5
       simp only [Option.some.injEq, Prod.mk.injEq] at H
       obtain ⟨rfl, rfl⟩ := H
       go_wp2
       go_ret2
       exact ⟨by first | rfl | (simp [errW_none, errW_some] <;> rfl) | (simp [*, errW_none, errW_some] <;> rfl), by repeat (first | (with_reducible first | exact HB.out | apply pbA | apply pbN | apply pbD) | exact HB.out)⟩
mutual
def wire_Reader_List.j0 : Nat → Int → Int → Int → Bool → ByteArray → Int → Option (List ByteArray × ByteArray × Int)
 | 0, _, _, _, _, _, _ => none
 | k + 1, x3, x4, x5, x25, x1000, x1001 => if x25 = true then (wire_Reader_List.j1 k x3 x4 4 x1000 x1001) else (wire_Reader_List.j1 k x3 x4 x5 x1000 x1001)
def wire_Reader_List.j1 : Nat → Int → Int → Int → ByteArray → Int → Option (List ByteArray × ByteArray × Int)
 | 0, _, _, _, _, _ => none
 | k + 1, x3, x4, x5, x1000, x1001 => wire_Reader_List.l0 k x3 x4 x5 ([] : List ByteArray) x1000 x1001
def wire_Reader_List.l0 : Nat → Int → Int → Int → List ByteArray → ByteArray → Int → Option (List ByteArray × ByteArray × Int)
 | 0, _, _, _, _, _, _ => none
 | k + 1, x3, x4, x5, x6, x1000, x1001 => if x5 = 0 then (if (x6.length : Int) < x3 then (if 0 ≤ x4 then (if x4 ≤ (x1000.size : Int) then ((wire_text.f (x1000.extract (x4 : Int).toNat x1000.size)).bind fun bt672 => (if x6.length < 8796093022208 then (wire_Reader_List.l0 k x3 (wrap64 (x4 + bt672.2.1)) bt672.2.2 (x6 ++ [bt672.1]) x1000 x1001) else (none))) else (none)) else (none)) else ((wire_Reader_take.f x1000 x1001 x4 x5).bind fun bt678 => (if bt678.1 = true then (some (x6, bt678.2.1, bt678.2.2)) else (some (([] : List ByteArray), bt678.2.1, bt678.2.2))))) else ((wire_Reader_take.f x1000 x1001 x4 x5).bind fun bt681 => (if bt681.1 = true then (some (x6, bt681.2.1, bt681.2.2)) else (some (([] : List ByteArray), bt681.2.1, bt681.2.2))))
end
def wire_Reader_List.f (k : Nat) (s0_0 : ByteArray) (s0_1 : Int) : Option (List ByteArray × ByteArray × Int) := (wire_Reader_stopped.f s0_0 s0_1).bind fun bt666 => (if bt666.1 = true then (some (([] : List ByteArray), bt666.2.1, bt666.2.2)) else ((wire_number.f bt666.2.1).bind fun bt669 => (if bt669.2.2 = 0 then (wire_Reader_List.j0 k bt669.1 bt669.2.1 bt669.2.2 (decide (bt669.1 > 256)) bt666.2.1 bt666.2.2) else (wire_Reader_List.j0 k bt669.1 bt669.2.1 bt669.2.2 false bt666.2.1 bt666.2.2))))
set_option maxHeartbeats 8000000 in
set_option maxRecDepth 100000 in
theorem wire_Reader_List.calls (k : Nat) (g : Nat) (s0_0 : ByteArray) (s0_1 : Int) (r1 : List ByteArray) (r2 : ByteArray) (r3 : Int) (w0 w : World) (hI : IsS185 w0 w g s0_0 s0_1) (hB : Below w0.heap.size w0 w) (h : wire_Reader_List.f k s0_0 s0_1 = some (r1, r2, r3)) :
  Calls Try.prog 110 #[.pointer (some ⟨g, 0, none⟩)] w fun e w' => ∃ v0_ : Value, e = .returned (v0_) ∧ Kd.R Kd.string 9 w' w.heap.size (fun _ => True) v0_ r1 ∧ IsS185 w0 w' g r2 r3 ∧ Below w0.heap.size w0 w' ∧ KeepBut w w' g none := by
 have HI0 := Aside0.mk hI
 have HK := Aside0.mk (KeepBut.refl w g none)
 have HL := Aside0.mk hB.size
 clear hI
 have HW0 := Aside0.mk hB.size
 have HB := Aside0.mk hB
 clear hB
 have H : ((wire_Reader_stopped.f s0_0 s0_1).bind fun bt666 => (if bt666.1 = true then (some (([] : List ByteArray), bt666.2.1, bt666.2.2)) else ((wire_number.f bt666.2.1).bind fun bt669 => (if bt669.2.2 = 0 then (wire_Reader_List.j0 k bt669.1 bt669.2.1 bt669.2.2 (decide (bt669.1 > 256)) bt666.2.1 bt666.2.2) else (wire_Reader_List.j0 k bt669.1 bt669.2.1 bt669.2.2 false bt666.2.1 bt666.2.2))))) = some (r1, r2, r3) := h
 clear h
 replace H := Option.bind_eq_some_iff.mp H
 obtain ⟨⟨t666, t667, t668⟩, A20, H⟩ := H
 replace H : (if t666 = true then (some (([] : List ByteArray), t667, t668)) else ((wire_number.f t667).bind fun bt669 => (if bt669.2.2 = 0 then (wire_Reader_List.j0 k bt669.1 bt669.2.1 bt669.2.2 (decide (bt669.1 > 256)) t667 t668) else (wire_Reader_List.j0 k bt669.1 bt669.2.1 bt669.2.2 false t667 t668)))) = some (r1, r2, r3) := H
 have A2 := Aside0.mk A20
 clear A20
 by_cases c3 : t666 = true
 · subst c3
   have H1 : (some (([] : List ByteArray), t667, t668)) = some (r1, r2, r3) := by rw [if_pos rfl] at H; exact H
   clear H
   have H := H1
   clear H1
   simp only [Option.some.injEq, Prod.mk.injEq] at H
   obtain ⟨rfl, rfl, rfl⟩ := H
   go_enter Try.func110, Try.ntmps110
   go_wp2_with (first | ((with_reducible refine gate_callee (f := 135) rfl ?_); refine goesL_ (some 10) rfl rfl Try.func135 (by kernel_rfl) rfl #[.pointer (some ⟨g, 0, none⟩)] rfl (by (try simp only [List.map_toArray, List.map_cons, List.map_nil]); first | done | rfl | (simp only [List.length_drop, List.length_take]; rfl)) ?_; (with_reducible refine (wire_Reader_stopped.calls g s0_0 s0_1 true t667 t668 w0 _ ?side1 ?side2 A2.out).mono ?_); (case side1 => repeat (first | (with_reducible first | exact HI0.out | apply IsS185.alloc | apply IsS185.drewN | apply IsS185.drew | apply IsS185.set_0 | apply IsS185.set_1) | exact HI0.out)); (case side2 => repeat (first | (with_reducible first | exact HB.out | apply pbA | apply pbN | apply pbD | refine pbS ?_ (IsS185.ge HI0.out)) | exact HB.out)); rintro e w4 ⟨rfl, hi, hb, hk⟩; refine ⟨_, rfl, ?_⟩; have n0_ := Aside0.mk (KeepBut.trans (by repeat (first | (with_reducible first | exact HK.out | apply KeepBut.set_ | apply keep_drewN | apply keep_drew | apply keep_alloc) | exact HK.out)) hk (.inl rfl)); have n1_ := Aside0.mk (hb); have n2_ := Aside0.mk (hi); clear HK; clear HB; clear HI0; have HK := n0_; have HB := n1_; have HI0 := n2_; clear n0_ n1_ n2_; (try clear hb); (try clear hb2); (try clear hk); (try clear hi)))
   go_ret
   exact ⟨_, by first | rfl | (simp [errW_none, errW_some] <;> rfl) | (simp [*, errW_none, errW_some] <;> rfl), by first | exact Kd.R_nil _ _ _ _ _ | exact Kd.N_nil _ _ _ _ _ | exact Kd.V_nil _ _ _ _ _ | exact Kd.Q_nil _ _ _ _ _ | exact Kd.S_nil _ _ _ _ _, by repeat (first | (with_reducible first | exact HI0.out | apply IsS185.alloc | apply IsS185.drewN | apply IsS185.drew | apply IsS185.set_0 | apply IsS185.set_1) | exact HI0.out), by repeat (first | (with_reducible first | exact HB.out | apply pbA | apply pbN | apply pbD | refine pbS ?_ (IsS185.ge HI0.out)) | exact HB.out), by repeat (first | (with_reducible first | exact HK.out | apply KeepBut.set_ | apply keep_drewN | apply keep_drew | apply keep_alloc) | exact HK.out)⟩
 · replace c3 := Bool.eq_false_iff.mpr c3
   subst c3
   have H1 : ((wire_number.f t667).bind fun bt669 => (if bt669.2.2 = 0 then (wire_Reader_List.j0 k bt669.1 bt669.2.1 bt669.2.2 (decide (bt669.1 > 256)) t667 t668) else (wire_Reader_List.j0 k bt669.1 bt669.2.1 bt669.2.2 false t667 t668))) = some (r1, r2, r3) := by rw [if_neg (show ¬ (false = true) by decide)] at H; exact H
   clear H
   have H := H1
   clear H1
   replace H := Option.bind_eq_some_iff.mp H
   obtain ⟨⟨t669, t670, t671⟩, A50, H⟩ := H
   replace H : (if t671 = 0 then (wire_Reader_List.j0 k t669 t670 t671 (decide (t669 > 256)) t667 t668) else (wire_Reader_List.j0 k t669 t670 t671 false t667 t668)) = some (r1, r2, r3) := H
   have A5 := Aside0.mk A50
   clear A50
   have HC6 := Aside0.mk H
   clear H
   go_enter Try.func110, Try.ntmps110
   go_upto_region 4 with (first | ((with_reducible refine gate_callee (f := 135) rfl ?_); refine goesL_ (some 10) rfl rfl Try.func135 (by kernel_rfl) rfl #[.pointer (some ⟨g, 0, none⟩)] rfl (by (try simp only [List.map_toArray, List.map_cons, List.map_nil]); first | done | rfl | (simp only [List.length_drop, List.length_take]; rfl)) ?_; (with_reducible refine (wire_Reader_stopped.calls g s0_0 s0_1 false t667 t668 w0 _ ?side1 ?side2 A2.out).mono ?_); (case side1 => repeat (first | (with_reducible first | exact HI0.out | apply IsS185.alloc | apply IsS185.drewN | apply IsS185.drew | apply IsS185.set_0 | apply IsS185.set_1) | exact HI0.out)); (case side2 => repeat (first | (with_reducible first | exact HB.out | apply pbA | apply pbN | apply pbD | refine pbS ?_ (IsS185.ge HI0.out)) | exact HB.out)); rintro e w7 ⟨rfl, hi, hb, hk⟩; refine ⟨_, rfl, ?_⟩; have n0_ := Aside0.mk (KeepBut.trans (by repeat (first | (with_reducible first | exact HK.out | apply KeepBut.set_ | apply keep_drewN | apply keep_drew | apply keep_alloc) | exact HK.out)) hk (.inl rfl)); have n1_ := Aside0.mk (hb); have n2_ := Aside0.mk (hi); clear HK; clear HB; clear HI0; have HK := n0_; have HB := n1_; have HI0 := n2_; clear n0_ n1_ n2_; (try clear hb); (try clear hb2); (try clear hk); (try clear hi); obtain ⟨HGz8, hgz8⟩ := HI0.out; have hcz8_0 := cellS185_0 HGz8; have hcz8_1 := cellS185_1 HGz8; have hfz8_0 := pkF HGz8 0; have hfz8_1 := pkF HGz8 1; clear HGz8 hgz8) | ((with_reducible refine gate_callee (f := 138) rfl ?_); refine goesL_ (some 16) rfl rfl Try.func138 (by kernel_rfl) rfl #[.string t667] rfl (by (try simp only [List.map_toArray, List.map_cons, List.map_nil]); first | done | rfl | (simp only [List.length_drop, List.length_take]; rfl)) ?_; (with_reducible refine (wire_number.calls t667 t669 t670 t671 _ A5.out).mono ?_); rintro e w' ⟨rfl, ⟨nd, rfl⟩⟩; refine ⟨_, rfl, ?_⟩))
   (try simp only [Act.put, zA, zB, zC])
   go_cut [25] (fun v25 wc => ∃ (kq : Nat) (x25_5 : Bool), v25 = .bool x25_5 ∧ Aside0 (wire_Reader_List.j0 kq t669 t670 t671 x25_5 t667 t668 = some (r1, r2, r3)) ∧ Aside0 (kq ≤ k) ∧ Aside0 (IsS185 w0 wc g t667 t668) ∧ Aside0 (KeepBut w wc g none) ∧ Aside0 (Below w0.heap.size w0 wc))
   case first =>
    have H := HC6.out
    clear HC6
    by_cases c9 : t671 = 0
    · rw [if_pos c9] at H
      have c9b0 : (t671 == 0) = true := beq_iff_eq.mpr c9
      have c9b1 : (t671 != 0) = false := bne_eq_false_iff_eq.mpr c9
      clear c9
      (first | rw [c9b0] | (simp only [i64_w, i32_w]; rw [c9b0]) | skip)
      have H' := Aside0.mk H
      clear H
      go_wp2
      go_meet
      case rel => exact ⟨_, (decide (t669 > 256)), (by first | rfl | (simp; done) | (simp [*]; done)), H', ⟨by first | omega | exact Nat.le_refl _⟩, ⟨by repeat (first | (with_reducible first | exact HI0.out | apply IsS185.alloc | apply IsS185.drewN | apply IsS185.drew | apply IsS185.set_0 | apply IsS185.set_1) | exact HI0.out)⟩, ⟨by repeat (first | (with_reducible first | exact HK.out | apply KeepBut.set_ | apply keep_drewN | apply keep_drew | apply keep_alloc) | exact HK.out)⟩, ⟨by repeat (first | (with_reducible first | exact HB.out | apply pbA | apply pbN | apply pbD | refine pbS ?_ (IsS185.ge HI0.out)) | exact HB.out)⟩⟩
    · rw [if_neg c9] at H
      have c9b0 : (t671 == 0) = false := beq_eq_false_iff_ne.mpr c9
      have c9b1 : (t671 != 0) = true := bne_iff_ne.mpr c9
      (first | rw [c9b0] | (simp only [i64_w, i32_w]; rw [c9b0]) | skip)
      have H' := Aside0.mk H
      clear H
      go_wp2
      go_meet
      case rel => exact ⟨_, (false), (by first | rfl | (simp; done) | (simp [*]; done)), H', ⟨by first | omega | exact Nat.le_refl _⟩, ⟨by repeat (first | (with_reducible first | exact HI0.out | apply IsS185.alloc | apply IsS185.drewN | apply IsS185.drew | apply IsS185.set_0 | apply IsS185.set_1) | exact HI0.out)⟩, ⟨by repeat (first | (with_reducible first | exact HK.out | apply KeepBut.set_ | apply keep_drewN | apply keep_drew | apply keep_alloc) | exact HK.out)⟩, ⟨by repeat (first | (with_reducible first | exact HB.out | apply pbA | apply pbN | apply pbD | refine pbS ?_ (IsS185.ge HI0.out)) | exact HB.out)⟩⟩
   case rest =>
    clear HC6
    try clear c1
    try clear p2
    try clear c3
    try clear c9
    try clear c9b0
    try clear c9b1
    try clear hcz8_0
    try clear hcz8_1
    try clear hfz8_0
    try clear hfz8_1
    obtain ⟨kq, x25_5, rfl, HA, HJ5, HI0, HK, HB⟩ := hcut
    cases kq with
    | zero => exact absurd HA.out (by simp [wire_Reader_List.j0])
    | succ kj5 =>
     have H := HA.out
     clear HA
     simp only [wire_Reader_List.j0] at H
     have HC10 := Aside0.mk H
     clear H
     go_upto_if 25 with (fail)
     go_cut [5] (fun v5 wc => ∃ (kq : Nat) (x5_9 : Int), v5 = .int .i64 x5_9 ∧ Aside0 (wire_Reader_List.j1 kq t669 t670 x5_9 t667 t668 = some (r1, r2, r3)) ∧ Aside0 (kq ≤ kj5) ∧ Aside0 (IsS185 w0 wc g t667 t668) ∧ Aside0 (KeepBut w wc g none) ∧ Aside0 (Below w0.heap.size w0 wc))
     case first =>
      have H := HC10.out
      clear HC10
      by_cases c11 : x25_5 = true
      · subst c11
        have H1 : (wire_Reader_List.j1 kj5 t669 t670 4 t667 t668) = some (r1, r2, r3) := by rw [if_pos rfl] at H; exact H
        clear H
        have H := H1
        clear H1
        have H' := Aside0.mk H
        clear H
        go_wp2
        go_meet
        case rel => exact ⟨_, (4), (by first | rfl | (simp; done) | (simp [*]; done)), H', ⟨by have := HJ5.out; first | omega | exact Nat.le_refl _⟩, ⟨by repeat (first | (with_reducible first | exact HI0.out | apply IsS185.alloc | apply IsS185.drewN | apply IsS185.drew | apply IsS185.set_0 | apply IsS185.set_1) | exact HI0.out)⟩, ⟨by repeat (first | (with_reducible first | exact HK.out | apply KeepBut.set_ | apply keep_drewN | apply keep_drew | apply keep_alloc) | exact HK.out)⟩, ⟨by repeat (first | (with_reducible first | exact HB.out | apply pbA | apply pbN | apply pbD | refine pbS ?_ (IsS185.ge HI0.out)) | exact HB.out)⟩⟩
      · replace c11 := Bool.eq_false_iff.mpr c11
        subst c11
        have H1 : (wire_Reader_List.j1 kj5 t669 t670 t671 t667 t668) = some (r1, r2, r3) := by rw [if_neg (show ¬ (false = true) by decide)] at H; exact H
        clear H
        have H := H1
        clear H1
        have H' := Aside0.mk H
        clear H
        go_wp2
        go_meet
        case rel => exact ⟨_, (t671), (by first | rfl | (simp; done) | (simp [*]; done)), H', ⟨by have := HJ5.out; first | omega | exact Nat.le_refl _⟩, ⟨by repeat (first | (with_reducible first | exact HI0.out | apply IsS185.alloc | apply IsS185.drewN | apply IsS185.drew | apply IsS185.set_0 | apply IsS185.set_1) | exact HI0.out)⟩, ⟨by repeat (first | (with_reducible first | exact HK.out | apply KeepBut.set_ | apply keep_drewN | apply keep_drew | apply keep_alloc) | exact HK.out)⟩, ⟨by repeat (first | (with_reducible first | exact HB.out | apply pbA | apply pbN | apply pbD | refine pbS ?_ (IsS185.ge HI0.out)) | exact HB.out)⟩⟩
     case rest =>
      clear HC10
      try clear c1
      try clear p2
      try clear c3
      try clear c9
      try clear c9b0
      try clear c9b1
      try clear c11
      try clear hcz8_0
      try clear hcz8_1
      try clear hfz8_0
      try clear hfz8_1
      try clear p2
      obtain ⟨kq, x5_9, rfl, HA, HJ9, HI0, HK, HB⟩ := hcut
      cases kq with
      | zero => exact absurd HA.out (by simp [wire_Reader_List.j1])
      | succ kj9 =>
       have H := HA.out
       clear HA
       simp only [wire_Reader_List.j1] at H
       have H' := Aside0.mk H
       clear H
       go_wp2
       go_loopg [4, 5, 6] kj9 (fun kq v4 v5 v6 w' => ∃ (x4_3 : Int) (x5_3 : Int) (x6_3 : List ByteArray), v4 = .int .i64 x4_3 ∧ v5 = .int .i64 x5_3 ∧ Aside0 (wire_Reader_List.l0 kq t669 x4_3 x5_3 x6_3 t667 t668 = some (r1, r2, r3)) ∧ Aside0 (kq ≤ kj9) ∧ Aside0 (Kd.R Kd.string 9 w' w.heap.size (fun _ => True) v6 x6_3) ∧ Aside0 (IsS185 w0 w' g t667 t668) ∧ Aside0 (KeepBut w w' g none) ∧ Aside0 (Below w0.heap.size w0 w'))
       case atStart => exact ⟨(t670), (x5_9), (([] : List ByteArray)), (by first | rfl | (simp; done) | (simp [*]; done)), (by first | rfl | (simp; done) | (simp [*]; done)), H', ⟨Nat.le_refl _⟩, ⟨by first | exact Kd.R_nil _ _ _ _ _ | exact Kd.N_nil _ _ _ _ _ | exact Kd.V_nil _ _ _ _ _ | exact Kd.Q_nil _ _ _ _ _ | exact Kd.S_nil _ _ _ _ _⟩, ⟨by repeat (first | (with_reducible first | exact HI0.out | apply IsS185.alloc | apply IsS185.drewN | apply IsS185.drew | apply IsS185.set_0 | apply IsS185.set_1) | exact HI0.out)⟩, ⟨by repeat (first | (with_reducible first | exact HK.out | apply KeepBut.set_ | apply keep_drewN | apply keep_drew | apply keep_alloc) | exact HK.out)⟩, ⟨by repeat (first | (with_reducible first | exact HB.out | apply pbA | apply pbN | apply pbD | refine pbS ?_ (IsS185.ge HI0.out)) | exact HB.out)⟩⟩
       case round =>
        clear H'
        try clear c1
        try clear p2
        try clear c3
        try clear c9
        try clear c9b0
        try clear c9b1
        try clear c11
        try clear hcz8_0
        try clear hcz8_1
        try clear hfz8_0
        try clear hfz8_1
        try clear p2
        obtain ⟨x4_3, x5_3, x6_3, rfl, rfl, HA, HK3, HO_6, HI0, HK, HB⟩ := hrel
        cases gk with
        | zero => exact absurd HA.out (by simp [wire_Reader_List.l0])
        | succ k3 =>
         have H := HA.out
         clear HA
         simp only [wire_Reader_List.l0] at H
         by_cases c12 : x5_3 = 0
         · rw [if_pos c12] at H
           have c12b0 : (x5_3 == 0) = true := beq_iff_eq.mpr c12
           have c12b1 : (x5_3 != 0) = false := bne_eq_false_iff_eq.mpr c12
           clear c12
           by_cases c13 : (x6_3.length : Int) < t669
           · rw [if_pos c13] at H
             have c13b0 : decide ((x6_3.length : Int) < t669) = true := decide_eq_true c13
             clear c13
             by_cases c14 : 0 ≤ x4_3
             · rw [if_pos c14] at H
               have c14b0 := eq_true c14
               have c14b1 : decide (0 ≤ x4_3) = true := decide_eq_true c14
               clear c14
               by_cases c15 : x4_3 ≤ (t667.size : Int)
               · rw [if_pos c15] at H
                 have c15b0 := eq_true c15
                 have c15b1 : decide (x4_3 ≤ (t667.size : Int)) = true := decide_eq_true c15
                 clear c15
                 replace H := Option.bind_eq_some_iff.mp H
                 obtain ⟨⟨t672, t673, t674⟩, A160, H⟩ := H
                 replace H : (if x6_3.length < 8796093022208 then (wire_Reader_List.l0 k3 t669 (wrap64 (x4_3 + t673)) t674 (x6_3 ++ [t672]) t667 t668) else (none)) = some (r1, r2, r3) := H
                 have A16 := Aside0.mk A160
                 clear A160
                 by_cases c17 : x6_3.length < 8796093022208
                 · rw [if_pos c17] at H
                   have LMc17 := Aside0.mk c17
                   clear c17
                   obtain ⟨y675, hy675⟩ : ∃ y_ : List ByteArray, y_ = (x6_3 ++ [t672]) := ⟨_, rfl⟩
                   replace H : (wire_Reader_List.l0 k3 t669 (wrap64 (x4_3 + t673)) t674 y675 t667 t668) = some (r1, r2, r3) := by first | (rw [hy675]; with_reducible exact H) | (have H2_ := (Option.bind_some _ _).symm.trans H; rw [hy675]; with_reducible exact H2_) | (have H2_ := (Option.bind_some _ _).symm.trans H; with_reducible exact H2_) | with_reducible exact H | (rw [hy675]; exact H) | exact H
                   have Ny675 := Aside0.mk hy675
                   clear hy675
                   have H' := Aside0.mk H
                   clear H
                   obtain ⟨Ao18, co18, eo18⟩ := Kd.R_slice HO_6.out
                   subst eo18
                   obtain ⟨HGz19, hgz19⟩ := HI0.out
                   have hcz19_0 := cellS185_0 HGz19
                   have hcz19_1 := cellS185_1 HGz19
                   have hfz19_0 := pkF HGz19 0
                   have hfz19_1 := pkF HGz19 1
                   clear HGz19 hgz19
                   go_wp2_with (first | ((with_reducible refine gate_callee (f := 136) rfl ?_); refine goesL_ (some 41) rfl rfl Try.func136 (by kernel_rfl) rfl #[.string (t667.extract (x4_3 : Int).toNat t667.size)] rfl (by (try simp only [List.map_toArray, List.map_cons, List.map_nil]); first | done | rfl | (simp only [List.length_drop, List.length_take]; rfl)) ?_; (with_reducible refine (wire_text.calls (t667.extract (x4_3 : Int).toNat t667.size) t672 t673 t674 _ A16.out).mono ?_); rintro e w' ⟨rfl, ⟨nd, rfl⟩⟩; refine ⟨_, rfl, ?_⟩) | ((with_reducible refine gate_builtin (b := .append) (xs := #[.tmp 45, .tmp 47]) rfl ?_); at_builtin; refine Kd.R_append Kd.string w.heap.size rfl (.tmp 45) (.tmp 47) 63 9 (.string ⟨#[]⟩) 16 rfl Try.underlying63 info9 rfl (by decide) (by omega) (.slice Ao18 x6_3.length co18) x6_3 t672 [.string t672] (fun _ => True) (fun _ => False) rfl rfl ?aP (fun _ hk => hk.elim) ?aF ?aO (Below.refl _ _) ?aS ?aL ?_; (case aP => exact rfl); (case aF => exact (fun _ _ => trivial)); (case aO => exact (by (with_reducible repeat (first | apply Kd.R_alloc | apply Kd.R_drewN | apply Kd.R_drew)); exact HO_6.out)); (case aS => exact (keep_size (w := w) (g := g) (row := none) (by repeat (first | (with_reducible first | exact HK.out | apply KeepBut.set_ | apply keep_drewN | apply keep_drew | apply keep_alloc) | exact HK.out)))); (case aL => have := LMc17.out; omega); intro v676 w20 ho hb hg hat; rw [← Ny675.out] at ho; have n0_ := Aside0.mk (IsS185.grown (by repeat (first | (with_reducible first | exact HI0.out | apply IsS185.alloc | apply IsS185.drewN | apply IsS185.drew | apply IsS185.set_0 | apply IsS185.set_1) | exact HI0.out)) hg (IsS185.own_ne HI0.out HO_6.out (by decide))); have n1_ := Aside0.mk (below_weaken (by repeat (first | (with_reducible first | exact HB.out | apply pbA | apply pbN | apply pbD | refine pbS ?_ (IsS185.ge HI0.out)) | exact HB.out)) HL.out hb); have n2_ := Aside0.mk (KeepBut.trans (by repeat (first | (with_reducible first | exact HK.out | apply KeepBut.set_ | apply keep_drewN | apply keep_drew | apply keep_alloc) | exact HK.out)) (KeepBut.of_grown hg g) (Kd.R_base2 HO_6.out)); have n3_ := Aside0.mk (ho); clear HI0; clear HB; clear HK; clear HO_6; have HI0 := n0_; have HB := n1_; have HK := n2_; have HO677 := n3_; clear n0_ n1_ n2_ n3_; clear ho hb hg hat))
                   go_roundg k3
                   case measure => have := HJ5.out; have := HJ9.out; have := HK3.out; omega
                   case rel => exact ⟨(wrap64 (x4_3 + t673)), (t674), (y675), (by first | rfl | (simp; done) | (simp [*]; done)), (by first | rfl | (simp; done) | (simp [*]; done)), H', ⟨by have := HJ5.out; have := HJ9.out; have := HK3.out; omega⟩, ⟨by (with_reducible repeat (first | apply Kd.R_alloc | apply Kd.R_drewN | apply Kd.R_drew)); exact HO677.out⟩, ⟨by repeat (first | (with_reducible first | exact HI0.out | apply IsS185.alloc | apply IsS185.drewN | apply IsS185.drew | apply IsS185.set_0 | apply IsS185.set_1) | exact HI0.out)⟩, ⟨by repeat (first | (with_reducible first | exact HK.out | apply KeepBut.set_ | apply keep_drewN | apply keep_drew | apply keep_alloc) | exact HK.out)⟩, ⟨by repeat (first | (with_reducible first | exact HB.out | apply pbA | apply pbN | apply pbD | refine pbS ?_ (IsS185.ge HI0.out)) | exact HB.out)⟩⟩
                 · rw [if_neg c17] at H
                   exact absurd H (by simp)
               · rw [if_neg c15] at H
                 exact absurd H (by simp)
             · rw [if_neg c14] at H
               exact absurd H (by simp)
           · rw [if_neg c13] at H
             have c13b0 : decide ((x6_3.length : Int) < t669) = false := decide_eq_false c13
             clear c13
             replace H := Option.bind_eq_some_iff.mp H
             obtain ⟨⟨t678, t679, t680⟩, A210, H⟩ := H
             replace H : (if t678 = true then (some (x6_3, t679, t680)) else (some (([] : List ByteArray), t679, t680))) = some (r1, r2, r3) := H
             have A21 := Aside0.mk A210
             clear A210
             by_cases c22 : t678 = true
             · subst c22
               have H1 : (some (x6_3, t679, t680)) = some (r1, r2, r3) := by rw [if_pos rfl] at H; exact H
               clear H
               have H := H1
               clear H1
               simp only [Option.some.injEq, Prod.mk.injEq] at H
               obtain ⟨rfl, rfl, rfl⟩ := H
               obtain ⟨Ao23, co23, eo23⟩ := Kd.R_slice HO_6.out
               subst eo23
               go_wp2_with (first | ((with_reducible refine gate_callee (f := 137) rfl ?_); refine goesL_ (some 55) rfl rfl Try.func137 (by kernel_rfl) rfl #[.pointer (some ⟨g, 0, none⟩), .int .i64 x4_3, .int .i64 x5_3] rfl (by (try simp only [List.map_toArray, List.map_cons, List.map_nil]); first | done | rfl | (simp only [List.length_drop, List.length_take]; rfl)) ?_; (with_reducible refine (wire_Reader_take.calls g t667 t668 x4_3 x5_3 true t679 t680 w0 _ ?side1 ?side2 A21.out).mono ?_); (case side1 => repeat (first | (with_reducible first | exact HI0.out | apply IsS185.alloc | apply IsS185.drewN | apply IsS185.drew | apply IsS185.set_0 | apply IsS185.set_1) | exact HI0.out)); (case side2 => repeat (first | (with_reducible first | exact HB.out | apply pbA | apply pbN | apply pbD | refine pbS ?_ (IsS185.ge HI0.out)) | exact HB.out)); rintro e w24 ⟨rfl, hi, hb, hk⟩; refine ⟨_, rfl, ?_⟩; have n0_ := Aside0.mk (Kd.R_mono (Kd.R_keep (IsS185.apart (show IsS185 w0 _ g t667 t668 from by repeat (first | (with_reducible first | exact HI0.out | apply IsS185.alloc | apply IsS185.drewN | apply IsS185.drew | apply IsS185.set_0 | apply IsS185.set_1) | exact HI0.out)) (by (with_reducible repeat (first | apply Kd.R_alloc | apply Kd.R_drewN | apply Kd.R_drew)); exact HO_6.out) (by decide)) hk (fun _ h => h.2)) (fun _ h => h.1)); have n1_ := Aside0.mk (KeepBut.trans (by repeat (first | (with_reducible first | exact HK.out | apply KeepBut.set_ | apply keep_drewN | apply keep_drew | apply keep_alloc) | exact HK.out)) hk (.inl rfl)); have n2_ := Aside0.mk (hb); have n3_ := Aside0.mk (hi); clear HO_6; clear HK; clear HB; clear HI0; have HO_6 := n0_; have HK := n1_; have HB := n2_; have HI0 := n3_; clear n0_ n1_ n2_ n3_; (try clear hb); (try clear hb2); (try clear hk); (try clear hi)))
               go_ret
               exact ⟨_, by first | rfl | (simp [errW_none, errW_some] <;> rfl) | (simp [*, errW_none, errW_some] <;> rfl), by (with_reducible repeat (first | apply Kd.R_alloc | apply Kd.R_drewN | apply Kd.R_drew)); exact HO_6.out, by repeat (first | (with_reducible first | exact HI0.out | apply IsS185.alloc | apply IsS185.drewN | apply IsS185.drew | apply IsS185.set_0 | apply IsS185.set_1) | exact HI0.out), by repeat (first | (with_reducible first | exact HB.out | apply pbA | apply pbN | apply pbD | refine pbS ?_ (IsS185.ge HI0.out)) | exact HB.out), by repeat (first | (with_reducible first | exact HK.out | apply KeepBut.set_ | apply keep_drewN | apply keep_drew | apply keep_alloc) | exact HK.out)⟩
             · replace c22 := Bool.eq_false_iff.mpr c22
               subst c22
               have H1 : (some (([] : List ByteArray), t679, t680)) = some (r1, r2, r3) := by rw [if_neg (show ¬ (false = true) by decide)] at H; exact H
               clear H
               have H := H1
               clear H1
               simp only [Option.some.injEq, Prod.mk.injEq] at H
               obtain ⟨rfl, rfl, rfl⟩ := H
               obtain ⟨Ao25, co25, eo25⟩ := Kd.R_slice HO_6.out
               subst eo25
               go_wp2_with (first | ((with_reducible refine gate_callee (f := 137) rfl ?_); refine goesL_ (some 55) rfl rfl Try.func137 (by kernel_rfl) rfl #[.pointer (some ⟨g, 0, none⟩), .int .i64 x4_3, .int .i64 x5_3] rfl (by (try simp only [List.map_toArray, List.map_cons, List.map_nil]); first | done | rfl | (simp only [List.length_drop, List.length_take]; rfl)) ?_; (with_reducible refine (wire_Reader_take.calls g t667 t668 x4_3 x5_3 false t679 t680 w0 _ ?side1 ?side2 A21.out).mono ?_); (case side1 => repeat (first | (with_reducible first | exact HI0.out | apply IsS185.alloc | apply IsS185.drewN | apply IsS185.drew | apply IsS185.set_0 | apply IsS185.set_1) | exact HI0.out)); (case side2 => repeat (first | (with_reducible first | exact HB.out | apply pbA | apply pbN | apply pbD | refine pbS ?_ (IsS185.ge HI0.out)) | exact HB.out)); rintro e w26 ⟨rfl, hi, hb, hk⟩; refine ⟨_, rfl, ?_⟩; have n0_ := Aside0.mk (Kd.R_mono (Kd.R_keep (IsS185.apart (show IsS185 w0 _ g t667 t668 from by repeat (first | (with_reducible first | exact HI0.out | apply IsS185.alloc | apply IsS185.drewN | apply IsS185.drew | apply IsS185.set_0 | apply IsS185.set_1) | exact HI0.out)) (by (with_reducible repeat (first | apply Kd.R_alloc | apply Kd.R_drewN | apply Kd.R_drew)); exact HO_6.out) (by decide)) hk (fun _ h => h.2)) (fun _ h => h.1)); have n1_ := Aside0.mk (KeepBut.trans (by repeat (first | (with_reducible first | exact HK.out | apply KeepBut.set_ | apply keep_drewN | apply keep_drew | apply keep_alloc) | exact HK.out)) hk (.inl rfl)); have n2_ := Aside0.mk (hb); have n3_ := Aside0.mk (hi); clear HO_6; clear HK; clear HB; clear HI0; have HO_6 := n0_; have HK := n1_; have HB := n2_; have HI0 := n3_; clear n0_ n1_ n2_ n3_; (try clear hb); (try clear hb2); (try clear hk); (try clear hi)))
               go_ret
               exact ⟨_, by first | rfl | (simp [errW_none, errW_some] <;> rfl) | (simp [*, errW_none, errW_some] <;> rfl), by first | exact Kd.R_nil _ _ _ _ _ | exact Kd.N_nil _ _ _ _ _ | exact Kd.V_nil _ _ _ _ _ | exact Kd.Q_nil _ _ _ _ _ | exact Kd.S_nil _ _ _ _ _, by repeat (first | (with_reducible first | exact HI0.out | apply IsS185.alloc | apply IsS185.drewN | apply IsS185.drew | apply IsS185.set_0 | apply IsS185.set_1) | exact HI0.out), by repeat (first | (with_reducible first | exact HB.out | apply pbA | apply pbN | apply pbD | refine pbS ?_ (IsS185.ge HI0.out)) | exact HB.out), by repeat (first | (with_reducible first | exact HK.out | apply KeepBut.set_ | apply keep_drewN | apply keep_drew | apply keep_alloc) | exact HK.out)⟩
         · rw [if_neg c12] at H
           have c12b0 : (x5_3 == 0) = false := beq_eq_false_iff_ne.mpr c12
           have c12b1 : (x5_3 != 0) = true := bne_iff_ne.mpr c12
           replace H := Option.bind_eq_some_iff.mp H
           obtain ⟨⟨t681, t682, t683⟩, A270, H⟩ := H
           replace H : (if t681 = true then (some (x6_3, t682, t683)) else (some (([] : List ByteArray), t682, t683))) = some (r1, r2, r3) := H
           have A27 := Aside0.mk A270
           clear A270
           by_cases c28 : t681 = true
           · subst c28
             have H1 : (some (x6_3, t682, t683)) = some (r1, r2, r3) := by rw [if_pos rfl] at H; exact H
             clear H
             have H := H1
             clear H1
             simp only [Option.some.injEq, Prod.mk.injEq] at H
             obtain ⟨rfl, rfl, rfl⟩ := H
             go_wp2_with (first | ((with_reducible refine gate_callee (f := 137) rfl ?_); refine goesL_ (some 55) rfl rfl Try.func137 (by kernel_rfl) rfl #[.pointer (some ⟨g, 0, none⟩), .int .i64 x4_3, .int .i64 x5_3] rfl (by (try simp only [List.map_toArray, List.map_cons, List.map_nil]); first | done | rfl | (simp only [List.length_drop, List.length_take]; rfl)) ?_; (with_reducible refine (wire_Reader_take.calls g t667 t668 x4_3 x5_3 true t682 t683 w0 _ ?side1 ?side2 A27.out).mono ?_); (case side1 => repeat (first | (with_reducible first | exact HI0.out | apply IsS185.alloc | apply IsS185.drewN | apply IsS185.drew | apply IsS185.set_0 | apply IsS185.set_1) | exact HI0.out)); (case side2 => repeat (first | (with_reducible first | exact HB.out | apply pbA | apply pbN | apply pbD | refine pbS ?_ (IsS185.ge HI0.out)) | exact HB.out)); rintro e w29 ⟨rfl, hi, hb, hk⟩; refine ⟨_, rfl, ?_⟩; have n0_ := Aside0.mk (Kd.R_mono (Kd.R_keep (IsS185.apart (show IsS185 w0 _ g t667 t668 from by repeat (first | (with_reducible first | exact HI0.out | apply IsS185.alloc | apply IsS185.drewN | apply IsS185.drew | apply IsS185.set_0 | apply IsS185.set_1) | exact HI0.out)) (by (with_reducible repeat (first | apply Kd.R_alloc | apply Kd.R_drewN | apply Kd.R_drew)); exact HO_6.out) (by decide)) hk (fun _ h => h.2)) (fun _ h => h.1)); have n1_ := Aside0.mk (KeepBut.trans (by repeat (first | (with_reducible first | exact HK.out | apply KeepBut.set_ | apply keep_drewN | apply keep_drew | apply keep_alloc) | exact HK.out)) hk (.inl rfl)); have n2_ := Aside0.mk (hb); have n3_ := Aside0.mk (hi); clear HO_6; clear HK; clear HB; clear HI0; have HO_6 := n0_; have HK := n1_; have HB := n2_; have HI0 := n3_; clear n0_ n1_ n2_ n3_; (try clear hb); (try clear hb2); (try clear hk); (try clear hi)))
             go_ret
             exact ⟨_, by first | rfl | (simp [errW_none, errW_some] <;> rfl) | (simp [*, errW_none, errW_some] <;> rfl), by (with_reducible repeat (first | apply Kd.R_alloc | apply Kd.R_drewN | apply Kd.R_drew)); exact HO_6.out, by repeat (first | (with_reducible first | exact HI0.out | apply IsS185.alloc | apply IsS185.drewN | apply IsS185.drew | apply IsS185.set_0 | apply IsS185.set_1) | exact HI0.out), by repeat (first | (with_reducible first | exact HB.out | apply pbA | apply pbN | apply pbD | refine pbS ?_ (IsS185.ge HI0.out)) | exact HB.out), by repeat (first | (with_reducible first | exact HK.out | apply KeepBut.set_ | apply keep_drewN | apply keep_drew | apply keep_alloc) | exact HK.out)⟩
           · replace c28 := Bool.eq_false_iff.mpr c28
             subst c28
             have H1 : (some (([] : List ByteArray), t682, t683)) = some (r1, r2, r3) := by rw [if_neg (show ¬ (false = true) by decide)] at H; exact H
             clear H
             have H := H1
             clear H1
             simp only [Option.some.injEq, Prod.mk.injEq] at H
             obtain ⟨rfl, rfl, rfl⟩ := H
             go_wp2_with (first | ((with_reducible refine gate_callee (f := 137) rfl ?_); refine goesL_ (some 55) rfl rfl Try.func137 (by kernel_rfl) rfl #[.pointer (some ⟨g, 0, none⟩), .int .i64 x4_3, .int .i64 x5_3] rfl (by (try simp only [List.map_toArray, List.map_cons, List.map_nil]); first | done | rfl | (simp only [List.length_drop, List.length_take]; rfl)) ?_; (with_reducible refine (wire_Reader_take.calls g t667 t668 x4_3 x5_3 false t682 t683 w0 _ ?side1 ?side2 A27.out).mono ?_); (case side1 => repeat (first | (with_reducible first | exact HI0.out | apply IsS185.alloc | apply IsS185.drewN | apply IsS185.drew | apply IsS185.set_0 | apply IsS185.set_1) | exact HI0.out)); (case side2 => repeat (first | (with_reducible first | exact HB.out | apply pbA | apply pbN | apply pbD | refine pbS ?_ (IsS185.ge HI0.out)) | exact HB.out)); rintro e w30 ⟨rfl, hi, hb, hk⟩; refine ⟨_, rfl, ?_⟩; have n0_ := Aside0.mk (Kd.R_mono (Kd.R_keep (IsS185.apart (show IsS185 w0 _ g t667 t668 from by repeat (first | (with_reducible first | exact HI0.out | apply IsS185.alloc | apply IsS185.drewN | apply IsS185.drew | apply IsS185.set_0 | apply IsS185.set_1) | exact HI0.out)) (by (with_reducible repeat (first | apply Kd.R_alloc | apply Kd.R_drewN | apply Kd.R_drew)); exact HO_6.out) (by decide)) hk (fun _ h => h.2)) (fun _ h => h.1)); have n1_ := Aside0.mk (KeepBut.trans (by repeat (first | (with_reducible first | exact HK.out | apply KeepBut.set_ | apply keep_drewN | apply keep_drew | apply keep_alloc) | exact HK.out)) hk (.inl rfl)); have n2_ := Aside0.mk (hb); have n3_ := Aside0.mk (hi); clear HO_6; clear HK; clear HB; clear HI0; have HO_6 := n0_; have HK := n1_; have HB := n2_; have HI0 := n3_; clear n0_ n1_ n2_ n3_; (try clear hb); (try clear hb2); (try clear hk); (try clear hi)))
             go_ret
             exact ⟨_, by first | rfl | (simp [errW_none, errW_some] <;> rfl) | (simp [*, errW_none, errW_some] <;> rfl), by first | exact Kd.R_nil _ _ _ _ _ | exact Kd.N_nil _ _ _ _ _ | exact Kd.V_nil _ _ _ _ _ | exact Kd.Q_nil _ _ _ _ _ | exact Kd.S_nil _ _ _ _ _, by repeat (first | (with_reducible first | exact HI0.out | apply IsS185.alloc | apply IsS185.drewN | apply IsS185.drew | apply IsS185.set_0 | apply IsS185.set_1) | exact HI0.out), by repeat (first | (with_reducible first | exact HB.out | apply pbA | apply pbN | apply pbD | refine pbS ?_ (IsS185.ge HI0.out)) | exact HB.out), by repeat (first | (with_reducible first | exact HK.out | apply KeepBut.set_ | apply keep_drewN | apply keep_drew | apply keep_alloc) | exact HK.out)⟩
end Go.Proofs.Ytipgldfbjlhpoab.P
