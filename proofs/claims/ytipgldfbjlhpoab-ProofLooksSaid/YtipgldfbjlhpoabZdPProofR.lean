import Derived.Test.YtipgldfbjlhpoabZdP0
import Derived.Test.YtipgldfbjlhpoabZdPS
import Derived.Test.YtipgldfbjlhpoabZdPWire
import Derived.Test.YtipgldfbjlhpoabZdPWireL
-- Printed by wip/myprint.py.
namespace Go.Proofs.Ytipgldfbjlhpoab.P
open Go.RowKit Go.Proofs.YtipgldfbjlhpoabW.PrintWords Go.Proofs.YtipgldfbjlhpoabW.PrintLast Go.Proofs.YtipgldfbjlhpoabW.PrintMore
attribute [local go_sem] max2_int min2_int max_two min_two max_three min_three max_four min_four   -- for this text's walks alone
set_option linter.unusedVariables false
set_option linter.unusedSimpArgs false
mutual
def proof_Read.j0 : Nat → Int → Bool → ByteArray → Int → Int → Int → Bool → Option (Int × Int × Bool × (List (S86)) × (List (List ByteArray)) × Int)
 | 0, _, _, _, _, _, _, _ => none
 | k + 1, x7, x44, x993000, x993001, x1000000, x1000001, x1000002 => if x44 = true then (some (0, 0, false, ([] : List (S86)), ([] : List (List ByteArray)), 6)) else (proof_Read.l0 k x7 0 x993000 x993001 x1000000 x1000001 x1000002 ([] : List (S86)))
def proof_Read.l0 : Nat → Int → Int → ByteArray → Int → Int → Int → Bool → List (S86) → Option (Int × Int × Bool × (List (S86)) × (List (List ByteArray)) × Int)
 | 0, _, _, _, _, _, _, _, _ => none
 | k + 1, x46, x47, x993000, x993001, x1000000, x1000001, x1000002, x1000003 => if x47 < x46 then ((wire_Reader_Text.f x993000 x993001).bind fun bt1009 => ((wire_Reader_Text.f bt1009.2.1 bt1009.2.2).bind fun bt1012 => (if x1000003.length < 4398046511104 then (proof_Read.l0 k x46 (wrap64 (x47 + 1)) bt1012.2.1 bt1012.2.2 x1000000 x1000001 x1000002 (x1000003 ++ [(⟨bt1009.1, bt1012.1⟩ : S86)])) else (none)))) else ((wire_Reader_Num.f x993000 x993001).bind fun bt1018 => (if bt1018.1 > 2 then (some (0, 0, false, ([] : List (S86)), ([] : List (List ByteArray)), 6)) else (proof_Read.l1 k bt1018.1 0 bt1018.2.1 bt1018.2.2 x1000000 x1000001 x1000002 x1000003 ([] : List (List ByteArray)))))
def proof_Read.l1 : Nat → Int → Int → ByteArray → Int → Int → Int → Bool → List (S86) → List (List ByteArray) → Option (Int × Int × Bool × (List (S86)) × (List (List ByteArray)) × Int)
 | 0, _, _, _, _, _, _, _, _, _ => none
 | k + 1, x65, x66, x993000, x993001, x1000000, x1000001, x1000002, x1000003, x1000004 => if x66 < x65 then ((wire_Reader_List.f k x993000 x993001).bind fun bt1021 => (if x1000004.length < 5864062014805 then (proof_Read.l1 k x65 (wrap64 (x66 + 1)) bt1021.2.1 bt1021.2.2 x1000000 x1000001 x1000002 x1000003 (x1000004 ++ [bt1021.1])) else (none))) else ((wire_Reader_Done.f x993000 x993001).bind fun bt1029 => (if bt1029.1 = 0 then (some (x1000000, x1000001, x1000002, x1000003, x1000004, 0)) else (some (0, 0, false, ([] : List (S86)), ([] : List (List ByteArray)), bt1029.1))))
end
def proof_Read.f (k : Nat) (a0 : ByteArray) : Option (Int × Int × Bool × (List (S86)) × (List (List ByteArray)) × Int) := (wire_New.f a0).bind fun bt990 => ((wire_Reader_Num.f bt990.1 bt990.2).bind fun bt993 => ((wire_Reader_Num.f bt993.2.1 bt993.2.2).bind fun bt996 => ((wire_Reader_Num.f bt996.2.1 bt996.2.2).bind fun bt1000 => ((wire_Reader_Num.f bt1000.2.1 bt1000.2.2).bind fun bt1003 => ((wire_Reader_Err.f bt1003.2.1 bt1003.2.2).bind fun bt1006 => (if bt1006.1 = 0 then (if bt1000.1 > 1 then (proof_Read.j0 k bt1003.1 true bt1006.2.1 bt1006.2.2 bt993.1 bt996.1 (bt1000.1 == 1)) else (if bt1003.1 > 2 then (proof_Read.j0 k bt1003.1 true bt1006.2.1 bt1006.2.2 bt993.1 bt996.1 (bt1000.1 == 1)) else (if bt1000.1 = 1 then (proof_Read.j0 k bt1003.1 (decide (bt1003.1 > 0)) bt1006.2.1 bt1006.2.2 bt993.1 bt996.1 (bt1000.1 == 1)) else (proof_Read.j0 k bt1003.1 false bt1006.2.1 bt1006.2.2 bt993.1 bt996.1 (bt1000.1 == 1))))) else (some (0, 0, false, ([] : List (S86)), ([] : List (List ByteArray)), bt1006.1))))))))
def proof_Read.T12 : Bool × List (List Nat × List Nat) := (true, [([], []), ([0], [0]), ([], []), ([2], [2]), ([], []), ([4, 3], [4]), ([3, 5], [3, 5]), ([6], [6]), ([1, 7, 5], [1, 7]), ([0, 1, 2, 3, 4, 5, 6, 7, 8], []), ([9, 8, 8, 0, 1, 2, 3, 4, 5, 6, 7, 8], [8, 9])])
def proof_Read.B12 : List Nat := [0, 1, 0, 4, 0, 28, 60, 124, 255, 511, 1023]
theorem proof_Read.tab12 : rtab .any (opsOf Try.f61 12) = proof_Read.T12 := by kernel_rfl
theorem proof_Read.bits12 : waitsOk proof_Read.T12.2 proof_Read.B12 = true := by kernel_rfl
def proof_Read.T19 : Bool × List (List Nat × List Nat) := (true, [([], []), ([0], [0]), ([], []), ([2], [2]), ([3], [3]), ([1, 4, 3], [1, 4]), ([0, 1, 2, 3, 4, 5], []), ([6, 5, 5, 0, 1, 2, 3, 4, 5], [5, 6])])
def proof_Read.B19 : List Nat := [0, 1, 0, 4, 12, 31, 63, 127]
theorem proof_Read.tab19 : rtab .any (opsOf Try.f61 19) = proof_Read.T19 := by kernel_rfl
theorem proof_Read.bits19 : waitsOk proof_Read.T19.2 proof_Read.B19 = true := by kernel_rfl
set_option maxHeartbeats 8000000 in
set_option maxRecDepth 100000 in
theorem proof_Read.calls (k : Nat) (a0 : ByteArray) (r1 : Int) (r2 : Int) (r3 : Bool) (r4 : List (S86)) (r5 : List (List ByteArray)) (r6 : Int) (w : World) (h : proof_Read.f k a0 = some (r1, r2, r3, r4, r5, r6)) :
  Calls Try.prog 61 #[.string a0] w fun e w' => ∃ v3_ v4_ : Value, e = .returned (.tuple #[.agg #[.int .i64 r1, .int .i64 r2, .bool r3, v3_, v4_], .int .i64 r6]) ∧ Kd.R k86 86 w' w.heap.size (fun _ => True) v3_ r4 ∧ Kd.S (Kd.slice 9 Kd.string) 63 w' w.heap.size (fun _ => True) v4_ r5 ∧ Below w.heap.size w w' := by
 have hu82 := Try.underlying82
 have hu86 := Try.underlying86
 have HB := Aside0.mk (Below.refl w.heap.size w)
 have H : ((wire_New.f a0).bind fun bt990 => ((wire_Reader_Num.f bt990.1 bt990.2).bind fun bt993 => ((wire_Reader_Num.f bt993.2.1 bt993.2.2).bind fun bt996 => ((wire_Reader_Num.f bt996.2.1 bt996.2.2).bind fun bt1000 => ((wire_Reader_Num.f bt1000.2.1 bt1000.2.2).bind fun bt1003 => ((wire_Reader_Err.f bt1003.2.1 bt1003.2.2).bind fun bt1006 => (if bt1006.1 = 0 then (if bt1000.1 > 1 then (proof_Read.j0 k bt1003.1 true bt1006.2.1 bt1006.2.2 bt993.1 bt996.1 (bt1000.1 == 1)) else (if bt1003.1 > 2 then (proof_Read.j0 k bt1003.1 true bt1006.2.1 bt1006.2.2 bt993.1 bt996.1 (bt1000.1 == 1)) else (if bt1000.1 = 1 then (proof_Read.j0 k bt1003.1 (decide (bt1003.1 > 0)) bt1006.2.1 bt1006.2.2 bt993.1 bt996.1 (bt1000.1 == 1)) else (proof_Read.j0 k bt1003.1 false bt1006.2.1 bt1006.2.2 bt993.1 bt996.1 (bt1000.1 == 1))))) else (some (0, 0, false, ([] : List (S86)), ([] : List (List ByteArray)), bt1006.1))))))))) = some (r1, r2, r3, r4, r5, r6) := h
 clear h
 replace H := Option.bind_eq_some_iff.mp H
 obtain ⟨⟨t990, t991⟩, A20, H⟩ := H
 replace H : ((wire_Reader_Num.f t990 t991).bind fun bt993 => ((wire_Reader_Num.f bt993.2.1 bt993.2.2).bind fun bt996 => ((wire_Reader_Num.f bt996.2.1 bt996.2.2).bind fun bt1000 => ((wire_Reader_Num.f bt1000.2.1 bt1000.2.2).bind fun bt1003 => ((wire_Reader_Err.f bt1003.2.1 bt1003.2.2).bind fun bt1006 => (if bt1006.1 = 0 then (if bt1000.1 > 1 then (proof_Read.j0 k bt1003.1 true bt1006.2.1 bt1006.2.2 bt993.1 bt996.1 (bt1000.1 == 1)) else (if bt1003.1 > 2 then (proof_Read.j0 k bt1003.1 true bt1006.2.1 bt1006.2.2 bt993.1 bt996.1 (bt1000.1 == 1)) else (if bt1000.1 = 1 then (proof_Read.j0 k bt1003.1 (decide (bt1003.1 > 0)) bt1006.2.1 bt1006.2.2 bt993.1 bt996.1 (bt1000.1 == 1)) else (proof_Read.j0 k bt1003.1 false bt1006.2.1 bt1006.2.2 bt993.1 bt996.1 (bt1000.1 == 1))))) else (some (0, 0, false, ([] : List (S86)), ([] : List (List ByteArray)), bt1006.1)))))))) = some (r1, r2, r3, r4, r5, r6) := H
 have A2 := Aside0.mk A20
 clear A20
 replace H := Option.bind_eq_some_iff.mp H
 obtain ⟨⟨t993, t994, t995⟩, A30, H⟩ := H
 replace H : ((wire_Reader_Num.f t994 t995).bind fun bt996 => ((wire_Reader_Num.f bt996.2.1 bt996.2.2).bind fun bt1000 => ((wire_Reader_Num.f bt1000.2.1 bt1000.2.2).bind fun bt1003 => ((wire_Reader_Err.f bt1003.2.1 bt1003.2.2).bind fun bt1006 => (if bt1006.1 = 0 then (if bt1000.1 > 1 then (proof_Read.j0 k bt1003.1 true bt1006.2.1 bt1006.2.2 t993 bt996.1 (bt1000.1 == 1)) else (if bt1003.1 > 2 then (proof_Read.j0 k bt1003.1 true bt1006.2.1 bt1006.2.2 t993 bt996.1 (bt1000.1 == 1)) else (if bt1000.1 = 1 then (proof_Read.j0 k bt1003.1 (decide (bt1003.1 > 0)) bt1006.2.1 bt1006.2.2 t993 bt996.1 (bt1000.1 == 1)) else (proof_Read.j0 k bt1003.1 false bt1006.2.1 bt1006.2.2 t993 bt996.1 (bt1000.1 == 1))))) else (some (0, 0, false, ([] : List (S86)), ([] : List (List ByteArray)), bt1006.1))))))) = some (r1, r2, r3, r4, r5, r6) := H
 have A3 := Aside0.mk A30
 clear A30
 replace H := Option.bind_eq_some_iff.mp H
 obtain ⟨⟨t996, t997, t998⟩, A40, H⟩ := H
 replace H : ((wire_Reader_Num.f t997 t998).bind fun bt1000 => ((wire_Reader_Num.f bt1000.2.1 bt1000.2.2).bind fun bt1003 => ((wire_Reader_Err.f bt1003.2.1 bt1003.2.2).bind fun bt1006 => (if bt1006.1 = 0 then (if bt1000.1 > 1 then (proof_Read.j0 k bt1003.1 true bt1006.2.1 bt1006.2.2 t993 t996 (bt1000.1 == 1)) else (if bt1003.1 > 2 then (proof_Read.j0 k bt1003.1 true bt1006.2.1 bt1006.2.2 t993 t996 (bt1000.1 == 1)) else (if bt1000.1 = 1 then (proof_Read.j0 k bt1003.1 (decide (bt1003.1 > 0)) bt1006.2.1 bt1006.2.2 t993 t996 (bt1000.1 == 1)) else (proof_Read.j0 k bt1003.1 false bt1006.2.1 bt1006.2.2 t993 t996 (bt1000.1 == 1))))) else (some (0, 0, false, ([] : List (S86)), ([] : List (List ByteArray)), bt1006.1)))))) = some (r1, r2, r3, r4, r5, r6) := H
 have A4 := Aside0.mk A40
 clear A40
 replace H := Option.bind_eq_some_iff.mp H
 obtain ⟨⟨t1000, t1001, t1002⟩, A50, H⟩ := H
 replace H : ((wire_Reader_Num.f t1001 t1002).bind fun bt1003 => ((wire_Reader_Err.f bt1003.2.1 bt1003.2.2).bind fun bt1006 => (if bt1006.1 = 0 then (if t1000 > 1 then (proof_Read.j0 k bt1003.1 true bt1006.2.1 bt1006.2.2 t993 t996 (t1000 == 1)) else (if bt1003.1 > 2 then (proof_Read.j0 k bt1003.1 true bt1006.2.1 bt1006.2.2 t993 t996 (t1000 == 1)) else (if t1000 = 1 then (proof_Read.j0 k bt1003.1 (decide (bt1003.1 > 0)) bt1006.2.1 bt1006.2.2 t993 t996 (t1000 == 1)) else (proof_Read.j0 k bt1003.1 false bt1006.2.1 bt1006.2.2 t993 t996 (t1000 == 1))))) else (some (0, 0, false, ([] : List (S86)), ([] : List (List ByteArray)), bt1006.1))))) = some (r1, r2, r3, r4, r5, r6) := H
 have A5 := Aside0.mk A50
 clear A50
 replace H := Option.bind_eq_some_iff.mp H
 obtain ⟨⟨t1003, t1004, t1005⟩, A60, H⟩ := H
 replace H : ((wire_Reader_Err.f t1004 t1005).bind fun bt1006 => (if bt1006.1 = 0 then (if t1000 > 1 then (proof_Read.j0 k t1003 true bt1006.2.1 bt1006.2.2 t993 t996 (t1000 == 1)) else (if t1003 > 2 then (proof_Read.j0 k t1003 true bt1006.2.1 bt1006.2.2 t993 t996 (t1000 == 1)) else (if t1000 = 1 then (proof_Read.j0 k t1003 (decide (t1003 > 0)) bt1006.2.1 bt1006.2.2 t993 t996 (t1000 == 1)) else (proof_Read.j0 k t1003 false bt1006.2.1 bt1006.2.2 t993 t996 (t1000 == 1))))) else (some (0, 0, false, ([] : List (S86)), ([] : List (List ByteArray)), bt1006.1)))) = some (r1, r2, r3, r4, r5, r6) := H
 have A6 := Aside0.mk A60
 clear A60
 replace H := Option.bind_eq_some_iff.mp H
 obtain ⟨⟨t1006, t1007, t1008⟩, A70, H⟩ := H
 replace H : (if t1006 = 0 then (if t1000 > 1 then (proof_Read.j0 k t1003 true t1007 t1008 t993 t996 (t1000 == 1)) else (if t1003 > 2 then (proof_Read.j0 k t1003 true t1007 t1008 t993 t996 (t1000 == 1)) else (if t1000 = 1 then (proof_Read.j0 k t1003 (decide (t1003 > 0)) t1007 t1008 t993 t996 (t1000 == 1)) else (proof_Read.j0 k t1003 false t1007 t1008 t993 t996 (t1000 == 1))))) else (some (0, 0, false, ([] : List (S86)), ([] : List (List ByteArray)), t1006))) = some (r1, r2, r3, r4, r5, r6) := H
 have A7 := Aside0.mk A70
 clear A70
 by_cases c8 : t1006 = 0
 · rw [if_pos c8] at H
   have c8b0 : (t1006 == 0) = true := beq_iff_eq.mpr c8
   have c8b1 : (t1006 != 0) = false := bne_eq_false_iff_eq.mpr c8
   clear c8
   have HC9 := Aside0.mk H
   clear H
   go_enter Try.func61, Try.ntmps61
   go_upto_region 8 with (first | ((with_reducible refine gate_dst (N := 2) rfl ?_); refine box_event ?hg (N := 2) ?hd (cs := #[.int .i64 0, .int .i64 0, .bool false, .slice none 0 0, .slice none 0 0]) (t := 82) ?hr ?_; (case hd => rfl); (case hg => rfl); (case hr => first | (go_simp; done) | (go_simp; rfl)); intro gb989 hg w10 hbox hb; have n0_ := Aside0.mk (below_step (by repeat (first | (with_reducible first | exact HB.out | apply pbA | apply pbN | apply pbD) | exact HB.out)) hb); have n1_ := Aside0.mk (hbox); have n2_ := Aside0.mk ((by rw [hg]; exact (below_size (by repeat (first | (with_reducible first | exact HB.out | apply pbA | apply pbN | apply pbD) | exact HB.out))) : w.heap.size ≤ gb989)); have n3_ := Aside0.mk ((by rw [hg]; exact (below_size (by repeat (first | (with_reducible first | exact HB.out | apply pbA | apply pbN | apply pbD) | exact HB.out))) : w.heap.size ≤ gb989)); clear HB; have HB := n0_; have BK989 := n1_; have GW989 := n2_; have GE989 := n3_; clear n0_ n1_ n2_ n3_; clear hb hbox hg) | ((with_reducible refine gate_callee (f := 69) rfl ?_); refine goesL_ (some 12) rfl rfl Try.func69 (by kernel_rfl) rfl #[.string a0] rfl (by (try simp only [List.map_toArray, List.map_cons, List.map_nil]); first | done | rfl | (simp only [List.length_drop, List.length_take]; rfl)) ?_; (with_reducible refine (wire_New.calls a0 t990 t991 w _ ?side1 A2.out).mono ?_); (case side1 => repeat (first | (with_reducible first | exact HB.out | apply pbA | apply pbN | apply pbD | refine pbS ?_ GE989.out) | exact HB.out)); rintro e w11 ⟨g992, rfl, hi, hb, hb2⟩; refine ⟨_, rfl, ?_⟩; have n0_ := Aside0.mk (blk_below (g := gb989) (o := .cells #[.int .i64 0, .int .i64 0, .bool false, .slice none 0 0, .slice none 0 0] 82 (0, 0)) (by (with_reducible repeat (first | refine pkN ?_ _ | refine pkD ?_ | refine pkA ?_ _)); exact BK989.out) hb2); have n1_ := Aside0.mk (hb); have n2_ := Aside0.mk (hi); have n3_ := Aside0.mk (IsS185.ne_blk hi (blk_below (g := gb989) (o := .cells #[.int .i64 0, .int .i64 0, .bool false, .slice none 0 0, .slice none 0 0] 82 (0, 0)) (by (with_reducible repeat (first | refine pkN ?_ _ | refine pkD ?_ | refine pkA ?_ _)); exact BK989.out) hb2) (by decide)); have n4_ := Aside0.mk (Ne.symm (IsS185.ne_blk hi (blk_below (g := gb989) (o := .cells #[.int .i64 0, .int .i64 0, .bool false, .slice none 0 0, .slice none 0 0] 82 (0, 0)) (by (with_reducible repeat (first | refine pkN ?_ _ | refine pkD ?_ | refine pkA ?_ _)); exact BK989.out) hb2) (by decide))); clear BK989; clear HB; have BK989 := n0_; have HB := n1_; have HI992 := n2_; have NB992_989 := n3_; have NB989_992 := n4_; clear n0_ n1_ n2_ n3_ n4_; (try clear hb); (try clear hb2); (try clear hk); (try clear hi)) | ((with_reducible refine gate_callee (f := 71) rfl ?_); refine goesL_ (some 14) rfl rfl Try.func71 (by kernel_rfl) rfl #[.pointer (some ⟨g992, 0, none⟩)] rfl (by (try simp only [List.map_toArray, List.map_cons, List.map_nil]); first | done | rfl | (simp only [List.length_drop, List.length_take]; rfl)) ?_; (with_reducible refine (wire_Reader_Num.calls g992 t990 t991 t993 t994 t995 w _ ?side1 ?side2 A3.out).mono ?_); (case side1 => repeat (first | (with_reducible first | exact HI992.out | apply IsS185.alloc | apply IsS185.drewN | apply IsS185.drew | apply IsS185.set_0 | apply IsS185.set_1 | refine IsS185.far ?_ NB992_989.out _) | exact HI992.out)); (case side2 => repeat (first | (with_reducible first | exact HB.out | apply pbA | apply pbN | apply pbD | refine pbS ?_ (IsS185.ge HI992.out) | refine pbS ?_ GE989.out) | exact HB.out)); rintro e w12 ⟨rfl, hi, hb, hk⟩; refine ⟨_, rfl, ?_⟩; have n0_ := Aside0.mk (KeepBut.blk hk (g' := gb989) (o := .cells #[.int .i64 0, .int .i64 0, .bool false, .slice none 0 0, .slice none 0 0] 82 (0, 0)) (by (with_reducible repeat (first | refine pkN ?_ _ | refine pkD ?_ | refine pkA ?_ _)); exact BK989.out) NB989_992.out (by simp)); have n1_ := Aside0.mk (hb); have n2_ := Aside0.mk (hi); clear BK989; clear HB; clear HI992; have BK989 := n0_; have HB := n1_; have HI992 := n2_; clear n0_ n1_ n2_; (try clear hb); (try clear hb2); (try clear hk); (try clear hi)) | ((with_reducible refine gate_callee (f := 71) rfl ?_); refine goesL_ (some 16) rfl rfl Try.func71 (by kernel_rfl) rfl #[.pointer (some ⟨g992, 0, none⟩)] rfl (by (try simp only [List.map_toArray, List.map_cons, List.map_nil]); first | done | rfl | (simp only [List.length_drop, List.length_take]; rfl)) ?_; (with_reducible refine (wire_Reader_Num.calls g992 t994 t995 t996 t997 t998 w _ ?side1 ?side2 A4.out).mono ?_); (case side1 => repeat (first | (with_reducible first | exact HI992.out | apply IsS185.alloc | apply IsS185.drewN | apply IsS185.drew | apply IsS185.set_0 | apply IsS185.set_1 | refine IsS185.far ?_ NB992_989.out _) | exact HI992.out)); (case side2 => repeat (first | (with_reducible first | exact HB.out | apply pbA | apply pbN | apply pbD | refine pbS ?_ (IsS185.ge HI992.out) | refine pbS ?_ GE989.out) | exact HB.out)); rintro e w13 ⟨rfl, hi, hb, hk⟩; refine ⟨_, rfl, ?_⟩; have n0_ := Aside0.mk (KeepBut.blk hk (g' := gb989) (o := .cells #[.int .i64 0, .int .i64 0, .bool false, .slice none 0 0, .slice none 0 0] 82 (0, 0)) (by (with_reducible repeat (first | refine pkN ?_ _ | refine pkD ?_ | refine pkA ?_ _)); exact BK989.out) NB989_992.out (by simp)); have n1_ := Aside0.mk (hb); have n2_ := Aside0.mk (hi); clear BK989; clear HB; clear HI992; have BK989 := n0_; have HB := n1_; have HI992 := n2_; clear n0_ n1_ n2_; (try clear hb); (try clear hb2); (try clear hk); (try clear hi)) | ((with_reducible refine gate_dst (N := 5) rfl ?_); refine box_event ?hg (N := 5) ?hd (cs := #[.int .i64 0, .int .i64 0, .bool false, .slice none 0 0, .slice none 0 0]) (t := 82) ?hr ?_; (case hd => rfl); (case hg => rfl); (case hr => first | (go_simp; done) | (go_simp; rfl)); intro gb999 hg w14 hbox hb; have n0_ := Aside0.mk (blk_below (g := gb989) (o := .cells #[.int .i64 0, .int .i64 0, .bool false, .slice none 0 0, .slice none 0 0] 82 (0, 0)) (by (with_reducible repeat (first | refine pkN ?_ _ | refine pkD ?_ | refine pkA ?_ _)); exact BK989.out) hb); have n1_ := Aside0.mk (IsS185.below (by repeat (first | (with_reducible first | exact HI992.out | apply IsS185.alloc | apply IsS185.drewN | apply IsS185.drew | apply IsS185.set_0 | apply IsS185.set_1 | refine IsS185.far ?_ NB992_989.out _) | exact HI992.out)) hb); have n2_ := Aside0.mk (below_step (by repeat (first | (with_reducible first | exact HB.out | apply pbA | apply pbN | apply pbD | refine pbS ?_ (IsS185.ge HI992.out) | refine pbS ?_ GE989.out) | exact HB.out)) hb); have n3_ := Aside0.mk (hbox); have n4_ := Aside0.mk ((by rw [hg]; exact (below_size (by repeat (first | (with_reducible first | exact HB.out | apply pbA | apply pbN | apply pbD | refine pbS ?_ (IsS185.ge HI992.out) | refine pbS ?_ GE989.out) | exact HB.out))) : w.heap.size ≤ gb999)); have n5_ := Aside0.mk ((by rw [hg]; exact (below_size (by repeat (first | (with_reducible first | exact HB.out | apply pbA | apply pbN | apply pbD | refine pbS ?_ (IsS185.ge HI992.out) | refine pbS ?_ GE989.out) | exact HB.out))) : w.heap.size ≤ gb999)); have n6_ := Aside0.mk ((by rw [hg]; exact Nat.ne_of_lt (blk_lt (g := gb989) (o := .cells #[.int .i64 0, .int .i64 0, .bool false, .slice none 0 0, .slice none 0 0] 82 (0, 0)) (by (with_reducible repeat (first | refine pkN ?_ _ | refine pkD ?_ | refine pkA ?_ _)); exact BK989.out)) : gb989 ≠ gb999)); have n7_ := Aside0.mk ((by rw [hg]; exact Nat.ne_of_gt (blk_lt (g := gb989) (o := .cells #[.int .i64 0, .int .i64 0, .bool false, .slice none 0 0, .slice none 0 0] 82 (0, 0)) (by (with_reducible repeat (first | refine pkN ?_ _ | refine pkD ?_ | refine pkA ?_ _)); exact BK989.out)) : gb999 ≠ gb989)); have n8_ := Aside0.mk ((by rw [hg]; exact Nat.ne_of_lt (IsS185.lt (show IsS185 w _ g992 t997 t998 from by repeat (first | (with_reducible first | exact HI992.out | apply IsS185.alloc | apply IsS185.drewN | apply IsS185.drew | apply IsS185.set_0 | apply IsS185.set_1 | refine IsS185.far ?_ NB992_989.out _) | exact HI992.out))) : g992 ≠ gb999)); have n9_ := Aside0.mk ((by rw [hg]; exact Nat.ne_of_gt (IsS185.lt (show IsS185 w _ g992 t997 t998 from by repeat (first | (with_reducible first | exact HI992.out | apply IsS185.alloc | apply IsS185.drewN | apply IsS185.drew | apply IsS185.set_0 | apply IsS185.set_1 | refine IsS185.far ?_ NB992_989.out _) | exact HI992.out))) : gb999 ≠ g992)); clear BK989; clear HI992; clear HB; have BK989 := n0_; have HI992 := n1_; have HB := n2_; have BK999 := n3_; have GW999 := n4_; have GE999 := n5_; have NB989_999 := n6_; have NB999_989 := n7_; have NB992_999 := n8_; have NB999_992 := n9_; clear n0_ n1_ n2_ n3_ n4_ n5_ n6_ n7_ n8_ n9_; clear hb hbox hg; have hnb15 := NB999_989.out; have hnc15 := NB989_999.out; have hnb16 := NB999_992.out; have hnc16 := NB992_999.out; have hcz17_0 : w14.cell? ⟨gb999, 0, none⟩ = some (.int .i64 0) := (pkC BK999.out 0).trans rfl; have hcz17_1 : w14.cell? ⟨gb999, 1, none⟩ = some (.int .i64 0) := (pkC BK999.out 1).trans rfl; have hcz17_2 : w14.cell? ⟨gb999, 2, none⟩ = some (.bool false) := (pkC BK999.out 2).trans rfl; have hcz17_3 : w14.cell? ⟨gb999, 3, none⟩ = some (.slice none 0 0) := (pkC BK999.out 3).trans rfl; have hcz17_4 : w14.cell? ⟨gb999, 4, none⟩ = some (.slice none 0 0) := (pkC BK999.out 4).trans rfl; have hfz17_0 := pkF BK999.out 0; have hfz17_1 := pkF BK999.out 1; have hfz17_2 := pkF BK999.out 2; have hfz17_3 := pkF BK999.out 3; have hfz17_4 := pkF BK999.out 4) | ((with_reducible refine gate_callee (f := 71) rfl ?_); refine goesL_ (some 19) rfl rfl Try.func71 (by kernel_rfl) rfl #[.pointer (some ⟨g992, 0, none⟩)] rfl (by (try simp only [List.map_toArray, List.map_cons, List.map_nil]); first | done | rfl | (simp only [List.length_drop, List.length_take]; rfl)) ?_; (with_reducible refine (wire_Reader_Num.calls g992 t997 t998 t1000 t1001 t1002 w _ ?side1 ?side2 A5.out).mono ?_); (case side1 => repeat (first | (with_reducible first | exact HI992.out | apply IsS185.alloc | apply IsS185.drewN | apply IsS185.drew | apply IsS185.set_0 | apply IsS185.set_1 | refine IsS185.far ?_ NB992_989.out _ | refine IsS185.far ?_ NB992_999.out _) | exact HI992.out)); (case side2 => repeat (first | (with_reducible first | exact HB.out | apply pbA | apply pbN | apply pbD | refine pbS ?_ (IsS185.ge HI992.out) | refine pbS ?_ GE989.out | refine pbS ?_ GE999.out) | exact HB.out)); rintro e w18 ⟨rfl, hi, hb, hk⟩; refine ⟨_, rfl, ?_⟩; have n0_ := Aside0.mk (KeepBut.blk hk (g' := gb989) (o := .cells #[.int .i64 0, .int .i64 0, .bool false, .slice none 0 0, .slice none 0 0] 82 (0, 0)) (by (with_reducible repeat (first | refine pkN ?_ _ | refine pkD ?_ | refine pkA ?_ _)); refine blk_far ?_ NB989_999.out _; (with_reducible repeat (first | refine pkN ?_ _ | refine pkD ?_ | refine pkA ?_ _)); refine blk_far ?_ NB989_999.out _; (with_reducible repeat (first | refine pkN ?_ _ | refine pkD ?_ | refine pkA ?_ _)); refine blk_far ?_ NB989_999.out _; (with_reducible repeat (first | refine pkN ?_ _ | refine pkD ?_ | refine pkA ?_ _)); refine blk_far ?_ NB989_999.out _; (with_reducible repeat (first | refine pkN ?_ _ | refine pkD ?_ | refine pkA ?_ _)); refine blk_far ?_ NB989_999.out _; (with_reducible repeat (first | refine pkN ?_ _ | refine pkD ?_ | refine pkA ?_ _)); exact BK989.out) NB989_992.out (by simp)); have n1_ := Aside0.mk (KeepBut.blk hk (g' := gb999) (o := .cells #[.int .i64 t993, .int .i64 t996, .bool false, .slice none 0 0, .slice none 0 0] 82 (0, 0)) (by (with_reducible repeat (first | refine pkN ?_ _ | refine pkD ?_ | refine pkA ?_ _)); refine blk_put (cs := #[.int .i64 t993, .int .i64 t996, .bool false, .slice none 0 0, .slice none 0 0]) ?_ 4 _ rfl; (with_reducible repeat (first | refine pkN ?_ _ | refine pkD ?_ | refine pkA ?_ _)); refine blk_put (cs := #[.int .i64 t993, .int .i64 t996, .bool false, .slice none 0 0, .slice none 0 0]) ?_ 3 _ rfl; (with_reducible repeat (first | refine pkN ?_ _ | refine pkD ?_ | refine pkA ?_ _)); refine blk_put (cs := #[.int .i64 t993, .int .i64 t996, .bool false, .slice none 0 0, .slice none 0 0]) ?_ 2 _ (by first | rfl | (have hb_ : (t1000 == 1) = true := (by first | assumption | (simp [*]; done)); rw [hb_]; rfl) | (have hb_ : (t1000 == 1) = false := (by first | assumption | (simp [*]; done)); rw [hb_]; rfl)); (with_reducible repeat (first | refine pkN ?_ _ | refine pkD ?_ | refine pkA ?_ _)); refine blk_put (cs := #[.int .i64 t993, .int .i64 0, .bool false, .slice none 0 0, .slice none 0 0]) ?_ 1 _ rfl; (with_reducible repeat (first | refine pkN ?_ _ | refine pkD ?_ | refine pkA ?_ _)); refine blk_put (cs := #[.int .i64 0, .int .i64 0, .bool false, .slice none 0 0, .slice none 0 0]) ?_ 0 _ rfl; (with_reducible repeat (first | refine pkN ?_ _ | refine pkD ?_ | refine pkA ?_ _)); exact BK999.out) NB999_992.out (by simp)); have n2_ := Aside0.mk (hb); have n3_ := Aside0.mk (hi); clear BK989; clear BK999; clear HB; clear HI992; have BK989 := n0_; have BK999 := n1_; have HB := n2_; have HI992 := n3_; clear n0_ n1_ n2_ n3_; (try clear hb); (try clear hb2); (try clear hk); (try clear hi)) | ((with_reducible refine gate_callee (f := 71) rfl ?_); refine goesL_ (some 21) rfl rfl Try.func71 (by kernel_rfl) rfl #[.pointer (some ⟨g992, 0, none⟩)] rfl (by (try simp only [List.map_toArray, List.map_cons, List.map_nil]); first | done | rfl | (simp only [List.length_drop, List.length_take]; rfl)) ?_; (with_reducible refine (wire_Reader_Num.calls g992 t1001 t1002 t1003 t1004 t1005 w _ ?side1 ?side2 A6.out).mono ?_); (case side1 => repeat (first | (with_reducible first | exact HI992.out | apply IsS185.alloc | apply IsS185.drewN | apply IsS185.drew | apply IsS185.set_0 | apply IsS185.set_1 | refine IsS185.far ?_ NB992_989.out _ | refine IsS185.far ?_ NB992_999.out _) | exact HI992.out)); (case side2 => repeat (first | (with_reducible first | exact HB.out | apply pbA | apply pbN | apply pbD | refine pbS ?_ (IsS185.ge HI992.out) | refine pbS ?_ GE989.out | refine pbS ?_ GE999.out) | exact HB.out)); rintro e w19 ⟨rfl, hi, hb, hk⟩; refine ⟨_, rfl, ?_⟩; have n0_ := Aside0.mk (KeepBut.blk hk (g' := gb989) (o := .cells #[.int .i64 0, .int .i64 0, .bool false, .slice none 0 0, .slice none 0 0] 82 (0, 0)) (by (with_reducible repeat (first | refine pkN ?_ _ | refine pkD ?_ | refine pkA ?_ _)); exact BK989.out) NB989_992.out (by simp)); have n1_ := Aside0.mk (KeepBut.blk hk (g' := gb999) (o := .cells #[.int .i64 t993, .int .i64 t996, .bool false, .slice none 0 0, .slice none 0 0] 82 (0, 0)) (by (with_reducible repeat (first | refine pkN ?_ _ | refine pkD ?_ | refine pkA ?_ _)); exact BK999.out) NB999_992.out (by simp)); have n2_ := Aside0.mk (hb); have n3_ := Aside0.mk (hi); clear BK989; clear BK999; clear HB; clear HI992; have BK989 := n0_; have BK999 := n1_; have HB := n2_; have HI992 := n3_; clear n0_ n1_ n2_ n3_; (try clear hb); (try clear hb2); (try clear hk); (try clear hi)) | ((with_reducible refine gate_callee (f := 131) rfl ?_); refine goesL_ (some 23) rfl rfl Try.func131 (by kernel_rfl) rfl #[.pointer (some ⟨g992, 0, none⟩)] rfl (by (try simp only [List.map_toArray, List.map_cons, List.map_nil]); first | done | rfl | (simp only [List.length_drop, List.length_take]; rfl)) ?_; (with_reducible refine (wire_Reader_Err.calls g992 t1004 t1005 t1006 t1007 t1008 w _ ?side1 ?side2 A7.out).mono ?_); (case side1 => repeat (first | (with_reducible first | exact HI992.out | apply IsS185.alloc | apply IsS185.drewN | apply IsS185.drew | apply IsS185.set_0 | apply IsS185.set_1 | refine IsS185.far ?_ NB992_989.out _ | refine IsS185.far ?_ NB992_999.out _) | exact HI992.out)); (case side2 => repeat (first | (with_reducible first | exact HB.out | apply pbA | apply pbN | apply pbD | refine pbS ?_ (IsS185.ge HI992.out) | refine pbS ?_ GE989.out | refine pbS ?_ GE999.out) | exact HB.out)); rintro e w20 ⟨rfl, hi, hb, hk⟩; refine ⟨_, rfl, ?_⟩; have n0_ := Aside0.mk (KeepBut.blk hk (g' := gb989) (o := .cells #[.int .i64 0, .int .i64 0, .bool false, .slice none 0 0, .slice none 0 0] 82 (0, 0)) (by (with_reducible repeat (first | refine pkN ?_ _ | refine pkD ?_ | refine pkA ?_ _)); exact BK989.out) NB989_992.out (by simp)); have n1_ := Aside0.mk (KeepBut.blk hk (g' := gb999) (o := .cells #[.int .i64 t993, .int .i64 t996, .bool false, .slice none 0 0, .slice none 0 0] 82 (0, 0)) (by (with_reducible repeat (first | refine pkN ?_ _ | refine pkD ?_ | refine pkA ?_ _)); exact BK999.out) NB999_992.out (by simp)); have n2_ := Aside0.mk (hb); have n3_ := Aside0.mk (hi); clear BK989; clear BK999; clear HB; clear HI992; have BK989 := n0_; have BK999 := n1_; have HB := n2_; have HI992 := n3_; clear n0_ n1_ n2_ n3_; (try clear hb); (try clear hb2); (try clear hk); (try clear hi); have hcz21_0 : w20.cell? ⟨gb999, 0, none⟩ = some (.int .i64 t993) := (pkC BK999.out 0).trans rfl; have hcz21_1 : w20.cell? ⟨gb999, 1, none⟩ = some (.int .i64 t996) := (pkC BK999.out 1).trans rfl; have hcz21_2 : w20.cell? ⟨gb999, 2, none⟩ = some (.bool false) := (pkC BK999.out 2).trans rfl; have hcz21_3 : w20.cell? ⟨gb999, 3, none⟩ = some (.slice none 0 0) := (pkC BK999.out 3).trans rfl; have hcz21_4 : w20.cell? ⟨gb999, 4, none⟩ = some (.slice none 0 0) := (pkC BK999.out 4).trans rfl; have hfz21_0 := pkF BK999.out 0; have hfz21_1 := pkF BK999.out 1; have hfz21_2 := pkF BK999.out 2; have hfz21_3 := pkF BK999.out 3; have hfz21_4 := pkF BK999.out 4))
   (try simp only [Act.put, zA, zB, zC])
   go_cut [44] (fun v44 wc => ∃ (kq : Nat) (x44_8 : Bool), v44 = .bool x44_8 ∧ Aside0 (proof_Read.j0 kq t1003 x44_8 t1007 t1008 t993 t996 (t1000 == 1) = some (r1, r2, r3, r4, r5, r6)) ∧ Aside0 (kq ≤ k) ∧ Aside0 (wc.heap[gb989]? = some (.cells #[.int .i64 0, .int .i64 0, .bool false, (.slice none 0 0), (.slice none 0 0)] 82 (0, 0))) ∧ Aside0 (wc.heap[gb999]? = some (.cells #[.int .i64 t993, .int .i64 t996, .bool (t1000 == 1), (.slice none 0 0), (.slice none 0 0)] 82 (0, 0))) ∧ Aside0 (IsS185 w wc g992 t1007 t1008) ∧ Aside0 (Below w.heap.size w wc))
   case first =>
    have H := HC9.out
    clear HC9
    by_cases c22 : t1000 > 1
    · rw [if_pos c22] at H
      have c22b0 : decide (1 < t1000) = true := decide_eq_true c22
      clear c22
      (first | rw [c22b0] | (simp only [i64_w, i32_w]; rw [c22b0]) | skip)
      have H' := Aside0.mk H
      clear H
      go_wp2
      go_meet
      case rel => exact ⟨_, (true), (by first | rfl | (simp; done) | (simp [*]; done)), H', ⟨by first | omega | exact Nat.le_refl _⟩, ⟨by (with_reducible repeat (first | refine pkN ?_ _ | refine pkD ?_ | refine pkA ?_ _)); refine blk_far ?_ NB989_999.out _; (with_reducible repeat (first | refine pkN ?_ _ | refine pkD ?_ | refine pkA ?_ _)); exact BK989.out⟩, ⟨by (with_reducible repeat (first | refine pkN ?_ _ | refine pkD ?_ | refine pkA ?_ _)); refine blk_put (cs := #[.int .i64 t993, .int .i64 t996, .bool false, .slice none 0 0, .slice none 0 0]) ?_ 2 _ (by first | rfl | (have hb_ : (t1000 == 1) = true := (by first | assumption | (simp [*]; done)); rw [hb_]; rfl) | (have hb_ : (t1000 == 1) = false := (by first | assumption | (simp [*]; done)); rw [hb_]; rfl)); (with_reducible repeat (first | refine pkN ?_ _ | refine pkD ?_ | refine pkA ?_ _)); exact BK999.out⟩, ⟨by repeat (first | (with_reducible first | exact HI992.out | apply IsS185.alloc | apply IsS185.drewN | apply IsS185.drew | apply IsS185.set_0 | apply IsS185.set_1 | refine IsS185.far ?_ NB992_989.out _ | refine IsS185.far ?_ NB992_999.out _) | exact HI992.out)⟩, ⟨by repeat (first | (with_reducible first | exact HB.out | apply pbA | apply pbN | apply pbD | refine pbS ?_ (IsS185.ge HI992.out) | refine pbS ?_ GE989.out | refine pbS ?_ GE999.out) | exact HB.out)⟩⟩
    · rw [if_neg c22] at H
      have c22b0 : decide (1 < t1000) = false := decide_eq_false c22
      clear c22
      (first | rw [c22b0] | (simp only [i64_w, i32_w]; rw [c22b0]) | skip)
      by_cases c23 : t1003 > 2
      · rw [if_pos c23] at H
        have c23b0 : decide (2 < t1003) = true := decide_eq_true c23
        clear c23
        have H' := Aside0.mk H
        clear H
        go_wp2
        go_meet
        case rel => exact ⟨_, (true), (by first | rfl | (simp; done) | (simp [*]; done)), H', ⟨by first | omega | exact Nat.le_refl _⟩, ⟨by (with_reducible repeat (first | refine pkN ?_ _ | refine pkD ?_ | refine pkA ?_ _)); refine blk_far ?_ NB989_999.out _; (with_reducible repeat (first | refine pkN ?_ _ | refine pkD ?_ | refine pkA ?_ _)); exact BK989.out⟩, ⟨by (with_reducible repeat (first | refine pkN ?_ _ | refine pkD ?_ | refine pkA ?_ _)); refine blk_put (cs := #[.int .i64 t993, .int .i64 t996, .bool false, .slice none 0 0, .slice none 0 0]) ?_ 2 _ (by first | rfl | (have hb_ : (t1000 == 1) = true := (by first | assumption | (simp [*]; done)); rw [hb_]; rfl) | (have hb_ : (t1000 == 1) = false := (by first | assumption | (simp [*]; done)); rw [hb_]; rfl)); (with_reducible repeat (first | refine pkN ?_ _ | refine pkD ?_ | refine pkA ?_ _)); exact BK999.out⟩, ⟨by repeat (first | (with_reducible first | exact HI992.out | apply IsS185.alloc | apply IsS185.drewN | apply IsS185.drew | apply IsS185.set_0 | apply IsS185.set_1 | refine IsS185.far ?_ NB992_989.out _ | refine IsS185.far ?_ NB992_999.out _) | exact HI992.out)⟩, ⟨by repeat (first | (with_reducible first | exact HB.out | apply pbA | apply pbN | apply pbD | refine pbS ?_ (IsS185.ge HI992.out) | refine pbS ?_ GE989.out | refine pbS ?_ GE999.out) | exact HB.out)⟩⟩
      · rw [if_neg c23] at H
        have c23b0 : decide (2 < t1003) = false := decide_eq_false c23
        clear c23
        by_cases c24 : t1000 = 1
        · rw [if_pos c24] at H
          have c24b0 : (t1000 == 1) = true := beq_iff_eq.mpr c24
          have c24b1 : (t1000 != 1) = false := bne_eq_false_iff_eq.mpr c24
          clear c24
          have H' := Aside0.mk H
          clear H
          have hnb25 := NB999_989.out
          have hnc25 := NB989_999.out
          have hnb26 := NB999_992.out
          have hnc26 := NB992_999.out
          have hcz27_0 : w20.cell? ⟨gb999, 0, none⟩ = some (.int .i64 t993) := (pkC BK999.out 0).trans rfl
          have hcz27_1 : w20.cell? ⟨gb999, 1, none⟩ = some (.int .i64 t996) := (pkC BK999.out 1).trans rfl
          have hcz27_2 : w20.cell? ⟨gb999, 2, none⟩ = some (.bool false) := (pkC BK999.out 2).trans rfl
          have hcz27_3 : w20.cell? ⟨gb999, 3, none⟩ = some (.slice none 0 0) := (pkC BK999.out 3).trans rfl
          have hcz27_4 : w20.cell? ⟨gb999, 4, none⟩ = some (.slice none 0 0) := (pkC BK999.out 4).trans rfl
          have hfz27_0 := pkF BK999.out 0
          have hfz27_1 := pkF BK999.out 1
          have hfz27_2 := pkF BK999.out 2
          have hfz27_3 := pkF BK999.out 3
          have hfz27_4 := pkF BK999.out 4
          go_wp2
          go_meet
          case rel => exact ⟨_, (decide (t1003 > 0)), (by first | rfl | (simp; done) | (simp [*]; done)), H', ⟨by first | omega | exact Nat.le_refl _⟩, ⟨by (with_reducible repeat (first | refine pkN ?_ _ | refine pkD ?_ | refine pkA ?_ _)); refine blk_far ?_ NB989_999.out _; (with_reducible repeat (first | refine pkN ?_ _ | refine pkD ?_ | refine pkA ?_ _)); exact BK989.out⟩, ⟨by (with_reducible repeat (first | refine pkN ?_ _ | refine pkD ?_ | refine pkA ?_ _)); refine blk_put (cs := #[.int .i64 t993, .int .i64 t996, .bool false, .slice none 0 0, .slice none 0 0]) ?_ 2 _ (by first | rfl | (have hb_ : (t1000 == 1) = true := (by first | assumption | (simp [*]; done)); rw [hb_]; rfl) | (have hb_ : (t1000 == 1) = false := (by first | assumption | (simp [*]; done)); rw [hb_]; rfl)); (with_reducible repeat (first | refine pkN ?_ _ | refine pkD ?_ | refine pkA ?_ _)); exact BK999.out⟩, ⟨by repeat (first | (with_reducible first | exact HI992.out | apply IsS185.alloc | apply IsS185.drewN | apply IsS185.drew | apply IsS185.set_0 | apply IsS185.set_1 | refine IsS185.far ?_ NB992_989.out _ | refine IsS185.far ?_ NB992_999.out _) | exact HI992.out)⟩, ⟨by repeat (first | (with_reducible first | exact HB.out | apply pbA | apply pbN | apply pbD | refine pbS ?_ (IsS185.ge HI992.out) | refine pbS ?_ GE989.out | refine pbS ?_ GE999.out) | exact HB.out)⟩⟩
        · rw [if_neg c24] at H
          have c24b0 : (t1000 == 1) = false := beq_eq_false_iff_ne.mpr c24
          have c24b1 : (t1000 != 1) = true := bne_iff_ne.mpr c24
          have H' := Aside0.mk H
          clear H
          have hnb28 := NB999_989.out
          have hnc28 := NB989_999.out
          have hnb29 := NB999_992.out
          have hnc29 := NB992_999.out
          have hcz30_0 : w20.cell? ⟨gb999, 0, none⟩ = some (.int .i64 t993) := (pkC BK999.out 0).trans rfl
          have hcz30_1 : w20.cell? ⟨gb999, 1, none⟩ = some (.int .i64 t996) := (pkC BK999.out 1).trans rfl
          have hcz30_2 : w20.cell? ⟨gb999, 2, none⟩ = some (.bool false) := (pkC BK999.out 2).trans rfl
          have hcz30_3 : w20.cell? ⟨gb999, 3, none⟩ = some (.slice none 0 0) := (pkC BK999.out 3).trans rfl
          have hcz30_4 : w20.cell? ⟨gb999, 4, none⟩ = some (.slice none 0 0) := (pkC BK999.out 4).trans rfl
          have hfz30_0 := pkF BK999.out 0
          have hfz30_1 := pkF BK999.out 1
          have hfz30_2 := pkF BK999.out 2
          have hfz30_3 := pkF BK999.out 3
          have hfz30_4 := pkF BK999.out 4
          go_wp2
          go_meet
          case rel => exact ⟨_, (false), (by first | rfl | (simp; done) | (simp [*]; done)), H', ⟨by first | omega | exact Nat.le_refl _⟩, ⟨by (with_reducible repeat (first | refine pkN ?_ _ | refine pkD ?_ | refine pkA ?_ _)); refine blk_far ?_ NB989_999.out _; (with_reducible repeat (first | refine pkN ?_ _ | refine pkD ?_ | refine pkA ?_ _)); exact BK989.out⟩, ⟨by (with_reducible repeat (first | refine pkN ?_ _ | refine pkD ?_ | refine pkA ?_ _)); refine blk_put (cs := #[.int .i64 t993, .int .i64 t996, .bool false, .slice none 0 0, .slice none 0 0]) ?_ 2 _ (by first | rfl | (have hb_ : (t1000 == 1) = true := (by first | assumption | (simp [*]; done)); rw [hb_]; rfl) | (have hb_ : (t1000 == 1) = false := (by first | assumption | (simp [*]; done)); rw [hb_]; rfl)); (with_reducible repeat (first | refine pkN ?_ _ | refine pkD ?_ | refine pkA ?_ _)); exact BK999.out⟩, ⟨by repeat (first | (with_reducible first | exact HI992.out | apply IsS185.alloc | apply IsS185.drewN | apply IsS185.drew | apply IsS185.set_0 | apply IsS185.set_1 | refine IsS185.far ?_ NB992_989.out _ | refine IsS185.far ?_ NB992_999.out _) | exact HI992.out)⟩, ⟨by repeat (first | (with_reducible first | exact HB.out | apply pbA | apply pbN | apply pbD | refine pbS ?_ (IsS185.ge HI992.out) | refine pbS ?_ GE989.out | refine pbS ?_ GE999.out) | exact HB.out)⟩⟩
   case rest =>
    clear HC9
    try clear c1
    try clear c2
    try clear p2
    try clear c6
    try clear c7
    try clear c8
    try clear c8b0
    try clear c8b1
    try clear c13
    try clear c15
    try clear c16
    try clear c22
    try clear c22b0
    try clear c23
    try clear c23b0
    try clear c24
    try clear c24b0
    try clear c24b1
    try clear c25
    try clear c26
    try clear c28
    try clear c29
    try clear hcz17_0
    try clear hcz17_1
    try clear hcz17_2
    try clear hcz17_3
    try clear hcz17_4
    try clear hcz21_0
    try clear hcz21_1
    try clear hcz21_2
    try clear hcz21_3
    try clear hcz21_4
    try clear hcz27_0
    try clear hcz27_1
    try clear hcz27_2
    try clear hcz27_3
    try clear hcz27_4
    try clear hcz30_0
    try clear hcz30_1
    try clear hcz30_2
    try clear hcz30_3
    try clear hcz30_4
    try clear hfz17_0
    try clear hfz17_1
    try clear hfz17_2
    try clear hfz17_3
    try clear hfz17_4
    try clear hfz21_0
    try clear hfz21_1
    try clear hfz21_2
    try clear hfz21_3
    try clear hfz21_4
    try clear hfz27_0
    try clear hfz27_1
    try clear hfz27_2
    try clear hfz27_3
    try clear hfz27_4
    try clear hfz30_0
    try clear hfz30_1
    try clear hfz30_2
    try clear hfz30_3
    try clear hfz30_4
    obtain ⟨kq, x44_8, rfl, HA, HJ8, BK989, BK999, HI992, HB⟩ := hcut
    cases kq with
    | zero => exact absurd HA.out (by simp [proof_Read.j0])
    | succ kj8 =>
     have H := HA.out
     clear HA
     simp only [proof_Read.j0] at H
     by_cases c31 : x44_8 = true
     · subst c31
       have H1 : (some (0, 0, false, ([] : List (S86)), ([] : List (List ByteArray)), 6)) = some (r1, r2, r3, r4, r5, r6) := by rw [if_pos rfl] at H; exact H
       clear H
       have H := H1
       clear H1
       simp only [Option.some.injEq, Prod.mk.injEq] at H
       obtain ⟨rfl, rfl, rfl, rfl, rfl, rfl⟩ := H
       have hnb32 := NB989_999.out
       have hnc32 := NB999_989.out
       have hnb33 := NB989_992.out
       have hnc33 := NB992_989.out
       have hcz34_0 : wc.cell? ⟨gb989, 0, none⟩ = some (.int .i64 0) := (pkC BK989.out 0).trans rfl
       have hcz34_1 : wc.cell? ⟨gb989, 1, none⟩ = some (.int .i64 0) := (pkC BK989.out 1).trans rfl
       have hcz34_2 : wc.cell? ⟨gb989, 2, none⟩ = some (.bool false) := (pkC BK989.out 2).trans rfl
       have hcz34_3 : wc.cell? ⟨gb989, 3, none⟩ = some (.slice none 0 0) := (pkC BK989.out 3).trans rfl
       have hcz34_4 : wc.cell? ⟨gb989, 4, none⟩ = some (.slice none 0 0) := (pkC BK989.out 4).trans rfl
       have hfz34_0 := pkF BK989.out 0
       have hfz34_1 := pkF BK989.out 1
       have hfz34_2 := pkF BK989.out 2
       have hfz34_3 := pkF BK989.out 3
       have hfz34_4 := pkF BK989.out 4
       go_wp2
       refine bodyPost_ret (results_ct rfl _ _ gb989 82 #[.int .i64 0, .int .i64 0, .bool false, .slice none 0 0, .slice none 0 0] (0, 0) _ rfl (by (with_reducible repeat (first | refine pkN ?_ _ | refine pkD ?_ | refine pkA ?_ _)); refine blk_put (cs := #[.int .i64 0, .int .i64 0, .bool false, .slice none 0 0, .slice none 0 0]) ?_ 4 _ rfl; (with_reducible repeat (first | refine pkN ?_ _ | refine pkD ?_ | refine pkA ?_ _)); refine blk_put (cs := #[.int .i64 0, .int .i64 0, .bool false, .slice none 0 0, .slice none 0 0]) ?_ 3 _ rfl; (with_reducible repeat (first | refine pkN ?_ _ | refine pkD ?_ | refine pkA ?_ _)); refine blk_put (cs := #[.int .i64 0, .int .i64 0, .bool false, .slice none 0 0, .slice none 0 0]) ?_ 2 _ (by first | rfl | (have hb_ : (t1000 == 1) = true := (by first | assumption | (simp [*]; done)); rw [hb_]; rfl) | (have hb_ : (t1000 == 1) = false := (by first | assumption | (simp [*]; done)); rw [hb_]; rfl)); (with_reducible repeat (first | refine pkN ?_ _ | refine pkD ?_ | refine pkA ?_ _)); refine blk_put (cs := #[.int .i64 0, .int .i64 0, .bool false, .slice none 0 0, .slice none 0 0]) ?_ 1 _ rfl; (with_reducible repeat (first | refine pkN ?_ _ | refine pkD ?_ | refine pkA ?_ _)); refine blk_put (cs := #[.int .i64 0, .int .i64 0, .bool false, .slice none 0 0, .slice none 0 0]) ?_ 0 _ rfl; (with_reducible repeat (first | refine pkN ?_ _ | refine pkD ?_ | refine pkA ?_ _)); exact BK989.out) Try.underlying82 rfl (by kernel_rfl)) rfl ?_
       exact ⟨_, _, by first | rfl | (simp [errW_none, errW_some] <;> rfl) | (simp [*, errW_none, errW_some] <;> rfl), by first | exact Kd.R_nil _ _ _ _ _ | exact Kd.N_nil _ _ _ _ _ | exact Kd.V_nil _ _ _ _ _ | exact Kd.Q_nil _ _ _ _ _ | exact Kd.S_nil _ _ _ _ _, by first | exact Kd.S_nil _ _ _ _ _ | exact Kd.N_nil _ _ _ _ _ | exact Kd.V_nil _ _ _ _ _ | exact Kd.Q_nil _ _ _ _ _ | exact Kd.R_nil _ _ _ _ _, by repeat (first | (with_reducible first | exact HB.out | apply pbA | apply pbN | apply pbD | refine pbS ?_ (IsS185.ge HI992.out) | refine pbS ?_ GE989.out | refine pbS ?_ GE999.out) | exact HB.out)⟩
     · replace c31 := Bool.eq_false_iff.mpr c31
       subst c31
       have H1 : (proof_Read.l0 kj8 t1003 0 t1007 t1008 t993 t996 (t1000 == 1) ([] : List (S86))) = some (r1, r2, r3, r4, r5, r6) := by rw [if_neg (show ¬ (false = true) by decide)] at H; exact H
       clear H
       have H := H1
       clear H1
       have H' := Aside0.mk H
       clear H
       go_wp2
       go_loopg [47] kj8 (fun kq v47 w' => ∃ (x47_2 : Int) (x993000_2 : ByteArray) (x993001_2 : Int) (x1000003_2 : List (S86)) (u1000003 : Value), v47 = .int .i64 x47_2 ∧ Aside0 (proof_Read.l0 kq t1003 x47_2 x993000_2 x993001_2 t993 t996 (t1000 == 1) x1000003_2 = some (r1, r2, r3, r4, r5, r6)) ∧ Aside0 (kq ≤ kj8) ∧ Aside0 (Kd.R k86 86 w' w.heap.size (fun _ => True) u1000003 x1000003_2) ∧ Aside0 (w'.heap[gb989]? = some (.cells #[.int .i64 0, .int .i64 0, .bool false, (.slice none 0 0), (.slice none 0 0)] 82 (0, 0))) ∧ Aside0 (w'.heap[gb999]? = some (.cells #[.int .i64 t993, .int .i64 t996, .bool (t1000 == 1), u1000003, (.slice none 0 0)] 82 (0, 0))) ∧ Aside0 (IsS185 w w' g992 x993000_2 x993001_2) ∧ Aside0 (Below w.heap.size w w'))
       case atStart => exact ⟨(0), (t1007), (t1008), (([] : List (S86))), (.slice none 0 0), (by first | rfl | (simp; done) | (simp [*]; done)), H', ⟨Nat.le_refl _⟩, ⟨by first | exact Kd.R_nil _ _ _ _ _ | exact Kd.N_nil _ _ _ _ _ | exact Kd.V_nil _ _ _ _ _ | exact Kd.Q_nil _ _ _ _ _ | exact Kd.S_nil _ _ _ _ _⟩, ⟨by (with_reducible repeat (first | refine pkN ?_ _ | refine pkD ?_ | refine pkA ?_ _)); exact BK989.out⟩, ⟨by (with_reducible repeat (first | refine pkN ?_ _ | refine pkD ?_ | refine pkA ?_ _)); exact BK999.out⟩, ⟨by repeat (first | (with_reducible first | exact HI992.out | apply IsS185.alloc | apply IsS185.drewN | apply IsS185.drew | apply IsS185.set_0 | apply IsS185.set_1 | refine IsS185.far ?_ NB992_989.out _ | refine IsS185.far ?_ NB992_999.out _) | exact HI992.out)⟩, ⟨by repeat (first | (with_reducible first | exact HB.out | apply pbA | apply pbN | apply pbD | refine pbS ?_ (IsS185.ge HI992.out) | refine pbS ?_ GE989.out | refine pbS ?_ GE999.out) | exact HB.out)⟩⟩
       case round =>
        clear H'
        try clear c1
        try clear c2
        try clear p2
        try clear c3
        try clear c6
        try clear c7
        try clear c8
        try clear c8b0
        try clear c8b1
        try clear c13
        try clear c15
        try clear c16
        try clear c22
        try clear c22b0
        try clear c23
        try clear c23b0
        try clear c24
        try clear c24b0
        try clear c24b1
        try clear c25
        try clear c26
        try clear c28
        try clear c29
        try clear c31
        try clear c32
        try clear c33
        try clear hcz17_0
        try clear hcz17_1
        try clear hcz17_2
        try clear hcz17_3
        try clear hcz17_4
        try clear hcz21_0
        try clear hcz21_1
        try clear hcz21_2
        try clear hcz21_3
        try clear hcz21_4
        try clear hcz27_0
        try clear hcz27_1
        try clear hcz27_2
        try clear hcz27_3
        try clear hcz27_4
        try clear hcz30_0
        try clear hcz30_1
        try clear hcz30_2
        try clear hcz30_3
        try clear hcz30_4
        try clear hcz34_0
        try clear hcz34_1
        try clear hcz34_2
        try clear hcz34_3
        try clear hcz34_4
        try clear hfz17_0
        try clear hfz17_1
        try clear hfz17_2
        try clear hfz17_3
        try clear hfz17_4
        try clear hfz21_0
        try clear hfz21_1
        try clear hfz21_2
        try clear hfz21_3
        try clear hfz21_4
        try clear hfz27_0
        try clear hfz27_1
        try clear hfz27_2
        try clear hfz27_3
        try clear hfz27_4
        try clear hfz30_0
        try clear hfz30_1
        try clear hfz30_2
        try clear hfz30_3
        try clear hfz30_4
        try clear hfz34_0
        try clear hfz34_1
        try clear hfz34_2
        try clear hfz34_3
        try clear hfz34_4
        try clear p2
        obtain ⟨x47_2, x993000_2, x993001_2, x1000003_2, u1000003, rfl, HA, HK2, HO_1000003, BK989, BK999, HI992, HB⟩ := hrel
        cases gk with
        | zero => exact absurd HA.out (by simp [proof_Read.l0])
        | succ k2 =>
         have H := HA.out
         clear HA
         simp only [proof_Read.l0] at H
         by_cases c35 : x47_2 < t1003
         · rw [if_pos c35] at H
           have c35b0 : decide (x47_2 < t1003) = true := decide_eq_true c35
           clear c35
           replace H := Option.bind_eq_some_iff.mp H
           obtain ⟨⟨t1009, t1010, t1011⟩, A360, H⟩ := H
           replace H : ((wire_Reader_Text.f t1010 t1011).bind fun bt1012 => (if x1000003_2.length < 4398046511104 then (proof_Read.l0 k2 t1003 (wrap64 (x47_2 + 1)) bt1012.2.1 bt1012.2.2 t993 t996 (t1000 == 1) (x1000003_2 ++ [(⟨t1009, bt1012.1⟩ : S86)])) else (none))) = some (r1, r2, r3, r4, r5, r6) := H
           have A36 := Aside0.mk A360
           clear A360
           replace H := Option.bind_eq_some_iff.mp H
           obtain ⟨⟨t1012, t1013, t1014⟩, A370, H⟩ := H
           replace H : (if x1000003_2.length < 4398046511104 then (proof_Read.l0 k2 t1003 (wrap64 (x47_2 + 1)) t1013 t1014 t993 t996 (t1000 == 1) (x1000003_2 ++ [(⟨t1009, t1012⟩ : S86)])) else (none)) = some (r1, r2, r3, r4, r5, r6) := H
           have A37 := Aside0.mk A370
           clear A370
           by_cases c38 : x1000003_2.length < 4398046511104
           · rw [if_pos c38] at H
             have LMc38 := Aside0.mk c38
             clear c38
             obtain ⟨y1015, hy1015⟩ : ∃ y_ : List (S86), y_ = (x1000003_2 ++ [(⟨t1009, t1012⟩ : S86)]) := ⟨_, rfl⟩
             replace H : (proof_Read.l0 k2 t1003 (wrap64 (x47_2 + 1)) t1013 t1014 t993 t996 (t1000 == 1) y1015) = some (r1, r2, r3, r4, r5, r6) := by first | (rw [hy1015]; with_reducible exact H) | (have H2_ := (Option.bind_some _ _).symm.trans H; rw [hy1015]; with_reducible exact H2_) | (have H2_ := (Option.bind_some _ _).symm.trans H; with_reducible exact H2_) | with_reducible exact H | (rw [hy1015]; exact H) | exact H
             have Ny1015 := Aside0.mk hy1015
             clear hy1015
             have H' := Aside0.mk H
             clear H
             try go_wp2
             have n0_ := Aside0.mk (Kd.R_drew HO_1000003.out)
             have n1_ := Aside0.mk (pkD BK989.out)
             have n2_ := Aside0.mk (pkD BK999.out)
             have n3_ := Aside0.mk (IsS185.drew HI992.out)
             have n4_ := Aside0.mk (pbD HB.out)
             clear HO_1000003
             clear BK989
             clear BK999
             clear HI992
             clear HB
             have HO_1000003 := n0_
             have BK989 := n1_
             have BK999 := n2_
             have HI992 := n3_
             have HB := n4_
             clear n0_ n1_ n2_ n3_ n4_
             refine start_ (n := 11) (S := fun w' => w'.cell? ⟨gb999, 0, none⟩ = some (.int .i64 t993) ∧ w'.cell? ⟨gb999, 1, none⟩ = some (.int .i64 t996) ∧ w'.cell? ⟨gb999, 2, none⟩ = some (.bool (t1000 == 1)) ∧ w'.cell? ⟨gb999, 3, none⟩ = some (u1000003) ∧ w'.cell? ⟨gb999, 4, none⟩ = some (.slice none 0 0)) (ds := [10]) #[false, false, false, false, false, false, false, false, false, false, false] (by kernel_rfl) rfl rfl ⟨(pkC BK999.out 0).trans rfl, (pkC BK999.out 1).trans rfl, (pkC BK999.out 2).trans rfl, (pkC BK999.out 3).trans rfl, (pkC BK999.out 4).trans rfl⟩ (fun hHeld => ?_); refine with_tabW proof_Read.tab12 proof_Read.bits12 (fun HT_ HW_ => ?_)
             generalize wr.drew = w39 at HO_1000003 BK989 BK999 HI992 HB hHeld ⊢
             refine pure_ (i := 0) (N := some 49) (v := ?_) (a' := ?_) #[true, false, false, false, false, false, false, false, false, false, false] rfl rfl (any_of HT_.out (by kernel_rfl)) (fun _ _ _ h => h) (Or.inl ⟨by rfl, ?_⟩) ?_ ?_
             rotate_left
             · intro w'
               go_simp
               with_reducible rfl
             rotate_left
             · simp only [Act.put, zA, zB, zC, i64_w, i32_w]
               rfl
             refine pure_ (i := 2) (N := some 51) (v := ?_) (a' := ?_) #[true, false, true, false, false, false, false, false, false, false, false] rfl rfl (any_of HT_.out (by kernel_rfl)) (fun _ _ _ h => h) (Or.inl ⟨by rfl, ?_⟩) ?_ ?_
             rotate_left
             · intro w'
               go_simp
               with_reducible rfl
             rotate_left
             · simp only [Act.put, zA, zB, zC, i64_w, i32_w]
               rfl
             refine pure_ (i := 4) (N := some 53) (v := ?_) (a' := ?_) #[true, false, true, false, true, false, false, false, false, false, false] rfl rfl (any_of HT_.out (by kernel_rfl)) (fun _ _ _ h => h) (Or.inl ⟨by rfl, ?_⟩) ?_ ?_
             rotate_left
             · intro w'
               go_simp
               with_reducible rfl
             rotate_left
             · simp only [Act.put, zA, zB, zC, i64_w, i32_w]
               rfl
             refine take_ (i := 1) (N := some 50) (v := ?_) (a' := ?_) #[true, true, true, false, true, false, false, false, false, false, false] rfl rfl (take_ofW HT_.out HW_.out (by kernel_rfl)) (fun _ _ _ h => h) (Or.inl ⟨by rfl, ?_⟩) hHeld ?_ ?_
             rotate_left
             · rintro w' ⟨s0, s1, s2, s3, s4⟩
               go_simp
               with_reducible rfl
             rotate_left
             · simp only [Act.put, zA, zB, zC, i64_w, i32_w]
               rfl
             refine one_ (i := 3) (N := some 52) #[true, true, true, true, true, false, false, false, false, false, false] rfl rfl (one_of HT_.out (by kernel_rfl)) (by decide) (fun K hK => ?_)
             refine goes_ Try.func70 (by kernel_rfl) rfl #[.pointer (some ⟨g992, 0, none⟩)] (by rfl) rfl rfl (by (try simp only [List.map_toArray, List.map_cons, List.map_nil]); first | done | rfl | (simp only [List.length_drop, List.length_take]; rfl)) ?_
             with_reducible refine (wire_Reader_Text.calls g992 x993000_2 x993001_2 t1009 t1010 t1011 w _ ?side1 ?side2 A36.out).mono ?_
             (case side1 => repeat (first | (with_reducible first | exact HI992.out | apply IsS185.alloc | apply IsS185.drewN | apply IsS185.drew | apply IsS185.set_0 | apply IsS185.set_1 | refine IsS185.far ?_ NB992_989.out _ | refine IsS185.far ?_ NB992_999.out _) | exact HI992.out))
             (case side2 => repeat (first | (with_reducible first | exact HB.out | apply pbA | apply pbN | apply pbD | refine pbS ?_ (IsS185.ge HI992.out) | refine pbS ?_ GE989.out | refine pbS ?_ GE999.out) | exact HB.out))
             rintro e w40 ⟨rfl, hi, hb, hk⟩
             refine ⟨_, rfl, ?_⟩
             have n0_ := Aside0.mk (Kd.R_mono (Kd.R_keep (IsS185.apart (show IsS185 w _ g992 x993000_2 x993001_2 from by repeat (first | (with_reducible first | exact HI992.out | apply IsS185.alloc | apply IsS185.drewN | apply IsS185.drew | apply IsS185.set_0 | apply IsS185.set_1 | refine IsS185.far ?_ NB992_989.out _ | refine IsS185.far ?_ NB992_999.out _) | exact HI992.out)) (by (with_reducible repeat (first | apply Kd.R_alloc | apply Kd.R_drewN | apply Kd.R_drew)); exact HO_1000003.out) (by decide)) hk (fun _ h => h.2)) (fun _ h => h.1))
             have n1_ := Aside0.mk (KeepBut.blk hk (g' := gb989) (o := .cells #[.int .i64 0, .int .i64 0, .bool false, .slice none 0 0, .slice none 0 0] 82 (0, 0)) (by (with_reducible repeat (first | refine pkN ?_ _ | refine pkD ?_ | refine pkA ?_ _)); exact BK989.out) NB989_992.out (by simp))
             have n2_ := Aside0.mk (KeepBut.blk hk (g' := gb999) (o := .cells #[.int .i64 t993, .int .i64 t996, .bool (t1000 == 1), u1000003, .slice none 0 0] 82 (0, 0)) (by (with_reducible repeat (first | refine pkN ?_ _ | refine pkD ?_ | refine pkA ?_ _)); exact BK999.out) NB999_992.out (by simp))
             have n3_ := Aside0.mk (hb)
             have n4_ := Aside0.mk (hi)
             clear HO_1000003
             clear BK989
             clear BK999
             clear HB
             clear HI992
             have HO_1000003 := n0_
             have BK989 := n1_
             have BK999 := n2_
             have HB := n3_
             have HI992 := n4_
             clear n0_ n1_ n2_ n3_ n4_
             (try clear hb)
             (try clear hb2)
             (try clear hk)
             (try clear hi)
             refine hK.out _ _ ⟨(pkC BK999.out 0).trans rfl, (pkC BK999.out 1).trans rfl, (pkC BK999.out 2).trans rfl, (pkC BK999.out 3).trans rfl, (pkC BK999.out 4).trans rfl⟩ (fun hHeld => ?_)
             clear hK K
             refine norm_ (a' := ?_) ?_ ?_
             rotate_left
             · show Act.put _ (some 52) _ = _
               simp only [Act.put, zA, zB, zC, i64_w, i32_w]
               rfl
             refine one_ (i := 5) (N := some 54) #[true, true, true, true, true, true, false, false, false, false, false] rfl rfl (one_of HT_.out (by kernel_rfl)) (by decide) (fun K hK => ?_)
             refine goes_ Try.func70 (by kernel_rfl) rfl #[.pointer (some ⟨g992, 0, none⟩)] (by rfl) rfl rfl (by (try simp only [List.map_toArray, List.map_cons, List.map_nil]); first | done | rfl | (simp only [List.length_drop, List.length_take]; rfl)) ?_
             with_reducible refine (wire_Reader_Text.calls g992 t1010 t1011 t1012 t1013 t1014 w _ ?side1 ?side2 A37.out).mono ?_
             (case side1 => repeat (first | (with_reducible first | exact HI992.out | apply IsS185.alloc | apply IsS185.drewN | apply IsS185.drew | apply IsS185.set_0 | apply IsS185.set_1 | refine IsS185.far ?_ NB992_989.out _ | refine IsS185.far ?_ NB992_999.out _) | exact HI992.out))
             (case side2 => repeat (first | (with_reducible first | exact HB.out | apply pbA | apply pbN | apply pbD | refine pbS ?_ (IsS185.ge HI992.out) | refine pbS ?_ GE989.out | refine pbS ?_ GE999.out) | exact HB.out))
             rintro e w41 ⟨rfl, hi, hb, hk⟩
             refine ⟨_, rfl, ?_⟩
             have n0_ := Aside0.mk (Kd.R_mono (Kd.R_keep (IsS185.apart (show IsS185 w _ g992 t1010 t1011 from by repeat (first | (with_reducible first | exact HI992.out | apply IsS185.alloc | apply IsS185.drewN | apply IsS185.drew | apply IsS185.set_0 | apply IsS185.set_1 | refine IsS185.far ?_ NB992_989.out _ | refine IsS185.far ?_ NB992_999.out _) | exact HI992.out)) (by (with_reducible repeat (first | apply Kd.R_alloc | apply Kd.R_drewN | apply Kd.R_drew)); exact HO_1000003.out) (by decide)) hk (fun _ h => h.2)) (fun _ h => h.1))
             have n1_ := Aside0.mk (KeepBut.blk hk (g' := gb989) (o := .cells #[.int .i64 0, .int .i64 0, .bool false, .slice none 0 0, .slice none 0 0] 82 (0, 0)) (by (with_reducible repeat (first | refine pkN ?_ _ | refine pkD ?_ | refine pkA ?_ _)); exact BK989.out) NB989_992.out (by simp))
             have n2_ := Aside0.mk (KeepBut.blk hk (g' := gb999) (o := .cells #[.int .i64 t993, .int .i64 t996, .bool (t1000 == 1), u1000003, .slice none 0 0] 82 (0, 0)) (by (with_reducible repeat (first | refine pkN ?_ _ | refine pkD ?_ | refine pkA ?_ _)); exact BK999.out) NB999_992.out (by simp))
             have n3_ := Aside0.mk (hb)
             have n4_ := Aside0.mk (hi)
             clear HO_1000003
             clear BK989
             clear BK999
             clear HB
             clear HI992
             have HO_1000003 := n0_
             have BK989 := n1_
             have BK999 := n2_
             have HB := n3_
             have HI992 := n4_
             clear n0_ n1_ n2_ n3_ n4_
             (try clear hb)
             (try clear hb2)
             (try clear hk)
             (try clear hi)
             refine hK.out _ _ ⟨(pkC BK999.out 0).trans rfl, (pkC BK999.out 1).trans rfl, (pkC BK999.out 2).trans rfl, (pkC BK999.out 3).trans rfl, (pkC BK999.out 4).trans rfl⟩ (fun hHeld => ?_)
             clear hK K
             refine norm_ (a' := ?_) ?_ ?_
             rotate_left
             · show Act.put _ (some 54) _ = _
               simp only [Act.put, zA, zB, zC, i64_w, i32_w]
               rfl
             refine pure_ (i := 6) (N := some 55) (v := ?_) (a' := ?_) #[true, true, true, true, true, true, true, false, false, false, false] rfl rfl (any_of HT_.out (by kernel_rfl)) (fun _ _ _ h => h) (Or.inl ⟨by rfl, ?_⟩) ?_ ?_
             rotate_left
             · intro w'
               go_simp
               with_reducible rfl
             rotate_left
             · simp only [Act.put, zA, zB, zC, i64_w, i32_w]
               rfl
             refine one_ (i := 7) (N := some 56) #[true, true, true, true, true, true, true, true, false, false, false] rfl rfl (one_of HT_.out (by kernel_rfl)) (by decide) (fun K hK => ?_)
             refine value_ (w1 := ?_) (v := ?_) (by rfl) rfl ?_ ?_
             rotate_left 2
             · go_simp
               constructor
               · rfl
               · rfl
             refine hK.out _ _ ⟨(pkC (pkA BK999.out _) 0).trans rfl, (pkC (pkA BK999.out _) 1).trans rfl, (pkC (pkA BK999.out _) 2).trans rfl, (pkC (pkA BK999.out _) 3).trans rfl, (pkC (pkA BK999.out _) 4).trans rfl⟩ (fun hHeld => ?_)
             clear hK K
             refine norm_ (a' := ?_) ?_ ?_
             rotate_left
             · show Act.put _ (some 56) _ = _
               simp only [Act.put, zA, zB, zC, i64_w, i32_w]
               rfl
             refine one_ (i := 8) (N := some 57) #[true, true, true, true, true, true, true, true, true, false, false] rfl rfl (one_of HT_.out (by kernel_rfl)) (by decide) (fun K hK => ?_)
             refine Kd.R_append_step k86 (w0 := w) w.heap.size (by rfl) (.tmp 50) (.tmp 56) 39 86 (.agg #[(.string ⟨#[]⟩), (.string ⟨#[]⟩)]) 32 rfl Try.underlying39 info86 rfl (by decide) (by omega) u1000003 x1000003_2 (⟨t1009, t1012⟩ : S86) [.string t1009, .string t1012] (fun _ => True) (fun _ => False) rfl rfl ?aP (fun _ hk => hk.elim) ?aF ?aO ?aB ?aS ?aL ?_
             (case aP => exact k86_mkM _ _ _ (⟨t1009, t1012⟩ : S86))
             (case aB => exact (by repeat (first | (with_reducible first | exact HB.out | apply pbA | apply pbN | apply pbD | refine pbS ?_ (IsS185.ge HI992.out) | refine pbS ?_ GE989.out | refine pbS ?_ GE999.out) | exact HB.out)))
             (case aF => exact (fun _ _ => trivial))
             (case aO => exact (by (with_reducible repeat (first | apply Kd.R_alloc | apply Kd.R_drewN | apply Kd.R_drew)); exact HO_1000003.out))
             (case aS => exact (below_size (by repeat (first | (with_reducible first | exact HB.out | apply pbA | apply pbN | apply pbD | refine pbS ?_ (IsS185.ge HI992.out) | refine pbS ?_ GE989.out | refine pbS ?_ GE999.out) | exact HB.out))))
             (case aL => have := LMc38.out; omega)
             intro v1016 w42 ho hb hg hat
             rw [← Ny1015.out] at ho
             have n0_ := Aside0.mk (blk_grown (g := gb989) (o := .cells #[.int .i64 0, .int .i64 0, .bool false, .slice none 0 0, .slice none 0 0] 82 (0, 0)) (by (with_reducible repeat (first | refine pkN ?_ _ | refine pkD ?_ | refine pkA ?_ _)); exact BK989.out) hg (Kd.R_ne HO_1000003.out BK989.out (by decide)))
             have n1_ := Aside0.mk (blk_grown (g := gb999) (o := .cells #[.int .i64 t993, .int .i64 t996, .bool (t1000 == 1), u1000003, .slice none 0 0] 82 (0, 0)) (by (with_reducible repeat (first | refine pkN ?_ _ | refine pkD ?_ | refine pkA ?_ _)); exact BK999.out) hg (Kd.R_ne HO_1000003.out BK999.out (by decide)))
             have n2_ := Aside0.mk (IsS185.grown (by repeat (first | (with_reducible first | exact HI992.out | apply IsS185.alloc | apply IsS185.drewN | apply IsS185.drew | apply IsS185.set_0 | apply IsS185.set_1 | refine IsS185.far ?_ NB992_989.out _ | refine IsS185.far ?_ NB992_999.out _) | exact HI992.out)) hg (IsS185.own_ne HI992.out HO_1000003.out (by decide)))
             have n3_ := Aside0.mk (hb)
             have n4_ := Aside0.mk (ho)
             clear BK989
             clear BK999
             clear HI992
             clear HB
             clear HO_1000003
             have BK989 := n0_
             have BK999 := n1_
             have HI992 := n2_
             have HB := n3_
             have HO1017 := n4_
             clear n0_ n1_ n2_ n3_ n4_
             clear ho hb hg hat
             obtain ⟨Ao43, co43, eo43⟩ := Kd.R_slice HO1017.out
             (first | subst eo43 | (injection eo43 with f1_ f2_ f3_; have f4_ := f1_.symm; have f5_ := f3_.symm; clear f1_ f2_ f3_; subst f4_; subst f5_))
             refine hK.out _ _ ⟨(pkC BK999.out 0).trans rfl, (pkC BK999.out 1).trans rfl, (pkC BK999.out 2).trans rfl, (pkC BK999.out 3).trans rfl, (pkC BK999.out 4).trans rfl⟩ (fun hHeld => ?_)
             clear hK K
             refine norm_ (a' := ?_) ?_ ?_
             rotate_left
             · show Act.put _ (some 57) _ = _
               simp only [Act.put, zA, zB, zC, i64_w, i32_w]
               rfl
             refine pure_ (i := 9) (N := some 58) (v := ?_) (a' := ?_) #[true, true, true, true, true, true, true, true, true, true, false] rfl rfl (any_of HT_.out (by kernel_rfl)) (fun _ _ _ h => h) (Or.inl ⟨by rfl, ?_⟩) ?_ ?_
             rotate_left
             · intro w'
               go_simp
               with_reducible rfl
             rotate_left
             · simp only [Act.put, zA, zB, zC, i64_w, i32_w]
               rfl
             refine last_ (i := 10) (N := none) #[true, true, true, true, true, true, true, true, true, true, true] rfl rfl (one_of HT_.out (by kernel_rfl)) (by decide) (fun K hK => ?_)
             have hs44 : w42.cell? ⟨gb999, 3, none⟩ = some (u1000003) := (pkC BK999.out 3).trans rfl
             have hfs44 := pkF BK999.out 3
             have hns44_0 := NB989_999.out
             have hms44_0 := NB999_989.out
             refine skip_ (w1 := ?_) (by rfl) rfl ?_ ?_
             rotate_left
             · go_simp
               rfl
             refine hK.out _ _ ?_
             clear hK K
             refine done_ (done_of HT_.out (by kernel_rfl)) ?_
             try go_wp2
             go_roundg k2
             case measure => have := HJ8.out; have := HK2.out; omega
             case rel => exact ⟨(wrap64 (x47_2 + 1)), (t1013), (t1014), (y1015), (.slice Ao43 y1015.length co43), (by first | rfl | (simp; done) | (simp [*]; done)), H', ⟨by have := HJ8.out; have := HK2.out; omega⟩, ⟨by (with_reducible repeat (first | apply Kd.R_alloc | apply Kd.R_drewN | apply Kd.R_drew)); exact Kd.R_mono (Kd.R_far (p := ⟨gb999, 3, none⟩) (Kd.R_types HO1017.out BK999.out (by decide)) (fun _ hk => hk.2) (.slice Ao43 y1015.length co43)) (fun _ hk => trivial)⟩, ⟨by (with_reducible repeat (first | refine pkN ?_ _ | refine pkD ?_ | refine pkA ?_ _)); refine blk_far ?_ NB989_999.out _; (with_reducible repeat (first | refine pkN ?_ _ | refine pkD ?_ | refine pkA ?_ _)); exact BK989.out⟩, ⟨by (with_reducible repeat (first | refine pkN ?_ _ | refine pkD ?_ | refine pkA ?_ _)); refine blk_put (cs := #[.int .i64 t993, .int .i64 t996, .bool (t1000 == 1), u1000003, .slice none 0 0]) ?_ 3 _ rfl; (with_reducible repeat (first | refine pkN ?_ _ | refine pkD ?_ | refine pkA ?_ _)); exact BK999.out⟩, ⟨by repeat (first | (with_reducible first | exact HI992.out | apply IsS185.alloc | apply IsS185.drewN | apply IsS185.drew | apply IsS185.set_0 | apply IsS185.set_1 | refine IsS185.far ?_ NB992_989.out _ | refine IsS185.far ?_ NB992_999.out _) | exact HI992.out)⟩, ⟨by repeat (first | (with_reducible first | exact HB.out | apply pbA | apply pbN | apply pbD | refine pbS ?_ (IsS185.ge HI992.out) | refine pbS ?_ GE989.out | refine pbS ?_ GE999.out) | exact HB.out)⟩⟩
           · rw [if_neg c38] at H
             exact absurd H (by simp)
         · rw [if_neg c35] at H
           have c35b0 : decide (x47_2 < t1003) = false := decide_eq_false c35
           clear c35
           replace H := Option.bind_eq_some_iff.mp H
           obtain ⟨⟨t1018, t1019, t1020⟩, A450, H⟩ := H
           replace H : (if t1018 > 2 then (some (0, 0, false, ([] : List (S86)), ([] : List (List ByteArray)), 6)) else (proof_Read.l1 k2 t1018 0 t1019 t1020 t993 t996 (t1000 == 1) x1000003_2 ([] : List (List ByteArray)))) = some (r1, r2, r3, r4, r5, r6) := H
           have A45 := Aside0.mk A450
           clear A450
           by_cases c46 : t1018 > 2
           · rw [if_pos c46] at H
             have c46b0 : decide (2 < t1018) = true := decide_eq_true c46
             clear c46
             simp only [Option.some.injEq, Prod.mk.injEq] at H
             obtain ⟨rfl, rfl, rfl, rfl, rfl, rfl⟩ := H
             go_wp2_with (first | ((with_reducible refine gate_callee (f := 71) rfl ?_); refine goesL_ (some 61) rfl rfl Try.func71 (by kernel_rfl) rfl #[.pointer (some ⟨g992, 0, none⟩)] rfl (by (try simp only [List.map_toArray, List.map_cons, List.map_nil]); first | done | rfl | (simp only [List.length_drop, List.length_take]; rfl)) ?_; (with_reducible refine (wire_Reader_Num.calls g992 x993000_2 x993001_2 t1018 t1019 t1020 w _ ?side1 ?side2 A45.out).mono ?_); (case side1 => repeat (first | (with_reducible first | exact HI992.out | apply IsS185.alloc | apply IsS185.drewN | apply IsS185.drew | apply IsS185.set_0 | apply IsS185.set_1 | refine IsS185.far ?_ NB992_989.out _ | refine IsS185.far ?_ NB992_999.out _) | exact HI992.out)); (case side2 => repeat (first | (with_reducible first | exact HB.out | apply pbA | apply pbN | apply pbD | refine pbS ?_ (IsS185.ge HI992.out) | refine pbS ?_ GE989.out | refine pbS ?_ GE999.out) | exact HB.out)); rintro e w47 ⟨rfl, hi, hb, hk⟩; refine ⟨_, rfl, ?_⟩; have n0_ := Aside0.mk (Kd.R_mono (Kd.R_keep (IsS185.apart (show IsS185 w _ g992 x993000_2 x993001_2 from by repeat (first | (with_reducible first | exact HI992.out | apply IsS185.alloc | apply IsS185.drewN | apply IsS185.drew | apply IsS185.set_0 | apply IsS185.set_1 | refine IsS185.far ?_ NB992_989.out _ | refine IsS185.far ?_ NB992_999.out _) | exact HI992.out)) (by (with_reducible repeat (first | apply Kd.R_alloc | apply Kd.R_drewN | apply Kd.R_drew)); exact HO_1000003.out) (by decide)) hk (fun _ h => h.2)) (fun _ h => h.1)); have n1_ := Aside0.mk (KeepBut.blk hk (g' := gb989) (o := .cells #[.int .i64 0, .int .i64 0, .bool false, .slice none 0 0, .slice none 0 0] 82 (0, 0)) (by (with_reducible repeat (first | refine pkN ?_ _ | refine pkD ?_ | refine pkA ?_ _)); exact BK989.out) NB989_992.out (by simp)); have n2_ := Aside0.mk (KeepBut.blk hk (g' := gb999) (o := .cells #[.int .i64 t993, .int .i64 t996, .bool (t1000 == 1), u1000003, .slice none 0 0] 82 (0, 0)) (by (with_reducible repeat (first | refine pkN ?_ _ | refine pkD ?_ | refine pkA ?_ _)); exact BK999.out) NB999_992.out (by simp)); have n3_ := Aside0.mk (hb); have n4_ := Aside0.mk (hi); clear HO_1000003; clear BK989; clear BK999; clear HB; clear HI992; have HO_1000003 := n0_; have BK989 := n1_; have BK999 := n2_; have HB := n3_; have HI992 := n4_; clear n0_ n1_ n2_ n3_ n4_; (try clear hb); (try clear hb2); (try clear hk); (try clear hi); have hnb48 := NB989_999.out; have hnc48 := NB999_989.out; have hnb49 := NB989_992.out; have hnc49 := NB992_989.out; have hcz50_0 : w47.cell? ⟨gb989, 0, none⟩ = some (.int .i64 0) := (pkC BK989.out 0).trans rfl; have hcz50_1 : w47.cell? ⟨gb989, 1, none⟩ = some (.int .i64 0) := (pkC BK989.out 1).trans rfl; have hcz50_2 : w47.cell? ⟨gb989, 2, none⟩ = some (.bool false) := (pkC BK989.out 2).trans rfl; have hcz50_3 : w47.cell? ⟨gb989, 3, none⟩ = some (.slice none 0 0) := (pkC BK989.out 3).trans rfl; have hcz50_4 : w47.cell? ⟨gb989, 4, none⟩ = some (.slice none 0 0) := (pkC BK989.out 4).trans rfl; have hfz50_0 := pkF BK989.out 0; have hfz50_1 := pkF BK989.out 1; have hfz50_2 := pkF BK989.out 2; have hfz50_3 := pkF BK989.out 3; have hfz50_4 := pkF BK989.out 4))
             refine bodyPost_ret (results_ct rfl _ _ gb989 82 #[.int .i64 0, .int .i64 0, .bool false, .slice none 0 0, .slice none 0 0] (0, 0) _ rfl (by (with_reducible repeat (first | refine pkN ?_ _ | refine pkD ?_ | refine pkA ?_ _)); refine blk_put (cs := #[.int .i64 0, .int .i64 0, .bool false, .slice none 0 0, .slice none 0 0]) ?_ 4 _ rfl; (with_reducible repeat (first | refine pkN ?_ _ | refine pkD ?_ | refine pkA ?_ _)); refine blk_put (cs := #[.int .i64 0, .int .i64 0, .bool false, .slice none 0 0, .slice none 0 0]) ?_ 3 _ rfl; (with_reducible repeat (first | refine pkN ?_ _ | refine pkD ?_ | refine pkA ?_ _)); refine blk_put (cs := #[.int .i64 0, .int .i64 0, .bool false, .slice none 0 0, .slice none 0 0]) ?_ 2 _ (by first | rfl | (have hb_ : (t1000 == 1) = true := (by first | assumption | (simp [*]; done)); rw [hb_]; rfl) | (have hb_ : (t1000 == 1) = false := (by first | assumption | (simp [*]; done)); rw [hb_]; rfl)); (with_reducible repeat (first | refine pkN ?_ _ | refine pkD ?_ | refine pkA ?_ _)); refine blk_put (cs := #[.int .i64 0, .int .i64 0, .bool false, .slice none 0 0, .slice none 0 0]) ?_ 1 _ rfl; (with_reducible repeat (first | refine pkN ?_ _ | refine pkD ?_ | refine pkA ?_ _)); refine blk_put (cs := #[.int .i64 0, .int .i64 0, .bool false, .slice none 0 0, .slice none 0 0]) ?_ 0 _ rfl; (with_reducible repeat (first | refine pkN ?_ _ | refine pkD ?_ | refine pkA ?_ _)); exact BK989.out) Try.underlying82 rfl (by kernel_rfl)) rfl ?_
             exact ⟨_, _, by first | rfl | (simp [errW_none, errW_some] <;> rfl) | (simp [*, errW_none, errW_some] <;> rfl), by first | exact Kd.R_nil _ _ _ _ _ | exact Kd.N_nil _ _ _ _ _ | exact Kd.V_nil _ _ _ _ _ | exact Kd.Q_nil _ _ _ _ _ | exact Kd.S_nil _ _ _ _ _, by first | exact Kd.S_nil _ _ _ _ _ | exact Kd.N_nil _ _ _ _ _ | exact Kd.V_nil _ _ _ _ _ | exact Kd.Q_nil _ _ _ _ _ | exact Kd.R_nil _ _ _ _ _, by repeat (first | (with_reducible first | exact HB.out | apply pbA | apply pbN | apply pbD | refine pbS ?_ (IsS185.ge HI992.out) | refine pbS ?_ GE989.out | refine pbS ?_ GE999.out) | exact HB.out)⟩
           · rw [if_neg c46] at H
             have c46b0 : decide (2 < t1018) = false := decide_eq_false c46
             clear c46
             have H' := Aside0.mk H
             clear H
             go_wp2_with (first | ((with_reducible refine gate_callee (f := 71) rfl ?_); refine goesL_ (some 61) rfl rfl Try.func71 (by kernel_rfl) rfl #[.pointer (some ⟨g992, 0, none⟩)] rfl (by (try simp only [List.map_toArray, List.map_cons, List.map_nil]); first | done | rfl | (simp only [List.length_drop, List.length_take]; rfl)) ?_; (with_reducible refine (wire_Reader_Num.calls g992 x993000_2 x993001_2 t1018 t1019 t1020 w _ ?side1 ?side2 A45.out).mono ?_); (case side1 => repeat (first | (with_reducible first | exact HI992.out | apply IsS185.alloc | apply IsS185.drewN | apply IsS185.drew | apply IsS185.set_0 | apply IsS185.set_1 | refine IsS185.far ?_ NB992_989.out _ | refine IsS185.far ?_ NB992_999.out _) | exact HI992.out)); (case side2 => repeat (first | (with_reducible first | exact HB.out | apply pbA | apply pbN | apply pbD | refine pbS ?_ (IsS185.ge HI992.out) | refine pbS ?_ GE989.out | refine pbS ?_ GE999.out) | exact HB.out)); rintro e w51 ⟨rfl, hi, hb, hk⟩; refine ⟨_, rfl, ?_⟩; have n0_ := Aside0.mk (Kd.R_mono (Kd.R_keep (IsS185.apart (show IsS185 w _ g992 x993000_2 x993001_2 from by repeat (first | (with_reducible first | exact HI992.out | apply IsS185.alloc | apply IsS185.drewN | apply IsS185.drew | apply IsS185.set_0 | apply IsS185.set_1 | refine IsS185.far ?_ NB992_989.out _ | refine IsS185.far ?_ NB992_999.out _) | exact HI992.out)) (by (with_reducible repeat (first | apply Kd.R_alloc | apply Kd.R_drewN | apply Kd.R_drew)); exact HO_1000003.out) (by decide)) hk (fun _ h => h.2)) (fun _ h => h.1)); have n1_ := Aside0.mk (KeepBut.blk hk (g' := gb989) (o := .cells #[.int .i64 0, .int .i64 0, .bool false, .slice none 0 0, .slice none 0 0] 82 (0, 0)) (by (with_reducible repeat (first | refine pkN ?_ _ | refine pkD ?_ | refine pkA ?_ _)); exact BK989.out) NB989_992.out (by simp)); have n2_ := Aside0.mk (KeepBut.blk hk (g' := gb999) (o := .cells #[.int .i64 t993, .int .i64 t996, .bool (t1000 == 1), u1000003, .slice none 0 0] 82 (0, 0)) (by (with_reducible repeat (first | refine pkN ?_ _ | refine pkD ?_ | refine pkA ?_ _)); exact BK999.out) NB999_992.out (by simp)); have n3_ := Aside0.mk (hb); have n4_ := Aside0.mk (hi); clear HO_1000003; clear BK989; clear BK999; clear HB; clear HI992; have HO_1000003 := n0_; have BK989 := n1_; have BK999 := n2_; have HB := n3_; have HI992 := n4_; clear n0_ n1_ n2_ n3_ n4_; (try clear hb); (try clear hb2); (try clear hk); (try clear hi)))
             go_loopg [66] k2 (fun kq v66 w' => ∃ (x66_3 : Int) (x993000_3 : ByteArray) (x993001_3 : Int) (x1000004_3 : List (List ByteArray)) (u1000004 : Value), v66 = .int .i64 x66_3 ∧ Aside0 (proof_Read.l1 kq t1018 x66_3 x993000_3 x993001_3 t993 t996 (t1000 == 1) x1000003_2 x1000004_3 = some (r1, r2, r3, r4, r5, r6)) ∧ Aside0 (kq ≤ k2) ∧ Aside0 (Kd.R k86 86 w' w.heap.size (fun _ => True) u1000003 x1000003_2) ∧ Aside0 (Kd.S (Kd.slice 9 Kd.string) 63 w' w.heap.size (fun _ => True) u1000004 x1000004_3) ∧ Aside0 (w'.heap[gb989]? = some (.cells #[.int .i64 0, .int .i64 0, .bool false, (.slice none 0 0), (.slice none 0 0)] 82 (0, 0))) ∧ Aside0 (w'.heap[gb999]? = some (.cells #[.int .i64 t993, .int .i64 t996, .bool (t1000 == 1), u1000003, u1000004] 82 (0, 0))) ∧ Aside0 (IsS185 w w' g992 x993000_3 x993001_3) ∧ Aside0 (Below w.heap.size w w'))
             case atStart => exact ⟨(0), (t1019), (t1020), (([] : List (List ByteArray))), (.slice none 0 0), (by first | rfl | (simp; done) | (simp [*]; done)), H', ⟨Nat.le_refl _⟩, ⟨by (with_reducible repeat (first | apply Kd.R_alloc | apply Kd.R_drewN | apply Kd.R_drew)); exact HO_1000003.out⟩, ⟨by first | exact Kd.S_nil _ _ _ _ _ | exact Kd.N_nil _ _ _ _ _ | exact Kd.V_nil _ _ _ _ _ | exact Kd.Q_nil _ _ _ _ _ | exact Kd.R_nil _ _ _ _ _⟩, ⟨by (with_reducible repeat (first | refine pkN ?_ _ | refine pkD ?_ | refine pkA ?_ _)); exact BK989.out⟩, ⟨by (with_reducible repeat (first | refine pkN ?_ _ | refine pkD ?_ | refine pkA ?_ _)); exact BK999.out⟩, ⟨by repeat (first | (with_reducible first | exact HI992.out | apply IsS185.alloc | apply IsS185.drewN | apply IsS185.drew | apply IsS185.set_0 | apply IsS185.set_1 | refine IsS185.far ?_ NB992_989.out _ | refine IsS185.far ?_ NB992_999.out _) | exact HI992.out)⟩, ⟨by repeat (first | (with_reducible first | exact HB.out | apply pbA | apply pbN | apply pbD | refine pbS ?_ (IsS185.ge HI992.out) | refine pbS ?_ GE989.out | refine pbS ?_ GE999.out) | exact HB.out)⟩⟩
             case round =>
              clear H'
              try clear c1
              try clear c2
              try clear p2
              try clear c3
              try clear c4
              try clear c6
              try clear p6
              try clear c7
              try clear c8
              try clear c8b0
              try clear c8b1
              try clear c13
              try clear c15
              try clear c16
              try clear c22
              try clear c22b0
              try clear c23
              try clear c23b0
              try clear c24
              try clear c24b0
              try clear c24b1
              try clear c25
              try clear c26
              try clear c28
              try clear c29
              try clear c31
              try clear c32
              try clear c33
              try clear c35
              try clear c35b0
              try clear c38
              try clear c46
              try clear c46b0
              try clear c48
              try clear c49
              try clear hcz17_0
              try clear hcz17_1
              try clear hcz17_2
              try clear hcz17_3
              try clear hcz17_4
              try clear hcz21_0
              try clear hcz21_1
              try clear hcz21_2
              try clear hcz21_3
              try clear hcz21_4
              try clear hcz27_0
              try clear hcz27_1
              try clear hcz27_2
              try clear hcz27_3
              try clear hcz27_4
              try clear hcz30_0
              try clear hcz30_1
              try clear hcz30_2
              try clear hcz30_3
              try clear hcz30_4
              try clear hcz34_0
              try clear hcz34_1
              try clear hcz34_2
              try clear hcz34_3
              try clear hcz34_4
              try clear hcz50_0
              try clear hcz50_1
              try clear hcz50_2
              try clear hcz50_3
              try clear hcz50_4
              try clear hfz17_0
              try clear hfz17_1
              try clear hfz17_2
              try clear hfz17_3
              try clear hfz17_4
              try clear hfz21_0
              try clear hfz21_1
              try clear hfz21_2
              try clear hfz21_3
              try clear hfz21_4
              try clear hfz27_0
              try clear hfz27_1
              try clear hfz27_2
              try clear hfz27_3
              try clear hfz27_4
              try clear hfz30_0
              try clear hfz30_1
              try clear hfz30_2
              try clear hfz30_3
              try clear hfz30_4
              try clear hfz34_0
              try clear hfz34_1
              try clear hfz34_2
              try clear hfz34_3
              try clear hfz34_4
              try clear hfz50_0
              try clear hfz50_1
              try clear hfz50_2
              try clear hfz50_3
              try clear hfz50_4
              try clear p2
              obtain ⟨x66_3, x993000_3, x993001_3, x1000004_3, u1000004, rfl, HA, HK3, HO_1000003, HO_1000004, BK989, BK999, HI992, HB⟩ := hrel
              cases gk with
              | zero => exact absurd HA.out (by simp [proof_Read.l1])
              | succ k3 =>
               have H := HA.out
               clear HA
               simp only [proof_Read.l1] at H
               by_cases c52 : x66_3 < t1018
               · rw [if_pos c52] at H
                 have c52b0 : decide (x66_3 < t1018) = true := decide_eq_true c52
                 clear c52
                 replace H := Option.bind_eq_some_iff.mp H
                 obtain ⟨⟨t1021, t1024, t1025⟩, A530, H⟩ := H
                 replace H : (if x1000004_3.length < 5864062014805 then (proof_Read.l1 k3 t1018 (wrap64 (x66_3 + 1)) t1024 t1025 t993 t996 (t1000 == 1) x1000003_2 (x1000004_3 ++ [t1021])) else (none)) = some (r1, r2, r3, r4, r5, r6) := H
                 have A53 := Aside0.mk A530
                 clear A530
                 by_cases c54 : x1000004_3.length < 5864062014805
                 · rw [if_pos c54] at H
                   have LMc54 := Aside0.mk c54
                   clear c54
                   obtain ⟨y1026, hy1026⟩ : ∃ y_ : List (List ByteArray), y_ = (x1000004_3 ++ [t1021]) := ⟨_, rfl⟩
                   replace H : (proof_Read.l1 k3 t1018 (wrap64 (x66_3 + 1)) t1024 t1025 t993 t996 (t1000 == 1) x1000003_2 y1026) = some (r1, r2, r3, r4, r5, r6) := by first | (rw [hy1026]; with_reducible exact H) | (have H2_ := (Option.bind_some _ _).symm.trans H; rw [hy1026]; with_reducible exact H2_) | (have H2_ := (Option.bind_some _ _).symm.trans H; with_reducible exact H2_) | with_reducible exact H | (rw [hy1026]; exact H) | exact H
                   have Ny1026 := Aside0.mk hy1026
                   clear hy1026
                   have H' := Aside0.mk H
                   clear H
                   try go_wp2
                   have n0_ := Aside0.mk (Kd.R_drew HO_1000003.out)
                   have n1_ := Aside0.mk (Kd.S_drew HO_1000004.out)
                   have n2_ := Aside0.mk (pkD BK989.out)
                   have n3_ := Aside0.mk (pkD BK999.out)
                   have n4_ := Aside0.mk (IsS185.drew HI992.out)
                   have n5_ := Aside0.mk (pbD HB.out)
                   clear HO_1000003
                   clear HO_1000004
                   clear BK989
                   clear BK999
                   clear HI992
                   clear HB
                   have HO_1000003 := n0_
                   have HO_1000004 := n1_
                   have BK989 := n2_
                   have BK999 := n3_
                   have HI992 := n4_
                   have HB := n5_
                   clear n0_ n1_ n2_ n3_ n4_ n5_
                   refine start_ (n := 8) (S := fun w' => w'.cell? ⟨gb999, 0, none⟩ = some (.int .i64 t993) ∧ w'.cell? ⟨gb999, 1, none⟩ = some (.int .i64 t996) ∧ w'.cell? ⟨gb999, 2, none⟩ = some (.bool (t1000 == 1)) ∧ w'.cell? ⟨gb999, 3, none⟩ = some (u1000003) ∧ w'.cell? ⟨gb999, 4, none⟩ = some (u1000004)) (ds := [7]) #[false, false, false, false, false, false, false, false] (by kernel_rfl) rfl rfl ⟨(pkC BK999.out 0).trans rfl, (pkC BK999.out 1).trans rfl, (pkC BK999.out 2).trans rfl, (pkC BK999.out 3).trans rfl, (pkC BK999.out 4).trans rfl⟩ (fun hHeld => ?_); refine with_tabW proof_Read.tab19 proof_Read.bits19 (fun HT_ HW_ => ?_)
                   generalize wr.drew = w55 at HO_1000003 HO_1000004 BK989 BK999 HI992 HB hHeld ⊢
                   refine pure_ (i := 0) (N := some 68) (v := ?_) (a' := ?_) #[true, false, false, false, false, false, false, false] rfl rfl (any_of HT_.out (by kernel_rfl)) (fun _ _ _ h => h) (Or.inl ⟨by rfl, ?_⟩) ?_ ?_
                   rotate_left
                   · intro w'
                     go_simp
                     with_reducible rfl
                   rotate_left
                   · simp only [Act.put, zA, zB, zC, i64_w, i32_w]
                     rfl
                   refine pure_ (i := 2) (N := some 70) (v := ?_) (a' := ?_) #[true, false, true, false, false, false, false, false] rfl rfl (any_of HT_.out (by kernel_rfl)) (fun _ _ _ h => h) (Or.inl ⟨by rfl, ?_⟩) ?_ ?_
                   rotate_left
                   · intro w'
                     go_simp
                     with_reducible rfl
                   rotate_left
                   · simp only [Act.put, zA, zB, zC, i64_w, i32_w]
                     rfl
                   refine take_ (i := 1) (N := some 69) (v := ?_) (a' := ?_) #[true, true, true, false, false, false, false, false] rfl rfl (take_ofW HT_.out HW_.out (by kernel_rfl)) (fun _ _ _ h => h) (Or.inl ⟨by rfl, ?_⟩) hHeld ?_ ?_
                   rotate_left
                   · rintro w' ⟨s0, s1, s2, s3, s4⟩
                     go_simp
                     with_reducible rfl
                   rotate_left
                   · simp only [Act.put, zA, zB, zC, i64_w, i32_w]
                     rfl
                   refine one_ (i := 3) (N := some 71) #[true, true, true, true, false, false, false, false] rfl rfl (one_of HT_.out (by kernel_rfl)) (by decide) (fun K hK => ?_)
                   refine goes_ Try.func110 (by kernel_rfl) rfl #[.pointer (some ⟨g992, 0, none⟩)] (by rfl) rfl rfl (by (try simp only [List.map_toArray, List.map_cons, List.map_nil]); first | done | rfl | (simp only [List.length_drop, List.length_take]; rfl)) ?_
                   with_reducible refine (wire_Reader_List.calls k3 g992 x993000_3 x993001_3 t1021 t1024 t1025 w _ ?side1 ?side2 A53.out).mono ?_
                   (case side1 => repeat (first | (with_reducible first | exact HI992.out | apply IsS185.alloc | apply IsS185.drewN | apply IsS185.drew | apply IsS185.set_0 | apply IsS185.set_1 | refine IsS185.far ?_ NB992_989.out _ | refine IsS185.far ?_ NB992_999.out _) | exact HI992.out))
                   (case side2 => repeat (first | (with_reducible first | exact HB.out | apply pbA | apply pbN | apply pbD | refine pbS ?_ (IsS185.ge HI992.out) | refine pbS ?_ GE989.out | refine pbS ?_ GE999.out) | exact HB.out))
                   rintro e w56 ⟨v1022, rfl, ho0, hi, hb, hk⟩
                   refine ⟨_, rfl, ?_⟩
                   have n0_ := Aside0.mk (Kd.R_mono (Kd.R_keep (IsS185.apart (show IsS185 w _ g992 x993000_3 x993001_3 from by repeat (first | (with_reducible first | exact HI992.out | apply IsS185.alloc | apply IsS185.drewN | apply IsS185.drew | apply IsS185.set_0 | apply IsS185.set_1 | refine IsS185.far ?_ NB992_989.out _ | refine IsS185.far ?_ NB992_999.out _) | exact HI992.out)) (by (with_reducible repeat (first | apply Kd.R_alloc | apply Kd.R_drewN | apply Kd.R_drew)); exact HO_1000003.out) (by decide)) hk (fun _ h => h.2)) (fun _ h => h.1))
                   have n1_ := Aside0.mk (Kd.S_mono (Kd.S_told (Kd.S_oldK (IsS185.apartS (show IsS185 w _ g992 x993000_3 x993001_3 from by repeat (first | (with_reducible first | exact HI992.out | apply IsS185.alloc | apply IsS185.drewN | apply IsS185.drew | apply IsS185.set_0 | apply IsS185.set_1 | refine IsS185.far ?_ NB992_989.out _ | refine IsS185.far ?_ NB992_999.out _) | exact HI992.out)) (by (with_reducible repeat (first | apply Kd.S_alloc | apply Kd.S_drewN | apply Kd.S_drew)); exact HO_1000004.out) (by decide)) hk) (Kd.R_base ho0)) (fun _ h_ => h_.1))
                   have n2_ := Aside0.mk (KeepBut.blk hk (g' := gb989) (o := .cells #[.int .i64 0, .int .i64 0, .bool false, .slice none 0 0, .slice none 0 0] 82 (0, 0)) (by (with_reducible repeat (first | refine pkN ?_ _ | refine pkD ?_ | refine pkA ?_ _)); exact BK989.out) NB989_992.out (by simp))
                   have n3_ := Aside0.mk (KeepBut.blk hk (g' := gb999) (o := .cells #[.int .i64 t993, .int .i64 t996, .bool (t1000 == 1), u1000003, u1000004] 82 (0, 0)) (by (with_reducible repeat (first | refine pkN ?_ _ | refine pkD ?_ | refine pkA ?_ _)); exact BK999.out) NB999_992.out (by simp))
                   have n4_ := Aside0.mk (Kd.R_lower ho0 (below_size (by repeat (first | (with_reducible first | exact HB.out | apply pbA | apply pbN | apply pbD | refine pbS ?_ (IsS185.ge HI992.out) | refine pbS ?_ GE989.out | refine pbS ?_ GE999.out) | exact HB.out))))
                   have n5_ := Aside0.mk (hb)
                   have n6_ := Aside0.mk (hi)
                   clear HO_1000003
                   clear HO_1000004
                   clear BK989
                   clear BK999
                   clear HB
                   clear HI992
                   have HO_1000003 := n0_
                   have HO_1000004 := n1_
                   have BK989 := n2_
                   have BK999 := n3_
                   have HO1023 := n4_
                   have HB := n5_
                   have HI992 := n6_
                   clear n0_ n1_ n2_ n3_ n4_ n5_ n6_
                   (try clear hb)
                   (try clear hb2)
                   (try clear hk)
                   (try clear hi)
                   (try clear ho0)
                   obtain ⟨Ao58, co58, eo58⟩ := Kd.R_slice HO1023.out
                   (first | subst eo58 | (injection eo58 with f1_ f2_ f3_; have f4_ := f1_.symm; have f5_ := f3_.symm; clear f1_ f2_ f3_; subst f4_; subst f5_))
                   refine hK.out _ _ ⟨(pkC BK999.out 0).trans rfl, (pkC BK999.out 1).trans rfl, (pkC BK999.out 2).trans rfl, (pkC BK999.out 3).trans rfl, (pkC BK999.out 4).trans rfl⟩ (fun hHeld => ?_)
                   clear hK K
                   refine norm_ (a' := ?_) ?_ ?_
                   rotate_left
                   · show Act.put _ (some 71) _ = _
                     simp only [Act.put, zA, zB, zC, i64_w, i32_w]
                     rfl
                   refine one_ (i := 4) (N := some 72) #[true, true, true, true, true, false, false, false] rfl rfl (one_of HT_.out (by kernel_rfl)) (by decide) (fun K hK => ?_)
                   refine value_ (w1 := ?_) (v := ?_) (by rfl) rfl ?_ ?_
                   rotate_left 2
                   · go_simp
                     constructor
                     · rfl
                     · rfl
                   refine hK.out _ _ ⟨(pkC (pkA BK999.out _) 0).trans rfl, (pkC (pkA BK999.out _) 1).trans rfl, (pkC (pkA BK999.out _) 2).trans rfl, (pkC (pkA BK999.out _) 3).trans rfl, (pkC (pkA BK999.out _) 4).trans rfl⟩ (fun hHeld => ?_)
                   clear hK K
                   refine norm_ (a' := ?_) ?_ ?_
                   rotate_left
                   · show Act.put _ (some 72) _ = _
                     simp only [Act.put, zA, zB, zC, i64_w, i32_w]
                     rfl
                   refine one_ (i := 5) (N := some 73) #[true, true, true, true, true, true, false, false] rfl rfl (one_of HT_.out (by kernel_rfl)) (by decide) (fun K hK => ?_)
                   refine Kd.S_append_step (Kd.slice 9 Kd.string) (w0 := w) w.heap.size (by rfl) (.tmp 69) (.tmp 72) 80 63 (.slice none 0 0) 24 rfl Try.underlying80 info63 rfl (by decide) (by omega) u1000004 x1000004_3 t1021 [.slice Ao58 t1021.length co58] (fun _ => True) (fun k_ => some k_ = (.slice Ao58 t1021.length co58 : Value).ownBlock) rfl rfl ?aP (fun k_ hk_ => ((Kd.R_mono (ok' := fun k_ => ((fun _ => True)) k_ ∧ some k_ ≠ (u1000004 : Value).ownBlock) (Kd.R_apart' (HO1023.out) (Kd.S_typed HO_1000004.out) (by decide)) (fun k_ hk => ⟨trivial, hk.2⟩))).1 k_ hk_.symm) ?aF ?aO ?aB ?aS ?aL ?_
                   (case aP => exact Kd.M_row (Kd.R_mono (Kd.R_tight rfl (Kd.R_mono (ok' := fun k_ => ((fun _ => True)) k_ ∧ some k_ ≠ (u1000004 : Value).ownBlock) (Kd.R_apart' (HO1023.out) (Kd.S_typed HO_1000004.out) (by decide)) (fun k_ hk => ⟨trivial, hk.2⟩))) (fun _ h_ => h_)))
                   (case aB => exact (by repeat (first | (with_reducible first | exact HB.out | apply pbA | apply pbN | apply pbD | refine pbS ?_ (IsS185.ge HI992.out) | refine pbS ?_ GE989.out | refine pbS ?_ GE999.out) | exact HB.out)))
                   (case aF => exact (fun _ _ => trivial))
                   (case aO => exact (by (with_reducible repeat (first | apply Kd.S_alloc | apply Kd.S_drewN | apply Kd.S_drew)); exact Kd.S_mono HO_1000004.out (fun k_ hk => ⟨trivial, fun e_ => hk.2 e_⟩)))
                   (case aS => exact (below_size (by repeat (first | (with_reducible first | exact HB.out | apply pbA | apply pbN | apply pbD | refine pbS ?_ (IsS185.ge HI992.out) | refine pbS ?_ GE989.out | refine pbS ?_ GE999.out) | exact HB.out))))
                   (case aL => have := LMc54.out; omega)
                   intro v1027 w57 ho hb hg hat
                   rw [← Ny1026.out] at ho
                   have n0_ := Aside0.mk (Kd.R_over' (by (with_reducible repeat (first | apply Kd.R_alloc | apply Kd.R_drewN | apply Kd.R_drew)); exact HO_1000003.out) (Kd.S_typed (by (with_reducible repeat (first | apply Kd.S_alloc | apply Kd.S_drewN | apply Kd.S_drew)); exact HO_1000004.out)) (by decide) hg)
                   have n1_ := Aside0.mk (blk_grown (g := gb989) (o := .cells #[.int .i64 0, .int .i64 0, .bool false, .slice none 0 0, .slice none 0 0] 82 (0, 0)) (by (with_reducible repeat (first | refine pkN ?_ _ | refine pkD ?_ | refine pkA ?_ _)); exact BK989.out) hg (Kd.S_ne HO_1000004.out BK989.out (by decide)))
                   have n2_ := Aside0.mk (blk_grown (g := gb999) (o := .cells #[.int .i64 t993, .int .i64 t996, .bool (t1000 == 1), u1000003, u1000004] 82 (0, 0)) (by (with_reducible repeat (first | refine pkN ?_ _ | refine pkD ?_ | refine pkA ?_ _)); exact BK999.out) hg (Kd.S_ne HO_1000004.out BK999.out (by decide)))
                   have n3_ := Aside0.mk (IsS185.grown (by repeat (first | (with_reducible first | exact HI992.out | apply IsS185.alloc | apply IsS185.drewN | apply IsS185.drew | apply IsS185.set_0 | apply IsS185.set_1 | refine IsS185.far ?_ NB992_989.out _ | refine IsS185.far ?_ NB992_999.out _) | exact HI992.out)) hg (IsS185.own_neS HI992.out HO_1000004.out (by decide)))
                   have n4_ := Aside0.mk (hb)
                   have n5_ := Aside0.mk (ho)
                   clear HO_1000003
                   clear BK989
                   clear BK999
                   clear HI992
                   clear HB
                   clear HO_1000004
                   clear HO1023
                   have HO_1000003 := n0_
                   have BK989 := n1_
                   have BK999 := n2_
                   have HI992 := n3_
                   have HB := n4_
                   have HO1028 := n5_
                   clear n0_ n1_ n2_ n3_ n4_ n5_
                   clear ho hb hg hat
                   obtain ⟨Ao59, co59, eo59⟩ := Kd.S_slice HO1028.out
                   (first | subst eo59 | (injection eo59 with f1_ f2_ f3_; have f4_ := f1_.symm; have f5_ := f3_.symm; clear f1_ f2_ f3_; subst f4_; subst f5_))
                   refine hK.out _ _ ⟨(pkC BK999.out 0).trans rfl, (pkC BK999.out 1).trans rfl, (pkC BK999.out 2).trans rfl, (pkC BK999.out 3).trans rfl, (pkC BK999.out 4).trans rfl⟩ (fun hHeld => ?_)
                   clear hK K
                   refine norm_ (a' := ?_) ?_ ?_
                   rotate_left
                   · show Act.put _ (some 73) _ = _
                     simp only [Act.put, zA, zB, zC, i64_w, i32_w]
                     rfl
                   refine pure_ (i := 6) (N := some 74) (v := ?_) (a' := ?_) #[true, true, true, true, true, true, true, false] rfl rfl (any_of HT_.out (by kernel_rfl)) (fun _ _ _ h => h) (Or.inl ⟨by rfl, ?_⟩) ?_ ?_
                   rotate_left
                   · intro w'
                     go_simp
                     with_reducible rfl
                   rotate_left
                   · simp only [Act.put, zA, zB, zC, i64_w, i32_w]
                     rfl
                   refine last_ (i := 7) (N := none) #[true, true, true, true, true, true, true, true] rfl rfl (one_of HT_.out (by kernel_rfl)) (by decide) (fun K hK => ?_)
                   have hs60 : w57.cell? ⟨gb999, 4, none⟩ = some (u1000004) := (pkC BK999.out 4).trans rfl
                   have hfs60 := pkF BK999.out 4
                   have hns60_0 := NB989_999.out
                   have hms60_0 := NB999_989.out
                   refine skip_ (w1 := ?_) (by rfl) rfl ?_ ?_
                   rotate_left
                   · go_simp
                     rfl
                   refine hK.out _ _ ?_
                   clear hK K
                   refine done_ (done_of HT_.out (by kernel_rfl)) ?_
                   try go_wp2
                   go_roundg k3
                   case measure => have := HJ8.out; have := HK2.out; have := HK3.out; omega
                   case rel => exact ⟨(wrap64 (x66_3 + 1)), (t1024), (t1025), (y1026), (.slice Ao59 y1026.length co59), (by first | rfl | (simp; done) | (simp [*]; done)), H', ⟨by have := HJ8.out; have := HK2.out; have := HK3.out; omega⟩, ⟨by (with_reducible repeat (first | apply Kd.R_alloc | apply Kd.R_drewN | apply Kd.R_drew)); exact Kd.R_mono (Kd.R_far (p := ⟨gb999, 4, none⟩) (Kd.R_types HO_1000003.out BK999.out (by decide)) (fun _ hk => hk.2) (.slice Ao59 y1026.length co59)) (fun _ hk => trivial)⟩, ⟨by (with_reducible repeat (first | apply Kd.S_alloc | apply Kd.S_drewN | apply Kd.S_drew)); exact Kd.S_mono (Kd.S_far (p := ⟨gb999, 4, none⟩) (Kd.S_types HO1028.out BK999.out (by decide)) (fun _ hk => hk.2) (.slice Ao59 y1026.length co59)) (fun _ hk => trivial)⟩, ⟨by (with_reducible repeat (first | refine pkN ?_ _ | refine pkD ?_ | refine pkA ?_ _)); refine blk_far ?_ NB989_999.out _; (with_reducible repeat (first | refine pkN ?_ _ | refine pkD ?_ | refine pkA ?_ _)); exact BK989.out⟩, ⟨by (with_reducible repeat (first | refine pkN ?_ _ | refine pkD ?_ | refine pkA ?_ _)); refine blk_put (cs := #[.int .i64 t993, .int .i64 t996, .bool (t1000 == 1), u1000003, u1000004]) ?_ 4 _ rfl; (with_reducible repeat (first | refine pkN ?_ _ | refine pkD ?_ | refine pkA ?_ _)); exact BK999.out⟩, ⟨by repeat (first | (with_reducible first | exact HI992.out | apply IsS185.alloc | apply IsS185.drewN | apply IsS185.drew | apply IsS185.set_0 | apply IsS185.set_1 | refine IsS185.far ?_ NB992_989.out _ | refine IsS185.far ?_ NB992_999.out _) | exact HI992.out)⟩, ⟨by repeat (first | (with_reducible first | exact HB.out | apply pbA | apply pbN | apply pbD | refine pbS ?_ (IsS185.ge HI992.out) | refine pbS ?_ GE989.out | refine pbS ?_ GE999.out) | exact HB.out)⟩⟩
                 · rw [if_neg c54] at H
                   exact absurd H (by simp)
               · rw [if_neg c52] at H
                 have c52b0 : decide (x66_3 < t1018) = false := decide_eq_false c52
                 clear c52
                 replace H := Option.bind_eq_some_iff.mp H
                 obtain ⟨⟨t1029, t1030, t1031⟩, A610, H⟩ := H
                 replace H : (if t1029 = 0 then (some (t993, t996, (t1000 == 1), x1000003_2, x1000004_3, 0)) else (some (0, 0, false, ([] : List (S86)), ([] : List (List ByteArray)), t1029))) = some (r1, r2, r3, r4, r5, r6) := H
                 have A61 := Aside0.mk A610
                 clear A610
                 by_cases c62 : t1029 = 0
                 · rw [if_pos c62] at H
                   have c62b0 : (t1029 == 0) = true := beq_iff_eq.mpr c62
                   have c62b1 : (t1029 != 0) = false := bne_eq_false_iff_eq.mpr c62
                   clear c62
                   simp only [Option.some.injEq, Prod.mk.injEq] at H
                   obtain ⟨rfl, rfl, rfl, rfl, rfl, rfl⟩ := H
                   go_wp2_with (first | ((with_reducible refine gate_callee (f := 72) rfl ?_); refine goesL_ (some 77) rfl rfl Try.func72 (by kernel_rfl) rfl #[.pointer (some ⟨g992, 0, none⟩)] rfl (by (try simp only [List.map_toArray, List.map_cons, List.map_nil]); first | done | rfl | (simp only [List.length_drop, List.length_take]; rfl)) ?_; (with_reducible refine (wire_Reader_Done.calls g992 x993000_3 x993001_3 t1029 t1030 t1031 w _ ?side1 ?side2 A61.out).mono ?_); (case side1 => repeat (first | (with_reducible first | exact HI992.out | apply IsS185.alloc | apply IsS185.drewN | apply IsS185.drew | apply IsS185.set_0 | apply IsS185.set_1 | refine IsS185.far ?_ NB992_989.out _ | refine IsS185.far ?_ NB992_999.out _) | exact HI992.out)); (case side2 => repeat (first | (with_reducible first | exact HB.out | apply pbA | apply pbN | apply pbD | refine pbS ?_ (IsS185.ge HI992.out) | refine pbS ?_ GE989.out | refine pbS ?_ GE999.out) | exact HB.out)); rintro e w63 ⟨rfl, hi, hb, hk⟩; refine ⟨_, rfl, ?_⟩; have n0_ := Aside0.mk (Kd.R_mono (Kd.R_keep (IsS185.apart (show IsS185 w _ g992 x993000_3 x993001_3 from by repeat (first | (with_reducible first | exact HI992.out | apply IsS185.alloc | apply IsS185.drewN | apply IsS185.drew | apply IsS185.set_0 | apply IsS185.set_1 | refine IsS185.far ?_ NB992_989.out _ | refine IsS185.far ?_ NB992_999.out _) | exact HI992.out)) (by (with_reducible repeat (first | apply Kd.R_alloc | apply Kd.R_drewN | apply Kd.R_drew)); exact HO_1000003.out) (by decide)) hk (fun _ h => h.2)) (fun _ h => h.1)); have n1_ := Aside0.mk (Kd.S_mono (Kd.S_keep (IsS185.apartS (show IsS185 w _ g992 x993000_3 x993001_3 from by repeat (first | (with_reducible first | exact HI992.out | apply IsS185.alloc | apply IsS185.drewN | apply IsS185.drew | apply IsS185.set_0 | apply IsS185.set_1 | refine IsS185.far ?_ NB992_989.out _ | refine IsS185.far ?_ NB992_999.out _) | exact HI992.out)) (by (with_reducible repeat (first | apply Kd.S_alloc | apply Kd.S_drewN | apply Kd.S_drew)); exact HO_1000004.out) (by decide)) hk (fun _ h => h.2)) (fun _ h => h.1)); have n2_ := Aside0.mk (KeepBut.blk hk (g' := gb989) (o := .cells #[.int .i64 0, .int .i64 0, .bool false, .slice none 0 0, .slice none 0 0] 82 (0, 0)) (by (with_reducible repeat (first | refine pkN ?_ _ | refine pkD ?_ | refine pkA ?_ _)); exact BK989.out) NB989_992.out (by simp)); have n3_ := Aside0.mk (KeepBut.blk hk (g' := gb999) (o := .cells #[.int .i64 t993, .int .i64 t996, .bool (t1000 == 1), u1000003, u1000004] 82 (0, 0)) (by (with_reducible repeat (first | refine pkN ?_ _ | refine pkD ?_ | refine pkA ?_ _)); exact BK999.out) NB999_992.out (by simp)); have n4_ := Aside0.mk (hb); have n5_ := Aside0.mk (hi); clear HO_1000003; clear HO_1000004; clear BK989; clear BK999; clear HB; clear HI992; have HO_1000003 := n0_; have HO_1000004 := n1_; have BK989 := n2_; have BK999 := n3_; have HB := n4_; have HI992 := n5_; clear n0_ n1_ n2_ n3_ n4_ n5_; (try clear hb); (try clear hb2); (try clear hk); (try clear hi); have hnb64 := NB999_989.out; have hnc64 := NB989_999.out; have hnb65 := NB999_992.out; have hnc65 := NB992_999.out; have hcz66_0 : w63.cell? ⟨gb999, 0, none⟩ = some (.int .i64 t993) := (pkC BK999.out 0).trans rfl; have hcz66_1 : w63.cell? ⟨gb999, 1, none⟩ = some (.int .i64 t996) := (pkC BK999.out 1).trans rfl; have hcz66_2 : w63.cell? ⟨gb999, 2, none⟩ = some (.bool (t1000 == 1)) := (pkC BK999.out 2).trans rfl; have hcz66_3 : w63.cell? ⟨gb999, 3, none⟩ = some (u1000003) := (pkC BK999.out 3).trans rfl; have hcz66_4 : w63.cell? ⟨gb999, 4, none⟩ = some (u1000004) := (pkC BK999.out 4).trans rfl; have hfz66_0 := pkF BK999.out 0; have hfz66_1 := pkF BK999.out 1; have hfz66_2 := pkF BK999.out 2; have hfz66_3 := pkF BK999.out 3; have hfz66_4 := pkF BK999.out 4; have hnb67 := NB989_992.out; have hnc67 := NB992_989.out; have hcz68_0 : w63.cell? ⟨gb989, 0, none⟩ = some (.int .i64 0) := (pkC BK989.out 0).trans rfl; have hcz68_1 : w63.cell? ⟨gb989, 1, none⟩ = some (.int .i64 0) := (pkC BK989.out 1).trans rfl; have hcz68_2 : w63.cell? ⟨gb989, 2, none⟩ = some (.bool false) := (pkC BK989.out 2).trans rfl; have hcz68_3 : w63.cell? ⟨gb989, 3, none⟩ = some (.slice none 0 0) := (pkC BK989.out 3).trans rfl; have hcz68_4 : w63.cell? ⟨gb989, 4, none⟩ = some (.slice none 0 0) := (pkC BK989.out 4).trans rfl; have hfz68_0 := pkF BK989.out 0; have hfz68_1 := pkF BK989.out 1; have hfz68_2 := pkF BK989.out 2; have hfz68_3 := pkF BK989.out 3; have hfz68_4 := pkF BK989.out 4; obtain ⟨Ao69, co69, eo69⟩ := Kd.R_slice HO_1000003.out; subst eo69; obtain ⟨Ao70, co70, eo70⟩ := Kd.S_slice HO_1000004.out; subst eo70))
                   refine bodyPost_ret (results_ct rfl _ _ gb989 82 #[.int .i64 t993, .int .i64 t996, .bool (t1000 == 1), .slice Ao69 x1000003_2.length co69, .slice Ao70 x1000004_3.length co70] (0, 0) _ rfl (by (with_reducible repeat (first | refine pkN ?_ _ | refine pkD ?_ | refine pkA ?_ _)); refine blk_put (cs := #[.int .i64 t993, .int .i64 t996, .bool (t1000 == 1), .slice Ao69 x1000003_2.length co69, .slice none 0 0]) ?_ 4 _ rfl; (with_reducible repeat (first | refine pkN ?_ _ | refine pkD ?_ | refine pkA ?_ _)); refine blk_put (cs := #[.int .i64 t993, .int .i64 t996, .bool (t1000 == 1), .slice none 0 0, .slice none 0 0]) ?_ 3 _ rfl; (with_reducible repeat (first | refine pkN ?_ _ | refine pkD ?_ | refine pkA ?_ _)); refine blk_put (cs := #[.int .i64 t993, .int .i64 t996, .bool false, .slice none 0 0, .slice none 0 0]) ?_ 2 _ (by first | rfl | (have hb_ : (t1000 == 1) = true := (by first | assumption | (simp [*]; done)); rw [hb_]; rfl) | (have hb_ : (t1000 == 1) = false := (by first | assumption | (simp [*]; done)); rw [hb_]; rfl)); (with_reducible repeat (first | refine pkN ?_ _ | refine pkD ?_ | refine pkA ?_ _)); refine blk_put (cs := #[.int .i64 t993, .int .i64 0, .bool false, .slice none 0 0, .slice none 0 0]) ?_ 1 _ rfl; (with_reducible repeat (first | refine pkN ?_ _ | refine pkD ?_ | refine pkA ?_ _)); refine blk_put (cs := #[.int .i64 0, .int .i64 0, .bool false, .slice none 0 0, .slice none 0 0]) ?_ 0 _ rfl; (with_reducible repeat (first | refine pkN ?_ _ | refine pkD ?_ | refine pkA ?_ _)); exact BK989.out) Try.underlying82 rfl (by kernel_rfl)) rfl ?_
                   exact ⟨_, _, by first | rfl | (simp [errW_none, errW_some] <;> rfl) | (simp [*, errW_none, errW_some] <;> rfl), by (with_reducible repeat (first | apply Kd.R_alloc | apply Kd.R_drewN | apply Kd.R_drew)); exact Kd.R_mono (Kd.R_far (p := ⟨gb989, 4, none⟩) (Kd.R_far (p := ⟨gb989, 3, none⟩) (Kd.R_far (p := ⟨gb989, 2, none⟩) (Kd.R_far (p := ⟨gb989, 1, none⟩) (Kd.R_far (p := ⟨gb989, 0, none⟩) (Kd.R_types HO_1000003.out BK989.out (by decide)) (fun _ hk => hk.2) (.int .i64 t993)) (fun _ hk => hk.2) (.int .i64 t996)) (fun _ hk => hk.2) (.bool (t1000 == 1))) (fun _ hk => hk.2) (.slice Ao69 x1000003_2.length co69)) (fun _ hk => hk.2) (.slice Ao70 x1000004_3.length co70)) (fun _ hk => trivial), by (with_reducible repeat (first | apply Kd.S_alloc | apply Kd.S_drewN | apply Kd.S_drew)); exact Kd.S_mono (Kd.S_far (p := ⟨gb989, 4, none⟩) (Kd.S_far (p := ⟨gb989, 3, none⟩) (Kd.S_far (p := ⟨gb989, 2, none⟩) (Kd.S_far (p := ⟨gb989, 1, none⟩) (Kd.S_far (p := ⟨gb989, 0, none⟩) (Kd.S_types HO_1000004.out BK989.out (by decide)) (fun _ hk => hk.2) (.int .i64 t993)) (fun _ hk => hk.2) (.int .i64 t996)) (fun _ hk => hk.2) (.bool (t1000 == 1))) (fun _ hk => hk.2) (.slice Ao69 x1000003_2.length co69)) (fun _ hk => hk.2) (.slice Ao70 x1000004_3.length co70)) (fun _ hk => trivial), by repeat (first | (with_reducible first | exact HB.out | apply pbA | apply pbN | apply pbD | refine pbS ?_ (IsS185.ge HI992.out) | refine pbS ?_ GE989.out | refine pbS ?_ GE999.out) | exact HB.out)⟩
                 · rw [if_neg c62] at H
                   have c62b0 : (t1029 == 0) = false := beq_eq_false_iff_ne.mpr c62
                   have c62b1 : (t1029 != 0) = true := bne_iff_ne.mpr c62
                   simp only [Option.some.injEq, Prod.mk.injEq] at H
                   obtain ⟨rfl, rfl, rfl, rfl, rfl, rfl⟩ := H
                   go_wp2_with (first | ((with_reducible refine gate_callee (f := 72) rfl ?_); refine goesL_ (some 77) rfl rfl Try.func72 (by kernel_rfl) rfl #[.pointer (some ⟨g992, 0, none⟩)] rfl (by (try simp only [List.map_toArray, List.map_cons, List.map_nil]); first | done | rfl | (simp only [List.length_drop, List.length_take]; rfl)) ?_; (with_reducible refine (wire_Reader_Done.calls g992 x993000_3 x993001_3 t1029 t1030 t1031 w _ ?side1 ?side2 A61.out).mono ?_); (case side1 => repeat (first | (with_reducible first | exact HI992.out | apply IsS185.alloc | apply IsS185.drewN | apply IsS185.drew | apply IsS185.set_0 | apply IsS185.set_1 | refine IsS185.far ?_ NB992_989.out _ | refine IsS185.far ?_ NB992_999.out _) | exact HI992.out)); (case side2 => repeat (first | (with_reducible first | exact HB.out | apply pbA | apply pbN | apply pbD | refine pbS ?_ (IsS185.ge HI992.out) | refine pbS ?_ GE989.out | refine pbS ?_ GE999.out) | exact HB.out)); rintro e w71 ⟨rfl, hi, hb, hk⟩; refine ⟨_, rfl, ?_⟩; have n0_ := Aside0.mk (Kd.R_mono (Kd.R_keep (IsS185.apart (show IsS185 w _ g992 x993000_3 x993001_3 from by repeat (first | (with_reducible first | exact HI992.out | apply IsS185.alloc | apply IsS185.drewN | apply IsS185.drew | apply IsS185.set_0 | apply IsS185.set_1 | refine IsS185.far ?_ NB992_989.out _ | refine IsS185.far ?_ NB992_999.out _) | exact HI992.out)) (by (with_reducible repeat (first | apply Kd.R_alloc | apply Kd.R_drewN | apply Kd.R_drew)); exact HO_1000003.out) (by decide)) hk (fun _ h => h.2)) (fun _ h => h.1)); have n1_ := Aside0.mk (Kd.S_mono (Kd.S_keep (IsS185.apartS (show IsS185 w _ g992 x993000_3 x993001_3 from by repeat (first | (with_reducible first | exact HI992.out | apply IsS185.alloc | apply IsS185.drewN | apply IsS185.drew | apply IsS185.set_0 | apply IsS185.set_1 | refine IsS185.far ?_ NB992_989.out _ | refine IsS185.far ?_ NB992_999.out _) | exact HI992.out)) (by (with_reducible repeat (first | apply Kd.S_alloc | apply Kd.S_drewN | apply Kd.S_drew)); exact HO_1000004.out) (by decide)) hk (fun _ h => h.2)) (fun _ h => h.1)); have n2_ := Aside0.mk (KeepBut.blk hk (g' := gb989) (o := .cells #[.int .i64 0, .int .i64 0, .bool false, .slice none 0 0, .slice none 0 0] 82 (0, 0)) (by (with_reducible repeat (first | refine pkN ?_ _ | refine pkD ?_ | refine pkA ?_ _)); exact BK989.out) NB989_992.out (by simp)); have n3_ := Aside0.mk (KeepBut.blk hk (g' := gb999) (o := .cells #[.int .i64 t993, .int .i64 t996, .bool (t1000 == 1), u1000003, u1000004] 82 (0, 0)) (by (with_reducible repeat (first | refine pkN ?_ _ | refine pkD ?_ | refine pkA ?_ _)); exact BK999.out) NB999_992.out (by simp)); have n4_ := Aside0.mk (hb); have n5_ := Aside0.mk (hi); clear HO_1000003; clear HO_1000004; clear BK989; clear BK999; clear HB; clear HI992; have HO_1000003 := n0_; have HO_1000004 := n1_; have BK989 := n2_; have BK999 := n3_; have HB := n4_; have HI992 := n5_; clear n0_ n1_ n2_ n3_ n4_ n5_; (try clear hb); (try clear hb2); (try clear hk); (try clear hi); have hnb72 := NB989_999.out; have hnc72 := NB999_989.out; have hnb73 := NB989_992.out; have hnc73 := NB992_989.out; have hcz74_0 : w71.cell? ⟨gb989, 0, none⟩ = some (.int .i64 0) := (pkC BK989.out 0).trans rfl; have hcz74_1 : w71.cell? ⟨gb989, 1, none⟩ = some (.int .i64 0) := (pkC BK989.out 1).trans rfl; have hcz74_2 : w71.cell? ⟨gb989, 2, none⟩ = some (.bool false) := (pkC BK989.out 2).trans rfl; have hcz74_3 : w71.cell? ⟨gb989, 3, none⟩ = some (.slice none 0 0) := (pkC BK989.out 3).trans rfl; have hcz74_4 : w71.cell? ⟨gb989, 4, none⟩ = some (.slice none 0 0) := (pkC BK989.out 4).trans rfl; have hfz74_0 := pkF BK989.out 0; have hfz74_1 := pkF BK989.out 1; have hfz74_2 := pkF BK989.out 2; have hfz74_3 := pkF BK989.out 3; have hfz74_4 := pkF BK989.out 4))
                   refine bodyPost_ret (results_ct rfl _ _ gb989 82 #[.int .i64 0, .int .i64 0, .bool false, .slice none 0 0, .slice none 0 0] (0, 0) _ rfl (by (with_reducible repeat (first | refine pkN ?_ _ | refine pkD ?_ | refine pkA ?_ _)); refine blk_put (cs := #[.int .i64 0, .int .i64 0, .bool false, .slice none 0 0, .slice none 0 0]) ?_ 4 _ rfl; (with_reducible repeat (first | refine pkN ?_ _ | refine pkD ?_ | refine pkA ?_ _)); refine blk_put (cs := #[.int .i64 0, .int .i64 0, .bool false, .slice none 0 0, .slice none 0 0]) ?_ 3 _ rfl; (with_reducible repeat (first | refine pkN ?_ _ | refine pkD ?_ | refine pkA ?_ _)); refine blk_put (cs := #[.int .i64 0, .int .i64 0, .bool false, .slice none 0 0, .slice none 0 0]) ?_ 2 _ (by first | rfl | (have hb_ : (t1000 == 1) = true := (by first | assumption | (simp [*]; done)); rw [hb_]; rfl) | (have hb_ : (t1000 == 1) = false := (by first | assumption | (simp [*]; done)); rw [hb_]; rfl)); (with_reducible repeat (first | refine pkN ?_ _ | refine pkD ?_ | refine pkA ?_ _)); refine blk_put (cs := #[.int .i64 0, .int .i64 0, .bool false, .slice none 0 0, .slice none 0 0]) ?_ 1 _ rfl; (with_reducible repeat (first | refine pkN ?_ _ | refine pkD ?_ | refine pkA ?_ _)); refine blk_put (cs := #[.int .i64 0, .int .i64 0, .bool false, .slice none 0 0, .slice none 0 0]) ?_ 0 _ rfl; (with_reducible repeat (first | refine pkN ?_ _ | refine pkD ?_ | refine pkA ?_ _)); exact BK989.out) Try.underlying82 rfl (by kernel_rfl)) rfl ?_
                   exact ⟨_, _, by first | rfl | (simp [errW_none, errW_some] <;> rfl) | (simp [*, errW_none, errW_some] <;> rfl), by first | exact Kd.R_nil _ _ _ _ _ | exact Kd.N_nil _ _ _ _ _ | exact Kd.V_nil _ _ _ _ _ | exact Kd.Q_nil _ _ _ _ _ | exact Kd.S_nil _ _ _ _ _, by first | exact Kd.S_nil _ _ _ _ _ | exact Kd.N_nil _ _ _ _ _ | exact Kd.V_nil _ _ _ _ _ | exact Kd.Q_nil _ _ _ _ _ | exact Kd.R_nil _ _ _ _ _, by repeat (first | (with_reducible first | exact HB.out | apply pbA | apply pbN | apply pbD | refine pbS ?_ (IsS185.ge HI992.out) | refine pbS ?_ GE989.out | refine pbS ?_ GE999.out) | exact HB.out)⟩
 · rw [if_neg c8] at H
   have c8b0 : (t1006 == 0) = false := beq_eq_false_iff_ne.mpr c8
   have c8b1 : (t1006 != 0) = true := bne_iff_ne.mpr c8
   simp only [Option.some.injEq, Prod.mk.injEq] at H
   obtain ⟨rfl, rfl, rfl, rfl, rfl, rfl⟩ := H
   go_enter Try.func61, Try.ntmps61
   go_wp2_with (first | ((with_reducible refine gate_dst (N := 2) rfl ?_); refine box_event ?hg (N := 2) ?hd (cs := #[.int .i64 0, .int .i64 0, .bool false, .slice none 0 0, .slice none 0 0]) (t := 82) ?hr ?_; (case hd => rfl); (case hg => rfl); (case hr => first | (go_simp; done) | (go_simp; rfl)); intro gb989 hg w75 hbox hb; have n0_ := Aside0.mk (below_step (by repeat (first | (with_reducible first | exact HB.out | apply pbA | apply pbN | apply pbD) | exact HB.out)) hb); have n1_ := Aside0.mk (hbox); have n2_ := Aside0.mk ((by rw [hg]; exact (below_size (by repeat (first | (with_reducible first | exact HB.out | apply pbA | apply pbN | apply pbD) | exact HB.out))) : w.heap.size ≤ gb989)); have n3_ := Aside0.mk ((by rw [hg]; exact (below_size (by repeat (first | (with_reducible first | exact HB.out | apply pbA | apply pbN | apply pbD) | exact HB.out))) : w.heap.size ≤ gb989)); clear HB; have HB := n0_; have BK989 := n1_; have GW989 := n2_; have GE989 := n3_; clear n0_ n1_ n2_ n3_; clear hb hbox hg) | ((with_reducible refine gate_callee (f := 69) rfl ?_); refine goesL_ (some 12) rfl rfl Try.func69 (by kernel_rfl) rfl #[.string a0] rfl (by (try simp only [List.map_toArray, List.map_cons, List.map_nil]); first | done | rfl | (simp only [List.length_drop, List.length_take]; rfl)) ?_; (with_reducible refine (wire_New.calls a0 t990 t991 w _ ?side1 A2.out).mono ?_); (case side1 => repeat (first | (with_reducible first | exact HB.out | apply pbA | apply pbN | apply pbD | refine pbS ?_ GE989.out) | exact HB.out)); rintro e w76 ⟨g992, rfl, hi, hb, hb2⟩; refine ⟨_, rfl, ?_⟩; have n0_ := Aside0.mk (blk_below (g := gb989) (o := .cells #[.int .i64 0, .int .i64 0, .bool false, .slice none 0 0, .slice none 0 0] 82 (0, 0)) (by (with_reducible repeat (first | refine pkN ?_ _ | refine pkD ?_ | refine pkA ?_ _)); exact BK989.out) hb2); have n1_ := Aside0.mk (hb); have n2_ := Aside0.mk (hi); have n3_ := Aside0.mk (IsS185.ne_blk hi (blk_below (g := gb989) (o := .cells #[.int .i64 0, .int .i64 0, .bool false, .slice none 0 0, .slice none 0 0] 82 (0, 0)) (by (with_reducible repeat (first | refine pkN ?_ _ | refine pkD ?_ | refine pkA ?_ _)); exact BK989.out) hb2) (by decide)); have n4_ := Aside0.mk (Ne.symm (IsS185.ne_blk hi (blk_below (g := gb989) (o := .cells #[.int .i64 0, .int .i64 0, .bool false, .slice none 0 0, .slice none 0 0] 82 (0, 0)) (by (with_reducible repeat (first | refine pkN ?_ _ | refine pkD ?_ | refine pkA ?_ _)); exact BK989.out) hb2) (by decide))); clear BK989; clear HB; have BK989 := n0_; have HB := n1_; have HI992 := n2_; have NB992_989 := n3_; have NB989_992 := n4_; clear n0_ n1_ n2_ n3_ n4_; (try clear hb); (try clear hb2); (try clear hk); (try clear hi)) | ((with_reducible refine gate_callee (f := 71) rfl ?_); refine goesL_ (some 14) rfl rfl Try.func71 (by kernel_rfl) rfl #[.pointer (some ⟨g992, 0, none⟩)] rfl (by (try simp only [List.map_toArray, List.map_cons, List.map_nil]); first | done | rfl | (simp only [List.length_drop, List.length_take]; rfl)) ?_; (with_reducible refine (wire_Reader_Num.calls g992 t990 t991 t993 t994 t995 w _ ?side1 ?side2 A3.out).mono ?_); (case side1 => repeat (first | (with_reducible first | exact HI992.out | apply IsS185.alloc | apply IsS185.drewN | apply IsS185.drew | apply IsS185.set_0 | apply IsS185.set_1 | refine IsS185.far ?_ NB992_989.out _) | exact HI992.out)); (case side2 => repeat (first | (with_reducible first | exact HB.out | apply pbA | apply pbN | apply pbD | refine pbS ?_ (IsS185.ge HI992.out) | refine pbS ?_ GE989.out) | exact HB.out)); rintro e w77 ⟨rfl, hi, hb, hk⟩; refine ⟨_, rfl, ?_⟩; have n0_ := Aside0.mk (KeepBut.blk hk (g' := gb989) (o := .cells #[.int .i64 0, .int .i64 0, .bool false, .slice none 0 0, .slice none 0 0] 82 (0, 0)) (by (with_reducible repeat (first | refine pkN ?_ _ | refine pkD ?_ | refine pkA ?_ _)); exact BK989.out) NB989_992.out (by simp)); have n1_ := Aside0.mk (hb); have n2_ := Aside0.mk (hi); clear BK989; clear HB; clear HI992; have BK989 := n0_; have HB := n1_; have HI992 := n2_; clear n0_ n1_ n2_; (try clear hb); (try clear hb2); (try clear hk); (try clear hi)) | ((with_reducible refine gate_callee (f := 71) rfl ?_); refine goesL_ (some 16) rfl rfl Try.func71 (by kernel_rfl) rfl #[.pointer (some ⟨g992, 0, none⟩)] rfl (by (try simp only [List.map_toArray, List.map_cons, List.map_nil]); first | done | rfl | (simp only [List.length_drop, List.length_take]; rfl)) ?_; (with_reducible refine (wire_Reader_Num.calls g992 t994 t995 t996 t997 t998 w _ ?side1 ?side2 A4.out).mono ?_); (case side1 => repeat (first | (with_reducible first | exact HI992.out | apply IsS185.alloc | apply IsS185.drewN | apply IsS185.drew | apply IsS185.set_0 | apply IsS185.set_1 | refine IsS185.far ?_ NB992_989.out _) | exact HI992.out)); (case side2 => repeat (first | (with_reducible first | exact HB.out | apply pbA | apply pbN | apply pbD | refine pbS ?_ (IsS185.ge HI992.out) | refine pbS ?_ GE989.out) | exact HB.out)); rintro e w78 ⟨rfl, hi, hb, hk⟩; refine ⟨_, rfl, ?_⟩; have n0_ := Aside0.mk (KeepBut.blk hk (g' := gb989) (o := .cells #[.int .i64 0, .int .i64 0, .bool false, .slice none 0 0, .slice none 0 0] 82 (0, 0)) (by (with_reducible repeat (first | refine pkN ?_ _ | refine pkD ?_ | refine pkA ?_ _)); exact BK989.out) NB989_992.out (by simp)); have n1_ := Aside0.mk (hb); have n2_ := Aside0.mk (hi); clear BK989; clear HB; clear HI992; have BK989 := n0_; have HB := n1_; have HI992 := n2_; clear n0_ n1_ n2_; (try clear hb); (try clear hb2); (try clear hk); (try clear hi)) | ((with_reducible refine gate_dst (N := 5) rfl ?_); refine box_event ?hg (N := 5) ?hd (cs := #[.int .i64 0, .int .i64 0, .bool false, .slice none 0 0, .slice none 0 0]) (t := 82) ?hr ?_; (case hd => rfl); (case hg => rfl); (case hr => first | (go_simp; done) | (go_simp; rfl)); intro gb999 hg w79 hbox hb; have n0_ := Aside0.mk (blk_below (g := gb989) (o := .cells #[.int .i64 0, .int .i64 0, .bool false, .slice none 0 0, .slice none 0 0] 82 (0, 0)) (by (with_reducible repeat (first | refine pkN ?_ _ | refine pkD ?_ | refine pkA ?_ _)); exact BK989.out) hb); have n1_ := Aside0.mk (IsS185.below (by repeat (first | (with_reducible first | exact HI992.out | apply IsS185.alloc | apply IsS185.drewN | apply IsS185.drew | apply IsS185.set_0 | apply IsS185.set_1 | refine IsS185.far ?_ NB992_989.out _) | exact HI992.out)) hb); have n2_ := Aside0.mk (below_step (by repeat (first | (with_reducible first | exact HB.out | apply pbA | apply pbN | apply pbD | refine pbS ?_ (IsS185.ge HI992.out) | refine pbS ?_ GE989.out) | exact HB.out)) hb); have n3_ := Aside0.mk (hbox); have n4_ := Aside0.mk ((by rw [hg]; exact (below_size (by repeat (first | (with_reducible first | exact HB.out | apply pbA | apply pbN | apply pbD | refine pbS ?_ (IsS185.ge HI992.out) | refine pbS ?_ GE989.out) | exact HB.out))) : w.heap.size ≤ gb999)); have n5_ := Aside0.mk ((by rw [hg]; exact (below_size (by repeat (first | (with_reducible first | exact HB.out | apply pbA | apply pbN | apply pbD | refine pbS ?_ (IsS185.ge HI992.out) | refine pbS ?_ GE989.out) | exact HB.out))) : w.heap.size ≤ gb999)); have n6_ := Aside0.mk ((by rw [hg]; exact Nat.ne_of_lt (blk_lt (g := gb989) (o := .cells #[.int .i64 0, .int .i64 0, .bool false, .slice none 0 0, .slice none 0 0] 82 (0, 0)) (by (with_reducible repeat (first | refine pkN ?_ _ | refine pkD ?_ | refine pkA ?_ _)); exact BK989.out)) : gb989 ≠ gb999)); have n7_ := Aside0.mk ((by rw [hg]; exact Nat.ne_of_gt (blk_lt (g := gb989) (o := .cells #[.int .i64 0, .int .i64 0, .bool false, .slice none 0 0, .slice none 0 0] 82 (0, 0)) (by (with_reducible repeat (first | refine pkN ?_ _ | refine pkD ?_ | refine pkA ?_ _)); exact BK989.out)) : gb999 ≠ gb989)); have n8_ := Aside0.mk ((by rw [hg]; exact Nat.ne_of_lt (IsS185.lt (show IsS185 w _ g992 t997 t998 from by repeat (first | (with_reducible first | exact HI992.out | apply IsS185.alloc | apply IsS185.drewN | apply IsS185.drew | apply IsS185.set_0 | apply IsS185.set_1 | refine IsS185.far ?_ NB992_989.out _) | exact HI992.out))) : g992 ≠ gb999)); have n9_ := Aside0.mk ((by rw [hg]; exact Nat.ne_of_gt (IsS185.lt (show IsS185 w _ g992 t997 t998 from by repeat (first | (with_reducible first | exact HI992.out | apply IsS185.alloc | apply IsS185.drewN | apply IsS185.drew | apply IsS185.set_0 | apply IsS185.set_1 | refine IsS185.far ?_ NB992_989.out _) | exact HI992.out))) : gb999 ≠ g992)); clear BK989; clear HI992; clear HB; have BK989 := n0_; have HI992 := n1_; have HB := n2_; have BK999 := n3_; have GW999 := n4_; have GE999 := n5_; have NB989_999 := n6_; have NB999_989 := n7_; have NB992_999 := n8_; have NB999_992 := n9_; clear n0_ n1_ n2_ n3_ n4_ n5_ n6_ n7_ n8_ n9_; clear hb hbox hg; have hnb80 := NB999_989.out; have hnc80 := NB989_999.out; have hnb81 := NB999_992.out; have hnc81 := NB992_999.out; have hcz82_0 : w79.cell? ⟨gb999, 0, none⟩ = some (.int .i64 0) := (pkC BK999.out 0).trans rfl; have hcz82_1 : w79.cell? ⟨gb999, 1, none⟩ = some (.int .i64 0) := (pkC BK999.out 1).trans rfl; have hcz82_2 : w79.cell? ⟨gb999, 2, none⟩ = some (.bool false) := (pkC BK999.out 2).trans rfl; have hcz82_3 : w79.cell? ⟨gb999, 3, none⟩ = some (.slice none 0 0) := (pkC BK999.out 3).trans rfl; have hcz82_4 : w79.cell? ⟨gb999, 4, none⟩ = some (.slice none 0 0) := (pkC BK999.out 4).trans rfl; have hfz82_0 := pkF BK999.out 0; have hfz82_1 := pkF BK999.out 1; have hfz82_2 := pkF BK999.out 2; have hfz82_3 := pkF BK999.out 3; have hfz82_4 := pkF BK999.out 4) | ((with_reducible refine gate_callee (f := 71) rfl ?_); refine goesL_ (some 19) rfl rfl Try.func71 (by kernel_rfl) rfl #[.pointer (some ⟨g992, 0, none⟩)] rfl (by (try simp only [List.map_toArray, List.map_cons, List.map_nil]); first | done | rfl | (simp only [List.length_drop, List.length_take]; rfl)) ?_; (with_reducible refine (wire_Reader_Num.calls g992 t997 t998 t1000 t1001 t1002 w _ ?side1 ?side2 A5.out).mono ?_); (case side1 => repeat (first | (with_reducible first | exact HI992.out | apply IsS185.alloc | apply IsS185.drewN | apply IsS185.drew | apply IsS185.set_0 | apply IsS185.set_1 | refine IsS185.far ?_ NB992_989.out _ | refine IsS185.far ?_ NB992_999.out _) | exact HI992.out)); (case side2 => repeat (first | (with_reducible first | exact HB.out | apply pbA | apply pbN | apply pbD | refine pbS ?_ (IsS185.ge HI992.out) | refine pbS ?_ GE989.out | refine pbS ?_ GE999.out) | exact HB.out)); rintro e w83 ⟨rfl, hi, hb, hk⟩; refine ⟨_, rfl, ?_⟩; have n0_ := Aside0.mk (KeepBut.blk hk (g' := gb989) (o := .cells #[.int .i64 0, .int .i64 0, .bool false, .slice none 0 0, .slice none 0 0] 82 (0, 0)) (by (with_reducible repeat (first | refine pkN ?_ _ | refine pkD ?_ | refine pkA ?_ _)); refine blk_far ?_ NB989_999.out _; (with_reducible repeat (first | refine pkN ?_ _ | refine pkD ?_ | refine pkA ?_ _)); refine blk_far ?_ NB989_999.out _; (with_reducible repeat (first | refine pkN ?_ _ | refine pkD ?_ | refine pkA ?_ _)); refine blk_far ?_ NB989_999.out _; (with_reducible repeat (first | refine pkN ?_ _ | refine pkD ?_ | refine pkA ?_ _)); refine blk_far ?_ NB989_999.out _; (with_reducible repeat (first | refine pkN ?_ _ | refine pkD ?_ | refine pkA ?_ _)); refine blk_far ?_ NB989_999.out _; (with_reducible repeat (first | refine pkN ?_ _ | refine pkD ?_ | refine pkA ?_ _)); exact BK989.out) NB989_992.out (by simp)); have n1_ := Aside0.mk (KeepBut.blk hk (g' := gb999) (o := .cells #[.int .i64 t993, .int .i64 t996, .bool false, .slice none 0 0, .slice none 0 0] 82 (0, 0)) (by (with_reducible repeat (first | refine pkN ?_ _ | refine pkD ?_ | refine pkA ?_ _)); refine blk_put (cs := #[.int .i64 t993, .int .i64 t996, .bool false, .slice none 0 0, .slice none 0 0]) ?_ 4 _ rfl; (with_reducible repeat (first | refine pkN ?_ _ | refine pkD ?_ | refine pkA ?_ _)); refine blk_put (cs := #[.int .i64 t993, .int .i64 t996, .bool false, .slice none 0 0, .slice none 0 0]) ?_ 3 _ rfl; (with_reducible repeat (first | refine pkN ?_ _ | refine pkD ?_ | refine pkA ?_ _)); refine blk_put (cs := #[.int .i64 t993, .int .i64 t996, .bool false, .slice none 0 0, .slice none 0 0]) ?_ 2 _ (by first | rfl | (have hb_ : (t1000 == 1) = true := (by first | assumption | (simp [*]; done)); rw [hb_]; rfl) | (have hb_ : (t1000 == 1) = false := (by first | assumption | (simp [*]; done)); rw [hb_]; rfl)); (with_reducible repeat (first | refine pkN ?_ _ | refine pkD ?_ | refine pkA ?_ _)); refine blk_put (cs := #[.int .i64 t993, .int .i64 0, .bool false, .slice none 0 0, .slice none 0 0]) ?_ 1 _ rfl; (with_reducible repeat (first | refine pkN ?_ _ | refine pkD ?_ | refine pkA ?_ _)); refine blk_put (cs := #[.int .i64 0, .int .i64 0, .bool false, .slice none 0 0, .slice none 0 0]) ?_ 0 _ rfl; (with_reducible repeat (first | refine pkN ?_ _ | refine pkD ?_ | refine pkA ?_ _)); exact BK999.out) NB999_992.out (by simp)); have n2_ := Aside0.mk (hb); have n3_ := Aside0.mk (hi); clear BK989; clear BK999; clear HB; clear HI992; have BK989 := n0_; have BK999 := n1_; have HB := n2_; have HI992 := n3_; clear n0_ n1_ n2_ n3_; (try clear hb); (try clear hb2); (try clear hk); (try clear hi)) | ((with_reducible refine gate_callee (f := 71) rfl ?_); refine goesL_ (some 21) rfl rfl Try.func71 (by kernel_rfl) rfl #[.pointer (some ⟨g992, 0, none⟩)] rfl (by (try simp only [List.map_toArray, List.map_cons, List.map_nil]); first | done | rfl | (simp only [List.length_drop, List.length_take]; rfl)) ?_; (with_reducible refine (wire_Reader_Num.calls g992 t1001 t1002 t1003 t1004 t1005 w _ ?side1 ?side2 A6.out).mono ?_); (case side1 => repeat (first | (with_reducible first | exact HI992.out | apply IsS185.alloc | apply IsS185.drewN | apply IsS185.drew | apply IsS185.set_0 | apply IsS185.set_1 | refine IsS185.far ?_ NB992_989.out _ | refine IsS185.far ?_ NB992_999.out _) | exact HI992.out)); (case side2 => repeat (first | (with_reducible first | exact HB.out | apply pbA | apply pbN | apply pbD | refine pbS ?_ (IsS185.ge HI992.out) | refine pbS ?_ GE989.out | refine pbS ?_ GE999.out) | exact HB.out)); rintro e w84 ⟨rfl, hi, hb, hk⟩; refine ⟨_, rfl, ?_⟩; have n0_ := Aside0.mk (KeepBut.blk hk (g' := gb989) (o := .cells #[.int .i64 0, .int .i64 0, .bool false, .slice none 0 0, .slice none 0 0] 82 (0, 0)) (by (with_reducible repeat (first | refine pkN ?_ _ | refine pkD ?_ | refine pkA ?_ _)); exact BK989.out) NB989_992.out (by simp)); have n1_ := Aside0.mk (KeepBut.blk hk (g' := gb999) (o := .cells #[.int .i64 t993, .int .i64 t996, .bool false, .slice none 0 0, .slice none 0 0] 82 (0, 0)) (by (with_reducible repeat (first | refine pkN ?_ _ | refine pkD ?_ | refine pkA ?_ _)); exact BK999.out) NB999_992.out (by simp)); have n2_ := Aside0.mk (hb); have n3_ := Aside0.mk (hi); clear BK989; clear BK999; clear HB; clear HI992; have BK989 := n0_; have BK999 := n1_; have HB := n2_; have HI992 := n3_; clear n0_ n1_ n2_ n3_; (try clear hb); (try clear hb2); (try clear hk); (try clear hi)) | ((with_reducible refine gate_callee (f := 131) rfl ?_); refine goesL_ (some 23) rfl rfl Try.func131 (by kernel_rfl) rfl #[.pointer (some ⟨g992, 0, none⟩)] rfl (by (try simp only [List.map_toArray, List.map_cons, List.map_nil]); first | done | rfl | (simp only [List.length_drop, List.length_take]; rfl)) ?_; (with_reducible refine (wire_Reader_Err.calls g992 t1004 t1005 t1006 t1007 t1008 w _ ?side1 ?side2 A7.out).mono ?_); (case side1 => repeat (first | (with_reducible first | exact HI992.out | apply IsS185.alloc | apply IsS185.drewN | apply IsS185.drew | apply IsS185.set_0 | apply IsS185.set_1 | refine IsS185.far ?_ NB992_989.out _ | refine IsS185.far ?_ NB992_999.out _) | exact HI992.out)); (case side2 => repeat (first | (with_reducible first | exact HB.out | apply pbA | apply pbN | apply pbD | refine pbS ?_ (IsS185.ge HI992.out) | refine pbS ?_ GE989.out | refine pbS ?_ GE999.out) | exact HB.out)); rintro e w85 ⟨rfl, hi, hb, hk⟩; refine ⟨_, rfl, ?_⟩; have n0_ := Aside0.mk (KeepBut.blk hk (g' := gb989) (o := .cells #[.int .i64 0, .int .i64 0, .bool false, .slice none 0 0, .slice none 0 0] 82 (0, 0)) (by (with_reducible repeat (first | refine pkN ?_ _ | refine pkD ?_ | refine pkA ?_ _)); exact BK989.out) NB989_992.out (by simp)); have n1_ := Aside0.mk (KeepBut.blk hk (g' := gb999) (o := .cells #[.int .i64 t993, .int .i64 t996, .bool false, .slice none 0 0, .slice none 0 0] 82 (0, 0)) (by (with_reducible repeat (first | refine pkN ?_ _ | refine pkD ?_ | refine pkA ?_ _)); exact BK999.out) NB999_992.out (by simp)); have n2_ := Aside0.mk (hb); have n3_ := Aside0.mk (hi); clear BK989; clear BK999; clear HB; clear HI992; have BK989 := n0_; have BK999 := n1_; have HB := n2_; have HI992 := n3_; clear n0_ n1_ n2_ n3_; (try clear hb); (try clear hb2); (try clear hk); (try clear hi); have hnb86 := NB989_992.out; have hnc86 := NB992_989.out; have hcz87_0 : w85.cell? ⟨gb989, 0, none⟩ = some (.int .i64 0) := (pkC BK989.out 0).trans rfl; have hcz87_1 : w85.cell? ⟨gb989, 1, none⟩ = some (.int .i64 0) := (pkC BK989.out 1).trans rfl; have hcz87_2 : w85.cell? ⟨gb989, 2, none⟩ = some (.bool false) := (pkC BK989.out 2).trans rfl; have hcz87_3 : w85.cell? ⟨gb989, 3, none⟩ = some (.slice none 0 0) := (pkC BK989.out 3).trans rfl; have hcz87_4 : w85.cell? ⟨gb989, 4, none⟩ = some (.slice none 0 0) := (pkC BK989.out 4).trans rfl; have hfz87_0 := pkF BK989.out 0; have hfz87_1 := pkF BK989.out 1; have hfz87_2 := pkF BK989.out 2; have hfz87_3 := pkF BK989.out 3; have hfz87_4 := pkF BK989.out 4))
   refine bodyPost_ret (results_ct rfl _ _ gb989 82 #[.int .i64 0, .int .i64 0, .bool false, .slice none 0 0, .slice none 0 0] (0, 0) _ rfl (by (with_reducible repeat (first | refine pkN ?_ _ | refine pkD ?_ | refine pkA ?_ _)); refine blk_put (cs := #[.int .i64 0, .int .i64 0, .bool false, .slice none 0 0, .slice none 0 0]) ?_ 4 _ rfl; (with_reducible repeat (first | refine pkN ?_ _ | refine pkD ?_ | refine pkA ?_ _)); refine blk_put (cs := #[.int .i64 0, .int .i64 0, .bool false, .slice none 0 0, .slice none 0 0]) ?_ 3 _ rfl; (with_reducible repeat (first | refine pkN ?_ _ | refine pkD ?_ | refine pkA ?_ _)); refine blk_put (cs := #[.int .i64 0, .int .i64 0, .bool false, .slice none 0 0, .slice none 0 0]) ?_ 2 _ (by first | rfl | (have hb_ : (t1000 == 1) = true := (by first | assumption | (simp [*]; done)); rw [hb_]; rfl) | (have hb_ : (t1000 == 1) = false := (by first | assumption | (simp [*]; done)); rw [hb_]; rfl)); (with_reducible repeat (first | refine pkN ?_ _ | refine pkD ?_ | refine pkA ?_ _)); refine blk_put (cs := #[.int .i64 0, .int .i64 0, .bool false, .slice none 0 0, .slice none 0 0]) ?_ 1 _ rfl; (with_reducible repeat (first | refine pkN ?_ _ | refine pkD ?_ | refine pkA ?_ _)); refine blk_put (cs := #[.int .i64 0, .int .i64 0, .bool false, .slice none 0 0, .slice none 0 0]) ?_ 0 _ rfl; (with_reducible repeat (first | refine pkN ?_ _ | refine pkD ?_ | refine pkA ?_ _)); exact BK989.out) Try.underlying82 rfl (by kernel_rfl)) rfl ?_
   exact ⟨_, _, by first | rfl | (simp [errW_none, errW_some] <;> rfl) | (simp [*, errW_none, errW_some] <;> rfl), by first | exact Kd.R_nil _ _ _ _ _ | exact Kd.N_nil _ _ _ _ _ | exact Kd.V_nil _ _ _ _ _ | exact Kd.Q_nil _ _ _ _ _ | exact Kd.S_nil _ _ _ _ _, by first | exact Kd.S_nil _ _ _ _ _ | exact Kd.N_nil _ _ _ _ _ | exact Kd.V_nil _ _ _ _ _ | exact Kd.Q_nil _ _ _ _ _ | exact Kd.R_nil _ _ _ _ _, by repeat (first | (with_reducible first | exact HB.out | apply pbA | apply pbN | apply pbD | refine pbS ?_ (IsS185.ge HI992.out) | refine pbS ?_ GE989.out | refine pbS ?_ GE999.out) | exact HB.out)⟩
end Go.Proofs.Ytipgldfbjlhpoab.P
