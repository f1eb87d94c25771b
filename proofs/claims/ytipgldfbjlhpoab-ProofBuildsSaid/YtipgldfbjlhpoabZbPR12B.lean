-- Printed by wip/myprint.py.
import Derived.Test.YtipgldfbjlhpoabZbP0
import Derived.Test.YtipgldfbjlhpoabZbHStr
import Derived.Test.YtipgldfbjlhpoabZbPR12I
import Derived.Test.YtipgldfbjlhpoabZbPRMerkle
namespace Go.Proofs.Ytipgldfbjlhpoab.P
open Go.RowKit Go.Proofs.YtipgldfbjlhpoabW.PrintWords Go.Proofs.YtipgldfbjlhpoabW.PrintLast Go.Proofs.YtipgldfbjlhpoabW.PrintMore
attribute [local go_sem] max2_int min2_int max_two min_two max_three min_three max_four min_four   -- for this text's walks alone
attribute [local go_sem] geq_str gtr_str
set_option linter.unusedVariables false
set_option linter.unusedSimpArgs false
def footbridgeref12_path.f : Nat → List (S86) → Int → Option (List ByteArray)
 | 0, _, _ => none
 | k + 1, l0, a1 => if (l0.length : Int) < 2 then (some ([] : List ByteArray)) else ((footbridgeref11_Split.f k (l0.length : Int)).bind fun t1071 => (if a1 < t1071 then (if 0 ≤ t1071 then (if t1071 ≤ (l0.length : Int) then ((footbridgeref11_Tree.f k (l0.drop (t1071 : Int).toNat)).bind fun bt1076 => ((footbridgeref12_path.f k (l0.take (t1071 : Int).toNat) a1).bind fun t1084 => (if t1084.length < 8796093022208 then (some (t1084 ++ [bt1076.1])) else (none)))) else (none)) else (none)) else (if 0 ≤ t1071 then (if t1071 ≤ (l0.length : Int) then ((footbridgeref11_Tree.f k (l0.take (t1071 : Int).toNat)).bind fun bt1094 => ((footbridgeref12_path.f k (l0.drop (t1071 : Int).toNat) (wrap64 (a1 - t1071))).bind fun t1102 => (if t1102.length < 8796093022208 then (some (t1102 ++ [bt1094.1])) else (none)))) else (none)) else (none))))
set_option maxHeartbeats 8000000 in
set_option maxRecDepth 100000 in
theorem footbridgeref12_path.calls (k : Nat) : ∀ (A0 : Option Addr) (c0 : Nat) (l0 : List (S86)) (a1 : Int) (r : List ByteArray) (w : World) (hr0 : Kd.C k86 w A0 l0.length l0) (hc0 : l0.length ≤ c0) (h : footbridgeref12_path.f k l0 a1 = some r),
  Calls Try.prog 124 #[.slice A0 l0.length c0, .int .i64 a1] w fun e w' => ∃ v0_ : Value, e = .returned (v0_) ∧ Kd.R Kd.string 9 w' w.heap.size (fun _ => True) v0_ r ∧ Below w.heap.size w w' := by
 induction k using Nat.strongRecOn with
 | _ k ih =>
 intro A0 c0 l0 a1 r w hr0 hc0 h
 cases k with
 | zero => exact absurd h (by simp [footbridgeref12_path.f])
 | succ k =>
 simp only [footbridgeref12_path.f] at h
 have HR0 := Aside0.mk hr0
 have HC0 := Aside0.mk hc0
 clear hr0 hc0
 have HB := Aside0.mk (Below.refl w.heap.size w)
 have H : (if (l0.length : Int) < 2 then (some ([] : List ByteArray)) else ((footbridgeref11_Split.f k (l0.length : Int)).bind fun t1071 => (if a1 < t1071 then (if 0 ≤ t1071 then (if t1071 ≤ (l0.length : Int) then ((footbridgeref11_Tree.f k (l0.drop (t1071 : Int).toNat)).bind fun bt1076 => ((footbridgeref12_path.f k (l0.take (t1071 : Int).toNat) a1).bind fun t1084 => (if t1084.length < 8796093022208 then (some (t1084 ++ [bt1076.1])) else (none)))) else (none)) else (none)) else (if 0 ≤ t1071 then (if t1071 ≤ (l0.length : Int) then ((footbridgeref11_Tree.f k (l0.take (t1071 : Int).toNat)).bind fun bt1094 => ((footbridgeref12_path.f k (l0.drop (t1071 : Int).toNat) (wrap64 (a1 - t1071))).bind fun t1102 => (if t1102.length < 8796093022208 then (some (t1102 ++ [bt1094.1])) else (none)))) else (none)) else (none))))) = some r := h
 clear h
 by_cases c3 : (l0.length : Int) < 2
 · rw [if_pos c3] at H
   have c3b0 : decide ((l0.length : Int) < 2) = true := decide_eq_true c3
   have c3b1 : decide (l0.length < 2) = true := decide_eq_true (by omega)
   clear c3
   obtain rfl := Option.some.inj H
   go_enter Try.func124, Try.ntmps124
   go_wp2
   go_ret
   exact ⟨_, by first | rfl | (simp [errW_none, errW_some] <;> rfl) | (simp [*, errW_none, errW_some] <;> rfl), by first | exact Kd.R_nil _ _ _ _ _ | exact Kd.N_nil _ _ _ _ _ | exact Kd.V_nil _ _ _ _ _ | exact Kd.Q_nil _ _ _ _ _ | exact Kd.S_nil _ _ _ _ _, by repeat (first | (with_reducible first | exact HB.out | apply pbA | apply pbN | apply pbD) | exact HB.out)⟩
 · rw [if_neg c3] at H
   have c3b0 : decide ((l0.length : Int) < 2) = false := decide_eq_false c3
   have c3b1 : decide (l0.length < 2) = false := decide_eq_false (by omega)
   clear c3
   replace H := Option.bind_eq_some_iff.mp H
   obtain ⟨t1071, A40, H⟩ := H
   replace H : (if a1 < t1071 then (if 0 ≤ t1071 then (if t1071 ≤ (l0.length : Int) then ((footbridgeref11_Tree.f k (l0.drop (t1071 : Int).toNat)).bind fun bt1076 => ((footbridgeref12_path.f k (l0.take (t1071 : Int).toNat) a1).bind fun t1084 => (if t1084.length < 8796093022208 then (some (t1084 ++ [bt1076.1])) else (none)))) else (none)) else (none)) else (if 0 ≤ t1071 then (if t1071 ≤ (l0.length : Int) then ((footbridgeref11_Tree.f k (l0.take (t1071 : Int).toNat)).bind fun bt1094 => ((footbridgeref12_path.f k (l0.drop (t1071 : Int).toNat) (wrap64 (a1 - t1071))).bind fun t1102 => (if t1102.length < 8796093022208 then (some (t1102 ++ [bt1094.1])) else (none)))) else (none)) else (none))) = some r := H
   have A4 := Aside0.mk A40
   clear A40
   by_cases c5 : a1 < t1071
   · rw [if_pos c5] at H
     have c5b0 : decide (a1 < t1071) = true := decide_eq_true c5
     clear c5
     by_cases c6 : 0 ≤ t1071
     · rw [if_pos c6] at H
       have c6b0 := eq_true c6
       have c6b1 : decide (0 ≤ t1071) = true := decide_eq_true c6
       clear c6
       by_cases c7 : t1071 ≤ (l0.length : Int)
       · rw [if_pos c7] at H
         have c7b0 := eq_true c7
         have c7b1 : decide (t1071 ≤ (l0.length : Int)) = true := decide_eq_true c7
         clear c7
         obtain ⟨y1072, hy1072⟩ : ∃ y_ : List (S86), y_ = (l0.drop (t1071 : Int).toNat) := ⟨_, rfl⟩
         replace H : ((footbridgeref11_Tree.f k y1072).bind fun bt1076 => ((footbridgeref12_path.f k (l0.take (t1071 : Int).toNat) a1).bind fun t1084 => (if t1084.length < 8796093022208 then (some (t1084 ++ [bt1076.1])) else (none)))) = some r := by first | (rw [hy1072]; with_reducible exact H) | (have H2_ := (Option.bind_some _ _).symm.trans H; rw [hy1072]; with_reducible exact H2_) | (have H2_ := (Option.bind_some _ _).symm.trans H; with_reducible exact H2_) | with_reducible exact H | (rw [hy1072]; exact H) | exact H
         have Ny1072 := Aside0.mk hy1072
         clear hy1072
         replace H := Option.bind_eq_some_iff.mp H
         obtain ⟨⟨t1076, t1077⟩, A80, H⟩ := H
         replace H : ((footbridgeref12_path.f k (l0.take (t1071 : Int).toNat) a1).bind fun t1084 => (if t1084.length < 8796093022208 then (some (t1084 ++ [t1076])) else (none))) = some r := H
         have A8 := Aside0.mk A80
         clear A80
         have c9b0 := eq_true (of_decide_eq_true (by first | (with_reducible assumption) | assumption) : 0 ≤ t1071)
         have c10b0 := eq_true (of_decide_eq_true (by first | (with_reducible assumption) | assumption) : t1071 ≤ (l0.length : Int))
         obtain ⟨y1080, hy1080⟩ : ∃ y_ : List (S86), y_ = (l0.take (t1071 : Int).toNat) := ⟨_, rfl⟩
         replace H : ((footbridgeref12_path.f k y1080 a1).bind fun t1084 => (if t1084.length < 8796093022208 then (some (t1084 ++ [t1076])) else (none))) = some r := by first | (rw [hy1080]; with_reducible exact H) | (have H2_ := (Option.bind_some _ _).symm.trans H; rw [hy1080]; with_reducible exact H2_) | (have H2_ := (Option.bind_some _ _).symm.trans H; with_reducible exact H2_) | with_reducible exact H | (rw [hy1080]; exact H) | exact H
         have Ny1080 := Aside0.mk hy1080
         clear hy1080
         replace H := Option.bind_eq_some_iff.mp H
         obtain ⟨t1084, A110, H⟩ := H
         replace H : (if t1084.length < 8796093022208 then (some (t1084 ++ [t1076])) else (none)) = some r := H
         have A11 := Aside0.mk A110
         clear A110
         by_cases c12 : t1084.length < 8796093022208
         · rw [if_pos c12] at H
           have LMc12 := Aside0.mk c12
           clear c12
           obtain ⟨y1087, hy1087⟩ : ∃ y_ : List ByteArray, y_ = (t1084 ++ [t1076]) := ⟨_, rfl⟩
           replace H : (some y1087) = some r := by first | (rw [hy1087]; with_reducible exact H) | (have H2_ := (Option.bind_some _ _).symm.trans H; rw [hy1087]; with_reducible exact H2_) | (have H2_ := (Option.bind_some _ _).symm.trans H; with_reducible exact H2_) | with_reducible exact H | (rw [hy1087]; exact H) | exact H
           have Ny1087 := Aside0.mk hy1087
           clear hy1087
           obtain rfl := Option.some.inj H
           go_enter Try.func124, Try.ntmps124
           go_wp2_with (first | ((with_reducible refine gate_callee (f := 160) rfl ?_); refine goesL_ (some 15) rfl rfl Try.func160 (by kernel_rfl) rfl #[.int .i64 (l0.length : Int)] rfl (by (try simp only [List.map_toArray, List.map_cons, List.map_nil]); first | done | rfl | (simp only [List.length_drop, List.length_take]; rfl)) ?_; (with_reducible refine (footbridgeref11_Split.calls k (l0.length : Int) t1071 _ A4.out).mono ?_); rintro e w' ⟨rfl, ⟨nd, rfl⟩⟩; refine ⟨_, rfl, ?_⟩; have q13 : (t1071 : Int) ≤ ((l0.length : Int) : Int) := of_decide_eq_true (by first | (with_reducible assumption) | assumption); obtain ⟨i013, hi013, _, hsz13, _⟩ := info_parts info86; have hroom13 : l0.length ≤ c0 := HC0.out; have hC13 : Kd.C k86 _ A0 l0.length l0 := HR0.out; have q013 : (0 : Int) ≤ (t1071 : Int) := of_decide_eq_true (by first | (with_reducible assumption) | assumption); have hcut13 := cut_from (P := Try.prog) 39 86 .i64 Try.underlying39 hi013 2 hsz13 A0 l0.length c0 t1071 q013 q13; have hr13 := Kd.C_drop (m := (t1071 : Int).toNat) (c := c0) hC13 (by omega) hroom13; obtain ⟨A13, hA13⟩ : ∃ A1, A1 = (if c0 = (t1071 : Int).toNat then A0 else (A0 : Option Addr).map (·.add ((t1071 : Int).toNat * 2))) := ⟨_, rfl⟩; obtain ⟨c13, hc13⟩ : ∃ c1, c1 = c0 - (t1071 : Int).toNat := ⟨_, rfl⟩; have hy13 : y1072.length = l0.length - (t1071 : Int).toNat := (by rw [Ny1072.out, List.length_drop] <;> omega); rw [show (l0).drop (t1071 : Int).toNat = y1072 from Ny1072.out.symm] at hr13; replace hr13 : Kd.C k86 _ A13 y1072.length y1072 := (by rw [hA13]; exact hr13); rw [← hy13, ← hA13, ← hc13] at hcut13; have HR1075 := Aside0.mk hr13; have HC1075 := Aside0.mk (show y1072.length ≤ c13 from by rw [hy13, hc13]; exact Nat.sub_le_sub_right hroom13 _); clear hr13 hC13 hroom13 hi013 hsz13 hc13; have KY13 := Aside0.mk hy13; have KA13 := Aside0.mk hA13; clear hy13 hA13; replace q13 := eq_true q13) | ((with_reducible refine gate_callee (f := 134) rfl ?_); refine goesL_ (some 23) rfl rfl Try.func134 (by kernel_rfl) rfl #[.slice A13 y1072.length c13] rfl (by (try simp only [List.map_toArray, List.map_cons, List.map_nil]); first | done | rfl | (simp only [List.length_drop, List.length_take]; rfl)) ?_; (with_reducible refine (footbridgeref11_Tree.calls k _ _ y1072 t1076 t1077 _ ?side1 ?side2 A8.out).mono ?_); (case side1 => repeat (first | exact HR1075.out | (with_reducible refine Kd.C_alloc ?_ _) | (with_reducible refine Kd.C_drewN ?_ _) | (with_reducible refine Kd.C_drew ?_))); (case side2 => exact HC1075.out); rintro e w14 ⟨v1078, rfl, ho0, hb⟩; refine ⟨_, rfl, ?_⟩; have n0_ := Aside0.mk (Kd.R_lower ho0 (below_size (by repeat (first | (with_reducible first | exact HB.out | apply pbA | apply pbN | apply pbD) | exact HB.out)))); have n1_ := Aside0.mk (below_step (by repeat (first | (with_reducible first | exact HB.out | apply pbA | apply pbN | apply pbD) | exact HB.out)) hb); clear HB; have HO1079 := n0_; have HB := n1_; clear n0_ n1_; (try clear hb); (try clear hb2); (try clear hk); (try clear hi); (try clear ho0); have q15 : (t1071 : Int) ≤ ((l0.length : Int) : Int) := of_decide_eq_true (by first | (with_reducible assumption) | assumption); obtain ⟨i015, hi015, _, hsz15, _⟩ := info_parts info86; have hroom15 : l0.length ≤ c0 := HC0.out; have hC15 : Kd.C k86 _ A0 l0.length l0 := HR0.out; have hcut15 := cut_to (P := Try.prog) 39 86 .i64 Try.underlying39 hi015 A0 l0.length c0 t1071 (of_decide_eq_true (by first | (with_reducible assumption) | assumption)) q15 hroom15; have hr15 := Kd.C_take (m := (t1071 : Int).toNat) hC15 (by omega); have hy15 : y1080.length = (t1071 : Int).toNat := (by rw [Ny1080.out, List.length_take]; omega); rw [← Ny1080.out] at hr15; rw [← hy15] at hcut15; have HR1083 := Aside0.mk hr15; have HC1083 := Aside0.mk (show y1080.length ≤ c0 from by omega); clear hr15 hC15 hroom15 hi015 hsz15; have KY15 := Aside0.mk hy15; clear hy15; replace q15 := eq_true q15) | ((with_reducible refine gate_callee (f := 124) rfl ?_); refine goesL_ (some 30) rfl rfl Try.func124 (by kernel_rfl) rfl #[.slice A0 y1080.length c0, .int .i64 a1] rfl (by (try simp only [List.map_toArray, List.map_cons, List.map_nil]); first | done | rfl | (simp only [List.length_drop, List.length_take]; rfl)) ?_; (with_reducible refine (ih k (by omega) _ _ y1080 a1 t1084 _ ?side1 ?side2 A11.out).mono ?_); (case side1 => repeat (first | exact (Kd.C_below HR1083.out HB.out) | (with_reducible refine Kd.C_alloc ?_ _) | (with_reducible refine Kd.C_drewN ?_ _) | (with_reducible refine Kd.C_drew ?_))); (case side2 => exact HC1083.out); rintro e w16 ⟨v1085, rfl, ho0, hb⟩; refine ⟨_, rfl, ?_⟩; have n0_ := Aside0.mk (Kd.R_elder' (by (with_reducible repeat (first | apply Kd.R_alloc | apply Kd.R_drewN | apply Kd.R_drew)); exact HO1079.out) (Kd.R_base ho0) hb); have n1_ := Aside0.mk (Kd.R_lower (Kd.R_new' ho0 (Kd.R_lt (by (with_reducible repeat (first | apply Kd.R_alloc | apply Kd.R_drewN | apply Kd.R_drew)); exact HO1079.out))) (below_size (by repeat (first | (with_reducible first | exact HB.out | apply pbA | apply pbN | apply pbD) | exact HB.out)))); have n2_ := Aside0.mk (below_step (by repeat (first | (with_reducible first | exact HB.out | apply pbA | apply pbN | apply pbD) | exact HB.out)) hb); clear HO1079; clear HB; have HO1079 := n0_; have HO1086 := n1_; have HB := n2_; clear n0_ n1_ n2_; (try clear hb); (try clear hb2); (try clear hk); (try clear hi); (try clear ho0)) | ((with_reducible refine gate_builtin (b := .append) (xs := #[.tmp 30, .tmp 32]) rfl ?_); at_builtin; refine Kd.R_append Kd.string (w0 := w) w.heap.size rfl (.tmp 30) (.tmp 32) 63 9 (.string ⟨#[]⟩) 16 rfl Try.underlying63 info9 rfl (by decide) (by omega) v1085 t1084 t1076 [.string t1076] (fun k_ => some k_ ≠ (v1078 : Value).ownBlock) (fun _ => False) rfl rfl ?aP (fun _ hk => hk.elim) ?aF ?aO ?aB ?aS ?aL ?_; (case aP => exact rfl); (case aB => exact (by repeat (first | (with_reducible first | exact HB.out | apply pbA | apply pbN | apply pbD) | exact HB.out))); (case aF => exact (fun k_ hk => Kd.fresh' (Kd.R_lt (by (with_reducible repeat (first | apply Kd.R_alloc | apply Kd.R_drewN | apply Kd.R_drew)); exact HO1079.out)) k_ hk)); (case aO => exact (by (with_reducible repeat (first | apply Kd.R_alloc | apply Kd.R_drewN | apply Kd.R_drew)); exact Kd.R_mono HO1086.out (fun _ hk => hk.2))); (case aS => exact (below_size (by repeat (first | (with_reducible first | exact HB.out | apply pbA | apply pbN | apply pbD) | exact HB.out)))); (case aL => have := LMc12.out; omega); intro v1088 w17 ho hb hg hat; rw [← Ny1087.out] at ho; have n0_ := Aside0.mk (Kd.R_after (ok := (fun _ => True)) (by (with_reducible repeat (first | apply Kd.R_alloc | apply Kd.R_drewN | apply Kd.R_drew)); exact HO1079.out) hg hat); have n1_ := Aside0.mk (hb); have n2_ := Aside0.mk (ho); clear HO1079; clear HB; clear HO1086; have HO1079 := n0_; have HB := n1_; have HO1089 := n2_; clear n0_ n1_ n2_; clear ho hb hg hat))
           go_ret
           exact ⟨_, by first | rfl | (simp [errW_none, errW_some] <;> rfl) | (simp [*, errW_none, errW_some] <;> rfl), by (with_reducible repeat (first | apply Kd.R_alloc | apply Kd.R_drewN | apply Kd.R_drew)); exact Kd.R_mono HO1089.out (fun _ hk => trivial), by repeat (first | (with_reducible first | exact HB.out | apply pbA | apply pbN | apply pbD) | exact HB.out)⟩
         · rw [if_neg c12] at H
           exact absurd H (by simp)
       · rw [if_neg c7] at H
         exact absurd H (by simp)
     · rw [if_neg c6] at H
       exact absurd H (by simp)
   · rw [if_neg c5] at H
     have c5b0 : decide (a1 < t1071) = false := decide_eq_false c5
     clear c5
     by_cases c18 : 0 ≤ t1071
     · rw [if_pos c18] at H
       have c18b0 := eq_true c18
       have c18b1 : decide (0 ≤ t1071) = true := decide_eq_true c18
       clear c18
       by_cases c19 : t1071 ≤ (l0.length : Int)
       · rw [if_pos c19] at H
         have c19b0 := eq_true c19
         have c19b1 : decide (t1071 ≤ (l0.length : Int)) = true := decide_eq_true c19
         clear c19
         obtain ⟨y1090, hy1090⟩ : ∃ y_ : List (S86), y_ = (l0.take (t1071 : Int).toNat) := ⟨_, rfl⟩
         replace H : ((footbridgeref11_Tree.f k y1090).bind fun bt1094 => ((footbridgeref12_path.f k (l0.drop (t1071 : Int).toNat) (wrap64 (a1 - t1071))).bind fun t1102 => (if t1102.length < 8796093022208 then (some (t1102 ++ [bt1094.1])) else (none)))) = some r := by first | (rw [hy1090]; with_reducible exact H) | (have H2_ := (Option.bind_some _ _).symm.trans H; rw [hy1090]; with_reducible exact H2_) | (have H2_ := (Option.bind_some _ _).symm.trans H; with_reducible exact H2_) | with_reducible exact H | (rw [hy1090]; exact H) | exact H
         have Ny1090 := Aside0.mk hy1090
         clear hy1090
         replace H := Option.bind_eq_some_iff.mp H
         obtain ⟨⟨t1094, t1095⟩, A200, H⟩ := H
         replace H : ((footbridgeref12_path.f k (l0.drop (t1071 : Int).toNat) (wrap64 (a1 - t1071))).bind fun t1102 => (if t1102.length < 8796093022208 then (some (t1102 ++ [t1094])) else (none))) = some r := H
         have A20 := Aside0.mk A200
         clear A200
         have c21b0 := eq_true (of_decide_eq_true (by first | (with_reducible assumption) | assumption) : 0 ≤ t1071)
         have c22b0 := eq_true (of_decide_eq_true (by first | (with_reducible assumption) | assumption) : t1071 ≤ (l0.length : Int))
         obtain ⟨y1098, hy1098⟩ : ∃ y_ : List (S86), y_ = (l0.drop (t1071 : Int).toNat) := ⟨_, rfl⟩
         replace H : ((footbridgeref12_path.f k y1098 (wrap64 (a1 - t1071))).bind fun t1102 => (if t1102.length < 8796093022208 then (some (t1102 ++ [t1094])) else (none))) = some r := by first | (rw [hy1098]; with_reducible exact H) | (have H2_ := (Option.bind_some _ _).symm.trans H; rw [hy1098]; with_reducible exact H2_) | (have H2_ := (Option.bind_some _ _).symm.trans H; with_reducible exact H2_) | with_reducible exact H | (rw [hy1098]; exact H) | exact H
         have Ny1098 := Aside0.mk hy1098
         clear hy1098
         replace H := Option.bind_eq_some_iff.mp H
         obtain ⟨t1102, A230, H⟩ := H
         replace H : (if t1102.length < 8796093022208 then (some (t1102 ++ [t1094])) else (none)) = some r := H
         have A23 := Aside0.mk A230
         clear A230
         by_cases c24 : t1102.length < 8796093022208
         · rw [if_pos c24] at H
           have LMc24 := Aside0.mk c24
           clear c24
           obtain ⟨y1105, hy1105⟩ : ∃ y_ : List ByteArray, y_ = (t1102 ++ [t1094]) := ⟨_, rfl⟩
           replace H : (some y1105) = some r := by first | (rw [hy1105]; with_reducible exact H) | (have H2_ := (Option.bind_some _ _).symm.trans H; rw [hy1105]; with_reducible exact H2_) | (have H2_ := (Option.bind_some _ _).symm.trans H; with_reducible exact H2_) | with_reducible exact H | (rw [hy1105]; exact H) | exact H
           have Ny1105 := Aside0.mk hy1105
           clear hy1105
           obtain rfl := Option.some.inj H
           go_enter Try.func124, Try.ntmps124
           go_wp2_with (first | ((with_reducible refine gate_callee (f := 160) rfl ?_); refine goesL_ (some 15) rfl rfl Try.func160 (by kernel_rfl) rfl #[.int .i64 (l0.length : Int)] rfl (by (try simp only [List.map_toArray, List.map_cons, List.map_nil]); first | done | rfl | (simp only [List.length_drop, List.length_take]; rfl)) ?_; (with_reducible refine (footbridgeref11_Split.calls k (l0.length : Int) t1071 _ A4.out).mono ?_); rintro e w' ⟨rfl, ⟨nd, rfl⟩⟩; refine ⟨_, rfl, ?_⟩; have q25 : (t1071 : Int) ≤ ((l0.length : Int) : Int) := of_decide_eq_true (by first | (with_reducible assumption) | assumption); obtain ⟨i025, hi025, _, hsz25, _⟩ := info_parts info86; have hroom25 : l0.length ≤ c0 := HC0.out; have hC25 : Kd.C k86 _ A0 l0.length l0 := HR0.out; have hcut25 := cut_to (P := Try.prog) 39 86 .i64 Try.underlying39 hi025 A0 l0.length c0 t1071 (of_decide_eq_true (by first | (with_reducible assumption) | assumption)) q25 hroom25; have hr25 := Kd.C_take (m := (t1071 : Int).toNat) hC25 (by omega); have hy25 : y1090.length = (t1071 : Int).toNat := (by rw [Ny1090.out, List.length_take]; omega); rw [← Ny1090.out] at hr25; rw [← hy25] at hcut25; have HR1093 := Aside0.mk hr25; have HC1093 := Aside0.mk (show y1090.length ≤ c0 from by omega); clear hr25 hC25 hroom25 hi025 hsz25; have KY25 := Aside0.mk hy25; clear hy25; replace q25 := eq_true q25) | ((with_reducible refine gate_callee (f := 134) rfl ?_); refine goesL_ (some 38) rfl rfl Try.func134 (by kernel_rfl) rfl #[.slice A0 y1090.length c0] rfl (by (try simp only [List.map_toArray, List.map_cons, List.map_nil]); first | done | rfl | (simp only [List.length_drop, List.length_take]; rfl)) ?_; (with_reducible refine (footbridgeref11_Tree.calls k _ _ y1090 t1094 t1095 _ ?side1 ?side2 A20.out).mono ?_); (case side1 => repeat (first | exact HR1093.out | (with_reducible refine Kd.C_alloc ?_ _) | (with_reducible refine Kd.C_drewN ?_ _) | (with_reducible refine Kd.C_drew ?_))); (case side2 => exact HC1093.out); rintro e w26 ⟨v1096, rfl, ho0, hb⟩; refine ⟨_, rfl, ?_⟩; have n0_ := Aside0.mk (Kd.R_lower ho0 (below_size (by repeat (first | (with_reducible first | exact HB.out | apply pbA | apply pbN | apply pbD) | exact HB.out)))); have n1_ := Aside0.mk (below_step (by repeat (first | (with_reducible first | exact HB.out | apply pbA | apply pbN | apply pbD) | exact HB.out)) hb); clear HB; have HO1097 := n0_; have HB := n1_; clear n0_ n1_; (try clear hb); (try clear hb2); (try clear hk); (try clear hi); (try clear ho0); have q27 : (t1071 : Int) ≤ ((l0.length : Int) : Int) := of_decide_eq_true (by first | (with_reducible assumption) | assumption); obtain ⟨i027, hi027, _, hsz27, _⟩ := info_parts info86; have hroom27 : l0.length ≤ c0 := HC0.out; have hC27 : Kd.C k86 _ A0 l0.length l0 := HR0.out; have q027 : (0 : Int) ≤ (t1071 : Int) := of_decide_eq_true (by first | (with_reducible assumption) | assumption); have hcut27 := cut_from (P := Try.prog) 39 86 .i64 Try.underlying39 hi027 2 hsz27 A0 l0.length c0 t1071 q027 q27; have hr27 := Kd.C_drop (m := (t1071 : Int).toNat) (c := c0) hC27 (by omega) hroom27; obtain ⟨A27, hA27⟩ : ∃ A1, A1 = (if c0 = (t1071 : Int).toNat then A0 else (A0 : Option Addr).map (·.add ((t1071 : Int).toNat * 2))) := ⟨_, rfl⟩; obtain ⟨c27, hc27⟩ : ∃ c1, c1 = c0 - (t1071 : Int).toNat := ⟨_, rfl⟩; have hy27 : y1098.length = l0.length - (t1071 : Int).toNat := (by rw [Ny1098.out, List.length_drop] <;> omega); rw [show (l0).drop (t1071 : Int).toNat = y1098 from Ny1098.out.symm] at hr27; replace hr27 : Kd.C k86 _ A27 y1098.length y1098 := (by rw [hA27]; exact hr27); rw [← hy27, ← hA27, ← hc27] at hcut27; have HR1101 := Aside0.mk hr27; have HC1101 := Aside0.mk (show y1098.length ≤ c27 from by rw [hy27, hc27]; exact Nat.sub_le_sub_right hroom27 _); clear hr27 hC27 hroom27 hi027 hsz27 hc27; have KY27 := Aside0.mk hy27; have KA27 := Aside0.mk hA27; clear hy27 hA27; replace q27 := eq_true q27) | ((with_reducible refine gate_callee (f := 124) rfl ?_); refine goesL_ (some 47) rfl rfl Try.func124 (by kernel_rfl) rfl #[.slice A27 y1098.length c27, .int .i64 (wrap64 (a1 - t1071))] rfl (by (try simp only [List.map_toArray, List.map_cons, List.map_nil]); first | done | rfl | (simp only [List.length_drop, List.length_take]; rfl)) ?_; (with_reducible refine (ih k (by omega) _ _ y1098 (wrap64 (a1 - t1071)) t1102 _ ?side1 ?side2 A23.out).mono ?_); (case side1 => repeat (first | exact (Kd.C_below HR1101.out HB.out) | (with_reducible refine Kd.C_alloc ?_ _) | (with_reducible refine Kd.C_drewN ?_ _) | (with_reducible refine Kd.C_drew ?_))); (case side2 => exact HC1101.out); rintro e w28 ⟨v1103, rfl, ho0, hb⟩; refine ⟨_, rfl, ?_⟩; have n0_ := Aside0.mk (Kd.R_elder' (by (with_reducible repeat (first | apply Kd.R_alloc | apply Kd.R_drewN | apply Kd.R_drew)); exact HO1097.out) (Kd.R_base ho0) hb); have n1_ := Aside0.mk (Kd.R_lower (Kd.R_new' ho0 (Kd.R_lt (by (with_reducible repeat (first | apply Kd.R_alloc | apply Kd.R_drewN | apply Kd.R_drew)); exact HO1097.out))) (below_size (by repeat (first | (with_reducible first | exact HB.out | apply pbA | apply pbN | apply pbD) | exact HB.out)))); have n2_ := Aside0.mk (below_step (by repeat (first | (with_reducible first | exact HB.out | apply pbA | apply pbN | apply pbD) | exact HB.out)) hb); clear HO1097; clear HB; have HO1097 := n0_; have HO1104 := n1_; have HB := n2_; clear n0_ n1_ n2_; (try clear hb); (try clear hb2); (try clear hk); (try clear hi); (try clear ho0)) | ((with_reducible refine gate_builtin (b := .append) (xs := #[.tmp 47, .tmp 49]) rfl ?_); at_builtin; refine Kd.R_append Kd.string (w0 := w) w.heap.size rfl (.tmp 47) (.tmp 49) 63 9 (.string ⟨#[]⟩) 16 rfl Try.underlying63 info9 rfl (by decide) (by omega) v1103 t1102 t1094 [.string t1094] (fun k_ => some k_ ≠ (v1096 : Value).ownBlock) (fun _ => False) rfl rfl ?aP (fun _ hk => hk.elim) ?aF ?aO ?aB ?aS ?aL ?_; (case aP => exact rfl); (case aB => exact (by repeat (first | (with_reducible first | exact HB.out | apply pbA | apply pbN | apply pbD) | exact HB.out))); (case aF => exact (fun k_ hk => Kd.fresh' (Kd.R_lt (by (with_reducible repeat (first | apply Kd.R_alloc | apply Kd.R_drewN | apply Kd.R_drew)); exact HO1097.out)) k_ hk)); (case aO => exact (by (with_reducible repeat (first | apply Kd.R_alloc | apply Kd.R_drewN | apply Kd.R_drew)); exact Kd.R_mono HO1104.out (fun _ hk => hk.2))); (case aS => exact (below_size (by repeat (first | (with_reducible first | exact HB.out | apply pbA | apply pbN | apply pbD) | exact HB.out)))); (case aL => have := LMc24.out; omega); intro v1106 w29 ho hb hg hat; rw [← Ny1105.out] at ho; have n0_ := Aside0.mk (Kd.R_after (ok := (fun _ => True)) (by (with_reducible repeat (first | apply Kd.R_alloc | apply Kd.R_drewN | apply Kd.R_drew)); exact HO1097.out) hg hat); have n1_ := Aside0.mk (hb); have n2_ := Aside0.mk (ho); clear HO1097; clear HB; clear HO1104; have HO1097 := n0_; have HB := n1_; have HO1107 := n2_; clear n0_ n1_ n2_; clear ho hb hg hat))
           go_ret
           exact ⟨_, by first | rfl | (simp [errW_none, errW_some] <;> rfl) | (simp [*, errW_none, errW_some] <;> rfl), by (with_reducible repeat (first | apply Kd.R_alloc | apply Kd.R_drewN | apply Kd.R_drew)); exact Kd.R_mono HO1107.out (fun _ hk => trivial), by repeat (first | (with_reducible first | exact HB.out | apply pbA | apply pbN | apply pbD) | exact HB.out)⟩
         · rw [if_neg c24] at H
           exact absurd H (by simp)
       · rw [if_neg c19] at H
         exact absurd H (by simp)
     · rw [if_neg c18] at H
       exact absurd H (by simp)
mutual
def footbridgeref12_Build.j1 : Nat → List (S86) → ByteArray → Int → Option (Int × Int × Bool × (List (S86)) × (List (List ByteArray)))
 | 0, _, _, _ => none
 | k + 1, x0, x1, x5 => if x5 < (x0.length : Int) then (if 0 ≤ x5 then (footbridgeref12_Build.j2 k x0 x5 (((rd_T86 x0 x5).f0).toList == x1.toList) (x0.length : Int) x5 false) else (none)) else (footbridgeref12_Build.j2 k x0 x5 false (x0.length : Int) x5 false)
def footbridgeref12_Build.j2 : Nat → List (S86) → Int → Bool → Int → Int → Bool → Option (Int × Int × Bool × (List (S86)) × (List (List ByteArray)))
 | 0, _, _, _, _, _, _ => none
 | k + 1, x0, x5, x43, x1112000, x1112001, x1112002 => if x43 = true then ((footbridgeref12_path.f k x0 x5).bind fun t1113 => (some (x1112000, x1112001, true, ([] : List (S86)), (([t1113] : List (List ByteArray)))))) else (footbridgeref12_Build.l1 k x0 x5 (mx 0 (wrap64 (x5 - 1))) x1112000 x1112001 x1112002 ([] : List (S86)) ([] : List (List ByteArray)))
def footbridgeref12_Build.l1 : Nat → List (S86) → Int → Int → Int → Int → Bool → List (S86) → List (List ByteArray) → Option (Int × Int × Bool × (List (S86)) × (List (List ByteArray)))
 | 0, _, _, _, _, _, _, _, _ => none
 | k + 1, x0, x5, x7, x1112000, x1112001, x1112002, x1112003, x1112004 => if x7 ≤ x5 then (if x7 < (x0.length : Int) then (if 0 ≤ x7 then (if x1112003.length < 4398046511104 then ((footbridgeref12_path.f k x0 x7).bind fun t1123 => (if x1112004.length < 5864062014805 then (footbridgeref12_Build.l1 k x0 x5 (wrap64 (x7 + 1)) x1112000 x1112001 x1112002 (x1112003 ++ [(⟨(rd_T86 x0 x7).f0, (rd_T86 x0 x7).f1⟩ : S86)]) (x1112004 ++ [t1123])) else (none))) else (none)) else (none)) else (some (x1112000, x1112001, x1112002, x1112003, x1112004))) else (some (x1112000, x1112001, x1112002, x1112003, x1112004))
def footbridgeref12_Build.l0 : Nat → List (S86) → ByteArray → Int → Option (Int × Int × Bool × (List (S86)) × (List (List ByteArray)))
 | 0, _, _, _ => none
 | k + 1, x0, x1, x5 => if x5 < (x0.length : Int) then (if 0 ≤ x5 then (if (Op.bytesLess (((rd_T86 x0 x5).f0).toList) x1.toList) = true then (footbridgeref12_Build.l0 k x0 x1 (wrap64 (x5 + 1))) else (footbridgeref12_Build.j1 k x0 x1 x5)) else (none)) else (footbridgeref12_Build.j1 k x0 x1 x5)
end
def footbridgeref12_Build.f (k : Nat) (l0 : List (S86)) (a1 : ByteArray) : Option (Int × Int × Bool × (List (S86)) × (List (List ByteArray))) := (footbridgeref12_Rises.f k l0).bind fun t1109 => (if t1109 = true then (footbridgeref12_Build.l0 k l0 a1 0) else (some (0, 0, false, ([] : List (S86)), ([] : List (List ByteArray)))))
def footbridgeref12_Build.T14 : Bool × List (List Nat × List Nat) := (true, [([], []), ([0], [0]), ([], []), ([], []), ([2, 3], [2, 3]), ([4], [4]), ([5], [5]), ([1, 6], [1, 6]), ([0, 1, 2, 3, 4, 5, 6, 7], []), ([8, 7, 7, 0, 1, 2, 3, 4, 5, 6, 7], [7, 8])])
def footbridgeref12_Build.B14 : List Nat := [0, 1, 0, 0, 12, 28, 60, 127, 255, 511]
theorem footbridgeref12_Build.tab14 : rtab .any (opsOf Try.f54 14) = footbridgeref12_Build.T14 := by kernel_rfl
theorem footbridgeref12_Build.bits14 : waitsOk footbridgeref12_Build.T14.2 footbridgeref12_Build.B14 = true := by kernel_rfl
def footbridgeref12_Build.T15 : Bool × List (List Nat × List Nat) := (true, [([], []), ([0], [0]), ([], []), ([], []), ([2, 3], [2, 3]), ([4], [4]), ([1, 5, 4], [1, 5]), ([0, 1, 2, 3, 4, 5, 6], []), ([7, 6, 6, 0, 1, 2, 3, 4, 5, 6], [6, 7])])
def footbridgeref12_Build.B15 : List Nat := [0, 1, 0, 0, 12, 28, 63, 127, 255]
theorem footbridgeref12_Build.tab15 : rtab .any (opsOf Try.f54 15) = footbridgeref12_Build.T15 := by kernel_rfl
theorem footbridgeref12_Build.bits15 : waitsOk footbridgeref12_Build.T15.2 footbridgeref12_Build.B15 = true := by kernel_rfl
set_option maxHeartbeats 8000000 in
set_option maxRecDepth 100000 in
theorem footbridgeref12_Build.calls (k : Nat) (A0 : Option Addr) (c0 : Nat) (l0 : List (S86)) (a1 : ByteArray) (r1 : Int) (r2 : Int) (r3 : Bool) (r4 : List (S86)) (r5 : List (List ByteArray)) (w : World) (hr0 : Kd.C k86 w A0 l0.length l0) (hc0 : l0.length ≤ c0) (h : footbridgeref12_Build.f k l0 a1 = some (r1, r2, r3, r4, r5)) :
  Calls Try.prog 54 #[.slice A0 l0.length c0, .string a1] w fun e w' => ∃ v3_ v4_ : Value, e = .returned (.agg #[.int .i64 r1, .int .i64 r2, .bool r3, v3_, v4_]) ∧ Kd.R k86 86 w' w.heap.size (fun k_ => (w.heap.size ≤ k_)) v3_ r4 ∧ Kd.N (Kd.slice 9 Kd.string) 63 w' w.heap.size (fun k_ => (w.heap.size ≤ k_) ∧ some k_ ≠ (v3_ : Value).ownBlock) v4_ r5 ∧ Below w.heap.size w w' := by
 have hu82 := Try.underlying82
 have hu86 := Try.underlying86
 have HR0 := Aside0.mk hr0
 have HC0 := Aside0.mk hc0
 clear hr0 hc0
 have HB := Aside0.mk (Below.refl w.heap.size w)
 have H : ((footbridgeref12_Rises.f k l0).bind fun t1109 => (if t1109 = true then (footbridgeref12_Build.l0 k l0 a1 0) else (some (0, 0, false, ([] : List (S86)), ([] : List (List ByteArray)))))) = some (r1, r2, r3, r4, r5) := h
 clear h
 replace H := Option.bind_eq_some_iff.mp H
 obtain ⟨t1109, A30, H⟩ := H
 replace H : (if t1109 = true then (footbridgeref12_Build.l0 k l0 a1 0) else (some (0, 0, false, ([] : List (S86)), ([] : List (List ByteArray))))) = some (r1, r2, r3, r4, r5) := H
 have A3 := Aside0.mk A30
 clear A30
 by_cases c4 : t1109 = true
 · subst c4
   have H1 : (footbridgeref12_Build.l0 k l0 a1 0) = some (r1, r2, r3, r4, r5) := by rw [if_pos rfl] at H; exact H
   clear H
   have H := H1
   clear H1
   have HC5 := Aside0.mk H
   clear H
   go_enter Try.func54, Try.ntmps54
   go_upto_block 0 with (first | ((with_reducible refine gate_dst (N := 4) rfl ?_); refine box_event ?hg (N := 4) ?hd (cs := #[.int .i64 0, .int .i64 0, .bool false, .slice none 0 0, .slice none 0 0]) (t := 82) ?hr ?_; (case hd => rfl); (case hg => rfl); (case hr => first | (go_simp; done) | (go_simp; rfl)); intro gb1108 hg w6 hbox hb; have n0_ := Aside0.mk (below_step (by repeat (first | (with_reducible first | exact HB.out | apply pbA | apply pbN | apply pbD) | exact HB.out)) hb); have n1_ := Aside0.mk (hbox); have n2_ := Aside0.mk ((by rw [hg]; exact (below_size (by repeat (first | (with_reducible first | exact HB.out | apply pbA | apply pbN | apply pbD) | exact HB.out))) : w.heap.size ≤ gb1108)); have n3_ := Aside0.mk ((by rw [hg]; exact (below_size (by repeat (first | (with_reducible first | exact HB.out | apply pbA | apply pbN | apply pbD) | exact HB.out))) : w.heap.size ≤ gb1108)); clear HB; have HB := n0_; have BK1108 := n1_; have GW1108 := n2_; have GE1108 := n3_; clear n0_ n1_ n2_ n3_; clear hb hbox hg) | ((with_reducible refine gate_callee (f := 39) rfl ?_); refine goesL_ (some 9) rfl rfl Try.func39 (by kernel_rfl) rfl #[.slice A0 l0.length c0] rfl (by (try simp only [List.map_toArray, List.map_cons, List.map_nil]); first | done | rfl | (simp only [List.length_drop, List.length_take]; rfl)) ?_; (with_reducible refine (footbridgeref12_Rises.calls k _ _ l0 true _ ?side1 ?side2 A3.out).mono ?_); (case side1 => repeat (first | exact (Kd.C_below HR0.out HB.out) | (with_reducible refine Kd.C_alloc ?_ _) | (with_reducible refine Kd.C_drewN ?_ _) | (with_reducible refine Kd.C_drew ?_))); (case side2 => exact HC0.out); rintro e w' ⟨rfl, ⟨nd, rfl⟩⟩; refine ⟨_, rfl, ?_⟩))
   (try simp only [Act.put, zA, zB, zC])
   go_cut [5] (fun v5 wc => ∃ (kq : Nat) (x5_4 : Int), v5 = .int .i64 x5_4 ∧ Aside0 (footbridgeref12_Build.j1 kq l0 a1 x5_4 = some (r1, r2, r3, r4, r5)) ∧ Aside0 (kq ≤ k) ∧ Aside0 (wc.heap[gb1108]? = some (.cells #[.int .i64 0, .int .i64 0, .bool false, (.slice none 0 0), (.slice none 0 0)] 82 (0, 0))) ∧ Aside0 (Below w.heap.size w wc))
   case first =>
    have H := HC5.out
    clear HC5
    have H' := Aside0.mk H
    clear H
    go_wp2
    go_loopg [5] k (fun kq v5 w' => ∃ (x5_1 : Int), v5 = .int .i64 x5_1 ∧ Aside0 (footbridgeref12_Build.l0 kq l0 a1 x5_1 = some (r1, r2, r3, r4, r5)) ∧ Aside0 (kq ≤ k) ∧ Aside0 (w'.heap[gb1108]? = some (.cells #[.int .i64 0, .int .i64 0, .bool false, (.slice none 0 0), (.slice none 0 0)] 82 (0, 0))) ∧ Aside0 (Below w.heap.size w w'))
    case atStart => exact ⟨(0), (by first | rfl | (simp; done) | (simp [*]; done)), H', ⟨Nat.le_refl _⟩, ⟨by (with_reducible repeat (first | refine pkN ?_ _ | refine pkD ?_ | refine pkA ?_ _)); exact BK1108.out⟩, ⟨by repeat (first | (with_reducible first | exact HB.out | apply pbA | apply pbN | apply pbD | refine pbS ?_ GE1108.out) | exact HB.out)⟩⟩
    case round =>
     clear H'
     try clear p2
     try clear c3
     try clear c4
     try clear c5
     obtain ⟨x5_1, rfl, HA, HK1, BK1108, HB⟩ := hrel
     cases gk with
     | zero => exact absurd HA.out (by simp [footbridgeref12_Build.l0])
     | succ k1 =>
      have H := HA.out
      clear HA
      simp only [footbridgeref12_Build.l0] at H
      by_cases c7 : x5_1 < (l0.length : Int)
      · rw [if_pos c7] at H
        have c7b0 : decide (x5_1 < (l0.length : Int)) = true := decide_eq_true c7
        clear c7
        (first | rw [c7b0] | (simp only [i64_w, i32_w]; rw [c7b0]) | skip)
        by_cases c8 : 0 ≤ x5_1
        · rw [if_pos c8] at H
          have c8b0 : decide (0 ≤ x5_1) = true := decide_eq_true c8
          clear c8
          by_cases c9 : (Op.bytesLess (((rd_T86 l0 x5_1).f0).toList) a1.toList) = true
          · rw [if_pos c9] at H
            have c9b0 : (Op.bytesLess (((rd_T86 l0 x5_1).f0).toList) a1.toList) = true := c9
            clear c9
            have H' := Aside0.mk H
            clear H
            have p1110 : 0 ≤ (x5_1 : Int) := of_decide_eq_true (by first | (with_reducible assumption) | assumption)
            have q1110 : x5_1 < (l0.length : Int) := of_decide_eq_true (by first | (with_reducible assumption) | assumption)
            obtain ⟨ad1110, e1110, hx1110_0, hx1110_1⟩ := at_T86 HR0.out x5_1 p1110 q1110
            cases e1110
            replace hx1110_0 := (HB.out.cell (World.block_lt_of_cell? w _ hx1110_0)).trans hx1110_0
            replace hx1110_1 := (HB.out.cell (World.block_lt_of_cell? w _ hx1110_1)).trans hx1110_1
            replace p1110 := eq_true p1110
            replace q1110 := eq_true q1110
            go_wp2
            go_roundg k1
            case measure => have := HK1.out; omega
            case rel => exact ⟨(wrap64 (x5_1 + 1)), (by first | rfl | (simp; done) | (simp [*]; done)), H', ⟨by have := HK1.out; omega⟩, ⟨by (with_reducible repeat (first | refine pkN ?_ _ | refine pkD ?_ | refine pkA ?_ _)); exact BK1108.out⟩, ⟨by repeat (first | (with_reducible first | exact HB.out | apply pbA | apply pbN | apply pbD | refine pbS ?_ GE1108.out) | exact HB.out)⟩⟩
          · rw [if_neg c9] at H
            have c9b0 : (Op.bytesLess (((rd_T86 l0 x5_1).f0).toList) a1.toList) = false := by simpa using c9
            clear c9
            have H' := Aside0.mk H
            clear H
            have p1110 : 0 ≤ (x5_1 : Int) := of_decide_eq_true (by first | (with_reducible assumption) | assumption)
            have q1110 : x5_1 < (l0.length : Int) := of_decide_eq_true (by first | (with_reducible assumption) | assumption)
            obtain ⟨ad1110, e1110, hx1110_0, hx1110_1⟩ := at_T86 HR0.out x5_1 p1110 q1110
            cases e1110
            replace hx1110_0 := (HB.out.cell (World.block_lt_of_cell? w _ hx1110_0)).trans hx1110_0
            replace hx1110_1 := (HB.out.cell (World.block_lt_of_cell? w _ hx1110_1)).trans hx1110_1
            replace p1110 := eq_true p1110
            replace q1110 := eq_true q1110
            go_wp2
            go_meet
            case rel => exact ⟨_, (x5_1), (by first | rfl | (simp; done) | (simp [*]; done)), H', ⟨by have := HK1.out; first | omega | exact Nat.le_refl _⟩, ⟨by (with_reducible repeat (first | refine pkN ?_ _ | refine pkD ?_ | refine pkA ?_ _)); exact BK1108.out⟩, ⟨by repeat (first | (with_reducible first | exact HB.out | apply pbA | apply pbN | apply pbD | refine pbS ?_ GE1108.out) | exact HB.out)⟩⟩
        · rw [if_neg c8] at H
          exact absurd H (by simp)
      · rw [if_neg c7] at H
        have c7b0 : decide (x5_1 < (l0.length : Int)) = false := decide_eq_false c7
        clear c7
        (first | rw [c7b0] | (simp only [i64_w, i32_w]; rw [c7b0]) | skip)
        have H' := Aside0.mk H
        clear H
        go_wp2
        go_meet
        case rel => exact ⟨_, (x5_1), (by first | rfl | (simp; done) | (simp [*]; done)), H', ⟨by have := HK1.out; first | omega | exact Nat.le_refl _⟩, ⟨by (with_reducible repeat (first | refine pkN ?_ _ | refine pkD ?_ | refine pkA ?_ _)); exact BK1108.out⟩, ⟨by repeat (first | (with_reducible first | exact HB.out | apply pbA | apply pbN | apply pbD | refine pbS ?_ GE1108.out) | exact HB.out)⟩⟩
   case rest =>
    clear HC5
    try clear p1
    try clear q1
    try clear hx1
    try clear p2
    try clear c3
    try clear c4
    try clear c5
    try clear p6
    try clear c7
    try clear c7b0
    try clear c8
    try clear c8b0
    try clear c9
    try clear c9b0
    try clear hx1110_0
    try clear hx1110_1
    try clear p1110
    try clear p2
    try clear q1110
    obtain ⟨kq, x5_4, rfl, HA, HJ4, BK1108, HB⟩ := hcut
    cases kq with
    | zero => exact absurd HA.out (by simp [footbridgeref12_Build.j1])
    | succ kj4 =>
     have H := HA.out
     clear HA
     simp only [footbridgeref12_Build.j1] at H
     have HC10 := Aside0.mk H
     clear H
     go_upto_region 7 with (first | ((with_reducible refine gate_dst (N := 6) rfl ?_); refine box_event ?hg (N := 6) ?hd (cs := #[.int .i64 0, .int .i64 0, .bool false, .slice none 0 0, .slice none 0 0]) (t := 82) ?hr ?_; (case hd => rfl); (case hg => rfl); (case hr => first | (go_simp; done) | (go_simp; rfl)); intro gb1111 hg w11 hbox hb; have n0_ := Aside0.mk (blk_below (g := gb1108) (o := .cells #[.int .i64 0, .int .i64 0, .bool false, .slice none 0 0, .slice none 0 0] 82 (0, 0)) (by (with_reducible repeat (first | refine pkN ?_ _ | refine pkD ?_ | refine pkA ?_ _)); exact BK1108.out) hb); have n1_ := Aside0.mk (below_step (by repeat (first | (with_reducible first | exact HB.out | apply pbA | apply pbN | apply pbD | refine pbS ?_ GE1108.out) | exact HB.out)) hb); have n2_ := Aside0.mk (hbox); have n3_ := Aside0.mk ((by rw [hg]; exact (below_size (by repeat (first | (with_reducible first | exact HB.out | apply pbA | apply pbN | apply pbD | refine pbS ?_ GE1108.out) | exact HB.out))) : w.heap.size ≤ gb1111)); have n4_ := Aside0.mk ((by rw [hg]; exact (below_size (by repeat (first | (with_reducible first | exact HB.out | apply pbA | apply pbN | apply pbD | refine pbS ?_ GE1108.out) | exact HB.out))) : w.heap.size ≤ gb1111)); have n5_ := Aside0.mk ((by rw [hg]; exact Nat.ne_of_lt (blk_lt (g := gb1108) (o := .cells #[.int .i64 0, .int .i64 0, .bool false, .slice none 0 0, .slice none 0 0] 82 (0, 0)) (by (with_reducible repeat (first | refine pkN ?_ _ | refine pkD ?_ | refine pkA ?_ _)); exact BK1108.out)) : gb1108 ≠ gb1111)); have n6_ := Aside0.mk ((by rw [hg]; exact Nat.ne_of_gt (blk_lt (g := gb1108) (o := .cells #[.int .i64 0, .int .i64 0, .bool false, .slice none 0 0, .slice none 0 0] 82 (0, 0)) (by (with_reducible repeat (first | refine pkN ?_ _ | refine pkD ?_ | refine pkA ?_ _)); exact BK1108.out)) : gb1111 ≠ gb1108)); clear BK1108; clear HB; have BK1108 := n0_; have HB := n1_; have BK1111 := n2_; have GW1111 := n3_; have GE1111 := n4_; have NB1108_1111 := n5_; have NB1111_1108 := n6_; clear n0_ n1_ n2_ n3_ n4_ n5_ n6_; clear hb hbox hg; have hnb12 := NB1111_1108.out; have hnc12 := NB1108_1111.out; have hcz13_0 : w11.cell? ⟨gb1111, 0, none⟩ = some (.int .i64 0) := (pkC BK1111.out 0).trans rfl; have hcz13_1 : w11.cell? ⟨gb1111, 1, none⟩ = some (.int .i64 0) := (pkC BK1111.out 1).trans rfl; have hcz13_2 : w11.cell? ⟨gb1111, 2, none⟩ = some (.bool false) := (pkC BK1111.out 2).trans rfl; have hcz13_3 : w11.cell? ⟨gb1111, 3, none⟩ = some (.slice none 0 0) := (pkC BK1111.out 3).trans rfl; have hcz13_4 : w11.cell? ⟨gb1111, 4, none⟩ = some (.slice none 0 0) := (pkC BK1111.out 4).trans rfl; have hfz13_0 := pkF BK1111.out 0; have hfz13_1 := pkF BK1111.out 1; have hfz13_2 := pkF BK1111.out 2; have hfz13_3 := pkF BK1111.out 3; have hfz13_4 := pkF BK1111.out 4))
     (try simp only [Act.put, zA, zB, zC])
     go_cut [43] (fun v43 wc => ∃ (kq : Nat) (x43_9 : Bool), v43 = .bool x43_9 ∧ Aside0 (footbridgeref12_Build.j2 kq l0 x5_4 x43_9 (l0.length : Int) x5_4 false = some (r1, r2, r3, r4, r5)) ∧ Aside0 (kq ≤ kj4) ∧ Aside0 (wc.heap[gb1108]? = some (.cells #[.int .i64 0, .int .i64 0, .bool false, (.slice none 0 0), (.slice none 0 0)] 82 (0, 0))) ∧ Aside0 (wc.heap[gb1111]? = some (.cells #[.int .i64 (l0.length : Int), .int .i64 x5_4, .bool false, (.slice none 0 0), (.slice none 0 0)] 82 (0, 0))) ∧ Aside0 (Below w.heap.size w wc))
     case first =>
      have H := HC10.out
      clear HC10
      by_cases c14 : x5_4 < (l0.length : Int)
      · rw [if_pos c14] at H
        have c14b0 : decide (x5_4 < (l0.length : Int)) = true := decide_eq_true c14
        clear c14
        (first | rw [c14b0] | (simp only [i64_w, i32_w]; rw [c14b0]) | skip)
        by_cases c15 : 0 ≤ x5_4
        · rw [if_pos c15] at H
          have c15b0 : decide (0 ≤ x5_4) = true := decide_eq_true c15
          clear c15
          have H' := Aside0.mk H
          clear H
          have p1112 : 0 ≤ (x5_4 : Int) := of_decide_eq_true (by first | (with_reducible assumption) | assumption)
          have q1112 : x5_4 < (l0.length : Int) := of_decide_eq_true (by first | (with_reducible assumption) | assumption)
          obtain ⟨ad1112, e1112, hx1112_0, hx1112_1⟩ := at_T86 HR0.out x5_4 p1112 q1112
          cases e1112
          have hn1112_0 : ad1112.block ≠ gb1111 := Nat.ne_of_lt (Nat.lt_of_lt_of_le (by have := World.block_lt_of_cell? _ _ hx1112_0; first | rwa [add_block] at this | exact this) GW1111.out)
          have hn1112_1 : ad1112.block ≠ gb1111 := Nat.ne_of_lt (Nat.lt_of_lt_of_le (by have := World.block_lt_of_cell? _ _ hx1112_0; first | rwa [add_block] at this | exact this) GW1111.out)
          have hn1112_2 : ad1112.block ≠ gb1111 := Nat.ne_of_lt (Nat.lt_of_lt_of_le (by have := World.block_lt_of_cell? _ _ hx1112_0; first | rwa [add_block] at this | exact this) GW1111.out)
          have hn1112_3 : ad1112.block ≠ gb1111 := Nat.ne_of_lt (Nat.lt_of_lt_of_le (by have := World.block_lt_of_cell? _ _ hx1112_0; first | rwa [add_block] at this | exact this) GW1111.out)
          have hn1112_4 : ad1112.block ≠ gb1111 := Nat.ne_of_lt (Nat.lt_of_lt_of_le (by have := World.block_lt_of_cell? _ _ hx1112_0; first | rwa [add_block] at this | exact this) GW1111.out)
          replace hx1112_0 := (HB.out.cell (World.block_lt_of_cell? w _ hx1112_0)).trans hx1112_0
          replace hx1112_1 := (HB.out.cell (World.block_lt_of_cell? w _ hx1112_1)).trans hx1112_1
          replace hx1112_0 := (cell_far (p := ⟨gb1111, 0, none⟩) (by first | (rw [add_block]; exact hn1112_0) | (show (Addr.add _ _).block ≠ _; rw [add_block]; exact hn1112_0) | exact hn1112_0) (.int .i64 (l0.length : Int))).trans hx1112_0
          replace hx1112_1 := (cell_far (p := ⟨gb1111, 0, none⟩) (by first | (rw [add_block]; exact hn1112_0) | (show (Addr.add _ _).block ≠ _; rw [add_block]; exact hn1112_0) | exact hn1112_0) (.int .i64 (l0.length : Int))).trans hx1112_1
          replace hx1112_0 := (cell_far (p := ⟨gb1111, 1, none⟩) (by first | (rw [add_block]; exact hn1112_1) | (show (Addr.add _ _).block ≠ _; rw [add_block]; exact hn1112_1) | exact hn1112_1) (.int .i64 x5_4)).trans hx1112_0
          replace hx1112_1 := (cell_far (p := ⟨gb1111, 1, none⟩) (by first | (rw [add_block]; exact hn1112_1) | (show (Addr.add _ _).block ≠ _; rw [add_block]; exact hn1112_1) | exact hn1112_1) (.int .i64 x5_4)).trans hx1112_1
          replace hx1112_0 := (cell_far (p := ⟨gb1111, 2, none⟩) (by first | (rw [add_block]; exact hn1112_2) | (show (Addr.add _ _).block ≠ _; rw [add_block]; exact hn1112_2) | exact hn1112_2) (.bool false)).trans hx1112_0
          replace hx1112_1 := (cell_far (p := ⟨gb1111, 2, none⟩) (by first | (rw [add_block]; exact hn1112_2) | (show (Addr.add _ _).block ≠ _; rw [add_block]; exact hn1112_2) | exact hn1112_2) (.bool false)).trans hx1112_1
          replace hx1112_0 := (cell_far (p := ⟨gb1111, 3, none⟩) (by first | (rw [add_block]; exact hn1112_3) | (show (Addr.add _ _).block ≠ _; rw [add_block]; exact hn1112_3) | exact hn1112_3) (.slice none 0 0)).trans hx1112_0
          replace hx1112_1 := (cell_far (p := ⟨gb1111, 3, none⟩) (by first | (rw [add_block]; exact hn1112_3) | (show (Addr.add _ _).block ≠ _; rw [add_block]; exact hn1112_3) | exact hn1112_3) (.slice none 0 0)).trans hx1112_1
          replace hx1112_0 := (cell_far (p := ⟨gb1111, 4, none⟩) (by first | (rw [add_block]; exact hn1112_4) | (show (Addr.add _ _).block ≠ _; rw [add_block]; exact hn1112_4) | exact hn1112_4) (.slice none 0 0)).trans hx1112_0
          replace hx1112_1 := (cell_far (p := ⟨gb1111, 4, none⟩) (by first | (rw [add_block]; exact hn1112_4) | (show (Addr.add _ _).block ≠ _; rw [add_block]; exact hn1112_4) | exact hn1112_4) (.slice none 0 0)).trans hx1112_1
          clear hn1112_0
          clear hn1112_1
          clear hn1112_2
          clear hn1112_3
          clear hn1112_4
          replace p1112 := eq_true p1112
          replace q1112 := eq_true q1112
          go_wp2
          go_meet
          case rel => exact ⟨_, ((((rd_T86 l0 x5_4).f0).toList == a1.toList)), (by first | rfl | (simp; done) | (simp [*]; done)), H', ⟨by have := HJ4.out; first | omega | exact Nat.le_refl _⟩, ⟨by (with_reducible repeat (first | refine pkN ?_ _ | refine pkD ?_ | refine pkA ?_ _)); refine blk_far ?_ NB1108_1111.out _; (with_reducible repeat (first | refine pkN ?_ _ | refine pkD ?_ | refine pkA ?_ _)); refine blk_far ?_ NB1108_1111.out _; (with_reducible repeat (first | refine pkN ?_ _ | refine pkD ?_ | refine pkA ?_ _)); refine blk_far ?_ NB1108_1111.out _; (with_reducible repeat (first | refine pkN ?_ _ | refine pkD ?_ | refine pkA ?_ _)); refine blk_far ?_ NB1108_1111.out _; (with_reducible repeat (first | refine pkN ?_ _ | refine pkD ?_ | refine pkA ?_ _)); refine blk_far ?_ NB1108_1111.out _; (with_reducible repeat (first | refine pkN ?_ _ | refine pkD ?_ | refine pkA ?_ _)); exact BK1108.out⟩, ⟨by (with_reducible repeat (first | refine pkN ?_ _ | refine pkD ?_ | refine pkA ?_ _)); refine blk_put (cs := #[.int .i64 (l0.length : Int), .int .i64 x5_4, .bool false, .slice none 0 0, .slice none 0 0]) ?_ 4 _ rfl; (with_reducible repeat (first | refine pkN ?_ _ | refine pkD ?_ | refine pkA ?_ _)); refine blk_put (cs := #[.int .i64 (l0.length : Int), .int .i64 x5_4, .bool false, .slice none 0 0, .slice none 0 0]) ?_ 3 _ rfl; (with_reducible repeat (first | refine pkN ?_ _ | refine pkD ?_ | refine pkA ?_ _)); refine blk_put (cs := #[.int .i64 (l0.length : Int), .int .i64 x5_4, .bool false, .slice none 0 0, .slice none 0 0]) ?_ 2 _ rfl; (with_reducible repeat (first | refine pkN ?_ _ | refine pkD ?_ | refine pkA ?_ _)); refine blk_put (cs := #[.int .i64 (l0.length : Int), .int .i64 0, .bool false, .slice none 0 0, .slice none 0 0]) ?_ 1 _ rfl; (with_reducible repeat (first | refine pkN ?_ _ | refine pkD ?_ | refine pkA ?_ _)); refine blk_put (cs := #[.int .i64 0, .int .i64 0, .bool false, .slice none 0 0, .slice none 0 0]) ?_ 0 _ rfl; (with_reducible repeat (first | refine pkN ?_ _ | refine pkD ?_ | refine pkA ?_ _)); exact BK1111.out⟩, ⟨by repeat (first | (with_reducible first | exact HB.out | apply pbA | apply pbN | apply pbD | refine pbS ?_ GE1108.out | refine pbS ?_ GE1111.out) | exact HB.out)⟩⟩
        · rw [if_neg c15] at H
          exact absurd H (by simp)
      · rw [if_neg c14] at H
        have c14b0 : decide (x5_4 < (l0.length : Int)) = false := decide_eq_false c14
        clear c14
        (first | rw [c14b0] | (simp only [i64_w, i32_w]; rw [c14b0]) | skip)
        have H' := Aside0.mk H
        clear H
        go_wp2
        go_meet
        case rel => exact ⟨_, (false), (by first | rfl | (simp; done) | (simp [*]; done)), H', ⟨by have := HJ4.out; first | omega | exact Nat.le_refl _⟩, ⟨by (with_reducible repeat (first | refine pkN ?_ _ | refine pkD ?_ | refine pkA ?_ _)); refine blk_far ?_ NB1108_1111.out _; (with_reducible repeat (first | refine pkN ?_ _ | refine pkD ?_ | refine pkA ?_ _)); refine blk_far ?_ NB1108_1111.out _; (with_reducible repeat (first | refine pkN ?_ _ | refine pkD ?_ | refine pkA ?_ _)); refine blk_far ?_ NB1108_1111.out _; (with_reducible repeat (first | refine pkN ?_ _ | refine pkD ?_ | refine pkA ?_ _)); refine blk_far ?_ NB1108_1111.out _; (with_reducible repeat (first | refine pkN ?_ _ | refine pkD ?_ | refine pkA ?_ _)); refine blk_far ?_ NB1108_1111.out _; (with_reducible repeat (first | refine pkN ?_ _ | refine pkD ?_ | refine pkA ?_ _)); exact BK1108.out⟩, ⟨by (with_reducible repeat (first | refine pkN ?_ _ | refine pkD ?_ | refine pkA ?_ _)); refine blk_put (cs := #[.int .i64 (l0.length : Int), .int .i64 x5_4, .bool false, .slice none 0 0, .slice none 0 0]) ?_ 4 _ rfl; (with_reducible repeat (first | refine pkN ?_ _ | refine pkD ?_ | refine pkA ?_ _)); refine blk_put (cs := #[.int .i64 (l0.length : Int), .int .i64 x5_4, .bool false, .slice none 0 0, .slice none 0 0]) ?_ 3 _ rfl; (with_reducible repeat (first | refine pkN ?_ _ | refine pkD ?_ | refine pkA ?_ _)); refine blk_put (cs := #[.int .i64 (l0.length : Int), .int .i64 x5_4, .bool false, .slice none 0 0, .slice none 0 0]) ?_ 2 _ rfl; (with_reducible repeat (first | refine pkN ?_ _ | refine pkD ?_ | refine pkA ?_ _)); refine blk_put (cs := #[.int .i64 (l0.length : Int), .int .i64 0, .bool false, .slice none 0 0, .slice none 0 0]) ?_ 1 _ rfl; (with_reducible repeat (first | refine pkN ?_ _ | refine pkD ?_ | refine pkA ?_ _)); refine blk_put (cs := #[.int .i64 0, .int .i64 0, .bool false, .slice none 0 0, .slice none 0 0]) ?_ 0 _ rfl; (with_reducible repeat (first | refine pkN ?_ _ | refine pkD ?_ | refine pkA ?_ _)); exact BK1111.out⟩, ⟨by repeat (first | (with_reducible first | exact HB.out | apply pbA | apply pbN | apply pbD | refine pbS ?_ GE1108.out | refine pbS ?_ GE1111.out) | exact HB.out)⟩⟩
     case rest =>
      clear HC10
      try clear c1
      try clear p1
      try clear q1
      try clear hx1
      try clear p2
      try clear c3
      try clear c4
      try clear c5
      try clear p6
      try clear c7
      try clear c7b0
      try clear c8
      try clear c8b0
      try clear c9
      try clear c9b0
      try clear p11
      try clear q11
      try clear hx11
      try clear c12
      try clear c14
      try clear c14b0
      try clear c15
      try clear c15b0
      try clear hcz13_0
      try clear hcz13_1
      try clear hcz13_2
      try clear hcz13_3
      try clear hcz13_4
      try clear hfz13_0
      try clear hfz13_1
      try clear hfz13_2
      try clear hfz13_3
      try clear hfz13_4
      try clear hx1110_0
      try clear hx1110_1
      try clear hx1112_0
      try clear hx1112_1
      try clear p1
      try clear p1110
      try clear p1112
      try clear p2
      try clear p6
      try clear q1
      try clear q1110
      try clear q1112
      obtain ⟨kq, x43_9, rfl, HA, HJ9, BK1108, BK1111, HB⟩ := hcut
      cases kq with
      | zero => exact absurd HA.out (by simp [footbridgeref12_Build.j2])
      | succ kj9 =>
       have H := HA.out
       clear HA
       simp only [footbridgeref12_Build.j2] at H
       by_cases c16 : x43_9 = true
       · subst c16
         have H1 : ((footbridgeref12_path.f kj9 l0 x5_4).bind fun t1113 => (some ((l0.length : Int), x5_4, true, ([] : List (S86)), (([t1113] : List (List ByteArray)))))) = some (r1, r2, r3, r4, r5) := by rw [if_pos rfl] at H; exact H
         clear H
         have H := H1
         clear H1
         replace H := Option.bind_eq_some_iff.mp H
         obtain ⟨t1113, A170, H⟩ := H
         replace H : (some ((l0.length : Int), x5_4, true, ([] : List (S86)), (([t1113] : List (List ByteArray))))) = some (r1, r2, r3, r4, r5) := H
         have A17 := Aside0.mk A170
         clear A170
         obtain ⟨y1116, hy1116⟩ : ∃ y_ : List (List ByteArray), y_ = (([t1113] : List (List ByteArray))) := ⟨_, rfl⟩
         replace H : (some ((l0.length : Int), x5_4, true, ([] : List (S86)), y1116)) = some (r1, r2, r3, r4, r5) := by first | (rw [hy1116]; with_reducible exact H) | (have H2_ := (Option.bind_some _ _).symm.trans H; rw [hy1116]; with_reducible exact H2_) | (have H2_ := (Option.bind_some _ _).symm.trans H; with_reducible exact H2_) | with_reducible exact H | (rw [hy1116]; exact H) | exact H
         have Ny1116 := Aside0.mk hy1116
         clear hy1116
         simp only [Option.some.injEq, Prod.mk.injEq] at H
         obtain ⟨rfl, rfl, rfl, rfl, rfl⟩ := H
         have hnb18 := NB1111_1108.out
         have hnc18 := NB1108_1111.out
         have hcz19_0 : wc.cell? ⟨gb1111, 0, none⟩ = some (.int .i64 (l0.length : Int)) := (pkC BK1111.out 0).trans rfl
         have hcz19_1 : wc.cell? ⟨gb1111, 1, none⟩ = some (.int .i64 x5_4) := (pkC BK1111.out 1).trans rfl
         have hcz19_2 : wc.cell? ⟨gb1111, 2, none⟩ = some (.bool false) := (pkC BK1111.out 2).trans rfl
         have hcz19_3 : wc.cell? ⟨gb1111, 3, none⟩ = some (.slice none 0 0) := (pkC BK1111.out 3).trans rfl
         have hcz19_4 : wc.cell? ⟨gb1111, 4, none⟩ = some (.slice none 0 0) := (pkC BK1111.out 4).trans rfl
         have hfz19_0 := pkF BK1111.out 0
         have hfz19_1 := pkF BK1111.out 1
         have hfz19_2 := pkF BK1111.out 2
         have hfz19_3 := pkF BK1111.out 3
         have hfz19_4 := pkF BK1111.out 4
         go_wp2_with (first | ((with_reducible refine gate_callee (f := 124) rfl ?_); refine goesL_ (some 47) rfl rfl Try.func124 (by kernel_rfl) rfl #[.slice A0 l0.length c0, .int .i64 x5_4] rfl (by (try simp only [List.map_toArray, List.map_cons, List.map_nil]); first | done | rfl | (simp only [List.length_drop, List.length_take]; rfl)) ?_; (with_reducible refine (footbridgeref12_path.calls kj9 _ _ l0 x5_4 t1113 _ ?side1 ?side2 A17.out).mono ?_); (case side1 => exact Kd.C_below HR0.out (by repeat (first | (with_reducible first | exact HB.out | apply pbA | apply pbN | apply pbD | refine pbS ?_ GE1108.out | refine pbS ?_ GE1111.out) | exact HB.out))); (case side2 => exact HC0.out); rintro e w20 ⟨v1114, rfl, ho0, hb⟩; refine ⟨_, rfl, ?_⟩; have n0_ := Aside0.mk (Kd.R_lower (Kd.R_newM (M := fun k_ => (w.heap.size ≤ k_)) ho0 (below_size (by repeat (first | (with_reducible first | exact HB.out | apply pbA | apply pbN | apply pbD | refine pbS ?_ GE1108.out | refine pbS ?_ GE1111.out) | exact HB.out))) (fun k_ h_ => h_)) (below_size (by repeat (first | (with_reducible first | exact HB.out | apply pbA | apply pbN | apply pbD | refine pbS ?_ GE1108.out | refine pbS ?_ GE1111.out) | exact HB.out)))); have n1_ := Aside0.mk (blk_below (g := gb1108) (o := .cells #[.int .i64 0, .int .i64 0, .bool false, .slice none 0 0, .slice none 0 0] 82 (0, 0)) (by (with_reducible repeat (first | refine pkN ?_ _ | refine pkD ?_ | refine pkA ?_ _)); refine blk_far ?_ NB1108_1111.out _; (with_reducible repeat (first | refine pkN ?_ _ | refine pkD ?_ | refine pkA ?_ _)); exact BK1108.out) hb); have n2_ := Aside0.mk (blk_below (g := gb1111) (o := .cells #[.int .i64 (l0.length : Int), .int .i64 x5_4, .bool true, .slice none 0 0, .slice none 0 0] 82 (0, 0)) (by (with_reducible repeat (first | refine pkN ?_ _ | refine pkD ?_ | refine pkA ?_ _)); refine blk_put (cs := #[.int .i64 (l0.length : Int), .int .i64 x5_4, .bool false, .slice none 0 0, .slice none 0 0]) ?_ 2 _ rfl; (with_reducible repeat (first | refine pkN ?_ _ | refine pkD ?_ | refine pkA ?_ _)); exact BK1111.out) hb); have n3_ := Aside0.mk (below_step (by repeat (first | (with_reducible first | exact HB.out | apply pbA | apply pbN | apply pbD | refine pbS ?_ GE1108.out | refine pbS ?_ GE1111.out) | exact HB.out)) hb); clear BK1108; clear BK1111; clear HB; have HO1115 := n0_; have BK1108 := n1_; have BK1111 := n2_; have HB := n3_; clear n0_ n1_ n2_ n3_; (try clear hb); (try clear hb2); (try clear hk); (try clear hi); (try clear ho0); obtain ⟨Ao21, co21, eo21⟩ := Kd.R_slice HO1115.out; subst eo21) | ((with_reducible refine gate_dst (N := 48) rfl ?_); refine Kd.N_lit (Kd.slice 9 Kd.string) _ 63 ?hg (N' := 48) ?hd (xs := ([t1113] : List (List ByteArray))) (inner := [.slice Ao21 t1113.length co21]) (ok := (fun k_ => (w.heap.size ≤ k_) ∧ k_ ≠ gb1108 ∧ k_ ≠ gb1111)) (okp := (fun k_ => (w.heap.size ≤ k_) ∧ k_ ≠ gb1108 ∧ k_ ≠ gb1111)) ?hr ?hp (fun _ hk => hk) ((show ∀ k_, w20.heap.size ≤ k_ → (fun k_ => (w.heap.size ≤ k_) ∧ k_ ≠ gb1108 ∧ k_ ≠ gb1111) k_ from fun k_ hk => ⟨(Nat.le_trans (below_size (by repeat (first | (with_reducible first | exact HB.out | apply pbA | apply pbN | apply pbD | refine pbS ?_ GE1108.out | refine pbS ?_ GE1111.out) | exact HB.out))) hk), Kd.freshB (g := gb1108) (o := .cells #[.int .i64 0, .int .i64 0, .bool false, .slice none 0 0, .slice none 0 0] 82 (0, 0)) (by (with_reducible repeat (first | refine pkN ?_ _ | refine pkD ?_ | refine pkA ?_ _)); exact BK1108.out) k_ hk, Kd.freshB (g := gb1111) (o := .cells #[.int .i64 (l0.length : Int), .int .i64 x5_4, .bool true, .slice none 0 0, .slice none 0 0] 82 (0, 0)) (by (with_reducible repeat (first | refine pkN ?_ _ | refine pkD ?_ | refine pkA ?_ _)); exact BK1111.out) k_ hk⟩) _ (Nat.le_refl _)) (Below.refl _ _) (Nat.le_refl _) (by simp) ?_; (case hd => rfl); (case hg => rfl); (case hr => first | (go_simp; done) | (go_simp; rfl)); (case hp => exact (Reps.one (show Kd.FK (Kd.slice 9 Kd.string) _ _ t1113 [.slice Ao21 t1113.length co21] from (Kd.FK_slice_mk (Kd.R_reads' (Kd.R_mono (ok' := (fun k_ => (w.heap.size ≤ k_) ∧ k_ ≠ gb1108 ∧ k_ ≠ gb1111)) (Kd.R_types (Kd.R_types (HO1115.out) BK1108.out (by decide)) BK1111.out (by decide)) (fun k_ hk => ⟨hk.1.1.1, ⟨hk.1.2, hk.2⟩⟩))).2.1 (Kd.R_F (Kd.R_mono (ok' := (fun k_ => (w.heap.size ≤ k_) ∧ k_ ≠ gb1108 ∧ k_ ≠ gb1111)) (Kd.R_types (Kd.R_types (HO1115.out) BK1108.out (by decide)) BK1111.out (by decide)) (fun k_ hk => ⟨hk.1.1.1, ⟨hk.1.2, hk.2⟩⟩))))) (Reps.none _ _))); intro v1117 w22 ho23 hb hg_ hnew_; clear hg_ hnew_; (first | rw [← Ny1116.out] at ho23 | (simp only [Int.reduceToNat] at ho23; rw [← Ny1116.out] at ho23)); have n0_ := Aside0.mk (Kd.N_lower ho23 (below_size (by repeat (first | (with_reducible first | exact HB.out | apply pbA | apply pbN | apply pbD | refine pbS ?_ GE1108.out | refine pbS ?_ GE1111.out) | exact HB.out)))); have n1_ := Aside0.mk (blk_below (g := gb1108) (o := .cells #[.int .i64 0, .int .i64 0, .bool false, .slice none 0 0, .slice none 0 0] 82 (0, 0)) (by (with_reducible repeat (first | refine pkN ?_ _ | refine pkD ?_ | refine pkA ?_ _)); exact BK1108.out) hb); have n2_ := Aside0.mk (blk_below (g := gb1111) (o := .cells #[.int .i64 (l0.length : Int), .int .i64 x5_4, .bool true, .slice none 0 0, .slice none 0 0] 82 (0, 0)) (by (with_reducible repeat (first | refine pkN ?_ _ | refine pkD ?_ | refine pkA ?_ _)); exact BK1111.out) hb); have n3_ := Aside0.mk (below_step (by repeat (first | (with_reducible first | exact HB.out | apply pbA | apply pbN | apply pbD | refine pbS ?_ GE1108.out | refine pbS ?_ GE1111.out) | exact HB.out)) hb); clear BK1108; clear BK1111; clear HB; clear HO1115; have HO1118 := n0_; have BK1108 := n1_; have BK1111 := n2_; have HB := n3_; clear n0_ n1_ n2_ n3_; clear hb ho23; obtain ⟨Ao24, co24, eo24⟩ := Kd.N_slice HO1118.out; subst eo24; have hcz25_0 : w22.cell? ⟨gb1111, 0, none⟩ = some (.int .i64 (l0.length : Int)) := (pkC BK1111.out 0).trans rfl; have hcz25_1 : w22.cell? ⟨gb1111, 1, none⟩ = some (.int .i64 x5_4) := (pkC BK1111.out 1).trans rfl; have hcz25_2 : w22.cell? ⟨gb1111, 2, none⟩ = some (.bool true) := (pkC BK1111.out 2).trans rfl; have hcz25_3 : w22.cell? ⟨gb1111, 3, none⟩ = some (.slice none 0 0) := (pkC BK1111.out 3).trans rfl; have hcz25_4 : w22.cell? ⟨gb1111, 4, none⟩ = some (.slice none 0 0) := (pkC BK1111.out 4).trans rfl; have hfz25_0 := pkF BK1111.out 0; have hfz25_1 := pkF BK1111.out 1; have hfz25_2 := pkF BK1111.out 2; have hfz25_3 := pkF BK1111.out 3; have hfz25_4 := pkF BK1111.out 4; have hcz26_0 : w22.cell? ⟨gb1108, 0, none⟩ = some (.int .i64 0) := (pkC BK1108.out 0).trans rfl; have hcz26_1 : w22.cell? ⟨gb1108, 1, none⟩ = some (.int .i64 0) := (pkC BK1108.out 1).trans rfl; have hcz26_2 : w22.cell? ⟨gb1108, 2, none⟩ = some (.bool false) := (pkC BK1108.out 2).trans rfl; have hcz26_3 : w22.cell? ⟨gb1108, 3, none⟩ = some (.slice none 0 0) := (pkC BK1108.out 3).trans rfl; have hcz26_4 : w22.cell? ⟨gb1108, 4, none⟩ = some (.slice none 0 0) := (pkC BK1108.out 4).trans rfl; have hfz26_0 := pkF BK1108.out 0; have hfz26_1 := pkF BK1108.out 1; have hfz26_2 := pkF BK1108.out 2; have hfz26_3 := pkF BK1108.out 3; have hfz26_4 := pkF BK1108.out 4))
         refine bodyPost_ret (results_cell_row rfl _ _ gb1108 82 #[.int .i64 (l0.length : Int), .int .i64 x5_4, .bool true, .slice none 0 0, .slice Ao24 y1116.length co24] (0, 0) _ rfl (by (with_reducible repeat (first | refine pkN ?_ _ | refine pkD ?_ | refine pkA ?_ _)); refine blk_put (cs := #[.int .i64 (l0.length : Int), .int .i64 x5_4, .bool true, .slice none 0 0, .slice none 0 0]) ?_ 4 _ rfl; (with_reducible repeat (first | refine pkN ?_ _ | refine pkD ?_ | refine pkA ?_ _)); refine blk_put (cs := #[.int .i64 (l0.length : Int), .int .i64 x5_4, .bool true, .slice none 0 0, .slice none 0 0]) ?_ 3 _ rfl; (with_reducible repeat (first | refine pkN ?_ _ | refine pkD ?_ | refine pkA ?_ _)); refine blk_put (cs := #[.int .i64 (l0.length : Int), .int .i64 x5_4, .bool false, .slice none 0 0, .slice none 0 0]) ?_ 2 _ rfl; (with_reducible repeat (first | refine pkN ?_ _ | refine pkD ?_ | refine pkA ?_ _)); refine blk_put (cs := #[.int .i64 (l0.length : Int), .int .i64 0, .bool false, .slice none 0 0, .slice none 0 0]) ?_ 1 _ rfl; (with_reducible repeat (first | refine pkN ?_ _ | refine pkD ?_ | refine pkA ?_ _)); refine blk_put (cs := #[.int .i64 0, .int .i64 0, .bool false, .slice none 0 0, .slice none 0 0]) ?_ 0 _ rfl; (with_reducible repeat (first | refine pkN ?_ _ | refine pkD ?_ | refine pkA ?_ _)); refine blk_far ?_ NB1108_1111.out _; (with_reducible repeat (first | refine pkN ?_ _ | refine pkD ?_ | refine pkA ?_ _)); exact BK1108.out) Try.underlying82 rfl (by kernel_rfl)) rfl ?_
         exact ⟨_, _, by first | rfl | (simp [errW_none, errW_some] <;> rfl) | (simp [*, errW_none, errW_some] <;> rfl), by first | exact Kd.R_nil _ _ _ _ _ | exact Kd.N_nil _ _ _ _ _ | exact Kd.V_nil _ _ _ _ _ | exact Kd.Q_nil _ _ _ _ _ | exact Kd.S_nil _ _ _ _ _, by (with_reducible repeat (first | apply Kd.N_alloc | apply Kd.N_drewN | apply Kd.N_drew)); exact Kd.N_mono (Kd.N_far (p := ⟨gb1108, 4, none⟩) (Kd.N_far (p := ⟨gb1108, 3, none⟩) (Kd.N_far (p := ⟨gb1108, 2, none⟩) (Kd.N_far (p := ⟨gb1108, 1, none⟩) (Kd.N_far (p := ⟨gb1108, 0, none⟩) (Kd.N_far (p := ⟨gb1111, 4, none⟩) (Kd.N_mono (Kd.N_mono HO1118.out (fun k_ hk => (⟨hk, hk.2.2⟩ : _ ∧ k_ ≠ gb1111))) (fun k_ hk => (⟨hk, hk.1.2.1⟩ : _ ∧ k_ ≠ gb1108))) (fun _ hk => hk.1.2) (.slice Ao24 y1116.length co24)) (fun _ hk => hk.2) (.int .i64 (l0.length : Int))) (fun _ hk => hk.2) (.int .i64 x5_4)) (fun _ hk => hk.2) (.bool true)) (fun _ hk => hk.2) (.slice none 0 0)) (fun _ hk => hk.2) (.slice Ao24 y1116.length co24)) (fun _ hk => ⟨hk.1.1.1, (by simp [Value.ownBlock])⟩), by repeat (first | (with_reducible first | exact HB.out | apply pbA | apply pbN | apply pbD | refine pbS ?_ GE1108.out | refine pbS ?_ GE1111.out) | exact HB.out)⟩
       · replace c16 := Bool.eq_false_iff.mpr c16
         subst c16
         have H1 : (footbridgeref12_Build.l1 kj9 l0 x5_4 (mx 0 (wrap64 (x5_4 - 1))) (l0.length : Int) x5_4 false ([] : List (S86)) ([] : List (List ByteArray))) = some (r1, r2, r3, r4, r5) := by rw [if_neg (show ¬ (false = true) by decide)] at H; exact H
         clear H
         have H := H1
         clear H1
         obtain ⟨ji27, hji27⟩ : ∃ j_ : Int, (mx 0 (wrap64 (x5_4 - 1))) = j_ := ⟨_, rfl⟩
         replace H : (footbridgeref12_Build.l1 kj9 l0 x5_4 ji27 (l0.length : Int) x5_4 false ([] : List (S86)) ([] : List (List ByteArray))) = some (r1, r2, r3, r4, r5) := by first | (rw [hji27] at H; exact H) | (simp only [hji27] at H ⊢; exact H)
         have hji27_ : (if 0 < (wrap64 (x5_4 - 1)) then (wrap64 (x5_4 - 1)) else 0) = ji27 := hji27
         have H' := Aside0.mk H
         clear H
         go_wp2
         go_loopg [7] kj9 (fun kq v7 w' => ∃ (x7_3 : Int) (x1112003_3 : List (S86)) (x1112004_3 : List (List ByteArray)) (u1112003 : Value) (u1112004 : Value), v7 = .int .i64 x7_3 ∧ Aside0 (footbridgeref12_Build.l1 kq l0 x5_4 x7_3 (l0.length : Int) x5_4 false x1112003_3 x1112004_3 = some (r1, r2, r3, r4, r5)) ∧ Aside0 (kq ≤ kj9) ∧ Aside0 (Kd.R k86 86 w' w.heap.size (fun k_ => (w.heap.size ≤ k_)) u1112003 x1112003_3) ∧ Aside0 (Kd.N (Kd.slice 9 Kd.string) 63 w' w.heap.size (fun k_ => (w.heap.size ≤ k_) ∧ some k_ ≠ (u1112003 : Value).ownBlock ∧ k_ ≠ gb1108 ∧ k_ ≠ gb1111) u1112004 x1112004_3) ∧ Aside0 (w'.heap[gb1108]? = some (.cells #[.int .i64 0, .int .i64 0, .bool false, (.slice none 0 0), (.slice none 0 0)] 82 (0, 0))) ∧ Aside0 (w'.heap[gb1111]? = some (.cells #[.int .i64 (l0.length : Int), .int .i64 x5_4, .bool false, u1112003, u1112004] 82 (0, 0))) ∧ Aside0 (Below w.heap.size w w'))
         case atStart => exact ⟨(ji27), (([] : List (S86))), (([] : List (List ByteArray))), (.slice none 0 0), (.slice none 0 0), (by first | rfl | (simp; done) | (simp only [← hji27] <;> (first | rfl | simp)) | (simp [*]; done)), H', ⟨Nat.le_refl _⟩, ⟨by first | exact Kd.R_nil _ _ _ _ _ | exact Kd.N_nil _ _ _ _ _ | exact Kd.V_nil _ _ _ _ _ | exact Kd.Q_nil _ _ _ _ _ | exact Kd.S_nil _ _ _ _ _⟩, ⟨by first | exact Kd.S_nil _ _ _ _ _ | exact Kd.N_nil _ _ _ _ _ | exact Kd.V_nil _ _ _ _ _ | exact Kd.Q_nil _ _ _ _ _ | exact Kd.R_nil _ _ _ _ _⟩, ⟨by (with_reducible repeat (first | refine pkN ?_ _ | refine pkD ?_ | refine pkA ?_ _)); exact BK1108.out⟩, ⟨by (with_reducible repeat (first | refine pkN ?_ _ | refine pkD ?_ | refine pkA ?_ _)); exact BK1111.out⟩, ⟨by repeat (first | (with_reducible first | exact HB.out | apply pbA | apply pbN | apply pbD | refine pbS ?_ GE1108.out | refine pbS ?_ GE1111.out) | exact HB.out)⟩⟩
         case round =>
          clear H'
          try clear c1
          try clear p1
          try clear q1
          try clear hx1
          try clear p2
          try clear c3
          try clear c4
          try clear c5
          try clear p6
          try clear c7
          try clear c7b0
          try clear c8
          try clear c8b0
          try clear c9
          try clear c9b0
          try clear p11
          try clear q11
          try clear hx11
          try clear c12
          try clear c14
          try clear c14b0
          try clear c15
          try clear c15b0
          try clear c16
          try clear c18
          try clear hcz13_0
          try clear hcz13_1
          try clear hcz13_2
          try clear hcz13_3
          try clear hcz13_4
          try clear hcz19_0
          try clear hcz19_1
          try clear hcz19_2
          try clear hcz19_3
          try clear hcz19_4
          try clear hcz25_0
          try clear hcz25_1
          try clear hcz25_2
          try clear hcz25_3
          try clear hcz25_4
          try clear hcz26_0
          try clear hcz26_1
          try clear hcz26_2
          try clear hcz26_3
          try clear hcz26_4
          try clear hfz13_0
          try clear hfz13_1
          try clear hfz13_2
          try clear hfz13_3
          try clear hfz13_4
          try clear hfz19_0
          try clear hfz19_1
          try clear hfz19_2
          try clear hfz19_3
          try clear hfz19_4
          try clear hfz25_0
          try clear hfz25_1
          try clear hfz25_2
          try clear hfz25_3
          try clear hfz25_4
          try clear hfz26_0
          try clear hfz26_1
          try clear hfz26_2
          try clear hfz26_3
          try clear hfz26_4
          try clear hx1110_0
          try clear hx1110_1
          try clear hx1112_0
          try clear hx1112_1
          try clear p1
          try clear p11
          try clear p1110
          try clear p1112
          try clear p2
          try clear p6
          try clear q1
          try clear q11
          try clear q1110
          try clear q1112
          obtain ⟨x7_3, x1112003_3, x1112004_3, u1112003, u1112004, rfl, HA, HK3, HO_1112003, HO_1112004, BK1108, BK1111, HB⟩ := hrel
          cases gk with
          | zero => exact absurd HA.out (by simp [footbridgeref12_Build.l1])
          | succ k3 =>
           have H := HA.out
           clear HA
           simp only [footbridgeref12_Build.l1] at H
           by_cases c28 : x7_3 ≤ x5_4
           · rw [if_pos c28] at H
             have c28b0 : decide (x7_3 ≤ x5_4) = true := decide_eq_true c28
             clear c28
             by_cases c29 : x7_3 < (l0.length : Int)
             · rw [if_pos c29] at H
               have c29b0 : decide (x7_3 < (l0.length : Int)) = true := decide_eq_true c29
               clear c29
               by_cases c30 : 0 ≤ x7_3
               · rw [if_pos c30] at H
                 have c30b0 : decide (0 ≤ x7_3) = true := decide_eq_true c30
                 clear c30
                 by_cases c31 : x1112003_3.length < 4398046511104
                 · rw [if_pos c31] at H
                   have LMc31 := Aside0.mk c31
                   clear c31
                   obtain ⟨y1120, hy1120⟩ : ∃ y_ : List (S86), y_ = (x1112003_3 ++ [(⟨(rd_T86 l0 x7_3).f0, (rd_T86 l0 x7_3).f1⟩ : S86)]) := ⟨_, rfl⟩
                   replace H : ((footbridgeref12_path.f k3 l0 x7_3).bind fun t1123 => (if x1112004_3.length < 5864062014805 then (footbridgeref12_Build.l1 k3 l0 x5_4 (wrap64 (x7_3 + 1)) (l0.length : Int) x5_4 false y1120 (x1112004_3 ++ [t1123])) else (none))) = some (r1, r2, r3, r4, r5) := by first | (rw [hy1120]; with_reducible exact H) | (have H2_ := (Option.bind_some _ _).symm.trans H; rw [hy1120]; with_reducible exact H2_) | (have H2_ := (Option.bind_some _ _).symm.trans H; with_reducible exact H2_) | with_reducible exact H | (rw [hy1120]; exact H) | exact H
                   have Ny1120 := Aside0.mk hy1120
                   clear hy1120
                   replace H := Option.bind_eq_some_iff.mp H
                   obtain ⟨t1123, A320, H⟩ := H
                   replace H : (if x1112004_3.length < 5864062014805 then (footbridgeref12_Build.l1 k3 l0 x5_4 (wrap64 (x7_3 + 1)) (l0.length : Int) x5_4 false y1120 (x1112004_3 ++ [t1123])) else (none)) = some (r1, r2, r3, r4, r5) := H
                   have A32 := Aside0.mk A320
                   clear A320
                   by_cases c33 : x1112004_3.length < 5864062014805
                   · rw [if_pos c33] at H
                     have LMc33 := Aside0.mk c33
                     clear c33
                     obtain ⟨y1126, hy1126⟩ : ∃ y_ : List (List ByteArray), y_ = (x1112004_3 ++ [t1123]) := ⟨_, rfl⟩
                     replace H : (footbridgeref12_Build.l1 k3 l0 x5_4 (wrap64 (x7_3 + 1)) (l0.length : Int) x5_4 false y1120 y1126) = some (r1, r2, r3, r4, r5) := by first | (rw [hy1126]; with_reducible exact H) | (have H2_ := (Option.bind_some _ _).symm.trans H; rw [hy1126]; with_reducible exact H2_) | (have H2_ := (Option.bind_some _ _).symm.trans H; with_reducible exact H2_) | with_reducible exact H | (rw [hy1126]; exact H) | exact H
                     have Ny1126 := Aside0.mk hy1126
                     clear hy1126
                     have H' := Aside0.mk H
                     clear H
                     try go_wp2
                     have n0_ := Aside0.mk (Kd.R_drew HO_1112003.out)
                     have n1_ := Aside0.mk (Kd.N_drew HO_1112004.out)
                     have n2_ := Aside0.mk (pkD BK1108.out)
                     have n3_ := Aside0.mk (pkD BK1111.out)
                     have n4_ := Aside0.mk (pbD HB.out)
                     clear HO_1112003
                     clear HO_1112004
                     clear BK1108
                     clear BK1111
                     clear HB
                     have HO_1112003 := n0_
                     have HO_1112004 := n1_
                     have BK1108 := n2_
                     have BK1111 := n3_
                     have HB := n4_
                     clear n0_ n1_ n2_ n3_ n4_
                     have p1119 : 0 ≤ (x7_3 : Int) := of_decide_eq_true (by first | (with_reducible assumption) | assumption)
                     have q1119 : x7_3 < (l0.length : Int) := of_decide_eq_true (by first | (with_reducible assumption) | assumption)
                     obtain ⟨ad1119, e1119, hx1119_0, hx1119_1⟩ := at_T86 HR0.out x7_3 p1119 q1119
                     have hw1119_1 := hx1119_1
                     have hw1119_0 := hx1119_0
                     cases e1119
                     replace hx1119_0 := (HB.out.cell (World.block_lt_of_cell? w _ hx1119_0)).trans hx1119_0
                     replace hx1119_1 := (HB.out.cell (World.block_lt_of_cell? w _ hx1119_1)).trans hx1119_1
                     replace p1119 := eq_true p1119
                     replace q1119 := eq_true q1119
                     refine start_ (n := 10) (S := fun w' => w'.cell? ⟨gb1111, 0, none⟩ = some (.int .i64 (l0.length : Int)) ∧ w'.cell? ⟨gb1111, 1, none⟩ = some (.int .i64 x5_4) ∧ w'.cell? ⟨gb1111, 2, none⟩ = some (.bool false) ∧ w'.cell? ⟨gb1111, 3, none⟩ = some (u1112003) ∧ w'.cell? ⟨gb1111, 4, none⟩ = some (u1112004) ∧ w'.cell? (ad1119.add ((x7_3).toNat * 2)) = some (.string ((rd_T86 l0 x7_3).f0)) ∧ w'.cell? ⟨(ad1119.add ((x7_3).toNat * 2)).block, (ad1119.add ((x7_3).toNat * 2)).off + 1, none⟩ = some (.string ((rd_T86 l0 x7_3).f1))) (ds := [9]) #[false, false, false, false, false, false, false, false, false, false] (by kernel_rfl) rfl rfl ⟨(pkC BK1111.out 0).trans rfl, (pkC BK1111.out 1).trans rfl, (pkC BK1111.out 2).trans rfl, (pkC BK1111.out 3).trans rfl, (pkC BK1111.out 4).trans rfl, ((HB.out.cell (World.block_lt_of_cell? w _ hw1119_0)).trans hw1119_0), ((HB.out.cell (World.block_lt_of_cell? w _ hw1119_1)).trans hw1119_1)⟩ (fun hHeld => ?_); refine with_tabW footbridgeref12_Build.tab14 footbridgeref12_Build.bits14 (fun HT_ HW_ => ?_)
                     generalize wr.drew = w34 at HO_1112003 HO_1112004 BK1108 BK1111 HB hx1119_0 hx1119_1 hHeld ⊢
                     refine pure_ (i := 0) (N := some 65) (v := ?_) (a' := ?_) #[true, false, false, false, false, false, false, false, false, false] rfl rfl (any_of HT_.out (by kernel_rfl)) (fun _ _ _ h => h) (Or.inl ⟨by rfl, ?_⟩) ?_ ?_
                     rotate_left
                     · intro w'
                       go_simp
                       with_reducible rfl
                     rotate_left
                     · simp only [Act.put, zA, zB, zC, i64_w, i32_w]
                       rfl
                     refine pure_ (i := 2) (N := some 67) (v := ?_) (a' := ?_) #[true, false, true, false, false, false, false, false, false, false] rfl rfl (any_of HT_.out (by kernel_rfl)) (fun _ _ _ h => h) (Or.inl ⟨by rfl, ?_⟩) ?_ ?_
                     rotate_left
                     · intro w'
                       go_simp
                       with_reducible rfl
                     rotate_left
                     · simp only [Act.put, zA, zB, zC, i64_w, i32_w]
                       rfl
                     refine pure_ (i := 3) (N := some 68) (v := ?_) (a' := ?_) #[true, false, true, true, false, false, false, false, false, false] rfl rfl (any_of HT_.out (by kernel_rfl)) (fun _ _ _ h => h) (Or.inl ⟨by rfl, ?_⟩) ?_ ?_
                     rotate_left
                     · intro w'
                       go_simp
                       with_reducible rfl
                     rotate_left
                     · simp only [Act.put, zA, zB, zC, i64_w, i32_w]
                       rfl
                     refine pure_ (i := 4) (N := some 69) (v := ?_) (a' := ?_) #[true, false, true, true, true, false, false, false, false, false] rfl rfl (any_of HT_.out (by kernel_rfl)) (fun _ _ _ h => h) (Or.inl ⟨by rfl, ?_⟩) ?_ ?_
                     rotate_left
                     · intro w'
                       go_simp
                       with_reducible rfl
                     rotate_left
                     · simp only [Act.put, zA, zB, zC, i64_w, i32_w]
                       rfl
                     refine take_ (i := 1) (N := some 66) (v := ?_) (a' := ?_) #[true, true, true, true, true, false, false, false, false, false] rfl rfl (take_ofW HT_.out HW_.out (by kernel_rfl)) (fun _ _ _ h => h) (Or.inl ⟨by rfl, ?_⟩) hHeld ?_ ?_
                     rotate_left
                     · rintro w' ⟨s0, s1, s2, s3, s4, s5, s6⟩
                       go_simp
                       with_reducible rfl
                     rotate_left
                     · simp only [Act.put, zA, zB, zC, i64_w, i32_w]
                       rfl
                     refine take_ (i := 5) (N := some 70) (v := ?_) (a' := ?_) #[true, true, true, true, true, true, false, false, false, false] rfl rfl (take_ofW HT_.out HW_.out (by kernel_rfl)) (fun _ _ _ h => h) (Or.inl ⟨by rfl, ?_⟩) hHeld ?_ ?_
                     rotate_left
                     · rintro w' ⟨s0, s1, s2, s3, s4, s5, s6⟩
                       go_simp
                       with_reducible rfl
                     rotate_left
                     · simp only [Act.put, zA, zB, zC, i64_w, i32_w]
                       rfl
                     refine one_ (i := 6) (N := some 71) #[true, true, true, true, true, true, true, false, false, false] rfl rfl (one_of HT_.out (by kernel_rfl)) (by decide) (fun K hK => ?_)
                     refine value_ (w1 := ?_) (v := ?_) (by rfl) rfl ?_ ?_
                     rotate_left 2
                     · go_simp
                       constructor
                       · rfl
                       · rfl
                     refine hK.out _ _ ⟨(pkC (pkA BK1111.out _) 0).trans rfl, (pkC (pkA BK1111.out _) 1).trans rfl, (pkC (pkA BK1111.out _) 2).trans rfl, (pkC (pkA BK1111.out _) 3).trans rfl, (pkC (pkA BK1111.out _) 4).trans rfl, (World.cell?_alloc_lt _ _ _ (World.block_lt_of_cell? _ _ (((HB.out.cell (World.block_lt_of_cell? w _ hw1119_0)).trans hw1119_0)))).trans (((HB.out.cell (World.block_lt_of_cell? w _ hw1119_0)).trans hw1119_0)), (World.cell?_alloc_lt _ _ _ (World.block_lt_of_cell? _ _ (((HB.out.cell (World.block_lt_of_cell? w _ hw1119_1)).trans hw1119_1)))).trans (((HB.out.cell (World.block_lt_of_cell? w _ hw1119_1)).trans hw1119_1))⟩ (fun hHeld => ?_)
                     clear hK K
                     refine norm_ (a' := ?_) ?_ ?_
                     rotate_left
                     · show Act.put _ (some 71) _ = _
                       simp only [Act.put, zA, zB, zC, i64_w, i32_w]
                       rfl
                     refine one_ (i := 7) (N := some 72) #[true, true, true, true, true, true, true, true, false, false] rfl rfl (one_of HT_.out (by kernel_rfl)) (by decide) (fun K hK => ?_)
                     refine Kd.R_append_step k86 (w0 := w) w.heap.size (by rfl) (.tmp 66) (.tmp 71) 39 86 (.agg #[(.string ⟨#[]⟩), (.string ⟨#[]⟩)]) 32 rfl Try.underlying39 info86 rfl (by decide) (by omega) u1112003 x1112003_3 (⟨(rd_T86 l0 x7_3).f0, (rd_T86 l0 x7_3).f1⟩ : S86) [.string ((rd_T86 l0 x7_3).f0), .string ((rd_T86 l0 x7_3).f1)] (fun k_ => (w.heap.size ≤ k_)) (fun _ => False) rfl rfl ?aP (fun _ hk => hk.elim) ?aF ?aO ?aB ?aS ?aL ?_
                     (case aP => exact k86_mkM _ _ _ (⟨(rd_T86 l0 x7_3).f0, (rd_T86 l0 x7_3).f1⟩ : S86))
                     (case aB => exact (by repeat (first | (with_reducible first | exact HB.out | apply pbA | apply pbN | apply pbD | refine pbS ?_ GE1108.out | refine pbS ?_ GE1111.out) | exact HB.out)))
                     (case aF => exact (fun k_ hk => (Nat.le_trans (below_size (by repeat (first | (with_reducible first | exact HB.out | apply pbA | apply pbN | apply pbD | refine pbS ?_ GE1108.out | refine pbS ?_ GE1111.out) | exact HB.out))) hk)))
                     (case aO => exact (by (with_reducible repeat (first | apply Kd.R_alloc | apply Kd.R_drewN | apply Kd.R_drew)); exact HO_1112003.out))
                     (case aS => exact (below_size (by repeat (first | (with_reducible first | exact HB.out | apply pbA | apply pbN | apply pbD | refine pbS ?_ GE1108.out | refine pbS ?_ GE1111.out) | exact HB.out))))
                     (case aL => have := LMc31.out; omega)
                     intro v1121 w35 ho hb hg hat
                     rw [← Ny1120.out] at ho
                     have n0_ := Aside0.mk (Kd.N_afterv (ok := (fun k_ => (w.heap.size ≤ k_) ∧ k_ ≠ gb1108 ∧ k_ ≠ gb1111)) (by (with_reducible repeat (first | apply Kd.N_alloc | apply Kd.N_drewN | apply Kd.N_drew)); exact Kd.N_mono HO_1112004.out (fun _ hk => ⟨⟨hk.1, ⟨hk.2.2.1, hk.2.2.2⟩⟩, hk.2.1⟩)) hg hat)
                     have n1_ := Aside0.mk (blk_grown (g := gb1108) (o := .cells #[.int .i64 0, .int .i64 0, .bool false, .slice none 0 0, .slice none 0 0] 82 (0, 0)) (by (with_reducible repeat (first | refine pkN ?_ _ | refine pkD ?_ | refine pkA ?_ _)); exact BK1108.out) hg (Kd.R_ne HO_1112003.out BK1108.out (by decide)))
                     have n2_ := Aside0.mk (blk_grown (g := gb1111) (o := .cells #[.int .i64 (l0.length : Int), .int .i64 x5_4, .bool false, u1112003, u1112004] 82 (0, 0)) (by (with_reducible repeat (first | refine pkN ?_ _ | refine pkD ?_ | refine pkA ?_ _)); exact BK1111.out) hg (Kd.R_ne HO_1112003.out BK1111.out (by decide)))
                     have n3_ := Aside0.mk (hb)
                     have n4_ := Aside0.mk (ho)
                     clear HO_1112004
                     clear BK1108
                     clear BK1111
                     clear HB
                     clear HO_1112003
                     have HO_1112004 := n0_
                     have BK1108 := n1_
                     have BK1111 := n2_
                     have HB := n3_
                     have HO1122 := n4_
                     clear n0_ n1_ n2_ n3_ n4_
                     clear ho hb hg hat
                     obtain ⟨Ao36, co36, eo36⟩ := Kd.R_slice HO1122.out
                     (first | subst eo36 | (injection eo36 with f1_ f2_ f3_; have f4_ := f1_.symm; have f5_ := f3_.symm; clear f1_ f2_ f3_; subst f4_; subst f5_))
                     refine hK.out _ _ ⟨(pkC BK1111.out 0).trans rfl, (pkC BK1111.out 1).trans rfl, (pkC BK1111.out 2).trans rfl, (pkC BK1111.out 3).trans rfl, (pkC BK1111.out 4).trans rfl, ((HB.out.cell (World.block_lt_of_cell? w _ hw1119_0)).trans hw1119_0), ((HB.out.cell (World.block_lt_of_cell? w _ hw1119_1)).trans hw1119_1)⟩ (fun hHeld => ?_)
                     clear hK K
                     refine norm_ (a' := ?_) ?_ ?_
                     rotate_left
                     · show Act.put _ (some 72) _ = _
                       simp only [Act.put, zA, zB, zC, i64_w, i32_w]
                       rfl
                     refine pure_ (i := 8) (N := some 73) (v := ?_) (a' := ?_) #[true, true, true, true, true, true, true, true, true, false] rfl rfl (any_of HT_.out (by kernel_rfl)) (fun _ _ _ h => h) (Or.inl ⟨by rfl, ?_⟩) ?_ ?_
                     rotate_left
                     · intro w'
                       go_simp
                       with_reducible rfl
                     rotate_left
                     · simp only [Act.put, zA, zB, zC, i64_w, i32_w]
                       rfl
                     refine last_ (i := 9) (N := none) #[true, true, true, true, true, true, true, true, true, true] rfl rfl (one_of HT_.out (by kernel_rfl)) (by decide) (fun K hK => ?_)
                     have hs37 : w35.cell? ⟨gb1111, 3, none⟩ = some (u1112003) := (pkC BK1111.out 3).trans rfl
                     have hfs37 := pkF BK1111.out 3
                     have hns37_0 := NB1108_1111.out
                     have hms37_0 := NB1111_1108.out
                     refine skip_ (w1 := ?_) (by rfl) rfl ?_ ?_
                     rotate_left
                     · go_simp
                       rfl
                     refine hK.out _ _ ?_
                     clear hK K
                     refine done_ (done_of HT_.out (by kernel_rfl)) ?_
                     try go_wp2
                     have n0_ : Aside0 (Kd.N (Kd.slice 9 Kd.string) 63 (w35.setCell ⟨gb1111, 3, none⟩ (.slice Ao36 y1120.length co36)) w.heap.size (fun k_ => (w.heap.size ≤ k_) ∧ some k_ ≠ (.slice Ao36 y1120.length co36 : Value).ownBlock ∧ k_ ≠ gb1108 ∧ k_ ≠ gb1111) u1112004 x1112004_3) := ⟨by (with_reducible repeat (first | apply Kd.N_alloc | apply Kd.N_drewN | apply Kd.N_drew)); exact Kd.N_mono (Kd.N_far (p := ⟨gb1111, 3, none⟩) (Kd.N_mono HO_1112004.out (fun k_ hk => (⟨hk, hk.1.2.2⟩ : _ ∧ k_ ≠ gb1111))) (fun _ hk => hk.2) (.slice Ao36 y1120.length co36)) (fun _ hk => ⟨hk.1.1.1, ⟨hk.1.2, ⟨hk.1.1.2.1, hk.1.1.2.2⟩⟩⟩)⟩
                     have n1_ : Aside0 (Kd.R k86 86 (w35.setCell ⟨gb1111, 3, none⟩ (.slice Ao36 y1120.length co36)) w.heap.size (fun k_ => (w.heap.size ≤ k_)) (.slice Ao36 y1120.length co36) y1120) := ⟨by (with_reducible repeat (first | apply Kd.R_alloc | apply Kd.R_drewN | apply Kd.R_drew)); exact Kd.R_mono (Kd.R_far (p := ⟨gb1111, 3, none⟩) (Kd.R_types HO1122.out BK1111.out (by decide)) (fun _ hk => hk.2) (.slice Ao36 y1120.length co36)) (fun _ hk => hk.1)⟩
                     have n2_ : Aside0 ((w35.setCell ⟨gb1111, 3, none⟩ (.slice Ao36 y1120.length co36)).heap[gb1108]? = some (.cells #[.int .i64 0, .int .i64 0, .bool false, .slice none 0 0, .slice none 0 0] 82 (0, 0))) := ⟨by (with_reducible repeat (first | refine pkN ?_ _ | refine pkD ?_ | refine pkA ?_ _)); refine blk_far ?_ NB1108_1111.out _; (with_reducible repeat (first | refine pkN ?_ _ | refine pkD ?_ | refine pkA ?_ _)); exact BK1108.out⟩
                     have n3_ : Aside0 ((w35.setCell ⟨gb1111, 3, none⟩ (.slice Ao36 y1120.length co36)).heap[gb1111]? = some (.cells #[.int .i64 (l0.length : Int), .int .i64 x5_4, .bool false, .slice Ao36 y1120.length co36, u1112004] 82 (0, 0))) := ⟨by (with_reducible repeat (first | refine pkN ?_ _ | refine pkD ?_ | refine pkA ?_ _)); refine blk_put (cs := #[.int .i64 (l0.length : Int), .int .i64 x5_4, .bool false, u1112003, u1112004]) ?_ 3 _ rfl; (with_reducible repeat (first | refine pkN ?_ _ | refine pkD ?_ | refine pkA ?_ _)); exact BK1111.out⟩
                     have n4_ : Aside0 (Below w.heap.size w (w35.setCell ⟨gb1111, 3, none⟩ (.slice Ao36 y1120.length co36))) := ⟨by repeat (first | (with_reducible first | exact HB.out | apply pbA | apply pbN | apply pbD | refine pbS ?_ GE1108.out | refine pbS ?_ GE1111.out) | exact HB.out)⟩
                     (try clear HO_1112004)
                     (try clear HO1122)
                     (try clear BK1108)
                     (try clear BK1111)
                     (try clear HB)
                     generalize (w35.setCell ⟨gb1111, 3, none⟩ (.slice Ao36 y1120.length co36)) = w38 at n0_ n1_ n2_ n3_ n4_ ⊢
                     have HO_1112004 := n0_
                     have HO1122 := n1_
                     have BK1108 := n2_
                     have BK1111 := n3_
                     have HB := n4_
                     clear n0_ n1_ n2_ n3_ n4_
                     have n0_ := Aside0.mk (Kd.N_drew HO_1112004.out)
                     have n1_ := Aside0.mk (Kd.R_drew HO1122.out)
                     have n2_ := Aside0.mk (pkD BK1108.out)
                     have n3_ := Aside0.mk (pkD BK1111.out)
                     have n4_ := Aside0.mk (pbD HB.out)
                     clear HO_1112004
                     clear HO1122
                     clear BK1108
                     clear BK1111
                     clear HB
                     have HO_1112004 := n0_
                     have HO1122 := n1_
                     have BK1108 := n2_
                     have BK1111 := n3_
                     have HB := n4_
                     clear n0_ n1_ n2_ n3_ n4_
                     refine start_ (n := 9) (S := fun w' => w'.cell? ⟨gb1111, 0, none⟩ = some (.int .i64 (l0.length : Int)) ∧ w'.cell? ⟨gb1111, 1, none⟩ = some (.int .i64 x5_4) ∧ w'.cell? ⟨gb1111, 2, none⟩ = some (.bool false) ∧ w'.cell? ⟨gb1111, 3, none⟩ = some (.slice Ao36 y1120.length co36) ∧ w'.cell? ⟨gb1111, 4, none⟩ = some (u1112004)) (ds := [8]) #[false, false, false, false, false, false, false, false, false] (by kernel_rfl) rfl rfl ⟨(pkC BK1111.out 0).trans rfl, (pkC BK1111.out 1).trans rfl, (pkC BK1111.out 2).trans rfl, (pkC BK1111.out 3).trans rfl, (pkC BK1111.out 4).trans rfl⟩ (fun hHeld => ?_); refine with_tabW footbridgeref12_Build.tab15 footbridgeref12_Build.bits15 (fun HT_ HW_ => ?_)
                     generalize w38.drew = w39 at HO_1112004 HO1122 BK1108 BK1111 HB hHeld ⊢
                     refine pure_ (i := 0) (N := some 74) (v := ?_) (a' := ?_) #[true, false, false, false, false, false, false, false, false] rfl rfl (any_of HT_.out (by kernel_rfl)) (fun _ _ _ h => h) (Or.inl ⟨by rfl, ?_⟩) ?_ ?_
                     rotate_left
                     · intro w'
                       go_simp
                       with_reducible rfl
                     rotate_left
                     · simp only [Act.put, zA, zB, zC, i64_w, i32_w]
                       rfl
                     refine pure_ (i := 2) (N := some 76) (v := ?_) (a' := ?_) #[true, false, true, false, false, false, false, false, false] rfl rfl (any_of HT_.out (by kernel_rfl)) (fun _ _ _ h => h) (Or.inl ⟨by rfl, ?_⟩) ?_ ?_
                     rotate_left
                     · intro w'
                       go_simp
                       with_reducible rfl
                     rotate_left
                     · simp only [Act.put, zA, zB, zC, i64_w, i32_w]
                       rfl
                     refine pure_ (i := 3) (N := some 77) (v := ?_) (a' := ?_) #[true, false, true, true, false, false, false, false, false] rfl rfl (any_of HT_.out (by kernel_rfl)) (fun _ _ _ h => h) (Or.inl ⟨by rfl, ?_⟩) ?_ ?_
                     rotate_left
                     · intro w'
                       go_simp
                       with_reducible rfl
                     rotate_left
                     · simp only [Act.put, zA, zB, zC, i64_w, i32_w]
                       rfl
                     refine take_ (i := 1) (N := some 75) (v := ?_) (a' := ?_) #[true, true, true, true, false, false, false, false, false] rfl rfl (take_ofW HT_.out HW_.out (by kernel_rfl)) (fun _ _ _ h => h) (Or.inl ⟨by rfl, ?_⟩) hHeld ?_ ?_
                     rotate_left
                     · rintro w' ⟨s0, s1, s2, s3, s4⟩
                       go_simp
                       with_reducible rfl
                     rotate_left
                     · simp only [Act.put, zA, zB, zC, i64_w, i32_w]
                       rfl
                     refine one_ (i := 4) (N := some 78) #[true, true, true, true, true, false, false, false, false] rfl rfl (one_of HT_.out (by kernel_rfl)) (by decide) (fun K hK => ?_)
                     refine goes_ Try.func124 (by kernel_rfl) rfl #[.slice (some ad1119) l0.length c0, .int .i64 x7_3] (by rfl) rfl rfl (by (try simp only [List.map_toArray, List.map_cons, List.map_nil]); first | done | rfl | (simp only [List.length_drop, List.length_take]; rfl)) ?_
                     with_reducible refine (footbridgeref12_path.calls k3 _ _ l0 x7_3 t1123 _ ?side1 ?side2 A32.out).mono ?_
                     (case side1 => repeat (first | exact (Kd.C_below HR0.out HB.out) | (with_reducible refine Kd.C_alloc ?_ _) | (with_reducible refine Kd.C_drewN ?_ _) | (with_reducible refine Kd.C_drew ?_)))
                     (case side2 => exact HC0.out)
                     rintro e w40 ⟨v1124, rfl, ho0, hb⟩
                     refine ⟨_, rfl, ?_⟩
                     have n0_ := Aside0.mk (Kd.N_elder' (by (with_reducible repeat (first | apply Kd.N_alloc | apply Kd.N_drewN | apply Kd.N_drew)); exact HO_1112004.out) (Kd.R_base ho0) hb)
                     have n1_ := Aside0.mk (Kd.R_below (by (with_reducible repeat (first | apply Kd.R_alloc | apply Kd.R_drewN | apply Kd.R_drew)); exact HO1122.out) hb)
                     have n2_ := Aside0.mk (Kd.R_lower (Kd.R_newM (M := fun k_ => (w.heap.size ≤ k_)) ho0 (below_size (by repeat (first | (with_reducible first | exact HB.out | apply pbA | apply pbN | apply pbD | refine pbS ?_ GE1108.out | refine pbS ?_ GE1111.out) | exact HB.out))) (fun k_ h_ => h_)) (below_size (by repeat (first | (with_reducible first | exact HB.out | apply pbA | apply pbN | apply pbD | refine pbS ?_ GE1108.out | refine pbS ?_ GE1111.out) | exact HB.out))))
                     have n3_ := Aside0.mk (blk_below (g := gb1108) (o := .cells #[.int .i64 0, .int .i64 0, .bool false, .slice none 0 0, .slice none 0 0] 82 (0, 0)) (by (with_reducible repeat (first | refine pkN ?_ _ | refine pkD ?_ | refine pkA ?_ _)); exact BK1108.out) hb)
                     have n4_ := Aside0.mk (blk_below (g := gb1111) (o := .cells #[.int .i64 (l0.length : Int), .int .i64 x5_4, .bool false, .slice Ao36 y1120.length co36, u1112004] 82 (0, 0)) (by (with_reducible repeat (first | refine pkN ?_ _ | refine pkD ?_ | refine pkA ?_ _)); exact BK1111.out) hb)
                     have n5_ := Aside0.mk (below_step (by repeat (first | (with_reducible first | exact HB.out | apply pbA | apply pbN | apply pbD | refine pbS ?_ GE1108.out | refine pbS ?_ GE1111.out) | exact HB.out)) hb)
                     clear HO_1112004
                     clear HO1122
                     clear BK1108
                     clear BK1111
                     clear HB
                     have HO_1112004 := n0_
                     have HO1122 := n1_
                     have HO1125 := n2_
                     have BK1108 := n3_
                     have BK1111 := n4_
                     have HB := n5_
                     clear n0_ n1_ n2_ n3_ n4_ n5_
                     (try clear hb)
                     (try clear hb2)
                     (try clear hk)
                     (try clear hi)
                     (try clear ho0)
                     obtain ⟨Ao42, co42, eo42⟩ := Kd.R_slice HO1125.out
                     (first | subst eo42 | (injection eo42 with f1_ f2_ f3_; have f4_ := f1_.symm; have f5_ := f3_.symm; clear f1_ f2_ f3_; subst f4_; subst f5_))
                     refine hK.out _ _ ⟨(pkC BK1111.out 0).trans rfl, (pkC BK1111.out 1).trans rfl, (pkC BK1111.out 2).trans rfl, (pkC BK1111.out 3).trans rfl, (pkC BK1111.out 4).trans rfl⟩ (fun hHeld => ?_)
                     clear hK K
                     refine norm_ (a' := ?_) ?_ ?_
                     rotate_left
                     · show Act.put _ (some 78) _ = _
                       simp only [Act.put, zA, zB, zC, i64_w, i32_w]
                       rfl
                     refine one_ (i := 5) (N := some 79) #[true, true, true, true, true, true, false, false, false] rfl rfl (one_of HT_.out (by kernel_rfl)) (by decide) (fun K hK => ?_)
                     refine value_ (w1 := ?_) (v := ?_) (by rfl) rfl ?_ ?_
                     rotate_left 2
                     · go_simp
                       constructor
                       · rfl
                       · rfl
                     refine hK.out _ _ ⟨(pkC (pkA BK1111.out _) 0).trans rfl, (pkC (pkA BK1111.out _) 1).trans rfl, (pkC (pkA BK1111.out _) 2).trans rfl, (pkC (pkA BK1111.out _) 3).trans rfl, (pkC (pkA BK1111.out _) 4).trans rfl⟩ (fun hHeld => ?_)
                     clear hK K
                     refine norm_ (a' := ?_) ?_ ?_
                     rotate_left
                     · show Act.put _ (some 79) _ = _
                       simp only [Act.put, zA, zB, zC, i64_w, i32_w]
                       rfl
                     refine one_ (i := 6) (N := some 80) #[true, true, true, true, true, true, true, false, false] rfl rfl (one_of HT_.out (by kernel_rfl)) (by decide) (fun K hK => ?_)
                     refine Kd.N_append_step (Kd.slice 9 Kd.string) (w0 := w) w.heap.size (by rfl) (.tmp 75) (.tmp 79) 80 63 (.slice none 0 0) 24 rfl Try.underlying80 info63 rfl (by decide) (by omega) u1112004 x1112004_3 t1123 [.slice Ao42 t1123.length co42] (fun k_ => (w.heap.size ≤ k_) ∧ some k_ ≠ (.slice Ao36 y1120.length co36 : Value).ownBlock ∧ k_ ≠ gb1108 ∧ k_ ≠ gb1111) (fun k_ => ((fun k_ => (w.heap.size ≤ k_) ∧ some k_ ≠ (.slice Ao36 y1120.length co36 : Value).ownBlock ∧ k_ ≠ gb1108 ∧ k_ ≠ gb1111)) k_ ∧ some k_ ≠ (u1112004 : Value).ownBlock) rfl rfl ?aP (fun _ hk => hk) ?aF ?aO ?aB ?aS ?aL ?_
                     (case aP => exact (Kd.FK_slice_mk (Kd.R_reads' (Kd.R_mono (ok' := (fun k_ => ((fun k_ => (w.heap.size ≤ k_) ∧ some k_ ≠ (.slice Ao36 y1120.length co36 : Value).ownBlock ∧ k_ ≠ gb1108 ∧ k_ ≠ gb1111)) k_ ∧ some k_ ≠ (u1112004 : Value).ownBlock)) (Kd.R_types (Kd.R_types (Kd.R_apart' (Kd.R_apart' (HO1125.out) (Kd.R_typed HO1122.out) (by decide)) (Kd.N_typed HO_1112004.out) (by decide)) BK1108.out (by decide)) BK1111.out (by decide)) (fun k_ hk => ⟨⟨hk.1.1.1.1.1, ⟨hk.1.1.1.2, ⟨hk.1.2, hk.2⟩⟩⟩, hk.1.1.2⟩))).2.1 (Kd.R_F (Kd.R_mono (ok' := (fun k_ => ((fun k_ => (w.heap.size ≤ k_) ∧ some k_ ≠ (.slice Ao36 y1120.length co36 : Value).ownBlock ∧ k_ ≠ gb1108 ∧ k_ ≠ gb1111)) k_ ∧ some k_ ≠ (u1112004 : Value).ownBlock)) (Kd.R_types (Kd.R_types (Kd.R_apart' (Kd.R_apart' (HO1125.out) (Kd.R_typed HO1122.out) (by decide)) (Kd.N_typed HO_1112004.out) (by decide)) BK1108.out (by decide)) BK1111.out (by decide)) (fun k_ hk => ⟨⟨hk.1.1.1.1.1, ⟨hk.1.1.1.2, ⟨hk.1.2, hk.2⟩⟩⟩, hk.1.1.2⟩)))))
                     (case aB => exact (by repeat (first | (with_reducible first | exact HB.out | apply pbA | apply pbN | apply pbD | refine pbS ?_ GE1108.out | refine pbS ?_ GE1111.out) | exact HB.out)))
                     (case aF => exact (fun k_ hk => ⟨(Nat.le_trans (below_size (by repeat (first | (with_reducible first | exact HB.out | apply pbA | apply pbN | apply pbD | refine pbS ?_ GE1108.out | refine pbS ?_ GE1111.out) | exact HB.out))) hk), Kd.fresh' (Kd.R_lt (by (with_reducible repeat (first | apply Kd.R_alloc | apply Kd.R_drewN | apply Kd.R_drew)); exact HO1122.out)) k_ hk, Kd.freshB (g := gb1108) (o := .cells #[.int .i64 0, .int .i64 0, .bool false, .slice none 0 0, .slice none 0 0] 82 (0, 0)) (by (with_reducible repeat (first | refine pkN ?_ _ | refine pkD ?_ | refine pkA ?_ _)); exact BK1108.out) k_ hk, Kd.freshB (g := gb1111) (o := .cells #[.int .i64 (l0.length : Int), .int .i64 x5_4, .bool false, .slice Ao36 y1120.length co36, u1112004] 82 (0, 0)) (by (with_reducible repeat (first | refine pkN ?_ _ | refine pkD ?_ | refine pkA ?_ _)); exact BK1111.out) k_ hk⟩))
                     (case aO => exact (by (with_reducible repeat (first | apply Kd.N_alloc | apply Kd.N_drewN | apply Kd.N_drew)); exact Kd.N_mono HO_1112004.out (fun _ hk => ⟨hk.1.1, ⟨hk.1.2.1, ⟨hk.1.2.2.1, hk.1.2.2.2⟩⟩⟩)))
                     (case aS => exact (below_size (by repeat (first | (with_reducible first | exact HB.out | apply pbA | apply pbN | apply pbD | refine pbS ?_ GE1108.out | refine pbS ?_ GE1111.out) | exact HB.out))))
                     (case aL => have := LMc33.out; omega)
                     intro v1127 w41 ho hb hg hat
                     rw [← Ny1126.out] at ho
                     have n0_ := Aside0.mk (blk_grown (g := gb1108) (o := .cells #[.int .i64 0, .int .i64 0, .bool false, .slice none 0 0, .slice none 0 0] 82 (0, 0)) (by (with_reducible repeat (first | refine pkN ?_ _ | refine pkD ?_ | refine pkA ?_ _)); exact BK1108.out) hg (Kd.N_ne HO_1112004.out BK1108.out (by decide)))
                     have n1_ := Aside0.mk (blk_grown (g := gb1111) (o := .cells #[.int .i64 (l0.length : Int), .int .i64 x5_4, .bool false, .slice Ao36 y1120.length co36, u1112004] 82 (0, 0)) (by (with_reducible repeat (first | refine pkN ?_ _ | refine pkD ?_ | refine pkA ?_ _)); exact BK1111.out) hg (Kd.N_ne HO_1112004.out BK1111.out (by decide)))
                     have n2_ := Aside0.mk (Kd.R_over' (by (with_reducible repeat (first | apply Kd.R_alloc | apply Kd.R_drewN | apply Kd.R_drew)); exact HO1122.out) (Kd.N_typed (by (with_reducible repeat (first | apply Kd.N_alloc | apply Kd.N_drewN | apply Kd.N_drew)); exact HO_1112004.out)) (by decide) hg)
                     have n3_ := Aside0.mk (hb)
                     have n4_ := Aside0.mk (ho)
                     clear BK1108
                     clear BK1111
                     clear HO1122
                     clear HB
                     clear HO_1112004
                     clear HO1125
                     have BK1108 := n0_
                     have BK1111 := n1_
                     have HO1122 := n2_
                     have HB := n3_
                     have HO1128 := n4_
                     clear n0_ n1_ n2_ n3_ n4_
                     clear ho hb hg hat
                     obtain ⟨Ao43, co43, eo43⟩ := Kd.N_slice HO1128.out
                     (first | subst eo43 | (injection eo43 with f1_ f2_ f3_; have f4_ := f1_.symm; have f5_ := f3_.symm; clear f1_ f2_ f3_; subst f4_; subst f5_))
                     refine hK.out _ _ ⟨(pkC BK1111.out 0).trans rfl, (pkC BK1111.out 1).trans rfl, (pkC BK1111.out 2).trans rfl, (pkC BK1111.out 3).trans rfl, (pkC BK1111.out 4).trans rfl⟩ (fun hHeld => ?_)
                     clear hK K
                     refine norm_ (a' := ?_) ?_ ?_
                     rotate_left
                     · show Act.put _ (some 80) _ = _
                       simp only [Act.put, zA, zB, zC, i64_w, i32_w]
                       rfl
                     refine pure_ (i := 7) (N := some 81) (v := ?_) (a' := ?_) #[true, true, true, true, true, true, true, true, false] rfl rfl (any_of HT_.out (by kernel_rfl)) (fun _ _ _ h => h) (Or.inl ⟨by rfl, ?_⟩) ?_ ?_
                     rotate_left
                     · intro w'
                       go_simp
                       with_reducible rfl
                     rotate_left
                     · simp only [Act.put, zA, zB, zC, i64_w, i32_w]
                       rfl
                     refine last_ (i := 8) (N := none) #[true, true, true, true, true, true, true, true, true] rfl rfl (one_of HT_.out (by kernel_rfl)) (by decide) (fun K hK => ?_)
                     have hs44 : w41.cell? ⟨gb1111, 4, none⟩ = some (u1112004) := (pkC BK1111.out 4).trans rfl
                     have hfs44 := pkF BK1111.out 4
                     have hns44_0 := NB1108_1111.out
                     have hms44_0 := NB1111_1108.out
                     refine skip_ (w1 := ?_) (by rfl) rfl ?_ ?_
                     rotate_left
                     · go_simp
                       rfl
                     refine hK.out _ _ ?_
                     clear hK K
                     refine done_ (done_of HT_.out (by kernel_rfl)) ?_
                     try go_wp2
                     go_roundg k3
                     case measure => have := HJ4.out; have := HJ9.out; have := HK3.out; omega
                     case rel => exact ⟨(wrap64 (x7_3 + 1)), (y1120), (y1126), (.slice Ao36 y1120.length co36), (.slice Ao43 y1126.length co43), (by first | rfl | (simp; done) | (simp [*]; done)), H', ⟨by have := HJ4.out; have := HJ9.out; have := HK3.out; omega⟩, ⟨by (with_reducible repeat (first | apply Kd.R_alloc | apply Kd.R_drewN | apply Kd.R_drew)); exact Kd.R_mono (Kd.R_far (p := ⟨gb1111, 4, none⟩) (Kd.R_types HO1122.out BK1111.out (by decide)) (fun _ hk => hk.2) (.slice Ao43 y1126.length co43)) (fun _ hk => hk.1)⟩, ⟨by (with_reducible repeat (first | apply Kd.N_alloc | apply Kd.N_drewN | apply Kd.N_drew)); exact Kd.N_mono (Kd.N_far (p := ⟨gb1111, 4, none⟩) (Kd.N_mono HO1128.out (fun k_ hk => (⟨hk, hk.2.2.2⟩ : _ ∧ k_ ≠ gb1111))) (fun _ hk => hk.2) (.slice Ao43 y1126.length co43)) (fun _ hk => ⟨hk.1.1, ⟨hk.1.2.1, ⟨hk.1.2.2.1, hk.1.2.2.2⟩⟩⟩)⟩, ⟨by (with_reducible repeat (first | refine pkN ?_ _ | refine pkD ?_ | refine pkA ?_ _)); refine blk_far ?_ NB1108_1111.out _; (with_reducible repeat (first | refine pkN ?_ _ | refine pkD ?_ | refine pkA ?_ _)); exact BK1108.out⟩, ⟨by (with_reducible repeat (first | refine pkN ?_ _ | refine pkD ?_ | refine pkA ?_ _)); refine blk_put (cs := #[.int .i64 (l0.length : Int), .int .i64 x5_4, .bool false, .slice Ao36 y1120.length co36, u1112004]) ?_ 4 _ rfl; (with_reducible repeat (first | refine pkN ?_ _ | refine pkD ?_ | refine pkA ?_ _)); exact BK1111.out⟩, ⟨by repeat (first | (with_reducible first | exact HB.out | apply pbA | apply pbN | apply pbD | refine pbS ?_ GE1108.out | refine pbS ?_ GE1111.out) | exact HB.out)⟩⟩
                   · rw [if_neg c33] at H
                     exact absurd H (by simp)
                 · rw [if_neg c31] at H
                   exact absurd H (by simp)
               · rw [if_neg c30] at H
                 exact absurd H (by simp)
             · rw [if_neg c29] at H
               have c29b0 : decide (x7_3 < (l0.length : Int)) = false := decide_eq_false c29
               clear c29
               simp only [Option.some.injEq, Prod.mk.injEq] at H
               obtain ⟨rfl, rfl, rfl, rfl, rfl⟩ := H
               have hnb45 := NB1111_1108.out
               have hnc45 := NB1108_1111.out
               have hcz46_0 : wr.cell? ⟨gb1111, 0, none⟩ = some (.int .i64 (l0.length : Int)) := (pkC BK1111.out 0).trans rfl
               have hcz46_1 : wr.cell? ⟨gb1111, 1, none⟩ = some (.int .i64 x5_4) := (pkC BK1111.out 1).trans rfl
               have hcz46_2 : wr.cell? ⟨gb1111, 2, none⟩ = some (.bool false) := (pkC BK1111.out 2).trans rfl
               have hcz46_3 : wr.cell? ⟨gb1111, 3, none⟩ = some (u1112003) := (pkC BK1111.out 3).trans rfl
               have hcz46_4 : wr.cell? ⟨gb1111, 4, none⟩ = some (u1112004) := (pkC BK1111.out 4).trans rfl
               have hfz46_0 := pkF BK1111.out 0
               have hfz46_1 := pkF BK1111.out 1
               have hfz46_2 := pkF BK1111.out 2
               have hfz46_3 := pkF BK1111.out 3
               have hfz46_4 := pkF BK1111.out 4
               have hcz47_0 : wr.cell? ⟨gb1108, 0, none⟩ = some (.int .i64 0) := (pkC BK1108.out 0).trans rfl
               have hcz47_1 : wr.cell? ⟨gb1108, 1, none⟩ = some (.int .i64 0) := (pkC BK1108.out 1).trans rfl
               have hcz47_2 : wr.cell? ⟨gb1108, 2, none⟩ = some (.bool false) := (pkC BK1108.out 2).trans rfl
               have hcz47_3 : wr.cell? ⟨gb1108, 3, none⟩ = some (.slice none 0 0) := (pkC BK1108.out 3).trans rfl
               have hcz47_4 : wr.cell? ⟨gb1108, 4, none⟩ = some (.slice none 0 0) := (pkC BK1108.out 4).trans rfl
               have hfz47_0 := pkF BK1108.out 0
               have hfz47_1 := pkF BK1108.out 1
               have hfz47_2 := pkF BK1108.out 2
               have hfz47_3 := pkF BK1108.out 3
               have hfz47_4 := pkF BK1108.out 4
               obtain ⟨Ao48, co48, eo48⟩ := Kd.R_slice HO_1112003.out
               subst eo48
               obtain ⟨Ao49, co49, eo49⟩ := Kd.N_slice HO_1112004.out
               subst eo49
               go_wp2
               refine bodyPost_ret (results_cell_row rfl _ _ gb1108 82 #[.int .i64 (l0.length : Int), .int .i64 x5_4, .bool false, .slice Ao48 x1112003_3.length co48, .slice Ao49 x1112004_3.length co49] (0, 0) _ rfl (by (with_reducible repeat (first | refine pkN ?_ _ | refine pkD ?_ | refine pkA ?_ _)); refine blk_put (cs := #[.int .i64 (l0.length : Int), .int .i64 x5_4, .bool false, .slice Ao48 x1112003_3.length co48, .slice none 0 0]) ?_ 4 _ rfl; (with_reducible repeat (first | refine pkN ?_ _ | refine pkD ?_ | refine pkA ?_ _)); refine blk_put (cs := #[.int .i64 (l0.length : Int), .int .i64 x5_4, .bool false, .slice none 0 0, .slice none 0 0]) ?_ 3 _ rfl; (with_reducible repeat (first | refine pkN ?_ _ | refine pkD ?_ | refine pkA ?_ _)); refine blk_put (cs := #[.int .i64 (l0.length : Int), .int .i64 x5_4, .bool false, .slice none 0 0, .slice none 0 0]) ?_ 2 _ rfl; (with_reducible repeat (first | refine pkN ?_ _ | refine pkD ?_ | refine pkA ?_ _)); refine blk_put (cs := #[.int .i64 (l0.length : Int), .int .i64 0, .bool false, .slice none 0 0, .slice none 0 0]) ?_ 1 _ rfl; (with_reducible repeat (first | refine pkN ?_ _ | refine pkD ?_ | refine pkA ?_ _)); refine blk_put (cs := #[.int .i64 0, .int .i64 0, .bool false, .slice none 0 0, .slice none 0 0]) ?_ 0 _ rfl; (with_reducible repeat (first | refine pkN ?_ _ | refine pkD ?_ | refine pkA ?_ _)); exact BK1108.out) Try.underlying82 rfl (by kernel_rfl)) rfl ?_
               exact ⟨_, _, by first | rfl | (simp [errW_none, errW_some] <;> rfl) | (simp only [← hji27]; first | rfl | (simp [errW_none, errW_some] <;> rfl)) | (simp [*, errW_none, errW_some] <;> rfl), by (with_reducible repeat (first | apply Kd.R_alloc | apply Kd.R_drewN | apply Kd.R_drew)); exact Kd.R_mono (Kd.R_far (p := ⟨gb1108, 4, none⟩) (Kd.R_far (p := ⟨gb1108, 3, none⟩) (Kd.R_far (p := ⟨gb1108, 2, none⟩) (Kd.R_far (p := ⟨gb1108, 1, none⟩) (Kd.R_far (p := ⟨gb1108, 0, none⟩) (Kd.R_types HO_1112003.out BK1108.out (by decide)) (fun _ hk => hk.2) (.int .i64 (l0.length : Int))) (fun _ hk => hk.2) (.int .i64 x5_4)) (fun _ hk => hk.2) (.bool false)) (fun _ hk => hk.2) (.slice Ao48 x1112003_3.length co48)) (fun _ hk => hk.2) (.slice Ao49 x1112004_3.length co49)) (fun _ hk => hk.1), by (with_reducible repeat (first | apply Kd.N_alloc | apply Kd.N_drewN | apply Kd.N_drew)); exact Kd.N_mono (Kd.N_far (p := ⟨gb1108, 4, none⟩) (Kd.N_far (p := ⟨gb1108, 3, none⟩) (Kd.N_far (p := ⟨gb1108, 2, none⟩) (Kd.N_far (p := ⟨gb1108, 1, none⟩) (Kd.N_far (p := ⟨gb1108, 0, none⟩) (Kd.N_mono HO_1112004.out (fun k_ hk => (⟨hk, hk.2.2.1⟩ : _ ∧ k_ ≠ gb1108))) (fun _ hk => hk.2) (.int .i64 (l0.length : Int))) (fun _ hk => hk.2) (.int .i64 x5_4)) (fun _ hk => hk.2) (.bool false)) (fun _ hk => hk.2) (.slice Ao48 x1112003_3.length co48)) (fun _ hk => hk.2) (.slice Ao49 x1112004_3.length co49)) (fun _ hk => ⟨hk.1.1, hk.1.2.1⟩), by repeat (first | (with_reducible first | exact HB.out | apply pbA | apply pbN | apply pbD | refine pbS ?_ GE1108.out | refine pbS ?_ GE1111.out) | exact HB.out)⟩
           · rw [if_neg c28] at H
             have c28b0 : decide (x7_3 ≤ x5_4) = false := decide_eq_false c28
             clear c28
             simp only [Option.some.injEq, Prod.mk.injEq] at H
             obtain ⟨rfl, rfl, rfl, rfl, rfl⟩ := H
             have hnb50 := NB1111_1108.out
             have hnc50 := NB1108_1111.out
             have hcz51_0 : wr.cell? ⟨gb1111, 0, none⟩ = some (.int .i64 (l0.length : Int)) := (pkC BK1111.out 0).trans rfl
             have hcz51_1 : wr.cell? ⟨gb1111, 1, none⟩ = some (.int .i64 x5_4) := (pkC BK1111.out 1).trans rfl
             have hcz51_2 : wr.cell? ⟨gb1111, 2, none⟩ = some (.bool false) := (pkC BK1111.out 2).trans rfl
             have hcz51_3 : wr.cell? ⟨gb1111, 3, none⟩ = some (u1112003) := (pkC BK1111.out 3).trans rfl
             have hcz51_4 : wr.cell? ⟨gb1111, 4, none⟩ = some (u1112004) := (pkC BK1111.out 4).trans rfl
             have hfz51_0 := pkF BK1111.out 0
             have hfz51_1 := pkF BK1111.out 1
             have hfz51_2 := pkF BK1111.out 2
             have hfz51_3 := pkF BK1111.out 3
             have hfz51_4 := pkF BK1111.out 4
             have hcz52_0 : wr.cell? ⟨gb1108, 0, none⟩ = some (.int .i64 0) := (pkC BK1108.out 0).trans rfl
             have hcz52_1 : wr.cell? ⟨gb1108, 1, none⟩ = some (.int .i64 0) := (pkC BK1108.out 1).trans rfl
             have hcz52_2 : wr.cell? ⟨gb1108, 2, none⟩ = some (.bool false) := (pkC BK1108.out 2).trans rfl
             have hcz52_3 : wr.cell? ⟨gb1108, 3, none⟩ = some (.slice none 0 0) := (pkC BK1108.out 3).trans rfl
             have hcz52_4 : wr.cell? ⟨gb1108, 4, none⟩ = some (.slice none 0 0) := (pkC BK1108.out 4).trans rfl
             have hfz52_0 := pkF BK1108.out 0
             have hfz52_1 := pkF BK1108.out 1
             have hfz52_2 := pkF BK1108.out 2
             have hfz52_3 := pkF BK1108.out 3
             have hfz52_4 := pkF BK1108.out 4
             obtain ⟨Ao53, co53, eo53⟩ := Kd.R_slice HO_1112003.out
             subst eo53
             obtain ⟨Ao54, co54, eo54⟩ := Kd.N_slice HO_1112004.out
             subst eo54
             go_wp2
             refine bodyPost_ret (results_cell_row rfl _ _ gb1108 82 #[.int .i64 (l0.length : Int), .int .i64 x5_4, .bool false, .slice Ao53 x1112003_3.length co53, .slice Ao54 x1112004_3.length co54] (0, 0) _ rfl (by (with_reducible repeat (first | refine pkN ?_ _ | refine pkD ?_ | refine pkA ?_ _)); refine blk_put (cs := #[.int .i64 (l0.length : Int), .int .i64 x5_4, .bool false, .slice Ao53 x1112003_3.length co53, .slice none 0 0]) ?_ 4 _ rfl; (with_reducible repeat (first | refine pkN ?_ _ | refine pkD ?_ | refine pkA ?_ _)); refine blk_put (cs := #[.int .i64 (l0.length : Int), .int .i64 x5_4, .bool false, .slice none 0 0, .slice none 0 0]) ?_ 3 _ rfl; (with_reducible repeat (first | refine pkN ?_ _ | refine pkD ?_ | refine pkA ?_ _)); refine blk_put (cs := #[.int .i64 (l0.length : Int), .int .i64 x5_4, .bool false, .slice none 0 0, .slice none 0 0]) ?_ 2 _ rfl; (with_reducible repeat (first | refine pkN ?_ _ | refine pkD ?_ | refine pkA ?_ _)); refine blk_put (cs := #[.int .i64 (l0.length : Int), .int .i64 0, .bool false, .slice none 0 0, .slice none 0 0]) ?_ 1 _ rfl; (with_reducible repeat (first | refine pkN ?_ _ | refine pkD ?_ | refine pkA ?_ _)); refine blk_put (cs := #[.int .i64 0, .int .i64 0, .bool false, .slice none 0 0, .slice none 0 0]) ?_ 0 _ rfl; (with_reducible repeat (first | refine pkN ?_ _ | refine pkD ?_ | refine pkA ?_ _)); exact BK1108.out) Try.underlying82 rfl (by kernel_rfl)) rfl ?_
             exact ⟨_, _, by first | rfl | (simp [errW_none, errW_some] <;> rfl) | (simp only [← hji27]; first | rfl | (simp [errW_none, errW_some] <;> rfl)) | (simp [*, errW_none, errW_some] <;> rfl), by (with_reducible repeat (first | apply Kd.R_alloc | apply Kd.R_drewN | apply Kd.R_drew)); exact Kd.R_mono (Kd.R_far (p := ⟨gb1108, 4, none⟩) (Kd.R_far (p := ⟨gb1108, 3, none⟩) (Kd.R_far (p := ⟨gb1108, 2, none⟩) (Kd.R_far (p := ⟨gb1108, 1, none⟩) (Kd.R_far (p := ⟨gb1108, 0, none⟩) (Kd.R_types HO_1112003.out BK1108.out (by decide)) (fun _ hk => hk.2) (.int .i64 (l0.length : Int))) (fun _ hk => hk.2) (.int .i64 x5_4)) (fun _ hk => hk.2) (.bool false)) (fun _ hk => hk.2) (.slice Ao53 x1112003_3.length co53)) (fun _ hk => hk.2) (.slice Ao54 x1112004_3.length co54)) (fun _ hk => hk.1), by (with_reducible repeat (first | apply Kd.N_alloc | apply Kd.N_drewN | apply Kd.N_drew)); exact Kd.N_mono (Kd.N_far (p := ⟨gb1108, 4, none⟩) (Kd.N_far (p := ⟨gb1108, 3, none⟩) (Kd.N_far (p := ⟨gb1108, 2, none⟩) (Kd.N_far (p := ⟨gb1108, 1, none⟩) (Kd.N_far (p := ⟨gb1108, 0, none⟩) (Kd.N_mono HO_1112004.out (fun k_ hk => (⟨hk, hk.2.2.1⟩ : _ ∧ k_ ≠ gb1108))) (fun _ hk => hk.2) (.int .i64 (l0.length : Int))) (fun _ hk => hk.2) (.int .i64 x5_4)) (fun _ hk => hk.2) (.bool false)) (fun _ hk => hk.2) (.slice Ao53 x1112003_3.length co53)) (fun _ hk => hk.2) (.slice Ao54 x1112004_3.length co54)) (fun _ hk => ⟨hk.1.1, hk.1.2.1⟩), by repeat (first | (with_reducible first | exact HB.out | apply pbA | apply pbN | apply pbD | refine pbS ?_ GE1108.out | refine pbS ?_ GE1111.out) | exact HB.out)⟩
 · replace c4 := Bool.eq_false_iff.mpr c4
   subst c4
   have H1 : (some (0, 0, false, ([] : List (S86)), ([] : List (List ByteArray)))) = some (r1, r2, r3, r4, r5) := by rw [if_neg (show ¬ (false = true) by decide)] at H; exact H
   clear H
   have H := H1
   clear H1
   simp only [Option.some.injEq, Prod.mk.injEq] at H
   obtain ⟨rfl, rfl, rfl, rfl, rfl⟩ := H
   go_enter Try.func54, Try.ntmps54
   go_wp2_with (first | ((with_reducible refine gate_dst (N := 4) rfl ?_); refine box_event ?hg (N := 4) ?hd (cs := #[.int .i64 0, .int .i64 0, .bool false, .slice none 0 0, .slice none 0 0]) (t := 82) ?hr ?_; (case hd => rfl); (case hg => rfl); (case hr => first | (go_simp; done) | (go_simp; rfl)); intro gb1108 hg w55 hbox hb; have n0_ := Aside0.mk (below_step (by repeat (first | (with_reducible first | exact HB.out | apply pbA | apply pbN | apply pbD) | exact HB.out)) hb); have n1_ := Aside0.mk (hbox); have n2_ := Aside0.mk ((by rw [hg]; exact (below_size (by repeat (first | (with_reducible first | exact HB.out | apply pbA | apply pbN | apply pbD) | exact HB.out))) : w.heap.size ≤ gb1108)); have n3_ := Aside0.mk ((by rw [hg]; exact (below_size (by repeat (first | (with_reducible first | exact HB.out | apply pbA | apply pbN | apply pbD) | exact HB.out))) : w.heap.size ≤ gb1108)); clear HB; have HB := n0_; have BK1108 := n1_; have GW1108 := n2_; have GE1108 := n3_; clear n0_ n1_ n2_ n3_; clear hb hbox hg) | ((with_reducible refine gate_callee (f := 39) rfl ?_); refine goesL_ (some 9) rfl rfl Try.func39 (by kernel_rfl) rfl #[.slice A0 l0.length c0] rfl (by (try simp only [List.map_toArray, List.map_cons, List.map_nil]); first | done | rfl | (simp only [List.length_drop, List.length_take]; rfl)) ?_; (with_reducible refine (footbridgeref12_Rises.calls k _ _ l0 false _ ?side1 ?side2 A3.out).mono ?_); (case side1 => repeat (first | exact (Kd.C_below HR0.out HB.out) | (with_reducible refine Kd.C_alloc ?_ _) | (with_reducible refine Kd.C_drewN ?_ _) | (with_reducible refine Kd.C_drew ?_))); (case side2 => exact HC0.out); rintro e w' ⟨rfl, ⟨nd, rfl⟩⟩; refine ⟨_, rfl, ?_⟩; (try (rw [drewN_self w55]; generalize hq_ : World.drewN w55 _ = w55; have n0_ : Aside0 (w55.heap[gb1108]? = some (.cells #[.int .i64 0, .int .i64 0, .bool false, .slice none 0 0, .slice none 0 0] 82 (0, 0))) := ⟨by rw [← hq_]; exact (by (with_reducible repeat (first | refine pkN ?_ _ | refine pkD ?_ | refine pkA ?_ _)); exact BK1108.out)⟩; have n1_ : Aside0 (Below w.heap.size w w55) := ⟨by rw [← hq_]; exact (by repeat (first | (with_reducible first | exact HB.out | apply pbA | apply pbN | apply pbD | refine pbS ?_ GE1108.out) | exact HB.out))⟩; clear BK1108 HB hq_; have BK1108 := n0_; have HB := n1_; clear n0_ n1_)); have hcz56_0 : w55.cell? ⟨gb1108, 0, none⟩ = some (.int .i64 0) := (pkC BK1108.out 0).trans rfl; have hcz56_1 : w55.cell? ⟨gb1108, 1, none⟩ = some (.int .i64 0) := (pkC BK1108.out 1).trans rfl; have hcz56_2 : w55.cell? ⟨gb1108, 2, none⟩ = some (.bool false) := (pkC BK1108.out 2).trans rfl; have hcz56_3 : w55.cell? ⟨gb1108, 3, none⟩ = some (.slice none 0 0) := (pkC BK1108.out 3).trans rfl; have hcz56_4 : w55.cell? ⟨gb1108, 4, none⟩ = some (.slice none 0 0) := (pkC BK1108.out 4).trans rfl; have hfz56_0 := pkF BK1108.out 0; have hfz56_1 := pkF BK1108.out 1; have hfz56_2 := pkF BK1108.out 2; have hfz56_3 := pkF BK1108.out 3; have hfz56_4 := pkF BK1108.out 4))
   refine bodyPost_ret (results_cell_row rfl _ _ gb1108 82 #[.int .i64 0, .int .i64 0, .bool false, .slice none 0 0, .slice none 0 0] (0, 0) _ rfl (by (with_reducible repeat (first | refine pkN ?_ _ | refine pkD ?_ | refine pkA ?_ _)); refine blk_put (cs := #[.int .i64 0, .int .i64 0, .bool false, .slice none 0 0, .slice none 0 0]) ?_ 4 _ rfl; (with_reducible repeat (first | refine pkN ?_ _ | refine pkD ?_ | refine pkA ?_ _)); refine blk_put (cs := #[.int .i64 0, .int .i64 0, .bool false, .slice none 0 0, .slice none 0 0]) ?_ 3 _ rfl; (with_reducible repeat (first | refine pkN ?_ _ | refine pkD ?_ | refine pkA ?_ _)); refine blk_put (cs := #[.int .i64 0, .int .i64 0, .bool false, .slice none 0 0, .slice none 0 0]) ?_ 2 _ rfl; (with_reducible repeat (first | refine pkN ?_ _ | refine pkD ?_ | refine pkA ?_ _)); refine blk_put (cs := #[.int .i64 0, .int .i64 0, .bool false, .slice none 0 0, .slice none 0 0]) ?_ 1 _ rfl; (with_reducible repeat (first | refine pkN ?_ _ | refine pkD ?_ | refine pkA ?_ _)); refine blk_put (cs := #[.int .i64 0, .int .i64 0, .bool false, .slice none 0 0, .slice none 0 0]) ?_ 0 _ rfl; (with_reducible repeat (first | refine pkN ?_ _ | refine pkD ?_ | refine pkA ?_ _)); exact BK1108.out) Try.underlying82 rfl (by kernel_rfl)) rfl ?_
   exact ⟨_, _, by first | rfl | (simp [errW_none, errW_some] <;> rfl) | (simp [*, errW_none, errW_some] <;> rfl), by first | exact Kd.R_nil _ _ _ _ _ | exact Kd.N_nil _ _ _ _ _ | exact Kd.V_nil _ _ _ _ _ | exact Kd.Q_nil _ _ _ _ _ | exact Kd.S_nil _ _ _ _ _, by first | exact Kd.S_nil _ _ _ _ _ | exact Kd.N_nil _ _ _ _ _ | exact Kd.V_nil _ _ _ _ _ | exact Kd.Q_nil _ _ _ _ _ | exact Kd.R_nil _ _ _ _ _, by repeat (first | (with_reducible first | exact HB.out | apply pbA | apply pbN | apply pbD | refine pbS ?_ GE1108.out) | exact HB.out)⟩
end Go.Proofs.Ytipgldfbjlhpoab.P
