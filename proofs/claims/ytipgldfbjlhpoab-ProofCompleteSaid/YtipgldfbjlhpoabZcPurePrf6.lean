/- Along its own path a leaf leads to the tree; a proof as bytes. -/
import Derived.Test.YtipgldfbjlhpoabZcPureWireR
import Derived.Test.YtipgldfbjlhpoabZcPureRd
import Derived.Test.YtipgldfbjlhpoabZcHPPut
import Derived.Test.YtipgldfbjlhpoabZcP0
import Derived.Test.YtipgldfbjlhpoabZcHCmp
import Derived.Test.YtipgldfbjlhpoabZcPProofR
namespace Go.Proofs.Ytipgldfbjlhpoab.Pure
set_option linter.unusedVariables false
set_option linter.unusedSimpArgs false
open Go.RowKit Go.Proofs.Ytipgldfbjlhpoab.P Go.Proofs.Ytipgldfbjlhpoab.Wire Go.Proofs.Ytipgldfbjlhpoab.Sha Go.Proofs.YtipgldfbjlhpoabW.PrintWords Go.Proofs.YtipgldfbjlhpoabW.PrintLast
theorem wk_path : ∀ (d : Nat) (l : List Pq) (i : Nat) (p : Pq), l[i]? = some p → l.length ≤ d → (wkR (pathP d l i).reverse (l.length : Int) (i : Int) (sumB (leafT p))).1 = tree d l ∧ (wkR (pathP d l i).reverse (l.length : Int) (i : Int) (sumB (leafT p))).2.2 = true := by
 intro d
 induction d with
 | zero =>
  intro l i p hp hl
  have := (List.getElem?_eq_some_iff.1 hp).1
  omega
 | succ d ih =>
  intro l i p hp hl
  have hil := (List.getElem?_eq_some_iff.1 hp).1
  rw [pathP, tree, if_neg (show ¬ l.length = 0 by omega)]
  by_cases h1 : l.length = 1
  · obtain rfl : i = 0 := by omega
    rw [if_pos (by omega), if_pos h1, List.reverse_nil, wkR, if_neg (by omega), if_pos (by omega)]
    match l, h1, hp with
    | [x], _, hp =>
     obtain rfl : x = p := Option.some.inj hp
     exact ⟨rfl, rfl⟩
  · have hb := sp_bounds l.length (by omega)
    have hq := parts_len l (by omega)
    rw [if_neg (by omega), if_neg h1]
    by_cases hlt : i < sp l.length
    · have h2 := ih (l.take (sp l.length)) i p (by rw [List.getElem?_take_of_lt hlt]; exact hp) (by omega)
      rw [hq.1] at h2
      rw [if_pos hlt, List.reverse_append, List.reverse_singleton, List.singleton_append, wkR, if_neg (by omega), if_neg (by omega), spI_nat, if_pos (by omega)]
      exact ⟨by rw [h2.1], h2.2⟩
    · have h2 := ih (l.drop (sp l.length)) (i - sp l.length) p (by rw [List.getElem?_drop, show sp l.length + (i - sp l.length) = i by omega]; exact hp) (by omega)
      rw [hq.2] at h2
      rw [if_neg hlt, List.reverse_append, List.reverse_singleton, List.singleton_append, wkR, if_neg (by omega), if_neg (by omega), spI_nat, if_neg (by omega),
       show (l.length : Int) - (sp l.length : Int) = ((l.length - sp l.length : Nat) : Int) by omega, show (i : Int) - (sp l.length : Int) = ((i - sp l.length : Nat) : Int) by omega]
      exact ⟨by rw [h2.1], h2.2⟩
theorem path_small : ∀ (d : Nat) (l : List Pq) (i : Nat), ∀ t ∈ pathP d l i, t.size ≤ 32 := by
 intro d
 induction d with
 | zero => intro l i t ht; cases ht
 | succ d ih =>
  intro l i t ht
  rw [pathP] at ht
  split at ht
  · cases ht
  · split at ht
    · rcases List.mem_append.mp ht with ht | ht
      · exact ih _ _ t ht
      · rw [List.mem_singleton.mp ht]; exact tree_size d _
    · rcases List.mem_append.mp ht with ht | ht
      · exact ih _ _ t ht
      · rw [List.mem_singleton.mp ht]; exact tree_size d _
theorem led_path (l : List Pq) (i : Nat) (p : Pq) (hp : l[i]? = some p) (hl : l.length ≤ 20) : (ledM (rootP l) p (l.length : Int) (i : Int) (pathP 20 l i)).1 = true := by
 have h := wk_path 20 l i p hp hl
 unfold ledM
 rw [if_pos h.2, h.1]
 exact beq_self_eq_true _
def catB : List ByteArray → ByteArray
 | [] => ⟨#[]⟩
 | x :: r => x ++ catB r
theorem cat_app (a b : List ByteArray) : catB (a ++ b) = catB a ++ catB b := by
 induction a with
 | nil => exact (none_append _).symm
 | cons x a ih => rw [List.cons_append, catB, catB, ih, ByteArray.append_assoc]
theorem cat_size (m : Nat) (l : List ByteArray) (h : ∀ x ∈ l, x.size ≤ m) : (catB l).size ≤ l.length * m := by
 induction l with
 | nil => exact Nat.zero_le _
 | cons x l ih =>
  have h1 := h x List.mem_cons_self
  have h2 := ih (fun y hy => h y (List.mem_cons_of_mem _ hy))
  rw [catB, ByteArray.size_append, List.length_cons, Nat.succ_mul]
  omega
theorem addAll_ok : ∀ (rs : List ByteArray) (bs : List UInt8), (∀ x ∈ rs, x.size ≤ 1000000) → bs.length + rs.length * 1000000 ≤ 140737488355328 → addAll (rs.map fun x => some (x, 0)) bs 0 = some (bs ++ (catB rs).data.toList, 0) := by
 intro rs
 induction rs with
 | nil =>
  intro bs _ _
  rw [List.map_nil, addAll, catB]
  simp
 | cons x rs ih =>
  intro bs h hb
  have hx := h x List.mem_cons_self
  rw [List.length_cons, Nat.succ_mul] at hb
  have hxl : x.data.toList.length = x.size := by simp
  have e1 : addW bs 0 (x, 0) = (bs ++ x.data.toList, 0) := by unfold addW; rw [if_pos rfl]
  rw [List.map_cons, addAll, Option.bind_some, if_pos (by dsimp only; omega), e1,
   ih (bs ++ x.data.toList) (fun y hy => h y (List.mem_cons_of_mem _ hy)) (by rw [List.length_append, hxl]; omega), catB, ByteArray.data_append, Array.toList_append, List.append_assoc]
def prL (near : List Pq) : List ByteArray := near.flatMap fun p => [enc1 p.f0, enc1 p.f1]
def lsL (ps : List (List ByteArray)) : List ByteArray := ps.map lstB
def putL (n a : Nat) (th : Bool) (near : List Pq) (ps : List (List ByteArray)) : List ByteArray := numB n :: numB a :: numB (if th = true then 1 else 0) :: numB near.length :: (prL near ++ (numB ps.length :: lsL ps))
theorem encs_le (m : Nat) (l : List ByteArray) (hm : m ≤ 60000) (h : ∀ t ∈ l, t.size ≤ m) : (encs l).size ≤ l.length * (m + 9) := by
 induction l with
 | nil => exact Nat.zero_le _
 | cons x l ih =>
  have h1 := enc1_le x (by have := h x List.mem_cons_self; omega)
  have h3 := h x List.mem_cons_self
  have h2 := ih (fun y hy => h y (List.mem_cons_of_mem _ hy))
  rw [encs, ByteArray.size_append, List.length_cons, Nat.succ_mul]
  omega
theorem lstB_le (l : List ByteArray) (h1 : l.length ≤ 60) (h2 : ∀ t ∈ l, t.size ≤ 1000) : (lstB l).size ≤ 70000 := by
 have := encs_le 1000 l (by omega) h2
 have := size_numB l.length (by omega)
 unfold lstB
 rw [ByteArray.size_append]
 omega
theorem pr_map (near : List Pq) (hs : short 1000 near) : near.flatMap (fun p => [wire_Text.f p.f0, wire_Text.f p.f1]) = (prL near).map fun x => some (x, 0) := by
 induction near with
 | nil => rfl
 | cons p near ih =>
  have hp := hs p List.mem_cons_self
  unfold prL at *
  rw [List.flatMap_cons, List.flatMap_cons, ih (fun q hq => hs q (List.mem_cons_of_mem _ hq)), text_f _ (by omega), text_f _ (by omega), List.map_append]
  rfl
theorem ls_map (ps : List (List ByteArray)) (k : Nat) (hk : 400 ≤ k) (h1 : ∀ p ∈ ps, p.length ≤ 60) (h2 : ∀ p ∈ ps, ∀ t ∈ p, t.size ≤ 1000) : ps.map (fun p => wire_Join.f k p) = (lsL ps).map fun x => some (x, 0) := by
 unfold lsL
 rw [List.map_map]
 apply List.map_congr_left
 intro p hp
 rw [join_ok p k hk (by have := h1 p hp; omega) (fun t ht => by have := h2 p hp t ht; omega)]
 rfl
theorem pr_len (near : List Pq) : (prL near).length = 2 * near.length := by
 induction near with
 | nil => rfl
 | cons p near ih =>
  unfold prL at *
  rw [List.flatMap_cons, List.length_append, ih, List.length_cons]
  simp only [List.length_cons, List.length_nil]
  omega
theorem pr_small (near : List Pq) (hs : short 1000 near) : ∀ x ∈ prL near, x.size ≤ 70000 := by
 intro x hx
 obtain ⟨p, hp, hx⟩ := List.mem_flatMap.mp (show x ∈ near.flatMap (fun p => [enc1 p.f0, enc1 p.f1]) from hx)
 have := hs p hp
 have e1 := enc1_le p.f0 (by omega)
 have e2 := enc1_le p.f1 (by omega)
 simp only [List.mem_cons, List.not_mem_nil, or_false] at hx
 rcases hx with rfl | rfl <;> omega
theorem put_small (n a : Nat) (th : Bool) (near : List Pq) (ps : List (List ByteArray)) (hn : n ≤ 9007199254740992) (ha : a ≤ 9007199254740992) (hs : short 1000 near) (hl : near.length ≤ 1000) (hp : ps.length ≤ 1000) (h1 : ∀ p ∈ ps, p.length ≤ 60) (h2 : ∀ p ∈ ps, ∀ t ∈ p, t.size ≤ 1000) : ∀ x ∈ putL n a th near ps, x.size ≤ 70000 := by
 intro x hx
 unfold putL lsL at hx
 simp only [List.mem_cons, List.mem_append, List.mem_map] at hx
 rcases hx with rfl | rfl | rfl | rfl | hx | rfl | ⟨p, hp, rfl⟩
 · have := size_numB n hn; omega
 · have := size_numB a ha; omega
 · have := size_numB (if th = true then 1 else 0) (by split <;> omega); omega
 · have := size_numB near.length (by omega); omega
 · exact pr_small near hs x hx
 · have := size_numB ps.length (by omega); omega
 · exact lstB_le p (h1 p hp) (h2 p hp)
theorem put_f (n a : Nat) (th : Bool) (near : List Pq) (ps : List (List ByteArray)) (k : Nat) (hk : 400 ≤ k) (hn : n ≤ 9007199254740992) (ha : a ≤ 9007199254740992) (hs : short 1000 near) (hl : near.length ≤ 1000) (hp : ps.length ≤ 1000) (h1 : ∀ p ∈ ps, p.length ≤ 60) (h2 : ∀ p ∈ ps, ∀ t ∈ p, t.size ≤ 1000) (hb : ¬ (th && !near.isEmpty) = true) : proof_Put.f k (n : Int) (a : Int) th near ps = some (catB (putL n a th near ps), 0) := by
 have hz := put_small n a th near ps hn ha hs hl hp h1 h2
 have hlen : (putL n a th near ps).length ≤ 10000 := by
  have := pr_len near
  unfold putL lsL
  simp only [List.length_cons, List.length_append, List.length_map]
  omega
 unfold proof_Put.f
 have e : (nums4 (n : Int) (a : Int) th near.length).map wire_Num.f ++ restP k near ps = (putL n a th near ps).map fun x => some (x, 0) := by
  have e3 : wire_Num.f (if th = true then 1 else 0) = some (numB (if th = true then 1 else 0), 0) := by
   cases th
   · exact num_f 0 (by omega)
   · exact num_f 1 (by omega)
  unfold nums4 restP putL
  rw [pr_map near hs, ls_map ps k hk h1 h2, num_f ps.length (by omega)]
  simp only [List.map_cons, List.map_nil, List.map_append, num_f n hn, num_f a ha, e3, num_f near.length (by omega)]
  rfl
 rw [if_neg hb, e, addAll_ok _ _ (fun x hx => by have := hz x hx; omega) (by simp only [List.length_nil]; omega), Option.map_some, if_pos rfl, List.nil_append]
end Go.Proofs.Ytipgldfbjlhpoab.Pure
-- Printed by wip/myprint.py.
namespace Go.Proofs.Ytipgldfbjlhpoab.P
open Go.RowKit Go.Proofs.YtipgldfbjlhpoabW.PrintWords Go.Proofs.YtipgldfbjlhpoabW.PrintLast Go.Proofs.YtipgldfbjlhpoabW.PrintMore
attribute [local go_sem] max2_int min2_int max_two min_two max_three min_three max_four min_four   -- for this text's walks alone
attribute [local go_sem] geq_str gtr_str
set_option linter.unusedVariables false
set_option linter.unusedSimpArgs false
def footbridgeref09_at.l0 : Nat → List (S86) → ByteArray → Int → Option (Int)
 | 0, _, _, _ => none
 | k + 1, x0, x1, x5 => if x5 < (x0.length : Int) then (if 0 ≤ x5 then (if (Op.bytesLess (((rd_T86 x0 x5).f0).toList) x1.toList) = true then (footbridgeref09_at.l0 k x0 x1 (wrap64 (x5 + 1))) else (some x5)) else (none)) else (some x5)
def footbridgeref09_at.f (k : Nat) (l0 : List (S86)) (a1 : ByteArray) : Option (Int) := footbridgeref09_at.l0 k l0 a1 0
set_option maxHeartbeats 8000000 in
set_option maxRecDepth 100000 in
theorem footbridgeref09_at.calls (k : Nat) (A0 : Option Addr) (c0 : Nat) (l0 : List (S86)) (a1 : ByteArray) (r : Int) (w : World) (hr0 : Kd.C k86 w A0 l0.length l0) (hc0 : l0.length ≤ c0) (h : footbridgeref09_at.f k l0 a1 = some r) :
  Calls Try.prog 105 #[.slice A0 l0.length c0, .string a1] w fun e w' => e = .returned (.int .i64 r) ∧ Drawn0 w w' := by
 have HR0 := Aside0.mk hr0
 have HC0 := Aside0.mk hc0
 clear hr0 hc0
 have H : (footbridgeref09_at.l0 k l0 a1 0) = some r := h
 clear h
 have H' := Aside0.mk H
 clear H
 go_enter Try.func105, Try.ntmps105
 go_wp2
 go_loopg [5] k (fun kq v5 w' => ∃ (x5_1 : Int), v5 = .int .i64 x5_1 ∧ Aside0 (footbridgeref09_at.l0 kq l0 a1 x5_1 = some r) ∧ Aside0 (kq ≤ k) ∧ Drawn0 w w')
 case atStart => exact ⟨(0), (by first | rfl | (simp; done) | (simp [*]; done)), H', ⟨Nat.le_refl _⟩, by repeat (first | exact Drawn0.refl _ | apply Drawn0.step)⟩
 case round =>
  clear H'
  try clear c1
  try clear p2
  obtain ⟨x5_1, rfl, HA, HK1, ⟨m1, rfl⟩⟩ := hrel
  cases gk with
  | zero => exact absurd HA.out (by simp [footbridgeref09_at.l0])
  | succ k1 =>
   have H := HA.out
   clear HA
   simp only [footbridgeref09_at.l0] at H
   by_cases c3 : x5_1 < (l0.length : Int)
   · rw [if_pos c3] at H
     have c3b0 : decide (x5_1 < (l0.length : Int)) = true := decide_eq_true c3
     clear c3
     by_cases c4 : 0 ≤ x5_1
     · rw [if_pos c4] at H
       have c4b0 : decide (0 ≤ x5_1) = true := decide_eq_true c4
       clear c4
       by_cases c5 : (Op.bytesLess (((rd_T86 l0 x5_1).f0).toList) a1.toList) = true
       · rw [if_pos c5] at H
         have c5b0 : (Op.bytesLess (((rd_T86 l0 x5_1).f0).toList) a1.toList) = true := c5
         clear c5
         have H' := Aside0.mk H
         clear H
         have p386 : 0 ≤ (x5_1 : Int) := of_decide_eq_true (by first | (with_reducible assumption) | assumption)
         have q386 : x5_1 < (l0.length : Int) := of_decide_eq_true (by first | (with_reducible assumption) | assumption)
         obtain ⟨ad386, e386, hx386_0, hx386_1⟩ := at_T86 HR0.out x5_1 p386 q386
         cases e386
         replace p386 := eq_true p386
         replace q386 := eq_true q386
         go_wp2
         go_roundg k1
         case measure => have := HK1.out; omega
         case rel => exact ⟨(wrap64 (x5_1 + 1)), (by first | rfl | (simp; done) | (simp [*]; done)), H', ⟨by have := HK1.out; omega⟩, by repeat (first | exact Drawn0.refl _ | apply Drawn0.step)⟩
       · rw [if_neg c5] at H
         have c5b0 : (Op.bytesLess (((rd_T86 l0 x5_1).f0).toList) a1.toList) = false := by simpa using c5
         clear c5
         obtain rfl := Option.some.inj H
         have p386 : 0 ≤ (x5_1 : Int) := of_decide_eq_true (by first | (with_reducible assumption) | assumption)
         have q386 : x5_1 < (l0.length : Int) := of_decide_eq_true (by first | (with_reducible assumption) | assumption)
         obtain ⟨ad386, e386, hx386_0, hx386_1⟩ := at_T86 HR0.out x5_1 p386 q386
         cases e386
         replace p386 := eq_true p386
         replace q386 := eq_true q386
         go_wp2
         go_ret
         exact ⟨by first | rfl | (simp; done) | (simp [*]; done), by repeat (first | exact Drawn0.refl _ | apply Drawn0.step)⟩
     · rw [if_neg c4] at H
       exact absurd H (by simp)
   · rw [if_neg c3] at H
     have c3b0 : decide (x5_1 < (l0.length : Int)) = false := decide_eq_false c3
     clear c3
     obtain rfl := Option.some.inj H
     go_wp2
     go_ret
     exact ⟨by first | rfl | (simp; done) | (simp [*]; done), by repeat (first | exact Drawn0.refl _ | apply Drawn0.step)⟩
def footbridgeref09_Get.f (k : Nat) (l0 : List (S86)) (a1 : ByteArray) : Option (ByteArray × Bool) := (footbridgeref09_at.f k l0 a1).bind fun t387 => (if t387 < (l0.length : Int) then (if 0 ≤ t387 then (if ((rd_T86 l0 t387).f0).toList = a1.toList then (some ((rd_T86 l0 t387).f1, true)) else (some ((⟨#[]⟩ : ByteArray), false))) else (none)) else (some ((⟨#[]⟩ : ByteArray), false)))
set_option maxHeartbeats 8000000 in
set_option maxRecDepth 100000 in
theorem footbridgeref09_Get.calls (k : Nat) (A0 : Option Addr) (c0 : Nat) (l0 : List (S86)) (a1 : ByteArray) (r1 : ByteArray) (r2 : Bool) (w : World) (hr0 : Kd.C k86 w A0 l0.length l0) (hc0 : l0.length ≤ c0) (h : footbridgeref09_Get.f k l0 a1 = some (r1, r2)) :
  Calls Try.prog 40 #[.slice A0 l0.length c0, .string a1] w fun e w' => e = .returned (.tuple #[.string r1, .bool r2]) ∧ Drawn0 w w' := by
 have HR0 := Aside0.mk hr0
 have HC0 := Aside0.mk hc0
 clear hr0 hc0
 have H : ((footbridgeref09_at.f k l0 a1).bind fun t387 => (if t387 < (l0.length : Int) then (if 0 ≤ t387 then (if ((rd_T86 l0 t387).f0).toList = a1.toList then (some ((rd_T86 l0 t387).f1, true)) else (some ((⟨#[]⟩ : ByteArray), false))) else (none)) else (some ((⟨#[]⟩ : ByteArray), false)))) = some (r1, r2) := h
 clear h
 replace H := Option.bind_eq_some_iff.mp H
 obtain ⟨t387, A30, H⟩ := H
 replace H : (if t387 < (l0.length : Int) then (if 0 ≤ t387 then (if ((rd_T86 l0 t387).f0).toList = a1.toList then (some ((rd_T86 l0 t387).f1, true)) else (some ((⟨#[]⟩ : ByteArray), false))) else (none)) else (some ((⟨#[]⟩ : ByteArray), false))) = some (r1, r2) := H
 have A3 := Aside0.mk A30
 clear A30
 by_cases c4 : t387 < (l0.length : Int)
 · rw [if_pos c4] at H
   have c4b0 : decide (t387 < (l0.length : Int)) = true := decide_eq_true c4
   clear c4
   by_cases c5 : 0 ≤ t387
   · rw [if_pos c5] at H
     have c5b0 : decide (0 ≤ t387) = true := decide_eq_true c5
     clear c5
     by_cases c6 : ((rd_T86 l0 t387).f0).toList = a1.toList
     · rw [if_pos c6] at H
       have c6b0 : (((rd_T86 l0 t387).f0).toList == a1.toList) = true := beq_iff_eq.mpr c6
       have c6b1 : (((rd_T86 l0 t387).f0).toList != a1.toList) = false := bne_eq_false_iff_eq.mpr c6
       clear c6
       simp only [Option.some.injEq, Prod.mk.injEq] at H
       obtain ⟨rfl, rfl⟩ := H
       go_enter Try.func40, Try.ntmps40
       go_wp2_with (first | ((with_reducible refine gate_callee (f := 105) rfl ?_); refine goesL_ (some 9) rfl rfl Try.func105 (by kernel_rfl) rfl #[.slice A0 l0.length c0, .string a1] rfl (by (try simp only [List.map_toArray, List.map_cons, List.map_nil]); first | done | rfl | (simp only [List.length_drop, List.length_take]; rfl)) ?_; (with_reducible refine (footbridgeref09_at.calls k _ _ l0 a1 t387 _ ?side1 ?side2 A3.out).mono ?_); (case side1 => repeat (first | exact HR0.out | (with_reducible refine Kd.C_alloc ?_ _) | (with_reducible refine Kd.C_drewN ?_ _) | (with_reducible refine Kd.C_drew ?_))); (case side2 => exact HC0.out); rintro e w' ⟨rfl, ⟨nd, rfl⟩⟩; refine ⟨_, rfl, ?_⟩; have p388 : 0 ≤ (t387 : Int) := of_decide_eq_true (by first | (with_reducible assumption) | assumption); have q388 : t387 < (l0.length : Int) := of_decide_eq_true (by first | (with_reducible assumption) | assumption); obtain ⟨ad388, e388, hx388_0, hx388_1⟩ := at_T86 HR0.out t387 p388 q388; cases e388; replace p388 := eq_true p388; replace q388 := eq_true q388; have p389 : 0 ≤ (t387 : Int) := of_decide_eq_true (by first | (with_reducible assumption) | assumption); have q389 : t387 < (l0.length : Int) := of_decide_eq_true (by first | (with_reducible assumption) | assumption); obtain ⟨ad389, e389, hx389_0, hx389_1⟩ := at_T86 HR0.out t387 p389 q389; obtain rfl : ad388 = ad389 := (by injection e389); replace p389 := eq_true p389; replace q389 := eq_true q389))
       go_ret2
       exact ⟨by first | rfl | (simp; done) | (simp [*]; done), by repeat (first | exact Drawn0.refl _ | apply Drawn0.step)⟩
     · rw [if_neg c6] at H
       have c6b0 : (((rd_T86 l0 t387).f0).toList == a1.toList) = false := beq_eq_false_iff_ne.mpr c6
       have c6b1 : (((rd_T86 l0 t387).f0).toList != a1.toList) = true := bne_iff_ne.mpr c6
       simp only [Option.some.injEq, Prod.mk.injEq] at H
       obtain ⟨rfl, rfl⟩ := H
       go_enter Try.func40, Try.ntmps40
       go_wp2_with (first | ((with_reducible refine gate_callee (f := 105) rfl ?_); refine goesL_ (some 9) rfl rfl Try.func105 (by kernel_rfl) rfl #[.slice A0 l0.length c0, .string a1] rfl (by (try simp only [List.map_toArray, List.map_cons, List.map_nil]); first | done | rfl | (simp only [List.length_drop, List.length_take]; rfl)) ?_; (with_reducible refine (footbridgeref09_at.calls k _ _ l0 a1 t387 _ ?side1 ?side2 A3.out).mono ?_); (case side1 => repeat (first | exact HR0.out | (with_reducible refine Kd.C_alloc ?_ _) | (with_reducible refine Kd.C_drewN ?_ _) | (with_reducible refine Kd.C_drew ?_))); (case side2 => exact HC0.out); rintro e w' ⟨rfl, ⟨nd, rfl⟩⟩; refine ⟨_, rfl, ?_⟩; have p388 : 0 ≤ (t387 : Int) := of_decide_eq_true (by first | (with_reducible assumption) | assumption); have q388 : t387 < (l0.length : Int) := of_decide_eq_true (by first | (with_reducible assumption) | assumption); obtain ⟨ad388, e388, hx388_0, hx388_1⟩ := at_T86 HR0.out t387 p388 q388; cases e388; replace p388 := eq_true p388; replace q388 := eq_true q388))
       go_ret2
       exact ⟨by first | rfl | (simp; done) | (simp [*]; done), by repeat (first | exact Drawn0.refl _ | apply Drawn0.step)⟩
   · rw [if_neg c5] at H
     exact absurd H (by simp)
 · rw [if_neg c4] at H
   have c4b0 : decide (t387 < (l0.length : Int)) = false := decide_eq_false c4
   clear c4
   simp only [Option.some.injEq, Prod.mk.injEq] at H
   obtain ⟨rfl, rfl⟩ := H
   go_enter Try.func40, Try.ntmps40
   go_wp2_with (first | ((with_reducible refine gate_callee (f := 105) rfl ?_); refine goesL_ (some 9) rfl rfl Try.func105 (by kernel_rfl) rfl #[.slice A0 l0.length c0, .string a1] rfl (by (try simp only [List.map_toArray, List.map_cons, List.map_nil]); first | done | rfl | (simp only [List.length_drop, List.length_take]; rfl)) ?_; (with_reducible refine (footbridgeref09_at.calls k _ _ l0 a1 t387 _ ?side1 ?side2 A3.out).mono ?_); (case side1 => repeat (first | exact HR0.out | (with_reducible refine Kd.C_alloc ?_ _) | (with_reducible refine Kd.C_drewN ?_ _) | (with_reducible refine Kd.C_drew ?_))); (case side2 => exact HC0.out); rintro e w' ⟨rfl, ⟨nd, rfl⟩⟩; refine ⟨_, rfl, ?_⟩))
   go_ret2
   exact ⟨by first | rfl | (simp; done) | (simp [*]; done), by repeat (first | exact Drawn0.refl _ | apply Drawn0.step)⟩
end Go.Proofs.Ytipgldfbjlhpoab.P
namespace Go.Proofs.Ytipgldfbjlhpoab.Pure
set_option linter.unusedVariables false
set_option linter.unusedSimpArgs false
open Go.RowKit Go.Proofs.Ytipgldfbjlhpoab.P Go.Proofs.Ytipgldfbjlhpoab.Wire Go.Proofs.Ytipgldfbjlhpoab.Sha Go.Proofs.YtipgldfbjlhpoabW.PrintWords Go.Proofs.YtipgldfbjlhpoabW.PrintLast
theorem bytes_eq {a b : ByteArray} (h : a.toList = b.toList) : a = b := by
 rw [ByteArray.toList_eq, ByteArray.toList_eq] at h
 exact bytes_ext h
theorem done_nil : wire_Reader_Done.f ⟨#[]⟩ 0 = some (0, ⟨#[]⟩, 0) := by
 unfold wire_Reader_Done.f wire_Reader_Err.f
 rw [Option.bind_some, if_pos rfl, if_pos (by decide +kernel)]
theorem cat_ls_size (ps : List (List ByteArray)) (hp : ps.length ≤ 1000) (h1 : ∀ p ∈ ps, p.length ≤ 60) (h2 : ∀ p ∈ ps, ∀ t ∈ p, t.size ≤ 1000) : (catB (lsL ps)).size ≤ 70000000 := by
 have := cat_size 70000 (lsL ps) (fun x hx => by
  obtain ⟨p, hp, rfl⟩ := List.mem_map.mp (show x ∈ ps.map lstB from hx)
  exact lstB_le p (h1 p hp) (h2 p hp))
 have e : (lsL ps).length = ps.length := List.length_map _
 rw [e] at this
 omega
theorem read_l1 (n a : Int) (th : Bool) (near : List Pq) (ps : List (List ByteArray)) (hp : ps.length ≤ 1000) (h1 : ∀ p ∈ ps, p.length ≤ 60) (h2 : ∀ p ∈ ps, ∀ t ∈ p, t.size ≤ 1000) : ∀ (d k i : Nat), i + d = ps.length → d + 402 ≤ k →
  proof_Read.l1 k (ps.length : Int) (i : Int) (catB (lsL (ps.drop i))) 0 n a th near (ps.take i) = some (n, a, th, near, ps, 0) := by
 intro d
 induction d with
 | zero =>
  intro k i hi hk
  obtain ⟨k, rfl⟩ : ∃ q, k = q + 1 := ⟨k - 1, by omega⟩
  have e1 : ps.drop i = [] := List.drop_eq_nil_of_le (by omega)
  have e2 : ps.take i = ps := List.take_of_length_le (by omega)
  rw [proof_Read.l1, if_neg (by omega), e1, e2, show catB (lsL []) = ⟨#[]⟩ from rfl, done_nil, Option.bind_some, if_pos rfl]
 | succ d ih =>
  intro k i hi hk
  obtain ⟨k, rfl⟩ : ∃ q, k = q + 1 := ⟨k - 1, by omega⟩
  have hil : i < ps.length := by omega
  have hm := List.getElem_mem hil
  have ht : (ps.take i).length = i := by rw [List.length_take]; omega
  have hz := cat_ls_size (ps.drop (i + 1)) (by rw [List.length_drop]; omega) (fun p hp => h1 p (List.mem_of_mem_drop hp)) (fun p hp => h2 p (List.mem_of_mem_drop hp))
  have hl := lstB_le _ (h1 _ hm) (h2 _ hm)
  have e1 : ps.take i ++ [ps[i]] = ps.take (i + 1) := by rw [List.take_add_one, List.getElem?_eq_getElem hil]; rfl
  rw [proof_Read.l1, if_pos (by omega), List.drop_eq_getElem_cons hil, show catB (lsL (ps[i] :: ps.drop (i + 1))) = lstB ps[i] ++ catB (lsL (ps.drop (i + 1))) from rfl,
   m_list ps[i] _ k (by omega) (by have := h1 _ hm; omega) (fun t ht => by have := h2 _ hm t ht; omega) (by rw [ByteArray.size_append]; omega), Option.bind_some, if_pos (by omega), wsuc i (by omega)]
  dsimp only
  rw [e1]
  exact ih k (i + 1) (by omega) (by omega)
theorem read_l0 (n a : Int) (th : Bool) (near : List Pq) (ps : List (List ByteArray)) (hs : short 1000 near) (hl : near.length ≤ 1000) (hp : ps.length ≤ 2) (h1 : ∀ p ∈ ps, p.length ≤ 60) (h2 : ∀ p ∈ ps, ∀ t ∈ p, t.size ≤ 1000) : ∀ (d k i : Nat), i + d = near.length → d + 410 ≤ k →
  proof_Read.l0 k (near.length : Int) (i : Int) (catB (prL (near.drop i) ++ (numB ps.length :: lsL ps))) 0 n a th (near.take i) = some (n, a, th, near, ps, 0) := by
 intro d
 induction d with
 | zero =>
  intro k i hi hk
  obtain ⟨k, rfl⟩ : ∃ q, k = q + 1 := ⟨k - 1, by omega⟩
  have e1 : near.drop i = [] := List.drop_eq_nil_of_le (by omega)
  have e2 : near.take i = near := List.take_of_length_le (by omega)
  have := read_l1 n a th near ps (by omega) h1 h2 ps.length k 0 (by omega) (by omega)
  rw [proof_Read.l0, if_neg (by omega), e1, e2, show catB (prL [] ++ (numB ps.length :: lsL ps)) = numB ps.length ++ catB (lsL ps) from rfl, m_num ps.length _ (by omega), Option.bind_some, if_neg (by dsimp only; omega)]
  exact this
 | succ d ih =>
  intro k i hi hk
  obtain ⟨k, rfl⟩ : ∃ q, k = q + 1 := ⟨k - 1, by omega⟩
  have hil : i < near.length := by omega
  have hm := hs _ (List.getElem_mem hil)
  have ht : (near.take i).length = i := by rw [List.length_take]; omega
  have e1 : near.take i ++ [near[i]] = near.take (i + 1) := by rw [List.take_add_one, List.getElem?_eq_getElem hil]; rfl
  have hz := cat_ls_size ps (by omega) h1 h2
  have hzp := cat_size 70000 (prL (near.drop (i + 1))) (pr_small _ (fun p hp => hs p (List.mem_of_mem_drop hp)))
  rw [pr_len, List.length_drop] at hzp
  have hR : (catB (prL (near.drop (i + 1)) ++ (numB ps.length :: lsL ps))).size ≤ 300000000 := by
   rw [cat_app, ByteArray.size_append, catB, ByteArray.size_append]
   have := size_numB ps.length (by omega)
   omega
  have e0 := enc1_le near[i].f1 (by omega)
  rw [proof_Read.l0, if_pos (by omega), List.drop_eq_getElem_cons hil, show catB (prL (near[i] :: near.drop (i + 1)) ++ (numB ps.length :: lsL ps)) = enc1 near[i].f0 ++ (enc1 near[i].f1 ++ catB (prL (near.drop (i + 1)) ++ (numB ps.length :: lsL ps))) from rfl,
   m_text near[i].f0 _ (by omega) (by rw [ByteArray.size_append]; omega), Option.bind_some, m_text near[i].f1 _ (by omega) (by omega), Option.bind_some, if_pos (by omega), wsuc i (by omega)]
  dsimp only
  rw [show (⟨(near[i]).f0, (near[i]).f1⟩ : Pq) = near[i] from rfl, e1]
  exact ih k (i + 1) (by omega) (by omega)
theorem read_f (n a : Nat) (th : Bool) (near : List Pq) (ps : List (List ByteArray)) (k : Nat) (hk : 500 ≤ k) (hn : n ≤ 9007199254740992) (ha : a ≤ 9007199254740992) (hs : short 1000 near) (hl : near.length ≤ 2) (hp : ps.length ≤ 2) (h1 : ∀ p ∈ ps, p.length ≤ 60) (h2 : ∀ p ∈ ps, ∀ t ∈ p, t.size ≤ 1000) (hb : ¬ (th && !near.isEmpty) = true) :
  proof_Read.f k (catB (putL n a th near ps)) = some ((n : Int), (a : Int), th, near, ps, 0) := by
 obtain ⟨k, rfl⟩ : ∃ q, k = q + 1 := ⟨k - 1, by omega⟩
 have h0 := read_l0 (n : Int) (a : Int) th near ps hs (by omega) hp h1 h2 near.length k 0 (by omega) (by omega)
 obtain ⟨R, hR⟩ : ∃ R, R = catB (prL near ++ (numB ps.length :: lsL ps)) := ⟨_, rfl⟩
 rw [show near.drop 0 = near from rfl, ← hR] at h0
 unfold proof_Read.f
 rw [show wire_New.f (catB (putL n a th near ps)) = some (numB n ++ (numB a ++ (numB (if th = true then 1 else 0) ++ (numB near.length ++ R))), 0) by rw [hR]; rfl, Option.bind_some]
 clear hR
 dsimp only
 rw [m_num n _ hn, Option.bind_some]
 dsimp only
 rw [m_num a _ ha, Option.bind_some]
 dsimp only
 rw [m_num _ _ (by split <;> omega), Option.bind_some]
 dsimp only
 rw [m_num near.length _ (by omega), Option.bind_some]
 dsimp only
 rw [show wire_Reader_Err.f R 0 = some (0, R, 0) from rfl, Option.bind_some]
 dsimp only
 rw [if_pos rfl]
 cases th with
 | false =>
  rw [if_neg (by decide), if_neg (by omega), if_neg (by decide), proof_Read.j0, if_neg (by decide)]
  exact h0
 | true =>
  have : near = [] := by
   cases near with
   | nil => rfl
   | cons x r => exact absurd rfl hb
  subst this
  rw [if_neg (by decide), if_neg (by decide), if_pos (by decide), proof_Read.j0, if_neg (by simp)]
  exact h0
theorem get_l0 (l : List Pq) (key : ByteArray) (hl : l.length ≤ 1000) : ∀ (d k i : Nat), i + d = cntL key l → d < k → footbridgeref09_at.l0 k l key (i : Int) = some (cntL key l : Int) := by
 have hc := cntL_le key l
 intro d
 induction d with
 | zero =>
  intro k i hi hk
  obtain ⟨k, rfl⟩ : ∃ q, k = q + 1 := ⟨k - 1, by omega⟩
  obtain rfl : i = cntL key l := by omega
  rw [footbridgeref09_at.l0]
  by_cases h : cntL key l < l.length
  · rw [if_pos (by omega), if_pos (by omega), rd_mem _ h, if_neg (show ¬ Op.bytesLess ((l[cntL key l]'h).f0.toList) key.toList = true from fun hh => by
     have := cnt_at key l _ h rfl
     rw [keyQ, hh] at this
     cases this)]
  · rw [if_neg (by omega)]
 | succ d ih =>
  intro k i hi hk
  obtain ⟨k, rfl⟩ : ∃ q, k = q + 1 := ⟨k - 1, by omega⟩
  have hil : i < l.length := by omega
  rw [footbridgeref09_at.l0, if_pos (by omega), if_pos (by omega), rd_mem i hil, if_pos (show Op.bytesLess ((l[i]'hil).f0.toList) key.toList = true from cnt_less key l i hil (by omega)), wsuc i (by omega)]
  exact ih k (i + 1) (by omega) (by omega)
theorem isAt_iff (l : List Pq) (key : ByteArray) : isAt l key = true ↔ ∃ h : cntL key l < l.length, (l[cntL key l]'h).f0 = key := by
 unfold isAt
 rw [Bool.and_eq_true, decide_eq_true_eq, decide_eq_true_eq]
 constructor
 · rintro ⟨h, e⟩
   rw [rd_mem _ h, cmpK_zero] at e
   exact ⟨h, bytes_eq e⟩
 · rintro ⟨h, e⟩
   rw [rd_mem _ h, cmpK_zero, e]
   exact ⟨h, rfl⟩
end Go.Proofs.Ytipgldfbjlhpoab.Pure
