/- The number at the head of bytes, as wire.number reads it: its contract. A number's bytes, as wire.Num makes them: its contract. wire.Num and wire.number: their contracts, in the form in which the printed callers take them. -/
import Derived.Test.YtipgldfbjlhpoabZeHSha1
import Derived.WalkMore
import Derived.ScopeJumps
import Derived.Laws.Strings
import Derived.Deep.RegionWith
namespace Go.Proofs.Ytipgldfbjlhpoab.Wire
set_option linter.unusedVariables false
set_option linter.unusedSimpArgs false
open Go.RowKit Go.Proofs.YtipgldfbjlhpoabW.PrintWords Go.Proofs.YtipgldfbjlhpoabW.PrintLast Go.Proofs.YtipgldfbjlhpoabW.PrintMore
set_option maxRecDepth 100000
def byteN (s : ByteArray) (i : Nat) : Nat := if h : i < s.size then (s[i]'h).toNat else 0
theorem byteN_at (s : ByteArray) (i : Nat) (h : i < s.size) : (s[i]'h).toNat = byteN s i := by simp [byteN, h]
theorem byteN_lt (s : ByteArray) (i : Nat) : byteN s i < 256 := by
 unfold byteN
 split
 · exact UInt8.toNat_lt _
 · omega
def numTo (s : ByteArray) : Nat → Nat
 | 0 => 0
 | j + 1 => numTo s j * 256 + byteN s (j + 1)
theorem numTo_lt (s : ByteArray) : ∀ j, numTo s j < 256 ^ j
 | 0 => by simp [numTo]
 | j + 1 => by
  have h1 := numTo_lt s j; have h2 := byteN_lt s (j + 1); rw [numTo, Nat.pow_succ]; omega
theorem or_shift (n b : Nat) (hn : n < 2 ^ 50) (hb : b < 256) : bits .or .i64 ((n * 256 : Nat) : Int) (b : Int) = ((n * 256 + b : Nat) : Int) := by
 have e : ∀ z : Nat, z < 2 ^ 63 → BitVec.ofInt IntKind.i64.bits (z : Int) = BitVec.ofNat 64 z := by
  intro z _; apply BitVec.eq_of_toNat_eq; simp [IntKind.bits]
 have h1 : n * 256 + b = n * 256 ||| b := by
  have := Nat.shiftLeft_add_eq_or_of_lt (show b < 2 ^ 8 by omega) n
  rwa [Nat.shiftLeft_eq] at this
 unfold bits; rw [e _ (by omega), e _ (by omega)]
 show IntKind.i64.wrap (((BitVec.ofNat 64 (n * 256) ||| BitVec.ofNat 64 b).toNat : Nat) : Int) = _
 rw [BitVec.toNat_or, BitVec.toNat_ofNat, BitVec.toNat_ofNat, Nat.mod_eq_of_lt (by omega), Nat.mod_eq_of_lt (by omega), ← h1, IntKind.wrap_i64]; omega
def numberS (s : ByteArray) : Int × Int × Int :=
 if s.size = 0 then (0, 0, 5)
 else if 7 < byteN s 0 then (0, 0, 6)
 else if 0 < byteN s 0 ∧ 1 < s.size ∧ byteN s 1 = 0 then (0, 0, 6)
 else if s.size ≤ byteN s 0 then (0, 0, 5)
 else if 9007199254740992 < numTo s (byteN s 0) then (0, 0, 3)
 else ((numTo s (byteN s 0) : Int), (byteN s 0 : Int) + 1, 0)
set_option maxHeartbeats 1000000 in
theorem number_any (s : ByteArray) (w : World) :
  Calls Try.prog 138 #[.string s] w fun e w' => e = .returned (.tuple #[.int .i64 (numberS s).1, .int .i64 (numberS s).2.1, .int .i64 (numberS s).2.2]) ∧ w' = w := by
 obtain ⟨r, hr⟩ : ∃ r, r = numberS s := ⟨_, rfl⟩
 rw [← hr]
 by_cases h0 : s.size = 0
 · have hne : s.toList.isEmpty = true := by
    rw [ByteArray.toList_eq, List.isEmpty_iff]; exact List.eq_nil_of_length_eq_zero (by rw [Array.length_toList]; exact h0)
   have hr' : r = (0, 0, 5) := by rw [hr, numberS, if_pos h0]
   subst hr'
   go_enter Try.func138, Try.ntmps138
   go_wp2
   go_step3
   go_wp2; rw [Exit.noGoto_ret]
   go_ret3
   exact ⟨rfl, rfl⟩
 · have hne : s.toList.isEmpty = false := by
    rw [ByteArray.toList_eq, List.isEmpty_eq_false_iff]; intro e
    have : s.data.toList.length = 0 := by rw [e]; rfl
    rw [Array.length_toList] at this; exact h0 this
   have hp0 : 0 < s.size := by omega
   have hp0i : (0 : Int) < (s.size : Int) := by omega
   obtain ⟨k, hk⟩ : ∃ k, k = byteN s 0 := ⟨_, rfl⟩
   have e0 : (s[0]'hp0).toNat = k := by rw [hk]; exact byteN_at s 0 hp0
   have hk256 : k < 256 := by rw [hk]; exact byteN_lt s 0
   by_cases h7 : 7 < k
   · have h7i : (7 : Int) < (k : Int) := by omega
     have hr' : r = (0, 0, 6) := by rw [hr, numberS, if_neg h0, ← hk, if_pos h7]
     subst hr'; clear hr hk
     go_enter Try.func138, Try.ntmps138
     go_wp2
     go_step3
     go_wp2; rw [Exit.noGoto_ret]
     go_ret3
     exact ⟨rfl, rfl⟩
   · have h7i : ¬ (7 : Int) < (k : Int) := by omega
     by_cases hkz : k = 0
     · have hr' : r = (0, 1, 0) := by
        rw [hr, numberS, if_neg h0, ← hk, if_neg h7, if_neg (by omega), if_neg (by omega), hkz]; rfl
       subst hr'; clear hr hk; subst hkz
       go_enter Try.func138, Try.ntmps138
       go_wp2
       go_step3
       go_wp2
       go_step3
       go_wp2; rw [Exit.noGoto_ret]
       go_ret3
       exact ⟨rfl, rfl⟩
     · have hkzi : (0 : Int) < (k : Int) := by omega
       by_cases h1 : 1 < s.size
       · have h1i : (1 : Int) < (s.size : Int) := by omega
         obtain ⟨b1, hb1⟩ : ∃ b1, b1 = byteN s 1 := ⟨_, rfl⟩
         have e1 : (s[1]'h1).toNat = b1 := by rw [hb1]; exact byteN_at s 1 h1
         by_cases hz : b1 = 0
         · have hr' : r = (0, 0, 6) := by
            rw [hr, numberS, if_neg h0, ← hk, if_neg h7, if_pos ⟨by omega, h1, by omega⟩]
           subst hr'; clear hr hk hb1; subst hz
           go_enter Try.func138, Try.ntmps138
           go_wp2
           go_step3
           go_wp2; rw [Exit.noGoto_ret]
           go_ret3
           exact ⟨rfl, rfl⟩
         · have hzi : ¬ (b1 : Int) = 0 := by omega
           by_cases hc : s.size ≤ k
           · have hci : (s.size : Int) ≤ (k : Int) := by omega
             have hr' : r = (0, 0, 5) := by
              rw [hr, numberS, if_neg h0, ← hk, if_neg h7, if_neg (by omega), if_pos hc]
             subst hr'; clear hr hk hb1
             go_enter Try.func138, Try.ntmps138
             go_wp2
             go_step3
             go_wp2; rw [Exit.noGoto_ret]
             go_ret3
             exact ⟨rfl, rfl⟩
           · have hci : ¬ (s.size : Int) ≤ (k : Int) := by omega
             have HR := Lib.hid (And.intro hr hk); have H1 := Lib.hid hb1; clear hr hk hb1
             go_enter Try.func138, Try.ntmps138
             go_wp2; refine wp_scope_jumps 0 (fun a' w' => w' = w ∧ ∃ (j : Nat) (x6 : Int) (u8 u9 u10 u11 u12 u13 u14 u15 u16 u17 u18 u19 u20 u21 u22 u23 u24 u25 u26 u27 u28 u29 u30 u31 u32 u33 u34 u35 u36 u37 u38 u39 u40 u41 u42 u43 u44 u45 u46 u47 u48 : Value), a' = { tmps := #[.string s, undef, .int .i64 0, .int .i64 0, .int .i64 0, .int .i64 (k : Int), .int .i64 x6, .int .i64 (j : Int), u8, u9, u10, u11, u12, u13, u14, u15, u16, u17, u18, u19, u20, u21, u22, u23, u24, u25, u26, u27, u28, u29, u30, u31, u32, u33, u34, u35, u36, u37, u38, u39, u40, u41, u42, u43, u44, u45, u46, u47, u48], defers := [] } ∧ 1 ≤ j ∧ j ≤ k + 1 ∧ x6 = (numTo s (j - 1) : Int)) (fun a' _ => 9 - (intOf (a'.tmps.getD 7 undef)).toNat) rfl ?_ ?_
             · go_wp2
               go_step3
               go_wp2
               go_step3
               refine ⟨rfl, rfl, 2, _, _, _, _, _, _, _, _, _, _, _, _, _, _, _, _, _, _, _, _, _, _, _, _, _, _, _, _, _, _, _, _, _, _, _, _, _, _, _, _, _, _, rfl, by omega, by omega, ?_⟩
               have h256 : b1 < 256 := by rw [H1.out]; exact byteN_lt s 1
               have h := or_shift 0 b1 (by omega) h256
               have hw : wrap64 (b1 : Int) = (b1 : Int) := by unfold wrap64; omega
               rw [hw]; refine h.trans ?_; rw [H1.out]; simp [numTo]
             · rintro a' w' ⟨rfl, j, x6, u8, u9, u10, u11, u12, u13, u14, u15, u16, u17, u18, u19, u20, u21, u22, u23, u24, u25, u26, u27, u28, u29, u30, u31, u32, u33, u34, u35, u36, u37, u38, u39, u40, u41, u42, u43, u44, u45, u46, u47, u48, rfl, hj1, hj, hx⟩
               by_cases hlt : j ≤ k
               · have hji : (j : Int) ≤ (k : Int) := by omega
                 have hjs : j < s.size := by omega
                 have hjsi : (j : Int) < (s.size : Int) := by omega
                 obtain ⟨b, hb⟩ : ∃ b, b = byteN s j := ⟨_, rfl⟩
                 have ej : (s[j]'hjs).toNat = b := by rw [hb]; exact byteN_at s j hjs
                 go_wp2
                 go_step3
                 have h256 : byteN s j < 256 := byteN_lt s j; have hn := numTo_lt s (j - 1); have hp : 256 ^ (j - 1) ≤ 256 ^ 6 := Nat.pow_le_pow_right (by omega) (by omega); have h := or_shift (numTo s (j - 1)) (byteN s j) (by omega) h256
                 have hw : wrap64 (byteN s j : Int) = (byteN s j : Int) := by unfold wrap64; omega
                 have hw2 : wrap64 ((numTo s (j - 1) : Int) * 256) = ((numTo s (j - 1) * 256 : Nat) : Int) := by unfold wrap64; omega
                 refine ⟨rfl, ⟨rfl, j + 1, _, _, _, _, _, _, _, _, _, _, _, _, _, _, _, _, _, _, _, _, _, _, _, _, _, _, _, _, _, _, _, _, _, _, _, _, _, _, _, _, _, _, rfl, by omega, by omega, ?_⟩, ?_⟩
                 · rw [hw, hw2, h, show numTo s (j + 1 - 1) = numTo s (j - 1) * 256 + byteN s j by rw [show j + 1 - 1 = (j - 1) + 1 by omega, numTo, show j - 1 + 1 = j by omega]]
                 · simp [intOf]; omega
               · have hji : ¬ (j : Int) ≤ (k : Int) := by omega
                 have hjk : j = k + 1 := by omega
                 subst hjk; rw [show k + 1 - 1 = k by omega] at hx
                 by_cases hbig : 9007199254740992 < numTo s k
                 · have hbi : (9007199254740992 : Int) < x6 := by rw [hx]; omega
                   have hr' : r = (0, 0, 3) := by
                    rw [HR.out.1, numberS, if_neg h0, ← HR.out.2, if_neg h7, if_neg (by rw [← H1.out]; omega), if_neg hc, if_pos hbig]
                   subst hr'; clear hx; go_wp2; simp only [Exit.jump]
                   go_ret3
                   exact ⟨rfl, rfl⟩
                 · have hbi : ¬ (9007199254740992 : Int) < x6 := by rw [hx]; omega
                   have hr' : r = (x6, ((k + 1 : Nat) : Int), 0) := by
                    rw [HR.out.1, numberS, if_neg h0, ← HR.out.2, if_neg h7, if_neg (by rw [← H1.out]; omega), if_neg hc, if_neg hbig, hx]; rfl
                   subst hr'; clear hx; go_wp2; simp only [Exit.jump]
                   go_ret3
                   exact ⟨rfl, rfl⟩
       · have h1i : ¬ (1 : Int) < (s.size : Int) := by omega
         have hci : (s.size : Int) ≤ (k : Int) := by omega
         have hr' : r = (0, 0, 5) := by
          rw [hr, numberS, if_neg h0, ← hk, if_neg h7, if_neg (by omega), if_pos (by omega)]
         subst hr'; clear hr hk
         go_enter Try.func138, Try.ntmps138
         go_wp2
         go_step3
         go_wp2
         go_ret3
         exact ⟨rfl, rfl⟩
end Go.Proofs.Ytipgldfbjlhpoab.Wire
namespace Go.Proofs.Ytipgldfbjlhpoab.Wire
set_option linter.unusedVariables false
set_option linter.unusedSimpArgs false
open Go.RowKit Go.Proofs.YtipgldfbjlhpoabW.PrintWords Go.Proofs.YtipgldfbjlhpoabW.PrintLast Go.Proofs.YtipgldfbjlhpoabW.PrintMore Go.Proofs.Ytipgldfbjlhpoab.Sha
set_option maxRecDepth 100000
def beA : Nat → Nat → List Int → List Int
 | 0, _, acc => acc
 | f + 1, n, acc => if n = 0 then acc else beA f (n / 256) (((n % 256 : Nat) : Int) :: acc)
def be (n : Nat) : List Int := beA 8 n []
theorem beA_zero (f : Nat) (acc : List Int) : beA f 0 acc = acc := by cases f <;> simp [beA]
theorem length_beA : ∀ (f n : Nat) (acc : List Int) (p : Nat), n < 256 ^ p → (beA f n acc).length ≤ acc.length + p
 | 0, n, acc, p, _ => by simp [beA]
 | f + 1, n, acc, p, h => by
  unfold beA
  split
  · omega
  · rename_i hn
    cases p with
    | zero => simp at h; omega
    | succ p =>
     have := length_beA f (n / 256) (((n % 256 : Nat) : Int) :: acc) p (by rw [Nat.pow_succ] at h; omega); simp only [List.length_cons] at this; omega
def numB (n : Nat) : ByteArray := strOfNums (((be n).length : Int) :: be n)
def rowN (L : List Int) : Array Value := (nums .u8 L).toArray
theorem rowN_get (L : List Int) (i : Nat) (x : Int) (h : L[i]? = some x) : (rowN L)[i]? = some (.int .u8 x) := by
 simp [rowN, nums, h]
theorem rowN_set (L : List Int) (i : Nat) (x : Int) : (rowN L).setIfInBounds i (.int .u8 x) = rowN (L.set i x) := by
 apply Array.ext'; simp [rowN, nums, List.map_set]
section
variable {w : World} {g i : Nat} {t : TypeId} {L : List Int}
theorem rown_cell (h : w.heap[g]? = some (.cells (rowN L) t (0, 0))) {x : Int} (hx : L[i]? = some x) : w.cell? ⟨g, i, none⟩ = some (.int .u8 x) := by
 rw [cell_of_row _ _ _ _ _ _ h, rowN_get _ _ _ hx]
theorem rown_set (h : w.heap[g]? = some (.cells (rowN L) t (0, 0))) (x : Int) : (w.setCell ⟨g, i, none⟩ (.int .u8 x)).heap[g]? = some (.cells (rowN (L.set i x)) t (0, 0)) := by
 rw [heap_setCell_same w g i _ t _ h, rowN_set]
end
theorem set_front (a : Nat) (acc : List Int) (x : Int) : (List.replicate (a + 1) (0 : Int) ++ acc).set a x = List.replicate a 0 ++ x :: acc := by
 rw [List.replicate_succ', List.append_assoc, List.set_append_right _ _ (by simp)]; simp
set_option maxHeartbeats 1000000 in
theorem num_ok (n : Nat) (w : World) (hn : n ≤ 9007199254740992) :
  Calls Try.prog 98 #[.int .i64 (n : Int)] w fun e w' => e = .returned (.tuple #[.string (numB n), .int .i64 0]) ∧ Below w.heap.size w w' := by
 have h1 : ¬ (n : Int) < 0 := by omega
 have h2 : ¬ (9007199254740992 : Int) < (n : Int) := by omega
 go_enter Try.func98, Try.ntmps98
 go_upto_region 3 with fail
 go_cut [4] (fun s4 wx => s4 = .pointer (some ⟨w.heap.size, 0, none⟩) ∧ wx.heap[w.heap.size]? = some (.cells (rowN (List.replicate 8 0)) 203 (0, 0)) ∧ Below w.heap.size w wx)
 case first =>
  go_wp2_with fail
  go_meet; exact ⟨rfl, (heap_alloc_new w _).trans (by kernel_rfl), (Below.refl _ _).alloc (Nat.le_refl _) _⟩
 case rest =>
  obtain ⟨rfl, h0, hB⟩ := hcut; have H0 := Lib.hid h0; clear h0
  go_upto_region 4 with fail
  go_wp2
  go_loopw [0, 5] (fun v c wr => ∃ (m at_ : Nat) (acc : List Int), v = .int .i64 (m : Int) ∧ c = .int .i64 (at_ : Int) ∧ at_ + acc.length = 8 ∧ beA at_ m acc = be n ∧ m < 256 ^ (at_ - 1) ∧ 1 ≤ at_ ∧ wr.heap[w.heap.size]? = some (.cells (rowN (List.replicate at_ 0 ++ acc)) 203 (0, 0)) ∧ Below w.heap.size w wr) (fun _ c _ => (intOf c).toNat)
  case atStart => exact ⟨n, 8, [], rfl, rfl, rfl, rfl, by omega, by omega, H0.out, hB⟩
  case round =>
   clear H0; obtain ⟨m, at_, acc, rfl, rfl, hlen, hbe, hm, h1at, h0, hB⟩ := hrel
   by_cases hpos : 0 < m
   · have hpi : (0 : Int) < (m : Int) := by omega
     obtain ⟨a, ha⟩ : ∃ a, at_ = a + 1 := ⟨at_ - 1, by omega⟩
     have ha0 : 1 ≤ a := by
      rcases Nat.eq_zero_or_pos a with h | h
      · subst h; rw [ha] at hm; simp at hm; omega
      · exact h
     subst ha
     have ha8 : a < 8 := by omega
     have ha8i : (a : Int) < 8 := by omega
     have hfz : wr.frozen? ⟨w.heap.size, a, none⟩ = false := frozen_of_row _ _ _ _ _ h0
     obtain ⟨c, hc⟩ : ∃ c, wr.cell? ⟨w.heap.size, a, none⟩ = some c := by
      refine ⟨_, rown_cell h0 (x := 0) ?_⟩; rw [List.getElem?_append_left (by simp)]; simp
     have e1 : (((a + 1 : Nat) : Int) - 1) = (a : Int) := by omega
     have HH := Lib.hid (And.intro hlen (And.intro hbe (And.intro hm h0))); clear hlen hbe hm h0
     go_wp2_with fail
     obtain ⟨hlen, hbe, hm, h0⟩ := HH.out; have hm2 : m < 256 ^ a := hm; refine ⟨⟨m / 256, a, ((m % 256 : Nat) : Int) :: acc, by go_num, rfl, by simp; omega, ?_, ?_, ha0, ?_, hB.setCell (Nat.le_refl _) _⟩, by simp [intOf]⟩
     · rw [← hbe, beA, if_neg (by omega)]
     · obtain ⟨p, rfl⟩ : ∃ p, a = p + 1 := ⟨a - 1, by omega⟩
       rw [Nat.pow_succ] at hm2
       show m / 256 < 256 ^ p
       omega
     · rw [← set_front]; exact rown_set h0 _
   · have hpi : ¬ (0 : Int) < (m : Int) := by omega
     have hm0 : m = 0 := by omega
     subst hm0; rw [beA_zero] at hbe; subst hbe
     obtain ⟨L, hL⟩ : ∃ L, L = (be n).length := ⟨_, rfl⟩
     rw [← hL] at hlen
     have e8 : (8 : Int) - (at_ : Int) = (L : Int) := by omega
     have e9 : IntKind.i64.wrap (L : Int) = (L : Int) := by rw [IntKind.wrap_i64]; omega
     have e11 : IntKind.u8.wrap (L : Int) = (L : Int) := by simp [IntKind.wrap, IntKind.signed, IntKind.bits]; omega
     have h8 : (at_ : Int) ≤ 8 := by omega
     have h8n : at_ ≤ 8 := by omega
     have e10 : 8 - at_ = L := by omega
     have hsz := hB.size
     have hc1 : (convert 142 9 (.slice (some ⟨wr.heap.size, 0, none⟩) 1 1)).run Try.prog (wr.alloc (.cells #[.int .u8 (L : Int)] 5)).drew = .ok (.string (strOfNums [(L : Int)])) (wr.alloc (.cells #[.int .u8 (L : Int)] 5)).drew :=
      run_convert_bytes_arg _ 142 5 Try.underlying142 Try.underlying5 wr.heap.size 0 1 1 [(L : Int)] rfl (fun i hi => by
       obtain rfl : i = 0 := by omega
       rw [cell_of_row _ _ _ _ _ _ (show (wr.alloc (.cells #[.int .u8 (L : Int)] 5)).drew.heap[wr.heap.size]? = _ from heap_alloc_new wr _)]; rfl) _ Try.underlying9
     have hcell : ∀ W : World, W.heap[w.heap.size]? = wr.heap[w.heap.size]? → (convert 142 9 (.slice (some (if 8 = at_ then { block := w.heap.size, off := 0 } else { block := w.heap.size, off := at_ })) L L)).run Try.prog W = .ok (.string (strOfNums (be n))) W := fun W hW => by
      by_cases h8 : 8 = at_
      · have hL0 : L = 0 := by omega
        have hb0 : be n = [] := List.eq_nil_of_length_eq_zero (by omega); rw [if_pos h8, hL0]; exact run_convert_bytes_arg W 142 5 Try.underlying142 Try.underlying5 w.heap.size 0 0 0 (be n) (by rw [hb0]; rfl) (fun i hi => by omega) _ Try.underlying9
      · rw [if_neg h8]
        exact run_convert_bytes_arg W 142 5 Try.underlying142 Try.underlying5 w.heap.size at_ L L (be n) hL.symm (fun i hi => by
         refine rown_cell (hW.trans h0) ?_; rw [List.getElem?_append_right (by simp), List.length_replicate, show at_ + i - at_ = i by omega, List.getElem?_eq_getElem (by omega), List.getD_eq_getElem?_getD, List.getElem?_eq_getElem (by omega)]
         rfl) _ Try.underlying9
     have hlt0 : w.heap.size < wr.heap.size := by
      rcases Nat.lt_or_ge w.heap.size wr.heap.size with h | h
      · exact h
      · rw [Array.getElem?_eq_none h] at h0; cases h0
     have hc2 := hcell wr.drew rfl; have hc3 := hcell (wr.alloc (.cells #[.int .u8 (L : Int)] 5)).drew (by first | exact heap_alloc_old wr _ hlt0 | exact heap_alloc_old wr _ _ hlt0)
     obtain ⟨sL, hsL⟩ : ∃ sL, sL = strOfNums [(L : Int)] := ⟨_, rfl⟩
     obtain ⟨sB, hsB⟩ : ∃ sB, sB = strOfNums (be n) := ⟨_, rfl⟩
     have hcat : sL.size + sB.size ≤ 9223372036854775807 := by rw [hsL, hsB, strOfNums_size, strOfNums_size, ← hL]; simp; omega
     have hall : numB n = sL ++ sB := by
      rw [hsL, hsB, numB, ← hL]; simp [strOfNums]; rfl
     rw [← hsL] at hc1; rw [← hsB] at hc2 hc3; have HS := Lib.hid (And.intro hsL (And.intro hsB hall)); clear hsL hsB hall; have HH := Lib.hid (And.intro hL (And.intro hlen (And.intro hm h0))); clear hL hlen hm h0 hcell
     go_upto_region 9 with fail
     go_region
     all_goals go_wp2
     all_goals go_ret2
     all_goals exact ⟨by rw [HS.out.2.2]; rfl, by first | exact hB.alloc hsz _ | exact below_drew (hB.alloc hsz _)⟩
theorem num_bad (n : Int) (w : World) (hn : n < 0 ∨ 9007199254740992 < n) :
  Calls Try.prog 98 #[.int .i64 n] w fun e w' => e = .returned (.tuple #[.string ⟨#[]⟩, .int .i64 3]) ∧ Below w.heap.size w w' := by
 by_cases h1 : n < 0
 · go_enter Try.func98, Try.ntmps98
   go_wp2
   go_ret2
   exact ⟨rfl, Below.refl _ _⟩
 · have h2 : (9007199254740992 : Int) < n := by omega
   go_enter Try.func98, Try.ntmps98
   go_wp2
   go_ret2
   exact ⟨rfl, Below.refl _ _⟩
end Go.Proofs.Ytipgldfbjlhpoab.Wire
namespace Go.Proofs.Ytipgldfbjlhpoab.P
open Go.RowKit Go.Proofs.YtipgldfbjlhpoabW.PrintWords
def wire_Num.f (a0 : Int) : Option (ByteArray × Int) := some (if a0 < 0 ∨ 9007199254740992 < a0 then (⟨#[]⟩, 3) else (Wire.numB a0.toNat, 0))
theorem wire_Num.calls (a0 : Int) (r1 : ByteArray) (r2 : Int) (w : World) (h : wire_Num.f a0 = some (r1, r2)) :
  Calls Try.prog 98 #[.int .i64 a0] w fun e w' => e = .returned (.tuple #[.string r1, .int .i64 r2]) ∧ Below w.heap.size w w' := by
 unfold wire_Num.f at h; have h := Option.some.inj h
 split at h
 · rename_i hc
   cases h; exact Wire.num_bad a0 w hc
 · rename_i hc
   cases h
   have e : a0 = (a0.toNat : Int) := by omega
   have := Wire.num_ok a0.toNat w (by omega); rw [← e] at this; exact this
def wire_number.f (a0 : ByteArray) : Option (Int × Int × Int) := some (Wire.numberS a0)
theorem wire_number.calls (a0 : ByteArray) (r1 r2 r3 : Int) (w : World) (h : wire_number.f a0 = some (r1, r2, r3)) :
  Calls Try.prog 138 #[.string a0] w fun e w' => e = .returned (.tuple #[.int .i64 r1, .int .i64 r2, .int .i64 r3]) ∧ Drawn0 w w' := by
 have h : Wire.numberS a0 = (r1, r2, r3) := Option.some.inj h; refine (Wire.number_any a0 w).mono ?_; rintro e w' ⟨rfl, rfl⟩; rw [h]; exact ⟨rfl, Drawn0.refl _⟩
end Go.Proofs.Ytipgldfbjlhpoab.P
