/- mac.Sum: its contract, in the form in which the printed callers take it. -/
import Derived.Test.YtipgldfbjlhpoabHMac0
namespace Go.Proofs.Ytipgldfbjlhpoab.Sha
set_option linter.unusedVariables false
set_option linter.unusedSimpArgs false
open Go.RowKit Go.Proofs.YtipgldfbjlhpoabW.PrintWords Go.Proofs.YtipgldfbjlhpoabW.PrintLast Go.Proofs.YtipgldfbjlhpoabW.PrintMore
set_option maxRecDepth 100000

def keyOf (key : ByteArray) : ByteArray := if 64 < key.size then sumB key else key
def macB (key s : ByteArray) : ByteArray := sumB (mixS (keyOf key) 92 ++ sumB (mixS (keyOf key) 54 ++ s))
theorem size_sumB (s : ByteArray) : (sumB s).size = 32 := by rw [sumB, size_ofL]; exact length_out _
theorem size_mixS (key : ByteArray) (b : Int) : (mixS key b).size = 64 := by rw [mixS, strOfNums_size, length_mixTo]
theorem size_keyOf (key : ByteArray) : (keyOf key).size ≤ 64 := by
  unfold keyOf
  split
  · rw [size_sumB]; omega
  · omega
theorem sumv_any (s r : ByteArray) (w : World) (hs : s.size ≤ 1000000000000000) (hr : r = sumB s) :
    Calls Try.prog 139 #[.string s] w fun e w' => e = .returned (.string r) ∧ Below w.heap.size w w' := by
  subst hr
  exact sum_any s w hs
theorem mixv_any (key r : ByteArray) (b : Int) (kp : Nat) (w : World) (hs : key.size ≤ 64) (hk : w.cell? ⟨kp, 0, none⟩ = some (.string key)) (hr : r = mixS key b) :
    Calls Try.prog 140 #[.int .u8 b, .pointer (some ⟨kp, 0, none⟩)] w fun e w' => e = .returned (.string r) ∧ Below w.heap.size w w' := by
  subst hr
  exact mixed_any key b kp w hs hk
set_option maxHeartbeats 1000000 in
theorem mac_any (key s : ByteArray) (w : World) (hk : key.size ≤ 100000000000000) (hs : s.size ≤ 100000000000000) :
    Calls Try.prog 76 #[.string key, .string s] w fun e w' => e = .returned (.string (macB key s)) ∧ Below w.heap.size w w' := by
  have hmf : ∀ (fn : Fn) (first cap : Array Value) (w : World), (Instr.makeFunc fn first cap).run Try.prog w = .ok (.func fn first cap) w := fun _ _ _ _ => rfl
  obtain ⟨k2, hk2⟩ : ∃ k2, k2 = keyOf key := ⟨_, rfl⟩
  obtain ⟨r, hr⟩ : ∃ r, r = macB key s := ⟨_, rfl⟩
  rw [← hr]
  have HR := Lib.hid (And.intro hk2 hr)
  clear hk2 hr
  go_enter Try.func76, Try.ntmps76
  go_upto_region 1 with fail
  have hrow := heap_alloc_new w (.cells #[.string key] 9)
  have hc0 : (w.alloc (.cells #[.string key] 9)).cell? ⟨w.heap.size, 0, none⟩ = some (.string key) := by rw [cell_of_row _ _ _ _ _ _ hrow]; rfl
  by_cases hbig : 64 < key.size
  · have hbi : (64 : Int) < (key.size : Int) := by omega
    have hB0 : Below w.heap.size w (w.alloc (.cells #[.string key] 9)) := (Below.refl _ _).alloc (Nat.le_refl _) _
    have hsz : w.heap.size < (w.alloc (.cells #[.string key] 9)).heap.size := by simp
    generalize hw1 : w.alloc (.cells #[.string key] 9) = w1 at *
    clear hw1
    go_wp2_with fail
    refine (sumv_any key k2 _ (by omega) (by rw [HR.out.1, keyOf, if_pos hbig])).mono ?_
    rintro e w2 ⟨rfl, hb2⟩
    have hr2 : w2.heap[w.heap.size]? = _ := blk_below hrow hb2
    have hf2 : w2.frozen? ⟨w.heap.size, 0, none⟩ = false := frozen_of_row _ _ _ _ _ hr2
    have hc2 : w2.cell? ⟨w.heap.size, 0, none⟩ = some (.string key) := by rw [cell_of_row _ _ _ _ _ _ hr2]; rfl
    have hB2 := hB0.trans (hb2.mono hB0.size)
    have hB3 : Below w.heap.size w (w2.setCell ⟨w.heap.size, 0, none⟩ (.string k2)) := hB2.setCell (Nat.le_refl _) _
    have hc3 : (w2.setCell ⟨w.heap.size, 0, none⟩ (.string k2)).cell? ⟨w.heap.size, 0, none⟩ = some (.string k2) := by
      rw [cell_of_row _ _ _ _ _ _ (heap_setCell_same _ _ 0 _ _ _ hr2)]; rfl
    have hs3 : w.heap.size < (w2.setCell ⟨w.heap.size, 0, none⟩ (.string k2)).heap.size := by
      have := hb2.size; simp; omega
    go_upto_region 3 with fail
    generalize w2.setCell ⟨w.heap.size, 0, none⟩ (.string k2) = wt at *
    clear hr2 hf2 hc2 hB2 hb2 hB0 hrow hc0 hsz
    have hk64 : k2.size ≤ 64 := by rw [HR.out.1]; exact size_keyOf _
    obtain ⟨m1, hm1⟩ : ∃ m1, m1 = mixS k2 92 := ⟨_, rfl⟩
    obtain ⟨m2, hm2⟩ : ∃ m2, m2 = mixS k2 54 := ⟨_, rfl⟩
    obtain ⟨h2, hh2⟩ : ∃ h2, h2 = sumB (m2 ++ s) := ⟨_, rfl⟩
    have z1 : m1.size = 64 := by rw [hm1, size_mixS]
    have z2 : m2.size = 64 := by rw [hm2, size_mixS]
    have z3 : h2.size = 32 := by rw [hh2, size_sumB]
    have hr : r = sumB (m1 ++ h2) := by rw [HR.out.2, macB, ← HR.out.1, ← hm1, ← hm2, ← hh2]
    have hc1 : m2.size + s.size ≤ 9223372036854775807 := by omega
    have hc2 : m1.size + h2.size ≤ 9223372036854775807 := by omega
    have HZ := Lib.hid (And.intro hm1 (And.intro hm2 (And.intro hh2 hr)))
    clear hm1 hm2 hh2 hr
    go_wp2_with fail
    refine (mixv_any k2 m1 92 w.heap.size _ hk64 hc3 HZ.out.1).mono ?_
    rintro e v1 ⟨rfl, hb1⟩
    have hc4 : v1.cell? ⟨w.heap.size, 0, none⟩ = some (.string k2) := by rw [← hc3]; exact hb1.cell hs3
    have hB4 := hB3.trans (hb1.mono hB3.size)
    clear hb1 hB3
    go_wp2_with fail
    refine (mixv_any k2 m2 54 w.heap.size _ hk64 hc4 HZ.out.2.1).mono ?_
    rintro e v2 ⟨rfl, hb2⟩
    have hB5 := hB4.trans (hb2.mono hB4.size)
    clear hb2 hB4
    go_wp2_with fail
    refine (sumv_any (m2 ++ s) h2 _ (by rw [ByteArray.size_append]; omega) HZ.out.2.2.1).mono ?_
    rintro e v3 ⟨rfl, hb3⟩
    have hB6 := hB5.trans (hb3.mono hB5.size)
    clear hb3 hB5
    go_wp2_with fail
    refine (sumv_any (m1 ++ h2) r _ (by rw [ByteArray.size_append]; omega) HZ.out.2.2.2).mono ?_
    rintro e v4 ⟨rfl, hb4⟩
    have hB7 := hB6.trans (hb4.mono hB6.size)
    go_wp2_with fail
    go_ret
    exact ⟨rfl, hB7⟩
  · have hbi : ¬ (64 : Int) < (key.size : Int) := by omega
    have hk2 : k2 = key := by rw [HR.out.1, keyOf, if_neg hbig]
    have hB3 : Below w.heap.size w (w.alloc (.cells #[.string key] 9)) := (Below.refl _ _).alloc (Nat.le_refl _) _
    have hs3 : w.heap.size < (w.alloc (.cells #[.string key] 9)).heap.size := by simp
    have hc3 := hc0
    rw [← hk2] at hc3
    rw [← hk2] at hB3 hs3 hc0 hbi
    subst hk2
    go_upto_region 3 with fail
    generalize w.alloc (.cells #[.string k2] 9) = wt at *
    clear hrow hc0
    have hk64 : k2.size ≤ 64 := by rw [HR.out.1]; exact size_keyOf _
    obtain ⟨m1, hm1⟩ : ∃ m1, m1 = mixS k2 92 := ⟨_, rfl⟩
    obtain ⟨m2, hm2⟩ : ∃ m2, m2 = mixS k2 54 := ⟨_, rfl⟩
    obtain ⟨h2, hh2⟩ : ∃ h2, h2 = sumB (m2 ++ s) := ⟨_, rfl⟩
    have z1 : m1.size = 64 := by rw [hm1, size_mixS]
    have z2 : m2.size = 64 := by rw [hm2, size_mixS]
    have z3 : h2.size = 32 := by rw [hh2, size_sumB]
    have hr : r = sumB (m1 ++ h2) := by rw [HR.out.2, macB, ← HR.out.1, ← hm1, ← hm2, ← hh2]
    have hc1 : m2.size + s.size ≤ 9223372036854775807 := by omega
    have hc2 : m1.size + h2.size ≤ 9223372036854775807 := by omega
    have HZ := Lib.hid (And.intro hm1 (And.intro hm2 (And.intro hh2 hr)))
    clear hm1 hm2 hh2 hr
    go_wp2_with fail
    refine (mixv_any k2 m1 92 w.heap.size _ hk64 hc3 HZ.out.1).mono ?_
    rintro e v1 ⟨rfl, hb1⟩
    have hc4 : v1.cell? ⟨w.heap.size, 0, none⟩ = some (.string k2) := by rw [← hc3]; exact hb1.cell hs3
    have hB4 := hB3.trans (hb1.mono hB3.size)
    clear hb1 hB3
    go_wp2_with fail
    refine (mixv_any k2 m2 54 w.heap.size _ hk64 hc4 HZ.out.2.1).mono ?_
    rintro e v2 ⟨rfl, hb2⟩
    have hB5 := hB4.trans (hb2.mono hB4.size)
    clear hb2 hB4
    go_wp2_with fail
    refine (sumv_any (m2 ++ s) h2 _ (by rw [ByteArray.size_append]; omega) HZ.out.2.2.1).mono ?_
    rintro e v3 ⟨rfl, hb3⟩
    have hB6 := hB5.trans (hb3.mono hB5.size)
    clear hb3 hB5
    go_wp2_with fail
    refine (sumv_any (m1 ++ h2) r _ (by rw [ByteArray.size_append]; omega) HZ.out.2.2.2).mono ?_
    rintro e v4 ⟨rfl, hb4⟩
    have hB7 := hB6.trans (hb4.mono hB6.size)
    go_wp2_with fail
    go_ret
    exact ⟨rfl, hB7⟩
end Go.Proofs.Ytipgldfbjlhpoab.Sha
namespace Go.Proofs.Ytipgldfbjlhpoab.P
open Go.RowKit
def mac_Sum.f (a0 a1 : ByteArray) : Option ByteArray := if a0.size ≤ 100000000000000 then if a1.size ≤ 100000000000000 then some (Sha.macB a0 a1) else none else none
theorem mac_Sum.calls (a0 a1 : ByteArray) (r : ByteArray) (w : World) (h : mac_Sum.f a0 a1 = some r) :
    Calls Try.prog 76 #[.string a0, .string a1] w fun e w' => e = .returned (.string r) ∧ Below w.heap.size w w' := by
  unfold mac_Sum.f at h
  split at h
  · rename_i hk
    split at h
    · rename_i hs
      obtain rfl := Option.some.inj h
      exact Sha.mac_any a0 a1 w hk hs
    · cases h
  · cases h
end Go.Proofs.Ytipgldfbjlhpoab.P
