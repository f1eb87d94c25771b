/- merkle's fold over pairs, at Leaf and Node, and Root: their contracts. -/
import Derived.Test.YtipgldfbjlhpoabZbPMerkle
namespace Go.Proofs.Ytipgldfbjlhpoab.P
set_option linter.unusedVariables false
set_option linter.unusedSimpArgs false
open Go.RowKit Go.Proofs.YtipgldfbjlhpoabW.PrintWords Go.Proofs.YtipgldfbjlhpoabW.PrintLast Go.Proofs.YtipgldfbjlhpoabW.PrintMore
set_option maxRecDepth 100000
def merkle_fold.f : Nat → List S86 → Option ByteArray
 | 0, _ => none
 | k + 1, l => if l.length = 1 then merkle_Leaf.f (rd_T86 l 0).f0 (rd_T86 l 0).f1 else
   (merkle_Split.f (l.length : Int)).bind fun s => if 0 < s then (if s < (l.length : Int) then
    ((merkle_fold.f k (l.take s.toNat)).bind fun a => (merkle_fold.f k (l.drop s.toNat)).bind fun b => merkle_Node.f a b) else none) else none
set_option maxHeartbeats 2000000 in
theorem merkle_fold.calls : ∀ (k : Nat) (A : Option Addr) (c : Nat) (l : List S86) (r : ByteArray) (w : World) (hC : Kd.C k86 w A l.length l) (hc : l.length ≤ c) (h : merkle_fold.f k l = some r),
  Calls Try.prog 132 #[.slice A l.length c, .func (.func 119) #[] #[], .func (.func 133) #[] #[]] w fun e w' => e = .returned (.string r) ∧ Below w.heap.size w w' := by
 intro k
 induction k with
 | zero => intro A c l r w hC hc h; simp [merkle_fold.f] at h
 | succ k ih =>
  intro A c l r w hC hc h
  rw [merkle_fold.f] at h
  by_cases h1 : l.length = 1
  · rw [if_pos h1] at h
    have h1i : (l.length : Int) = 1 := by omega
    obtain ⟨ad, rfl, c0, c1⟩ := at_T86 hC 0 (by omega) (by omega)
    have e0 : ad.add ((0 : Int).toNat * 2) = ad := by
     cases ad with
     | mk b o s => cases s <;> simp [Addr.add]
    rw [e0] at c0 c1
    have hlt : (0 : Int) < (l.length : Int) := by omega
    go_enter Try.func132, Try.ntmps132
    go_wp2_with fail
    refine (merkle_Leaf.calls _ _ r _ h).mono ?_
    rintro e w1 ⟨rfl, hb⟩
    go_wp2_with fail
    go_ret
    exact ⟨rfl, hb⟩
  · rw [if_neg h1] at h
    have h1i : ¬ (l.length : Int) = 1 := by omega
    obtain ⟨s, hs, h⟩ := Option.bind_eq_some_iff.mp h
    split at h
    · rename_i p0
      split at h
      · rename_i p1
        obtain ⟨a, ha, h⟩ := Option.bind_eq_some_iff.mp h
        obtain ⟨b, hb, h⟩ := Option.bind_eq_some_iff.mp h
        obtain ⟨i0, hi0, _, hsz, _⟩ := info_parts info86
        have ht := cut_to (P := Try.prog) 39 86 .i64 Try.underlying39 hi0 A l.length c s (by omega) (by omega) hc
        have hf := cut_from (P := Try.prog) 39 86 .i64 Try.underlying39 hi0 2 hsz A l.length c s (by omega) (by omega)
        have lt : (l.take s.toNat).length = s.toNat := by rw [List.length_take]; omega
        have ld : (l.drop s.toNat).length = l.length - s.toNat := by rw [List.length_drop]
        have hfa : ∀ W, Kd.C k86 W A l.length l → Calls Try.prog 132 #[.slice A s.toNat c, .func (.func 119) #[] #[], .func (.func 133) #[] #[]] W fun e w' => e = .returned (.string a) ∧ Below W.heap.size W w' := by
         intro W hW
         have := ih A c (l.take s.toNat) a W (Kd.C_take hW (by omega)) (by omega) ha
         rwa [lt] at this
        have hfb : ∀ W, Kd.C k86 W A l.length l → Calls Try.prog 132 #[.slice (if c = s.toNat then A else A.map (·.add (s.toNat * 2))) (l.length - s.toNat) (c - s.toNat), .func (.func 119) #[] #[], .func (.func 133) #[] #[]] W fun e w' => e = .returned (.string b) ∧ Below W.heap.size W w' := by
         intro W hW
         have := ih _ (c - s.toNat) (l.drop s.toNat) b W (Kd.C_drop hW (by omega) hc) (by omega) hb
         rwa [ld] at this
        have hno : ∀ W, Calls Try.prog 133 #[.string a, .string b] W fun e w' => e = .returned (.string r) ∧ Below W.heap.size W w' := fun W => merkle_Node.calls a b r W h
        clear ih ha hb h lt ld
        obtain ⟨A2, hA2⟩ : ∃ A2, A2 = (if c = s.toNat then A else A.map (·.add (s.toNat * 2))) := ⟨_, rfl⟩
        obtain ⟨n2, hn2⟩ : ∃ n2, n2 = l.length - s.toNat := ⟨_, rfl⟩
        obtain ⟨c2, hc2⟩ : ∃ c2, c2 = c - s.toNat := ⟨_, rfl⟩
        obtain ⟨n1, hn1⟩ : ∃ n1, n1 = s.toNat := ⟨_, rfl⟩
        rw [← hA2, ← hn2, ← hc2] at hf hfb
        rw [← hn1] at ht hfa
        clear hA2 hn2 hc2 hn1
        go_enter Try.func132, Try.ntmps132
        go_wp2_with fail
        refine (merkle_Split.calls _ s _ hs).mono ?_
        rintro e w1 ⟨rfl, nd, rfl⟩
        have hC0 : Kd.C k86 (w.drewN nd) A l.length l := Kd.C_drewN hC nd
        have hB0 : Below w.heap.size w (w.drewN nd) := pbN (Below.refl _ _) nd
        clear hC hs
        generalize w.drewN nd = w1 at *
        have hC1 : Kd.C k86 w1.drew A l.length l := Kd.C_drew hC0
        have hB1 : Below w.heap.size w w1.drew := below_drew hB0
        clear hC0 hB0
        go_upto_region 4 with fail
        go_region_with (first
         | (go_at_call 132; refine (hfa _ hC1).mono ?_; rintro e w2 ⟨rfl, hb2⟩; have hC2 := Kd.C_below hC1 hb2; have hB2 := hB1.trans (hb2.mono hB1.size); clear hfa hb2 hC1 hB1)
         | (go_at_call 132; refine (hfb _ hC2).mono ?_; rintro e w3 ⟨rfl, hb3⟩; have hB3 := hB2.trans (hb3.mono hB2.size); clear hfb hb3 hC2 hB2)
         | (go_at_call 133; refine (hno _).mono ?_; rintro e w4 ⟨rfl, hb4⟩; have hB4 := hB3.trans (hb4.mono hB3.size); clear hb4 hB3))
        all_goals go_wp2_with fail
        all_goals go_ret
        all_goals exact ⟨rfl, hB4⟩
      · cases h
    · cases h
def merkle_Root.f (l : List S86) : Option ByteArray :=
 if l.length = 0 then merkle_Top.f 0 ⟨#[]⟩ else (merkle_fold.f l.length l).bind fun t => merkle_Top.f (l.length : Int) t
theorem merkle_Root.calls (A : Option Addr) (c : Nat) (l : List S86) (r : ByteArray) (w : World) (hC : Kd.C k86 w A l.length l) (hc : l.length ≤ c) (h : merkle_Root.f l = some r) :
  Calls Try.prog 62 #[.slice A l.length c] w fun e w' => e = .returned (.string r) ∧ Below w.heap.size w w' := by
 unfold merkle_Root.f at h
 by_cases h0 : l.length = 0
 · rw [if_pos h0] at h
   have h0i : (l.length : Int) = 0 := by omega
   go_enter Try.func62, Try.ntmps62
   go_wp2_with fail
   refine (merkle_Top.calls _ _ r _ h).mono ?_
   rintro e w1 ⟨rfl, hb⟩
   go_wp2_with fail
   go_ret
   exact ⟨rfl, hb⟩
 · rw [if_neg h0] at h
   have h0i : ¬ (l.length : Int) = 0 := by omega
   obtain ⟨t, ht, h⟩ := Option.bind_eq_some_iff.mp h
   have hfold := merkle_fold.calls l.length A c l t w hC hc ht
   have htop := fun W => merkle_Top.calls (l.length : Int) t r W h
   clear hC ht h
   go_enter Try.func62, Try.ntmps62
   go_wp2_with fail
   refine hfold.mono ?_
   rintro e w1 ⟨rfl, hb⟩
   go_wp2_with fail
   refine (htop _).mono ?_
   rintro e w2 ⟨rfl, hb2⟩
   go_wp2_with fail
   go_ret
   exact ⟨rfl, hb.trans (hb2.mono hb.size)⟩
end Go.Proofs.Ytipgldfbjlhpoab.P
