/- The plain side of layer 51: the changes of bytes are the document's. -/
import Derived.Test.YtipgldfbjlhpoabPureDiff2
namespace Go.Proofs.Ytipgldfbjlhpoab.Pure
set_option linter.unusedVariables false
set_option linter.unusedSimpArgs false
open Go.RowKit Go.Proofs.Ytipgldfbjlhpoab.P Go.Proofs.Ytipgldfbjlhpoab.Wire Go.Proofs.Ytipgldfbjlhpoab.Sha Go.Proofs.YtipgldfbjlhpoabW.PrintWords Go.Proofs.YtipgldfbjlhpoabW.PrintLast
theorem err_f (s : ByteArray) (e : Int) : wire_Reader_Err.f s e = some (e, s, e) := by
  unfold wire_Reader_Err.f
  first | rfl | simp
theorem cread_step (s : ByteArray) (e : Int) (k k' : Nat) (hk : 20 ≤ k) (hk' : 20 ≤ k') (hs : s.size ≤ 1000000000000000) :
    (∃ (g : Int) (a b : ByteArray) (c : Bool) (st : ByteArray) (e' : Int), g ≠ 0 ∧ diff_read.f k s e = some (a, b, c, g, st, e') ∧ ∀ (n : Int) (x6 : List S62) (x7 : Int), x7 < n → footbridgeref51_Read.l0 (k' + 2) n x6 x7 s e = some ([], g)) ∨
    (∃ (c : S62) (st : ByteArray) (e' : Int), st.size ≤ s.size ∧ diff_read.f k s e = some (c.f0, c.f1, c.f2, 0, st, e') ∧ ∀ (n : Int) (x6 : List S62) (x7 : Int), x7 < n → x6.length < 3518437208883 → footbridgeref51_Read.l0 (k' + 2) n x6 x7 s e = footbridgeref51_Read.l0 k' n (x6 ++ [c]) (wrap64 (x7 + 1)) st e') := by
  obtain ⟨k, rfl⟩ : ∃ q, k = q + 1 := ⟨k - 1, by omega⟩
  obtain ⟨key, s1, e1, a1, b1, z1⟩ := text_step s e (k' + 1) (by omega) hs
  obtain ⟨gone, s2, e2, a2, b2, z2⟩ := num_step s1 e1 (k' + 1) (by omega) (by omega)
  obtain ⟨val, s3, e3, a3, b3, z3⟩ := text_step s2 e2 k' (by omega) (by omega)
  have hL : ∀ (stop : Bool), (if e2 = 0 then stop = decide (gone > 1) else stop = false) → diff_read.f (k + 1) s e = diff_read.j0 (k + 1) gone stop s2 e2 key ⟨#[]⟩ false := by
    intro stop hst
    unfold diff_read.f
    rw [a1, Option.bind_some]
    dsimp only
    rw [a2, Option.bind_some]
    dsimp only
    rw [err_f, Option.bind_some]
    dsimp only
    by_cases h : e2 = 0
    · rw [if_pos h] at hst ⊢
      rw [hst]
    · rw [if_neg h] at hst ⊢
      rw [hst]
  have hR : ∀ (stop : Bool), (if e2 = 0 then stop = decide (gone > 1) else stop = false) → ∀ (n : Int) (x6 : List S62) (x7 : Int), x7 < n → footbridgeref51_Read.l0 (k' + 2) n x6 x7 s e = footbridgeref51_Read.j2 (k' + 1) n x6 x7 gone stop s2 e2 key ⟨#[]⟩ false := by
    intro stop hst n x6 x7 hx
    rw [footbridgeref51_Read.l0, if_pos hx, b1, Option.bind_some]
    dsimp only
    rw [b2, Option.bind_some]
    dsimp only
    by_cases h : e2 = 0
    · rw [if_pos h] at hst ⊢
      rw [hst]
    · rw [if_neg h] at hst ⊢
      rw [hst]
  obtain ⟨stop, hst⟩ : ∃ stop : Bool, (if e2 = 0 then stop = decide (gone > 1) else stop = false) := by
    by_cases h : e2 = 0
    · exact ⟨_, by rw [if_pos h]⟩
    · exact ⟨_, by rw [if_neg h]⟩
  rw [hL stop hst]
  have hR := hR stop hst
  clear hL hst
  cases stop with
  | true =>
    left
    refine ⟨6, _, _, _, _, _, by decide, rfl, fun n x6 x7 hx => ?_⟩
    rw [hR n x6 x7 hx, footbridgeref51_Read.j2, if_pos rfl]
  | false =>
    by_cases hg : gone = 1
    · subst hg
      have hl : diff_read.j0 (k + 1) 1 false s2 e2 key ⟨#[]⟩ false = some (key, ⟨#[]⟩, true, e2, s2, e2) := by
        rw [diff_read.j0, if_neg (by decide), if_pos rfl, err_f, Option.bind_some]
        rfl
      by_cases he : e2 = 0
      · right
        subst he
        refine ⟨⟨key, ⟨#[]⟩, true⟩, s2, 0, by omega, hl, fun n x6 x7 hx hn => ?_⟩
        rw [hR n x6 x7 hx, footbridgeref51_Read.j2, if_neg (by decide), if_pos rfl, if_pos rfl, if_pos hn]
        rfl
      · left
        refine ⟨e2, _, _, _, _, _, he, hl, fun n x6 x7 hx => ?_⟩
        rw [hR n x6 x7 hx, footbridgeref51_Read.j2, if_neg (by decide), if_pos rfl, if_neg he]
    · have hgb : (gone == 1) = false := beq_eq_false_iff_ne.mpr hg
      have hl : diff_read.j0 (k + 1) gone false s2 e2 key ⟨#[]⟩ false = some (key, val, false, e3, s3, e3) := by
        rw [diff_read.j0, if_neg (by decide), if_neg hg, a3, Option.bind_some]
        dsimp only
        rw [err_f, Option.bind_some, hgb]
      by_cases he : e3 = 0
      · right
        subst he
        refine ⟨⟨key, val, false⟩, s3, 0, by omega, hl, fun n x6 x7 hx hn => ?_⟩
        rw [hR n x6 x7 hx, footbridgeref51_Read.j2, if_neg (by decide), if_neg hg, b3, Option.bind_some]
        dsimp only
        rw [if_pos rfl, if_pos hn, hgb]
      · left
        refine ⟨e3, _, _, _, _, _, he, hl, fun n x6 x7 hx => ?_⟩
        rw [hR n x6 x7 hx, footbridgeref51_Read.j2, if_neg (by decide), if_neg hg, b3, Option.bind_some]
        dsimp only
        rw [if_neg he]
theorem cread_l0 (n : Nat) (hn : n ≤ 256) : ∀ (d k k' : Nat) (x : List S62) (s : ByteArray) (e : Int), x.length + d = n → d + 400 ≤ k → 2 * d + 400 ≤ k' → s.size ≤ 1000000000000 →
    ∃ (r : List S62) (g : Int), diff_Read.l0 k x (n : Int) (x.length : Int) s e = some (r, g) ∧ footbridgeref51_Read.l0 k' (n : Int) x (x.length : Int) s e = some (r, g) ∧ r.length ≤ 256 := by
  intro d
  induction d with
  | zero =>
    intro k k' x s e hx hk hk' hs
    obtain ⟨k, rfl⟩ : ∃ q, k = q + 1 := ⟨k - 1, by omega⟩
    obtain ⟨k', rfl⟩ : ∃ q, k' = q + 1 := ⟨k' - 1, by omega⟩
    obtain ⟨v, hd1, hd2⟩ := done_step s e
    rw [diff_Read.l0, footbridgeref51_Read.l0, if_neg (by omega), if_neg (by omega), hd1, hd2, Option.bind_some, Option.bind_some]
    dsimp only
    by_cases hv : v = 0
    · rw [if_pos hv, if_pos hv, rfine_eq x k' (by omega) (by omega), Option.bind_some]
      unfold diff_fine.f
      rw [Option.bind_some]
      change ∃ r g, (if fineM x = true then _ else _) = _ ∧ _
      by_cases hf : fineM x = true
      · rw [if_pos hf]
        exact ⟨_, _, rfl, rfl, by omega⟩
      · rw [if_neg hf]
        exact ⟨_, _, rfl, rfl, by decide⟩
    · rw [if_neg hv, if_neg hv]
      exact ⟨_, _, rfl, rfl, by decide⟩
  | succ d ih =>
    intro k k' x s e hx hk hk' hs
    obtain ⟨k, rfl⟩ : ∃ q, k = q + 1 := ⟨k - 1, by omega⟩
    obtain ⟨k', rfl⟩ : ∃ q, k' = q + 2 := ⟨k' - 2, by omega⟩
    rcases cread_step s e k k' (by omega) (by omega) (by omega) with ⟨g, a, b, c, st, e', hg, h1, h2⟩ | ⟨c, st, e', hz, h1, h2⟩
    · rw [h2 _ _ _ (by omega), diff_Read.l0, if_pos (by omega), h1, Option.bind_some]
      dsimp only
      rw [if_neg hg]
      exact ⟨_, _, rfl, rfl, by decide⟩
    · have hla : (x ++ [c]).length = x.length + 1 := by simp
      have w : wrap64 ((x.length : Int) + 1) = ((x ++ [c]).length : Int) := by rw [w64 (by omega) (by omega)]; simp
      rw [h2 _ _ _ (by omega) (by omega), diff_Read.l0, if_pos (by omega), h1, Option.bind_some]
      dsimp only
      rw [if_pos rfl, if_pos (by omega), w]
      exact ih k k' (x ++ [c]) st e' (by omega) (by omega) (by omega) (by omega)
theorem num_first (s : ByteArray) (k : Nat) (hk : 12 ≤ k) (hs : s.size ≤ 1000000000000000) : ∃ (n : Nat) (st : ByteArray) (e' : Int), wire_Reader_Num.f s 0 = some ((n : Int), st, e') ∧ footbridgeref01_R_Num.f k s 0 = some (st, e', (n : Int)) ∧ st.size ≤ s.size ∧ (e' = 0 ∨ n = 0) := by
  rw [rnum_f s k hk hs]
  unfold wire_Reader_Num.f wire_Reader_stopped.f wire_number.f rnumS
  rcases numberS_cases s with ⟨e2, h2, hn⟩ | ⟨n, a, hn, h1, h8, ha, hm⟩
  · rw [hn]
    refine ⟨0, s, e2, ?_, ?_, Nat.le_refl _, Or.inr rfl⟩
    · simp only [Option.bind_some, bne_self_eq_false, Bool.false_eq_true, if_false, hn, take_bad s 0 0 e2 h2]
      rfl
    · rw [if_neg h2]
      rfl
  · rw [hn]
    refine ⟨n, s.extract a s.size, 0, ?_, ?_, by rw [size_rest]; omega, Or.inl rfl⟩
    · simp only [Option.bind_some, bne_self_eq_false, Bool.false_eq_true, if_false, hn, take_ok s 0 a ha]
    · rw [if_pos rfl]
      simp only [Int.toNat_natCast]
theorem cread_eq (s : ByteArray) (k : Nat) (hk : 2000 ≤ k) (hs : s.size ≤ 1000000000) :
    ∃ (r : List S62) (g : Int), diff_Read.f k s = some (r, g) ∧ footbridgeref51_Read.f k s = some (r, g) ∧ r.length ≤ 256 := by
  obtain ⟨n, s1, e1, a1, b1, z1, hn⟩ := num_first s k (by omega) (by omega)
  obtain ⟨k, rfl⟩ : ∃ q, k = q + 1 := ⟨k - 1, by omega⟩
  unfold diff_Read.f footbridgeref51_Read.f wire_New.f
  rw [Option.bind_some]
  dsimp only
  rw [a1, b1, Option.bind_some, Option.bind_some]
  dsimp only
  by_cases hb : n ≤ 256
  · obtain ⟨r, g, h1, h2, h3⟩ := cread_l0 n hb n (k + 1) k [] s1 e1 (by simp) (by omega) (by omega) (by omega)
    refine ⟨r, g, ?_, ?_, h3⟩
    · rw [if_neg (by omega)]
      exact h1
    · have hd : decide ((n : Int) > 256) = false := decide_eq_false (by omega)
      rw [hd, ite_self, footbridgeref51_Read.j0, if_neg (by decide)]
      exact h2
  · obtain rfl : e1 = 0 := by rcases hn with h | h <;> omega
    rw [if_pos (by omega), if_pos rfl, footbridgeref51_Read.j0, if_pos (decide_eq_true (by omega))]
    exact ⟨_, _, rfl, rfl, by decide⟩
end Go.Proofs.Ytipgldfbjlhpoab.Pure
