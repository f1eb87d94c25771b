/- DiffOf: the plain side. -/
import Derived.Test.YtipgldfbjlhpoabPureDiffA2
import Derived.Test.YtipgldfbjlhpoabPureDiff2
import Derived.Test.YtipgldfbjlhpoabPLDiffOf
namespace Go.Proofs.Ytipgldfbjlhpoab.Pure
set_option linter.unusedVariables false
set_option linter.unusedSimpArgs false
open Go.RowKit Go.Proofs.Ytipgldfbjlhpoab.P Go.Proofs.Ytipgldfbjlhpoab.Wire Go.Proofs.Ytipgldfbjlhpoab.Sha Go.Proofs.YtipgldfbjlhpoabW.PrintWords Go.Proofs.YtipgldfbjlhpoabW.PrintLast
theorem set_at (p : Pr) : ∀ (s : List Pr), setP s p = s.take (atM p.f0.toList s) ++ [p] ++ (if ∃ h : atM p.f0.toList s < s.length, s[atM p.f0.toList s].f0.toList = p.f0.toList then s.drop (atM p.f0.toList s + 1) else s.drop (atM p.f0.toList s)) := by
  intro s
  induction s with
  | nil => simp [setP, atM]
  | cons x s ih =>
    rw [setP, atM]
    by_cases h : Op.bytesLess (keyP x) (keyP p) = true
    · rw [if_pos h, if_pos (show Op.bytesLess (keyP x) p.f0.toList = true from h), ih, List.take_succ_cons, List.drop_succ_cons, List.drop_succ_cons]
      simp [List.length_cons]
    · rw [if_neg h, if_neg (show ¬ Op.bytesLess (keyP x) p.f0.toList = true from h)]
      by_cases he : x.f0.toList = p.f0.toList
      · rw [if_pos he, if_pos ⟨by simp, he⟩]
        rfl
      · rw [if_neg he, if_neg (fun ⟨_, e⟩ => he e)]
        rfl
theorem del_at (key : ByteArray) : ∀ (s : List Pr), delP s key.toList = if ∃ h : atM key.toList s < s.length, s[atM key.toList s].f0.toList = key.toList then some (s.take (atM key.toList s) ++ s.drop (atM key.toList s + 1)) else none := by
  intro s
  induction s with
  | nil => simp [delP, atM]
  | cons x s ih =>
    rw [delP, atM]
    by_cases h : Op.bytesLess (keyP x) key.toList = true
    · rw [if_pos h, if_pos h, ih]
      by_cases hc : ∃ h : atM key.toList s < s.length, s[atM key.toList s].f0.toList = key.toList
      · obtain ⟨hlt, he⟩ := hc
        rw [if_pos ⟨hlt, he⟩, if_pos ⟨by simpa using hlt, by simpa using he⟩]
        simp
      · rw [if_neg hc, if_neg (fun ⟨hlt, he⟩ => hc ⟨by simpa using hlt, by simpa using he⟩)]
        rfl
    · rw [if_neg h, if_neg h]
      by_cases he : keyP x = key.toList
      · rw [if_pos he, if_pos ⟨by simp, he⟩]
        rfl
      · rw [if_neg he, if_neg (fun ⟨_, e⟩ => he e)]
theorem set_f (s : List Pr) (p : Pr) (k : Nat) (hl : s.length ≤ 1000000) (hk : s.length < k) : ∃ fl, footbridgeref09_Set.f k s p.f0 p.f1 = some (setP s p, fl) := by
  have hle := atM_le p.f0.toList s
  rw [set_at]
  unfold footbridgeref09_Set.f footbridgeref09_at.f
  rw [show footbridgeref09_at.l0 k s p.f0 0 = _ from at_l0 s p.f0 hl s.length k 0 (by omega) hk, Option.bind_some, List.drop_zero, Nat.zero_add]
  generalize hT : atM p.f0.toList s = t at hle ⊢
  have ht : (s.take t).length ≤ s.length := by rw [List.length_take]; omega
  have hd : (s.drop t).length ≤ s.length := by rw [List.length_drop]; omega
  have hd1 : (s.drop (t + 1)).length ≤ s.length := by rw [List.length_drop]; omega
  have hw : wrap64 ((t : Int) + 1) = ((t + 1 : Nat) : Int) := w1 t s.length hle (by omega)
  by_cases hte : t = s.length
  · rw [if_pos (by omega), if_pos (by omega), if_pos (by omega), Option.bind_some, Int.toNat_natCast, Option.bind_some, if_pos (by simp only [List.length_nil]; omega), Option.bind_some, List.nil_append, if_pos (by omega), Option.bind_some, if_pos (by rw [List.length_append]; simp only [List.length_nil, List.length_cons]; omega), if_neg (fun ⟨h, _⟩ => by omega)]
    exact ⟨_, rfl⟩
  · have hlt : t < s.length := by omega
    rw [if_neg (by omega), if_pos (by omega), if_pos (by omega), if_pos (by omega), Option.bind_some, rdP s t hlt]
    by_cases he : s[t].f0.toList = p.f0.toList
    · rw [if_neg (fun h => h he), hw, if_pos (by omega), if_pos (by omega), Option.bind_some, Int.toNat_natCast, Int.toNat_natCast, Option.bind_some, if_pos (by simp only [List.length_nil]; omega), Option.bind_some, List.nil_append, if_pos (by omega), Option.bind_some, if_pos (by rw [List.length_append]; simp only [List.length_nil, List.length_cons]; omega), if_pos ⟨hlt, he⟩]
      exact ⟨_, rfl⟩
    · rw [if_pos he, Int.toNat_natCast, Option.bind_some, if_pos (by simp only [List.length_nil]; omega), Option.bind_some, List.nil_append, if_pos (by omega), Option.bind_some, if_pos (by rw [List.length_append]; simp only [List.length_nil, List.length_cons]; omega), if_neg (fun ⟨_, e⟩ => he e)]
      exact ⟨_, rfl⟩
theorem put14_f (s : List Pr) (p : Pr) (k : Nat) (hl : s.length ≤ 1000000) (hk : s.length < k) : footbridgeref14_Put.f k s p.f0 p.f1 = some (setP s p) := by
  obtain ⟨fl, h⟩ := set_f s p k hl hk
  unfold footbridgeref14_Put.f
  rw [h]
  rfl
theorem del_f (s : List Pr) (key : ByteArray) (k : Nat) (hl : s.length ≤ 1000000) (hk : s.length < k) : ∃ r fl, footbridgeref09_Del.f k s key = some (r, fl) ∧ ((fl = true ∧ delP s key.toList = some r) ∨ (fl = false ∧ delP s key.toList = none)) := by
  have hle := atM_le key.toList s
  rw [del_at]
  unfold footbridgeref09_Del.f footbridgeref09_at.f
  rw [show footbridgeref09_at.l0 k s key 0 = _ from at_l0 s key hl s.length k 0 (by omega) hk, Option.bind_some, List.drop_zero, Nat.zero_add]
  generalize hT : atM key.toList s = t at hle ⊢
  have ht : (s.take t).length ≤ s.length := by rw [List.length_take]; omega
  have hd1 : (s.drop (t + 1)).length ≤ s.length := by rw [List.length_drop]; omega
  have hw : wrap64 ((t : Int) + 1) = ((t + 1 : Nat) : Int) := w1 t s.length hle (by omega)
  by_cases hte : t = s.length
  · rw [if_pos (by omega), if_neg (fun ⟨h, _⟩ => by omega)]
    exact ⟨_, _, rfl, Or.inr ⟨rfl, rfl⟩⟩
  · have hlt : t < s.length := by omega
    rw [if_neg (by omega), if_pos (by omega), if_pos (by omega), rdP s t hlt]
    by_cases he : s[t].f0.toList = key.toList
    · rw [if_pos he, if_pos (by omega), Int.toNat_natCast, Option.bind_some, if_pos (by simp only [List.length_nil]; omega), Option.bind_some, List.nil_append, hw, if_pos (by omega), if_pos (by omega), Option.bind_some, Int.toNat_natCast, if_pos (by omega), if_pos ⟨hlt, he⟩]
      exact ⟨_, _, rfl, Or.inl ⟨rfl, rfl⟩⟩
    · rw [if_neg he, if_neg (fun ⟨_, e⟩ => he e)]
      exact ⟨_, _, rfl, Or.inr ⟨rfl, rfl⟩⟩
theorem len_set (p : Pr) : ∀ (s : List Pr), (setP s p).length ≤ s.length + 1 := by
  intro s
  induction s with
  | nil => exact Nat.le_refl _
  | cons x s ih =>
    rw [setP]
    split
    · simp only [List.length_cons]; omega
    · split <;> simp
theorem len_del (key : List UInt8) : ∀ (s r : List Pr), delP s key = some r → r.length ≤ s.length := by
  intro s
  induction s with
  | nil => intro r h; cases h
  | cons x s ih =>
    intro r h
    rw [delP] at h
    split at h
    · obtain ⟨q, hq, rfl⟩ := Option.map_eq_some_iff.mp h
      have := ih q hq
      simp only [List.length_cons]
      omega
    · split at h
      · obtain rfl := Option.some.inj h
        simp
      · cases h
theorem rap_l0 (l : List Ch) (hl : l.length ≤ 100000) : ∀ (d k i : Nat) (s : List Pr), i + d = l.length → d + 300000 ≤ k → s.length ≤ 100000 + i →
    footbridgeref51_Apply.l0 k l s (i : Int) = some (match refAp s (l.drop i) with | some r => (r, 0) | none => ([], 8)) := by
  intro d
  induction d with
  | zero =>
    intro k i s hi hk hs
    obtain ⟨k, rfl⟩ : ∃ q, k = q + 1 := ⟨k - 1, by omega⟩
    rw [footbridgeref51_Apply.l0, if_neg (by omega), List.drop_eq_nil_of_le (by omega), refAp]
  | succ d ih =>
    intro k i s hi hk hs
    obtain ⟨k, rfl⟩ : ∃ q, k = q + 1 := ⟨k - 1, by omega⟩
    have hil : i < l.length := by omega
    rw [footbridgeref51_Apply.l0, if_pos (by omega), if_pos (by omega), rdC l i hil, w1 i l.length (by omega) (by omega), List.drop_eq_getElem_cons hil, refAp]
    generalize l[i] = c
    by_cases hg : c.f2 = true
    · rw [if_pos hg, if_pos hg]
      obtain ⟨r, fl, h1, h2⟩ := del_f s c.f0 k (by omega) (by omega)
      rw [h1, Option.bind_some]
      rcases h2 with ⟨rfl, h2⟩ | ⟨rfl, h2⟩
      · have hr := len_del _ _ _ h2
        rw [if_pos rfl, show delP s (keyC c) = some r from h2, Option.bind_some]
        exact ih k (i + 1) r (by omega) (by omega) (by omega)
      · rw [if_neg (show ¬ (false = true) by decide), show delP s (keyC c) = none from h2]
        rfl
    · rw [if_neg hg, if_neg hg, show footbridgeref14_Put.f k s c.f0 c.f1 = some (setP s ⟨c.f0, c.f1⟩) from put14_f s ⟨c.f0, c.f1⟩ k (by omega) (by omega), Option.bind_some]
      have := len_set ⟨c.f0, c.f1⟩ s
      exact ih k (i + 1) _ (by omega) (by omega) (by omega)
theorem rap_is (a : List Pr) (l : List Ch) (k : Nat) (hk : 400010 ≤ k) (ha : a.length ≤ 1000) (hl : l.length ≤ 1000) : footbridgeref51_Apply.f k a l = diff_Apply.f a l := by
  obtain ⟨k, rfl⟩ : ∃ q, k = q + 1 := ⟨k - 1, by omega⟩
  unfold footbridgeref51_Apply.f diff_Apply.f
  rw [rises_eq a (k + 1) (by omega) (by omega), Option.bind_some, if_pos (show a.length + l.length < 3518437208883 by omega)]
  cases hra : risP a (a.length - 1) with
  | false =>
    rw [if_neg (show ¬ (false = true) by decide), footbridgeref51_Apply.j0, if_pos rfl]
    try rfl
  | true =>
    rw [if_pos rfl, if_pos rfl, rfine_eq l (k + 1) (by omega) (by omega), Option.bind_some, footbridgeref51_Apply.j0]
    change _ = (if fineM l = true then _ else _)
    cases hf : fineM l with
    | false => rfl
    | true =>
      have ua := up_of keyP a ((risP_iff a).mp hra)
      have hc : risC l (l.length - 1) = true := by
        unfold fineM at hf
        rw [Bool.and_eq_true] at hf
        exact hf.1
      have ul := up_of keyC l ((risC_iff l).mp hc)
      rw [if_neg (show ¬ ((!true) = true) by decide), if_pos rfl, if_pos (by simp only [List.length_nil]; omega), List.nil_append, show footbridgeref51_Apply.l0 k l a 0 = _ from rap_l0 l (by omega) l.length k 0 a (by omega) (by omega) (by omega), List.drop_zero]
      rcases ap_ref (a.length + l.length) a l (Nat.le_refl _) ua ul with ⟨h1, h2⟩ | ⟨h1, h2⟩
      · rw [h2, if_pos h1]
      · rw [h2, h1, if_neg (show ¬ ((8 : Int) = 0) by decide)]
theorem DiffOf (a b : List Pr) (l : List Ch) : ∃ k, footbridgelaw51_DiffOf.f k a b l = some true := by
  obtain ⟨k, hk⟩ : ∃ k, 500000 ≤ k := ⟨500000, Nat.le_refl _⟩
  refine ⟨k + 1, ?_⟩
  obtain ⟨ba, hFa, hba⟩ := few51 a (k + 1) (by omega)
  obtain ⟨bb, hFb, hbb⟩ := few51 b (k + 1) (by omega)
  obtain ⟨bl, hFl, hbl⟩ := some51 l (k + 1) (by omega)
  have hA : ∀ x, x = true → footbridgelaw51_DiffOf.j0 (k + 1) a b l x = some true := by
    intro x hx
    rw [footbridgelaw51_DiffOf.j0, if_pos hx]
    rfl
  unfold footbridgelaw51_DiffOf.f
  rw [hFa, Option.bind_some]
  cases ba with
  | false =>
    rw [if_neg (by decide)]
    exact hA _ rfl
  | true =>
    rw [if_pos rfl, hFb, Option.bind_some]
    cases bb with
    | false =>
      rw [if_neg (by decide)]
      exact hA _ rfl
    | true =>
      rw [if_pos rfl, hFl, Option.bind_some]
      cases bl with
      | false => exact hA _ rfl
      | true =>
        obtain ⟨hla, _⟩ := hba rfl
        obtain ⟨hlb, _⟩ := hbb rfl
        obtain ⟨hll, _⟩ := hbl rfl
        have hO : ∃ r e, diff_Of.f a b = some (r, e) ∧ r.length ≤ 1000 := by
          unfold diff_Of.f
          rw [if_pos (by omega)]
          by_cases h1 : risP a (a.length - 1) = true
          · rw [if_pos h1]
            by_cases h2 : risP b (b.length - 1) = true
            · rw [if_pos h2]
              obtain ⟨_, _, le, _, _⟩ := of_facts (a.length + b.length) a b (Nat.le_refl _) (up_of keyP a ((risP_iff a).mp h1)) (up_of keyP b ((risP_iff b).mp h2))
              exact ⟨_, _, rfl, by omega⟩
            · rw [if_neg h2]
              exact ⟨_, _, rfl, by decide⟩
          · rw [if_neg h1]
            exact ⟨_, _, rfl, by decide⟩
        have hP : ∃ r e, diff_Apply.f a l = some (r, e) ∧ r.length ≤ 1000 := by
          unfold diff_Apply.f
          rw [if_pos (by omega)]
          by_cases h1 : risP a (a.length - 1) = true
          · rw [if_pos h1]
            by_cases h2 : (risC l (l.length - 1) && cleanC l l.length) = true
            · rw [if_pos h2]
              by_cases h3 : apE 0 a l = 0
              · rw [if_pos h3]
                have hc : risC l (l.length - 1) = true := by
                  rw [Bool.and_eq_true] at h2
                  exact h2.1
                rcases ap_ref (a.length + l.length) a l (Nat.le_refl _) (up_of keyP a ((risP_iff a).mp h1)) (up_of keyC l ((risC_iff l).mp hc)) with ⟨_, h4⟩ | ⟨h4, _⟩
                · have : (apM a l).length ≤ a.length + l.length := by
                    have key : ∀ (l : List Ch) (s r : List Pr), refAp s l = some r → r.length ≤ s.length + l.length := by
                      intro l
                      induction l with
                      | nil => intro s r h; obtain rfl := Option.some.inj h; simp
                      | cons c l ih =>
                        intro s r h
                        rw [refAp] at h
                        by_cases hg : c.f2 = true
                        · rw [if_pos hg] at h
                          obtain ⟨q, hq, h⟩ := Option.bind_eq_some_iff.mp h
                          have a1 := len_del _ _ _ hq
                          have a2 := ih q r h
                          simp only [List.length_cons]
                          omega
                        · rw [if_neg hg] at h
                          have a1 := len_set ⟨c.f0, c.f1⟩ s
                          have a2 := ih _ r h
                          simp only [List.length_cons]
                          omega
                    exact key l a _ h4
                  exact ⟨_, _, rfl, by omega⟩
                · rw [h4] at h3
                  exact absurd h3 (by decide)
              · rw [if_neg h3]
                exact ⟨_, _, rfl, by decide⟩
            · rw [if_neg h2]
              exact ⟨_, _, rfl, by decide⟩
          · rw [if_neg h1]
            exact ⟨_, _, rfl, by decide⟩
        obtain ⟨r, e, h1, h2⟩ := hO
        obtain ⟨r', e', h3, h4⟩ := hP
        have g1 := (rof_is a b k (by omega) (by omega) (by omega)).trans h1
        have g2 := (rap_is a l k (by omega) (by omega) (by omega)).trans h3
        rw [footbridgelaw51_DiffOf.j0, if_neg (by decide), h1, g1, h3, g2]
        simp only [Option.bind_some]
        rw [same51 r k (by omega) (by omega), Option.bind_some, if_pos rfl, if_pos trivial, same09 r' k (by omega) (by omega), Option.bind_some, if_pos rfl, if_pos trivial]
        rfl
end Go.Proofs.Ytipgldfbjlhpoab.Pure
