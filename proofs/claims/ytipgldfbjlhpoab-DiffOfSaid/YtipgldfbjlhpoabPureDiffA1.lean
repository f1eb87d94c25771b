/- What has changed, by membership; changes applied one by one: in plain words. -/
import Derived.Test.YtipgldfbjlhpoabPureDiffB1
namespace Go.Proofs.Ytipgldfbjlhpoab.Pure
set_option linter.unusedVariables false
set_option linter.unusedSimpArgs false
open Go.RowKit Go.Proofs.Ytipgldfbjlhpoab.P
theorem up_ext {α : Type} (key : α → List UInt8) : ∀ (l1 l2 : List α), Up key l1 → Up key l2 → (∀ c, c ∈ l1 ↔ c ∈ l2) → l1 = l2 := by
  intro l1
  induction l1 with
  | nil =>
    intro l2 _ _ h
    cases l2 with
    | nil => rfl
    | cons c l2 => exact absurd ((h c).mpr (by simp)) (by simp)
  | cons x l1 ih =>
    intro l2 h1 h2 h
    cases l2 with
    | nil => exact absurd ((h x).mp (by simp)) (by simp)
    | cons y l2 =>
      have hxy : x = y := by
        rcases List.mem_cons.mp ((h x).mp (by simp)) with e | hx
        · exact e
        · rcases List.mem_cons.mp ((h y).mpr (by simp)) with e | hy
          · exact e.symm
          · have a := h2.1 x hx
            have b := h1.1 y hy
            rw [less_asymm a] at b
            cases b
      subst hxy
      rw [ih l2 h1.2 h2.2 (fun c => ?_)]
      constructor
      · intro hc
        rcases List.mem_cons.mp ((h c).mp (by simp [hc])) with rfl | e
        · have := h1.1 c hc
          rw [less_irrefl] at this
          cases this
        · exact e
      · intro hc
        rcases List.mem_cons.mp ((h c).mpr (by simp [hc])) with rfl | e
        · have := h2.1 c hc
          rw [less_irrefl] at this
          cases this
        · exact e
theorem up_uniq {α : Type} (key : α → List UInt8) : ∀ (l : List α), Up key l → ∀ x ∈ l, ∀ y ∈ l, key x = key y → x = y := by
  intro l
  induction l with
  | nil => intro _ x hx; cases hx
  | cons z l ih =>
    intro hu x hx y hy e
    rcases List.mem_cons.mp hx with h1 | h1
    · rcases List.mem_cons.mp hy with h2 | h2
      · rw [h1, h2]
      · have := hu.1 y h2
        rw [← h1, e, less_irrefl] at this
        cases this
    · rcases List.mem_cons.mp hy with h2 | h2
      · have := hu.1 x h1
        rw [← h2, e, less_irrefl] at this
        cases this
      · exact ih hu.2 x h1 y h2 e
/-- What is told as changed. -/
def Want (a b : List Pr) (c : Ch) : Prop := (∃ x ∈ a, c = ⟨x.f0, ⟨#[]⟩, true⟩ ∧ ∀ y ∈ b, y.f0 ≠ x.f0) ∨ (∃ y ∈ b, c = ⟨y.f0, y.f1, false⟩ ∧ ∀ x ∈ a, x.f0 = y.f0 → x.f1 ≠ y.f1)
theorem ne_of_less {x y : ByteArray} (h : Op.bytesLess x.toList y.toList = true) : x ≠ y := by
  rintro rfl
  rw [less_irrefl] at h
  cases h
theorem of_want : ∀ (n : Nat) (a b : List Pr), a.length + b.length ≤ n → Up keyP a → Up keyP b → ∀ c, c ∈ ofM a b ↔ Want a b c := by
  intro n
  induction n with
  | zero =>
    intro a b hn ha hb c
    obtain rfl : a = [] := List.length_eq_zero_iff.mp (by omega)
    obtain rfl : b = [] := List.length_eq_zero_iff.mp (by omega)
    rw [ofM]
    simp [Want]
  | succ n ih =>
    intro a b hn ha hb c
    cases a with
    | nil =>
      cases b with
      | nil =>
        rw [ofM]
        simp [Want]
      | cons y b =>
        rw [ofM, List.mem_cons, ih [] b (by simp at hn ⊢; omega) trivial hb.2 c]
        simp [Want]
    | cons x a =>
      cases b with
      | nil =>
        rw [ofM, List.mem_cons, ih a [] (by simp at hn ⊢; omega) ha.2 trivial c]
        simp [Want]
      | cons y b =>
        by_cases hxy : Op.bytesLess x.f0.toList y.f0.toList = true
        · have hx : ∀ z ∈ y :: b, z.f0 ≠ x.f0 := by
            intro z hz
            rcases List.mem_cons.mp hz with rfl | hz
            · exact (ne_of_less hxy).symm
            · exact (ne_of_less (less_trans _ _ _ hxy (hb.1 z hz))).symm
          rw [ofM, if_pos hxy, List.mem_cons, ih a (y :: b) (by simp at hn ⊢; omega) ha.2 hb c]
          constructor
          · rintro (rfl | ⟨z, hz, h1, h2⟩ | ⟨z, hz, h1, h2⟩)
            · exact Or.inl ⟨x, by simp, rfl, hx⟩
            · exact Or.inl ⟨z, by simp [hz], h1, h2⟩
            · refine Or.inr ⟨z, hz, h1, fun u hu e => ?_⟩
              rcases List.mem_cons.mp hu with rfl | hu
              · exact absurd e.symm (hx z hz)
              · exact h2 u hu e
          · rintro (⟨z, hz, h1, h2⟩ | ⟨z, hz, h1, h2⟩)
            · rcases List.mem_cons.mp hz with rfl | hz
              · exact Or.inl h1
              · exact Or.inr (Or.inl ⟨z, hz, h1, h2⟩)
            · exact Or.inr (Or.inr ⟨z, hz, h1, fun u hu e => h2 u (by simp [hu]) e⟩)
        · by_cases hyx : Op.bytesLess y.f0.toList x.f0.toList = true
          · have hy : ∀ z ∈ x :: a, z.f0 ≠ y.f0 := by
              intro z hz
              rcases List.mem_cons.mp hz with rfl | hz
              · exact (ne_of_less hyx).symm
              · exact (ne_of_less (less_trans _ _ _ hyx (ha.1 z hz))).symm
            rw [ofM, if_neg hxy, if_pos hyx, List.mem_cons, ih (x :: a) b (by simp at hn ⊢; omega) ha hb.2 c]
            constructor
            · rintro (rfl | ⟨z, hz, h1, h2⟩ | ⟨z, hz, h1, h2⟩)
              · exact Or.inr ⟨y, by simp, rfl, fun u hu e => absurd e (hy u hu)⟩
              · refine Or.inl ⟨z, hz, h1, fun u hu => ?_⟩
                rcases List.mem_cons.mp hu with rfl | hu
                · exact (hy z hz).symm
                · exact h2 u hu
              · exact Or.inr ⟨z, by simp [hz], h1, h2⟩
            · rintro (⟨z, hz, h1, h2⟩ | ⟨z, hz, h1, h2⟩)
              · exact Or.inr (Or.inl ⟨z, hz, h1, fun u hu => h2 u (by simp [hu])⟩)
              · rcases List.mem_cons.mp hz with rfl | hz
                · exact Or.inl h1
                · exact Or.inr (Or.inr ⟨z, hz, h1, h2⟩)
          · have hk : x.f0 = y.f0 := toList_inj (less_tri _ _ (Bool.eq_false_iff.mpr hxy) (Bool.eq_false_iff.mpr hyx))
            have hxb : ∀ z ∈ b, z.f0 ≠ x.f0 := fun z hz => by rw [hk]; exact (ne_of_less (hb.1 z hz)).symm
            have hya : ∀ z ∈ a, z.f0 ≠ y.f0 := fun z hz => by rw [← hk]; exact (ne_of_less (ha.1 z hz)).symm
            have hmid : Want (x :: a) (y :: b) c ↔ ((c = ⟨y.f0, y.f1, false⟩ ∧ x.f1 ≠ y.f1) ∨ Want a b c) := by
              constructor
              · rintro (⟨z, hz, h1, h2⟩ | ⟨z, hz, h1, h2⟩)
                · rcases List.mem_cons.mp hz with rfl | hz
                  · exact absurd hk.symm (h2 y (by simp))
                  · exact Or.inr (Or.inl ⟨z, hz, h1, fun u hu => h2 u (by simp [hu])⟩)
                · rcases List.mem_cons.mp hz with rfl | hz
                  · exact Or.inl ⟨h1, h2 x (by simp) hk⟩
                  · exact Or.inr (Or.inr ⟨z, hz, h1, fun u hu => h2 u (by simp [hu])⟩)
              · rintro (⟨h1, h2⟩ | ⟨z, hz, h1, h2⟩ | ⟨z, hz, h1, h2⟩)
                · refine Or.inr ⟨y, by simp, h1, fun u hu e => ?_⟩
                  rcases List.mem_cons.mp hu with rfl | hu
                  · exact h2
                  · exact absurd e (hya u hu)
                · refine Or.inl ⟨z, by simp [hz], h1, fun u hu => ?_⟩
                  rcases List.mem_cons.mp hu with rfl | hu
                  · exact (hya z hz).symm
                  · exact h2 u hu
                · refine Or.inr ⟨z, by simp [hz], h1, fun u hu e => ?_⟩
                  rcases List.mem_cons.mp hu with rfl | hu
                  · exact absurd e.symm (hxb z hz)
                  · exact h2 u hu e
            rw [ofM, if_neg hxy, if_neg hyx, List.mem_append, ih a b (by simp at hn ⊢; omega) ha.2 hb.2 c, hmid]
            by_cases hv : x.f1.toList = y.f1.toList
            · have hv2 := toList_inj hv
              simp [hv, hv2]
            · have hv2 : x.f1 ≠ y.f1 := fun e => hv (by rw [e])
              simp [hv, hv2]
def insC : List Ch → Ch → List Ch
  | [], c => [c]
  | d :: l, c => if Op.bytesLess (keyC d) (keyC c) = true then d :: insC l c else c :: d :: l
theorem mem_ins (c : Ch) : ∀ (l : List Ch) (d : Ch), d ∈ insC l c ↔ d = c ∨ d ∈ l := by
  intro l
  induction l with
  | nil => intro d; simp [insC]
  | cons e l ih =>
    intro d
    rw [insC]
    split
    · rw [List.mem_cons, ih, List.mem_cons]
      constructor
      · rintro (h | h | h)
        · exact Or.inr (Or.inl h)
        · exact Or.inl h
        · exact Or.inr (Or.inr h)
      · rintro (h | h | h)
        · exact Or.inr (Or.inl h)
        · exact Or.inl h
        · exact Or.inr (Or.inr h)
    · rw [List.mem_cons]
theorem up_ins (c : Ch) : ∀ (l : List Ch), Up keyC l → (∀ d ∈ l, keyC d ≠ keyC c) → Up keyC (insC l c) := by
  intro l
  induction l with
  | nil => intro _ _; exact ⟨fun y hy => (by cases hy), trivial⟩
  | cons e l ih =>
    intro hu hn
    rw [insC]
    by_cases h : Op.bytesLess (keyC e) (keyC c) = true
    · rw [if_pos h]
      refine ⟨fun y hy => ?_, ih hu.2 (fun d hd => hn d (by simp [hd]))⟩
      rcases (mem_ins c l y).mp hy with rfl | hy
      · exact h
      · exact hu.1 y hy
    · rw [if_neg h]
      have hce : Op.bytesLess (keyC c) (keyC e) = true := by
        rw [← Bool.not_eq_false]
        intro h2
        exact hn e (by simp) (less_tri _ _ (Bool.eq_false_iff.mpr h) h2)
      refine ⟨fun y hy => ?_, hu⟩
      rcases List.mem_cons.mp hy with rfl | hy
      · exact hce
      · exact less_trans _ _ _ hce (hu.1 y hy)
theorem len_ins (c : Ch) : ∀ (l : List Ch), (insC l c).length = l.length + 1 := by
  intro l
  induction l with
  | nil => rfl
  | cons e l ih =>
    rw [insC]
    split
    · simp [ih]
    · simp
/-! Changes applied one by one -/
def setP : List Pr → Pr → List Pr
  | [], p => [p]
  | x :: s, p => if Op.bytesLess (keyP x) (keyP p) = true then x :: setP s p else if x.f0.toList = p.f0.toList then p :: s else p :: x :: s
def delP : List Pr → List UInt8 → Option (List Pr)
  | [], _ => none
  | x :: s, key => if Op.bytesLess (keyP x) key = true then (delP s key).map (x :: ·) else if keyP x = key then some s else none
def refAp : List Pr → List Ch → Option (List Pr)
  | s, [] => some s
  | s, c :: l => if c.f2 = true then (delP s (keyC c)).bind (refAp · l) else refAp (setP s ⟨c.f0, c.f1⟩) l
theorem ref_skip (x : Pr) : ∀ (l : List Ch) (s : List Pr), (∀ c ∈ l, Op.bytesLess (keyP x) (keyC c) = true) → refAp (x :: s) l = (refAp s l).map (x :: ·) := by
  intro l
  induction l with
  | nil => intro s _; rfl
  | cons c l ih =>
    intro s h
    have hc := h c (by simp)
    have hl := fun s => ih s (fun d hd => h d (by simp [hd]))
    rw [refAp, refAp]
    by_cases hg : c.f2 = true
    · rw [if_pos hg, if_pos hg, delP, if_pos hc]
      cases delP s (keyC c) with
      | none => rfl
      | some s2 => exact hl s2
    · rw [if_neg hg, if_neg hg, setP, if_pos (show Op.bytesLess (keyP x) (keyP ⟨c.f0, c.f1⟩) = true from hc)]
      exact hl _
theorem apE_eight : ∀ (n : Nat) (a : List Pr) (l : List Ch), a.length + l.length ≤ n → apE 8 a l = 8 := by
  intro n
  induction n with
  | zero =>
    intro a l hn
    obtain rfl : a = [] := List.length_eq_zero_iff.mp (by omega)
    obtain rfl : l = [] := List.length_eq_zero_iff.mp (by omega)
    rw [apE]
  | succ n ih =>
    intro a l hn
    cases a with
    | nil =>
      cases l with
      | nil => rw [apE]
      | cons c l => rw [apE, ite_self]; exact ih [] l (by simp at hn ⊢; omega)
    | cons x a =>
      cases l with
      | nil => rw [apE]; exact ih a [] (by simp at hn ⊢; omega)
      | cons c l =>
        rw [apE, ite_self]
        split
        · exact ih a (c :: l) (by simp at hn ⊢; omega)
        · split
          · exact ih (x :: a) l (by simp at hn ⊢; omega)
          · exact ih a l (by simp at hn ⊢; omega)
theorem ap_ref : ∀ (n : Nat) (a : List Pr) (l : List Ch), a.length + l.length ≤ n → Up keyP a → Up keyC l →
    (apE 0 a l = 0 ∧ refAp a l = some (apM a l)) ∨ (apE 0 a l = 8 ∧ refAp a l = none) := by
  intro n
  induction n with
  | zero =>
    intro a l hn ha hl
    obtain rfl : a = [] := List.length_eq_zero_iff.mp (by omega)
    obtain rfl : l = [] := List.length_eq_zero_iff.mp (by omega)
    rw [apE, apM]
    exact Or.inl ⟨rfl, rfl⟩
  | succ n ih =>
    intro a l hn ha hl
    cases a with
    | nil =>
      cases l with
      | nil =>
        rw [apE, apM]
        exact Or.inl ⟨rfl, rfl⟩
      | cons c l =>
        rw [apE, apM, refAp]
        by_cases hg : c.f2 = true
        · rw [if_pos hg, if_pos hg]
          exact Or.inr ⟨apE_eight _ _ _ (Nat.le_refl _), rfl⟩
        · rw [if_neg hg, if_neg hg, putC, if_neg hg, setP, ref_skip ⟨c.f0, c.f1⟩ l [] hl.1]
          rcases ih [] l (by simp at hn ⊢; omega) trivial hl.2 with ⟨h1, h2⟩ | ⟨h1, h2⟩
          · exact Or.inl ⟨h1, by rw [h2]; rfl⟩
          · exact Or.inr ⟨h1, by rw [h2]; rfl⟩
    | cons x a =>
      cases l with
      | nil =>
        rw [apE, apM, ref_skip x [] a (fun c hc => by cases hc)]
        rcases ih a [] (by simp at hn ⊢; omega) ha.2 trivial with ⟨h1, h2⟩ | ⟨h1, h2⟩
        · exact Or.inl ⟨h1, by rw [h2]; rfl⟩
        · exact Or.inr ⟨h1, by rw [h2]; rfl⟩
      | cons c l =>
        by_cases hxc : Op.bytesLess x.f0.toList c.f0.toList = true
        · rw [apE, apM, if_pos hxc, if_pos hxc, ref_skip x (c :: l) a (fun d hd => ?_)]
          · rcases ih a (c :: l) (by simp at hn ⊢; omega) ha.2 hl with ⟨h1, h2⟩ | ⟨h1, h2⟩
            · exact Or.inl ⟨h1, by rw [h2]; rfl⟩
            · exact Or.inr ⟨h1, by rw [h2]; rfl⟩
          · rcases List.mem_cons.mp hd with rfl | hd
            · exact hxc
            · exact less_trans _ _ _ hxc (hl.1 d hd)
        · by_cases hcx : Op.bytesLess c.f0.toList x.f0.toList = true
          · have hne : ¬ x.f0.toList = c.f0.toList := fun e => by
              rw [e, less_irrefl] at hcx
              cases hcx
            rw [apE, apM, if_neg hxc, if_neg hxc, if_pos hcx, if_pos hcx, refAp]
            by_cases hg : c.f2 = true
            · rw [if_pos hg, if_pos hg, delP, if_neg (show ¬ Op.bytesLess (keyP x) (keyC c) = true from hxc), if_neg (show ¬ keyP x = keyC c from hne)]
              exact Or.inr ⟨apE_eight _ _ _ (Nat.le_refl _), rfl⟩
            · rw [if_neg hg, if_neg hg, putC, if_neg hg, setP, if_neg (show ¬ Op.bytesLess (keyP x) (keyP ⟨c.f0, c.f1⟩) = true from hxc), if_neg hne, ref_skip ⟨c.f0, c.f1⟩ l (x :: a) hl.1]
              rcases ih (x :: a) l (by simp at hn ⊢; omega) ha hl.2 with ⟨h1, h2⟩ | ⟨h1, h2⟩
              · exact Or.inl ⟨h1, by rw [h2]; rfl⟩
              · exact Or.inr ⟨h1, by rw [h2]; rfl⟩
          · have hk : x.f0.toList = c.f0.toList := less_tri _ _ (Bool.eq_false_iff.mpr hxc) (Bool.eq_false_iff.mpr hcx)
            rw [apE, apM, if_neg hxc, if_neg hxc, if_neg hcx, if_neg hcx, refAp]
            by_cases hg : c.f2 = true
            · rw [if_pos hg, putC, if_pos hg, delP, if_neg (show ¬ Op.bytesLess (keyP x) (keyC c) = true from hxc), if_pos (show keyP x = keyC c from hk)]
              exact ih a l (by simp at hn ⊢; omega) ha.2 hl.2
            · rw [if_neg hg, putC, if_neg hg, setP, if_neg (show ¬ Op.bytesLess (keyP x) (keyP ⟨c.f0, c.f1⟩) = true from hxc), if_pos hk, ref_skip ⟨c.f0, c.f1⟩ l a hl.1]
              rcases ih a l (by simp at hn ⊢; omega) ha.2 hl.2 with ⟨h1, h2⟩ | ⟨h1, h2⟩
              · exact Or.inl ⟨h1, by rw [h2]; rfl⟩
              · exact Or.inr ⟨h1, by rw [h2]; rfl⟩
end Go.Proofs.Ytipgldfbjlhpoab.Pure
