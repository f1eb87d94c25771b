/- What has changed between two lists that rise: it rises, tells no key with equal values, and applied to the first gives the second. -/
import Derived.Test.YtipgldfbjlhpoabPureOrd
import Derived.Test.YtipgldfbjlhpoabHDOf
import Derived.Test.YtipgldfbjlhpoabHDApply
namespace Go.Proofs.Ytipgldfbjlhpoab.Pure
set_option linter.unusedVariables false
set_option linter.unusedSimpArgs false
open Go.RowKit Go.Proofs.Ytipgldfbjlhpoab.P
abbrev Pr := S86
abbrev Ch := S62
def keyP (x : Pr) : List UInt8 := x.f0.toList
def keyC (x : Ch) : List UInt8 := x.f0.toList
/-- What a change of a to b may be. -/
def Fit (a b : List Pr) (c : Ch) : Prop := (c.f2 = true ∧ c.f1 = ⟨#[]⟩ ∧ ∃ x ∈ a, x.f0 = c.f0) ∨ (c.f2 = false ∧ (∃ y ∈ b, y.f0 = c.f0 ∧ y.f1 = c.f1) ∧ ∀ x ∈ a, x.f0.toList = c.f0.toList → x.f1.toList ≠ c.f1.toList)
theorem Fit.key {a b : List Pr} {c : Ch} (h : Fit a b c) : (∃ x ∈ a, keyP x = keyC c) ∨ (∃ y ∈ b, keyP y = keyC c) := by
  rcases h with ⟨_, _, x, hx, e⟩ | ⟨_, ⟨y, hy, e, _⟩, _⟩
  · exact Or.inl ⟨x, hx, by rw [keyP, keyC, e]⟩
  · exact Or.inr ⟨y, hy, by rw [keyP, keyC, e]⟩
theorem pair_ext {x y : Pr} (h0 : x.f0 = y.f0) (h1 : x.f1 = y.f1) : x = y := by
  cases x; cases y; simp_all
theorem ap_skip (x : Pr) (a : List Pr) (l : List Ch) (h : ∀ c ∈ l, Op.bytesLess (keyP x) (keyC c) = true) : apM (x :: a) l = x :: apM a l ∧ apE 0 (x :: a) l = apE 0 a l := by
  cases l with
  | nil => exact ⟨by rw [apM], by rw [apE]⟩
  | cons c l =>
    have this : Op.bytesLess x.f0.toList c.f0.toList = true := h c (by simp)
    exact ⟨by rw [apM, if_pos this], by rw [apE, if_pos this]⟩
theorem ap_same (x : Pr) (a : List Pr) (c : Ch) (l : List Ch) (h : x.f0 = c.f0) : apM (x :: a) (c :: l) = putC c ++ apM a l ∧ apE 0 (x :: a) (c :: l) = apE 0 a l := by
  have h1 : ¬ Op.bytesLess x.f0.toList c.f0.toList = true := by rw [h, less_irrefl]; decide
  have h2 : ¬ Op.bytesLess c.f0.toList x.f0.toList = true := by rw [h, less_irrefl]; decide
  exact ⟨by rw [apM, if_neg h1, if_neg h2], by rw [apE, if_neg h1, if_neg h2]⟩
theorem of_facts : ∀ (n : Nat) (a b : List Pr), a.length + b.length ≤ n → Up keyP a → Up keyP b →
    (∀ c ∈ ofM a b, Fit a b c) ∧ Up keyC (ofM a b) ∧ (ofM a b).length ≤ a.length + b.length ∧ apM a (ofM a b) = b ∧ apE 0 a (ofM a b) = 0 := by
  intro n
  induction n with
  | zero =>
    intro a b hn ha hb
    obtain rfl : a = [] := List.length_eq_zero_iff.mp (by omega)
    obtain rfl : b = [] := List.length_eq_zero_iff.mp (by omega)
    rw [ofM]
    exact ⟨fun c hc => (by cases hc), trivial, Nat.le_refl _, by rw [apM], by rw [apE]⟩
  | succ n ih =>
    intro a b hn ha hb
    cases a with
    | nil =>
      cases b with
      | nil =>
        rw [ofM]
        exact ⟨fun c hc => (by cases hc), trivial, Nat.le_refl _, by rw [apM], by rw [apE]⟩
      | cons y b =>
        obtain ⟨f, u, le, m, e⟩ := ih [] b (by simp at hn ⊢; omega) trivial hb.2
        rw [ofM]
        refine ⟨?_, ⟨?_, u⟩, by simp at le ⊢; omega, ?_, ?_⟩
        · intro c hc
          rcases List.mem_cons.mp hc with rfl | hc
          · exact Or.inr ⟨rfl, ⟨y, by simp, rfl, rfl⟩, fun x hx => by cases hx⟩
          · rcases f c hc with ⟨_, _, x, hx, _⟩ | ⟨g1, ⟨z, hz, g2⟩, _⟩
            · cases hx
            · exact Or.inr ⟨g1, ⟨z, by simp [hz], g2⟩, fun x hx => by cases hx⟩
        · intro c hc
          rcases (f c hc).key with ⟨x, hx, _⟩ | ⟨z, hz, e⟩
          · cases hx
          · rw [← e]; exact hb.1 z hz
        · rw [apM, m]
          rfl
        · rw [apE, if_neg (show ¬ (false = true) by decide)]
          exact e
    | cons x a =>
      cases b with
      | nil =>
        obtain ⟨f, u, le, m, e⟩ := ih a [] (by simp at hn ⊢; omega) ha.2 trivial
        rw [ofM]
        obtain ⟨s1, s2⟩ := ap_same x a ⟨x.f0, ⟨#[]⟩, true⟩ (ofM a []) rfl
        refine ⟨?_, ⟨?_, u⟩, by simp at le ⊢; omega, by rw [s1, m]; rfl, by rw [s2, e]⟩
        · intro c hc
          rcases List.mem_cons.mp hc with rfl | hc
          · exact Or.inl ⟨rfl, rfl, x, by simp, rfl⟩
          · rcases f c hc with ⟨g1, g2, z, hz, g3⟩ | ⟨_, ⟨z, hz, _⟩, _⟩
            · exact Or.inl ⟨g1, g2, z, by simp [hz], g3⟩
            · cases hz
        · intro c hc
          rcases (f c hc).key with ⟨z, hz, e⟩ | ⟨z, hz, _⟩
          · rw [← e]; exact ha.1 z hz
          · cases hz
      | cons y b =>
        by_cases hxy : Op.bytesLess x.f0.toList y.f0.toList = true
        · obtain ⟨f, u, le, m, e⟩ := ih a (y :: b) (by simp at hn ⊢; omega) ha.2 hb
          rw [ofM, if_pos hxy]
          obtain ⟨s1, s2⟩ := ap_same x a ⟨x.f0, ⟨#[]⟩, true⟩ (ofM a (y :: b)) rfl
          have hup : ∀ c ∈ ofM a (y :: b), Op.bytesLess (keyP x) (keyC c) = true := by
            intro c hc
            rcases (f c hc).key with ⟨z, hz, e⟩ | ⟨z, hz, e⟩
            · rw [← e]; exact ha.1 z hz
            · rw [← e]
              rcases List.mem_cons.mp hz with rfl | hz
              · exact hxy
              · exact less_trans _ _ _ hxy (hb.1 z hz)
          refine ⟨?_, ⟨hup, u⟩, by simp at le ⊢; omega, by rw [s1, m]; rfl, by rw [s2, e]⟩
          intro c hc
          rcases List.mem_cons.mp hc with rfl | hc
          · exact Or.inl ⟨rfl, rfl, x, by simp, rfl⟩
          · have hlt := hup c hc
            rcases f c hc with ⟨g1, g2, z, hz, g3⟩ | ⟨g1, g2, g3⟩
            · exact Or.inl ⟨g1, g2, z, by simp [hz], g3⟩
            · refine Or.inr ⟨g1, g2, fun z hz he => ?_⟩
              rcases List.mem_cons.mp hz with rfl | hz
              · exfalso
                rw [keyP, he, keyC, less_irrefl] at hlt
                cases hlt
              · exact g3 z hz he
        · by_cases hyx : Op.bytesLess y.f0.toList x.f0.toList = true
          · obtain ⟨f, u, le, m, e⟩ := ih (x :: a) b (by simp at hn ⊢; omega) ha hb.2
            rw [ofM, if_neg hxy, if_pos hyx]
            have hup : ∀ c ∈ ofM (x :: a) b, Op.bytesLess (keyP y) (keyC c) = true := by
              intro c hc
              rcases (f c hc).key with ⟨z, hz, e⟩ | ⟨z, hz, e⟩
              · rw [← e]
                rcases List.mem_cons.mp hz with rfl | hz
                · exact hyx
                · exact less_trans _ _ _ hyx (ha.1 z hz)
              · rw [← e]; exact hb.1 z hz
            refine ⟨?_, ⟨hup, u⟩, by simp at le ⊢; omega, ?_, ?_⟩
            · intro c hc
              rcases List.mem_cons.mp hc with rfl | hc
              · refine Or.inr ⟨rfl, ⟨y, by simp, rfl, rfl⟩, fun z hz he => ?_⟩
                exfalso
                have hlt : Op.bytesLess y.f0.toList z.f0.toList = true := by
                  rcases List.mem_cons.mp hz with rfl | hz
                  · exact hyx
                  · exact less_trans _ _ _ hyx (ha.1 z hz)
                rw [he, less_irrefl] at hlt
                cases hlt
              · rcases f c hc with ⟨g1, g2, g3⟩ | ⟨g1, ⟨z, hz, g2⟩, g3⟩
                · exact Or.inl ⟨g1, g2, g3⟩
                · exact Or.inr ⟨g1, ⟨z, by simp [hz], g2⟩, g3⟩
            · rw [apM, if_neg hxy, if_pos hyx, m]
              rfl
            · rw [apE, if_neg hxy, if_pos hyx, if_neg (show ¬ (false = true) by decide)]
              exact e
          · have hk : x.f0 = y.f0 := toList_inj (less_tri _ _ (Bool.eq_false_iff.mpr hxy) (Bool.eq_false_iff.mpr hyx))
            obtain ⟨f, u, le, m, e⟩ := ih a b (by simp at hn ⊢; omega) ha.2 hb.2
            rw [ofM, if_neg hxy, if_neg hyx]
            have hup : ∀ c ∈ ofM a b, Op.bytesLess (keyP x) (keyC c) = true := by
              intro c hc
              rcases (f c hc).key with ⟨z, hz, e⟩ | ⟨z, hz, e⟩
              · rw [← e]; exact ha.1 z hz
              · rw [← e, keyP, hk]; exact hb.1 z hz
            have hfit : ∀ c ∈ ofM a b, Fit (x :: a) (y :: b) c := by
              intro c hc
              have hlt := hup c hc
              rcases f c hc with ⟨g1, g2, z, hz, g3⟩ | ⟨g1, ⟨z, hz, g2⟩, g3⟩
              · exact Or.inl ⟨g1, g2, z, by simp [hz], g3⟩
              · refine Or.inr ⟨g1, ⟨z, by simp [hz], g2⟩, fun z hz he => ?_⟩
                rcases List.mem_cons.mp hz with rfl | hz
                · exfalso
                  rw [keyP, he, keyC, less_irrefl] at hlt
                  cases hlt
                · exact g3 z hz he
            by_cases hv : x.f1.toList = y.f1.toList
            · rw [if_pos hv, List.nil_append]
              obtain ⟨s1, s2⟩ := ap_skip x a (ofM a b) hup
              refine ⟨hfit, u, by simp at le ⊢; omega, ?_, by rw [s2, e]⟩
              rw [s1, m, pair_ext hk (toList_inj hv)]
            · rw [if_neg hv, List.cons_append, List.nil_append]
              obtain ⟨s1, s2⟩ := ap_same x a ⟨y.f0, y.f1, false⟩ (ofM a b) hk
              refine ⟨?_, ⟨?_, u⟩, by simp at le ⊢; omega, by rw [s1, m]; rfl, by rw [s2, e]⟩
              · intro c hc
                rcases List.mem_cons.mp hc with rfl | hc
                · refine Or.inr ⟨rfl, ⟨y, by simp, rfl, rfl⟩, fun z hz he => ?_⟩
                  rcases List.mem_cons.mp hz with rfl | hz
                  · exact hv
                  · exfalso
                    have hlt := ha.1 z hz
                    rw [keyP, keyP, he, hk, less_irrefl] at hlt
                    cases hlt
                · exact hfit c hc
              · intro c hc
                have := hup c hc
                rw [keyP, hk] at this
                exact this
end Go.Proofs.Ytipgldfbjlhpoab.Pure
