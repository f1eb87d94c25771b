/- The document's Of and Apply: in the plain words of PureDiffA1. -/
import Derived.Test.YtipgldfbjlhpoabPureDiffA1
import Derived.Test.YtipgldfbjlhpoabPureDiffB3
import Derived.Test.YtipgldfbjlhpoabPR51O
import Derived.Test.YtipgldfbjlhpoabPR51
namespace Go.Proofs.Ytipgldfbjlhpoab.Pure
set_option linter.unusedVariables false
set_option linter.unusedSimpArgs false
open Go.RowKit Go.Proofs.Ytipgldfbjlhpoab.P Go.Proofs.Ytipgldfbjlhpoab.Wire Go.Proofs.Ytipgldfbjlhpoab.Sha Go.Proofs.YtipgldfbjlhpoabW.PrintWords Go.Proofs.YtipgldfbjlhpoabW.PrintLast
theorem up_drop {α : Type} (key : α → List UInt8) : ∀ (l : List α) (i : Nat), Up key l → Up key (l.drop i) := by
  intro l
  induction l with
  | nil => intro i h; rw [List.drop_nil]; exact trivial
  | cons x l ih =>
    intro i h
    cases i with
    | zero => exact h
    | succ i => exact ih i h.2
theorem put_l0 (l : List Ch) (c : Ch) (hl : l.length ≤ 1000000) : ∀ (d k i : Nat), i + d = l.length → d < k → footbridgeref51_put.l0 k l (i : Int) c.f0 c.f1 c.f2 = some (l.take i ++ insC (l.drop i) c) := by
  intro d
  induction d with
  | zero =>
    intro k i hi hk
    obtain ⟨k, rfl⟩ : ∃ q, k = q + 1 := ⟨k - 1, by omega⟩
    have ht : (l.take i).length ≤ l.length := by rw [List.length_take]; omega
    have hd : l.drop i = [] := List.drop_eq_nil_of_le (by omega)
    rw [footbridgeref51_put.l0, if_neg (by omega), if_pos (by omega), if_pos (by omega), Int.toNat_natCast, Option.bind_some, if_pos (by simp only [List.length_nil]; omega), Option.bind_some, List.nil_append, if_pos (by omega), Option.bind_some, hd, Option.bind_some, if_pos (by rw [List.length_append]; simp only [List.length_nil, List.length_cons]; omega), insC, List.append_nil]
  | succ d ih =>
    intro k i hi hk
    obtain ⟨k, rfl⟩ : ∃ q, k = q + 1 := ⟨k - 1, by omega⟩
    have hil : i < l.length := by omega
    have ht : (l.take i).length ≤ l.length := by rw [List.length_take]; omega
    have hd : (l.drop i).length ≤ l.length := by rw [List.length_drop]; omega
    rw [footbridgeref51_put.l0, if_pos (by omega), if_pos (by omega), rdC l i hil]
    by_cases hless : Op.bytesLess (l[i].f0.toList) c.f0.toList = true
    · rw [if_pos hless, w1 i l.length (by omega) (by omega), ih k (i + 1) (by omega) (by omega), List.drop_eq_getElem_cons hil, insC, if_pos (show Op.bytesLess (keyC l[i]) (keyC c) = true from hless), List.take_succ_eq_append_getElem hil, List.append_assoc]
      rfl
    · rw [if_neg hless, if_pos (by omega), Int.toNat_natCast, Option.bind_some, if_pos (by simp only [List.length_nil]; omega), Option.bind_some, List.nil_append, if_pos (by omega), Option.bind_some, Option.bind_some, if_pos (by rw [List.length_append]; simp only [List.length_nil, List.length_cons]; omega)]
      rw [List.append_assoc]
      rw [show insC (l.drop i) c = c :: l.drop i by rw [List.drop_eq_getElem_cons hil, insC, if_neg (show ¬ Op.bytesLess (keyC l[i]) (keyC c) = true from hless)]]
      rfl
theorem put_f (l : List Ch) (c : Ch) (k : Nat) (hl : l.length ≤ 1000000) (hk : l.length < k) : footbridgeref51_put.f k l c.f0 c.f1 c.f2 = some (insC l c) := by
  unfold footbridgeref51_put.f
  rw [show footbridgeref51_put.l0 k l 0 c.f0 c.f1 c.f2 = _ from put_l0 l c hl l.length k 0 (by omega) hk]
  rfl
theorem rof_l1 (a b : List Pr) (ha : Up keyP a) (hb : Up keyP b) (hla : a.length ≤ 1000) (hlb : b.length ≤ 1000) : ∀ (d k i : Nat) (out : List Ch), i + d = a.length → d + 5000 ≤ k → out.length ≤ 1000 + i → Up keyC out →
    (∀ e ∈ out, (∃ y ∈ b, keyP y = keyC e) ∨ (∀ x ∈ a.drop i, keyP x ≠ keyC e)) →
    ∃ r, footbridgeref51_Of.l1 k a b out (i : Int) = some (r, 0) ∧ Up keyC r ∧ (∀ c, c ∈ r ↔ c ∈ out ∨ ∃ x ∈ a.drop i, c = ⟨x.f0, ⟨#[]⟩, true⟩ ∧ ∀ y ∈ b, y.f0 ≠ x.f0) := by
  intro d
  induction d with
  | zero =>
    intro k i out hi hk ho hu hd
    obtain ⟨k, rfl⟩ : ∃ q, k = q + 1 := ⟨k - 1, by omega⟩
    rw [footbridgeref51_Of.l1, if_neg (by omega), List.drop_eq_nil_of_le (by omega)]
    exact ⟨out, rfl, hu, fun c => by simp⟩
  | succ d ih =>
    intro k i out hi hk ho hu hd
    obtain ⟨k, rfl⟩ : ∃ q, k = q + 1 := ⟨k - 1, by omega⟩
    have hil : i < a.length := by omega
    obtain ⟨v, ok, hg, h1, h2⟩ := get_is b a[i].f0 k (by omega) (by omega)
    have hud := up_drop keyP a i ha
    rw [List.drop_eq_getElem_cons hil] at hud hd
    rw [footbridgeref51_Of.l1, if_pos (by omega), if_pos (by omega), rdP a i hil, hg, Option.bind_some, w1 i a.length (by omega) (by omega)]
    dsimp only
    cases ok with
    | true =>
      rw [if_pos rfl]
      obtain ⟨r, e1, e2, e3⟩ := ih k (i + 1) out (by omega) (by omega) (by omega) hu (fun e he => by
        rcases hd e he with h | h
        · exact Or.inl h
        · exact Or.inr (fun x hx => h x (List.mem_cons_of_mem _ hx)))
      refine ⟨r, e1, e2, fun c => ?_⟩
      rw [e3 c, List.drop_eq_getElem_cons hil]
      constructor
      · rintro (h | ⟨x, hx, h⟩)
        · exact Or.inl h
        · exact Or.inr ⟨x, List.mem_cons_of_mem _ hx, h⟩
      · rintro (h | ⟨x, hx, h, h'⟩)
        · exact Or.inl h
        · rcases List.mem_cons.mp hx with rfl | hx
          · obtain ⟨y, hy, e, _⟩ := h1 rfl
            exact absurd (toList_inj e) (h' y hy)
          · exact Or.inr ⟨x, hx, h, h'⟩
    | false =>
      rw [if_neg (by decide)]
      have hno := h2 rfl hb
      have hne : ∀ e ∈ out, keyC e ≠ keyC (⟨a[i].f0, ⟨#[]⟩, true⟩ : Ch) := by
        intro e he hk
        rcases hd e he with ⟨y, hy, h⟩ | h
        · exact hno y hy (h.trans hk)
        · exact h a[i] List.mem_cons_self hk.symm
      rw [show footbridgeref51_put.f k out a[i].f0 ⟨#[]⟩ true = some (insC out ⟨a[i].f0, ⟨#[]⟩, true⟩) from put_f out ⟨a[i].f0, ⟨#[]⟩, true⟩ k (by omega) (by omega), Option.bind_some]
      obtain ⟨r, e1, e2, e3⟩ := ih k (i + 1) (insC out ⟨a[i].f0, ⟨#[]⟩, true⟩) (by omega) (by omega) (by rw [len_ins]; omega) (up_ins _ out hu hne) (fun e he => by
        rcases (mem_ins _ out e).mp he with rfl | he
        · exact Or.inr (fun x hx h => by
            have := hud.1 x hx
            rw [h, keyC, keyP, less_irrefl] at this
            cases this)
        · rcases hd e he with h | h
          · exact Or.inl h
          · exact Or.inr (fun x hx => h x (List.mem_cons_of_mem _ hx)))
      refine ⟨r, e1, e2, fun c => ?_⟩
      rw [e3 c, mem_ins, List.drop_eq_getElem_cons hil]
      constructor
      · rintro ((h | h) | ⟨x, hx, h⟩)
        · exact Or.inr ⟨a[i], List.mem_cons_self, h, fun y hy e => hno y hy (by rw [e])⟩
        · exact Or.inl h
        · exact Or.inr ⟨x, List.mem_cons_of_mem _ hx, h⟩
      · rintro (h | ⟨x, hx, h, h'⟩)
        · exact Or.inl (Or.inr h)
        · rcases List.mem_cons.mp hx with rfl | hx
          · exact Or.inl (Or.inl h)
          · exact Or.inr ⟨x, hx, h, h'⟩
theorem rof_l0 (a b : List Pr) (ha : Up keyP a) (hb : Up keyP b) (hla : a.length ≤ 1000) (hlb : b.length ≤ 1000) : ∀ (d k i : Nat) (out : List Ch), i + d = b.length → d + 8000 ≤ k → out.length ≤ i → Up keyC out →
    (∀ e ∈ out, (∃ y ∈ b, keyP y = keyC e) ∧ ∀ y ∈ b.drop i, keyP y ≠ keyC e) →
    ∃ r, footbridgeref51_Of.l0 k a b out (i : Int) = some (r, 0) ∧ Up keyC r ∧ (∀ c, c ∈ r ↔ (c ∈ out ∨ ∃ y ∈ b.drop i, c = ⟨y.f0, y.f1, false⟩ ∧ ∀ x ∈ a, x.f0 = y.f0 → x.f1 ≠ y.f1) ∨ ∃ x ∈ a, c = ⟨x.f0, ⟨#[]⟩, true⟩ ∧ ∀ y ∈ b, y.f0 ≠ x.f0) := by
  intro d
  induction d with
  | zero =>
    intro k i out hi hk ho hu hd
    obtain ⟨k, rfl⟩ : ∃ q, k = q + 1 := ⟨k - 1, by omega⟩
    obtain ⟨r, e1, e2, e3⟩ := rof_l1 a b ha hb hla hlb a.length k 0 out (by omega) (by omega) (by omega) hu (fun e he => Or.inl (hd e he).1)
    rw [footbridgeref51_Of.l0, if_neg (by omega), List.drop_eq_nil_of_le (by omega)]
    refine ⟨r, e1, e2, fun c => ?_⟩
    rw [e3 c, List.drop_zero]
    simp
  | succ d ih =>
    intro k i out hi hk ho hu hd
    obtain ⟨k, rfl⟩ : ∃ q, k = q + 1 := ⟨k - 1, by omega⟩
    have hil : i < b.length := by omega
    have hmem : b[i] ∈ b := List.getElem_mem hil
    obtain ⟨v, ok, hg, h1, h2⟩ := get_is a b[i].f0 k (by omega) (by omega)
    have hud := up_drop keyP b i hb
    rw [List.drop_eq_getElem_cons hil] at hud hd
    have hskip : (¬ ∀ x ∈ a, x.f0 = b[i].f0 → x.f1 ≠ b[i].f1) → ∃ r, footbridgeref51_Of.l0 k a b out ((i + 1 : Nat) : Int) = some (r, 0) ∧ Up keyC r ∧ (∀ c, c ∈ r ↔ (c ∈ out ∨ ∃ y ∈ b.drop i, c = ⟨y.f0, y.f1, false⟩ ∧ ∀ x ∈ a, x.f0 = y.f0 → x.f1 ≠ y.f1) ∨ ∃ x ∈ a, c = ⟨x.f0, ⟨#[]⟩, true⟩ ∧ ∀ y ∈ b, y.f0 ≠ x.f0) := by
      intro hn
      obtain ⟨r, e1, e2, e3⟩ := ih k (i + 1) out (by omega) (by omega) (by omega) hu (fun e he => ⟨(hd e he).1, fun y hy => (hd e he).2 y (List.mem_cons_of_mem _ hy)⟩)
      refine ⟨r, e1, e2, fun c => ?_⟩
      rw [e3 c, List.drop_eq_getElem_cons hil]
      constructor
      · rintro ((h | ⟨y, hy, h⟩) | h)
        · exact Or.inl (Or.inl h)
        · exact Or.inl (Or.inr ⟨y, List.mem_cons_of_mem _ hy, h⟩)
        · exact Or.inr h
      · rintro ((h | ⟨y, hy, h, h'⟩) | h)
        · exact Or.inl (Or.inl h)
        · rcases List.mem_cons.mp hy with rfl | hy
          · exact absurd h' hn
          · exact Or.inl (Or.inr ⟨y, hy, h, h'⟩)
        · exact Or.inr h
    have htake : (∀ x ∈ a, x.f0 = b[i].f0 → x.f1 ≠ b[i].f1) → ∃ r, ((footbridgeref51_put.f k out b[i].f0 b[i].f1 false).bind fun t => footbridgeref51_Of.l0 k a b t ((i + 1 : Nat) : Int)) = some (r, 0) ∧ Up keyC r ∧ (∀ c, c ∈ r ↔ (c ∈ out ∨ ∃ y ∈ b.drop i, c = ⟨y.f0, y.f1, false⟩ ∧ ∀ x ∈ a, x.f0 = y.f0 → x.f1 ≠ y.f1) ∨ ∃ x ∈ a, c = ⟨x.f0, ⟨#[]⟩, true⟩ ∧ ∀ y ∈ b, y.f0 ≠ x.f0) := by
      intro hn
      have hne : ∀ e ∈ out, keyC e ≠ keyC (⟨b[i].f0, b[i].f1, false⟩ : Ch) := fun e he hk => (hd e he).2 b[i] List.mem_cons_self hk.symm
      rw [show footbridgeref51_put.f k out b[i].f0 b[i].f1 false = some (insC out ⟨b[i].f0, b[i].f1, false⟩) from put_f out ⟨b[i].f0, b[i].f1, false⟩ k (by omega) (by omega), Option.bind_some]
      obtain ⟨r, e1, e2, e3⟩ := ih k (i + 1) (insC out ⟨b[i].f0, b[i].f1, false⟩) (by omega) (by omega) (by rw [len_ins]; omega) (up_ins _ out hu hne) (fun e he => by
        rcases (mem_ins _ out e).mp he with rfl | he
        · exact ⟨⟨b[i], hmem, rfl⟩, fun x hx h => by
            have := hud.1 x hx
            rw [h, keyC, keyP, less_irrefl] at this
            cases this⟩
        · exact ⟨(hd e he).1, fun y hy => (hd e he).2 y (List.mem_cons_of_mem _ hy)⟩)
      refine ⟨r, e1, e2, fun c => ?_⟩
      rw [e3 c, mem_ins, List.drop_eq_getElem_cons hil]
      constructor
      · rintro (((h | h) | ⟨y, hy, h⟩) | h)
        · exact Or.inl (Or.inr ⟨b[i], List.mem_cons_self, h, hn⟩)
        · exact Or.inl (Or.inl h)
        · exact Or.inl (Or.inr ⟨y, List.mem_cons_of_mem _ hy, h⟩)
        · exact Or.inr h
      · rintro ((h | ⟨y, hy, h, h'⟩) | h)
        · exact Or.inl (Or.inl (Or.inr h))
        · rcases List.mem_cons.mp hy with rfl | hy
          · exact Or.inl (Or.inl (Or.inl h))
          · exact Or.inl (Or.inr ⟨y, hy, h, h'⟩)
        · exact Or.inr h
    rw [footbridgeref51_Of.l0, if_pos (by omega), if_pos (by omega), rdP b i hil, hg, Option.bind_some, w1 i b.length (by omega) (by omega)]
    dsimp only
    cases ok with
    | true =>
      rw [if_pos rfl]
      obtain ⟨x, hx, e, ev⟩ := h1 rfl
      by_cases hv : v.toList = b[i].f1.toList
      · rw [if_pos hv]
        exact hskip (fun h => h x hx (toList_inj e) (by rw [ev]; exact toList_inj hv))
      · rw [if_neg hv]
        refine htake (fun z hz ez evz => hv ?_)
        have : z = x := up_uniq keyP a ha z hz x hx (by rw [keyP, keyP, ez, e])
        rw [← ev, ← this, evz]
    | false =>
      rw [if_neg (by decide)]
      exact htake (fun z hz ez => absurd (by rw [ez]) (h2 rfl ha z hz))
theorem rof_is (a b : List Pr) (k : Nat) (hk : 10000 ≤ k) (hla : a.length ≤ 1000) (hlb : b.length ≤ 1000) : footbridgeref51_Of.f k a b = diff_Of.f a b := by
  obtain ⟨k, rfl⟩ : ∃ q, k = q + 1 := ⟨k - 1, by omega⟩
  unfold footbridgeref51_Of.f diff_Of.f
  rw [rises_eq a (k + 1) (by omega) (by omega), Option.bind_some, if_pos (show a.length + b.length < 3518437208883 by omega)]
  cases hra : risP a (a.length - 1) with
  | false =>
    rw [if_neg (by decide), if_neg (by decide), footbridgeref51_Of.j0, if_pos rfl]
  | true =>
    rw [if_pos rfl, if_pos rfl, rises_eq b (k + 1) (by omega) (by omega), Option.bind_some, footbridgeref51_Of.j0]
    cases hrb : risP b (b.length - 1) with
    | false => rfl
    | true =>
      have ua := up_of keyP a ((risP_iff a).mp hra)
      have ub := up_of keyP b ((risP_iff b).mp hrb)
      obtain ⟨_, u, _, _, _⟩ := of_facts (a.length + b.length) a b (Nat.le_refl _) ua ub
      obtain ⟨r, e1, e2, e3⟩ := rof_l0 a b ua ub hla hlb b.length k 0 [] (by omega) (by omega) (by simp) trivial (fun e he => by cases he)
      rw [if_neg (by decide), if_pos rfl, show footbridgeref51_Of.l0 k a b [] 0 = _ from e1]
      have : r = ofM a b := up_ext keyC r (ofM a b) e2 u (fun c => by
        rw [e3 c, of_want (a.length + b.length) a b (Nat.le_refl _) ua ub c, Want, List.drop_zero]
        simp only [List.not_mem_nil, false_or]
        exact Or.comm)
      rw [this]
end Go.Proofs.Ytipgldfbjlhpoab.Pure
