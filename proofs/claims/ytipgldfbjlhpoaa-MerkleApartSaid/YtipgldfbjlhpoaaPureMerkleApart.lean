/- The plain side of MerkleApart: unlike lists of pairs have unlike roots, or two unlike texts have one sum. -/
import Derived.Test.YtipgldfbjlhpoaaPureMerkle2
import Derived.Test.YtipgldfbjlhpoaaPLMerkleApart
namespace Go.Proofs.Ytipgldfbjlhpoaa.Pure
set_option linter.unusedVariables false
set_option linter.unusedSimpArgs false
open Go.RowKit Go.Proofs.Ytipgldfbjlhpoaa.P Go.Proofs.Ytipgldfbjlhpoaa.Wire Go.Proofs.Ytipgldfbjlhpoaa.Sha Go.Proofs.YtipgldfbjlhpoaaW.PrintWords Go.Proofs.YtipgldfbjlhpoaaW.PrintLast

theorem w64s (i : Nat) (h : i < 1000000) : wrap64 ((i : Int) + 1) = ((i + 1 : Nat) : Int) := by rw [w64 (by omega) (by omega)]; omega
theorem toList_inj {a b : ByteArray} (h : a.toList = b.toList) : a = b := by
  rw [ByteArray.toList_eq, ByteArray.toList_eq] at h
  exact bytes_ext h
/-- Two unlike texts of a list have one sum. -/
def Clash (L : List ByteArray) : Prop := ∃ x y, x ∈ L ∧ y ∈ L ∧ x ≠ y ∧ sumB x = sumB y
theorem rdB {L : List ByteArray} (i : Nat) (h : i < L.length) : rdOf ByteArray.empty L (i : Int) = L[i] := by
  unfold rdOf
  rw [Int.toNat_natCast, List.getD_eq_getElem?_getD, List.getElem?_eq_getElem h]
  rfl
section
variable (L : List ByteArray)
/-- From a place on: is there an unlike text with the same sum before it? -/
def Bad (i j : Nat) : Prop := ∃ (hi : i < L.length) (hj : j < L.length), L[i] ≠ L[j] ∧ sumB L[i] = sumB L[j]
theorem twice_l2 (hL : L.length ≤ 50) : ∀ (m d i j k : Nat), (L.length - i) * 60 + (i - j) ≤ m → i < L.length → j ≤ i → j + d = i → 2 * m + 5 ≤ k → (∃ i' j', j' < i' ∧ Bad L i' j' ∧ (i < i' ∨ (i = i' ∧ j ≤ j'))) →
    footbridgeref11_Twice.l2 k L (L.map sumB) (i : Int) (j : Int) = some true := by
  intro m
  induction m with
  | zero => intro d i j k hm hi hj hd hk hb; omega
  | succ m ih =>
    intro d i j k hm hi hj hd hk ⟨i', j', hlt, hbad, hpos⟩
    obtain ⟨k, rfl⟩ : ∃ q, k = q + 1 := ⟨k - 1, by omega⟩
    have hjm : j < 1000000 := by omega
    have him : i < 1000000 := by omega
    rw [footbridgeref11_Twice.l2]
    by_cases hji : j < i
    · have c1 : (j : Int) < (i : Int) := by omega
      have c2 : (0 : Int) ≤ (i : Int) := by omega
      have c3 : (i : Int) < ((L.map sumB).length : Int) := by rw [List.length_map]; omega
      have c4 : (0 : Int) ≤ (j : Int) := by omega
      have c5 : (j : Int) < ((L.map sumB).length : Int) := by rw [List.length_map]; omega
      have c6 : (i : Int) < (L.length : Int) := by omega
      have c7 : (j : Int) < (L.length : Int) := by omega
      have e1 : rdOf ByteArray.empty (L.map sumB) (i : Int) = sumB L[i] := by rw [rdB i (by rw [List.length_map]; exact hi), List.getElem_map]
      have e2 : rdOf ByteArray.empty (L.map sumB) (j : Int) = sumB L[j] := by rw [rdB j (by rw [List.length_map]; omega), List.getElem_map]
      have next : ¬ Bad L i j → footbridgeref11_Twice.l2 k L (L.map sumB) (i : Int) ((j + 1 : Nat) : Int) = some true := by
        intro hn
        refine ih (d - 1) i (j + 1) k (by omega) hi (by omega) (by omega) (by omega) ⟨i', j', hlt, hbad, ?_⟩
        rcases hpos with h | ⟨h, h2⟩
        · exact .inl h
        · refine .inr ⟨h, ?_⟩
          by_cases e : j = j'
          · subst h; subst e; exact absurd hbad hn
          · omega
      simp only [if_pos c1, if_pos c2, if_pos c3, if_pos c4, if_pos c5, if_pos c6, if_pos c7, e1, e2, rdB i hi, rdB j (show j < L.length by omega), w64s j hjm]
      by_cases hs : (sumB L[i]).toList = (sumB L[j]).toList
      · rw [if_pos hs]
        by_cases ht : (L[i]).toList = (L[j]).toList
        · rw [if_pos ht]
          exact next (fun ⟨_, _, hne, _⟩ => hne (toList_inj ht))
        · rw [if_neg ht]
      · rw [if_neg hs]
        exact next (fun ⟨_, _, _, he⟩ => hs (by rw [he]))
    · obtain rfl : j = i := by omega
      have hin : j + 1 ≤ i' := by omega
      have hi' : i' < L.length := hbad.1
      obtain ⟨k, rfl⟩ : ∃ q, k = q + 1 := ⟨k - 1, by omega⟩
      rw [if_neg (by omega), w64s j him, footbridgeref11_Twice.l1, if_pos (by omega)]
      have := ih (j + 1) (j + 1) 0 k (by omega) (by omega) (by omega) (by omega) (by omega) ⟨i', j', hlt, hbad, by omega⟩
      exact this
theorem twice_l0 (hL : L.length ≤ 50) (hs : ∀ t ∈ L, t.size ≤ 1000000) (hc : Clash L) : ∀ (d i k : Nat), i + d = L.length → d + 8000 ≤ k → footbridgeref11_Twice.l0 k L ((L.take i).map sumB) (i : Int) = some true := by
  intro d
  induction d with
  | zero =>
    intro i k hi hk
    obtain ⟨k, rfl⟩ : ∃ q, k = q + 2 := ⟨k - 2, by omega⟩
    obtain ⟨x, y, hx, hy, hne, he⟩ := hc
    obtain ⟨a, ha, rfl⟩ := List.mem_iff_getElem.mp hx
    obtain ⟨b, hb, rfl⟩ := List.mem_iff_getElem.mp hy
    have hab : a ≠ b := by rintro rfl; exact hne rfl
    have hex : ∃ i' j', j' < i' ∧ Bad L i' j' := by
      rcases Nat.lt_or_ge b a with h | h
      · exact ⟨a, b, h, ha, hb, hne, he⟩
      · exact ⟨b, a, by omega, hb, ha, Ne.symm hne, he.symm⟩
    obtain ⟨i', j', hlt, hbad⟩ := hex
    obtain rfl : i = L.length := by omega
    have hi' : i' < L.length := hbad.1
    rw [footbridgeref11_Twice.l0, if_neg (by omega), List.take_length, footbridgeref11_Twice.l1, if_pos (by omega)]
    exact twice_l2 L hL (L.length * 60) 0 0 0 k (by omega) (by omega) (Nat.le_refl _) rfl (by omega) ⟨i', j', hlt, hbad, by omega⟩
  | succ d ih =>
    intro i k hi hk
    obtain ⟨k, rfl⟩ : ∃ q, k = q + 1 := ⟨k - 1, by omega⟩
    have hil : i < L.length := by omega
    have w : wrap64 ((i : Int) + 1) = ((i + 1 : Nat) : Int) := by rw [w64 (by omega) (by omega)]; omega
    have hz := hs _ (List.getElem_mem hil)
    have hn := ih (i + 1) k (by omega) (by omega)
    rw [footbridgeref11_Twice.l0, if_pos (by omega), if_pos (by omega), rdB i hil, rsum_f _ (by omega), Option.bind_some, if_pos (by rw [List.length_map, List.length_take]; omega), w]
    rw [List.take_succ_eq_append_getElem hil, List.map_append] at hn
    exact hn
end
theorem twice_f (L : List ByteArray) (k : Nat) (hk : 8500 ≤ k) (hL : L.length ≤ 50) (hs : ∀ t ∈ L, t.size ≤ 1000000) (hc : Clash L) : footbridgeref11_Twice.f k L = some true := by
  unfold footbridgeref11_Twice.f
  exact twice_l0 L hL hs hc L.length 0 k (by omega) (by omega)

/-! ### what is summed tells what it was made of -/
theorem cancel_left {a b c : ByteArray} (h : a ++ b = a ++ c) : b = c := by
  have := congrArg (fun x : ByteArray => x.data.toList) h
  simp only [ByteArray.data_append, Array.toList_append] at this
  exact bytes_ext (List.append_cancel_left this)
theorem split_same {a b c d : ByteArray} (hz : a.size = c.size) (h : a ++ b = c ++ d) : a = c ∧ b = d := by
  have := congrArg (fun x : ByteArray => x.data.toList) h
  simp only [ByteArray.data_append, Array.toList_append] at this
  have hl : a.data.toList.length = c.data.toList.length := by rw [Array.length_toList, Array.length_toList]; exact hz
  have := List.append_inj this hl
  exact ⟨bytes_ext this.1, bytes_ext this.2⟩
theorem enc1_inj {a b c d : ByteArray} (ha : a.size ≤ 1000) (hb : b.size ≤ 5000) (hc : c.size ≤ 1000) (hd : d.size ≤ 5000) (h : enc1 a ++ b = enc1 c ++ d) : a = c ∧ b = d := by
  have h1 := text_enc a b (by omega) (by omega)
  have h2 := text_enc c d (by omega) (by omega)
  rw [h, h2] at h1
  have e := Option.some.inj h1
  have ea : c = a := congrArg Prod.fst e
  subst ea
  exact ⟨rfl, cancel_left h⟩
theorem leafT_inj {p q : S72} (h0 : p.f0.size ≤ 200 ∧ p.f1.size ≤ 200) (h1 : q.f0.size ≤ 200 ∧ q.f1.size ≤ 200) (h : leafT p = leafT q) : p = q := by
  unfold leafT at h
  rw [ByteArray.append_assoc, ByteArray.append_assoc] at h
  have h := cancel_left h
  have z0 := enc1_le p.f1 (by omega)
  have z1 := enc1_le q.f1 (by omega)
  obtain ⟨e0, h⟩ := enc1_inj (by omega) (by omega) (by omega) (by omega) h
  have h' : enc1 p.f1 ++ (⟨#[]⟩ : ByteArray) = enc1 q.f1 ++ (⟨#[]⟩ : ByteArray) := by rw [h]
  obtain ⟨e1, _⟩ := enc1_inj (by omega) (by exact Nat.zero_le _) (by omega) (by exact Nat.zero_le _) h'
  cases p; cases q
  simp only at e0 e1
  rw [e0, e1]
theorem nodeT_inj {a b c d : ByteArray} (hz : a.size = c.size) (h : nodeT a b = nodeT c d) : a = c ∧ b = d := by
  unfold nodeT at h
  rw [ByteArray.append_assoc, ByteArray.append_assoc] at h
  exact split_same hz (cancel_left h)
theorem topT_inj {m n : Nat} {a b : ByteArray} (hm : m ≤ 1000) (hn : n ≤ 1000) (h : topT (m : Int) a = topT (n : Int) b) : m = n ∧ a = b := by
  unfold topT at h
  rw [ByteArray.append_assoc, ByteArray.append_assoc, numE_nat m (by omega), numE_nat n (by omega)] at h
  have h := cancel_left h
  have h1 := numberS_numB m (by omega) a
  have h2 := numberS_numB n (by omega) b
  rw [h, h2] at h1
  have e : (n : Int) = (m : Int) := congrArg Prod.fst h1
  obtain rfl : n = m := by omega
  exact ⟨rfl, cancel_left h⟩
theorem Clash.mono {L M : List ByteArray} (h : Clash L) (hs : ∀ t ∈ L, t ∈ M) : Clash M := by
  obtain ⟨x, y, hx, hy, hne, he⟩ := h
  exact ⟨x, y, hs x hx, hs y hy, hne, he⟩
theorem trees_apart : ∀ (d : Nat) (l m : List S72), l.length = m.length → l.length ≤ d → short 200 l → short 200 m → tree d l = tree d m → l ≠ m → Clash (alls d l ++ alls d m) := by
  intro d
  induction d with
  | zero =>
    intro l m h hd _ _ _ hne
    rw [List.eq_nil_of_length_eq_zero (show l.length = 0 by omega), List.eq_nil_of_length_eq_zero (show m.length = 0 by omega)] at hne
    exact absurd rfl hne
  | succ d ih =>
    intro l m h hd hsl hsm ht hne
    by_cases h0 : l.length = 0
    · rw [List.eq_nil_of_length_eq_zero (show l.length = 0 by omega), List.eq_nil_of_length_eq_zero (show m.length = 0 by omega)] at hne
      exact absurd rfl hne
    · rw [tree, tree, if_neg h0, if_neg (show ¬ m.length = 0 by omega)] at ht
      rw [alls, alls, if_neg h0, if_neg (show ¬ m.length = 0 by omega)]
      by_cases h1 : l.length = 1
      · rw [if_pos h1, if_pos (show m.length = 1 by omega)] at ht ⊢
        have s1 := rd_short hsl (by omega)
        have s2 := rd_short hsm (by omega)
        refine ⟨_, _, List.mem_append_left _ (List.mem_singleton_self _), List.mem_append_right _ (List.mem_singleton_self _), fun e => hne ?_, ht⟩
        have e := leafT_inj s1 s2 e
        match l, m, h1, h with
        | [p], [q], _, _ =>
          have e' : p = q := e
          rw [e']
      · rw [if_neg h1, if_neg (show ¬ m.length = 1 by omega)] at ht ⊢
        rw [← h] at ht ⊢
        have hp := parts_len l (by omega)
        have hb := sp_bounds l.length (by omega)
        have hq : (m.take (sp l.length)).length = sp l.length ∧ (m.drop (sp l.length)).length = m.length - sp l.length := by
          rw [List.length_take, List.length_drop]; omega
        have t1 := tree_32 d (l.take (sp l.length)) (by omega) (by omega)
        have t2 := tree_32 d (m.take (sp l.length)) (by omega) (by omega)
        by_cases he : nodeT (tree d (l.take (sp l.length))) (tree d (l.drop (sp l.length))) = nodeT (tree d (m.take (sp l.length))) (tree d (m.drop (sp l.length)))
        · obtain ⟨e1, e2⟩ := nodeT_inj (by omega) he
          by_cases hl : l.take (sp l.length) = m.take (sp l.length)
          · have hr : l.drop (sp l.length) ≠ m.drop (sp l.length) := by
              intro hr
              apply hne
              rw [← List.take_append_drop (sp l.length) l, hl, hr, List.take_append_drop]
            refine (ih _ _ (by omega) (by omega) (short_drop hsl _) (short_drop hsm _) e2 hr).mono fun t ht => ?_
            rcases List.mem_append.mp ht with h | h
            · exact List.mem_append_left _ (List.mem_append_left _ (List.mem_append_right _ h))
            · exact List.mem_append_right _ (List.mem_append_left _ (List.mem_append_right _ h))
          · refine (ih _ _ (by omega) (by omega) (short_take hsl _) (short_take hsm _) e1 hl).mono fun t ht => ?_
            rcases List.mem_append.mp ht with h | h
            · exact List.mem_append_left _ (List.mem_append_left _ (List.mem_append_left _ h))
            · exact List.mem_append_right _ (List.mem_append_left _ (List.mem_append_left _ h))
        · exact ⟨_, _, List.mem_append_left _ (List.mem_append_right _ (List.mem_singleton_self _)), List.mem_append_right _ (List.mem_append_right _ (List.mem_singleton_self _)), he, ht⟩
theorem roots_apart (l m : List S72) (hl : l.length ≤ 20) (hm : m.length ≤ 20) (hsl : short 200 l) (hsm : short 200 m) (h : rootP l = rootP m) (hne : l ≠ m) : Clash (rootA l ++ rootA m) := by
  by_cases he : topT (l.length : Int) (tree 20 l) = topT (m.length : Int) (tree 20 m)
  · obtain ⟨e1, e2⟩ := topT_inj (by omega) (by omega) he
    refine (trees_apart 20 l m e1 hl hsl hsm e2 hne).mono fun t ht => ?_
    rcases List.mem_append.mp ht with h | h
    · exact List.mem_append_left _ (List.mem_append_left _ h)
    · exact List.mem_append_right _ (List.mem_append_left _ h)
  · exact ⟨_, _, List.mem_append_left _ (List.mem_append_right _ (List.mem_singleton_self _)), List.mem_append_right _ (List.mem_append_right _ (List.mem_singleton_self _)), he, h⟩
theorem rootA_len (l : List S72) : (rootA l).length ≤ 2 * l.length + 1 := by
  have := alls_len 20 l
  rw [rootA, List.length_append, List.length_singleton]
  omega
theorem rootA_size (l : List S72) (hs : short 200 l) : ∀ t ∈ rootA l, t.size ≤ 1000 := by
  intro t ht
  rcases List.mem_append.mp ht with h | h
  · exact alls_size 20 l hs t h
  · rw [List.mem_singleton.mp h, size_topT]
    have := size_numE (l.length : Int)
    have := tree_size 20 l
    omega
theorem beq_bytes (a b : ByteArray) : (a.toList == b.toList) = true ↔ a = b := by
  rw [beq_iff_eq]
  exact ⟨toList_inj, fun h => by rw [h]⟩
theorem same_l0 (l m : List S72) (h : l.length = m.length) (hl : l.length ≤ 1000) : ∀ (d k i : Nat), i + d = l.length → d < k → (∀ j (h1 : j < l.length) (h2 : j < m.length), j < i → l[j] = m[j]) →
    ∃ b, footbridgeref09_Same.l0 k l m (i : Int) = some b ∧ (b = true ↔ l = m) := by
  intro d
  induction d with
  | zero =>
    intro k i hi hk he
    obtain ⟨k, rfl⟩ : ∃ q, k = q + 1 := ⟨k - 1, by omega⟩
    rw [footbridgeref09_Same.l0, if_neg (by omega)]
    refine ⟨true, rfl, ⟨fun _ => ?_, fun _ => rfl⟩⟩
    exact List.ext_getElem h (fun j h1 h2 => he j h1 h2 (by omega))
  | succ d ih =>
    intro k i hi hk he
    obtain ⟨k, rfl⟩ : ∃ q, k = q + 1 := ⟨k - 1, by omega⟩
    have hil : i < l.length := by omega
    have him : i < m.length := by omega
    have w : wrap64 ((i : Int) + 1) = ((i + 1 : Nat) : Int) := by rw [w64 (by omega) (by omega)]; omega
    rw [footbridgeref09_Same.l0, if_pos (by omega), if_pos (by omega), if_pos (by omega), rd_mem i hil, rd_mem i him]
    by_cases e : l[i] = m[i]
    · rw [if_neg (by rw [e]; simp), w]
      refine ih k (i + 1) (by omega) (by omega) (fun j h1 h2 hj => ?_)
      by_cases ej : j = i
      · subst ej; exact e
      · exact he j h1 h2 (by omega)
    · have hc : (!((l[i]).f0.toList == (m[i]).f0.toList) || (!((l[i]).f1.toList == (m[i]).f1.toList))) = true := by
        rw [Bool.or_eq_true, Bool.not_eq_true', Bool.not_eq_true']
        by_cases c : l[i].f0 = m[i].f0
        · right
          rw [beq_eq_false_iff_ne]
          intro c2
          have c2 := toList_inj c2
          apply e
          cases hx : l[i]
          cases hy : m[i]
          rw [hx, hy] at c c2
          simp only at c c2
          rw [c, c2]
        · left
          rw [beq_eq_false_iff_ne]
          exact fun c2 => c (toList_inj c2)
      rw [if_pos hc]
      exact ⟨false, rfl, ⟨(fun h => by cases h), (fun h => absurd (by subst h; rfl) e)⟩⟩
theorem same_f (l m : List S72) (hl : l.length ≤ 1000) (k : Nat) (hk : l.length < k) : ∃ b, footbridgeref09_Same.f k l m = some b ∧ (b = true ↔ l = m) := by
  unfold footbridgeref09_Same.f
  by_cases h : (l.length : Int) = (m.length : Int)
  · rw [if_pos h]
    exact same_l0 l m (by omega) hl l.length k 0 (by omega) hk (fun j _ _ hj => by omega)
  · rw [if_neg h]
    exact ⟨false, rfl, ⟨(fun h => by cases h), (fun e => absurd (by rw [e]) h)⟩⟩
theorem MerkleApart (l m : List S72) (k : Nat) (hk : 9000 ≤ k) : footbridgelaw11_MerkleApart.f k l m = some true := by
  obtain ⟨k, rfl⟩ : ∃ q, k = q + 1 := ⟨k - 1, by omega⟩
  have hlong : footbridgelaw11_MerkleApart.j0 (k + 1) l m true = some true := by rw [footbridgelaw11_MerkleApart.j0, if_pos rfl]; rfl
  obtain ⟨b, hb, hs⟩ := few11_f l 10 (by omega) (k + 1) (by omega)
  unfold footbridgelaw11_MerkleApart.f
  rw [show (10 : Int) = ((10 : Nat) : Int) from rfl, hb, Option.bind_some]
  cases b with
  | false => exact hlong
  | true =>
    obtain ⟨h1, h2⟩ := hs rfl
    obtain ⟨b, hb, hs⟩ := few11_f m 10 (by omega) (k + 1) (by omega)
    rw [if_pos rfl, hb, Option.bind_some]
    cases b with
    | false => exact hlong
    | true =>
      obtain ⟨h3, h4⟩ := hs rfl
      obtain ⟨b, hb, hsame⟩ := same_f l m (by omega) k (by omega)
      have a1 := rootA_len l
      have a2 := rootA_len m
      rw [footbridgelaw11_MerkleApart.j0, if_neg (by decide), rroot_f l k (by omega) (by omega) h2, Option.bind_some, rroot_f m k (by omega) (by omega) h4, Option.bind_some, hb, Option.bind_some, root_f l (by omega) h2, Option.bind_some, root_f m (by omega) h4, Option.bind_some]
      cases b with
      | true =>
        have e : l = m := hsame.1 rfl
        subst e
        rw [if_pos (by simp)]
        rfl
      | false =>
        have hne : l ≠ m := fun e => by have := hsame.2 e; cases this
        by_cases hr : rootP l = rootP m
        · rw [if_neg (by rw [hr]; simp), if_neg (by decide), if_pos (by dsimp only; omega)]
          rw [twice_f _ k (by omega) (by rw [List.length_append]; omega) (by
            intro t ht
            rcases List.mem_append.mp ht with h | h
            · have := rootA_size l h2 t h; omega
            · have := rootA_size m h4 t h; omega) (roots_apart l m (by omega) (by omega) h2 h4 hr hne)]
          rfl
        · have hb : ((rootP l).toList == (rootP m).toList) = false := by
            rw [beq_eq_false_iff_ne]
            exact fun e => hr (toList_inj e)
          rw [if_pos (by rw [hb]; rfl)]
          rfl
end Go.Proofs.Ytipgldfbjlhpoaa.Pure
