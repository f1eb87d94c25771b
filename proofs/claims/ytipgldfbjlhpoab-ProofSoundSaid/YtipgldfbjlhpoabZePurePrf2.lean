/- What leads to a root of pairs is one of them, or two unlike texts have one sum. -/
import Derived.Test.YtipgldfbjlhpoabZePurePrf8
import Derived.Test.YtipgldfbjlhpoabZePR12B
namespace Go.Proofs.Ytipgldfbjlhpoab.Pure
set_option linter.unusedVariables false
set_option linter.unusedSimpArgs false
open Go.RowKit Go.Proofs.Ytipgldfbjlhpoab.P Go.Proofs.Ytipgldfbjlhpoab.Wire Go.Proofs.Ytipgldfbjlhpoab.Sha Go.Proofs.YtipgldfbjlhpoabW.PrintWords Go.Proofs.YtipgldfbjlhpoabW.PrintLast
theorem text_eq {a b : ByteArray} (h : a.toList = b.toList) : a = b := by
 rw [ByteArray.toList_eq, ByteArray.toList_eq] at h; exact bytes_ext h
def Clash (L : List ByteArray) : Prop := ∃ x y, x ∈ L ∧ y ∈ L ∧ x ≠ y ∧ sumB x = sumB y
theorem Clash.mono {L M : List ByteArray} (h : Clash L) (hs : ∀ t ∈ L, t ∈ M) : Clash M := by
 obtain ⟨x, y, hx, hy, hne, he⟩ := h; exact ⟨x, y, hs x hx, hs y hy, hne, he⟩
section
variable (L : List ByteArray)
def Bad (i j : Nat) : Prop := ∃ (hi : i < L.length) (hj : j < L.length), L[i] ≠ L[j] ∧ sumB L[i] = sumB L[j]
theorem twice_l2 (hL : L.length ≤ 200) : ∀ (m d i j k : Nat), (L.length - i) * 210 + (i - j) ≤ m → i < L.length → j ≤ i → j + d = i → 2 * m + 5 ≤ k → (∃ i' j', j' < i' ∧ Bad L i' j' ∧ (i < i' ∨ (i = i' ∧ j ≤ j'))) →
  footbridgeref11_Twice.l2 k L (L.map sumB) (i : Int) (j : Int) = some true := by
 intro m
 induction m with
 | zero => intro d i j k hm hi hj hd hk hb; omega
 | succ m ih =>
  intro d i j k hm hi hj hd hk ⟨i', j', hlt, hbad, hpos⟩
  obtain ⟨k, rfl⟩ : ∃ q, k = q + 1 := ⟨k - 1, by omega⟩
  have hjm : j < 1000000 := by omega
  have him : i < 1000000 := by omega
  rw [footbridgeref11_Twice.l2]
  by_cases hji : j < i
  · have c1 : (j : Int) < (i : Int) := by omega
    have c2 : (0 : Int) ≤ (i : Int) := by omega
    have c3 : (i : Int) < ((L.map sumB).length : Int) := by rw [List.length_map]; omega
    have c4 : (0 : Int) ≤ (j : Int) := by omega
    have c5 : (j : Int) < ((L.map sumB).length : Int) := by rw [List.length_map]; omega
    have c6 : (i : Int) < (L.length : Int) := by omega
    have c7 : (j : Int) < (L.length : Int) := by omega
    have e1 : rdOf ByteArray.empty (L.map sumB) (i : Int) = sumB L[i] := by rw [rdB i (by rw [List.length_map]; exact hi), List.getElem_map]
    have e2 : rdOf ByteArray.empty (L.map sumB) (j : Int) = sumB L[j] := by rw [rdB j (by rw [List.length_map]; omega), List.getElem_map]
    have next : ¬ Bad L i j → footbridgeref11_Twice.l2 k L (L.map sumB) (i : Int) ((j + 1 : Nat) : Int) = some true := by
     intro hn; refine ih (d - 1) i (j + 1) k (by omega) hi (by omega) (by omega) (by omega) ⟨i', j', hlt, hbad, ?_⟩
     rcases hpos with h | ⟨h, h2⟩
     · exact .inl h
     · refine .inr ⟨h, ?_⟩
       by_cases e : j = j'
       · subst h; subst e; exact absurd hbad hn
       · omega
    simp only [if_pos c1, if_pos c2, if_pos c3, if_pos c4, if_pos c5, if_pos c6, if_pos c7, e1, e2, rdB i hi, rdB j (show j < L.length by omega), wsuc j hjm]
    by_cases hs : (sumB L[i]).toList = (sumB L[j]).toList
    · rw [if_pos hs]
      by_cases ht : (L[i]).toList = (L[j]).toList
      · rw [if_pos ht]; exact next (fun ⟨_, _, hne, _⟩ => hne (text_eq ht))
      · rw [if_neg ht]
    · rw [if_neg hs]; exact next (fun ⟨_, _, _, he⟩ => hs (by rw [he]))
  · obtain rfl : j = i := by omega
    have hin : j + 1 ≤ i' := by omega
    have hi' : i' < L.length := hbad.1
    obtain ⟨k, rfl⟩ : ∃ q, k = q + 1 := ⟨k - 1, by omega⟩
    rw [if_neg (by omega), wsuc j him, footbridgeref11_Twice.l1, if_pos (by omega)]; have := ih (j + 1) (j + 1) 0 k (by omega) (by omega) (by omega) (by omega) (by omega) ⟨i', j', hlt, hbad, by omega⟩; exact this
theorem twice_l0 (hL : L.length ≤ 200) (hs : ∀ t ∈ L, t.size ≤ 1000000) (hc : Clash L) : ∀ (d i k : Nat), i + d = L.length → d + 90000 ≤ k → footbridgeref11_Twice.l0 k L ((L.take i).map sumB) (i : Int) = some true := by
 intro d
 induction d with
 | zero =>
  intro i k hi hk
  obtain ⟨k, rfl⟩ : ∃ q, k = q + 2 := ⟨k - 2, by omega⟩
  obtain ⟨x, y, hx, hy, hne, he⟩ := hc; obtain ⟨a, ha, rfl⟩ := List.mem_iff_getElem.mp hx; obtain ⟨b, hb, rfl⟩ := List.mem_iff_getElem.mp hy
  have hab : a ≠ b := by rintro rfl; exact hne rfl
  have hex : ∃ i' j', j' < i' ∧ Bad L i' j' := by
   rcases Nat.lt_or_ge b a with h | h
   · exact ⟨a, b, h, ha, hb, hne, he⟩
   · exact ⟨b, a, by omega, hb, ha, Ne.symm hne, he.symm⟩
  obtain ⟨i', j', hlt, hbad⟩ := hex
  obtain rfl : i = L.length := by omega
  have hi' : i' < L.length := hbad.1; rw [footbridgeref11_Twice.l0, if_neg (by omega), List.take_length, footbridgeref11_Twice.l1, if_pos (by omega)]; exact twice_l2 L hL (L.length * 210) 0 0 0 k (by omega) (by omega) (Nat.le_refl _) rfl (by omega) ⟨i', j', hlt, hbad, by omega⟩
 | succ d ih =>
  intro i k hi hk
  obtain ⟨k, rfl⟩ : ∃ q, k = q + 1 := ⟨k - 1, by omega⟩
  have hil : i < L.length := by omega
  have hz := hs _ (List.getElem_mem hil); have hn := ih (i + 1) k (by omega) (by omega); rw [footbridgeref11_Twice.l0, if_pos (by omega), if_pos (by omega), rdB i hil, rsum_f _ (by omega), Option.bind_some, if_pos (by rw [List.length_map, List.length_take]; omega), wsuc i (by omega)]; rw [List.take_succ_eq_append_getElem hil, List.map_append] at hn; exact hn
end
theorem twice_f (L : List ByteArray) (k : Nat) (hk : 100000 ≤ k) (hL : L.length ≤ 200) (hs : ∀ t ∈ L, t.size ≤ 1000000) (hc : Clash L) : footbridgeref11_Twice.f k L = some true := by
 unfold footbridgeref11_Twice.f; exact twice_l0 L hL hs hc L.length 0 k (by omega) (by omega)
theorem cancel_left {a b c : ByteArray} (h : a ++ b = a ++ c) : b = c := by
 have := congrArg (fun x : ByteArray => x.data.toList) h; simp only [ByteArray.data_append, Array.toList_append] at this; exact bytes_ext (List.append_cancel_left this)
theorem split_same {a b c d : ByteArray} (hz : a.size = c.size) (h : a ++ b = c ++ d) : a = c ∧ b = d := by
 have := congrArg (fun x : ByteArray => x.data.toList) h; simp only [ByteArray.data_append, Array.toList_append] at this
 have hl : a.data.toList.length = c.data.toList.length := by rw [Array.length_toList, Array.length_toList]; exact hz
 have := List.append_inj this hl; exact ⟨bytes_ext this.1, bytes_ext this.2⟩
theorem enc1_inj {a b c d : ByteArray} (ha : a.size ≤ 1000) (hb : b.size ≤ 5000) (hc : c.size ≤ 1000) (hd : d.size ≤ 5000) (h : enc1 a ++ b = enc1 c ++ d) : a = c ∧ b = d := by
 have h1 := text_enc a b (by omega) (by omega); have h2 := text_enc c d (by omega) (by omega); rw [h, h2] at h1; have e := Option.some.inj h1; have ea : c = a := congrArg Prod.fst e; subst ea; exact ⟨rfl, cancel_left h⟩
theorem leafT_inj {p q : Pq} (h0 : p.f0.size ≤ 200 ∧ p.f1.size ≤ 200) (h1 : q.f0.size ≤ 200 ∧ q.f1.size ≤ 200) (h : leafT p = leafT q) : p = q := by
 unfold leafT at h; rw [ByteArray.append_assoc, ByteArray.append_assoc] at h; have h := cancel_left h; have z0 := enc1_le p.f1 (by omega); have z1 := enc1_le q.f1 (by omega); obtain ⟨e0, h⟩ := enc1_inj (by omega) (by omega) (by omega) (by omega) h
 have h' : enc1 p.f1 ++ (⟨#[]⟩ : ByteArray) = enc1 q.f1 ++ (⟨#[]⟩ : ByteArray) := by rw [h]
 obtain ⟨e1, _⟩ := enc1_inj (by omega) (by exact Nat.zero_le _) (by omega) (by exact Nat.zero_le _) h'
 cases p; cases q
 simp only at e0 e1; rw [e0, e1]
theorem nodeT_inj {a b c d : ByteArray} (hz : a.size = c.size ∨ b.size = d.size) (h : nodeT a b = nodeT c d) : a = c ∧ b = d := by
 have hs := congrArg ByteArray.size h; rw [size_nodeT, size_nodeT] at hs; unfold nodeT at h; rw [ByteArray.append_assoc, ByteArray.append_assoc] at h; exact split_same (by omega) (cancel_left h)
theorem topT_inj {n : Int} {m : Nat} {a b : ByteArray} (hm : m ≤ 1000) (hz : a.size = b.size) (h : topT n a = topT (m : Int) b) : n = (m : Int) ∧ a = b := by
 have hs := congrArg ByteArray.size h; rw [size_topT, size_topT, numE_nat m (by omega)] at hs; have h1 := numberS_numB m (by omega) b
 have hpos : 1 ≤ (numB m).size := by
  obtain ⟨D, _, _, _, hb⟩ := be_digits m (by omega); have := size_numB_eq m D hb; omega
 by_cases hn : n < 0 ∨ 9007199254740992 < n
 · have : (numE n).size = 0 := by
    unfold numE wire_Num.f; rw [if_pos hn]; rfl
   omega
 · obtain ⟨i, rfl⟩ := Int.eq_ofNat_of_zero_le (show 0 ≤ n by omega); unfold topT at h; rw [ByteArray.append_assoc, ByteArray.append_assoc, numE_nat m (by omega), numE_nat i (by omega)] at h; have h := cancel_left h; have h2 := numberS_numB i (by omega) a; rw [h, h1] at h2; have e : (m : Int) = (i : Int) := congrArg Prod.fst h2
   obtain rfl : m = i := by omega
   exact ⟨rfl, cancel_left h⟩
theorem wkR_32 (q : List ByteArray) (n i : Int) (leaf : ByteArray) (hz : leaf.size = 32) (h : (wkR q n i leaf).2.2 = true) : (wkR q n i leaf).1.size = 32 := by
 cases q with
 | nil =>
  rw [wkR] at h ⊢
  split at h
  · cases h
  · rename_i h0
    rw [if_neg h0]
    split at h
    · rename_i h1; rw [if_pos h1]; exact hz
    · cases h
 | cons last q =>
  rw [wkR] at h ⊢
  split at h
  · cases h
  · rename_i h0
    rw [if_neg h0]
    split at h
    · cases h
    · rename_i h1
      rw [if_neg h1]
      split
      · exact size_sumB _
      · exact size_sumB _
theorem walk_sound : ∀ (d : Nat) (l : List Pq) (q : List ByteArray) (i : Int) (p : Pq), l.length ≤ d → 1 ≤ l.length → short 200 l → (p.f0.size ≤ 200 ∧ p.f1.size ≤ 200) → (wkR q (l.length : Int) i (sumB (leafT p))).2.2 = true → (wkR q (l.length : Int) i (sumB (leafT p))).1 = tree d l →
  (0 ≤ i ∧ l[i.toNat]? = some p) ∨ Clash (alls d l ++ leafT p :: (wkR q (l.length : Int) i (sumB (leafT p))).2.1) := by
 intro d
 induction d with
 | zero => intro l q i p h1 h2; omega
 | succ d ih =>
  intro l q i p hd h1 hs hp hok ht
  cases q with
  | nil =>
   rw [wkR] at hok ht ⊢
   split at hok
   · cases hok
   · rename_i h0
     rw [if_neg h0] at ht ⊢
     split at hok
     · rename_i hn
       rw [if_pos hn] at ht ⊢
       have hl : l.length = 1 := by omega
       rw [tree, if_neg (by omega), if_pos hl] at ht; rw [alls, if_neg (by omega), if_pos hl]
       have hi : i = 0 := by omega
       subst hi
       match l, hl, hs, ht with
       | [x], _, hs, ht =>
        by_cases e : leafT p = leafT x
        · left; rw [leafT_inj hp (hs x List.mem_cons_self) e]; exact ⟨Int.le_refl _, rfl⟩
        · right; exact ⟨leafT p, leafT x, List.mem_append_right _ List.mem_cons_self, List.mem_append_left _ List.mem_cons_self, e, ht⟩
     · cases hok
  | cons last q =>
   rw [wkR] at hok ht ⊢
   split at hok
   · cases hok
   · rename_i h0
     rw [if_neg h0] at ht ⊢
     split at hok
     · cases hok
     · rename_i hn
       rw [if_neg hn] at ht ⊢; have hb := sp_bounds l.length (by omega); have hq := parts_len l (by omega)
       have hl1 : ¬ l.length = 1 := by omega
       rw [tree, if_neg (show ¬ l.length = 0 by omega), if_neg hl1] at ht; rw [alls, if_neg (show ¬ l.length = 0 by omega), if_neg hl1]; rw [spI_nat] at hok ht ⊢; have t1 := tree_32 d (l.take (sp l.length)) (by omega) (by omega); have t2 := tree_32 d (l.drop (sp l.length)) (by omega) (by omega)
       by_cases hlt : i < (sp l.length : Int)
       · rw [if_pos hlt] at hok ht ⊢; have hih := ih (l.take (sp l.length)) q i p (by omega) (by omega) (short_take hs _) hp; rw [hq.1] at hih; have hz := wkR_32 q (sp l.length : Int) i (sumB (leafT p)) (size_sumB _) hok
         by_cases e : nodeT (wkR q (sp l.length : Int) i (sumB (leafT p))).1 last = nodeT (tree d (l.take (sp l.length))) (tree d (l.drop (sp l.length)))
         · obtain ⟨e1, e2⟩ := nodeT_inj (.inl (by omega)) e
           rcases hih hok e1 with ⟨g1, g2⟩ | g
           · left; refine ⟨g1, ?_⟩
             rwa [List.getElem?_take_of_lt (by omega)] at g2
           · right
             refine g.mono fun t ht => ?_
             rcases List.mem_append.mp ht with h | h
             · exact List.mem_append_left _ (List.mem_append_left _ (List.mem_append_left _ h))
             · refine List.mem_append_right _ ?_
               rcases List.mem_cons.mp h with h | h
               · exact h ▸ List.mem_cons_self
               · exact List.mem_cons_of_mem _ (List.mem_append_left _ h)
         · right; exact ⟨_, _, List.mem_append_right _ (List.mem_cons_of_mem _ (List.mem_append_right _ (List.mem_singleton_self _))), List.mem_append_left _ (List.mem_append_right _ (List.mem_singleton_self _)), e, ht⟩
       · rw [if_neg hlt] at hok ht ⊢; have hih := ih (l.drop (sp l.length)) q (i - (sp l.length : Int)) p (by omega) (by omega) (short_drop hs _) hp; rw [hq.2, show ((l.length - sp l.length : Nat) : Int) = (l.length : Int) - (sp l.length : Int) by omega] at hih; have hz := wkR_32 q ((l.length : Int) - (sp l.length : Int)) (i - (sp l.length : Int)) (sumB (leafT p)) (size_sumB _) hok
         by_cases e : nodeT last (wkR q ((l.length : Int) - (sp l.length : Int)) (i - (sp l.length : Int)) (sumB (leafT p))).1 = nodeT (tree d (l.take (sp l.length))) (tree d (l.drop (sp l.length)))
         · obtain ⟨e1, e2⟩ := nodeT_inj (.inr (by omega)) e
           rcases hih hok e2 with ⟨g1, g2⟩ | g
           · left; refine ⟨by omega, ?_⟩; rw [List.getElem?_drop] at g2
             rwa [show sp l.length + (i - (sp l.length : Int)).toNat = i.toNat by omega] at g2
           · right
             refine g.mono fun t ht => ?_
             rcases List.mem_append.mp ht with h | h
             · exact List.mem_append_left _ (List.mem_append_left _ (List.mem_append_right _ h))
             · refine List.mem_append_right _ ?_
               rcases List.mem_cons.mp h with h | h
               · exact h ▸ List.mem_cons_self
               · exact List.mem_cons_of_mem _ (List.mem_append_left _ h)
         · right; exact ⟨_, _, List.mem_append_right _ (List.mem_cons_of_mem _ (List.mem_append_right _ (List.mem_singleton_self _))), List.mem_append_left _ (List.mem_append_right _ (List.mem_singleton_self _)), e, ht⟩
theorem led_sound (l : List Pq) (hl : l.length ≤ 20) (hs : short 200 l) (p : Pq) (hp : p.f0.size ≤ 200 ∧ p.f1.size ≤ 200) (n i : Int) (path : List ByteArray) (h : (ledM (rootP l) p n i path).1 = true) :
  (n = (l.length : Int) ∧ 0 ≤ i ∧ l[i.toNat]? = some p) ∨ Clash (rootA l ++ (ledM (rootP l) p n i path).2) := by
 have hz := fun ok => wkR_32 path.reverse n i (sumB (leafT p)) (size_sumB _) ok
 unfold ledM at h ⊢
 split at h
 · rename_i hok
   have hz := hz hok; rw [if_pos hok]; dsimp only at h ⊢; have hsum : sumB (topT n (wkR path.reverse n i (sumB (leafT p))).1) = sumB (topT (l.length : Int) (tree 20 l)) := text_eq (beq_iff_eq.mp h)
   by_cases e : topT n (wkR path.reverse n i (sumB (leafT p))).1 = topT (l.length : Int) (tree 20 l)
   · by_cases h0 : l.length = 0
     · exfalso; have hse := congrArg ByteArray.size e; have z := size_numE (l.length : Int)
       have ht0 : (tree 20 l).size = 0 := by rw [tree, if_pos h0]; rfl
       rw [size_topT, size_topT] at hse; omega
     · have t1 := tree_32 20 l (by omega) (by omega); obtain ⟨e1, e2⟩ := topT_inj (by omega) (by omega) e; rw [e1] at hok e2 ⊢
       rcases walk_sound 20 l path.reverse i p hl (by omega) hs hp hok e2 with g | g
       · exact .inl ⟨rfl, g⟩
       · right
         refine g.mono fun t ht => ?_
         rcases List.mem_append.mp ht with h | h
         · exact List.mem_append_left _ (List.mem_append_left _ h)
         · refine List.mem_append_right _ ?_
           rcases List.mem_cons.mp h with h | h
           · exact h ▸ List.mem_cons_self
           · exact List.mem_cons_of_mem _ (List.mem_append_left _ h)
   · right; exact ⟨_, _, List.mem_append_right _ (List.mem_cons_of_mem _ (List.mem_append_right _ (List.mem_singleton_self _))), List.mem_append_left _ (List.mem_append_right _ (List.mem_singleton_self _)), e, hsum⟩
 · cases h
end Go.Proofs.Ytipgldfbjlhpoab.Pure
namespace Go.Proofs.Ytipgldfbjlhpoab.Pure
set_option linter.unusedVariables false
set_option linter.unusedSimpArgs false
open Go.RowKit Go.Proofs.Ytipgldfbjlhpoab.P Go.Proofs.Ytipgldfbjlhpoab.Wire Go.Proofs.Ytipgldfbjlhpoab.Sha Go.Proofs.YtipgldfbjlhpoabW.PrintWords Go.Proofs.YtipgldfbjlhpoabW.PrintLast
def lvs (l : List Pq) : List ByteArray := l.map fun p => sumB (leafT p)
theorem lvs_len (l : List Pq) : (lvs l).length = l.length := List.length_map _
theorem leaves_f (l : List Pq) (hs : short 200 l) : leavesF l = some (lvs l) := by
 induction l with
 | nil => rfl
 | cons x l ih =>
  have hx := hs x List.mem_cons_self; rw [leavesF, leaf_f _ _ (by omega) (by omega), Option.bind_some, ih (fun p hp => hs p (List.mem_cons_of_mem _ hp))]; rfl
theorem ptree_f : ∀ (d : Nat) (l : List Pq) (k : Nat), 1 ≤ l.length → l.length ≤ d → l.length ≤ k → l.length ≤ 1000 → short 200 l → proof_tree.f k (lvs l) = some (tree d l) := by
 intro d
 induction d with
 | zero => intro l k h1 h2 _ _ _; omega
 | succ d ih =>
  intro l k h1 h2 hk hl hs
  obtain ⟨k, rfl⟩ : ∃ q, k = q + 1 := ⟨k - 1, by omega⟩
  have hn := lvs_len l; rw [proof_tree.f, tree, if_neg (show ¬ l.length = 0 by omega), hn]
  by_cases h : l.length = 1
  · rw [if_pos (by omega), if_pos h, if_pos (by omega)]
    match l, h with
    | [x], _ => rfl
  · have hp := parts_len l (by omega); have hb := sp_bounds l.length (by omega)
    have e1 : (lvs l).take (sp l.length) = lvs (l.take (sp l.length)) := by unfold lvs; rw [List.map_take]
    have e2 : (lvs l).drop (sp l.length) = lvs (l.drop (sp l.length)) := by unfold lvs; rw [List.map_drop]
    rw [if_neg (by omega), if_neg h, split_f _ (by omega), Option.bind_some, if_pos (by omega), if_pos (by omega), Int.toNat_natCast, e1, e2,
     ih (l.take (sp l.length)) k (by omega) (by omega) (by omega) (by omega) (short_take hs _), Option.bind_some,
     ih (l.drop (sp l.length)) k (by omega) (by omega) (by omega) (by omega) (short_drop hs _), Option.bind_some,
     node_f _ _ (by have := tree_size d (l.take (sp l.length)); omega) (by have := tree_size d (l.drop (sp l.length)); omega), Option.bind_some]
def pathP : Nat → List Pq → Nat → List ByteArray
 | 0, _, _ => []
 | d + 1, l, i => if l.length < 2 then [] else if i < sp l.length then pathP d (l.take (sp l.length)) i ++ [tree d (l.drop (sp l.length))] else pathP d (l.drop (sp l.length)) (i - sp l.length) ++ [tree d (l.take (sp l.length))]
theorem pathP_len : ∀ (d : Nat) (l : List Pq) (i : Nat), (pathP d l i).length ≤ d := by
 intro d
 induction d with
 | zero => intro l i; exact Nat.le_refl _
 | succ d ih =>
  intro l i; rw [pathP]
  split
  · exact Nat.zero_le _
  · split
    · have := ih (l.take (sp l.length)) i; rw [List.length_append, List.length_singleton]; omega
    · have := ih (l.drop (sp l.length)) (i - sp l.length); rw [List.length_append, List.length_singleton]; omega
theorem ppath_f : ∀ (d : Nat) (l : List Pq) (k i : Nat), l.length ≤ d → l.length < k → l.length ≤ 1000 → d ≤ 1000 → short 200 l → i ≤ 1000 → proof_path.f k (lvs l) (i : Int) = some (pathP d l i) := by
 intro d
 induction d with
 | zero =>
  intro l k i h2 hk _ _ _ _
  obtain ⟨k, rfl⟩ : ∃ q, k = q + 1 := ⟨k - 1, by omega⟩
  have hn := lvs_len l; rw [proof_path.f, if_pos (by omega), pathP]
 | succ d ih =>
  intro l k i h2 hk hl hd hs hi
  obtain ⟨k, rfl⟩ : ∃ q, k = q + 1 := ⟨k - 1, by omega⟩
  have hn := lvs_len l; rw [proof_path.f, pathP, hn]
  by_cases h : l.length < 2
  · rw [if_pos (by omega), if_pos h]
  · have hp := parts_len l (by omega); have hb := sp_bounds l.length (by omega)
    have e1 : (lvs l).take (sp l.length) = lvs (l.take (sp l.length)) := by unfold lvs; rw [List.map_take]
    have e2 : (lvs l).drop (sp l.length) = lvs (l.drop (sp l.length)) := by unfold lvs; rw [List.map_drop]
    have p1 := pathP_len d (l.take (sp l.length)) i; have p2 := pathP_len d (l.drop (sp l.length)) (i - sp l.length); rw [if_neg (by omega), if_neg h, split_f _ (by omega), Option.bind_some]
    by_cases hlt : i < sp l.length
    · rw [if_pos (by omega), if_pos hlt, if_pos (by omega), if_pos (by omega), Int.toNat_natCast, e1, e2,
       ih (l.take (sp l.length)) k i (by omega) (by omega) (by omega) (by omega) (short_take hs _) hi, Option.bind_some,
       ptree_f d (l.drop (sp l.length)) k (by omega) (by omega) (by omega) (by omega) (short_drop hs _), Option.bind_some, if_pos (by omega)]
    · have ew : wrap64 ((i : Int) - (sp l.length : Int)) = ((i - sp l.length : Nat) : Int) := by rw [w64 (by omega) (by omega)]; omega
      rw [if_neg (by omega), if_neg hlt, if_pos (by omega), if_pos (by omega), Int.toNat_natCast, ew, e1, e2,
       ih (l.drop (sp l.length)) k (i - sp l.length) (by omega) (by omega) (by omega) (by omega) (short_drop hs _) (by omega), Option.bind_some,
       ptree_f d (l.take (sp l.length)) k (by omega) (by omega) (by omega) (by omega) (short_take hs _), Option.bind_some, if_pos (by omega)]
theorem rpath_f : ∀ (d : Nat) (l : List Pq) (k i : Nat), l.length ≤ d → d + 80 ≤ k → l.length ≤ 1000 → d ≤ 1000 → short 200 l → i ≤ 1000 → footbridgeref12_path.f k l (i : Int) = some (pathP d l i) := by
 intro d
 induction d with
 | zero =>
  intro l k i h2 hk _ _ _ _
  obtain ⟨k, rfl⟩ : ∃ q, k = q + 1 := ⟨k - 1, by omega⟩
  rw [footbridgeref12_path.f, if_pos (by omega), pathP]
 | succ d ih =>
  intro l k i h2 hk hl hd hs hi
  obtain ⟨k, rfl⟩ : ∃ q, k = q + 1 := ⟨k - 1, by omega⟩
  rw [footbridgeref12_path.f, pathP]
  by_cases h : l.length < 2
  · rw [if_pos (by omega), if_pos h]
  · have hp := parts_len l (by omega); have hb := sp_bounds l.length (by omega); have p1 := pathP_len d (l.take (sp l.length)) i; have p2 := pathP_len d (l.drop (sp l.length)) (i - sp l.length); rw [if_neg (by omega), if_neg h, rsplit_f _ (by omega) k (by omega), Option.bind_some]
    by_cases hlt : i < sp l.length
    · rw [if_pos (by omega), if_pos hlt, if_pos (by omega), if_pos (by omega), Int.toNat_natCast,
       rtree_f d (l.drop (sp l.length)) k (by omega) (by omega) (by omega) (short_drop hs _), Option.bind_some,
       ih (l.take (sp l.length)) k i (by omega) (by omega) (by omega) (by omega) (short_take hs _) hi, Option.bind_some, if_pos (by omega)]
    · have ew : wrap64 ((i : Int) - (sp l.length : Int)) = ((i - sp l.length : Nat) : Int) := by rw [w64 (by omega) (by omega)]; omega
      rw [if_neg (by omega), if_neg hlt, if_pos (by omega), if_pos (by omega), Int.toNat_natCast, ew,
       rtree_f d (l.take (sp l.length)) k (by omega) (by omega) (by omega) (short_take hs _), Option.bind_some,
       ih (l.drop (sp l.length)) k (i - sp l.length) (by omega) (by omega) (by omega) (by omega) (short_drop hs _) (by omega), Option.bind_some, if_pos (by omega)]
end Go.Proofs.Ytipgldfbjlhpoab.Pure
