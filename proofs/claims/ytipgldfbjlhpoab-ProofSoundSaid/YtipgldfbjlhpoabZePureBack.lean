/- The plain side of laying and reading back: numbers and texts as bytes. -/
import Derived.Test.YtipgldfbjlhpoabZePureWire
import Derived.Test.YtipgldfbjlhpoabZePRWire
import Derived.Lib.IndexBytes
namespace Go.Proofs.Ytipgldfbjlhpoab.Pure
set_option linter.unusedVariables false
set_option linter.unusedSimpArgs false
open Go.RowKit Go.Proofs.Ytipgldfbjlhpoab.P Go.Proofs.Ytipgldfbjlhpoab.Wire Go.Proofs.YtipgldfbjlhpoabW.PrintWords Go.Proofs.YtipgldfbjlhpoabW.PrintLast
theorem strOfNums_append (a b : List Int) : strOfNums a ++ strOfNums b = strOfNums (a ++ b) := by
 have h : (strOfNums a ++ strOfNums b).data.toList = (strOfNums (a ++ b)).data.toList := by
  rw [strOfNums_data, ByteArray.data_append, Array.toList_append, strOfNums_data, strOfNums_data, List.map_append]
 cases hx : strOfNums a ++ strOfNums b; cases hy : strOfNums (a ++ b); rw [hx, hy] at h
 congr 1
 exact Array.toList_inj.mp h
theorem rlay_l0 : ∀ (f m k : Nat) (L : List Int), m < 256 ^ f → f + L.length ≤ 8 → f < k →
  footbridgeref01_Num.l0 k (m : Int) (strOfNums L) = some (strOfNums (((beA f m L).length : Int) :: beA f m L), 0) := by
 intro f
 induction f with
 | zero =>
  intro m k L hm hL hk
  obtain ⟨k, rfl⟩ : ∃ q, k = q + 1 := ⟨k - 1, by omega⟩
  have hm0 : m = 0 := by simp at hm; omega
  subst hm0
  have e : (L.length : Int) % 256 = (L.length : Int) := by omega
  have c : (strOfNums [(L.length : Int)]).size + (strOfNums L).size ≤ 9223372036854775807 := by rw [strOfNums_size, strOfNums_size]; simp; omega
  rw [footbridgeref01_Num.l0, if_neg (by omega), strOfNums_size, e, Option.bind_some, ← strOfNums_size L, strOfNums_size L]; rw [strOfNums_size, strOfNums_size] at *; rw [if_pos (by simp; omega), strOfNums_append, beA_zero]; rfl
 | succ f ih =>
  intro m k L hm hL hk
  obtain ⟨k, rfl⟩ : ∃ q, k = q + 1 := ⟨k - 1, by omega⟩
  by_cases h0 : m = 0
  · subst h0
    have e : (L.length : Int) % 256 = (L.length : Int) := by omega
    rw [footbridgeref01_Num.l0, if_neg (by omega), strOfNums_size, e, Option.bind_some]; rw [strOfNums_size]; rw [if_pos (by simp; omega), strOfNums_append, beA_zero]; rfl
  · have e1 : Int.tmod (m : Int) 256 % 256 = ((m % 256 : Nat) : Int) := by rw [Int.tmod_eq_emod_of_nonneg (by omega)]; omega
    have hq : m / 256 < 256 ^ f := by rw [Nat.pow_succ] at hm; omega
    have hp : 256 ^ (f + 1) ≤ 256 ^ 8 := Nat.pow_le_pow_right (by omega) (by omega); have hm8 : m < 18446744073709551616 := Nat.lt_of_lt_of_le hm hp; have this := ih (m / 256) k (((m % 256 : Nat) : Int) :: L) hq (by simp; omega) (by omega)
    have c : m > 0 := by omega
    clear hp hq hm
    have e2 : wrap64 (Int.tdiv (m : Int) 256) = ((m / 256 : Nat) : Int) := by
     rw [Int.tdiv_eq_ediv_of_nonneg (by omega), w64 (by omega) (by omega)]; omega
    rw [footbridgeref01_Num.l0, if_pos (by clear e2; omega), e1, Option.bind_some, strOfNums_size, strOfNums_size, if_pos (by clear e2; simp; omega), e2, strOfNums_append]; rw [beA, if_neg h0]; exact this
theorem rlay_f (a : Int) (k : Nat) (hk : 12 ≤ k) : footbridgeref01_Num.f k a = wire_Num.f a := by
 obtain ⟨k, rfl⟩ : ∃ q, k = q + 1 := ⟨k - 1, by omega⟩
 unfold footbridgeref01_Num.f wire_Num.f
 by_cases h0 : a < 0
 · rw [if_pos h0, if_pos (Or.inl h0)]; rfl
 · rw [if_neg h0, footbridgeref01_Num.j0]
   by_cases h1 : 9007199254740992 < a
   · rw [if_pos (decide_eq_true h1), if_pos (Or.inr h1)]
   · rw [if_neg (by rw [decide_eq_true_iff]; exact h1), if_neg (by omega)]; have := rlay_l0 8 a.toNat k [] (by omega) (by simp) (by omega); rw [show ((a.toNat : Nat) : Int) = a by omega] at this; exact this
theorem num_f (n : Nat) (hn : n ≤ 9007199254740992) : wire_Num.f (n : Int) = some (numB n, 0) := by
 unfold wire_Num.f; rw [if_neg (by omega), Int.toNat_natCast]
theorem size_numB (n : Nat) (hn : n ≤ 9007199254740992) : (numB n).size ≤ 9 := by
 unfold numB be; rw [strOfNums_size]; have := length_beA 8 n [] 8 (by omega); simp at this ⊢; omega
theorem lay_text (s : ByteArray) (k : Nat) (hk : 12 ≤ k) : footbridgeref01_Text.f k s = wire_Text.f s := by
 unfold footbridgeref01_Text.f wire_Text.f; rw [rlay_f _ k hk]
def val (D : List Nat) : Nat := D.foldl (fun a x => a * 256 + x) 0
theorem val_snoc (D : List Nat) (x : Nat) : val (D ++ [x]) = val D * 256 + x := by simp [val]
def Proper (D : List Nat) : Prop := (∀ x ∈ D, x < 256) ∧ ∀ h t, D = h :: t → h ≠ 0
theorem Proper.front {D : List Nat} {x : Nat} (h : Proper (D ++ [x])) : Proper D := by
 refine ⟨fun y hy => h.1 y (by simp [hy]), fun a t e => h.2 a (t ++ [x]) (by rw [e]; rfl)⟩
theorem snoc_of {D : List Nat} (h : D ≠ []) : ∃ E x, D = E ++ [x] := ⟨D.dropLast, D.getLast h, (List.dropLast_concat_getLast h).symm⟩
theorem val_pos : ∀ (n : Nat) (D : List Nat), D.length = n → Proper D → D ≠ [] → 0 < val D := by
 intro n
 induction n with
 | zero => intro D hl _ hne; exact absurd (List.eq_nil_of_length_eq_zero hl) hne
 | succ n ih =>
  intro D hl hp hne; obtain ⟨E, x, rfl⟩ := snoc_of hne; rw [val_snoc]
  by_cases hE : E = []
  · subst hE; have := hp.2 x [] rfl; omega
  · have := ih E (by simp at hl; omega) hp.front hE; omega
theorem beA_val : ∀ (f : Nat) (D : List Nat) (acc : List Int), D.length ≤ f → Proper D → beA f (val D) acc = D.map (fun x : Nat => (x : Int)) ++ acc := by
 intro f
 induction f with
 | zero =>
  intro D acc hl _; obtain rfl := List.eq_nil_of_length_eq_zero (Nat.le_zero.mp hl); rfl
 | succ f ih =>
  intro D acc hl hp
  by_cases hne : D = []
  · subst hne; exact beA_zero _ _
  · have hpos := val_pos _ D rfl hp hne; obtain ⟨E, x, rfl⟩ := snoc_of hne; have hx : x < 256 := hp.1 x (by simp); have this := ih E ((x : Int) :: acc) (by simp at hl; omega) hp.front; rw [beA, if_neg (by omega), val_snoc, show (val E * 256 + x) / 256 = val E by omega, show (val E * 256 + x) % 256 = x by omega, this]; simp
theorem digits : ∀ (f m : Nat), m < 256 ^ f → ∃ D : List Nat, D.length ≤ f ∧ Proper D ∧ val D = m := by
 intro f
 induction f with
 | zero => intro m h; exact ⟨[], by simp, ⟨by simp, by simp⟩, by simp at h; simp [val]; omega⟩
 | succ f ih =>
  intro m h
  by_cases h0 : m = 0
  · exact ⟨[], by simp, ⟨by simp, by simp⟩, by simp [val, h0]⟩
  · obtain ⟨D, h1, h2, h3⟩ := ih (m / 256) (by rw [Nat.pow_succ] at h; omega); refine ⟨D ++ [m % 256], by simp; omega, ⟨?_, ?_⟩, by rw [val_snoc, h3]; omega⟩
    · intro x hx
      rcases List.mem_append.mp hx with hx | hx
      · exact h2.1 x hx
      · simp at hx; omega
    · intro a t e
      cases D with
      | nil =>
       simp at e
       have : m / 256 = 0 := by rw [← h3]; rfl
       omega
      | cons b D =>
       simp at e; rw [← e.1]; exact h2.2 b D rfl
theorem be_digits (n : Nat) (hn : n ≤ 9007199254740992) : ∃ D : List Nat, D.length ≤ 7 ∧ Proper D ∧ val D = n ∧ be n = D.map (fun x : Nat => (x : Int)) := by
 obtain ⟨D, h1, h2, h3⟩ := digits 7 n (by omega); refine ⟨D, h1, h2, h3, ?_⟩; have := beA_val 8 D [] (by omega) h2; rw [h3, List.append_nil] at this; exact this
theorem byteN_list (s : ByteArray) (i : Nat) : byteN s i = (s.data.toList.getD i 0).toNat := by
 unfold byteN
 split
 · rename_i h
   have h' : i < s.data.toList.length := by rw [Array.length_toList]; exact h
   rw [List.getD_eq_getElem?_getD, List.getElem?_eq_getElem h']; rfl
 · rename_i h
   have h' : s.data.toList.length ≤ i := by rw [Array.length_toList]; exact Nat.le_of_not_lt h
   rw [List.getD_eq_getElem?_getD, List.getElem?_eq_none h']; rfl
theorem numB_bytes (n : Nat) (D : List Nat) (hb : be n = D.map (fun x : Nat => (x : Int))) (r : ByteArray) : (numB n ++ r).data.toList = UInt8.ofNat D.length :: (D.map UInt8.ofNat ++ r.data.toList) := by
 rw [ByteArray.data_append, Array.toList_append, numB, strOfNums_data, hb]; simp
theorem size_numB_eq (n : Nat) (D : List Nat) (hb : be n = D.map (fun x : Nat => (x : Int))) : (numB n).size = D.length + 1 := by
 rw [numB, strOfNums_size, hb]; simp
theorem numTo_val (s : ByteArray) (D : List Nat) (h : ∀ i, i < D.length → D[i]? = some (byteN s (i + 1))) : ∀ j, j ≤ D.length → numTo s j = val (D.take j) := by
 intro j
 induction j with
 | zero => intro _; rfl
 | succ j ih =>
  intro hj; rw [numTo, ih (by omega), List.take_add_one, h j (by omega)]; exact (val_snoc _ _).symm
theorem numberS_numB (n : Nat) (hn : n ≤ 9007199254740992) (r : ByteArray) : numberS (numB n ++ r) = ((n : Int), ((numB n).size : Int), 0) := by
 obtain ⟨D, h1, h2, h3, hb⟩ := be_digits n hn; have hs := size_numB_eq n D hb; have hbytes := numB_bytes n D hb r
 have b0 : byteN (numB n ++ r) 0 = D.length := by
  rw [byteN_list, hbytes]; simp; omega
 have bi : ∀ i, i < D.length → D[i]? = some (byteN (numB n ++ r) (i + 1)) := by
  intro i hi; rw [byteN_list, hbytes, List.getD_eq_getElem?_getD, List.getElem?_cons_succ, List.getElem?_append_left (by simp; exact hi), List.getElem?_map, List.getElem?_eq_getElem hi]; have := h2.1 D[i] (List.getElem_mem hi); simp; omega
 have hv : numTo (numB n ++ r) D.length = n := by rw [numTo_val _ D bi D.length (Nat.le_refl _), List.take_length, h3]
 have hz : (numB n ++ r).size = D.length + 1 + r.size := by rw [ByteArray.size_append, hs]
 unfold numberS; rw [b0, hv, hs, if_neg (by omega), if_neg (by omega), if_neg, if_neg (by omega), if_neg (by omega)]
 · rfl
 · rintro ⟨p1, _, p3⟩; have := bi 0 p1; rw [p3] at this
   cases hD : D with
   | nil => rw [hD] at p1; simp at p1
   | cons a t =>
    rw [hD] at this; simp at this; exact h2.2 a t hD this
theorem bytes_ext {a b : ByteArray} (h : a.data.toList = b.data.toList) : a = b := by
 cases a; cases b
 congr 1
 exact Array.toList_inj.mp h
def enc1 (t : ByteArray) : ByteArray := numB t.size ++ t
def encs : List ByteArray → ByteArray
 | [] => ⟨#[]⟩
 | t :: l => enc1 t ++ encs l
theorem size_enc1 (t : ByteArray) : (enc1 t).size = (numB t.size).size + t.size := ByteArray.size_append
theorem text_enc (t r : ByteArray) (ht : t.size ≤ 65536) (hr : r.size ≤ 1000000000000000) : wire_text.f (enc1 t ++ r) = some (t, ((enc1 t).size : Int), 0) := by
 have hz := size_numB t.size (by omega); have he := size_enc1 t; have hs : (enc1 t ++ r).size = (enc1 t).size + r.size := ByteArray.size_append
 have hn : numberS (enc1 t ++ r) = ((t.size : Int), ((numB t.size).size : Int), 0) := by
  unfold enc1; rw [ByteArray.append_assoc]; exact numberS_numB t.size (by omega) _
 have hx : (enc1 t ++ r).extract (numB t.size).size ((numB t.size).size + t.size) = t := by
  apply bytes_ext; rw [ByteArray.data_extract]; unfold enc1; simp only [ByteArray.data_append, Array.toList_extract, Array.toList_append, List.append_assoc]
  have l1 : (numB t.size).data.toList.length = (numB t.size).size := by rw [Array.length_toList]; rfl
  have l2 : t.data.toList.length = t.size := by rw [Array.length_toList]; rfl
  rw [List.extract_eq_take_drop, Array.toList_append, Array.toList_append, List.append_assoc, ← l1, List.drop_left, show (numB t.size).data.toList.length + t.size - (numB t.size).data.toList.length = t.size by omega, ← l2, List.take_left]
 have c1 : ¬ (t.size : Int) > 65536 := by omega
 have c2 : ¬ (t.size : Int) > ((enc1 t ++ r).size : Int) - ((numB t.size).size : Int) := by omega
 have c3 : (0 : Int) ≤ ((numB t.size).size : Int) := by omega
 have c4 : ((numB t.size).size : Int) ≤ ((((numB t.size).size + t.size : Nat)) : Int) := by omega
 have c5 : ((((numB t.size).size + t.size : Nat)) : Int) ≤ ((enc1 t ++ r).size : Int) := by omega
 have w1 : wrap64 (((enc1 t ++ r).size : Int) - ((numB t.size).size : Int)) = ((enc1 t ++ r).size : Int) - ((numB t.size).size : Int) := w64 (by omega) (by omega)
 have w2 : wrap64 (((numB t.size).size : Int) + (t.size : Int)) = (((numB t.size).size + t.size : Nat) : Int) := by rw [w64 (by clear w1; omega) (by clear w1; omega)]; clear w1; omega
 unfold wire_text.f wire_number.f; rw [hn]; simp only [Option.bind_some, if_true, if_neg c1, w1, if_neg c2, w2, if_pos c3, if_pos c4, if_pos c5, Int.toNat_natCast, hx, he]
end Go.Proofs.Ytipgldfbjlhpoab.Pure
