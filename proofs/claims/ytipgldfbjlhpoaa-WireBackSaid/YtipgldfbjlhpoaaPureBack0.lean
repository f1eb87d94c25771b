/- The plain side of WireBack: a number's bytes are told as that number, and bytes that are told as a number are that number's. -/
import Derived.Test.YtipgldfbjlhpoaaPureWire2
import Derived.Test.YtipgldfbjlhpoaaPureWireLays
namespace Go.Proofs.Ytipgldfbjlhpoaa.Pure
set_option linter.unusedVariables false
set_option linter.unusedSimpArgs false
open Go.RowKit Go.Proofs.Ytipgldfbjlhpoaa.P Go.Proofs.Ytipgldfbjlhpoaa.Wire Go.Proofs.YtipgldfbjlhpoaaW.PrintWords Go.Proofs.YtipgldfbjlhpoaaW.PrintLast

def val (D : List Nat) : Nat := D.foldl (fun a x => a * 256 + x) 0
theorem val_snoc (D : List Nat) (x : Nat) : val (D ++ [x]) = val D * 256 + x := by simp [val]
def Proper (D : List Nat) : Prop := (∀ x ∈ D, x < 256) ∧ ∀ h t, D = h :: t → h ≠ 0
theorem Proper.front {D : List Nat} {x : Nat} (h : Proper (D ++ [x])) : Proper D := by
  refine ⟨fun y hy => h.1 y (by simp [hy]), fun a t e => h.2 a (t ++ [x]) (by rw [e]; rfl)⟩
theorem snoc_of {D : List Nat} (h : D ≠ []) : ∃ E x, D = E ++ [x] := ⟨D.dropLast, D.getLast h, (List.dropLast_concat_getLast h).symm⟩
theorem val_pos : ∀ (n : Nat) (D : List Nat), D.length = n → Proper D → D ≠ [] → 0 < val D := by
  intro n
  induction n with
  | zero => intro D hl _ hne; exact absurd (List.eq_nil_of_length_eq_zero hl) hne
  | succ n ih =>
    intro D hl hp hne
    obtain ⟨E, x, rfl⟩ := snoc_of hne
    rw [val_snoc]
    by_cases hE : E = []
    · subst hE
      have := hp.2 x [] rfl
      omega
    · have := ih E (by simp at hl; omega) hp.front hE
      omega
theorem beA_val : ∀ (f : Nat) (D : List Nat) (acc : List Int), D.length ≤ f → Proper D → beA f (val D) acc = D.map (fun x : Nat => (x : Int)) ++ acc := by
  intro f
  induction f with
  | zero =>
    intro D acc hl _
    obtain rfl := List.eq_nil_of_length_eq_zero (Nat.le_zero.mp hl)
    rfl
  | succ f ih =>
    intro D acc hl hp
    by_cases hne : D = []
    · subst hne; exact beA_zero _ _
    · have hpos := val_pos _ D rfl hp hne
      obtain ⟨E, x, rfl⟩ := snoc_of hne
      have hx : x < 256 := hp.1 x (by simp)
      have this := ih E ((x : Int) :: acc) (by simp at hl; omega) hp.front
      rw [beA, if_neg (by omega), val_snoc, show (val E * 256 + x) / 256 = val E by omega, show (val E * 256 + x) % 256 = x by omega, this]
      simp
theorem digits : ∀ (f m : Nat), m < 256 ^ f → ∃ D : List Nat, D.length ≤ f ∧ Proper D ∧ val D = m := by
  intro f
  induction f with
  | zero => intro m h; exact ⟨[], by simp, ⟨by simp, by simp⟩, by simp at h; simp [val]; omega⟩
  | succ f ih =>
    intro m h
    by_cases h0 : m = 0
    · exact ⟨[], by simp, ⟨by simp, by simp⟩, by simp [val, h0]⟩
    · obtain ⟨D, h1, h2, h3⟩ := ih (m / 256) (by rw [Nat.pow_succ] at h; omega)
      refine ⟨D ++ [m % 256], by simp; omega, ⟨?_, ?_⟩, by rw [val_snoc, h3]; omega⟩
      · intro x hx
        rcases List.mem_append.mp hx with hx | hx
        · exact h2.1 x hx
        · simp at hx; omega
      · intro a t e
        cases D with
        | nil =>
          simp at e
          have : m / 256 = 0 := by rw [← h3]; rfl
          omega
        | cons b D =>
          simp at e
          rw [← e.1]
          exact h2.2 b D rfl
theorem be_digits (n : Nat) (hn : n ≤ 9007199254740992) : ∃ D : List Nat, D.length ≤ 7 ∧ Proper D ∧ val D = n ∧ be n = D.map (fun x : Nat => (x : Int)) := by
  obtain ⟨D, h1, h2, h3⟩ := digits 7 n (by omega)
  refine ⟨D, h1, h2, h3, ?_⟩
  have := beA_val 8 D [] (by omega) h2
  rw [h3, List.append_nil] at this
  exact this
theorem byteN_list (s : ByteArray) (i : Nat) : byteN s i = (s.data.toList.getD i 0).toNat := by
  unfold byteN
  split
  · rename_i h
    have h' : i < s.data.toList.length := by rw [Array.length_toList]; exact h
    rw [List.getD_eq_getElem?_getD, List.getElem?_eq_getElem h']
    rfl
  · rename_i h
    have h' : s.data.toList.length ≤ i := by rw [Array.length_toList]; exact Nat.le_of_not_lt h
    rw [List.getD_eq_getElem?_getD, List.getElem?_eq_none h']
    rfl
/-- A number's bytes, ahead of others: what stands where. -/
theorem numB_bytes (n : Nat) (D : List Nat) (hb : be n = D.map (fun x : Nat => (x : Int))) (r : ByteArray) : (numB n ++ r).data.toList = UInt8.ofNat D.length :: (D.map UInt8.ofNat ++ r.data.toList) := by
  rw [ByteArray.data_append, Array.toList_append, numB, strOfNums_data, hb]
  simp
theorem size_numB_eq (n : Nat) (D : List Nat) (hb : be n = D.map (fun x : Nat => (x : Int))) : (numB n).size = D.length + 1 := by
  rw [numB, strOfNums_size, hb]; simp
theorem numTo_val (s : ByteArray) (D : List Nat) (h : ∀ i, i < D.length → D[i]? = some (byteN s (i + 1))) : ∀ j, j ≤ D.length → numTo s j = val (D.take j) := by
  intro j
  induction j with
  | zero => intro _; rfl
  | succ j ih =>
    intro hj
    rw [numTo, ih (by omega), List.take_add_one, h j (by omega)]
    exact (val_snoc _ _).symm
theorem numberS_numB (n : Nat) (hn : n ≤ 9007199254740992) (r : ByteArray) : numberS (numB n ++ r) = ((n : Int), ((numB n).size : Int), 0) := by
  obtain ⟨D, h1, h2, h3, hb⟩ := be_digits n hn
  have hs := size_numB_eq n D hb
  have hbytes := numB_bytes n D hb r
  have b0 : byteN (numB n ++ r) 0 = D.length := by
    rw [byteN_list, hbytes]
    simp
    omega
  have bi : ∀ i, i < D.length → D[i]? = some (byteN (numB n ++ r) (i + 1)) := by
    intro i hi
    rw [byteN_list, hbytes, List.getD_eq_getElem?_getD, List.getElem?_cons_succ, List.getElem?_append_left (by simp; exact hi), List.getElem?_map, List.getElem?_eq_getElem hi]
    have := h2.1 D[i] (List.getElem_mem hi)
    simp
    omega
  have hv : numTo (numB n ++ r) D.length = n := by rw [numTo_val _ D bi D.length (Nat.le_refl _), List.take_length, h3]
  have hz : (numB n ++ r).size = D.length + 1 + r.size := by rw [ByteArray.size_append, hs]
  unfold numberS
  rw [b0, hv, hs, if_neg (by omega), if_neg (by omega), if_neg, if_neg (by omega), if_neg (by omega)]
  · rfl
  · rintro ⟨p1, _, p3⟩
    have := bi 0 p1
    rw [p3] at this
    cases hD : D with
    | nil => rw [hD] at p1; simp at p1
    | cons a t =>
      rw [hD] at this
      simp at this
      exact h2.2 a t hD this
theorem numberS_inv (s : ByteArray) (n a : Int) (h : numberS s = (n, a, 0)) : byteN s 0 ≤ 7 ∧ byteN s 0 < s.size ∧ (0 < byteN s 0 → byteN s 1 ≠ 0) ∧ n = (numTo s (byteN s 0) : Int) ∧ a = (byteN s 0 : Int) + 1 ∧ numTo s (byteN s 0) ≤ 9007199254740992 := by
  unfold numberS at h
  split at h
  · simp at h
  split at h
  · simp at h
  split at h
  · simp at h
  split at h
  · simp at h
  split at h
  · simp at h
  · simp at h
    refine ⟨by omega, by omega, ?_, h.1.symm, h.2.symm, by omega⟩
    intro hp hz
    rename_i q1 q2 q3 q4 q5
    exact q3 ⟨hp, by omega, hz⟩
theorem numB_canon (s : ByteArray) (n a : Nat) (h : numberS s = ((n : Int), (a : Int), 0)) : s.extract 0 a = numB n := by
  obtain ⟨h7, hsz, hnz, hn, ha, hle⟩ := numberS_inv s _ _ h
  obtain ⟨k, hk⟩ : ∃ k, k = byteN s 0 := ⟨_, rfl⟩
  rw [← hk] at h7 hsz hnz hn ha hle
  obtain ⟨D, hD⟩ : ∃ D, D = (List.range k).map (fun i => byteN s (i + 1)) := ⟨_, rfl⟩
  have hl : D.length = k := by rw [hD]; simp
  have hi : ∀ i, i < D.length → D[i]? = some (byteN s (i + 1)) := by
    intro i h
    rw [hD, List.getElem?_map, List.getElem?_range (by omega)]
    rfl
  have hp : Proper D := by
    refine ⟨?_, ?_⟩
    · intro x hx
      rw [hD] at hx
      simp at hx
      obtain ⟨i, _, rfl⟩ := hx
      exact byteN_lt _ _
    · intro x t e
      have h1 : D[0]? = some x := by rw [e]; rfl
      have h2 : 0 < D.length := by rw [e]; simp
      rw [hi 0 h2] at h1
      cases h1
      exact hnz (by omega)
  have hv : val D = n := by
    have := numTo_val s D hi D.length (Nat.le_refl _)
    rw [List.take_length, hl] at this
    omega
  have hb : be n = D.map (fun x : Nat => (x : Int)) := by
    have := beA_val 8 D [] (by omega) hp
    rw [hv, List.append_nil] at this
    exact this
  have e1 := numB_bytes n D hb ⟨#[]⟩
  have e2 : numB n ++ (⟨#[]⟩ : ByteArray) = numB n := by
    have : (⟨#[]⟩ : ByteArray) = ByteArray.empty := rfl
    rw [this, ByteArray.append_empty]
  rw [e2] at e1
  obtain rfl : a = k + 1 := by omega
  have e3 : (s.extract 0 (k + 1)).data.toList = (numB n).data.toList := by
    rw [e1]
    apply List.ext_getElem?
    intro i
    have e4 : (s.extract 0 (k + 1)).data.toList = s.data.toList.take (k + 1) := by
      rw [ByteArray.data_extract]
      simp
    rw [e4]
    have hsl : s.data.toList.length = s.size := by rw [Array.length_toList]; rfl
    have hat : ∀ j, j < s.size → s.data.toList[j]? = some (UInt8.ofNat (byteN s j)) := by
      intro j hj
      have hj' : j < s.data.toList.length := by omega
      rw [byteN_list, List.getD_eq_getElem?_getD, List.getElem?_eq_getElem hj']
      simp
    by_cases hik : i < k + 1
    · rw [List.getElem?_take_of_lt hik, hat i (by omega)]
      cases i with
      | zero => rw [← hk]; simp [hl]
      | succ i =>
        rw [List.getElem?_cons_succ, List.getElem?_append_left (by simp; omega), List.getElem?_map, hi i (by omega)]
        rfl
    · rw [List.getElem?_eq_none (by simp; omega), List.getElem?_eq_none (by simp; omega)]
  cases hx : s.extract 0 (k + 1)
  cases hy : numB n
  rw [hx, hy] at e3
  congr 1
  exact Array.toList_inj.mp e3
end Go.Proofs.Ytipgldfbjlhpoaa.Pure
