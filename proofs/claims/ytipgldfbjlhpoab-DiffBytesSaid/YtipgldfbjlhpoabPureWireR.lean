/- The plain side of layer 1's reading: both readers tell the same. -/
import Derived.Test.YtipgldfbjlhpoabPureWire
import Derived.Test.YtipgldfbjlhpoabPRWireR
namespace Go.Proofs.Ytipgldfbjlhpoab.Pure
set_option linter.unusedVariables false
set_option linter.unusedSimpArgs false
open Go.RowKit Go.Proofs.Ytipgldfbjlhpoab.P Go.Proofs.Ytipgldfbjlhpoab.Wire Go.Proofs.YtipgldfbjlhpoabW.PrintWords Go.Proofs.YtipgldfbjlhpoabW.PrintLast

/-- The reference's reading of a number. -/
def rnumS (s : ByteArray) : ByteArray × Int × Int := if (numberS s).2.2 = 0 then (s.extract (numberS s).2.1.toNat s.size, 0, (numberS s).1) else (s, (numberS s).2.2, 0)
theorem rnum_l0 (s : ByteArray) (e : Int) (x : Nat) (hx : x ≤ 7) (hs : x < s.size) : ∀ (d k i : Nat), i + d = x + 1 → 1 ≤ i → d < k →
    footbridgeref01_R_Num.l0 k (x : Int) (numTo s (i - 1) : Int) (i : Int) s e = some (if 9007199254740992 < numTo s x then (s, 3, 0) else (s.extract (x + 1) s.size, 0, (numTo s x : Int))) := by
  intro d
  induction d with
  | zero =>
    intro k i hi h1 hk
    obtain ⟨k, rfl⟩ : ∃ q, k = q + 1 := ⟨k - 1, by omega⟩
    obtain rfl : i = x + 1 := by omega
    have w1 : wrap64 (1 + (x : Int)) = ((x + 1 : Nat) : Int) := by rw [w64 (by omega) (by omega)]; omega
    rw [footbridgeref01_R_Num.l0, if_neg (by omega), show x + 1 - 1 = x by omega, w1]
    by_cases h : 9007199254740992 < numTo s x
    · rw [if_pos (by omega), if_pos h]
    · rw [if_neg (by omega), if_neg h, if_pos (by omega), if_pos (by omega), Int.toNat_natCast]
  | succ d ih =>
    intro k i hi h1 hk
    obtain ⟨k, rfl⟩ : ∃ q, k = q + 1 := ⟨k - 1, by omega⟩
    have hn : numTo s (i - 1) < 281474976710656 := Nat.lt_of_lt_of_le (numTo_lt s (i - 1)) (show 256 ^ (i - 1) ≤ 256 ^ 6 from Nat.pow_le_pow_right (by omega) (by omega))
    have hb := byteN_lt s i
    have this := ih k (i + 1) (by omega) (by omega) (by omega)
    rw [show i + 1 - 1 = i by omega] at this
    have c1 : (i : Int) ≤ (x : Int) := by omega
    have c2 : 0 ≤ (i : Int) := by omega
    have c3 : (i : Int) < (s.size : Int) := by omega
    have hstep : numTo s i = numTo s (i - 1) * 256 + byteN s i := by
      obtain ⟨j, rfl⟩ : ∃ j, i = j + 1 := ⟨i - 1, by omega⟩
      rfl
    have w3 : wrap64 (bt s (i : Int)) = (byteN s i : Int) := by rw [bt_byteN, w64 (by omega) (by omega)]
    generalize numTo s (i - 1) = p at *
    generalize byteN s i = q at *
    have w2 : wrap64 ((p : Int) * 256) = (p : Int) * 256 := w64 (by omega) (by omega)
    have w4 : wrap64 ((p : Int) * 256 + (q : Int)) = (numTo s i : Int) := by
      rw [hstep, w64 (by omega) (by omega)]
      omega
    have w5 : wrap64 ((i : Int) + 1) = ((i + 1 : Nat) : Int) := by rw [w64 (by omega) (by omega)]; omega
    rw [footbridgeref01_R_Num.l0, if_pos c1, if_pos c2, if_pos c3, w2, w3, w4, w5, this]
theorem rnum_j0 (s : ByteArray) (e : Int) (x k : Nat) (b : Bool) (hx : x ≤ 7) (hs : 0 < s.size) (hk : 12 ≤ k) (hs2 : s.size ≤ 1000000000000000) :
    footbridgeref01_R_Num.j0 k (x : Int) b s e = some (if b = true then (s, 6, 0) else if s.size ≤ x then (s, 5, 0) else if 9007199254740992 < numTo s x then (s, 3, 0) else (s.extract (x + 1) s.size, 0, (numTo s x : Int))) := by
  obtain ⟨k, rfl⟩ : ∃ q, k = q + 1 := ⟨k - 1, by omega⟩
  rw [footbridgeref01_R_Num.j0]
  cases b with
  | true => rfl
  | false =>
    have w : wrap64 ((s.size : Int) - 1) = (s.size : Int) - 1 := w64 (by omega) (by omega)
    simp only [Bool.false_eq_true, if_false, w]
    by_cases h : s.size ≤ x
    · rw [if_pos (by omega), if_pos h]
    · rw [if_neg (by omega), if_neg h]
      exact rnum_l0 s e x hx (by omega) x k 1 (by omega) (by omega) (by omega)
theorem rnum_f (s : ByteArray) (k : Nat) (hk : 12 ≤ k) (hs2 : s.size ≤ 1000000000000000) : footbridgeref01_R_Num.f k s 0 = some (rnumS s) := by
  unfold footbridgeref01_R_Num.f
  rw [if_pos rfl]
  by_cases h0 : s.size = 0
  · rw [if_pos ((toList_nil s).2 h0)]
    unfold rnumS numberS
    simp [h0]
  · have hb0 := byteN_lt s 0
    have hb1 := byteN_lt s 1
    have w1 : wrap64 (bt s 0) = (byteN s 0 : Int) := by rw [show (0 : Int) = ((0 : Nat) : Int) from rfl, bt_byteN, w64 (by omega) (by omega)]
    have e1 : bt s 1 = (byteN s 1 : Int) := bt_byteN s 1
    rw [if_neg (fun h => h0 ((toList_nil s).1 h)), if_pos (by omega), w1, e1]
    by_cases h7 : 7 < byteN s 0
    · rw [if_pos (by omega)]
      unfold rnumS numberS
      simp [h0, h7]
    · rw [if_neg (by omega)]
      have hj : ∀ b : Bool, (b = true ↔ 0 < byteN s 0 ∧ 1 < s.size ∧ byteN s 1 = 0) → footbridgeref01_R_Num.j0 k (byteN s 0 : Int) b s 0 = some (rnumS s) := by
        intro b hb
        rw [rnum_j0 s 0 (byteN s 0) k b (by omega) (by omega) hk hs2]
        congr 1
        unfold rnumS numberS
        rw [if_neg h0, if_neg h7]
        by_cases hc : 0 < byteN s 0 ∧ 1 < s.size ∧ byteN s 1 = 0
        · rw [if_pos (hb.2 hc), if_pos hc]; rfl
        · rw [if_neg (fun h => hc (hb.1 h)), if_neg hc]
          by_cases hd : s.size ≤ byteN s 0
          · rw [if_pos hd, if_pos hd]; rfl
          · rw [if_neg hd, if_neg hd]
            by_cases hf : 9007199254740992 < numTo s (byteN s 0)
            · rw [if_pos hf, if_pos hf]; rfl
            · rw [if_neg hf, if_neg hf]; rfl
      by_cases hp : 0 < byteN s 0
      · rw [if_pos (by omega)]
        by_cases h1 : 1 < s.size
        · rw [if_pos (by omega), if_pos (by omega)]
          refine hj _ ?_
          rw [beq_iff_eq]
          omega
        · rw [if_neg (by omega)]
          exact hj _ (by simp; omega)
      · rw [if_neg (by omega)]
        exact hj _ (by simp; omega)
/-- A number is told alike. -/
theorem num_step (s : ByteArray) (e : Int) (k : Nat) (hk : 12 ≤ k) (hs : s.size ≤ 1000000000000000) : ∃ (v : Int) (st : ByteArray) (e' : Int), wire_Reader_Num.f s e = some (v, st, e') ∧ footbridgeref01_R_Num.f k s e = some (st, e', v) ∧ st.size ≤ s.size := by
  by_cases he : e = 0
  · subst he
    rw [rnum_f s k hk hs]
    unfold wire_Reader_Num.f wire_Reader_stopped.f wire_number.f rnumS
    rcases numberS_cases s with ⟨e2, h2, hn⟩ | ⟨n, a, hn, h1, h8, ha, hm⟩
    · rw [hn]
      refine ⟨0, s, e2, ?_, ?_, Nat.le_refl _⟩
      · simp only [Option.bind_some, bne_self_eq_false, Bool.false_eq_true, if_false, hn, take_bad s 0 0 e2 h2]
      · rw [if_neg h2]
    · rw [hn]
      refine ⟨n, s.extract a s.size, 0, ?_, ?_, by rw [size_rest]; omega⟩
      · simp only [Option.bind_some, bne_self_eq_false, Bool.false_eq_true, if_false, hn, take_ok s 0 a ha]
      · rw [if_pos rfl]
        simp only [Int.toNat_natCast]
  · refine ⟨0, s, e, ?_, ?_, Nat.le_refl _⟩
    · unfold wire_Reader_Num.f wire_Reader_stopped.f
      simp [he]
    · unfold footbridgeref01_R_Num.f
      rw [if_neg he]
/-- A text is told alike. -/
theorem text_cases (s : ByteArray) (k : Nat) (hk : 12 ≤ k) (hs : s.size ≤ 1000000000000000) : (∃ e : Int, e ≠ 0 ∧ wire_text.f s = some (⟨#[]⟩, 0, e) ∧ footbridgeref01_R_Text.f k s 0 = some (s, e, ⟨#[]⟩)) ∨
    (∃ (t : ByteArray) (z : Nat), z ≤ s.size ∧ wire_text.f s = some (t, (z : Int), 0) ∧ footbridgeref01_R_Text.f k s 0 = some (s.extract z s.size, 0, t)) := by
  unfold wire_text.f footbridgeref01_R_Text.f wire_number.f
  rw [rnum_f s k hk hs]
  unfold rnumS
  rcases numberS_cases s with ⟨e2, h2, hn⟩ | ⟨n, a, hn, h1, h8, ha, hm⟩
  · rw [hn]
    refine .inl ⟨e2, h2, ?_, ?_⟩
    · simp only [Option.bind_some, if_neg h2]
    · rw [if_neg h2]
      simp only [Option.bind_some, if_neg h2]
  · rw [hn]
    have hsz := size_rest s a
    have c0 : (0 : Int) ≤ (n : Int) := by omega
    have c1 : (0 : Int) ≤ (a : Int) := by omega
    have c2 : (a : Int) ≤ ((a + n : Nat) : Int) := by omega
    by_cases hbig : (n : Int) > 65536
    · refine .inl ⟨4, by decide, ?_, ?_⟩
      · simp only [Option.bind_some, if_true, if_pos hbig]
      · simp only [Option.bind_some, if_true, if_pos hbig]
    · by_cases hcut : s.size - a < n
      · have d1 : (n : Int) > (s.size : Int) - (a : Int) := by omega
        have d2 : (n : Int) > ((s.size - a : Nat) : Int) := by omega
        refine .inl ⟨5, by decide, ?_, ?_⟩
        · simp only [Option.bind_some, if_true, if_neg hbig, w64 (show 0 ≤ (s.size : Int) - (a : Int) by omega) (by omega), if_pos d1]
        · simp only [Option.bind_some, if_true, if_neg hbig, Int.toNat_natCast, hsz, if_pos d2]
      · have d1 : ¬ (n : Int) > (s.size : Int) - (a : Int) := by omega
        have d2 : ¬ (n : Int) > ((s.size - a : Nat) : Int) := by omega
        have d3 : ((a + n : Nat) : Int) ≤ (s.size : Int) := by omega
        have d4 : (n : Int) ≤ ((s.size - a : Nat) : Int) := by omega
        have d5 : a + n ≤ s.size := by omega
        have hx : (s.extract a s.size).extract 0 n = s.extract a (a + n) := by
          rw [ByteArray.extract_extract]
          congr 1
          omega
        have w2 : wrap64 ((a : Int) + (n : Int)) = ((a + n : Nat) : Int) := by rw [w64 (by omega) (by omega)]; omega
        have hy := rest_rest s a n ha
        rw [hsz] at hy
        refine .inr ⟨s.extract a (a + n), a + n, d5, ?_, ?_⟩
        · simp only [Option.bind_some, if_true, if_neg hbig, w64 (show 0 ≤ (s.size : Int) - (a : Int) by clear w2; omega) (by clear w2; omega), if_neg d1, w2, if_pos c1, if_pos c2, if_pos d3, Int.toNat_natCast]
        · simp only [Option.bind_some, if_true, if_neg hbig, Int.toNat_natCast, hsz, if_neg d2, if_pos c0, if_pos d4, hx, hy]
theorem text_step (s : ByteArray) (e : Int) (k : Nat) (hk : 12 ≤ k) (hs : s.size ≤ 1000000000000000) : ∃ (v : ByteArray) (st : ByteArray) (e' : Int), wire_Reader_Text.f s e = some (v, st, e') ∧ footbridgeref01_R_Text.f k s e = some (st, e', v) ∧ st.size ≤ s.size := by
  by_cases he : e = 0
  · subst he
    unfold wire_Reader_Text.f wire_Reader_stopped.f
    rcases text_cases s k hk hs with ⟨e2, h2, hi, hr⟩ | ⟨t, z, hz, hi, hr⟩
    · refine ⟨⟨#[]⟩, s, e2, ?_, hr, Nat.le_refl _⟩
      simp only [Option.bind_some, bne_self_eq_false, Bool.false_eq_true, if_false, hi, take_bad s 0 0 e2 h2]
    · refine ⟨t, s.extract z s.size, 0, ?_, hr, by rw [size_rest]; omega⟩
      simp only [Option.bind_some, bne_self_eq_false, Bool.false_eq_true, if_false, hi, take_ok s 0 z hz]
  · refine ⟨⟨#[]⟩, s, e, ?_, ?_, Nat.le_refl _⟩
    · unfold wire_Reader_Text.f wire_Reader_stopped.f
      simp [he]
    · unfold footbridgeref01_R_Text.f footbridgeref01_R_Num.f
      rw [if_neg he, Option.bind_some, if_neg he]
theorem done_step (s : ByteArray) (e : Int) : ∃ v : Int, wire_Reader_Done.f s e = some (v, s, e) ∧ footbridgeref01_R_Done.f s e = some v := by
  unfold wire_Reader_Done.f wire_Reader_Err.f footbridgeref01_R_Done.f
  simp only [Option.bind_some]
  by_cases he : e = 0
  · rw [if_pos he, if_pos he]
    by_cases hs : s.toList = ([] : List UInt8)
    · rw [if_pos hs, if_pos hs]; exact ⟨_, rfl, rfl⟩
    · rw [if_neg hs, if_neg hs]; exact ⟨_, rfl, rfl⟩
  · rw [if_neg he, if_neg he]; exact ⟨_, rfl, rfl⟩
end Go.Proofs.Ytipgldfbjlhpoab.Pure
