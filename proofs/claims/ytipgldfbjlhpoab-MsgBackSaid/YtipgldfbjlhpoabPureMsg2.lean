/- The plain side of layer 37: a message's bytes. -/
import Derived.Test.YtipgldfbjlhpoabPureMsg1
import Derived.Test.YtipgldfbjlhpoabPR37P
import Derived.Test.YtipgldfbjlhpoabPureRd
namespace Go.Proofs.Ytipgldfbjlhpoab.Pure
set_option linter.unusedVariables false
set_option linter.unusedSimpArgs false
open Go.RowKit Go.Proofs.Ytipgldfbjlhpoab.P Go.Proofs.Ytipgldfbjlhpoab.Wire Go.Proofs.Ytipgldfbjlhpoab.Sha Go.Proofs.Ytipgldfbjlhpoab.Msg Go.Proofs.YtipgldfbjlhpoabW.PrintWords Go.Proofs.YtipgldfbjlhpoabW.PrintLast

def numsB : List Int → ByteArray
  | [] => ⟨#[]⟩
  | n :: l => numB n.toNat ++ numsB l
def encM (kind : Int) (f : ByteArray) (ts ls : List ByteArray) (ns : List Int) : ByteArray := numB kind.toNat ++ (enc1 f ++ (lstB ts ++ (lstB ls ++ numsB ns)))
theorem mtext_f (s : ByteArray) (hs : s.size ≤ 65536) : wire_Text.f s = some (enc1 s, 0) := by
  unfold wire_Text.f
  rw [if_neg (by omega), num_f _ (by omega), Option.bind_some, if_pos (by have := size_numB s.size (by omega); simp only; omega)]
  rfl
theorem menc1_le (s : ByteArray) (hs : s.size ≤ 65536) : (enc1 s).size ≤ s.size + 9 := by
  rw [size_enc1]
  have := size_numB s.size (by omega)
  omega
theorem join_zero {l : List ByteArray} {k : Nat} {a : ByteArray} (hk : 400 ≤ k) (h : wire_Join.f k l = some (a, 0)) : l.length ≤ 256 ∧ (∀ t ∈ l, t.size ≤ 65536) ∧ (encs l).size ≤ 17920000 ∧ a = lstB l ∧ (lstB l).size ≤ 17920009 := by
  by_cases hl : l.length ≤ 256
  · rcases join_is l k hk hl with h1 | ⟨h1, h2, h3⟩
    · rw [h1] at h
      simp at h
    · rw [h3] at h
      have hz := size_numB l.length (by omega)
      refine ⟨hl, h1, h2, ?_, ?_⟩
      · simp only [Option.some.injEq, Prod.mk.injEq] at h
        exact h.1.symm
      · unfold lstB
        rw [ByteArray.size_append]
        omega
  · exfalso
    unfold wire_Join.f at h
    rw [if_pos (by omega)] at h
    simp at h
theorem cat_ok {a b : ByteArray} (h : a.size + b.size ≤ 9223372036854775807) : cat a b = some (a ++ b) := if_pos h
theorem putNs_is : ∀ (ns : List Int) (o : ByteArray), (∀ n ∈ ns, 0 ≤ n ∧ n ≤ 1099511627776) → o.size + 9 * ns.length ≤ 1000000000000 → putNs o ns = some (o ++ numsB ns) := by
  intro ns
  induction ns with
  | nil => intro o _ _; rw [putNs, numsB, append_none]
  | cons n l ih =>
    intro o hn ho
    obtain ⟨h0, h1⟩ := hn n (by simp)
    obtain ⟨m, rfl⟩ := Int.eq_ofNat_of_zero_le h0
    have hz := size_numB m (by omega)
    have hs : (o ++ numB m).size = o.size + (numB m).size := ByteArray.size_append
    rw [List.length_cons] at ho
    rw [putNs, num_f m (by omega), Option.bind_some, cat_ok (by simp only; omega), Option.bind_some]
    simp only
    rw [ih _ (fun x hx => hn x (by simp [hx])) (by omega), numsB, Int.toNat_natCast, ByteArray.append_assoc]
theorem rputNs (kind : Int) (f : ByteArray) (ts ls : List ByteArray) (ns : List Int) (hn : ∀ n ∈ ns, 0 ≤ n ∧ n ≤ 1099511627776) (hl : ns.length ≤ 1000) : ∀ (d k i : Nat) (o : ByteArray), i + d = ns.length → d + 20 ≤ k → o.size + 9 * d ≤ 1000000000000 →
    footbridgeref37_Put.l0 k o (i : Int) kind f ts ls ns = some (o ++ numsB (ns.drop i), 0) := by
  intro d
  induction d with
  | zero =>
    intro k i o hi hk ho
    obtain ⟨k, rfl⟩ : ∃ q, k = q + 1 := ⟨k - 1, by omega⟩
    rw [footbridgeref37_Put.l0, if_neg (by omega), List.drop_eq_nil_of_le (by omega), numsB, append_none]
  | succ d ih =>
    intro k i o hi hk ho
    obtain ⟨k, rfl⟩ : ∃ q, k = q + 1 := ⟨k - 1, by omega⟩
    have hil : i < ns.length := by omega
    have hrd : rd ns (i : Int) = ns[i] := by
      unfold rd
      rw [Int.toNat_natCast, List.getD_eq_getElem?_getD, List.getElem?_eq_getElem hil]
      rfl
    have w : wrap64 ((i : Int) + 1) = ((i + 1 : Nat) : Int) := by rw [w64 (by omega) (by omega)]; omega
    have hd : ns.drop i = ns[i] :: ns.drop (i + 1) := List.drop_eq_getElem_cons hil
    obtain ⟨h0, h1⟩ := hn ns[i] (List.getElem_mem hil)
    obtain ⟨m, hm⟩ := Int.eq_ofNat_of_zero_le h0
    have hz := size_numB m (by omega)
    have hs : (o ++ numB m).size = o.size + (numB m).size := ByteArray.size_append
    rw [footbridgeref37_Put.l0, if_pos (show (i : Int) < (ns.length : Int) by omega), if_pos (show (0 : Int) ≤ (i : Int) by omega), hrd, w, hd, numsB, hm]
    unfold footbridgeref14_Num.f
    rw [rlay_f _ k (by omega), num_f m (by omega)]
    simp only [Option.bind_some]
    rw [if_pos (by omega), ih k (i + 1) _ (by omega) (by omega) (by omega), Int.toNat_natCast, ByteArray.append_assoc]
theorem put_ok {kind : Int} {f : ByteArray} {ts ls : List ByteArray} {ns : List Int} (ok : Ok kind f ts ls ns) (hc : msg_Check.f kind f ts ls ns = some 0) : msg_Put.f kind f ts ls ns = some (encM kind f ts ls ns, 0) := by
  obtain ⟨⟨q, rfl, hq1, hq2, hqn, _⟩, hf, hts, hns, hfew, ⟨a, ha⟩, ⟨b, hb⟩⟩ := ok
  obtain ⟨_, _, _, ea, za⟩ := join_zero (by decide) ha
  obtain ⟨_, _, _, eb, zb⟩ := join_zero (by decide) hb
  subst ea
  subst eb
  have y1 := menc1_le f (by omega)
  have y2 := size_numB q (by omega)
  have s1 : (numB q ++ enc1 f).size = (numB q).size + (enc1 f).size := ByteArray.size_append
  have s2 : (numB q ++ enc1 f ++ lstB ts).size = (numB q ++ enc1 f).size + (lstB ts).size := ByteArray.size_append
  have s3 : (numB q ++ enc1 f ++ lstB ts ++ lstB ls).size = (numB q ++ enc1 f ++ lstB ts).size + (lstB ls).size := ByteArray.size_append
  have s0 : (⟨#[]⟩ : ByteArray).size = 0 := rfl
  unfold msg_Put.f
  rw [hc, Option.bind_some, if_pos rfl, num_f q (by omega), Option.bind_some]
  simp only
  rw [cat_ok (by omega), Option.bind_some, none_append, mtext_f f (by omega), Option.bind_some]
  simp only
  rw [cat_ok (by omega), Option.bind_some, ha, Option.bind_some]
  simp only
  rw [cat_ok (by omega), Option.bind_some, hb, Option.bind_some]
  simp only
  rw [cat_ok (by omega), Option.bind_some, putNs_is ns _ hfew (by omega), Option.bind_some]
  unfold encM
  rw [Int.toNat_natCast]
  simp only [ByteArray.append_assoc]
theorem rput_ok {kind : Int} {f : ByteArray} {ts ls : List ByteArray} {ns : List Int} (k : Nat) (hk : 1000 ≤ k) (ok : Ok kind f ts ls ns) (hc : footbridgeref37_Check.f k kind f ts ls ns = some 0) : footbridgeref37_Put.f k kind f ts ls ns = some (encM kind f ts ls ns, 0) := by
  obtain ⟨⟨q, rfl, hq1, hq2, hqn, _⟩, hf, hts, hns, hfew, ⟨a, ha⟩, ⟨b, hb⟩⟩ := ok
  obtain ⟨_, _, _, ea, za⟩ := join_zero (by decide) ha
  obtain ⟨_, _, _, eb, zb⟩ := join_zero (by decide) hb
  subst ea
  subst eb
  obtain ⟨ra, j1, j2⟩ := join_ff ts joinK k (by decide) (by omega)
  obtain ⟨rb, j3, j4⟩ := join_ff ls joinK k (by decide) (by omega)
  rw [ha] at j1
  rw [hb] at j3
  obtain rfl := Option.some.inj j1
  obtain rfl := Option.some.inj j3
  have y1 := menc1_le f (by omega)
  have y2 := size_numB q (by omega)
  have s1 : (numB q ++ enc1 f).size = (numB q).size + (enc1 f).size := ByteArray.size_append
  have s2 : (numB q ++ enc1 f ++ lstB ts).size = (numB q ++ enc1 f).size + (lstB ts).size := ByteArray.size_append
  have s3 : (numB q ++ enc1 f ++ lstB ts ++ lstB ls).size = (numB q ++ enc1 f ++ lstB ts).size + (lstB ls).size := ByteArray.size_append
  unfold footbridgeref37_Put.f footbridgeref14_Num.f footbridgeref14_Text.f
  rw [hc, Option.bind_some, if_pos rfl, j2, Option.bind_some, j4, Option.bind_some, rlay_f _ k (by omega), num_f q (by omega), Option.bind_some, Option.bind_some, lay_text _ k (by omega), mtext_f f (by omega), Option.bind_some, Option.bind_some]
  simp only
  rw [if_pos (by omega), if_pos (by omega), if_pos (by omega)]
  have := rputNs (q : Int) f ts ls ns hfew (by omega) ns.length k 0 (numB q ++ enc1 f ++ lstB ts ++ lstB ls) (by omega) (by omega) (by omega)
  rw [List.drop_zero] at this
  rw [show (0 : Int) = ((0 : Nat) : Int) from rfl, this]
  unfold encM
  rw [Int.toNat_natCast]
  simp only [ByteArray.append_assoc]
  rfl
theorem put_eq (kind : Int) (f : ByteArray) (ts ls : List ByteArray) (ns : List Int) (k : Nat) (hk : f.size + 2000 ≤ k) (hf : f.size ≤ 1000000000000000) :
    ∃ r e, msg_Put.f kind f ts ls ns = some (r, e) ∧ footbridgeref37_Put.f k kind f ts ls ns = some (r, e) ∧ (e = 0 → Ok kind f ts ls ns ∧ r = encM kind f ts ls ns ∧ msg_Check.f kind f ts ls ns = some 0) ∧ (e ≠ 0 → r = ⟨#[]⟩) := by
  obtain ⟨c, h1, h2, h3⟩ := check_eq kind f ts ls ns k hk hf
  by_cases hc : c = 0
  · subst hc
    exact ⟨_, 0, put_ok (h3 rfl) h1, rput_ok k (by omega) (h3 rfl) h2, fun _ => ⟨h3 rfl, rfl, h1⟩, fun h => absurd rfl h⟩
  · refine ⟨⟨#[]⟩, c, ?_, ?_, fun h => absurd h hc, fun _ => rfl⟩
    · unfold msg_Put.f
      rw [h1, Option.bind_some, if_neg hc]
    · unfold footbridgeref37_Put.f
      rw [h2, Option.bind_some, if_neg hc]
end Go.Proofs.Ytipgldfbjlhpoab.Pure
