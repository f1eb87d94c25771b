/- The plain side of layer 37: kinds, names, why a message may not be. -/
import Derived.Test.YtipgldfbjlhpoabHMsg3
import Derived.Test.YtipgldfbjlhpoabPR37
import Derived.Test.YtipgldfbjlhpoabPureBackL
namespace Go.Proofs.Ytipgldfbjlhpoab.Pure
set_option linter.unusedVariables false
set_option linter.unusedSimpArgs false
set_option maxRecDepth 100000
open Go.RowKit Go.Proofs.Ytipgldfbjlhpoab.P Go.Proofs.Ytipgldfbjlhpoab.Wire Go.Proofs.Ytipgldfbjlhpoab.Sha Go.Proofs.Ytipgldfbjlhpoab.Msg Go.Proofs.YtipgldfbjlhpoabW.PrintWords Go.Proofs.YtipgldfbjlhpoabW.PrintLast

theorem letter_eq : ∀ c : Fin 256, footbridgeref03_letter.f ((c.val : Nat) : Int) = some (letB ((c.val : Nat) : Int)) := by decide +kernel
theorem plain_l0 (s : ByteArray) (hs : s.size ≤ 1000000000000000) : ∀ (d k i : Nat), i + d = s.size → d < k → allL s i = true → footbridgeref03_Plain.l0 k s (i : Int) = some (decide (0 < s.size ∧ s.size ≤ 64) && allL s s.size) := by
  intro d
  induction d with
  | zero =>
    intro k i hi hk hl
    obtain ⟨k, rfl⟩ : ∃ q, k = q + 1 := ⟨k - 1, by omega⟩
    obtain rfl : i = s.size := by omega
    rw [footbridgeref03_Plain.l0, if_neg (by omega), hl, Bool.and_true]
    by_cases h : (s.size : Int) ≥ 1
    · rw [if_pos h]
      congr 1
      rw [decide_eq_decide]
      omega
    · rw [if_neg h, decide_eq_false (by omega)]
  | succ d ih =>
    intro k i hi hk hl
    obtain ⟨k, rfl⟩ : ∃ q, k = q + 1 := ⟨k - 1, by omega⟩
    have hb := letter_eq ⟨byteN s i, byteN_lt s i⟩
    simp only at hb
    rw [← bt_byteN] at hb
    have hS := allL_succ s i
    rw [hl, Bool.true_and] at hS
    have w : wrap64 ((i : Int) + 1) = ((i + 1 : Nat) : Int) := by rw [w64 (by omega) (by omega)]; omega
    rw [footbridgeref03_Plain.l0, if_pos (show (i : Int) < (s.size : Int) by omega), if_pos (show (0 : Int) ≤ (i : Int) by omega), hb, Option.bind_some, w]
    cases hx : letB (bt s (i : Int)) with
    | true =>
      rw [if_pos rfl]
      exact ih k (i + 1) (by omega) (by omega) (by rw [hS, hx])
    | false =>
      rw [if_neg (by decide)]
      have : allL s s.size = false := by
        cases ha : allL s s.size with
        | false => rfl
        | true =>
          have := allL_le s ha (show i + 1 ≤ s.size by omega)
          rw [hS, hx] at this
          cases this
      rw [this, Bool.and_false]
theorem name_eq (s : ByteArray) (k : Nat) (hk : s.size + 10 ≤ k) (hs : s.size ≤ 1000000000000000) : ∃ e, names_Check.f 6 s = some e ∧ footbridgeref03_Check.f k 6 s = some e ∧ (e = 0 → s.size ≤ 64) := by
  obtain ⟨k, rfl⟩ : ∃ q, k = q + 1 := ⟨k - 1, by omega⟩
  refine ⟨if (decide (0 < s.size ∧ s.size ≤ 64) && allL s s.size) = true then 0 else 7, ?_, ?_, ?_⟩
  · unfold names_Check.f
    rw [if_pos rfl, if_pos hs]
  · unfold footbridgeref03_Check.f
    rw [if_neg (show ¬ (6 : Int) < 0 by decide), show decide ((6 : Int) > 6) = false by decide, footbridgeref03_Check.j0, if_neg (show ¬ (false = true) by decide), show footbridgeref03_word.f 6 = some ⟨#[]⟩ by decide +kernel, Option.bind_some, if_pos (by decide +kernel)]
    unfold footbridgeref03_Plain.f
    rw [show (0 : Int) = ((0 : Nat) : Int) from rfl, plain_l0 s hs s.size k 0 (by omega) (by omega) (by rfl), Option.bind_some]
    split <;> rfl
  · intro h
    split at h
    · rename_i hx
      rw [Bool.and_eq_true, decide_eq_true_iff] at hx
      exact hx.1.2
    · exact absurd h (by decide)
theorem join_ff (l : List ByteArray) (k k' : Nat) (hk : 400 ≤ k) (hk' : 400 ≤ k') : ∃ r, wire_Join.f k l = some r ∧ footbridgeref01_Join.f k' l = some r := by
  unfold wire_Join.f footbridgeref01_Join.f
  by_cases h : (l.length : Int) > 256
  · simp only [if_pos h]; exact ⟨_, rfl, rfl⟩
  · rw [rlay_f _ k' (by omega), num_f _ (by omega)]
    simp only [if_neg h, Option.bind_some]
    exact join_l0 l (by omega) l.length k k' 0 (numB l.length) (by omega) (by omega) (by omega) (by have := size_numB l.length (by omega); omega)
theorem kinds_all : ∀ k : Fin 24, 1 ≤ k.val → footbridgeref37_texts.f ((k.val : Nat) : Int) = some (txt k.val) ∧ footbridgeref37_nums.f ((k.val : Nat) : Int) = some (nms k.val) ∧ 0 ≤ txt k.val ∧ txt k.val ≤ 6 ∧ 0 ≤ nms k.val ∧ nms k.val ≤ 2 ∧ lst k.val = decide (k.val = 7) := by decide +kernel
theorem of_cases (a : Int) : (msg_of.f a = some (0, 0, false, false) ∧ footbridgeref37_texts.f a = some (-1) ∧ footbridgeref37_nums.f a = some 0) ∨
    (∃ k : Nat, 1 ≤ k ∧ k < 24 ∧ a = (k : Int) ∧ msg_of.f a = some (txt k, nms k, lst k, true) ∧ footbridgeref37_texts.f a = some (txt k) ∧ footbridgeref37_nums.f a = some (nms k) ∧ 0 ≤ txt k ∧ txt k ≤ 6 ∧ 0 ≤ nms k ∧ nms k ≤ 2 ∧ lst k = decide (k = 7)) := by
  by_cases h1 : a < 1
  · left
    have ht : footbridgeref37_texts.f a = some (-1) := by
      by_cases h0 : a < 0
      · unfold footbridgeref37_texts.f
        rw [Option.bind_some, if_pos h0]
      · obtain rfl : a = 0 := by omega
        decide +kernel
    refine ⟨by unfold msg_of.f; rw [if_pos h1], ht, ?_⟩
    unfold footbridgeref37_nums.f
    rw [Option.bind_some, ht, Option.bind_some, if_pos (by decide)]
  · by_cases h2 : 24 ≤ a
    · left
      have ht : footbridgeref37_texts.f a = some (-1) := by
        unfold footbridgeref37_texts.f
        rw [Option.bind_some, if_neg (by omega), if_pos (by simpa using h2)]
      refine ⟨by unfold msg_of.f; rw [if_neg h1, if_pos h2], ht, ?_⟩
      unfold footbridgeref37_nums.f
      rw [Option.bind_some, ht, Option.bind_some, if_pos (by decide)]
    · right
      obtain ⟨k, rfl⟩ := Int.eq_ofNat_of_zero_le (show 0 ≤ a by omega)
      obtain ⟨q1, q2, q3⟩ := kinds_all ⟨k, by omega⟩ (by simp only; omega)
      refine ⟨k, by omega, by omega, rfl, ?_, q1, q2, q3⟩
      unfold msg_of.f
      rw [if_neg h1, if_neg h2, Int.toNat_natCast]
theorem check_l0 (kind : Int) (f : ByteArray) (ts ls : List ByteArray) (ns : List Int) (hn : ns.length ≤ 1000000) (x : Int) (hx : ((wire_Join.f joinK ts).bind fun x => if x.2 = 0 then ((wire_Join.f joinK ls).bind fun y => some y.2) else some x.2) = some x) :
    ∀ (d k i : Nat), i + d = ns.length → d + 420 ≤ k → AllGood ns i → footbridgeref37_Check.l0 k (i : Int) kind f ts ls ns = some (if ns.any badN = true then 3 else x) := by
  intro d
  induction d with
  | zero =>
    intro k i hi hk hg
    obtain ⟨k, rfl⟩ : ∃ q, k = q + 1 := ⟨k - 1, by omega⟩
    obtain rfl : i = ns.length := by omega
    rw [footbridgeref37_Check.l0, if_neg (by omega), if_neg (by rw [hg.none]; decide)]
    obtain ⟨⟨a1, a2⟩, ha, hb⟩ := join_ff ts joinK k (by decide) (by omega)
    obtain ⟨⟨c1, c2⟩, hc, hd⟩ := join_ff ls joinK k (by decide) (by omega)
    rw [ha] at hx
    rw [hb]
    simp only [Option.bind_some] at hx ⊢
    rw [hc] at hx
    rw [hd]
    exact hx
  | succ d ih =>
    intro k i hi hk hg
    obtain ⟨k, rfl⟩ : ∃ q, k = q + 1 := ⟨k - 1, by omega⟩
    have hil : i < ns.length := by omega
    have hrd : rd ns (i : Int) = ns[i] := by
      unfold rd
      rw [Int.toNat_natCast, List.getD_eq_getElem?_getD, List.getElem?_eq_getElem hil]
      rfl
    have w : wrap64 ((i : Int) + 1) = ((i + 1 : Nat) : Int) := by rw [w64 (by omega) (by omega)]; omega
    rw [footbridgeref37_Check.l0, if_pos (show (i : Int) < (ns.length : Int) by omega), if_pos (show (0 : Int) ≤ (i : Int) by omega), hrd, w]
    cases hb : badN ns[i] with
    | true =>
      rw [if_pos (List.any_eq_true.mpr ⟨ns[i], List.getElem_mem hil, hb⟩)]
      unfold badN at hb
      rw [Bool.or_eq_true, decide_eq_true_iff, decide_eq_true_iff] at hb
      by_cases h0 : ns[i] < 0
      · rw [if_pos h0]
      · rw [if_neg h0, if_pos (by omega)]
    | false =>
      have hb' := hb
      unfold badN at hb'
      rw [Bool.or_eq_false_iff, decide_eq_false_iff_not, decide_eq_false_iff_not] at hb'
      rw [if_neg hb'.1, if_neg (by omega)]
      exact ih k (i + 1) (by omega) (by omega) (hg.step hil hb)
/-- What a message that may be is. -/
structure Ok (kind : Int) (f : ByteArray) (ts ls : List ByteArray) (ns : List Int) : Prop where
  kind : ∃ k : Nat, kind = (k : Int) ∧ 1 ≤ k ∧ k < 24 ∧ (ns.length : Int) = nms k ∧ footbridgeref37_nums.f kind = some (nms k)
  from_ : f.size ≤ 64
  lts : ts.length ≤ 6
  lns : ns.length ≤ 2
  few : ∀ n ∈ ns, 0 ≤ n ∧ n ≤ 1099511627776
  tsJ : ∃ a, wire_Join.f joinK ts = some (a, 0)
  lsJ : ∃ a, wire_Join.f joinK ls = some (a, 0)
theorem check_eq (kind : Int) (f : ByteArray) (ts ls : List ByteArray) (ns : List Int) (k : Nat) (hk : f.size + 2000 ≤ k) (hf : f.size ≤ 1000000000000000) :
    ∃ c, msg_Check.f kind f ts ls ns = some c ∧ footbridgeref37_Check.f k kind f ts ls ns = some c ∧ (c = 0 → Ok kind f ts ls ns) := by
  obtain ⟨k, rfl⟩ : ∃ q, k = q + 2 := ⟨k - 2, by omega⟩
  have hj : ∀ y0 y1 y2 y3 y4, footbridgeref37_Check.j0 (k + 2) true y0 y1 y2 y3 y4 = some 6 := fun _ _ _ _ _ => by rw [footbridgeref37_Check.j0, if_pos rfl]
  unfold msg_Check.f footbridgeref37_Check.f
  rcases of_cases kind with ⟨h1, h2, h3⟩ | ⟨q, hq1, hq2, rfl, h1, h2, h3, t0, t6, n0, n2, hl⟩
  · rw [h1, h2]
    simp only [Option.bind_some]
    rw [if_pos (show (-1 : Int) < 0 by decide)]
    exact ⟨1, rfl, rfl, fun h => absurd h (by decide)⟩
  · rw [h1, h2]
    simp only [Option.bind_some]
    rw [if_neg (show ¬ (true = false) by decide), if_neg (show ¬ txt q < 0 by omega)]
    by_cases c1 : (ts.length : Int) = txt q
    · rw [if_neg (show ¬ ¬ (ts.length : Int) = txt q from not_not_intro c1), if_pos c1, h3]
      simp only [Option.bind_some]
      by_cases c2 : (ns.length : Int) = nms q
      · rw [if_neg (show ¬ ¬ (ns.length : Int) = nms q from not_not_intro c2), if_pos c2]
        have hmain : ¬ (0 < ls.length ∧ lst q = false) → ∃ c, ((names_Check.f 6 f).bind fun e => if e = 0 then
              (if ns.any badN = true then some 3 else (wire_Join.f joinK ts).bind fun x => if x.2 = 0 then ((wire_Join.f joinK ls).bind fun y => some y.2) else some x.2) else some 7) = some c ∧ footbridgeref37_Check.j0 (k + 2) false (q : Int) f ts ls ns = some c ∧ (c = 0 → Ok (q : Int) f ts ls ns) := by
          intro _
          obtain ⟨e, e1, e2, e3⟩ := name_eq f (k + 1) (by omega) hf
          obtain ⟨⟨a1, a2⟩, ha, _⟩ := join_ff ts joinK 400 (by decide) (by omega)
          obtain ⟨⟨b1, b2⟩, hb, _⟩ := join_ff ls joinK 400 (by decide) (by omega)
          rw [e1]
          rw [footbridgeref37_Check.j0, if_neg (show ¬ (false = true) by decide), e2]
          simp only [Option.bind_some]
          by_cases he : e = 0
          · rw [if_pos he, if_pos he, ha]
            simp only [Option.bind_some]
            rw [hb]
            simp only [Option.bind_some]
            have hx : ((wire_Join.f joinK ts).bind fun x => if x.2 = 0 then ((wire_Join.f joinK ls).bind fun y => some y.2) else some x.2) = some (if a2 = 0 then b2 else a2) := by
              rw [ha, Option.bind_some, hb, Option.bind_some]
              simp only
              split <;> rfl
            have := check_l0 (q : Int) f ts ls ns (by omega) _ hx ns.length (k + 1) 0 (by omega) (by omega) (fun j _ hj => by omega)
            rw [show (0 : Int) = ((0 : Nat) : Int) from rfl] at *
            rw [this]
            refine ⟨_, ?_, rfl, ?_⟩
            · by_cases hb1 : ns.any badN = true
              · rw [if_pos hb1, if_pos hb1]
              · rw [if_neg hb1, if_neg hb1]
                split <;> rfl
            · intro hc
              split at hc
              · exact absurd hc (by decide)
              · rename_i hbad
                split at hc
                · rename_i ha0
                  refine ⟨⟨q, rfl, hq1, hq2, c2, h3⟩, e3 he, by omega, by omega, ?_, ⟨a1, by rw [ha, ha0]; rfl⟩, ⟨b1, by rw [hb, hc]; rfl⟩⟩
                  intro n hn
                  obtain ⟨i, hi, rfl⟩ := List.mem_iff_getElem.mp hn
                  exact badN_none hbad i hi
                · rename_i ha0
                  exact absurd hc ha0
          · rw [if_neg he, if_neg he]
            exact ⟨7, rfl, rfl, fun h => absurd h (by decide)⟩
        by_cases c3 : 0 < ls.length ∧ lst q = false
        · have hq7 : ((q : Int) != 7) = true := by
            have := c3.2
            rw [hl, decide_eq_false_iff_not] at this
            rw [bne_iff_ne]
            omega
          rw [if_pos c3, if_pos (by omega), hq7, hj]
          exact ⟨6, rfl, rfl, fun h => absurd h (by decide)⟩
        · rw [if_neg c3]
          have := hmain c3
          by_cases c4 : (ls.length : Int) > 0
          · have hq7 : ((q : Int) != 7) = false := by
              have h7 : lst q = true := by
                cases hx : lst q with
                | true => rfl
                | false => exact absurd ⟨by omega, hx⟩ c3
              rw [hl, decide_eq_true_iff] at h7
              rw [h7]
              decide
            rw [if_pos c4, hq7]
            exact this
          · rw [if_neg c4]
            exact this
      · rw [if_pos (show ¬ (ns.length : Int) = nms q from c2), if_neg c2, hj]
        exact ⟨6, rfl, rfl, fun h => absurd h (by decide)⟩
    · rw [if_pos (show ¬ (ts.length : Int) = txt q from c1), if_neg c1, hj]
      exact ⟨6, rfl, rfl, fun h => absurd h (by decide)⟩
end Go.Proofs.Ytipgldfbjlhpoab.Pure
