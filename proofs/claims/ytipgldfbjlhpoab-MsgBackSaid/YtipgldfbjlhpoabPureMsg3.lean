/- The plain side of layer 37: the message of bytes; whether a message is not too great; two messages that are the same. -/
import Derived.Test.YtipgldfbjlhpoabPureMsg2
import Derived.Test.YtipgldfbjlhpoabPureWireL
import Derived.Test.YtipgldfbjlhpoabPMsg
import Derived.Test.YtipgldfbjlhpoabPR37R
import Derived.Test.YtipgldfbjlhpoabPR37S
import Derived.Test.YtipgldfbjlhpoabPL37
namespace Go.Proofs.Ytipgldfbjlhpoab.Pure
set_option linter.unusedVariables false
set_option linter.unusedSimpArgs false
open Go.RowKit Go.Proofs.Ytipgldfbjlhpoab.P Go.Proofs.Ytipgldfbjlhpoab.Wire Go.Proofs.Ytipgldfbjlhpoab.Sha Go.Proofs.Ytipgldfbjlhpoab.Msg Go.Proofs.YtipgldfbjlhpoabW.PrintWords Go.Proofs.YtipgldfbjlhpoabW.PrintLast

theorem no_bytes {s : ByteArray} (h : s.size = 0) : s = ⟨#[]⟩ := by
  apply bytes_ext
  exact List.eq_nil_of_length_eq_zero (by rw [Array.length_toList]; exact h)
theorem few_l1 (kind : Int) (f : ByteArray) (ts ls : List ByteArray) (ns : List Int) (hl : ls.length ≤ 20) : ∀ (d k i : Nat), i + d = ls.length → d + 2 ≤ k → ∃ b, footbridgelaw37_Few.l1 k (i : Int) kind f ts ls ns = some b := by
  intro d
  induction d with
  | zero =>
    intro k i hi hk
    obtain ⟨k, rfl⟩ : ∃ q, k = q + 1 := ⟨k - 1, by omega⟩
    rw [footbridgelaw37_Few.l1, if_neg (by omega)]
    exact ⟨_, rfl⟩
  | succ d ih =>
    intro k i hi hk
    obtain ⟨k, rfl⟩ : ∃ q, k = q + 1 := ⟨k - 1, by omega⟩
    have w : wrap64 ((i : Int) + 1) = ((i + 1 : Nat) : Int) := by rw [w64 (by omega) (by omega)]; omega
    rw [footbridgelaw37_Few.l1, if_pos (show (i : Int) < (ls.length : Int) by omega), if_pos (show (0 : Int) ≤ (i : Int) by omega), w]
    split
    · exact ⟨_, rfl⟩
    · exact ih k (i + 1) (by omega) (by omega)
theorem few_l0 (kind : Int) (f : ByteArray) (ts ls : List ByteArray) (ns : List Int) (ht : ts.length ≤ 10) (hl : ls.length ≤ 20) : ∀ (d k i : Nat), i + d = ts.length → d + 30 ≤ k → ∃ b, footbridgelaw37_Few.l0 k (i : Int) kind f ts ls ns = some b := by
  intro d
  induction d with
  | zero =>
    intro k i hi hk
    obtain ⟨k, rfl⟩ : ∃ q, k = q + 1 := ⟨k - 1, by omega⟩
    rw [footbridgelaw37_Few.l0, if_neg (by omega)]
    exact few_l1 kind f ts ls ns hl ls.length k 0 (by omega) (by omega)
  | succ d ih =>
    intro k i hi hk
    obtain ⟨k, rfl⟩ : ∃ q, k = q + 1 := ⟨k - 1, by omega⟩
    have w : wrap64 ((i : Int) + 1) = ((i + 1 : Nat) : Int) := by rw [w64 (by omega) (by omega)]; omega
    rw [footbridgelaw37_Few.l0, if_pos (show (i : Int) < (ts.length : Int) by omega), if_pos (show (0 : Int) ≤ (i : Int) by omega), w]
    split
    · exact ⟨_, rfl⟩
    · exact ih k (i + 1) (by omega) (by omega)
theorem few_f (kind : Int) (f : ByteArray) (ts ls : List ByteArray) (ns : List Int) (k : Nat) (hk : 100 ≤ k) : ∃ b, footbridgelaw37_Few.f k kind f ts ls ns = some b ∧ (b = true → f.size ≤ 300) := by
  obtain ⟨k, rfl⟩ : ∃ q, k = q + 1 := ⟨k - 1, by omega⟩
  have ht : footbridgelaw37_Few.j0 (k + 1) true kind f ts ls ns = some false := by rw [footbridgelaw37_Few.j0, if_pos rfl]
  unfold footbridgelaw37_Few.f
  by_cases h1 : (f.size : Int) > 300
  · rw [if_pos h1, ht]; exact ⟨_, rfl, fun h => by cases h⟩
  · rw [if_neg h1]
    by_cases h2 : (ts.length : Int) > 10
    · rw [if_pos h2, ht]; exact ⟨_, rfl, fun h => by cases h⟩
    · rw [if_neg h2]
      by_cases h3 : (ls.length : Int) > 20
      · rw [if_pos h3, ht]; exact ⟨_, rfl, fun h => by cases h⟩
      · rw [if_neg h3, footbridgelaw37_Few.j0]
        split
        · exact ⟨_, rfl, fun h => by cases h⟩
        · obtain ⟨b, hb⟩ := few_l0 kind f ts ls ns (by omega) (by omega) ts.length k 0 (by omega) (by omega)
          exact ⟨b, hb, fun _ => by omega⟩
theorem same_l0 (kind kind' : Int) (f f' : ByteArray) (ts ls ts' ls' : List ByteArray) (ns : List Int) (hl : ns.length ≤ 1000) : ∀ (d k i : Nat), i + d = ns.length → d < k → footbridgeref37_Same.l0 k (i : Int) kind f ts ls ns kind' f' ts' ls' ns = some true := by
  intro d
  induction d with
  | zero =>
    intro k i hi hk
    obtain ⟨k, rfl⟩ : ∃ q, k = q + 1 := ⟨k - 1, by omega⟩
    rw [footbridgeref37_Same.l0, if_neg (by omega)]
  | succ d ih =>
    intro k i hi hk
    obtain ⟨k, rfl⟩ : ∃ q, k = q + 1 := ⟨k - 1, by omega⟩
    have w : wrap64 ((i : Int) + 1) = ((i + 1 : Nat) : Int) := by rw [w64 (by omega) (by omega)]; omega
    rw [footbridgeref37_Same.l0, if_pos (show (i : Int) < (ns.length : Int) by omega), if_pos (show (0 : Int) ≤ (i : Int) by omega), if_pos (show (i : Int) < (ns.length : Int) by omega), if_pos rfl, w]
    exact ih k (i + 1) (by omega) (by omega)
theorem same_f (kind : Int) (f : ByteArray) (ts ls : List ByteArray) (ns : List Int) (k : Nat) (hk : 2000 ≤ k) (ht : ts.length ≤ 1000) (hl : ls.length ≤ 1000) (hn : ns.length ≤ 1000) : footbridgeref37_Same.f k kind f ts ls ns kind f ts ls ns = some true := by
  obtain ⟨k, rfl⟩ : ∃ q, k = q + 1 := ⟨k - 1, by omega⟩
  unfold footbridgeref37_Same.f
  rw [if_pos rfl, if_pos rfl, if_pos rfl, texts_f ts (k + 1) (by omega) (by omega), Option.bind_some, if_pos rfl, texts_f ls (k + 1) (by omega) (by omega), Option.bind_some, footbridgeref37_Same.j0, if_neg (by decide)]
  exact same_l0 kind kind f f ts ls ts ls ns hn ns.length k 0 (by omega) (by omega)
theorem read_l0 (kind : Int) (f : ByteArray) (ts ls : List ByteArray) (n : Nat) (hn : n ≤ 2) (hnums : footbridgeref37_nums.f kind = some (n : Int)) (hf : f.size ≤ 65536) (ht : ts.length ≤ 256) (hl : ls.length ≤ 256) :
    ∀ (d k k' : Nat) (acc : List Int) (s : ByteArray) (e : Int), acc.length + d = n → d + 70000 ≤ k → d + 70000 ≤ k' → s.size ≤ 1000000000000 →
    ∃ (kx : Int) (fx : ByteArray) (l2 l3 : List ByteArray) (l4 : List Int) (g : Int), msg_Read.l0 k (n : Int) (acc.length : Int) s e kind f ts ls acc = some (kx, fx, l2, l3, l4, g) ∧
      footbridgeref37_Read.l0 k' (acc.length : Int) kind f ts ls acc s e = some (kx, fx, l2, l3, l4, g) ∧ fx.size ≤ 65536 ∧ l2.length ≤ 256 ∧ l3.length ≤ 256 ∧ l4.length ≤ 2 ∧
      (g = 0 → kx = kind ∧ fx = f ∧ l2 = ts ∧ l3 = ls ∧ msg_Check.f kind f ts ls l4 = some 0 ∧ e = 0 ∧ ∃ rest, l4 = acc ++ rest ∧ s = numsB rest) := by
  intro d
  induction d with
  | zero =>
    intro k k' acc s e ha hk hk' hs
    obtain ⟨k, rfl⟩ : ∃ q, k = q + 1 := ⟨k - 1, by omega⟩
    obtain ⟨k', rfl⟩ : ∃ q, k' = q + 1 := ⟨k' - 1, by omega⟩
    obtain ⟨v, hd1, hd2⟩ := done_step s e
    obtain ⟨v', hd3, hd4⟩ := m_done_is s e
    rw [hd1] at hd3
    simp only [Option.some.injEq, Prod.mk.injEq] at hd3
    obtain ⟨rfl, _, _⟩ := hd3
    rw [msg_Read.l0, footbridgeref37_Read.l0, hnums, Option.bind_some, if_neg (by omega), if_neg (by omega), hd1, hd2]
    simp only [Option.bind_some]
    by_cases hv : v = 0
    · obtain ⟨c, c1, c2, c3⟩ := check_eq kind f ts ls acc k' (by omega) (by omega)
      rw [if_pos hv, if_pos hv, c1, c2]
      simp only [Option.bind_some]
      by_cases hc : c = 0
      · rw [if_pos hc]
        obtain ⟨he, hz⟩ := hd4 hv
        refine ⟨_, _, _, _, _, _, rfl, rfl, hf, ht, hl, by omega, fun _ => ⟨rfl, rfl, rfl, rfl, by rw [c1, hc], he, [], by rw [List.append_nil], no_bytes hz⟩⟩
      · rw [if_neg hc]
        exact ⟨_, _, _, _, _, _, rfl, rfl, by decide, by decide, by decide, by decide, fun h => absurd h hc⟩
    · rw [if_neg hv, if_neg hv]
      exact ⟨_, _, _, _, _, _, rfl, rfl, by decide, by decide, by decide, by decide, fun h => absurd h hv⟩
  | succ d ih =>
    intro k k' acc s e ha hk hk' hs
    obtain ⟨k, rfl⟩ : ∃ q, k = q + 1 := ⟨k - 1, by omega⟩
    obtain ⟨k', rfl⟩ : ∃ q, k' = q + 1 := ⟨k' - 1, by omega⟩
    obtain ⟨v, st, e', h1, h2, h3⟩ := num_step s e k' (by omega) (by omega)
    have w : wrap64 ((acc.length : Int) + 1) = ((acc ++ [v]).length : Int) := by rw [w64 (by omega) (by omega)]; simp
    have hla : (acc ++ [v]).length = acc.length + 1 := by simp
    rw [msg_Read.l0, footbridgeref37_Read.l0, hnums, Option.bind_some, if_pos (by omega), if_pos (by omega), h1, h2]
    simp only [Option.bind_some]
    rw [if_pos (by omega), if_pos (by omega), w]
    obtain ⟨kx, fx, l2, l3, l4, g, q1, q2, q3, q4, q5, q6, q7⟩ := ih k k' (acc ++ [v]) st e' (by omega) (by omega) (by omega) (by omega)
    refine ⟨kx, fx, l2, l3, l4, g, q1, q2, q3, q4, q5, q6, fun hg => ?_⟩
    obtain ⟨a1, a2, a3, a4, a5, a6, rest, a7, a8⟩ := q7 hg
    obtain ⟨he, m, hm, hv, hsm⟩ := num_inv h1 a6
    refine ⟨a1, a2, a3, a4, a5, he, v :: rest, by rw [a7, List.append_assoc]; rfl, ?_⟩
    rw [numsB, hv, Int.toNat_natCast, ← a8]
    exact hsm
theorem read_eq (s : ByteArray) (k : Nat) (hk : 80000 ≤ k) (hs : s.size ≤ 1000000000) :
    ∃ (kx : Int) (fx : ByteArray) (l2 l3 : List ByteArray) (l4 : List Int) (g : Int), msg_Read.f k s = some (kx, fx, l2, l3, l4, g) ∧ footbridgeref37_Read.f k s = some (kx, fx, l2, l3, l4, g) ∧ fx.size ≤ 65536 ∧ l2.length ≤ 256 ∧ l3.length ≤ 256 ∧ l4.length ≤ 2 ∧
      (g = 0 → msg_Check.f kx fx l2 l3 l4 = some 0 ∧ s = encM kx fx l2 l3 l4) := by
  obtain ⟨kd, s1, e1, a1, b1, z1⟩ := num_step s 0 k (by omega) (by omega)
  obtain ⟨f, s2, e2, a2, b2, z2⟩ := text_step s1 e1 k (by omega) (by omega)
  obtain ⟨ts, s3, e3, a3, b3, l3, z3⟩ := list_step s2 e2 k k (by omega) (by omega) (by omega)
  obtain ⟨ls, s4, e4, a4, b4, l4, z4⟩ := list_step s3 e3 k k (by omega) (by omega) (by omega)
  obtain ⟨hf, ti⟩ := text_inv (by omega) a2
  obtain ⟨n, hn, x1, x2, x3, hof, hnums⟩ : ∃ n : Nat, n ≤ 2 ∧ ∃ x1 x3 x4, msg_of.f kd = some (x1, (n : Int), x3, x4) ∧ footbridgeref37_nums.f kd = some (n : Int) := by
    rcases of_cases kd with ⟨h1, h2, h3⟩ | ⟨q, hq1, hq2, rfl, h1, h2, h3, t0, t6, n0, n2, hl⟩
    · exact ⟨0, by omega, _, _, _, h1, h3⟩
    · obtain ⟨m, hm⟩ := Int.eq_ofNat_of_zero_le n0
      rw [hm] at h1 h3
      exact ⟨m, by omega, _, _, _, h1, h3⟩
  obtain ⟨kx, fx, l2, l3', l4', g, q1, q2, q3, q4, q5, q6, q7⟩ := read_l0 kd f ts ls n hn hnums hf l3 l4 n k k [] s4 e4 (by simp) (by omega) (by omega) (by omega)
  refine ⟨kx, fx, l2, l3', l4', g, ?_, ?_, q3, q4, q5, q6, ?_⟩
  · unfold msg_Read.f wire_New.f
    simp only [Option.bind_some, a1, a2, a3, a4, hof]
    exact q1
  · unfold footbridgeref37_Read.f
    simp only [Option.bind_some, b1, b2, b3, b4]
    exact q2
  · intro hg
    obtain ⟨rfl, rfl, rfl, rfl, hc, he, rest, rfl, hr⟩ := q7 hg
    obtain ⟨he3, hs3, _⟩ := list_inv (by omega) (by omega) a4 he
    obtain ⟨he2, hs2, _⟩ := list_inv (by omega) (by omega) a3 he3
    obtain ⟨he1, hs1⟩ := ti he2
    obtain ⟨_, m, hm, hv, hs0⟩ := num_inv a1 he1
    refine ⟨hc, ?_⟩
    unfold encM
    rw [← hr, ← hs3, ← hs2, ← hs1, hv, Int.toNat_natCast]
    exact hs0
end Go.Proofs.Ytipgldfbjlhpoab.Pure
