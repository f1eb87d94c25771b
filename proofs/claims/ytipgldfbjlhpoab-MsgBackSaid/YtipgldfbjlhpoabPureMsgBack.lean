/- MsgBack: the plain side. -/
import Derived.Test.YtipgldfbjlhpoabPureMsg3
namespace Go.Proofs.Ytipgldfbjlhpoab.Pure
set_option linter.unusedVariables false
set_option linter.unusedSimpArgs false
open Go.RowKit Go.Proofs.Ytipgldfbjlhpoab.P Go.Proofs.Ytipgldfbjlhpoab.Wire Go.Proofs.Ytipgldfbjlhpoab.Sha Go.Proofs.Ytipgldfbjlhpoab.Msg Go.Proofs.YtipgldfbjlhpoabW.PrintWords Go.Proofs.YtipgldfbjlhpoabW.PrintLast
theorem numsB_size : ∀ (ns : List Int), (∀ n ∈ ns, 0 ≤ n ∧ n ≤ 1099511627776) → (numsB ns).size ≤ 9 * ns.length := by
  intro ns
  induction ns with
  | nil => intro _; exact Nat.zero_le _
  | cons n l ih =>
    intro h
    have := ih (fun x hx => h x (by simp [hx]))
    obtain ⟨h0, h1⟩ := h n (by simp)
    have hz := size_numB n.toNat (by omega)
    rw [numsB, ByteArray.size_append, List.length_cons]
    omega
theorem back_l0 (kind : Int) (f : ByteArray) (ts ls : List ByteArray) (n : Nat) (hn : n ≤ 100) : ∀ (rest acc : List Int) (k : Nat), acc.length + rest.length = n → rest.length + 2 ≤ k → (∀ n ∈ rest, 0 ≤ n ∧ n ≤ 1099511627776) → msg_Check.f kind f ts ls (acc ++ rest) = some 0 →
    msg_Read.l0 k (n : Int) (acc.length : Int) (numsB rest) 0 kind f ts ls acc = some (kind, f, ts, ls, acc ++ rest, 0) := by
  intro rest
  induction rest with
  | nil =>
    intro acc k ha hk hr hc
    obtain ⟨k, rfl⟩ : ∃ q, k = q + 1 := ⟨k - 1, by omega⟩
    simp only [List.length_nil, Nat.add_zero] at ha
    rw [List.append_nil] at hc
    rw [msg_Read.l0, if_neg (by omega), numsB, show wire_Reader_Done.f (⟨#[]⟩ : ByteArray) 0 = some (0, ⟨#[]⟩, 0) by decide +kernel]
    simp only [Option.bind_some]
    rw [if_pos trivial, hc, Option.bind_some, if_pos rfl, List.append_nil]
  | cons m rest ih =>
    intro acc k ha hk hr hc
    obtain ⟨k, rfl⟩ : ∃ q, k = q + 1 := ⟨k - 1, by omega⟩
    rw [List.length_cons] at ha hk
    obtain ⟨h0, h1⟩ := hr m (by simp)
    obtain ⟨m, rfl⟩ := Int.eq_ofNat_of_zero_le h0
    have w : wrap64 ((acc.length : Int) + 1) = ((acc ++ [(m : Int)]).length : Int) := by rw [w64 (by omega) (by omega)]; simp
    have hla : (acc ++ [(m : Int)]).length = acc.length + 1 := by simp
    have happ : acc ++ (m : Int) :: rest = (acc ++ [(m : Int)]) ++ rest := by simp
    rw [msg_Read.l0, if_pos (by omega), numsB, Int.toNat_natCast, m_num m _ (by omega)]
    simp only [Option.bind_some]
    rw [if_pos (by omega), w, happ]
    exact ih (acc ++ [(m : Int)]) k (by omega) (by omega) (fun x hx => hr x (by simp [hx])) (by rw [← happ]; exact hc)
theorem read_back {kind : Int} {f : ByteArray} {ts ls : List ByteArray} {ns : List Int} (k : Nat) (hk : 80000 ≤ k) (ok : Ok kind f ts ls ns) (hc : msg_Check.f kind f ts ls ns = some 0) : msg_Read.f k (encM kind f ts ls ns) = some (kind, f, ts, ls, ns, 0) := by
  obtain ⟨⟨q, rfl, hq1, hq2, hqn, hnum⟩, hf, hts, hns, hfew, ⟨a, ha⟩, ⟨b, hb⟩⟩ := ok
  obtain ⟨t1, t2, _, _, za⟩ := join_zero (by decide) ha
  obtain ⟨u1, u2, _, _, zb⟩ := join_zero (by decide) hb
  have y1 := menc1_le f (by omega)
  have y2 := numsB_size ns hfew
  have hof : msg_of.f (q : Int) = some (txt q, (ns.length : Int), lst q, true) := by
    unfold msg_of.f
    rw [if_neg (by omega), if_neg (by omega), Int.toNat_natCast, hqn]
  unfold encM msg_Read.f wire_New.f
  rw [Int.toNat_natCast]
  simp only [Option.bind_some]
  rw [m_num q _ (by omega)]
  simp only [Option.bind_some]
  rw [m_text f _ (by omega) (by simp only [ByteArray.size_append]; omega)]
  simp only [Option.bind_some]
  rw [m_list ts _ k (by omega) t1 t2 (by simp only [ByteArray.size_append]; omega)]
  simp only [Option.bind_some]
  rw [m_list ls _ k (by omega) u1 u2 (by simp only [ByteArray.size_append]; omega)]
  simp only [Option.bind_some]
  rw [hof]
  simp only [Option.bind_some]
  exact back_l0 (q : Int) f ts ls ns.length (by omega) ns [] k (by simp) (by omega) hfew hc
theorem MsgBack (kind : Int) (f : ByteArray) (ts ls : List ByteArray) (ns : List Int) (s : ByteArray) (k : Nat) (hk : 80000 ≤ k) (hf : f.size ≤ 300) (hs : ¬ (s.size : Int) > 5000) :
    ∃ (r : ByteArray) (e : Int) (kb : Int) (fb : ByteArray) (l2b l3b : List ByteArray) (l4b : List Int) (f0 : Int) (kx : Int) (fx : ByteArray) (l2x l3x : List ByteArray) (l4x : List Int) (g : Int) (d : ByteArray) (h : Int),
      msg_Put.f kind f ts ls ns = some (r, e) ∧ msg_Read.f k r = some (kb, fb, l2b, l3b, l4b, f0) ∧ msg_Read.f k s = some (kx, fx, l2x, l3x, l4x, g) ∧ msg_Put.f kx fx l2x l3x l4x = some (d, h) ∧
      (e = 0 → footbridgeref37_Same.f k kb fb l2b l3b l4b kind f ts ls ns = some true ∧ f0 = 0) ∧ (g = 0 → d = s ∧ h = 0) := by
  obtain ⟨kx, fx, l2, l3, l4, g, q1, q2, q3, q4, q5, q6, q7⟩ := read_eq s k hk (by omega)
  obtain ⟨d, h, p1, p2, p3, p4⟩ := put_eq kx fx l2 l3 l4 k (by omega) (by omega)
  have hback : g = 0 → d = s ∧ h = 0 := fun hg => by
    obtain ⟨hc, hsx⟩ := q7 hg
    obtain ⟨c, c1, c2, c3⟩ := check_eq kx fx l2 l3 l4 k (by omega) (by omega)
    rw [hc] at c1
    obtain rfl := Option.some.inj c1
    have := put_ok (c3 rfl) hc
    rw [p1] at this
    simp only [Option.some.injEq, Prod.mk.injEq] at this
    exact ⟨by rw [this.1]; exact hsx.symm, this.2⟩
  obtain ⟨r, e, h1, h2, h3, h4⟩ := put_eq kind f ts ls ns k (by omega) (by omega)
  by_cases he : e = 0
  · obtain ⟨ok, rfl, hc⟩ := h3 he
    have hl : ls.length ≤ 256 := by
      obtain ⟨b, hb⟩ := ok.lsJ
      exact (join_zero (by decide) hb).1
    exact ⟨_, e, _, _, _, _, _, _, kx, fx, l2, l3, l4, g, d, h, h1, read_back k hk ok hc, q1, p1, fun _ => ⟨same_f kind f ts ls ns k (by omega) (by have := ok.lts; omega) (by omega) (by have := ok.lns; omega), rfl⟩, hback⟩
  · obtain rfl := h4 he
    obtain ⟨kb, fb, l2b, l3b, l4b, f0, w1, _⟩ := read_eq ⟨#[]⟩ k hk (by decide)
    exact ⟨_, e, kb, fb, l2b, l3b, l4b, f0, kx, fx, l2, l3, l4, g, d, h, h1, w1, q1, p1, fun h => absurd h he, hback⟩
end Go.Proofs.Ytipgldfbjlhpoab.Pure
