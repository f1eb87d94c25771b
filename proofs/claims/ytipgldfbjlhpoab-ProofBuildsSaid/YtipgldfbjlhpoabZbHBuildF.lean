/- proof.Build as a function on lists, and its contract. -/
import Derived.Test.YtipgldfbjlhpoabZbHBuild
namespace Go.Proofs.Ytipgldfbjlhpoab.P
set_option linter.unusedVariables false
set_option linter.unusedSimpArgs false
open Go.RowKit Go.Proofs.YtipgldfbjlhpoabW.PrintWords Go.Proofs.YtipgldfbjlhpoabW.PrintLast Go.Proofs.YtipgldfbjlhpoabW.PrintMore
def leavesF : List S86 → Option (List ByteArray)
 | [] => some []
 | x :: l => (merkle_Leaf.f x.f0 x.f1).bind fun y => (leavesF l).bind fun ys => some (y :: ys)
theorem leavesF_ok : ∀ (l : List S86) (lv : List ByteArray), leavesF l = some lv → LeavesOk l lv := by
 intro l
 induction l with
 | nil =>
  intro lv h
  obtain rfl := Option.some.inj h
  exact ⟨rfl, fun i x hx => by simp at hx⟩
 | cons x l ih =>
  intro lv h
  rw [leavesF] at h
  obtain ⟨y, hy, h⟩ := Option.bind_eq_some_iff.mp h
  obtain ⟨ys, hys, h⟩ := Option.bind_eq_some_iff.mp h
  obtain rfl := Option.some.inj h
  obtain ⟨h1, h2⟩ := ih ys hys
  refine ⟨by simp [h1], fun i z hz => ?_⟩
  cases i with
  | zero => obtain rfl := Option.some.inj hz; exact ⟨y, rfl, hy⟩
  | succ i => exact h2 i z hz
def pathsF (k : Nat) (lv : List ByteArray) : Nat → Nat → Option (List (List ByteArray))
 | _, 0 => some []
 | lo, n + 1 => (proof_path.f k lv (lo : Int)).bind fun p => (pathsF k lv (lo + 1) n).bind fun ps => some (p :: ps)
theorem pathsF_ok (k : Nat) (lv : List ByteArray) : ∀ (n lo : Nat) (ps : List (List ByteArray)), pathsF k lv lo n = some ps → ps.length = n ∧ PathsOk k lv lo ps := by
 intro n
 induction n with
 | zero =>
  intro lo ps h
  obtain rfl := Option.some.inj h
  exact ⟨rfl, fun j p hp => by simp at hp⟩
 | succ n ih =>
  intro lo ps h
  rw [pathsF] at h
  obtain ⟨p, hp, h⟩ := Option.bind_eq_some_iff.mp h
  obtain ⟨qs, hqs, h⟩ := Option.bind_eq_some_iff.mp h
  obtain rfl := Option.some.inj h
  obtain ⟨h1, h2⟩ := ih (lo + 1) qs hqs
  refine ⟨by simp [h1], fun j q hq => ?_⟩
  cases j with
  | zero => obtain rfl := Option.some.inj hq; exact hp
  | succ j => rw [show lo + (j + 1) = lo + 1 + j by omega]; exact h2 j q hq
def cntL (key : ByteArray) : List S86 → Nat
 | [] => 0
 | x :: l => if cmpK x.f0 key < 0 then cntL key l + 1 else 0
theorem cntL_le (key : ByteArray) : ∀ l, cntL key l ≤ l.length := by
 intro l
 induction l with
 | nil => exact Nat.le_refl _
 | cons x l ih => rw [cntL]; split <;> simp <;> omega
def SplitAt (l : List S86) (key : ByteArray) : Prop := ∀ i, i < l.length → (cmpK (rd_T86 l (i : Int)).f0 key < 0 ↔ i < cntL key l)
open Classical in
noncomputable def proof_Build.f (k : Nat) (l : List S86) (key : ByteArray) : Option (Int × Int × Bool × List S86 × List (List ByteArray)) :=
 (proof_rises.f k l).bind fun b => if b = true then (if l.length ≤ 1000000 ∧ SplitAt l key then (leavesF l).bind fun lv =>
  (if (decide (cntL key l < l.length) && decide (cmpK (rd_T86 l (cntL key l : Int)).f0 key = 0)) = true then (proof_path.f k lv (cntL key l : Int)).bind fun p => some ((l.length : Int), (cntL key l : Int), true, [], [p])
  else (pathsF k lv (cntL key l - 1) (min (cntL key l + 1) l.length - (cntL key l - 1))).bind fun ps => some ((l.length : Int), (cntL key l : Int), false, (l.take (min (cntL key l + 1) l.length)).drop (cntL key l - 1), ps))
  else none) else some (0, 0, false, [], [])
theorem proof_Build.calls (k : Nat) (A0 : Option Addr) (c0 : Nat) (l : List S86) (key : ByteArray) (n a : Int) (th : Bool) (near : List S86) (ps : List (List ByteArray)) (w : World) (hC : Kd.C k86 w A0 l.length l) (hc : l.length ≤ c0) (h : proof_Build.f k l key = some (n, a, th, near, ps)) :
  Calls Try.prog 53 #[.slice A0 l.length c0, .string key] w (BuildPost n a th near ps w) := by
 unfold proof_Build.f at h
 obtain ⟨b, hb, h⟩ := Option.bind_eq_some_iff.mp h
 by_cases h0 : b = true
 · subst h0
   rw [if_pos rfl] at h
   by_cases h1 : l.length ≤ 1000000 ∧ SplitAt l key
   · rw [if_pos h1] at h
     obtain ⟨lv, hlv, h⟩ := Option.bind_eq_some_iff.mp h
     have hlv := leavesF_ok l lv hlv
     by_cases h2 : (decide (cntL key l < l.length) && decide (cmpK (rd_T86 l (cntL key l : Int)).f0 key = 0)) = true
     · rw [if_pos h2] at h
       obtain ⟨p, hp, h⟩ := Option.bind_eq_some_iff.mp h
       injection h with h
       injection h with e1 h
       injection h with e2 h
       injection h with e3 h
       injection h with e4 e5
       subst e1 e2 e3 e4 e5
       exact build_yes A0 c0 l key k (cntL key l) lv true [] [p] w hC hc hb h1.1 hlv (cntL_le key l) h1.2 h2.symm (fun _ => ⟨rfl, p, rfl, hp⟩) (fun h => nomatch h)
     · rw [if_neg h2] at h
       obtain ⟨qs, hq, h⟩ := Option.bind_eq_some_iff.mp h
       obtain ⟨q1, q2⟩ := pathsF_ok k lv _ _ qs hq
       injection h with h
       injection h with e1 h
       injection h with e2 h
       injection h with e3 h
       injection h with e4 e5
       subst e1 e2 e3 e4 e5
       exact build_yes A0 c0 l key k (cntL key l) lv false _ qs w hC hc hb h1.1 hlv (cntL_le key l) h1.2 (Bool.not_eq_true _ ▸ h2).symm (fun h => nomatch h) (fun _ => ⟨rfl, q1, q2⟩)
   · rw [if_neg h1] at h
     cases h
 · obtain rfl : b = false := by simpa using h0
   rw [if_neg (by decide)] at h
   injection h with h
   injection h with e1 h
   injection h with e2 h
   injection h with e3 h
   injection h with e4 e5
   subst e1 e2 e3 e4 e5
   exact build_no A0 c0 l key k w hC hc hb
end Go.Proofs.Ytipgldfbjlhpoab.P
