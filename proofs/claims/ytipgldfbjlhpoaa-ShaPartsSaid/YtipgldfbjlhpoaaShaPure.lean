/- SHA-256 as plain functions on lists of bytes and of 32-bit words, and the plain facts that the two programs' texts need. No program stands here. -/
namespace Go.Proofs.Ytipgldfbjlhpoaa.Sha
set_option linter.unusedVariables false
set_option linter.unusedSimpArgs false
structure S8 where
  (a b c d e f g h : BitVec 32)
def K : List (BitVec 32) := [
  0x428a2f98, 0x71374491, 0xb5c0fbcf, 0xe9b5dba5, 0x3956c25b, 0x59f111f1, 0x923f82a4, 0xab1c5ed5,
  0xd807aa98, 0x12835b01, 0x243185be, 0x550c7dc3, 0x72be5d74, 0x80deb1fe, 0x9bdc06a7, 0xc19bf174,
  0xe49b69c1, 0xefbe4786, 0x0fc19dc6, 0x240ca1cc, 0x2de92c6f, 0x4a7484aa, 0x5cb0a9dc, 0x76f988da,
  0x983e5152, 0xa831c66d, 0xb00327c8, 0xbf597fc7, 0xc6e00bf3, 0xd5a79147, 0x06ca6351, 0x14292967,
  0x27b70a85, 0x2e1b2138, 0x4d2c6dfc, 0x53380d13, 0x650a7354, 0x766a0abb, 0x81c2c92e, 0x92722c85,
  0xa2bfe8a1, 0xa81a664b, 0xc24b8b70, 0xc76c51a3, 0xd192e819, 0xd6990624, 0xf40e3585, 0x106aa070,
  0x19a4c116, 0x1e376c08, 0x2748774c, 0x34b0bcb5, 0x391c0cb3, 0x4ed8aa4a, 0x5b9cca4f, 0x682e6ff3,
  0x748f82ee, 0x78a5636f, 0x84c87814, 0x8cc70208, 0x90befffa, 0xa4506ceb, 0xbef9a3f7, 0xc67178f2]
def firstS : S8 := ⟨0x6a09e667, 0xbb67ae85, 0x3c6ef372, 0xa54ff53a, 0x510e527f, 0x9b05688c, 0x1f83d9ab, 0x5be0cd19⟩
def ror (x : BitVec 32) (n : Nat) : BitVec 32 := x <<< (32 - n) ||| x >>> n
def sg0 (x : BitVec 32) : BitVec 32 := ror x 7 ^^^ ror x 18 ^^^ x >>> 3
def sg1 (x : BitVec 32) : BitVec 32 := ror x 17 ^^^ ror x 19 ^^^ x >>> 10
def schedW (L : List (BitVec 32)) (t : Nat) : BitVec 32 := L.getD (t - 16) 0 + sg0 (L.getD (t - 15) 0) + L.getD (t - 7) 0 + sg1 (L.getD (t - 2) 0)
def schedStep (L : List (BitVec 32)) (t : Nat) : List (BitVec 32) := L.set t (schedW L t)
def byteAt (b : List UInt8) (i : Nat) : BitVec 32 := BitVec.ofNat 32 (b.getD i 0).toNat
def word (b : List UInt8) (i : Nat) : BitVec 32 := byteAt b i <<< 24 ||| byteAt b (i + 1) <<< 16 ||| byteAt b (i + 2) <<< 8 ||| byteAt b (i + 3)
def words (b : List UInt8) : List (BitVec 32) := (List.range 16).map (fun t => word b (4 * t)) ++ List.replicate 48 0
def schedN (b : List UInt8) (n : Nat) : List (BitVec 32) := (List.range n).foldl (fun L j => schedStep L (16 + j)) (words b)
def sched (b : List UInt8) : List (BitVec 32) := schedN b 48
def one (s : S8) (k w : BitVec 32) : BitVec 32 := s.h + (ror s.e 6 ^^^ ror s.e 11 ^^^ ror s.e 25) + (s.g ^^^ s.e &&& (s.f ^^^ s.g)) + k + w
def two (s : S8) : BitVec 32 := (ror s.a 2 ^^^ ror s.a 13 ^^^ ror s.a 22) + (s.a &&& (s.b ||| s.c) ||| s.b &&& s.c)
def round (s : S8) (k w : BitVec 32) : S8 := ⟨one s k w + two s, s.a, s.b, s.c, s.d + one s k w, s.e, s.f, s.g⟩
def rounds (L : List (BitVec 32)) (s : S8) (n : Nat) : S8 := (List.range n).foldl (fun s t => round s (K.getD t 0) (L.getD t 0)) s
def addS (x y : S8) : S8 := ⟨x.a + y.a, x.b + y.b, x.c + y.c, x.d + y.d, x.e + y.e, x.f + y.f, x.g + y.g, x.h + y.h⟩
def block (h : S8) (b : List UInt8) : S8 := addS h (rounds (sched b) h 64)
def pad (n : Nat) : List UInt8 := 128 :: (List.replicate ((119 - n % 64) % 64) 0 ++ (List.range 8).map (fun i => UInt8.ofNat (n * 8 / 2 ^ (8 * (7 - i)))))
def blocks (h : S8) : Nat → List UInt8 → S8
  | 0, _ => h
  | n + 1, b => blocks (block h b) n (b.drop 64)
def bytes4 (x : BitVec 32) : List UInt8 := [UInt8.ofNat (x.toNat / 2 ^ 24), UInt8.ofNat (x.toNat / 2 ^ 16), UInt8.ofNat (x.toNat / 2 ^ 8), UInt8.ofNat x.toNat]
def out (s : S8) : List UInt8 := bytes4 s.a ++ (bytes4 s.b ++ (bytes4 s.c ++ (bytes4 s.d ++ (bytes4 s.e ++ (bytes4 s.f ++ (bytes4 s.g ++ bytes4 s.h))))))
def sumL (m : List UInt8) : List UInt8 := out (blocks firstS ((m.length + (pad m.length).length) / 64) (m ++ pad m.length))

/-! ### bits -/
theorem ch_eq (e f g : BitVec 32) : ((e &&& f) ^^^ (~~~e &&& g)) = (g ^^^ (e &&& (f ^^^ g))) := by
  ext i; simp; cases e[i] <;> cases f[i] <;> cases g[i] <;> rfl
theorem maj_eq (a b c : BitVec 32) : ((a &&& b) ^^^ (a &&& c) ^^^ (b &&& c)) = ((a &&& (b ||| c)) ||| (b &&& c)) := by
  ext i; simp; cases a[i] <;> cases b[i] <;> cases c[i] <;> rfl

/-! ### the schedule -/
theorem length_words (b : List UInt8) : (words b).length = 64 := by simp [words]
theorem schedN_succ (b : List UInt8) (n : Nat) : schedN b (n + 1) = schedStep (schedN b n) (16 + n) := by simp [schedN, List.range_succ]
theorem length_schedN (b : List UInt8) (n : Nat) : (schedN b n).length = 64 := by
  induction n with
  | zero => exact length_words b
  | succ n ih => rw [schedN_succ, schedStep, List.length_set, ih]
theorem rounds_succ (L : List (BitVec 32)) (s : S8) (n : Nat) : rounds L s (n + 1) = round (rounds L s n) (K.getD n 0) (L.getD n 0) := by simp [rounds, List.range_succ]
theorem getD_getElem {α : Type} (l : List α) (d : α) (i : Nat) (h : i < l.length) : l.getD i d = l[i] := by simp [List.getD, h]
theorem getD_words (b : List UInt8) (t : Nat) (h : t < 16) : (words b).getD t 0 = word b (4 * t) := by
  simp [words, List.getD, List.getElem?_append, h, List.getElem?_range]

theorem byteAt_take (b : List UInt8) (i n : Nat) : byteAt (b.take n) i = if i < n then byteAt b i else 0 := by
  unfold byteAt
  simp only [List.getD, List.getElem?_take]
  split <;> simp
theorem byteAt_cut (b : List UInt8) (n j : Nat) (h : n = 64 ∨ b.length ≤ n) (hj : j < 64) : byteAt (b.take n) j = byteAt b j := by
  rw [byteAt_take]
  split
  · rfl
  · have hb : b.length ≤ j := by omega
    simp [byteAt, List.getD, List.getElem?_eq_none hb]
theorem word_cut (b : List UInt8) (n t : Nat) (h : n = 64 ∨ b.length ≤ n) (ht : t < 16) : word (b.take n) (4 * t) = word b (4 * t) := by
  unfold word
  rw [byteAt_cut b n _ h (by omega), byteAt_cut b n _ h (by omega), byteAt_cut b n _ h (by omega), byteAt_cut b n _ h (by omega)]
theorem words_take (b : List UInt8) (n : Nat) (h : n = 64 ∨ b.length ≤ n) : words (b.take n) = words b := by
  have e : (List.range 16).map (fun t => word (b.take n) (4 * t)) = (List.range 16).map (fun t => word b (4 * t)) :=
    List.map_congr_left fun t ht => word_cut b n t h (List.mem_range.1 ht)
  rw [words, e, ← words]
theorem words_high (b : List UInt8) (t : Nat) (h : 16 ≤ t) (ht : t < 64) : (words b).getD t 0 = 0 := by
  unfold words
  simp only [List.getD]
  rw [List.getElem?_append_right (by simpa using h), List.getElem?_replicate, if_pos (by simp; omega)]
  rfl
theorem words_step (b : List UInt8) (i : Nat) (h : i < 64) :
    words (b.take (i + 1)) = (words (b.take i)).set (i / 4) ((words (b.take i)).getD (i / 4) 0 ||| byteAt b i <<< (24 - 8 * (i % 4))) := by
  apply List.ext_getElem
  · simp [length_words]
  · intro t h1 h2
    have ht : t < 64 := by simpa [length_words] using h1
    rw [List.getElem_set]
    by_cases h16 : t < 16
    · have g : ∀ m (hh : t < (words (b.take m)).length), (words (b.take m))[t] = word (b.take m) (4 * t) := by
        intro m hh
        have := getD_words (b.take m) t h16
        rw [getD_getElem _ _ _ hh] at this
        exact this
      rw [g, g]
      split
      · rename_i e
        rw [e, getD_words _ _ h16]
        have hm : i % 4 < 4 := Nat.mod_lt _ (by decide)
        have hi : i = 4 * t + i % 4 := by omega
        unfold word
        rw [byteAt_take, byteAt_take, byteAt_take, byteAt_take, byteAt_take, byteAt_take, byteAt_take, byteAt_take]
        rcases (show i % 4 = 0 ∨ i % 4 = 1 ∨ i % 4 = 2 ∨ i % 4 = 3 by omega) with h0 | h0 | h0 | h0 <;> rw [h0] at hi ⊢ <;> subst hi
        · simp (disch := omega) [if_pos, if_neg, show ¬ 4 * t + 1 < 4 * t by omega, show ¬ 4 * t + 2 < 4 * t by omega, show ¬ 4 * t + 3 < 4 * t by omega]
        · simp (disch := omega) [if_pos, if_neg]
        · simp [show 4 * t < 4 * t + 2 by omega, show 4 * t < 4 * t + 2 + 1 by omega, show 4 * t + 1 < 4 * t + 2 + 1 by omega]
        · simp [show 4 * t < 4 * t + 3 by omega, show 4 * t < 4 * t + 3 + 1 by omega, show 4 * t + 1 < 4 * t + 3 + 1 by omega, show 4 * t + 2 < 4 * t + 3 + 1 by omega]
      · rename_i e
        unfold word
        rw [byteAt_take, byteAt_take, byteAt_take, byteAt_take, byteAt_take, byteAt_take, byteAt_take, byteAt_take]
        have hs : ∀ j, j / 4 = t → ((j < i + 1) = (j < i)) := by intro j hj; apply propext; constructor <;> intro _ <;> omega
        simp only [hs (4 * t) (by omega), hs (4 * t + 1) (by omega), hs (4 * t + 2) (by omega), hs (4 * t + 3) (by omega)]
    · have g : ∀ m (hh : t < (words (b.take m)).length), (words (b.take m))[t] = 0 := by
        intro m hh
        rw [← getD_getElem _ 0 _ hh]
        exact words_high _ _ (by omega) ht
      rw [g, g, if_neg (by omega)]
theorem word_ref (b : List UInt8) (i : Nat) :
    ((byteAt b i <<< 8 ||| byteAt b (i + 1)) <<< 8 ||| byteAt b (i + 2)) <<< 8 ||| byteAt b (i + 3) = word b i := by
  unfold word
  generalize byteAt b i = x0
  generalize byteAt b (i + 1) = x1
  generalize byteAt b (i + 2) = x2
  generalize byteAt b (i + 3) = x3
  simp only [BitVec.shiftLeft_or_distrib, ← BitVec.shiftLeft_add]
theorem length_pad (n : Nat) : (pad n).length = 9 + (119 - n % 64) % 64 := by simp [pad]; omega
theorem pad_whole (n : Nat) : (n + (pad n).length) % 64 = 0 := by rw [length_pad]; omega
theorem length_out (s : S8) : (out s).length = 32 := by simp [out, bytes4]
theorem length_sumL (m : List UInt8) : (sumL m).length = 32 := length_out _
end Go.Proofs.Ytipgldfbjlhpoaa.Sha
