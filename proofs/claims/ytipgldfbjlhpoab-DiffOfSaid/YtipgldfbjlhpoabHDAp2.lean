/- diff.Apply: the closures over the variables that they share. -/
import Derived.Test.YtipgldfbjlhpoabHDAp1
namespace Go.Proofs.Ytipgldfbjlhpoab.P
set_option linter.unusedVariables false
set_option linter.unusedSimpArgs false
open Go.RowKit Go.Proofs.YtipgldfbjlhpoabW.PrintWords Go.Proofs.YtipgldfbjlhpoabW.PrintLast Go.Proofs.YtipgldfbjlhpoabW.PrintMore
set_option maxRecDepth 100000
def putC (c : S62) : List S86 := if c.f2 = true then [] else [⟨c.f0, c.f1⟩]
structure EA (w0 W : World) (q m pe p : Nat) (v : Value) (l : List S86) (er : Int) (cs : Array Value) : Prop where
  hO : OutP w0.heap.size W q v l
  hm : W.heap[m]? = some (.cells cs 134 (0, 0))
  he : W.heap[pe]? = some (.cells #[.int .i64 er] 25 (0, 0))
  hp : W.heap[p]? = some (.cells #[.func (.func 89) #[] #[.pointer (some ⟨q, 0, none⟩)]] 131 (0, 0))
  vm : some m ≠ v.ownBlock
  ve : some pe ≠ v.ownBlock
  vp : some p ≠ v.ownBlock
  mq : m ≠ q
  eq : pe ≠ q
  pq : p ≠ q
  me : m ≠ pe
  pe' : p ≠ pe
  ge : w0.heap.size ≤ pe
  below : Below w0.heap.size w0 W
section
variable {w0 W W' : World} {q m pe p : Nat} {v v1 : Value} {l l1 : List S86} {er : Int} {cs : Array Value}
theorem EA.under (h : EA w0 W q m pe p v l er cs) (hb : Below W.heap.size W W') : EA w0 W' q m pe p v l er cs :=
  ⟨h.hO.under hb, blk_below h.hm hb, blk_below h.he hb, blk_below h.hp hb, h.vm, h.ve, h.vp, h.mq, h.eq, h.pq, h.me, h.pe', h.ge, h.below.trans (hb.mono h.below.size)⟩
theorem EA.drew (h : EA w0 W q m pe p v l er cs) : EA w0 W.drew q m pe p v l er cs := h.under ((Below.refl _ _).drew)
theorem own_apart (g : Grew w0.heap.size q W W' v v1) {b : Nat} (hb : b < W.heap.size) (hv : some b ≠ v.ownBlock) : some b ≠ v1.ownBlock := by
  rcases g.own with e | ⟨x, e, hx⟩
  · rw [e]; exact hv
  · rw [e]
    intro he
    have := Option.some.inj he
    omega
theorem EA.grew (h : EA w0 W q m pe p v l er cs) (ho : OutP w0.heap.size W' q v1 l1) (g : Grew w0.heap.size q W W' v v1) : EA w0 W' q m pe p v1 l1 er cs :=
  ⟨ho, (g.rest m (blk_lt h.hm) h.mq h.vm).trans h.hm, (g.rest pe (blk_lt h.he) h.eq h.ve).trans h.he, (g.rest p (blk_lt h.hp) h.pq h.vp).trans h.hp,
    own_apart g (blk_lt h.hm) h.vm, own_apart g (blk_lt h.he) h.ve, own_apart g (blk_lt h.hp) h.vp, h.mq, h.eq, h.pq, h.me, h.pe', h.ge, h.below.trans g.below⟩
theorem EA.set (h : EA w0 W q m pe p v l er cs) (e : Int) : EA w0 (W.setCell ⟨pe, 0, none⟩ (.int .i64 e)) q m pe p v l e cs :=
  ⟨⟨blk_far h.hO.hq (Ne.symm h.eq) _, Kd.R_mono (Kd.R_far (p := ⟨pe, 0, none⟩) (Kd.R_types h.hO.hR h.he (by decide)) (fun k hk => hk.2) _) (fun _ _ => trivial), h.hO.ge⟩,
    blk_far h.hm h.me _, (heap_setCell_same _ _ _ _ _ _ h.he).trans rfl, blk_far h.hp h.pe' _, h.vm, h.ve, h.vp, h.mq, h.eq, h.pq, h.me, h.pe', h.ge, h.below.setCell h.ge _⟩
end
theorem ap2_at {w0 W : World} {q m pe p : Nat} {v : Value} {l : List S86} {er : Int} {cs : Array Value} (x : S86) (h : EA w0 W q m pe p v l er cs) (hl : l.length < 3518437208883) :
    Calls Try.prog 92 #[.agg #[.string x.f0, .string x.f1], .pointer (some ⟨q, 0, none⟩)] W fun e w' => e = .returned (.tuple #[]) ∧ ∃ v1, EA w0 w' q m pe p v1 (l ++ [x]) er cs :=
  (ap2_any w0.heap.size q x.f0 x.f1 v l W h.hO hl).mono fun e w' ⟨he, v1, ho, g⟩ => ⟨he, v1, h.grew ho g⟩
theorem ap1_at {w0 W : World} {q m pe p : Nat} {v : Value} {l : List S86} {er : Int} {cs : Array Value} (c : S62) (h : EA w0 W q m pe p v l er cs) (hl : l.length < 3518437208883) :
    Calls Try.prog 89 #[.agg #[.string c.f0, .string c.f1, .bool c.f2], .pointer (some ⟨q, 0, none⟩)] W fun e w' => e = .returned (.tuple #[]) ∧ ∃ v1, EA w0 w' q m pe p v1 (l ++ putC c) er cs :=
  (ap1_any w0.heap.size q c.f0 c.f1 c.f2 v l W h.hO hl).mono fun e w' ⟨he, v1, ho, g⟩ => ⟨he, v1, h.grew ho g⟩
set_option maxHeartbeats 4000000 in
theorem ap4_at {w0 W : World} {q m pe p : Nat} {v : Value} {l : List S86} {er : Int} {cs : Array Value} (x : S86) (c : S62) (h : EA w0 W q m pe p v l er cs) (hl : l.length < 3518437208883) :
    Calls Try.prog 94 #[.agg #[.string x.f0, .string x.f1], .agg #[.string c.f0, .string c.f1, .bool c.f2], .pointer (some ⟨p, 0, none⟩)] W fun e w' => e = .returned (.tuple #[]) ∧ ∃ v1, EA w0 w' q m pe p v1 (l ++ putC c) er cs := by
  have hn : Below W.heap.size W ((W.alloc (.cells #[.string x.f0, .string x.f1] 86)).alloc (.cells #[.string c.f0, .string c.f1, .bool c.f2] 62)) := ((Below.refl _ _).alloc (Nat.le_refl _) _).alloc (by simp) _
  have h' := h.under hn
  have hcall := ap1_at c h' hl
  have x0 : ((W.alloc (.cells #[.string x.f0, .string x.f1] 86)).alloc (.cells #[.string c.f0, .string c.f1, .bool c.f2] 62)).cell? ⟨p, 0, none⟩ = some (.func (.func 89) #[] #[.pointer (some ⟨q, 0, none⟩)]) := (cell_of_row _ _ _ _ _ _ h'.hp).trans rfl
  clear h h' hn
  obtain ⟨R, hR⟩ : ∃ R, R = putC c := ⟨_, rfl⟩
  rw [← hR] at hcall ⊢
  clear hR
  go_enter Try.func94, Try.ntmps94
  go_wp2_with fail
  refine hcall.mono ?_
  rintro e w1 ⟨rfl, v1, hE⟩
  have HE := Lib.hid hE
  clear hE hcall x0
  go_wp2
  go_end0
  exact ⟨rfl, v1, HE.out⟩
set_option maxHeartbeats 4000000 in
theorem ap3_at {w0 W : World} {q m pe p : Nat} {v : Value} {l : List S86} {er : Int} {cs : Array Value} (c : S62) (h : EA w0 W q m pe p v l er cs) (hl : l.length < 3518437208883) :
    Calls Try.prog 93 #[.agg #[.string c.f0, .string c.f1, .bool c.f2], .pointer (some ⟨pe, 0, none⟩), .pointer (some ⟨p, 0, none⟩)] W fun e w' => e = .returned (.tuple #[]) ∧ ∃ v1, EA w0 w' q m pe p v1 (l ++ putC c) (if c.f2 = true then 8 else er) cs := by
  have hn : Below W.heap.size W (W.alloc (.cells #[.string c.f0, .string c.f1, .bool c.f2] 62)) := (Below.refl _ _).alloc (Nat.le_refl _) _
  have h' := h.under hn
  have hlt := blk_lt h.he
  cases hg : c.f2 with
  | true =>
    have h2 := (h.set 8).under (show Below (W.setCell ⟨pe, 0, none⟩ (.int .i64 8)).heap.size (W.setCell ⟨pe, 0, none⟩ (.int .i64 8)) ((W.setCell ⟨pe, 0, none⟩ (.int .i64 8)).alloc (.cells #[.string c.f0, .string c.f1, .bool c.f2] 62)) from (Below.refl _ _).alloc (Nat.le_refl _) _)
    have hcall := ap1_at c h2 hl
    have e0 : (W.alloc (.cells #[.string c.f0, .string c.f1, .bool c.f2] 62)).cell? ⟨pe, 0, none⟩ = some (.int .i64 er) := (cell_of_row _ _ _ _ _ _ h'.he).trans rfl
    have f0 : (W.alloc (.cells #[.string c.f0, .string c.f1, .bool c.f2] 62)).frozen? ⟨pe, 0, none⟩ = false := frozen_of_row _ _ _ _ _ h'.he
    have x0 : ((W.setCell ⟨pe, 0, none⟩ (.int .i64 8)).alloc (.cells #[.string c.f0, .string c.f1, .bool c.f2] 62)).cell? ⟨p, 0, none⟩ = some (.func (.func 89) #[] #[.pointer (some ⟨q, 0, none⟩)]) := (cell_of_row _ _ _ _ _ _ h2.hp).trans rfl
    clear h h' h2 hn
    obtain ⟨R, hR⟩ : ∃ R, R = putC c := ⟨_, rfl⟩
    rw [← hR] at hcall ⊢
    clear hR
    obtain ⟨a, b, g⟩ := c
    dsimp only at hg hcall e0 f0 x0 ⊢
    subst hg
    go_enter Try.func93, Try.ntmps93
    go_wp2_with fail
    refine hcall.mono ?_
    rintro e w1 ⟨rfl, v1, hE⟩
    have HE := Lib.hid hE
    clear hE hcall x0 e0 f0
    go_wp2
    go_end0
    exact ⟨rfl, v1, HE.out⟩
  | false =>
    have hcall := ap1_at c h' hl
    have x0 : (W.alloc (.cells #[.string c.f0, .string c.f1, .bool c.f2] 62)).cell? ⟨p, 0, none⟩ = some (.func (.func 89) #[] #[.pointer (some ⟨q, 0, none⟩)]) := (cell_of_row _ _ _ _ _ _ h'.hp).trans rfl
    clear h h' hn
    obtain ⟨R, hR⟩ : ∃ R, R = putC c := ⟨_, rfl⟩
    rw [← hR] at hcall ⊢
    clear hR
    obtain ⟨a, b, g⟩ := c
    dsimp only at hg hcall x0 ⊢
    subst hg
    go_enter Try.func93, Try.ntmps93
    go_wp2_with fail
    refine hcall.mono ?_
    rintro e w1 ⟨rfl, v1, hE⟩
    have HE := Lib.hid hE
    clear hE hcall x0
    go_wp2
    go_end0
    exact ⟨rfl, v1, HE.out⟩
end Go.Proofs.Ytipgldfbjlhpoab.P
