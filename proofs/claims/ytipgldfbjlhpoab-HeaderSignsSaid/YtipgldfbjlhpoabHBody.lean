/- header.body: the bytes but for the last text, as a fresh writer's state: its contract. -/
import Derived.Test.YtipgldfbjlhpoabPHeadW
import Derived.Test.YtipgldfbjlhpoabPWire
import Derived.WalkLawsBesides
namespace Go.Proofs.Ytipgldfbjlhpoab.P
set_option linter.unusedVariables false
set_option linter.unusedSimpArgs false
open Go.RowKit Go.Proofs.YtipgldfbjlhpoabW.PrintWords Go.Proofs.YtipgldfbjlhpoabW.PrintLast Go.Proofs.YtipgldfbjlhpoabW.PrintMore
set_option maxRecDepth 100000
def header_body.f (c : ByteArray) (h t : Int) (r m : ByteArray) : Option (ByteArray × Int) :=
  (wire_Text.f c).bind fun x1 => (header_writer_add.f ⟨#[]⟩ 0 x1.1 x1.2).bind fun s1 => (wire_Num.f h).bind fun x2 => (header_writer_add.f s1.1 s1.2 x2.1 x2.2).bind fun s2 =>
    (wire_Num.f t).bind fun x3 => (header_writer_add.f s2.1 s2.2 x3.1 x3.2).bind fun s3 => (wire_Text.f r).bind fun x4 => header_writer_add.f s3.1 s3.2 x4.1 x4.2
/-- What the walk holds: the writer, the header's own block, and that nothing elder has turned. -/
structure HB (w W : World) (g p : Nat) (s : ByteArray) (e : Int) (cs : Array Value) : Prop where
  st : IsS106 w W g s e
  hd : W.heap[p]? = some (.cells cs 23 (0, 0))
  ge : w.heap.size ≤ p
  below : Below w.heap.size w W
theorem HB.under {w W W' : World} {g p : Nat} {s : ByteArray} {e : Int} {cs : Array Value} (h : HB w W g p s e cs) (hb : Below W.heap.size W W') : HB w W' g p s e cs :=
  ⟨h.st.below hb, blk_below h.hd hb, h.ge, h.below.trans (hb.mono h.below.size)⟩
theorem HB.step {w W W' : World} {g p : Nat} {s s' : ByteArray} {e e' : Int} {cs : Array Value} (h : HB w W g p s e cs) (hs : IsS106 w W' g s' e') (hb : Below w.heap.size w W') (hk : KeepBut W W' g none) : HB w W' g p s' e' cs :=
  ⟨hs, hk.blk h.hd (Ne.symm (h.st.ne_blk h.hd (by decide))) (by simp), h.ge, hb⟩
set_option maxHeartbeats 1000000 in
theorem header_body.calls (c : ByteArray) (h t : Int) (r m : ByteArray) (r1 : ByteArray) (r2 : Int) (w0 w : World) (hB : Below w0.heap.size w0 w) (hf : header_body.f c h t r m = some (r1, r2)) :
    Calls Try.prog 65 #[.agg #[.string c, .int .i64 h, .int .i64 t, .string r, .string m]] w fun e w' => ∃ g_ : Nat, e = .returned (.pointer (some ⟨g_, 0, none⟩)) ∧ IsS106 w0 w' g_ r1 r2 ∧ Below w0.heap.size w0 w' ∧ Below w.heap.size w w' := by
  unfold header_body.f at hf
  obtain ⟨x1, h1, hf⟩ := Option.bind_eq_some_iff.mp hf
  obtain ⟨s1, a1, hf⟩ := Option.bind_eq_some_iff.mp hf
  obtain ⟨x2, h2, hf⟩ := Option.bind_eq_some_iff.mp hf
  obtain ⟨s2, a2, hf⟩ := Option.bind_eq_some_iff.mp hf
  obtain ⟨x3, h3, hf⟩ := Option.bind_eq_some_iff.mp hf
  obtain ⟨s3, a3, hf⟩ := Option.bind_eq_some_iff.mp hf
  obtain ⟨x4, h4, a4⟩ := Option.bind_eq_some_iff.mp hf
  clear hf
  have HB0 := Lib.hid hB
  clear hB
  go_enter Try.func65, Try.ntmps65
  go_upto_region 1 with fail
  go_cut [1, 3] (fun v1 v3 wx => v1 = .pointer (some ⟨w.heap.size, 0, none⟩) ∧ v3 = .pointer (some ⟨w.heap.size + 1, 0, none⟩) ∧ HB w wx (w.heap.size + 1) w.heap.size ⟨#[]⟩ 0 #[.string c, .int .i64 h, .int .i64 t, .string r, .string m])
  case first =>
    go_wp2_with fail
    go_meet
    refine ⟨rfl, rfl, ⟨heap_alloc2_new w _ _, by omega⟩, heap_alloc2_old w _ _, Nat.le_refl _, ((Below.refl _ _).alloc (Nat.le_refl _) _).alloc (by simp) _⟩
  case rest =>
    obtain ⟨rfl, rfl, hM⟩ := hcut
    have c1 : wc.cell? ⟨w.heap.size, 0, none⟩ = some (.string c) := (cell_of_row _ _ _ _ _ _ hM.hd).trans rfl
    have HM := Lib.hid hM
    clear hM
    go_wp2_with fail
    refine (wire_Text.calls c x1.1 x1.2 _ h1).mono ?_
    rintro e wa1 ⟨rfl, hb⟩
    have hM := HM.out.under hb
    clear hb c1 HM
    have hst := hM.st
    have hbl := hM.below
    have HM := Lib.hid hM
    clear hM
    have hadd := header_writer_add.calls _ _ _ _ _ s1.1 s1.2 w _ hst hbl a1
    clear hst hbl
    go_wp2_with fail
    refine hadd.mono ?_
    rintro e wb1 ⟨rfl, hs, hb, hk⟩
    have hM := HM.out.step hs hb hk
    clear hs hb hk HM hadd
    have c2 : wb1.cell? ⟨w.heap.size, 1, none⟩ = some (.int .i64 h) := (cell_of_row _ _ _ _ _ _ hM.hd).trans rfl
    have HM := Lib.hid hM
    clear hM
    go_wp2_with fail
    refine (wire_Num.calls h x2.1 x2.2 _ h2).mono ?_
    rintro e wa2 ⟨rfl, hb⟩
    have hM := HM.out.under hb
    clear hb c2 HM
    have hst := hM.st
    have hbl := hM.below
    have HM := Lib.hid hM
    clear hM
    have hadd := header_writer_add.calls _ _ _ _ _ s2.1 s2.2 w _ hst hbl a2
    clear hst hbl
    go_wp2_with fail
    refine hadd.mono ?_
    rintro e wb2 ⟨rfl, hs, hb, hk⟩
    have hM := HM.out.step hs hb hk
    clear hs hb hk HM hadd
    have c3 : wb2.cell? ⟨w.heap.size, 2, none⟩ = some (.int .i64 t) := (cell_of_row _ _ _ _ _ _ hM.hd).trans rfl
    have HM := Lib.hid hM
    clear hM
    go_wp2_with fail
    refine (wire_Num.calls t x3.1 x3.2 _ h3).mono ?_
    rintro e wa3 ⟨rfl, hb⟩
    have hM := HM.out.under hb
    clear hb c3 HM
    have hst := hM.st
    have hbl := hM.below
    have HM := Lib.hid hM
    clear hM
    have hadd := header_writer_add.calls _ _ _ _ _ s3.1 s3.2 w _ hst hbl a3
    clear hst hbl
    go_wp2_with fail
    refine hadd.mono ?_
    rintro e wb3 ⟨rfl, hs, hb, hk⟩
    have hM := HM.out.step hs hb hk
    clear hs hb hk HM hadd
    have c4 : wb3.cell? ⟨w.heap.size, 3, none⟩ = some (.string r) := (cell_of_row _ _ _ _ _ _ hM.hd).trans rfl
    have HM := Lib.hid hM
    clear hM
    go_wp2_with fail
    refine (wire_Text.calls r x4.1 x4.2 _ h4).mono ?_
    rintro e wa4 ⟨rfl, hb⟩
    have hM := HM.out.under hb
    clear hb c4 HM
    have hst := hM.st
    have hbl := hM.below
    have HM := Lib.hid hM
    clear hM
    have hadd := header_writer_add.calls _ _ _ _ _ r1 r2 w _ hst hbl a4
    clear hst hbl
    go_wp2_with fail
    refine hadd.mono ?_
    rintro e wb4 ⟨rfl, hs, hb, hk⟩
    have hM := HM.out.step hs hb hk
    clear hs hb hk HM hadd
    have HM := Lib.hid hM
    clear hM
    go_wp2_with fail
    go_ret
    exact ⟨_, rfl, ⟨HM.out.st.1, by have := HB0.out.size; have := HM.out.st.2; omega⟩, HB0.out.trans (HM.out.below.mono HB0.out.size), HM.out.below⟩
end Go.Proofs.Ytipgldfbjlhpoab.P
