/- diff.Put: changes as bytes: its contract. -/
import Derived.Test.YtipgldfbjlhpoabHBld
import Derived.Test.YtipgldfbjlhpoabHFine
import Derived.Laws.EntriesVeiled
namespace Go.Proofs.Ytipgldfbjlhpoab.P
set_option linter.unusedVariables false
set_option linter.unusedSimpArgs false
open Go.RowKit Go.Proofs.YtipgldfbjlhpoabW.PrintWords Go.Proofs.YtipgldfbjlhpoabW.PrintLast Go.Proofs.YtipgldfbjlhpoabW.PrintMore
set_option maxRecDepth 100000
def oneM (c : S62) : Option (ByteArray × Int) := diff_one.f 3 c.f0 c.f1 c.f2
def putM : List S62 → List UInt8 → Option (List UInt8 × Int)
  | [], acc => some (acc, 0)
  | c :: l, acc => (oneM c).bind fun r => if r.2 = 0 then (if acc.length + r.1.size ≤ 140737488355328 then putM l (acc ++ r.1.data.toList) else none) else some ([], r.2)
def diff_Put.f (l0 : List S62) : Option (ByteArray × Int) :=
  (diff_fine.f l0).bind fun b => if b = true then (if 256 < l0.length then some (⟨#[]⟩, 4) else (wire_Num.f (l0.length : Int)).bind fun n => if n.1.size ≤ 140737488355328 then (putM l0 n.1.data.toList).map fun r => (⟨r.1.toArray⟩, r.2) else none) else some (⟨#[]⟩, 6)
theorem bld_keep {T e : TypeId} {B b : Nat} {bs : List Value} {W W' : World} (h : Lib.IsBuilder T e B b bs W) (hb : Below W.heap.size W W') : Lib.IsBuilder T e B b bs W' := by
  have key : ∀ p, Lib.BuilderAt T e B b p bs W → Lib.BuilderAt T e B b p bs W' := by
    intro p k
    have hlt := k.lt
    obtain ⟨hB, v, hbk, hown, hne⟩ := k
    refine ⟨hB, v, (hb.block b hlt).trans hbk, hown.kept (row := none) ⟨hb.os, hb.tape, hb.output, hb.size, fun k hk _ => hb.block k hk⟩ ?_, hne⟩
    exact Classical.em _
  rcases h with h | h
  · exact Or.inl (key _ h)
  · exact Or.inr (key _ h)
theorem bld_lt {T e : TypeId} {B b : Nat} {bs : List Value} {W : World} (h : Lib.IsBuilder T e B b bs W) : b < W.heap.size := by
  rcases h with h | h <;> exact h.lt
/-- The changes are as they were, the builder holds acc. -/
structure MPut (w wr : World) (b : Nat) (A : Option Addr) (l : List S62) (acc : List UInt8) : Prop where
  hC : Kd.C k62 wr A l.length l
  hI : Lib.IsBuilder 144 5 b b (Lib.byteCells acc) wr
  below : Below w.heap.size w wr
  le : w.heap.size ≤ b
theorem MPut.under {w wr wn : World} {b : Nat} {A : Option Addr} {l : List S62} {acc : List UInt8} (h : MPut w wr b A l acc) (hb : Below wr.heap.size wr wn) : MPut w wn b A l acc :=
  ⟨Kd.C_below h.hC hb, bld_keep h.hI hb, h.below.trans (hb.mono h.below.size), h.le⟩
theorem MPut.wrote {w wr wn : World} {b : Nat} {A : Option Addr} {l : List S62} {acc : List UInt8} (hC : Kd.C k62 w A l.length l) (h : MPut w wr b A l acc) (s : ByteArray) (hI : Lib.BuilderAt 144 5 b b (.pointer (some ⟨b, 0, none⟩)) (Lib.byteCells acc ++ Lib.strCells s) wn) (hb : Below b wr wn) : MPut w wn b A l (acc ++ s.data.toList) := by
  have hbl : Below w.heap.size w wn := h.below.trans (hb.mono h.le)
  refine ⟨Kd.C_below hC hbl, Or.inr ?_, hbl, h.le⟩
  have : Lib.byteCells (acc ++ s.data.toList) = Lib.byteCells acc ++ Lib.strCells s := by
    simp [Lib.byteCells, Lib.strCells]
  rw [this]
  exact hI
set_option maxHeartbeats 4000000 in
theorem diff_Put.calls (A0 : Option Addr) (c0 : Nat) (l0 : List (S62)) (r1 : ByteArray) (r2 : Int) (w : World) (hr0 : Kd.C k62 w A0 l0.length l0) (hc0 : l0.length ≤ c0) (h : diff_Put.f l0 = some (r1, r2)) :
    Calls Try.prog 35 #[.slice A0 l0.length c0] w fun e w' => e = .returned (.tuple #[.string r1, .int .i64 r2]) ∧ Below w.heap.size w w' := by
  unfold diff_Put.f at h
  obtain ⟨b, hf, h⟩ := Option.bind_eq_some_iff.mp h
  have hcall := diff_fine.calls A0 c0 l0 b w hr0 hc0 hf
  clear hf
  have hm := Kd.C_max hr0
  have HC := Lib.hid hr0
  clear hr0
  cases b with
  | false =>
    rw [if_neg (by decide)] at h
    simp only [Option.some.injEq, Prod.mk.injEq] at h
    obtain ⟨rfl, rfl⟩ := h
    go_enter Try.func35, Try.ntmps35
    go_wp2_with fail
    refine hcall.mono ?_
    rintro e w1 ⟨rfl, hb⟩
    clear hcall
    go_wp2
    go_ret2
    exact ⟨rfl, hb⟩
  | true =>
    rw [if_pos rfl] at h
    by_cases hl : 256 < l0.length
    · rw [if_pos hl] at h
      simp only [Option.some.injEq, Prod.mk.injEq] at h
      obtain ⟨rfl, rfl⟩ := h
      have hl2 : (256 : Int) < (l0.length : Int) := by omega
      go_enter Try.func35, Try.ntmps35
      go_wp2_with fail
      refine hcall.mono ?_
      rintro e w1 ⟨rfl, hb⟩
      clear hcall
      go_wp2
      go_ret2
      exact ⟨rfl, hb⟩
    · rw [if_neg hl] at h
      have hl2 : ¬ (256 : Int) < (l0.length : Int) := by omega
      obtain ⟨n, hn, h⟩ := Option.bind_eq_some_iff.mp h
      have hsz : n.1.size ≤ 140737488355328 := by
        rcases Classical.em (n.1.size ≤ 140737488355328) with hsz | hsz
        · exact hsz
        · rw [if_neg hsz] at h
          cases h
      rw [if_pos hsz] at h
      have HP := Lib.hid h
      clear h
      go_enter Try.func35, Try.ntmps35
      go_wp2_with fail
      refine hcall.mono ?_
      rintro e w1 ⟨rfl, hb⟩
      clear hcall
      have HB := Lib.hid hb
      clear hb
      have HN := Lib.hid hn
      clear hn
      go_wp2_with fail
      refine (wire_Num.calls (l0.length : Int) n.1 n.2 _ HN.out).mono ?_
      rintro e w2 ⟨rfl, hb⟩
      have hfresh := Lib.fresh_isBuilder 144 5 w1
      have HM := Lib.hid (MPut.under (A := A0) (l := l0) (acc := []) (w := w) ⟨Kd.C_below HC.out (HB.out.trans ((Below.refl _ _).alloc HB.out.size _)), hfresh, HB.out.trans ((Below.refl _ _).alloc HB.out.size _), HB.out.size⟩ hb)
      clear hb hfresh
      obtain ⟨b, hbb⟩ : ∃ b, b = w1.heap.size := ⟨_, rfl⟩
      rw [← hbb] at HM ⊢
      clear hbb
      have hcall := builder_WriteString b b _ n.1 w2 HM.out.hI (by simpa [Lib.byteCells] using hsz) (Nat.le_of_lt (bld_lt HM.out.hI))
      go_wp2_with fail
      refine hcall.mono ?_
      rintro e w3 ⟨rfl, hI, hb⟩
      clear hcall
      replace HM := Lib.hid (HM.out.wrote HC.out n.1 hI hb)
      rw [List.nil_append] at HM
      clear hI hb
      obtain ⟨n0, hn0⟩ : ∃ n0, n0 = n.1.data.toList := ⟨_, rfl⟩
      rw [← hn0] at HM HP
      clear hn0 hsz hl hl2
      obtain ⟨g, hg, hgr⟩ := Option.map_eq_some_iff.mp HP.out
      simp only [Prod.mk.injEq] at hgr
      obtain ⟨rfl, rfl⟩ := hgr
      have HG := Lib.hid hg
      clear hg HP
      go_wp2
      go_loopw [29] (fun i wr => ∃ (k : Nat) (acc : List UInt8), k ≤ l0.length ∧ i = .int .i64 (k : Int) ∧ putM (l0.drop k) acc = some g ∧ MPut w wr b A0 l0 acc) (fun i _ => l0.length - (intOf i).toNat)
      case atStart => exact ⟨0, n0, Nat.zero_le _, rfl, HG.out, HM.out⟩
      case round =>
        clear HM HG
        obtain ⟨k, acc, hk, rfl, hg, hM⟩ := hrel
        have HG := Lib.hid hg
        have HM := Lib.hid hM
        clear hg hM
        by_cases hlt : k < l0.length
        · have hki : (k : Int) < (l0.length : Int) := by omega
          have hk0 : (0 : Int) ≤ (k : Int) := by omega
          obtain ⟨ad, rfl, x0, x1, x2⟩ := at_T62 HM.out.hC (k : Int) (by omega) (by omega)
          rw [Int.toNat_natCast] at x0 x1 x2
          have hstep := HG.out
          rw [List.drop_eq_getElem_cons hlt, putM] at hstep
          have hrd : rd_T62 l0 (k : Int) = l0[k] := by
            simp [rd_T62, List.getD, hlt]
          obtain ⟨P, hP⟩ : ∃ P, P = l0[k] := ⟨_, rfl⟩
          rw [hrd, ← hP] at x0 x1 x2
          rw [← hP] at hstep
          clear hP hrd
          obtain ⟨r, hr, hstep⟩ := Option.bind_eq_some_iff.mp hstep
          have HS := Lib.hid hstep
          have HR := Lib.hid hr
          clear hstep hr
          go_wp2_with fail
          refine (diff_one.calls 3 P.f0 P.f1 P.f2 r.1 r.2 _ HR.out).mono ?_
          rintro e wa ⟨rfl, hb⟩
          replace HM := Lib.hid ((HM.out.under ((Below.refl _ _).alloc (Nat.le_refl _) _)).under hb)
          clear hb x0 x1 x2
          by_cases he : r.2 = 0
          · have hstep := HS.out
            rw [if_pos he] at hstep
            have hz : acc.length + r.1.size ≤ 140737488355328 := by
              rcases Classical.em (acc.length + r.1.size ≤ 140737488355328) with hz | hz
              · exact hz
              · rw [if_neg hz] at hstep
                cases hstep
            rw [if_pos hz] at hstep
            clear HS
            have HS := Lib.hid hstep
            clear hstep
            have hcall := builder_WriteString b b _ r.1 wa HM.out.hI (by simpa [Lib.byteCells] using hz) (Nat.le_of_lt (bld_lt HM.out.hI))
            clear hz
            rw [he]
            go_wp2_with fail
            refine hcall.mono ?_
            rintro e wn ⟨rfl, hI, hb⟩
            clear hcall
            replace HM := Lib.hid (HM.out.wrote HC.out r.1 hI hb)
            clear hI hb
            go_wp2
            exact ⟨⟨k + 1, _, by omega, by go_num, HS.out, HM.out⟩, by simp [intOf]; omega⟩
          · have hstep := HS.out
            rw [if_neg he] at hstep
            obtain rfl := Option.some.inj hstep
            clear hstep HS
            go_wp2
            go_ret2
            exact ⟨rfl, HM.out.below⟩
        · have hki : ¬ (k : Int) < (l0.length : Int) := by omega
          obtain rfl : k = l0.length := by omega
          have hstep := HG.out
          rw [List.drop_eq_nil_of_le (Nat.le_refl _), putM] at hstep
          obtain rfl := Option.some.inj hstep
          clear hstep HG
          have hcall := builder_String b b acc wr HM.out.hI (Nat.le_of_lt (bld_lt HM.out.hI))
          go_wp2_with fail
          refine hcall.mono ?_
          rintro e wn ⟨rfl, hb⟩
          clear hcall
          go_wp2
          go_ret2
          exact ⟨rfl, HM.out.below.trans (hb.mono HM.out.le)⟩
end Go.Proofs.Ytipgldfbjlhpoab.P
