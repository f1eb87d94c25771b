/- msg.Put: a message's bytes: its contract. -/
import Derived.Test.YtipgldfbjlhpoabHMsg2
namespace Go.Proofs.Ytipgldfbjlhpoab.P
set_option linter.unusedVariables false
set_option linter.unusedSimpArgs false
open Go.RowKit Go.Proofs.Ytipgldfbjlhpoab.Sha Go.Proofs.Ytipgldfbjlhpoab.Msg Go.Proofs.YtipgldfbjlhpoabW.PrintWords Go.Proofs.YtipgldfbjlhpoabW.PrintLast Go.Proofs.YtipgldfbjlhpoabW.PrintMore
set_option maxRecDepth 100000
def cat (a b : ByteArray) : Option ByteArray := if a.size + b.size ≤ 9223372036854775807 then some (a ++ b) else none
def putNs : ByteArray → List Int → Option ByteArray
  | o, [] => some o
  | o, n :: l => (wire_Num.f n).bind fun x => (cat o x.1).bind fun o' => putNs o' l
def PutRel (o : ByteArray) (l : List Int) (s : ByteArray) : Prop := putNs o l = some s
def msg_Put.f (kind : Int) (from_ : ByteArray) (ts ls : List ByteArray) (ns : List Int) : Option (ByteArray × Int) :=
  (msg_Check.f kind from_ ts ls ns).bind fun e => if e = 0 then
    ((wire_Num.f kind).bind fun x => (cat ⟨#[]⟩ x.1).bind fun o1 => (wire_Text.f from_).bind fun y => (cat o1 y.1).bind fun o2 => (wire_Join.f joinK ts).bind fun z => (cat o2 z.1).bind fun o3 =>
      (wire_Join.f joinK ls).bind fun u => (cat o3 u.1).bind fun o4 => (putNs o4 ns).bind fun s => some (s, 0)) else some (⟨#[]⟩, e)
theorem lay_any (q : Nat) (o a r : ByteArray) (x : Int) (w : World) (hq : w.heap[q]? = some (.cells #[.string o] 9 (0, 0))) (h : cat o a = some r) :
    Calls Try.prog 106 #[.string a, .int .i64 x, .pointer (some ⟨q, 0, none⟩)] w fun e w' => e = .returned (.tuple #[]) ∧ w' = w.setCell ⟨q, 0, none⟩ (.string r) := by
  unfold cat at h
  split at h
  · rename_i hz
    obtain rfl := Option.some.inj h
    have hc : w.cell? ⟨q, 0, none⟩ = some (.string o) := (cell_of_row _ _ _ _ _ _ hq).trans rfl
    have hf : w.frozen? ⟨q, 0, none⟩ = false := frozen_of_row _ _ _ _ _ hq
    clear hq
    go_enter Try.func106, Try.ntmps106
    go_wp2
    go_end0
    exact ⟨rfl, rfl⟩
  · cases h
structure MP (w W : World) (p q : Nat) (cs : Array Value) (o : ByteArray) : Prop where
  hm : W.heap[p]? = some (.cells cs 66 (0, 0))
  hq : W.heap[q]? = some (.cells #[.string o] 9 (0, 0))
  ne : p ≠ q
  gq : w.heap.size ≤ q
  below : Below w.heap.size w W
theorem MP.under {w W W' : World} {p q : Nat} {cs : Array Value} {o : ByteArray} (h : MP w W p q cs o) (hb : Below W.heap.size W W') : MP w W' p q cs o :=
  ⟨blk_below h.hm hb, blk_below h.hq hb, h.ne, h.gq, h.below.trans (hb.mono h.below.size)⟩
theorem MP.lay {w W : World} {p q : Nat} {cs : Array Value} {o : ByteArray} (h : MP w W p q cs o) (r : ByteArray) : MP w (W.setCell ⟨q, 0, none⟩ (.string r)) p q cs r :=
  ⟨row_far h.hm _ h.ne, (heap_setCell_same _ _ _ _ _ _ h.hq).trans rfl, h.ne, h.gq, h.below.setCell h.gq _⟩
set_option maxHeartbeats 4000000 in
theorem msg_Put.calls (a0_0 : Int) (a0_1 : ByteArray) (A0_2 : Option Addr) (c0_2 : Nat) (l0_2 : List ByteArray) (A0_3 : Option Addr) (c0_3 : Nat) (l0_3 : List ByteArray) (A0_4 : Option Addr) (c0_4 : Nat) (l0_4 : List Int) (r1 : ByteArray) (r2 : Int) (w : World)
    (hr0_2 : Kd.C Kd.string w A0_2 l0_2.length l0_2) (hc0_2 : l0_2.length ≤ c0_2) (hr0_3 : Kd.C Kd.string w A0_3 l0_3.length l0_3) (hc0_3 : l0_3.length ≤ c0_3) (hr0_4 : Kd.C (Kd.int .i64) w A0_4 l0_4.length l0_4) (hc0_4 : l0_4.length ≤ c0_4) (h : msg_Put.f a0_0 a0_1 l0_2 l0_3 l0_4 = some (r1, r2)) :
    Calls Try.prog 43 #[.agg #[.int .i64 a0_0, .string a0_1, .slice A0_2 l0_2.length c0_2, .slice A0_3 l0_3.length c0_3, .slice A0_4 l0_4.length c0_4]] w fun e w' => e = .returned (.tuple #[.string r1, .int .i64 r2]) ∧ Below w.heap.size w w' := by
  unfold msg_Put.f at h
  obtain ⟨e0, hchk, h⟩ := Option.bind_eq_some_iff.mp h
  have hm4 := Kd.C_max hr0_4
  have HF := Lib.hid h
  clear h
  have hnew : Below w.heap.size w (w.alloc (.cells #[.int .i64 a0_0, .string a0_1, .slice A0_2 l0_2.length c0_2, .slice A0_3 l0_3.length c0_3, .slice A0_4 l0_4.length c0_4] 66)) := (Below.refl _ _).alloc (Nat.le_refl _) _
  have hcall := msg_Check.calls a0_0 a0_1 A0_2 c0_2 l0_2 A0_3 c0_3 l0_3 A0_4 c0_4 l0_4 e0 _ (Kd.C_alloc hr0_2 (.cells #[.int .i64 a0_0, .string a0_1, .slice A0_2 l0_2.length c0_2, .slice A0_3 l0_3.length c0_3, .slice A0_4 l0_4.length c0_4] 66)) hc0_2 (Kd.C_alloc hr0_3 _) hc0_3 (Kd.C_alloc hr0_4 _) hc0_4 hchk
  have HN := Lib.hid hnew
  clear hnew hchk
  go_enter Try.func43, Try.ntmps43
  go_wp2_with fail
  refine hcall.mono ?_
  rintro e w2 ⟨rfl, hb2⟩
  have hp2 : w2.heap[w.heap.size]? = some (.cells #[.int .i64 a0_0, .string a0_1, .slice A0_2 l0_2.length c0_2, .slice A0_3 l0_3.length c0_3, .slice A0_4 l0_4.length c0_4] 66 (0, 0)) := blk_below (heap_alloc_new w _) hb2
  have hB2 : Below w.heap.size w w2 := HN.out.trans (hb2.mono HN.out.size)
  have hlt : w.heap.size < w2.heap.size := blk_lt hp2
  clear hb2 hcall HN
  have HP := Lib.hid hp2
  clear hp2
  by_cases he : e0 = 0
  · subst he
    have h := HF.out
    clear HF
    rw [if_pos rfl] at h
    obtain ⟨x, hx, h⟩ := Option.bind_eq_some_iff.mp h
    obtain ⟨o1, ho1, h⟩ := Option.bind_eq_some_iff.mp h
    obtain ⟨y, hy, h⟩ := Option.bind_eq_some_iff.mp h
    obtain ⟨o2, ho2, h⟩ := Option.bind_eq_some_iff.mp h
    obtain ⟨z, hz, h⟩ := Option.bind_eq_some_iff.mp h
    obtain ⟨o3, ho3, h⟩ := Option.bind_eq_some_iff.mp h
    obtain ⟨u, hu, h⟩ := Option.bind_eq_some_iff.mp h
    obtain ⟨o4, ho4, h⟩ := Option.bind_eq_some_iff.mp h
    obtain ⟨s, hs, h⟩ := Option.bind_eq_some_iff.mp h
    simp only [Option.some.injEq, Prod.mk.injEq] at h
    obtain ⟨rfl, rfl⟩ := h
    go_upto_region 5 with fail
    go_cut [1, 6, 5] (fun v1 v6 v5 wx => ∃ p q, v1 = .pointer (some ⟨p, 0, none⟩) ∧ v5 = .pointer (some ⟨q, 0, none⟩) ∧ v6 = .func (.func 106) #[] #[.pointer (some ⟨q, 0, none⟩)] ∧ MP w wx p q #[.int .i64 a0_0, .string a0_1, .slice A0_2 l0_2.length c0_2, .slice A0_3 l0_3.length c0_3, .slice A0_4 l0_4.length c0_4] ⟨#[]⟩)
    case first =>
      go_wp2_with fail
      go_meet
      exact ⟨_, _, rfl, rfl, rfl, blk_alloc HP.out _, heap_alloc_new w2 _, by omega, hB2.size, hB2.alloc hB2.size _⟩
    case rest =>
      obtain ⟨p, q, rfl, rfl, rfl, hM⟩ := hcut
      clear HP hB2 hlt
      have HM := Lib.hid hM
      clear hM
      have m : wc.cell? ⟨p, 0, none⟩ = some (.int .i64 a0_0) := (cell_of_row _ _ _ _ _ _ HM.out.hm).trans rfl
      go_wp2_with fail
      refine (wire_Num.calls a0_0 x.1 x.2 _ hx).mono ?_
      rintro e wa0 ⟨rfl, hb⟩
      replace HM := Lib.hid (HM.out.under hb)
      clear hb m
      have hl := lay_any q ⟨#[]⟩ x.1 o1 x.2 _ HM.out.hq ho1
      go_wp2_with fail
      refine hl.mono ?_
      rintro e wb0 ⟨rfl, rfl⟩
      clear hl
      replace HM := Lib.hid (HM.out.lay o1)
      obtain ⟨wd0, hwd⟩ : ∃ wd, wd = wa0.setCell ⟨q, 0, none⟩ (.string o1) := ⟨_, rfl⟩
      rw [← hwd] at HM ⊢
      clear hwd
      have m : wd0.cell? ⟨p, 1, none⟩ = some (.string a0_1) := (cell_of_row _ _ _ _ _ _ HM.out.hm).trans rfl
      go_wp2_with fail
      refine (wire_Text.calls a0_1 y.1 y.2 _ hy).mono ?_
      rintro e wa1 ⟨rfl, hb⟩
      replace HM := Lib.hid (HM.out.under hb)
      clear hb m
      have hl := lay_any q o1 y.1 o2 y.2 _ HM.out.hq ho2
      go_wp2_with fail
      refine hl.mono ?_
      rintro e wb1 ⟨rfl, rfl⟩
      clear hl
      replace HM := Lib.hid (HM.out.lay o2)
      obtain ⟨wd1, hwd⟩ : ∃ wd, wd = wa1.setCell ⟨q, 0, none⟩ (.string o2) := ⟨_, rfl⟩
      rw [← hwd] at HM ⊢
      clear hwd
      have m : wd1.cell? ⟨p, 2, none⟩ = some (.slice A0_2 l0_2.length c0_2) := (cell_of_row _ _ _ _ _ _ HM.out.hm).trans rfl
      go_wp2_with fail
      refine (wire_Join.calls joinK A0_2 c0_2 l0_2 z.1 z.2 _ (Kd.C_below hr0_2 HM.out.below) hc0_2 hz).mono ?_
      rintro e wa2 ⟨rfl, hb⟩
      replace HM := Lib.hid (HM.out.under hb)
      clear hb m
      have hl := lay_any q o2 z.1 o3 z.2 _ HM.out.hq ho3
      go_wp2_with fail
      refine hl.mono ?_
      rintro e wb2 ⟨rfl, rfl⟩
      clear hl
      replace HM := Lib.hid (HM.out.lay o3)
      obtain ⟨wd2, hwd⟩ : ∃ wd, wd = wa2.setCell ⟨q, 0, none⟩ (.string o3) := ⟨_, rfl⟩
      rw [← hwd] at HM ⊢
      clear hwd
      have m : wd2.cell? ⟨p, 3, none⟩ = some (.slice A0_3 l0_3.length c0_3) := (cell_of_row _ _ _ _ _ _ HM.out.hm).trans rfl
      go_wp2_with fail
      refine (wire_Join.calls joinK A0_3 c0_3 l0_3 u.1 u.2 _ (Kd.C_below hr0_3 HM.out.below) hc0_3 hu).mono ?_
      rintro e wa3 ⟨rfl, hb⟩
      replace HM := Lib.hid (HM.out.under hb)
      clear hb m
      have hl := lay_any q o3 u.1 o4 u.2 _ HM.out.hq ho4
      go_wp2_with fail
      refine hl.mono ?_
      rintro e wb3 ⟨rfl, rfl⟩
      clear hl
      replace HM := Lib.hid (HM.out.lay o4)
      obtain ⟨wd3, hwd⟩ : ∃ wd, wd = wa3.setCell ⟨q, 0, none⟩ (.string o4) := ⟨_, rfl⟩
      rw [← hwd] at HM ⊢
      clear hwd
      have m : wd3.cell? ⟨p, 4, none⟩ = some (.slice A0_4 l0_4.length c0_4) := (cell_of_row _ _ _ _ _ _ HM.out.hm).trans rfl
      go_wp2
      clear m
      go_loopw [46] (fun i wr => ∃ (k : Nat) (o : ByteArray), k ≤ l0_4.length ∧ i = .int .i64 (k : Int) ∧ PutRel o (l0_4.drop k) s ∧ MP w wr p q #[.int .i64 a0_0, .string a0_1, .slice A0_2 l0_2.length c0_2, .slice A0_3 l0_3.length c0_3, .slice A0_4 l0_4.length c0_4] o) (fun i _ => l0_4.length - (intOf i).toNat)
      case atStart => exact ⟨0, o4, Nat.zero_le _, rfl, hs, HM.out⟩
      case round =>
        clear HM
        obtain ⟨k, o, hk, rfl, hr, hM⟩ := hrel
        have HR := Lib.hid hr
        have HM := Lib.hid hM
        clear hr hM
        by_cases hlt : k < l0_4.length
        · have hki : (k : Int) < (l0_4.length : Int) := by omega
          obtain ⟨ad, had, hc⟩ := int_at (Kd.C_below hr0_4 HM.out.below) k hlt
          obtain ⟨v, hv⟩ : ∃ v, v = l0_4[k] := ⟨_, rfl⟩
          have hstep := HR.out
          rw [List.drop_eq_getElem_cons hlt, ← hv] at hstep
          rw [← hv] at hc
          unfold PutRel at hstep
          rw [putNs] at hstep
          obtain ⟨n, hn, hstep⟩ := Option.bind_eq_some_iff.mp hstep
          obtain ⟨o', ho', hstep⟩ := Option.bind_eq_some_iff.mp hstep
          have HS := Lib.hid hstep
          clear hstep hv
          subst had
          go_wp2_with fail
          refine (wire_Num.calls v n.1 n.2 _ hn).mono ?_
          rintro e wa ⟨rfl, hb⟩
          replace HM := Lib.hid (HM.out.under hb)
          clear hb hc
          have hl := lay_any q o n.1 o' n.2 _ HM.out.hq ho'
          go_wp2_with fail
          refine hl.mono ?_
          rintro e wb ⟨rfl, rfl⟩
          clear hl
          go_wp2_with fail
          exact ⟨⟨k + 1, o', by omega, by go_num, HS.out, HM.out.lay o'⟩, by simp [intOf]; omega⟩
        · have hki : ¬ (k : Int) < (l0_4.length : Int) := by omega
          obtain rfl : k = l0_4.length := by omega
          have hr := HR.out
          unfold PutRel at hr
          rw [List.drop_eq_nil_of_le (Nat.le_refl _), putNs] at hr
          obtain rfl := Option.some.inj hr
          clear hr HR
          have m : wr.cell? ⟨q, 0, none⟩ = some (.string o) := (cell_of_row _ _ _ _ _ _ HM.out.hq).trans rfl
          go_wp2
          go_ret2
          exact ⟨rfl, HM.out.below⟩
  · have h := HF.out
    rw [if_neg he] at h
    simp only [Option.some.injEq, Prod.mk.injEq] at h
    obtain ⟨rfl, rfl⟩ := h
    go_wp2
    go_ret2
    exact ⟨rfl, hB2⟩
end Go.Proofs.Ytipgldfbjlhpoab.P
