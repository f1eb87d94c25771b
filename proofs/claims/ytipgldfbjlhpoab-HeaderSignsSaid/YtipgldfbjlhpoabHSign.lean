/- header.Sign: its contract, in the form in which the printed callers take it. -/
import Derived.Test.YtipgldfbjlhpoabHBody
import Derived.Test.YtipgldfbjlhpoabHMac
import Derived.Deep.CutRange
import Derived.Deep.DeepCutAuto
import Derived.Laws.Rows
import Derived.Deep.WholeRow
import Derived.StillTailTactics
namespace Go.Proofs.Ytipgldfbjlhpoab.P
set_option linter.unusedVariables false
set_option linter.unusedSimpArgs false
open Go.RowKit Go.Proofs.Ytipgldfbjlhpoab.Sha Go.Proofs.YtipgldfbjlhpoabW.PrintWords Go.Proofs.YtipgldfbjlhpoabW.PrintLast Go.Proofs.YtipgldfbjlhpoabW.PrintMore
set_option maxRecDepth 100000
def header_Sign.f (a0 : ByteArray) (a1_0 : ByteArray) (a1_1 a1_2 : Int) (a1_3 a1_4 : ByteArray) : Option (ByteArray × Int × Int × ByteArray × ByteArray × Int) :=
  (header_body.f a1_0 a1_1 a1_2 a1_3 a1_4).bind fun b => if b.2 = 0 then (mac_Sum.f a0 b.1).bind fun s => some (a1_0, a1_1, a1_2, a1_3, s, 0) else some (⟨#[]⟩, 0, 0, ⟨#[]⟩, ⟨#[]⟩, b.2)
def hdr (c : ByteArray) (h t : Int) (r m : ByteArray) : Array Value := #[.string c, .int .i64 h, .int .i64 t, .string r, .string m]
theorem hdr_one (c : ByteArray) (h t : Int) (r m : ByteArray) : (hdr c h t r m).all (·.oneCell') = true := by simp [hdr, Value.oneCell']
structure SG (w W : World) (g : Nat) (s : ByteArray) (e : Int) (cs zs : Array Value) : Prop where
  st : IsS106 w W g s e
  hd : W.heap[w.heap.size]? = some (.cells cs 23 (0, 0))
  rs : W.heap[w.heap.size + 1]? = some (.cells zs 23 (0, 0))
  below : Below w.heap.size w W
theorem SG.under {w W W' : World} {g : Nat} {s : ByteArray} {e : Int} {cs zs : Array Value} (h : SG w W g s e cs zs) (hb : Below W.heap.size W W') : SG w W' g s e cs zs :=
  ⟨h.st.below hb, blk_below h.hd hb, blk_below h.rs hb, h.below.trans (hb.mono h.below.size)⟩
theorem SG.drew {w W : World} {g : Nat} {s : ByteArray} {e : Int} {cs zs : Array Value} (h : SG w W g s e cs zs) : SG w W.drew g s e cs zs := ⟨h.st, h.hd, h.rs, below_drew h.below⟩
set_option maxHeartbeats 2000000 in
theorem header_Sign.calls (a0 : ByteArray) (a1_0 : ByteArray) (a1_1 a1_2 : Int) (a1_3 a1_4 : ByteArray) (r1 : ByteArray) (r2 r3 : Int) (r4 r5 : ByteArray) (r6 : Int) (w : World) (h : header_Sign.f a0 a1_0 a1_1 a1_2 a1_3 a1_4 = some (r1, r2, r3, r4, r5, r6)) :
    Calls Try.prog 20 #[.string a0, .agg #[.string a1_0, .int .i64 a1_1, .int .i64 a1_2, .string a1_3, .string a1_4]] w fun e w' => e = .returned (.tuple #[.agg #[.string r1, .int .i64 r2, .int .i64 r3, .string r4, .string r5], .int .i64 r6]) ∧ Below w.heap.size w w' := by
  unfold header_Sign.f at h
  obtain ⟨⟨s, x⟩, hbody, h⟩ := Option.bind_eq_some_iff.mp h
  have HF := Lib.hid h
  clear h
  go_enter Try.func20, Try.ntmps20
  go_upto_region 1 with fail
  go_cut [3, 4, 6] (fun v3 v4 v6 wx => v3 = .pointer (some ⟨w.heap.size, 0, none⟩) ∧ v4 = .pointer (some ⟨w.heap.size + 1, 0, none⟩) ∧ ∃ g, v6 = .pointer (some ⟨g, 0, none⟩) ∧ SG w wx g s x (hdr a1_0 a1_1 a1_2 a1_3 a1_4) (hdr ⟨#[]⟩ 0 0 ⟨#[]⟩ ⟨#[]⟩))
  case first =>
    go_wp2_with fail
    refine (header_body.calls _ _ _ _ _ s x w _ (((Below.refl _ _).alloc (Nat.le_refl _) _).alloc (by simp) _) hbody).mono ?_
    rintro e w2 ⟨g, rfl, hI, hB2, hb2⟩
    go_wp2_with fail
    go_meet
    refine ⟨rfl, rfl, g, rfl, hI, blk_below (heap_alloc2_old w _ _) hb2, blk_below ((heap_alloc2_new w _ _).trans (by kernel_rfl)) hb2, hB2⟩
  case rest =>
    obtain ⟨rfl, rfl, g, rfl, hM⟩ := hcut
    clear hbody
    have c0 : wc.cell? ⟨g, 0, none⟩ = some (.string s) := (cell_of_row _ _ _ _ _ _ hM.st.1).trans rfl
    have c1 : wc.cell? ⟨g, 1, none⟩ = some (.int .i64 x) := (cell_of_row _ _ _ _ _ _ hM.st.1).trans rfl
    have HM := Lib.hid hM
    clear hM
    by_cases hx : x = 0
    · have h := HF.out
      rw [if_pos hx] at h
      obtain ⟨sg, hsg, h⟩ := Option.bind_eq_some_iff.mp h
      simp only [Option.some.injEq, Prod.mk.injEq] at h
      obtain ⟨rfl, rfl, rfl, rfl, rfl, rfl⟩ := h
      subst hx
      clear HF
      go_wp2_with fail
      refine (mac_Sum.calls _ _ sg _ hsg).mono ?_
      rintro e w2 ⟨rfl, hb⟩
      have hM := HM.out.under hb
      have c4 : w2.cell? ⟨w.heap.size, 4, none⟩ = some (.string a1_4) := (cell_of_row _ _ _ _ _ _ hM.hd).trans rfl
      have f4 : w2.frozen? ⟨w.heap.size, 4, none⟩ = false := frozen_of_row _ _ _ _ _ hM.hd
      have hd2 : (w2.setCell ⟨w.heap.size, 4, none⟩ (.string sg)).heap[w.heap.size]? = some (.cells (hdr a1_0 a1_1 a1_2 a1_3 sg) 23 (0, 0)) := (heap_setCell_same _ _ _ _ _ _ hM.hd).trans rfl
      have rs2 : (w2.setCell ⟨w.heap.size, 4, none⟩ (.string sg)).heap[w.heap.size + 1]? = some (.cells (hdr ⟨#[]⟩ 0 0 ⟨#[]⟩ ⟨#[]⟩) 23 (0, 0)) := row_far hM.rs _ (by simp)
      have hB2 := hM.below.setCell (p := ⟨w.heap.size, 4, none⟩) (Nat.le_refl _) (.string sg)
      clear HM c0 c1 hb hM
      have H1 := Lib.hid hd2
      have H2 := Lib.hid rs2
      clear hd2 rs2
      go_wp2_with (first
        | (refine wpList_load_row rfl 23 _ rfl w.heap.size rfl 23 (hdr a1_0 a1_1 a1_2 a1_3 sg) (0, 0) _ H1.out Try.underlying23 rfl (by kernel_rfl) ?_)
        | (refine wpList_store_row rfl 23 (.tmp 4) (.tmp 26) rfl (w.heap.size + 1) (hdr a1_0 a1_1 a1_2 a1_3 sg) rfl rfl 23 _ H2.out (by kernel_rfl) rfl (hdr_one _ _ _ _ _) ?_))
      refine bodyPost_ret (results_ct (p := 4) (ty := 23) rfl _ _ (w.heap.size + 1) 23 (hdr a1_0 a1_1 a1_2 a1_3 sg) (0, 0) _ rfl (setRow_heap _ _ _ _ _ _ H2.out) Try.underlying23 rfl (by kernel_rfl)) rfl ⟨rfl, below_setRow hB2 (by omega) _⟩
    · have h := HF.out
      rw [if_neg hx] at h
      simp only [Option.some.injEq, Prod.mk.injEq] at h
      obtain ⟨rfl, rfl, rfl, rfl, rfl, rfl⟩ := h
      clear HF
      have hne : (!(x == 0)) = true := by simpa using hx
      have hrs := Lib.hid HM.out.rs
      obtain ⟨q, hq⟩ : ∃ q : Nat, q = w.heap.size + 1 := ⟨_, rfl⟩
      have hrs := HM.out.rs
      have hgp : g ≠ w.heap.size + 1 := HM.out.st.ne_blk HM.out.rs (by decide)
      have hgp2 : w.heap.size + 1 ≠ g := Ne.symm hgp
      rw [← hq] at hrs hgp hgp2 ⊢
      have z0 : wc.cell? ⟨q, 0, none⟩ = some (.string ⟨#[]⟩) := (cell_of_row _ _ _ _ _ _ hrs).trans rfl
      have z1 : wc.cell? ⟨q, 1, none⟩ = some (.int .i64 0) := (cell_of_row _ _ _ _ _ _ hrs).trans rfl
      have z2 : wc.cell? ⟨q, 2, none⟩ = some (.int .i64 0) := (cell_of_row _ _ _ _ _ _ hrs).trans rfl
      have z3 : wc.cell? ⟨q, 3, none⟩ = some (.string ⟨#[]⟩) := (cell_of_row _ _ _ _ _ _ hrs).trans rfl
      have z4 : wc.cell? ⟨q, 4, none⟩ = some (.string ⟨#[]⟩) := (cell_of_row _ _ _ _ _ _ hrs).trans rfl
      have f0 : wc.frozen? ⟨q, 0, none⟩ = false := frozen_of_row _ _ _ _ _ hrs
      have f1 : wc.frozen? ⟨q, 1, none⟩ = false := frozen_of_row _ _ _ _ _ hrs
      have f2 : wc.frozen? ⟨q, 2, none⟩ = false := frozen_of_row _ _ _ _ _ hrs
      have f3 : wc.frozen? ⟨q, 3, none⟩ = false := frozen_of_row _ _ _ _ _ hrs
      have f4 : wc.frozen? ⟨q, 4, none⟩ = false := frozen_of_row _ _ _ _ _ hrs
      have HRS := Lib.hid hrs
      have HQ := Lib.hid hq
      clear hrs hq c0
      go_upto_region 3 with fail
      go_region
      go_wp2_with fail
      have hb1 : Below w.heap.size w wc.drew := HM.out.drew.below
      have hge : w.heap.size ≤ q := by have := HQ.out; omega
      refine bodyPost_ret (results_ct (p := 4) (ty := 23) rfl _ _ q 23 (hdr ⟨#[]⟩ 0 0 ⟨#[]⟩ ⟨#[]⟩) (0, 0) _ rfl ?_ Try.underlying23 rfl (by kernel_rfl)) rfl ⟨rfl, ?_⟩
      · exact (heap_setCell_same _ _ _ _ _ _ (heap_setCell_same _ _ _ _ _ _ (heap_setCell_same _ _ _ _ _ _ (heap_setCell_same _ _ _ _ _ _ (heap_setCell_same _ _ _ _ _ _ HRS.out))))).trans rfl
      · exact (((((HM.out.below.setCell (p := ⟨q, 0, none⟩) hge _).setCell (p := ⟨q, 1, none⟩) hge _).setCell (p := ⟨q, 2, none⟩) hge _).setCell (p := ⟨q, 3, none⟩) hge _).setCell (p := ⟨q, 4, none⟩) hge _) |> below_drew
end Go.Proofs.Ytipgldfbjlhpoab.P
