/- strings.Builder: the contracts of WriteString and String at this program. -/
import Derived.Shelf.Strings.Builder1
import Derived.Test.YtipgldfbjlhpoabProg
import Derived.Test.YtipgldfbjlhpoabZdHWire
import Derived.Lib.Hide
import Derived.WalkLawsBesides
namespace Go.Proofs.Ytipgldfbjlhpoab.P
open Go.Shelf
def wsR : Go.Shelf.Ren := ⟨fun | 166 => 99 | 240 => 149 | 276 => 172 | n => n, fun | 70 => 141 | 72 => 144 | 37 => 142 | 20 => 20 | 75 => 147 | 80 => 110 | 164 => 223 | n => n, fun n => n⟩
theorem wsX : Go.Proofs.Builder.Extra Try.prog wsR := {
 sizeBuilder := by kernel_rfl
 liesBuilder := by kernel_rfl
 t5 := Try.underlying5
 a5 := Try.isAgg5
 z5 := Try.sizeOf5
 v5 := Try.zeroValue5
 infoByte := by kernel_rfl
 cellsByte := by kernel_rfl
 sizeByte := by kernel_rfl
 neB5 := by decide }
end Go.Proofs.Ytipgldfbjlhpoab.P
namespace Go.Proofs.Ytipgldfbjlhpoab.P
set_option linter.unusedVariables false
set_option linter.unusedSimpArgs false
open Go.RowKit Go.Proofs.YtipgldfbjlhpoabW.PrintWords Go.Proofs.YtipgldfbjlhpoabW.PrintLast Go.Proofs.YtipgldfbjlhpoabW.PrintMore
set_option maxRecDepth 100000
structure WrtAt (b : Nat) (p v : Value) (e : Int) (bs : List UInt8) (W : World) : Prop where
 hb : W.heap[b]? = some (.cells #[p, v, .int .i64 e] 181 (0, 0))
 hp : p = .pointer none ∨ p = .pointer (some ⟨b, 0, none⟩)
 own : W.ownsRow b 5 1 v bs.length (Lib.byteCells bs)
 ne : v.ownBlock ≠ some b
def Kept (b : Nat) (W W' : World) : Prop := ∀ (q : Nat) (cs : Array Value) (ty : TypeId), W.heap[q]? = some (.cells cs ty (0, 0)) → q ≠ b → ty ≠ 5 → W'.heap[q]? = some (.cells cs ty (0, 0))
theorem Kept.trans {b : Nat} {W W1 W2 : World} (h : Kept b W W1) (k : Kept b W1 W2) : Kept b W W2 := fun q cs ty hq hb ht => k q cs ty (h q cs ty hq hb ht) hb ht
theorem Kept.set (b i : Nat) (W : World) (u : Value) : Kept b W (W.setCell ⟨b, i, none⟩ u) := fun q cs ty hq hb ht => blk_far hq hb u
theorem Kept.grown {b : Nat} {W W' : World} {v : Value} {n : Nat} {xs : List Value} {base : Nat} (ho : W.ownsRow base 5 1 v n xs) (hg : W.grownBy W' v.ownBlock) : Kept b W W' := fun q cs ty hq _ ht => by
 rw [hg.block q (blk_lt hq) (fun e => ?_)]
 · exact hq
 · exact Lib.ownBlock_ne ho hq ht e.symm
theorem WrtAt.lt {b : Nat} {p v : Value} {e : Int} {bs : List UInt8} {W : World} (h : WrtAt b p v e bs W) : b < W.heap.size := blk_lt h.hb
theorem WrtAt.under {b : Nat} {p v : Value} {e : Int} {bs : List UInt8} {W W' : World} (h : WrtAt b p v e bs W) (hb : Below W.heap.size W W') : WrtAt b p v e bs W' :=
 ⟨blk_below h.hb hb, h.hp, h.own.kept (row := none) ⟨hb.os, hb.tape, hb.output, hb.size, fun k hk _ => hb.block k hk⟩ (Classical.em _), h.ne⟩
theorem WrtAt.set0 {b : Nat} {p v : Value} {e : Int} {bs : List UInt8} {W : World} (h : WrtAt b p v e bs W) : WrtAt b (.pointer (some ⟨b, 0, none⟩)) v e bs (W.setCell ⟨b, 0, none⟩ (.pointer (some ⟨b, 0, none⟩))) :=
 ⟨(heap_setCell_same _ _ _ _ _ _ h.hb).trans rfl, Or.inr rfl, h.own.kept (row := some b) ⟨rfl, rfl, rfl, by simp [World.setCell], fun k _ hk => Below.heap_setCell _ _ _ _ (fun e => hk (by simp [e]))⟩ (Or.inr h.ne), h.ne⟩
theorem WrtAt.set2 {b : Nat} {p v : Value} {e : Int} {bs : List UInt8} {W : World} (h : WrtAt b p v e bs W) (e2 : Int) : WrtAt b p v e2 bs (W.setCell ⟨b, 2, none⟩ (.int .i64 e2)) :=
 ⟨(heap_setCell_same _ _ _ _ _ _ h.hb).trans rfl, h.hp, h.own.kept (row := some b) ⟨rfl, rfl, rfl, by simp [World.setCell], fun k _ hk => Below.heap_setCell _ _ _ _ (fun e => hk (by simp [e]))⟩ (Or.inr h.ne), h.ne⟩
theorem infoBld : ∃ j, Try.prog.info? 144 = some j ∧ j.size = 2 := by
 obtain ⟨j, hj, hs⟩ := Option.map_eq_some_iff.1 wsX.sizeBuilder
 exact ⟨j, hj, by first | exact hs | simpa using hs⟩
set_option maxHeartbeats 4000000 in
theorem wrtCheck_any (b : Nat) (p v : Value) (e : Int) (bs : List UInt8) (W : World) (h : WrtAt b p v e bs W) :
  Calls Try.prog 149 #[.pointer (some ⟨b, 0, none⟩)] W fun x W' => x = .returned (.tuple #[]) ∧ WrtAt b (.pointer (some ⟨b, 0, none⟩)) v e bs W' ∧ Below b W W' ∧ Kept b W W' := by
 obtain ⟨j, hj, hjs⟩ := infoBld
 have c0 : W.cell? ⟨b, 0, none⟩ = some p := (cell_of_row _ _ _ _ _ _ h.hb).trans rfl
 have f0 : W.frozen? ⟨b, 0, none⟩ = false := frozen_of_row _ _ _ _ _ h.hb
 have hsh : W.shape? b = some (181, 3) := by simp [World.shape?, h.hb]
 have HH := Lib.hid h
 rcases h.hp with rfl | rfl
 · clear h
   go_enter Try.func149, Try.ntmps149
   go_wp2
   rw [Lib.run_to_unsafe W ⟨b, 0, none⟩ Try.underlying141 Try.underlying223 hj (by rw [hjs]; decide) hsh (Nat.zero_lt_succ 2)]
   simp only [Result.andThen]
   rw [Oper.upon_value]
   go_wp2
   rw [run_callFunc_extern Try.func172 (by kernel_rfl) (by kernel_rfl) (by kernel_rfl) (e := Extern.AbiNoEscape.same) (by kernel_rfl)]
   rw [Lib.run_noEscape]
   simp only [Result.andThen]
   rw [Oper.upon_value]
   go_wp2
   rw [Lib.run_from_unsafe W ⟨b, 0, none⟩ Try.underlying223 Try.underlying141 hj hsh (by kernel_rfl)]
   simp only [Result.andThen]
   rw [Oper.upon_value]
   go_wp2
   go_end0
   exact ⟨rfl, HH.out.set0, (Below.refl _ _).setCell (p := ⟨b, 0, none⟩) (Nat.le_refl _) _, Kept.set b 0 W _⟩
 · clear h
   go_enter Try.func149, Try.ntmps149
   go_wp2
   rw [Lib.run_neq_ptr_same W _ Try.underlying141 hj]
   go_wp2
   go_end0
   exact ⟨rfl, HH.out, Below.refl _ _, fun _ _ _ h _ _ => h⟩
set_option maxHeartbeats 4000000 in
theorem wrtString_any (b : Nat) (p v : Value) (e : Int) (bs : List UInt8) (s : ByteArray) (W : World) (h : WrtAt b p v e bs W) (hl : bs.length + s.size ≤ 140737488355328) :
  Calls Try.prog 99 #[.pointer (some ⟨b, 0, none⟩), .string s] W fun x W' => x = .returned (.tuple #[.int .i64 s.size, .nilIface]) ∧ ∃ v', WrtAt b (.pointer (some ⟨b, 0, none⟩)) v' e (bs ++ s.data.toList) W' ∧ Below b W W' ∧ Kept b W W' := by
 obtain ⟨i0, hi, hz0, hz1, hz2⟩ := info_parts wsX.infoByte
 have hcall := wrtCheck_any b p v e bs W h
 clear h
 go_enter Try.func99, Try.ntmps99
 go_wp2_with fail
 refine hcall.mono ?_
 rintro x w1 ⟨rfl, h1, hb1, hk1⟩
 clear hcall
 have hs1 := hb1.size
 have hlt1 := h1.lt
 have c0 : w1.cell? ⟨b, 0, none⟩ = some (.pointer (some ⟨b, 0, none⟩)) := (cell_of_row _ _ _ _ _ _ h1.hb).trans rfl
 have c1 : w1.cell? ⟨b, 1, none⟩ = some v := (cell_of_row _ _ _ _ _ _ h1.hb).trans rfl
 have H1 := Lib.hid h1
 have HB1 := Lib.hid hb1
 have HK1 := Lib.hid hk1
 clear h1 hb1 hk1
 go_wp2_with (at_builtin; refine Lib.wpList_append_own_string _ rfl _ _ 142 9 rfl b 5 i0 Try.underlying142 Try.underlying9 hi hz0 hz1 hz2 _ _ _ rfl H1.out.own s rfl ?c3 ?c4 ?c5 ?_)
 case c3 => unfold maxLen; omega
 case c4 => omega
 case c5 => omega
 intro v' w2 hown' hgrow _
 have hb2 : w2.heap[b]? = some (.cells #[.pointer (some ⟨b, 0, none⟩), v, .int .i64 e] 181 (0, 0)) := by
  rw [hgrow.block b hlt1 (fun e => H1.out.ne e.symm)]
  exact H1.out.hb
 have d1 : w2.cell? ⟨b, 1, none⟩ = some v := (cell_of_row _ _ _ _ _ _ hb2).trans rfl
 have f1 : w2.frozen? ⟨b, 1, none⟩ = false := frozen_of_row _ _ _ _ _ hb2
 obtain ⟨ao, n', cap, rfl⟩ : ∃ ao n' cap, v' = .slice ao n' cap := by
  rcases hown'.2 with ⟨hv, _⟩ | ⟨g, cap, cur, hv, _⟩
  · exact ⟨_, _, _, hv⟩
  · exact ⟨_, _, _, hv⟩
 have hlen : (bs ++ s.data.toList).length = bs.length + s.size := by simp
 have hcells : Lib.byteCells (bs ++ s.data.toList) = Lib.byteCells bs ++ Lib.strCells s := by simp [Lib.byteCells, Lib.strCells]
 have hne2 : (Value.slice ao n' cap).ownBlock ≠ some b := Lib.ownBlock_ne hown' hb2 (by decide)
 have HO := Lib.hid hown'
 have HG := Lib.hid hgrow
 have HB2 := Lib.hid hb2
 clear hown' hgrow hb2
 go_wp2
 go_ret2
 refine ⟨rfl, _, ⟨(heap_setCell_same _ _ _ _ _ _ HB2.out).trans rfl, Or.inr rfl, ?_, hne2⟩, ?_, HK1.out.trans ((Kept.grown H1.out.own HG.out).trans (Kept.set b 1 w2 _))⟩
 · rw [hlen, hcells]
   exact HO.out.kept (row := some b) ⟨rfl, rfl, rfl, by simp [World.setCell], fun k _ hk => Below.heap_setCell _ _ _ _ (fun e => hk (by simp [e]))⟩ (Or.inr hne2)
 · exact (HB1.out.grown HG.out (by omega) (fun k hk => (H1.out.own.lt k hk).1)).setCell (p := ⟨b, 1, none⟩) (Nat.le_refl _) _
set_option maxHeartbeats 4000000 in
theorem wrtRead_any (b : Nat) (p v : Value) (e : Int) (l : List UInt8) (W : World) (h : WrtAt b p v e l W) (h0 : l ≠ []) :
  Calls Try.prog 101 #[.pointer (some ⟨b, 0, none⟩)] W fun x W' => x = .returned (.string ⟨l.toArray⟩) ∧ Below b W W' := by
 have hl0 : l.length ≠ 0 := by simpa using h0
 have hown := h.own
 have hbk := h.hb
 clear h
 obtain ⟨g, cap, cur, rfl, hbg, hg, hnc, hcm, hcs, htake⟩ : ∃ g cap cur, v = .slice (some ⟨g, 0, none⟩) l.length cap ∧ b ≤ g ∧ W.heap[g]? = some (.cells cur 5 (0, 0)) ∧ l.length ≤ cap ∧ cap ≤ maxLen ∧ cur.size = cap * 1 ∧ cur.toList.take (l.length * 1) = Lib.byteCells l := by
  rcases hown.2 with ⟨_, hz⟩ | ⟨g, cap, cur, hv, r⟩
  · exact absurd hz hl0
  · exact ⟨g, cap, cur, hv, r⟩
 have c1 : W.drew.cell? ⟨b, 1, none⟩ = some (.slice (some ⟨g, 0, none⟩) l.length cap) := by
  have : W.drew.heap[b]? = some (.cells #[p, .slice (some ⟨g, 0, none⟩) l.length cap, .int .i64 e] 181 (0, 0)) := hbk
  exact (cell_of_row _ _ _ _ _ _ this).trans rfl
 have hSD : (Builtin.unsafeSliceData_ #[142] 204 #[.slice (some ⟨g, 0, none⟩) l.length cap]).run Try.prog W.drew = .ok (.pointer (some ⟨g, 0, none⟩)) W.drew :=
  Lib.run_unsafeSliceData_row _ _ _ _ _ _ (by omega)
 have hUS : (Builtin.unsafeString_ #[204, 3] 9 #[.pointer (some ⟨g, 0, none⟩), .int .i64 l.length]).run Try.prog W.drew = .ok (.string ⟨l.toArray⟩) (W.drew.freeze ⟨g, 0, none⟩ l.length) := by
  refine Lib.run_unsafeString_row W.drew 204 3 9 5 Try.underlying204 wsX.cellsByte g cur.size (by have hg' : W.drew.heap[g]? = some (.cells cur 5 (0, 0)) := hg; simp [World.shape?, hg']) l h0 (by omega) (by unfold maxLen at hcm; omega) ?_
  intro j x hx
  exact hown.cells (g := g) rfl j (.int .u8 x.toNat) (by simp [Lib.byteCells, hx])
 have HBG := Lib.hid hbg
 clear hown hbk hg hcs htake
 go_enter Try.func101, Try.ntmps101
 go_wp2
 go_region
 all_goals (go_wp2; go_ret; exact ⟨rfl, Lib.below_freeze (Below.drew (Below.refl b W)) (p := ⟨g, 0, none⟩) HBG.out _⟩)
end Go.Proofs.Ytipgldfbjlhpoab.P
