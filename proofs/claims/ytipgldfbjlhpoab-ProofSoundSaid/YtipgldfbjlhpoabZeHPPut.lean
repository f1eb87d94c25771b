/- strings.Builder: the contracts of WriteString and String at this program. -/
import Derived.Shelf.Strings.Builder1
import Derived.Test.YtipgldfbjlhpoabProg
import Derived.Test.YtipgldfbjlhpoabZeHWire
import Derived.Lib.Hide
import Derived.WalkLawsBesides
import Derived.Test.YtipgldfbjlhpoabZePWireL
import Derived.BigQuiet
namespace Go.Proofs.Ytipgldfbjlhpoab.P
open Go.Shelf
def wsR : Go.Shelf.Ren := ⟨fun | 166 => 99 | 240 => 149 | 276 => 172 | n => n, fun | 70 => 141 | 72 => 144 | 37 => 142 | 20 => 20 | 75 => 147 | 80 => 110 | 164 => 223 | n => n, fun n => n⟩
theorem wsX : Go.Proofs.Builder.Extra Try.prog wsR := {
 sizeBuilder := by kernel_rfl
 liesBuilder := by kernel_rfl
 t5 := Try.underlying5
 a5 := Try.isAgg5
 z5 := Try.sizeOf5
 v5 := Try.zeroValue5
 infoByte := by kernel_rfl
 cellsByte := by kernel_rfl
 sizeByte := by kernel_rfl
 neB5 := by decide }
end Go.Proofs.Ytipgldfbjlhpoab.P
namespace Go.Proofs.Ytipgldfbjlhpoab.P
set_option linter.unusedVariables false
set_option linter.unusedSimpArgs false
open Go.RowKit Go.Proofs.YtipgldfbjlhpoabW.PrintWords Go.Proofs.YtipgldfbjlhpoabW.PrintLast Go.Proofs.YtipgldfbjlhpoabW.PrintMore
set_option maxRecDepth 100000
structure WrtAt (b : Nat) (p v : Value) (e : Int) (bs : List UInt8) (W : World) : Prop where
 hb : W.heap[b]? = some (.cells #[p, v, .int .i64 e] 181 (0, 0))
 hp : p = .pointer none ∨ p = .pointer (some ⟨b, 0, none⟩)
 own : W.ownsRow b 5 1 v bs.length (Lib.byteCells bs)
 ne : v.ownBlock ≠ some b
def Kept (b : Nat) (W W' : World) : Prop := ∀ (q : Nat) (cs : Array Value) (ty : TypeId), W.heap[q]? = some (.cells cs ty (0, 0)) → q ≠ b → ty ≠ 5 → W'.heap[q]? = some (.cells cs ty (0, 0))
theorem Kept.trans {b : Nat} {W W1 W2 : World} (h : Kept b W W1) (k : Kept b W1 W2) : Kept b W W2 := fun q cs ty hq hb ht => k q cs ty (h q cs ty hq hb ht) hb ht
theorem Kept.set (b i : Nat) (W : World) (u : Value) : Kept b W (W.setCell ⟨b, i, none⟩ u) := fun q cs ty hq hb ht => blk_far hq hb u
theorem Kept.grown {b : Nat} {W W' : World} {v : Value} {n : Nat} {xs : List Value} {base : Nat} (ho : W.ownsRow base 5 1 v n xs) (hg : W.grownBy W' v.ownBlock) : Kept b W W' := fun q cs ty hq _ ht => by
 rw [hg.block q (blk_lt hq) (fun e => ?_)]
 · exact hq
 · exact Lib.ownBlock_ne ho hq ht e.symm
theorem WrtAt.lt {b : Nat} {p v : Value} {e : Int} {bs : List UInt8} {W : World} (h : WrtAt b p v e bs W) : b < W.heap.size := blk_lt h.hb
theorem WrtAt.under {b : Nat} {p v : Value} {e : Int} {bs : List UInt8} {W W' : World} (h : WrtAt b p v e bs W) (hb : Below W.heap.size W W') : WrtAt b p v e bs W' :=
 ⟨blk_below h.hb hb, h.hp, h.own.kept (row := none) ⟨hb.os, hb.tape, hb.output, hb.size, fun k hk _ => hb.block k hk⟩ (Classical.em _), h.ne⟩
theorem WrtAt.set0 {b : Nat} {p v : Value} {e : Int} {bs : List UInt8} {W : World} (h : WrtAt b p v e bs W) : WrtAt b (.pointer (some ⟨b, 0, none⟩)) v e bs (W.setCell ⟨b, 0, none⟩ (.pointer (some ⟨b, 0, none⟩))) :=
 ⟨(heap_setCell_same _ _ _ _ _ _ h.hb).trans rfl, Or.inr rfl, h.own.kept (row := some b) ⟨rfl, rfl, rfl, by simp [World.setCell], fun k _ hk => Below.heap_setCell _ _ _ _ (fun e => hk (by simp [e]))⟩ (Or.inr h.ne), h.ne⟩
theorem WrtAt.set2 {b : Nat} {p v : Value} {e : Int} {bs : List UInt8} {W : World} (h : WrtAt b p v e bs W) (e2 : Int) : WrtAt b p v e2 bs (W.setCell ⟨b, 2, none⟩ (.int .i64 e2)) :=
 ⟨(heap_setCell_same _ _ _ _ _ _ h.hb).trans rfl, h.hp, h.own.kept (row := some b) ⟨rfl, rfl, rfl, by simp [World.setCell], fun k _ hk => Below.heap_setCell _ _ _ _ (fun e => hk (by simp [e]))⟩ (Or.inr h.ne), h.ne⟩
theorem infoBld : ∃ j, Try.prog.info? 144 = some j ∧ j.size = 2 := by
 obtain ⟨j, hj, hs⟩ := Option.map_eq_some_iff.1 wsX.sizeBuilder; exact ⟨j, hj, by first | exact hs | simpa using hs⟩
set_option maxHeartbeats 4000000 in
theorem wrtCheck_any (b : Nat) (p v : Value) (e : Int) (bs : List UInt8) (W : World) (h : WrtAt b p v e bs W) :
  Calls Try.prog 149 #[.pointer (some ⟨b, 0, none⟩)] W fun x W' => x = .returned (.tuple #[]) ∧ WrtAt b (.pointer (some ⟨b, 0, none⟩)) v e bs W' ∧ Below b W W' ∧ Kept b W W' := by
 obtain ⟨j, hj, hjs⟩ := infoBld; have c0 : W.cell? ⟨b, 0, none⟩ = some p := (cell_of_row _ _ _ _ _ _ h.hb).trans rfl; have f0 : W.frozen? ⟨b, 0, none⟩ = false := frozen_of_row _ _ _ _ _ h.hb
 have hsh : W.shape? b = some (181, 3) := by simp [World.shape?, h.hb]
 have HH := Lib.hid h
 rcases h.hp with rfl | rfl
 · clear h
   go_enter Try.func149, Try.ntmps149
   go_wp2; rw [Lib.run_to_unsafe W ⟨b, 0, none⟩ Try.underlying141 Try.underlying223 hj (by rw [hjs]; decide) hsh (Nat.zero_lt_succ 2)]; simp only [Result.andThen]; rw [Oper.upon_value]; go_wp2; rw [run_callFunc_extern Try.func172 (by kernel_rfl) (by kernel_rfl) (by kernel_rfl) (e := Extern.AbiNoEscape.same) (by kernel_rfl)]; rw [Lib.run_noEscape]; simp only [Result.andThen]; rw [Oper.upon_value]; go_wp2; rw [Lib.run_from_unsafe W ⟨b, 0, none⟩ Try.underlying223 Try.underlying141 hj hsh (by kernel_rfl)]; simp only [Result.andThen]; rw [Oper.upon_value]; go_wp2
   go_end0
   exact ⟨rfl, HH.out.set0, (Below.refl _ _).setCell (p := ⟨b, 0, none⟩) (Nat.le_refl _) _, Kept.set b 0 W _⟩
 · clear h
   go_enter Try.func149, Try.ntmps149
   go_wp2; rw [Lib.run_neq_ptr_same W _ Try.underlying141 hj]; go_wp2
   go_end0
   exact ⟨rfl, HH.out, Below.refl _ _, fun _ _ _ h _ _ => h⟩
set_option maxHeartbeats 4000000 in
theorem wrtString_any (b : Nat) (p v : Value) (e : Int) (bs : List UInt8) (s : ByteArray) (W : World) (h : WrtAt b p v e bs W) (hl : bs.length + s.size ≤ 140737488355328) :
  Calls Try.prog 99 #[.pointer (some ⟨b, 0, none⟩), .string s] W fun x W' => x = .returned (.tuple #[.int .i64 s.size, .nilIface]) ∧ ∃ v', WrtAt b (.pointer (some ⟨b, 0, none⟩)) v' e (bs ++ s.data.toList) W' ∧ Below b W W' ∧ Kept b W W' := by
 obtain ⟨i0, hi, hz0, hz1, hz2⟩ := info_parts wsX.infoByte; have hcall := wrtCheck_any b p v e bs W h; clear h
 go_enter Try.func99, Try.ntmps99
 go_wp2_with fail
 refine hcall.mono ?_; rintro x w1 ⟨rfl, h1, hb1, hk1⟩; clear hcall; have hs1 := hb1.size; have hlt1 := h1.lt; have c0 : w1.cell? ⟨b, 0, none⟩ = some (.pointer (some ⟨b, 0, none⟩)) := (cell_of_row _ _ _ _ _ _ h1.hb).trans rfl; have c1 : w1.cell? ⟨b, 1, none⟩ = some v := (cell_of_row _ _ _ _ _ _ h1.hb).trans rfl; have H1 := Lib.hid h1; have HB1 := Lib.hid hb1; have HK1 := Lib.hid hk1; clear h1 hb1 hk1
 go_wp2_with (at_builtin; refine Lib.wpList_append_own_string _ rfl _ _ 142 9 rfl b 5 i0 Try.underlying142 Try.underlying9 hi hz0 hz1 hz2 _ _ _ rfl H1.out.own s rfl ?c3 ?c4 ?c5 ?_)
 case c3 => unfold maxLen; omega
 case c4 => omega
 case c5 => omega
 intro v' w2 hown' hgrow _
 have hb2 : w2.heap[b]? = some (.cells #[.pointer (some ⟨b, 0, none⟩), v, .int .i64 e] 181 (0, 0)) := by
  rw [hgrow.block b hlt1 (fun e => H1.out.ne e.symm)]; exact H1.out.hb
 have d1 : w2.cell? ⟨b, 1, none⟩ = some v := (cell_of_row _ _ _ _ _ _ hb2).trans rfl; have f1 : w2.frozen? ⟨b, 1, none⟩ = false := frozen_of_row _ _ _ _ _ hb2
 obtain ⟨ao, n', cap, rfl⟩ : ∃ ao n' cap, v' = .slice ao n' cap := by
  rcases hown'.2 with ⟨hv, _⟩ | ⟨g, cap, cur, hv, _⟩
  · exact ⟨_, _, _, hv⟩
  · exact ⟨_, _, _, hv⟩
 have hlen : (bs ++ s.data.toList).length = bs.length + s.size := by simp
 have hcells : Lib.byteCells (bs ++ s.data.toList) = Lib.byteCells bs ++ Lib.strCells s := by simp [Lib.byteCells, Lib.strCells]
 have hne2 : (Value.slice ao n' cap).ownBlock ≠ some b := Lib.ownBlock_ne hown' hb2 (by decide); have HO := Lib.hid hown'; have HG := Lib.hid hgrow; have HB2 := Lib.hid hb2; clear hown' hgrow hb2; go_wp2
 go_ret2
 refine ⟨rfl, _, ⟨(heap_setCell_same _ _ _ _ _ _ HB2.out).trans rfl, Or.inr rfl, ?_, hne2⟩, ?_, HK1.out.trans ((Kept.grown H1.out.own HG.out).trans (Kept.set b 1 w2 _))⟩
 · rw [hlen, hcells]; exact HO.out.kept (row := some b) ⟨rfl, rfl, rfl, by simp [World.setCell], fun k _ hk => Below.heap_setCell _ _ _ _ (fun e => hk (by simp [e]))⟩ (Or.inr hne2)
 · exact (HB1.out.grown HG.out (by omega) (fun k hk => (H1.out.own.lt k hk).1)).setCell (p := ⟨b, 1, none⟩) (Nat.le_refl _) _
set_option maxHeartbeats 4000000 in
theorem wrtRead_any (b : Nat) (p v : Value) (e : Int) (l : List UInt8) (W : World) (h : WrtAt b p v e l W) (h0 : l ≠ []) :
  Calls Try.prog 101 #[.pointer (some ⟨b, 0, none⟩)] W fun x W' => x = .returned (.string ⟨l.toArray⟩) ∧ Below b W W' := by
 have hl0 : l.length ≠ 0 := by simpa using h0
 have hown := h.own; have hbk := h.hb; clear h
 obtain ⟨g, cap, cur, rfl, hbg, hg, hnc, hcm, hcs, htake⟩ : ∃ g cap cur, v = .slice (some ⟨g, 0, none⟩) l.length cap ∧ b ≤ g ∧ W.heap[g]? = some (.cells cur 5 (0, 0)) ∧ l.length ≤ cap ∧ cap ≤ maxLen ∧ cur.size = cap * 1 ∧ cur.toList.take (l.length * 1) = Lib.byteCells l := by
  rcases hown.2 with ⟨_, hz⟩ | ⟨g, cap, cur, hv, r⟩
  · exact absurd hz hl0
  · exact ⟨g, cap, cur, hv, r⟩
 have c1 : W.drew.cell? ⟨b, 1, none⟩ = some (.slice (some ⟨g, 0, none⟩) l.length cap) := by
  have : W.drew.heap[b]? = some (.cells #[p, .slice (some ⟨g, 0, none⟩) l.length cap, .int .i64 e] 181 (0, 0)) := hbk; exact (cell_of_row _ _ _ _ _ _ this).trans rfl
 have hSD : (Builtin.unsafeSliceData_ #[142] 204 #[.slice (some ⟨g, 0, none⟩) l.length cap]).run Try.prog W.drew = .ok (.pointer (some ⟨g, 0, none⟩)) W.drew :=
  Lib.run_unsafeSliceData_row _ _ _ _ _ _ (by omega)
 have hUS : (Builtin.unsafeString_ #[204, 3] 9 #[.pointer (some ⟨g, 0, none⟩), .int .i64 l.length]).run Try.prog W.drew = .ok (.string ⟨l.toArray⟩) (W.drew.freeze ⟨g, 0, none⟩ l.length) := by
  refine Lib.run_unsafeString_row W.drew 204 3 9 5 Try.underlying204 wsX.cellsByte g cur.size (by have hg' : W.drew.heap[g]? = some (.cells cur 5 (0, 0)) := hg; simp [World.shape?, hg']) l h0 (by omega) (by unfold maxLen at hcm; omega) ?_; intro j x hx; exact hown.cells (g := g) rfl j (.int .u8 x.toNat) (by simp [Lib.byteCells, hx])
 have HBG := Lib.hid hbg; clear hown hbk hg hcs htake
 go_enter Try.func101, Try.ntmps101
 go_wp2
 go_region
 all_goals (go_wp2; go_ret; exact ⟨rfl, Lib.below_freeze (Below.drew (Below.refl b W)) (p := ⟨g, 0, none⟩) HBG.out _⟩)
end Go.Proofs.Ytipgldfbjlhpoab.P
namespace Go.Proofs.Ytipgldfbjlhpoab.P
set_option linter.unusedVariables false
set_option linter.unusedSimpArgs false
open Go.RowKit Go.Proofs.YtipgldfbjlhpoabW.PrintWords Go.Proofs.YtipgldfbjlhpoabW.PrintLast Go.Proofs.YtipgldfbjlhpoabW.PrintMore
set_option maxRecDepth 100000
def addW (bs : List UInt8) (e : Int) (x : ByteArray × Int) : List UInt8 × Int := if e = 0 then (bs ++ x.1.data.toList, x.2) else (bs, e)
def addAll : List (Option (ByteArray × Int)) → List UInt8 → Int → Option (List UInt8 × Int)
  | [], bs, e => some (bs, e)
  | r :: rs, bs, e => r.bind fun x => if bs.length + x.1.size ≤ 140737488355328 then addAll rs (addW bs e x).1 (addW bs e x).2 else none
set_option maxHeartbeats 4000000 in
theorem wrtAdd_any (b : Nat) (p v : Value) (e : Int) (bs : List UInt8) (s : ByteArray) (e2 : Int) (W : World) (h : WrtAt b p v e bs W) (hl : bs.length + s.size ≤ 140737488355328) :
    Calls Try.prog 130 #[.pointer (some ⟨b, 0, none⟩), .string s, .int .i64 e2] W fun x W' => x = .returned (.tuple #[]) ∧ (∃ p' v', WrtAt b p' v' (addW bs e (s, e2)).2 (addW bs e (s, e2)).1 W') ∧ Below b W W' ∧ Kept b W W' := by
  have m2 : W.cell? ⟨b, 2, none⟩ = some (.int .i64 e) := (cell_of_row _ _ _ _ _ _ h.hb).trans rfl; have f2 : W.frozen? ⟨b, 2, none⟩ = false := frozen_of_row _ _ _ _ _ h.hb
  by_cases he : e = 0
  · subst he; have hcall := wrtString_any b p v e2 bs s _ (h.set2 e2) hl; have hB : Below b W (W.setCell ⟨b, 2, none⟩ (.int .i64 e2)) := (Below.refl _ _).setCell (p := ⟨b, 2, none⟩) (Nat.le_refl _) _; have HB := Lib.hid hB; clear h hB; unfold addW; rw [if_pos rfl]
    go_enter Try.func130, Try.ntmps130
    go_wp2_with fail
    refine hcall.mono ?_; rintro x wn ⟨rfl, v', hw, hb, hk⟩; clear hcall; have HW := Lib.hid hw; have HB2 := Lib.hid hb; have HK2 := Lib.hid hk; clear hw hb hk; go_wp2
    go_end0
    exact ⟨rfl, ⟨_, v', HW.out⟩, HB.out.trans HB2.out, (Kept.set b 2 W _).trans HK2.out⟩
  · have HH := Lib.hid h; clear h; unfold addW; rw [if_neg he]
    go_enter Try.func130, Try.ntmps130
    go_wp2
    go_end0
    exact ⟨rfl, ⟨p, v, HH.out⟩, Below.refl _ _, fun _ _ _ h _ _ => h⟩
structure PM (w W : World) (bx b : Nat) (cs : Array Value) (bs : List UInt8) (e : Int) : Prop where
  hx : W.heap[bx]? = some (.cells cs 82 (0, 0))
  hw : ∃ p v, WrtAt b p v e bs W
  lt : bx < b
  ge : w.heap.size ≤ bx
  below : Below w.heap.size w W
theorem PM.under {w W W' : World} {bx b : Nat} {cs : Array Value} {bs : List UInt8} {e : Int} (h : PM w W bx b cs bs e) (hb : Below W.heap.size W W') : PM w W' bx b cs bs e := by
  obtain ⟨p, v, hw⟩ := h.hw; exact ⟨blk_below h.hx hb, ⟨p, v, hw.under hb⟩, h.lt, h.ge, h.below.trans (hb.mono h.below.size)⟩
theorem PM.wrote {w W W' : World} {bx b : Nat} {cs : Array Value} {bs bs2 : List UInt8} {e e2 : Int} (h : PM w W bx b cs bs e) (hw : ∃ p v, WrtAt b p v e2 bs2 W') (hb : Below b W W') : PM w W' bx b cs bs2 e2 :=
  ⟨(hb.block bx h.lt).trans h.hx, hw, h.lt, h.ge, h.below.trans (hb.mono (by have := h.ge; have := h.lt; omega))⟩
theorem num_some {a : Int} {x : ByteArray × Int} (h : wire_Num.f a = some x) : x.2 = 0 → x.1.data.toList ≠ [] := by
  unfold wire_Num.f at h; obtain rfl := Option.some.inj h
  split
  · intro h; cases h
  · intro _ h
    have h2 : (Wire.numB a.toNat).size = 0 := by
      have := congrArg List.length h
      simpa using this
    rw [Wire.numB, strOfNums_size] at h2; simp at h2
theorem add_step {r : Option (ByteArray × Int)} {rs : List (Option (ByteArray × Int))} {bs : List UInt8} {e : Int} {g : List UInt8 × Int} (h : addAll (r :: rs) bs e = some g) : ∃ x : ByteArray × Int, r = some x ∧ bs.length + x.1.size ≤ 140737488355328 ∧ addAll rs (addW bs e x).1 (addW bs e x).2 = some g := by
  rw [addAll] at h; obtain ⟨x, hx, h⟩ := Option.bind_eq_some_iff.mp h
  by_cases hz : bs.length + x.1.size ≤ 140737488355328
  · rw [if_pos hz] at h; exact ⟨x, hx, hz, h⟩
  · rw [if_neg hz] at h; cases h
theorem add_some {bs : List UInt8} {e : Int} {x : ByteArray × Int} (h : bs = [] → e ≠ 0) : (addW bs e x).1 = [] → (addW bs e x).2 ≠ 0 := by
  unfold addW
  by_cases he : e = 0
  · rw [if_pos he]; intro h2; simp only [List.append_eq_nil_iff] at h2; exact absurd he (h h2.1)
  · rw [if_neg he]; exact h
theorem add_num {a : Int} {x : ByteArray × Int} (h : wire_Num.f a = some x) (bs : List UInt8) (e : Int) : (addW bs e x).1 = [] → (addW bs e x).2 ≠ 0 := by
  unfold addW
  by_cases he : e = 0
  · rw [if_pos he]; intro h1 h2; simp only [List.append_eq_nil_iff] at h1; exact num_some h h2 h1.2
  · rw [if_neg he]
    exact fun _ => he
def tailP (k : Nat) (ps : List (List ByteArray)) : List (Option (ByteArray × Int)) := wire_Num.f (ps.length : Int) :: ps.map (fun p => wire_Join.f k p)
def textsP (near : List S86) : List (Option (ByteArray × Int)) := near.flatMap (fun p => [wire_Text.f p.f0, wire_Text.f p.f1])
def nums4 (n a : Int) (th : Bool) (m : Nat) : List Int := [n, a, if th = true then 1 else 0, (m : Int)]
def restP (k : Nat) (near : List S86) (ps : List (List ByteArray)) : List (Option (ByteArray × Int)) := near.flatMap (fun p => [wire_Text.f p.f0, wire_Text.f p.f1]) ++ (wire_Num.f (ps.length : Int) :: ps.map (fun p => wire_Join.f k p))
def proof_Put.f (k : Nat) (n a : Int) (th : Bool) (near : List S86) (ps : List (List ByteArray)) : Option (ByteArray × Int) :=
  if (th && !near.isEmpty) = true then some (⟨#[]⟩, 6) else (addAll ((nums4 n a th near.length).map wire_Num.f ++ restP k near ps) [] 0).map fun st => if st.2 = 0 then (⟨st.1.toArray⟩, 0) else (⟨#[]⟩, st.2)
set_option maxHeartbeats 4000000 in
theorem proof_Put.calls (k : Nat) (n a : Int) (th : Bool) (A3 : Option Addr) (c3 : Nat) (near : List S86) (A4 : Option Addr) (c4 : Nat) (ps : List (List ByteArray)) (r1 : ByteArray) (r2 : Int) (w : World) (hC3 : Kd.C k86 w A3 near.length near) (hc3 : near.length ≤ c3) (hC4 : Kd.C (Kd.slice 9 Kd.string) w A4 ps.length ps) (hc4 : ps.length ≤ c4) (h : proof_Put.f k n a th near ps = some (r1, r2)) :
    Calls Try.prog 60 #[.agg #[.int .i64 n, .int .i64 a, .bool th, .slice A3 near.length c3, .slice A4 ps.length c4]] w fun x w' => x = .returned (.tuple #[.string r1, .int .i64 r2]) ∧ Below w.heap.size w w' := by
  unfold proof_Put.f at h; have hm3 := Kd.C_max hC3; have hm4 := Kd.C_max hC4; have hbox : Below w.heap.size w (w.alloc (.cells #[.int .i64 n, .int .i64 a, .bool th, .slice A3 near.length c3, .slice A4 ps.length c4] 82)) := (Below.refl _ _).alloc (Nat.le_refl _) _
  by_cases hbad : (th && !near.isEmpty) = true
  · rw [if_pos hbad] at h; simp only [Option.some.injEq, Prod.mk.injEq] at h; obtain ⟨rfl, rfl⟩ := h; rw [Bool.and_eq_true] at hbad; obtain ⟨rfl, hn⟩ := hbad
    have hn2 : (0 : Int) < (near.length : Int) := by
      cases near with
      | nil => cases hn
      | cons p l => simp only [List.length_cons]; omega
    clear hC3 hC4 hn
    obtain ⟨m, hm⟩ : ∃ m, m = near.length := ⟨_, rfl⟩
    rw [← hm] at hn2 hbox ⊢; clear hm hm3 hm4
    go_enter Try.func60, Try.ntmps60
    go_wp2
    go_ret2
    exact ⟨rfl, hbox⟩
  · rw [if_neg hbad] at h; obtain ⟨g, hg, hgr⟩ := Option.map_eq_some_iff.mp h; clear h; have HG := Lib.hid hg; have HR := Lib.hid hgr; have HC3 := Lib.hid hC3; have HC4 := Lib.hid hC4; clear hg hgr hC3 hC4
    have hth : th = true → ¬ (0 : Int) < (near.length : Int) := by
      intro ht h0; apply hbad; rw [ht]
      cases near with
      | nil => simp at h0
      | cons p l => rfl
    clear hbad
    cases th with
    | false =>
      clear hth; have hG : addAll (([n, a, 0, (near.length : Int)] : List Int).map wire_Num.f ++ restP k near ps) [] 0 = some g := HG.out; clear HG; have HG := Lib.hid hG; clear hG
      go_enter Try.func60, Try.ntmps60
      go_upto_region 1 with fail
      go_cut [19] (fun v wc => v = .bool false ∧ wc = w.alloc (.cells #[.int .i64 n, .int .i64 a, .bool false, .slice A3 near.length c3, .slice A4 ps.length c4] 82))
      case first =>
        go_wp2_with fail
        go_meet; exact ⟨by first | rfl | exact congrArg Value.bool (decide_eq_false (by omega)), rfl⟩
      obtain ⟨rfl, rfl⟩ := hcut
      go_upto_region 7 with fail
      obtain ⟨W, hW⟩ : ∃ W, W = (w.alloc (.cells #[.int .i64 n, .int .i64 a, .bool false, .slice A3 near.length c3, .slice A4 ps.length c4] 82)).alloc (.cells #[.pointer none, .slice none 0 0, .int .i64 0] 181) := ⟨_, rfl⟩
      have hM : PM w W w.heap.size (w.heap.size + 1) #[.int .i64 n, .int .i64 a, .bool false, .slice A3 near.length c3, .slice A4 ps.length c4] [] 0 := by
        rw [hW]; have hn2 := heap_alloc2_new w (.cells #[.int .i64 n, .int .i64 a, .bool false, .slice A3 near.length c3, .slice A4 ps.length c4] 82) (.cells #[.pointer none, .slice none 0 0, .int .i64 0] 181); exact ⟨heap_alloc2_old w _ _, ⟨_, _, hn2, Or.inl rfl, World.ownsRow_nil _ _ _ _, by simp [Value.ownBlock]⟩, Nat.lt_succ_self _, Nat.le_refl _, hbox.alloc (by simp) _⟩
      rw [← hW]
      obtain ⟨b, hb⟩ : ∃ b, b = w.heap.size + 1 := ⟨_, rfl⟩
      rw [← hb] at hM ⊢
      obtain ⟨bx, hbx⟩ : ∃ bx, bx = w.heap.size := ⟨_, rfl⟩
      rw [← hbx]; have HM := Lib.hid (show PM w W bx b #[.int .i64 n, .int .i64 a, .bool false, .slice A3 near.length c3, .slice A4 ps.length c4] [] 0 by rw [hbx]; exact hM); clear hM hW hb hbx hbox; have m0 : W.cell? ⟨bx, 0, none⟩ = some (.int .i64 n) := (cell_of_row _ _ _ _ _ _ HM.out.hx).trans rfl; have m1 : W.cell? ⟨bx, 1, none⟩ = some (.int .i64 a) := (cell_of_row _ _ _ _ _ _ HM.out.hx).trans rfl; have m3 : W.cell? ⟨bx, 3, none⟩ = some (.slice A3 near.length c3) := (cell_of_row _ _ _ _ _ _ HM.out.hx).trans rfl; go_wp2; clear m0 m1 m3
      go_loopw [31] (fun i wr => ∃ (j : Nat) (bs : List UInt8) (e : Int), j ≤ 4 ∧ i = .int .i64 (j : Int) ∧ PM w wr bx b #[.int .i64 n, .int .i64 a, .bool false, .slice A3 near.length c3, .slice A4 ps.length c4] bs e ∧ addAll ((([n, a, 0, (near.length : Int)] : List Int).drop j).map wire_Num.f ++ restP k near ps) bs e = some g ∧ (0 < j → bs = [] → e ≠ 0)) (fun i _ => 4 - (intOf i).toNat)
      case atStart => exact ⟨0, [], 0, by omega, rfl, HM.out, HG.out, fun h => absurd h (by decide)⟩
      case round =>
        clear HM HG; obtain ⟨j, bs, e, hj, rfl, hM, hG, hne⟩ := hrel; have HM := Lib.hid hM; have HG := Lib.hid hG; have HNE := Lib.hid hne; clear hM hG hne
        by_cases hlt : j < 4
        · rcases (show j = 0 ∨ j = 1 ∨ j = 2 ∨ j = 3 by omega) with rfl | rfl | rfl | rfl
          · obtain ⟨x, hx, hz, hg2⟩ := add_step (r := wire_Num.f n) (rs := (([n, a, 0, (near.length : Int)] : List Int).drop 1).map wire_Num.f ++ restP k near ps) HG.out; have HG2 := Lib.hid hg2; have HNS := Lib.hid (add_num hx bs e)
            have hidx : ∀ W, (Instr.index 182 (.agg #[.int .i64 n, .int .i64 a, .int .i64 0, .int .i64 (near.length : Int)]) (.int .i64 0)).run Try.prog W = .ok (.int .i64 n) W := fun W => by
              first
              | (go_simp; done)
              | rfl
              | (simp [Instr.index, run_underlying Try.underlying182]; done)
            clear HG hg2; have hcall := wire_Num.calls n x.1 x.2 wr hx
            go_wp2_with fail
            refine hcall.mono ?_; rintro y wa ⟨rfl, hb⟩; replace HM := Lib.hid (HM.out.under hb); clear hb hcall; obtain ⟨p', v', hw⟩ := HM.out.hw; have hcall := wrtAdd_any b p' v' e bs x.1 x.2 wa hw hz; clear hw
            go_wp2_with fail
            refine hcall.mono ?_; rintro y wb ⟨rfl, hw, hb, hk⟩; replace HM := Lib.hid (HM.out.wrote hw hb); clear hcall hw hb hk; go_wp2
            first
            | exact ⟨⟨1, _, _, by omega, (by first | rfl | go_num), HM.out, HG2.out, fun _ => HNS.out⟩, (by first | (simp [intOf]; done) | (simp [intOf]; omega))⟩
            | (refine ⟨?_, ?_⟩
               focus (apply Exists.intro; apply Exists.intro; apply Exists.intro; apply Exists.intro; apply Exists.intro; apply Exists.intro; apply Exists.intro; apply Exists.intro; apply Exists.intro; apply Exists.intro; refine ⟨⟨1, _, _, ?ca110, ?cb110, HM.out, HG2.out, fun _ => HNS.out⟩, rfl⟩; (case ca110 => omega); (case cb110 => first | rfl | go_num))
               focus (first | (simp [intOf]; done) | (simp [intOf]; omega)))
          · obtain ⟨x, hx, hz, hg2⟩ := add_step (r := wire_Num.f a) (rs := (([n, a, 0, (near.length : Int)] : List Int).drop 2).map wire_Num.f ++ restP k near ps) HG.out; have HG2 := Lib.hid hg2; have HNS := Lib.hid (add_num hx bs e)
            have hidx : ∀ W, (Instr.index 182 (.agg #[.int .i64 n, .int .i64 a, .int .i64 0, .int .i64 (near.length : Int)]) (.int .i64 1)).run Try.prog W = .ok (.int .i64 a) W := fun W => by
              first
              | (go_simp; done)
              | rfl
              | (simp [Instr.index, run_underlying Try.underlying182]; done)
            clear HG hg2; have hcall := wire_Num.calls a x.1 x.2 wr hx
            go_wp2_with fail
            refine hcall.mono ?_; rintro y wa ⟨rfl, hb⟩; replace HM := Lib.hid (HM.out.under hb); clear hb hcall; obtain ⟨p', v', hw⟩ := HM.out.hw; have hcall := wrtAdd_any b p' v' e bs x.1 x.2 wa hw hz; clear hw
            go_wp2_with fail
            refine hcall.mono ?_; rintro y wb ⟨rfl, hw, hb, hk⟩; replace HM := Lib.hid (HM.out.wrote hw hb); clear hcall hw hb hk; go_wp2
            first
            | exact ⟨⟨2, _, _, by omega, (by first | rfl | go_num), HM.out, HG2.out, fun _ => HNS.out⟩, (by first | (simp [intOf]; done) | (simp [intOf]; omega))⟩
            | (refine ⟨?_, ?_⟩
               focus (apply Exists.intro; apply Exists.intro; apply Exists.intro; apply Exists.intro; apply Exists.intro; apply Exists.intro; apply Exists.intro; apply Exists.intro; apply Exists.intro; apply Exists.intro; refine ⟨⟨2, _, _, ?ca210, ?cb210, HM.out, HG2.out, fun _ => HNS.out⟩, rfl⟩; (case ca210 => omega); (case cb210 => first | rfl | go_num))
               focus (first | (simp [intOf]; done) | (simp [intOf]; omega)))
          · obtain ⟨x, hx, hz, hg2⟩ := add_step (r := wire_Num.f (0 : Int)) (rs := (([n, a, 0, (near.length : Int)] : List Int).drop 3).map wire_Num.f ++ restP k near ps) HG.out; have HG2 := Lib.hid hg2; have HNS := Lib.hid (add_num hx bs e)
            have hidx : ∀ W, (Instr.index 182 (.agg #[.int .i64 n, .int .i64 a, .int .i64 0, .int .i64 (near.length : Int)]) (.int .i64 2)).run Try.prog W = .ok (.int .i64 (0 : Int)) W := fun W => by
              first
              | (go_simp; done)
              | rfl
              | (simp [Instr.index, run_underlying Try.underlying182]; done)
            clear HG hg2; have hcall := wire_Num.calls (0 : Int) x.1 x.2 wr hx
            go_wp2_with fail
            refine hcall.mono ?_; rintro y wa ⟨rfl, hb⟩; replace HM := Lib.hid (HM.out.under hb); clear hb hcall; obtain ⟨p', v', hw⟩ := HM.out.hw; have hcall := wrtAdd_any b p' v' e bs x.1 x.2 wa hw hz; clear hw
            go_wp2_with fail
            refine hcall.mono ?_; rintro y wb ⟨rfl, hw, hb, hk⟩; replace HM := Lib.hid (HM.out.wrote hw hb); clear hcall hw hb hk; go_wp2
            first
            | exact ⟨⟨3, _, _, by omega, (by first | rfl | go_num), HM.out, HG2.out, fun _ => HNS.out⟩, (by first | (simp [intOf]; done) | (simp [intOf]; omega))⟩
            | (refine ⟨?_, ?_⟩
               focus (apply Exists.intro; apply Exists.intro; apply Exists.intro; apply Exists.intro; apply Exists.intro; apply Exists.intro; apply Exists.intro; apply Exists.intro; apply Exists.intro; apply Exists.intro; refine ⟨⟨3, _, _, ?ca310, ?cb310, HM.out, HG2.out, fun _ => HNS.out⟩, rfl⟩; (case ca310 => omega); (case cb310 => first | rfl | go_num))
               focus (first | (simp [intOf]; done) | (simp [intOf]; omega)))
          · obtain ⟨x, hx, hz, hg2⟩ := add_step (r := wire_Num.f (near.length : Int)) (rs := (([n, a, 0, (near.length : Int)] : List Int).drop 4).map wire_Num.f ++ restP k near ps) HG.out; have HG2 := Lib.hid hg2; have HNS := Lib.hid (add_num hx bs e)
            have hidx : ∀ W, (Instr.index 182 (.agg #[.int .i64 n, .int .i64 a, .int .i64 0, .int .i64 (near.length : Int)]) (.int .i64 3)).run Try.prog W = .ok (.int .i64 (near.length : Int)) W := fun W => by
              first
              | (go_simp; done)
              | rfl
              | (simp [Instr.index, run_underlying Try.underlying182]; done)
            clear HG hg2; have hcall := wire_Num.calls (near.length : Int) x.1 x.2 wr hx
            go_wp2_with fail
            refine hcall.mono ?_; rintro y wa ⟨rfl, hb⟩; replace HM := Lib.hid (HM.out.under hb); clear hb hcall; obtain ⟨p', v', hw⟩ := HM.out.hw; have hcall := wrtAdd_any b p' v' e bs x.1 x.2 wa hw hz; clear hw
            go_wp2_with fail
            refine hcall.mono ?_; rintro y wb ⟨rfl, hw, hb, hk⟩; replace HM := Lib.hid (HM.out.wrote hw hb); clear hcall hw hb hk; go_wp2
            first
            | exact ⟨⟨4, _, _, by omega, (by first | rfl | go_num), HM.out, HG2.out, fun _ => HNS.out⟩, (by first | (simp [intOf]; done) | (simp [intOf]; omega))⟩
            | (refine ⟨?_, ?_⟩
               focus (apply Exists.intro; apply Exists.intro; apply Exists.intro; apply Exists.intro; apply Exists.intro; apply Exists.intro; apply Exists.intro; apply Exists.intro; apply Exists.intro; apply Exists.intro; refine ⟨⟨4, _, _, ?ca410, ?cb410, HM.out, HG2.out, fun _ => HNS.out⟩, rfl⟩; (case ca410 => omega); (case cb410 => first | rfl | go_num))
               focus (first | (simp [intOf]; done) | (simp [intOf]; omega)))
        · obtain rfl : j = 4 := by omega
          have hne := HNE.out (by omega); have HNE2 := Lib.hid hne; have HG2 := Lib.hid (show addAll (textsP near ++ tailP k ps) bs e = some g from HG.out); clear HNE hne HG hlt hj; have m3 : wr.cell? ⟨bx, 3, none⟩ = some (.slice A3 near.length c3) := (cell_of_row _ _ _ _ _ _ HM.out.hx).trans rfl; go_wp2; clear m3
          go_loopw [43] (fun i wr => ∃ (j : Nat) (bs : List UInt8) (e : Int), j ≤ near.length ∧ i = .int .i64 (j : Int) ∧ PM w wr bx b #[.int .i64 n, .int .i64 a, .bool false, .slice A3 near.length c3, .slice A4 ps.length c4] bs e ∧ addAll (textsP (near.drop j) ++ tailP k ps) bs e = some g ∧ (bs = [] → e ≠ 0)) (fun i _ => near.length - (intOf i).toNat)
          case atStart => exact ⟨0, bs, e, Nat.zero_le _, rfl, HM.out, HG2.out, HNE2.out⟩
          case round =>
            clear HM HG2 HNE2; obtain ⟨j, bs, e, hj, rfl, hM, hG, hne⟩ := hrel; have HM := Lib.hid hM; have HG := Lib.hid hG; have HNE := Lib.hid hne; clear hM hG hne
            by_cases hlt : j < near.length
            · have hki : (j : Int) < (near.length : Int) := by omega
              have hk0 : (0 : Int) ≤ (j : Int) := by omega
              obtain ⟨ad, e0, x0, x1⟩ := at_T86 (Kd.C_below HC3.out HM.out.below) (j : Int) (by omega) (by omega); rw [Int.toNat_natCast] at x0 x1; subst e0
              have hrd : rd_T86 near (j : Int) = near[j] := by
                simp [rd_T86, List.getD, hlt]
              have hG := HG.out; rw [List.drop_eq_getElem_cons hlt] at hG
              obtain ⟨P, hP⟩ : ∃ P, P = near[j] := ⟨_, rfl⟩
              rw [hrd, ← hP] at x0 x1; rw [← hP] at hG; clear hP hrd HG; obtain ⟨x, hx, hz, hg2⟩ := add_step (r := wire_Text.f P.f0) (rs := wire_Text.f P.f1 :: (textsP (near.drop (j + 1)) ++ tailP k ps)) hG; have HG2 := Lib.hid hg2; clear hG hg2; have hnw := heap_alloc_new wr (.cells #[.string P.f0, .string P.f1] 86)
              have hbn : wr.heap.size ≠ b := by obtain ⟨p', v', hw⟩ := HM.out.hw; have := hw.lt; omega
              replace HM := Lib.hid (HM.out.under ((Below.refl _ _).alloc (Nat.le_refl _) (.cells #[.string P.f0, .string P.f1] 86))); have hcall := wire_Text.calls P.f0 x.1 x.2 (wr.alloc (.cells #[.string P.f0, .string P.f1] 86)) hx
              go_wp2_with fail
              refine hcall.mono ?_; rintro y wa ⟨rfl, hb⟩; replace HM := Lib.hid (HM.out.under hb); replace hnw := blk_below hnw hb; clear hb hcall x0 x1; have HQ := Lib.hid hnw; clear hnw; obtain ⟨p', v', hw⟩ := HM.out.hw; have hcall := wrtAdd_any b p' v' e bs x.1 x.2 wa hw hz; clear hw
              go_wp2_with fail
              refine hcall.mono ?_; rintro y wb ⟨rfl, hw, hb, hk⟩; replace HM := Lib.hid (HM.out.wrote hw hb); replace HQ := Lib.hid (hk _ _ _ HQ.out hbn (by decide)); clear hcall hw hb hk; have HNE1 := Lib.hid (add_some (x := x) HNE.out); clear HNE
              obtain ⟨bs1, hbs1⟩ : ∃ z, z = (addW bs e x).1 := ⟨_, rfl⟩
              obtain ⟨e1, he1⟩ : ∃ z, z = (addW bs e x).2 := ⟨_, rfl⟩
              have hG := HG2.out; have hM := HM.out; have hN := HNE1.out; rw [← hbs1, ← he1] at hG hM hN; clear HG2 HM HNE1 hbs1 he1 hx hz; have HM := Lib.hid hM; have HNE := Lib.hid hN; clear hM hN; obtain ⟨x, hx, hz, hg2⟩ := add_step (r := wire_Text.f P.f1) (rs := textsP (near.drop (j + 1)) ++ tailP k ps) hG; have HG2 := Lib.hid hg2; clear hG hg2; have z1 : wb.cell? ⟨wr.heap.size, 1, none⟩ = some (.string P.f1) := (cell_of_row _ _ _ _ _ _ HQ.out).trans rfl; have hcall := wire_Text.calls P.f1 x.1 x.2 wb hx
              go_wp2_with fail
              refine hcall.mono ?_; rintro y wc ⟨rfl, hb⟩; replace HM := Lib.hid (HM.out.under hb); clear hb hcall z1 HQ; obtain ⟨p', v', hw⟩ := HM.out.hw; have hcall := wrtAdd_any b p' v' e1 bs1 x.1 x.2 wc hw hz; clear hw
              go_wp2_with fail
              refine hcall.mono ?_; rintro y wd ⟨rfl, hw, hb, hk⟩; replace HM := Lib.hid (HM.out.wrote hw hb); clear hcall hw hb hk; have HNE1 := Lib.hid (add_some (x := x) HNE.out); go_wp2
              first
              | exact ⟨⟨j + 1, _, _, by omega, (by first | rfl | go_num), HM.out, HG2.out, HNE1.out⟩, (by first | (simp [intOf]; done) | (simp [intOf]; omega))⟩
              | (refine ⟨?_, ?_⟩
                 focus (apply Exists.intro; apply Exists.intro; apply Exists.intro; apply Exists.intro; apply Exists.intro; apply Exists.intro; apply Exists.intro; apply Exists.intro; apply Exists.intro; apply Exists.intro; apply Exists.intro; apply Exists.intro; apply Exists.intro; apply Exists.intro; apply Exists.intro; apply Exists.intro; apply Exists.intro; apply Exists.intro; refine ⟨⟨j + 1, _, _, ?caj18, ?cbj18, HM.out, HG2.out, HNE1.out⟩, rfl⟩; (case caj18 => omega); (case cbj18 => first | rfl | go_num))
                 focus (first | (simp [intOf]; done) | (simp [intOf]; omega)))
            · have hki : ¬ (j : Int) < (near.length : Int) := by omega
              obtain rfl : j = near.length := by omega
              have hG := HG.out; rw [List.drop_eq_nil_of_le (Nat.le_refl _)] at hG; obtain ⟨x, hx, hz, hg2⟩ := add_step (r := wire_Num.f (ps.length : Int)) (rs := ps.map (fun p => wire_Join.f k p)) hG; have HG2 := Lib.hid hg2; have HNE1 := Lib.hid (add_num hx bs e); clear HG hG hg2 HNE; have m4 : wr.cell? ⟨bx, 4, none⟩ = some (.slice A4 ps.length c4) := (cell_of_row _ _ _ _ _ _ HM.out.hx).trans rfl; have hcall := wire_Num.calls (ps.length : Int) x.1 x.2 wr hx
              go_wp2_with fail
              refine hcall.mono ?_; rintro y wa ⟨rfl, hb⟩; replace HM := Lib.hid (HM.out.under hb); clear hb hcall; obtain ⟨p', v', hw⟩ := HM.out.hw; have hcall := wrtAdd_any b p' v' e bs x.1 x.2 wa hw hz; clear hw
              go_wp2_with fail
              refine hcall.mono ?_; rintro y wb ⟨rfl, hw, hb, hk⟩; replace HM := Lib.hid (HM.out.wrote hw hb); clear hcall hw hb hk m4 hx hz; have m4 : wb.cell? ⟨bx, 4, none⟩ = some (.slice A4 ps.length c4) := (cell_of_row _ _ _ _ _ _ HM.out.hx).trans rfl
              obtain ⟨bs1, hbs1⟩ : ∃ z, z = (addW bs e x).1 := ⟨_, rfl⟩
              obtain ⟨e1, he1⟩ : ∃ z, z = (addW bs e x).2 := ⟨_, rfl⟩
              have hG := HG2.out; have hM := HM.out; have hN := HNE1.out; rw [← hbs1, ← he1] at hG hM hN; clear HG2 HM HNE1 hbs1 he1; have HM := Lib.hid hM; have HNE := Lib.hid hN; have HG := Lib.hid hG; clear hM hN hG; go_wp2; clear m4
              go_loopw [70] (fun i wr => ∃ (j : Nat) (bs : List UInt8) (e : Int), j ≤ ps.length ∧ i = .int .i64 (j : Int) ∧ PM w wr bx b #[.int .i64 n, .int .i64 a, .bool false, .slice A3 near.length c3, .slice A4 ps.length c4] bs e ∧ addAll ((ps.drop j).map (fun p => wire_Join.f k p)) bs e = some g ∧ (bs = [] → e ≠ 0)) (fun i _ => ps.length - (intOf i).toNat)
              case atStart => exact ⟨0, bs1, e1, Nat.zero_le _, rfl, HM.out, HG.out, HNE.out⟩
              case round =>
                clear HM HG HNE; obtain ⟨j, bs, e, hj, rfl, hM, hG, hne⟩ := hrel; have HM := Lib.hid hM; have HG := Lib.hid hG; have HNE := Lib.hid hne; clear hM hG hne
                by_cases hlt : j < ps.length
                · have hki : (j : Int) < (ps.length : Int) := by omega
                  have hk0 : (0 : Int) ≤ (j : Int) := by omega
                  obtain ⟨ad, A0, c0, e0, x0, hc0, hC0⟩ := at_L10 (Kd.C_below HC4.out HM.out.below) (j : Int) (by omega) (by omega); rw [Int.toNat_natCast] at x0; subst e0
                  have hrd : rd_L10 ps (j : Int) = ps[j] := by
                    simp [rd_L10, List.getD, hlt]
                  have hG := HG.out; rw [List.drop_eq_getElem_cons hlt] at hG
                  obtain ⟨P, hP⟩ : ∃ P, P = ps[j] := ⟨_, rfl⟩
                  rw [hrd, ← hP] at x0 hc0 hC0; rw [← hP] at hG; clear hP hrd HG; obtain ⟨x, hx, hz, hg2⟩ := add_step (r := wire_Join.f k P) (rs := (ps.drop (j + 1)).map (fun p => wire_Join.f k p)) hG; have HG2 := Lib.hid hg2; clear hG hg2; have hcall := wire_Join.calls k A0 c0 P x.1 x.2 wr hC0 hc0 hx
                  go_wp2_with fail
                  refine hcall.mono ?_; rintro y wa ⟨rfl, hb⟩; replace HM := Lib.hid (HM.out.under hb); clear x0; clear hb hcall; obtain ⟨p', v', hw⟩ := HM.out.hw; have hcall := wrtAdd_any b p' v' e bs x.1 x.2 wa hw hz; clear hw
                  go_wp2_with fail
                  refine hcall.mono ?_; rintro y wb ⟨rfl, hw, hb, hk⟩; replace HM := Lib.hid (HM.out.wrote hw hb); clear hcall hw hb hk; have HNE1 := Lib.hid (add_some (x := x) HNE.out); go_wp2
                  first
                  | exact ⟨⟨j + 1, _, _, by omega, (by first | rfl | go_num), HM.out, HG2.out, HNE1.out⟩, (by first | (simp [intOf]; done) | (simp [intOf]; omega))⟩
                  | (refine ⟨?_, ?_⟩
                     focus (apply Exists.intro; apply Exists.intro; apply Exists.intro; apply Exists.intro; apply Exists.intro; apply Exists.intro; apply Exists.intro; apply Exists.intro; apply Exists.intro; apply Exists.intro; apply Exists.intro; refine ⟨⟨j + 1, _, _, ?caj11, ?cbj11, HM.out, HG2.out, HNE1.out⟩, rfl⟩; (case caj11 => omega); (case cbj11 => first | rfl | go_num))
                     focus (first | (simp [intOf]; done) | (simp [intOf]; omega)))
                · have hki : ¬ (j : Int) < (ps.length : Int) := by omega
                  obtain rfl : j = ps.length := by omega
                  have hG := HG.out; rw [List.drop_eq_nil_of_le (Nat.le_refl _)] at hG; obtain rfl : (bs, e) = g := Option.some.inj hG; clear HG hG; obtain ⟨p', v', hw⟩ := HM.out.hw; have m2 : wr.cell? ⟨b, 2, none⟩ = some (.int .i64 e) := (cell_of_row _ _ _ _ _ _ hw.hb).trans rfl
                  by_cases he : e = 0
                  · have hr := HR.out; simp only [he, if_true] at hr; simp only [Prod.mk.injEq] at hr; obtain ⟨rfl, rfl⟩ := hr; have hcall := wrtRead_any b p' v' e bs wr hw (fun h => HNE.out h he); clear hw HR
                    go_wp2_with fail
                    refine hcall.mono ?_; rintro y wz ⟨rfl, hb⟩
                    have hge : w.heap.size ≤ b := by have := HM.out.ge; have := HM.out.lt; omega
                    have HB := Lib.hid (HM.out.below.trans (hb.mono hge)); clear hcall hb HM; go_wp2
                    go_ret2
                    exact ⟨rfl, HB.out⟩
                  · have hr := HR.out; rw [if_neg he] at hr; simp only [Prod.mk.injEq] at hr; obtain ⟨rfl, rfl⟩ := hr; clear hw HR; go_wp2
                    go_quiet (fail)
                    go_wp2
                    go_ret2
                    exact ⟨rfl, HM.out.below.trans (pbN (Below.refl _ _) nq)⟩
    | true =>
      have hn0 := hth rfl; clear hth; have hG : addAll (([n, a, 1, (near.length : Int)] : List Int).map wire_Num.f ++ restP k near ps) [] 0 = some g := HG.out; clear HG; have HG := Lib.hid hG; clear hG
      go_enter Try.func60, Try.ntmps60
      go_upto_region 1 with fail
      go_cut [19] (fun v wc => v = .bool false ∧ wc = w.alloc (.cells #[.int .i64 n, .int .i64 a, .bool true, .slice A3 near.length c3, .slice A4 ps.length c4] 82))
      case first =>
        go_wp2_with fail
        go_meet; exact ⟨by first | rfl | exact congrArg Value.bool (decide_eq_false (by omega)), rfl⟩
      obtain ⟨rfl, rfl⟩ := hcut; clear hn0
      go_upto_region 7 with fail
      obtain ⟨W, hW⟩ : ∃ W, W = (w.alloc (.cells #[.int .i64 n, .int .i64 a, .bool true, .slice A3 near.length c3, .slice A4 ps.length c4] 82)).alloc (.cells #[.pointer none, .slice none 0 0, .int .i64 0] 181) := ⟨_, rfl⟩
      have hM : PM w W w.heap.size (w.heap.size + 1) #[.int .i64 n, .int .i64 a, .bool true, .slice A3 near.length c3, .slice A4 ps.length c4] [] 0 := by
        rw [hW]; have hn2 := heap_alloc2_new w (.cells #[.int .i64 n, .int .i64 a, .bool true, .slice A3 near.length c3, .slice A4 ps.length c4] 82) (.cells #[.pointer none, .slice none 0 0, .int .i64 0] 181); exact ⟨heap_alloc2_old w _ _, ⟨_, _, hn2, Or.inl rfl, World.ownsRow_nil _ _ _ _, by simp [Value.ownBlock]⟩, Nat.lt_succ_self _, Nat.le_refl _, hbox.alloc (by simp) _⟩
      rw [← hW]
      obtain ⟨b, hb⟩ : ∃ b, b = w.heap.size + 1 := ⟨_, rfl⟩
      rw [← hb] at hM ⊢
      obtain ⟨bx, hbx⟩ : ∃ bx, bx = w.heap.size := ⟨_, rfl⟩
      rw [← hbx]; have HM := Lib.hid (show PM w W bx b #[.int .i64 n, .int .i64 a, .bool true, .slice A3 near.length c3, .slice A4 ps.length c4] [] 0 by rw [hbx]; exact hM); clear hM hW hb hbx hbox; have m0 : W.cell? ⟨bx, 0, none⟩ = some (.int .i64 n) := (cell_of_row _ _ _ _ _ _ HM.out.hx).trans rfl; have m1 : W.cell? ⟨bx, 1, none⟩ = some (.int .i64 a) := (cell_of_row _ _ _ _ _ _ HM.out.hx).trans rfl; have m3 : W.cell? ⟨bx, 3, none⟩ = some (.slice A3 near.length c3) := (cell_of_row _ _ _ _ _ _ HM.out.hx).trans rfl; go_wp2; clear m0 m1 m3
      go_loopw [31] (fun i wr => ∃ (j : Nat) (bs : List UInt8) (e : Int), j ≤ 4 ∧ i = .int .i64 (j : Int) ∧ PM w wr bx b #[.int .i64 n, .int .i64 a, .bool true, .slice A3 near.length c3, .slice A4 ps.length c4] bs e ∧ addAll ((([n, a, 1, (near.length : Int)] : List Int).drop j).map wire_Num.f ++ restP k near ps) bs e = some g ∧ (0 < j → bs = [] → e ≠ 0)) (fun i _ => 4 - (intOf i).toNat)
      case atStart => exact ⟨0, [], 0, by omega, rfl, HM.out, HG.out, fun h => absurd h (by decide)⟩
      case round =>
        clear HM HG; obtain ⟨j, bs, e, hj, rfl, hM, hG, hne⟩ := hrel; have HM := Lib.hid hM; have HG := Lib.hid hG; have HNE := Lib.hid hne; clear hM hG hne
        by_cases hlt : j < 4
        · rcases (show j = 0 ∨ j = 1 ∨ j = 2 ∨ j = 3 by omega) with rfl | rfl | rfl | rfl
          · obtain ⟨x, hx, hz, hg2⟩ := add_step (r := wire_Num.f n) (rs := (([n, a, 1, (near.length : Int)] : List Int).drop 1).map wire_Num.f ++ restP k near ps) HG.out; have HG2 := Lib.hid hg2; have HNS := Lib.hid (add_num hx bs e)
            have hidx : ∀ W, (Instr.index 182 (.agg #[.int .i64 n, .int .i64 a, .int .i64 1, .int .i64 (near.length : Int)]) (.int .i64 0)).run Try.prog W = .ok (.int .i64 n) W := fun W => by
              first
              | (go_simp; done)
              | rfl
              | (simp [Instr.index, run_underlying Try.underlying182]; done)
            clear HG hg2; have hcall := wire_Num.calls n x.1 x.2 wr hx
            go_wp2_with fail
            refine hcall.mono ?_; rintro y wa ⟨rfl, hb⟩; replace HM := Lib.hid (HM.out.under hb); clear hb hcall; obtain ⟨p', v', hw⟩ := HM.out.hw; have hcall := wrtAdd_any b p' v' e bs x.1 x.2 wa hw hz; clear hw
            go_wp2_with fail
            refine hcall.mono ?_; rintro y wb ⟨rfl, hw, hb, hk⟩; replace HM := Lib.hid (HM.out.wrote hw hb); clear hcall hw hb hk; go_wp2
            first
            | exact ⟨⟨1, _, _, by omega, (by first | rfl | go_num), HM.out, HG2.out, fun _ => HNS.out⟩, (by first | (simp [intOf]; done) | (simp [intOf]; omega))⟩
            | (refine ⟨?_, ?_⟩
               focus (apply Exists.intro; apply Exists.intro; apply Exists.intro; apply Exists.intro; apply Exists.intro; apply Exists.intro; apply Exists.intro; apply Exists.intro; apply Exists.intro; apply Exists.intro; refine ⟨⟨1, _, _, ?ca110, ?cb110, HM.out, HG2.out, fun _ => HNS.out⟩, rfl⟩; (case ca110 => omega); (case cb110 => first | rfl | go_num))
               focus (first | (simp [intOf]; done) | (simp [intOf]; omega)))
          · obtain ⟨x, hx, hz, hg2⟩ := add_step (r := wire_Num.f a) (rs := (([n, a, 1, (near.length : Int)] : List Int).drop 2).map wire_Num.f ++ restP k near ps) HG.out; have HG2 := Lib.hid hg2; have HNS := Lib.hid (add_num hx bs e)
            have hidx : ∀ W, (Instr.index 182 (.agg #[.int .i64 n, .int .i64 a, .int .i64 1, .int .i64 (near.length : Int)]) (.int .i64 1)).run Try.prog W = .ok (.int .i64 a) W := fun W => by
              first
              | (go_simp; done)
              | rfl
              | (simp [Instr.index, run_underlying Try.underlying182]; done)
            clear HG hg2; have hcall := wire_Num.calls a x.1 x.2 wr hx
            go_wp2_with fail
            refine hcall.mono ?_; rintro y wa ⟨rfl, hb⟩; replace HM := Lib.hid (HM.out.under hb); clear hb hcall; obtain ⟨p', v', hw⟩ := HM.out.hw; have hcall := wrtAdd_any b p' v' e bs x.1 x.2 wa hw hz; clear hw
            go_wp2_with fail
            refine hcall.mono ?_; rintro y wb ⟨rfl, hw, hb, hk⟩; replace HM := Lib.hid (HM.out.wrote hw hb); clear hcall hw hb hk; go_wp2
            first
            | exact ⟨⟨2, _, _, by omega, (by first | rfl | go_num), HM.out, HG2.out, fun _ => HNS.out⟩, (by first | (simp [intOf]; done) | (simp [intOf]; omega))⟩
            | (refine ⟨?_, ?_⟩
               focus (apply Exists.intro; apply Exists.intro; apply Exists.intro; apply Exists.intro; apply Exists.intro; apply Exists.intro; apply Exists.intro; apply Exists.intro; apply Exists.intro; apply Exists.intro; refine ⟨⟨2, _, _, ?ca210, ?cb210, HM.out, HG2.out, fun _ => HNS.out⟩, rfl⟩; (case ca210 => omega); (case cb210 => first | rfl | go_num))
               focus (first | (simp [intOf]; done) | (simp [intOf]; omega)))
          · obtain ⟨x, hx, hz, hg2⟩ := add_step (r := wire_Num.f (1 : Int)) (rs := (([n, a, 1, (near.length : Int)] : List Int).drop 3).map wire_Num.f ++ restP k near ps) HG.out; have HG2 := Lib.hid hg2; have HNS := Lib.hid (add_num hx bs e)
            have hidx : ∀ W, (Instr.index 182 (.agg #[.int .i64 n, .int .i64 a, .int .i64 1, .int .i64 (near.length : Int)]) (.int .i64 2)).run Try.prog W = .ok (.int .i64 (1 : Int)) W := fun W => by
              first
              | (go_simp; done)
              | rfl
              | (simp [Instr.index, run_underlying Try.underlying182]; done)
            clear HG hg2; have hcall := wire_Num.calls (1 : Int) x.1 x.2 wr hx
            go_wp2_with fail
            refine hcall.mono ?_; rintro y wa ⟨rfl, hb⟩; replace HM := Lib.hid (HM.out.under hb); clear hb hcall; obtain ⟨p', v', hw⟩ := HM.out.hw; have hcall := wrtAdd_any b p' v' e bs x.1 x.2 wa hw hz; clear hw
            go_wp2_with fail
            refine hcall.mono ?_; rintro y wb ⟨rfl, hw, hb, hk⟩; replace HM := Lib.hid (HM.out.wrote hw hb); clear hcall hw hb hk; go_wp2
            first
            | exact ⟨⟨3, _, _, by omega, (by first | rfl | go_num), HM.out, HG2.out, fun _ => HNS.out⟩, (by first | (simp [intOf]; done) | (simp [intOf]; omega))⟩
            | (refine ⟨?_, ?_⟩
               focus (apply Exists.intro; apply Exists.intro; apply Exists.intro; apply Exists.intro; apply Exists.intro; apply Exists.intro; apply Exists.intro; apply Exists.intro; apply Exists.intro; apply Exists.intro; refine ⟨⟨3, _, _, ?ca310, ?cb310, HM.out, HG2.out, fun _ => HNS.out⟩, rfl⟩; (case ca310 => omega); (case cb310 => first | rfl | go_num))
               focus (first | (simp [intOf]; done) | (simp [intOf]; omega)))
          · obtain ⟨x, hx, hz, hg2⟩ := add_step (r := wire_Num.f (near.length : Int)) (rs := (([n, a, 1, (near.length : Int)] : List Int).drop 4).map wire_Num.f ++ restP k near ps) HG.out; have HG2 := Lib.hid hg2; have HNS := Lib.hid (add_num hx bs e)
            have hidx : ∀ W, (Instr.index 182 (.agg #[.int .i64 n, .int .i64 a, .int .i64 1, .int .i64 (near.length : Int)]) (.int .i64 3)).run Try.prog W = .ok (.int .i64 (near.length : Int)) W := fun W => by
              first
              | (go_simp; done)
              | rfl
              | (simp [Instr.index, run_underlying Try.underlying182]; done)
            clear HG hg2; have hcall := wire_Num.calls (near.length : Int) x.1 x.2 wr hx
            go_wp2_with fail
            refine hcall.mono ?_; rintro y wa ⟨rfl, hb⟩; replace HM := Lib.hid (HM.out.under hb); clear hb hcall; obtain ⟨p', v', hw⟩ := HM.out.hw; have hcall := wrtAdd_any b p' v' e bs x.1 x.2 wa hw hz; clear hw
            go_wp2_with fail
            refine hcall.mono ?_; rintro y wb ⟨rfl, hw, hb, hk⟩; replace HM := Lib.hid (HM.out.wrote hw hb); clear hcall hw hb hk; go_wp2
            first
            | exact ⟨⟨4, _, _, by omega, (by first | rfl | go_num), HM.out, HG2.out, fun _ => HNS.out⟩, (by first | (simp [intOf]; done) | (simp [intOf]; omega))⟩
            | (refine ⟨?_, ?_⟩
               focus (apply Exists.intro; apply Exists.intro; apply Exists.intro; apply Exists.intro; apply Exists.intro; apply Exists.intro; apply Exists.intro; apply Exists.intro; apply Exists.intro; apply Exists.intro; refine ⟨⟨4, _, _, ?ca410, ?cb410, HM.out, HG2.out, fun _ => HNS.out⟩, rfl⟩; (case ca410 => omega); (case cb410 => first | rfl | go_num))
               focus (first | (simp [intOf]; done) | (simp [intOf]; omega)))
        · obtain rfl : j = 4 := by omega
          have hne := HNE.out (by omega); have HNE2 := Lib.hid hne; have HG2 := Lib.hid (show addAll (textsP near ++ tailP k ps) bs e = some g from HG.out); clear HNE hne HG hlt hj; have m3 : wr.cell? ⟨bx, 3, none⟩ = some (.slice A3 near.length c3) := (cell_of_row _ _ _ _ _ _ HM.out.hx).trans rfl; go_wp2; clear m3
          go_loopw [43] (fun i wr => ∃ (j : Nat) (bs : List UInt8) (e : Int), j ≤ near.length ∧ i = .int .i64 (j : Int) ∧ PM w wr bx b #[.int .i64 n, .int .i64 a, .bool true, .slice A3 near.length c3, .slice A4 ps.length c4] bs e ∧ addAll (textsP (near.drop j) ++ tailP k ps) bs e = some g ∧ (bs = [] → e ≠ 0)) (fun i _ => near.length - (intOf i).toNat)
          case atStart => exact ⟨0, bs, e, Nat.zero_le _, rfl, HM.out, HG2.out, HNE2.out⟩
          case round =>
            clear HM HG2 HNE2; obtain ⟨j, bs, e, hj, rfl, hM, hG, hne⟩ := hrel; have HM := Lib.hid hM; have HG := Lib.hid hG; have HNE := Lib.hid hne; clear hM hG hne
            by_cases hlt : j < near.length
            · have hki : (j : Int) < (near.length : Int) := by omega
              have hk0 : (0 : Int) ≤ (j : Int) := by omega
              obtain ⟨ad, e0, x0, x1⟩ := at_T86 (Kd.C_below HC3.out HM.out.below) (j : Int) (by omega) (by omega); rw [Int.toNat_natCast] at x0 x1; subst e0
              have hrd : rd_T86 near (j : Int) = near[j] := by
                simp [rd_T86, List.getD, hlt]
              have hG := HG.out; rw [List.drop_eq_getElem_cons hlt] at hG
              obtain ⟨P, hP⟩ : ∃ P, P = near[j] := ⟨_, rfl⟩
              rw [hrd, ← hP] at x0 x1; rw [← hP] at hG; clear hP hrd HG; obtain ⟨x, hx, hz, hg2⟩ := add_step (r := wire_Text.f P.f0) (rs := wire_Text.f P.f1 :: (textsP (near.drop (j + 1)) ++ tailP k ps)) hG; have HG2 := Lib.hid hg2; clear hG hg2; have hnw := heap_alloc_new wr (.cells #[.string P.f0, .string P.f1] 86)
              have hbn : wr.heap.size ≠ b := by obtain ⟨p', v', hw⟩ := HM.out.hw; have := hw.lt; omega
              replace HM := Lib.hid (HM.out.under ((Below.refl _ _).alloc (Nat.le_refl _) (.cells #[.string P.f0, .string P.f1] 86))); have hcall := wire_Text.calls P.f0 x.1 x.2 (wr.alloc (.cells #[.string P.f0, .string P.f1] 86)) hx
              go_wp2_with fail
              refine hcall.mono ?_; rintro y wa ⟨rfl, hb⟩; replace HM := Lib.hid (HM.out.under hb); replace hnw := blk_below hnw hb; clear hb hcall x0 x1; have HQ := Lib.hid hnw; clear hnw; obtain ⟨p', v', hw⟩ := HM.out.hw; have hcall := wrtAdd_any b p' v' e bs x.1 x.2 wa hw hz; clear hw
              go_wp2_with fail
              refine hcall.mono ?_; rintro y wb ⟨rfl, hw, hb, hk⟩; replace HM := Lib.hid (HM.out.wrote hw hb); replace HQ := Lib.hid (hk _ _ _ HQ.out hbn (by decide)); clear hcall hw hb hk; have HNE1 := Lib.hid (add_some (x := x) HNE.out); clear HNE
              obtain ⟨bs1, hbs1⟩ : ∃ z, z = (addW bs e x).1 := ⟨_, rfl⟩
              obtain ⟨e1, he1⟩ : ∃ z, z = (addW bs e x).2 := ⟨_, rfl⟩
              have hG := HG2.out; have hM := HM.out; have hN := HNE1.out; rw [← hbs1, ← he1] at hG hM hN; clear HG2 HM HNE1 hbs1 he1 hx hz; have HM := Lib.hid hM; have HNE := Lib.hid hN; clear hM hN; obtain ⟨x, hx, hz, hg2⟩ := add_step (r := wire_Text.f P.f1) (rs := textsP (near.drop (j + 1)) ++ tailP k ps) hG; have HG2 := Lib.hid hg2; clear hG hg2; have z1 : wb.cell? ⟨wr.heap.size, 1, none⟩ = some (.string P.f1) := (cell_of_row _ _ _ _ _ _ HQ.out).trans rfl; have hcall := wire_Text.calls P.f1 x.1 x.2 wb hx
              go_wp2_with fail
              refine hcall.mono ?_; rintro y wc ⟨rfl, hb⟩; replace HM := Lib.hid (HM.out.under hb); clear hb hcall z1 HQ; obtain ⟨p', v', hw⟩ := HM.out.hw; have hcall := wrtAdd_any b p' v' e1 bs1 x.1 x.2 wc hw hz; clear hw
              go_wp2_with fail
              refine hcall.mono ?_; rintro y wd ⟨rfl, hw, hb, hk⟩; replace HM := Lib.hid (HM.out.wrote hw hb); clear hcall hw hb hk; have HNE1 := Lib.hid (add_some (x := x) HNE.out); go_wp2
              first
              | exact ⟨⟨j + 1, _, _, by omega, (by first | rfl | go_num), HM.out, HG2.out, HNE1.out⟩, (by first | (simp [intOf]; done) | (simp [intOf]; omega))⟩
              | (refine ⟨?_, ?_⟩
                 focus (apply Exists.intro; apply Exists.intro; apply Exists.intro; apply Exists.intro; apply Exists.intro; apply Exists.intro; apply Exists.intro; apply Exists.intro; apply Exists.intro; apply Exists.intro; apply Exists.intro; apply Exists.intro; apply Exists.intro; apply Exists.intro; apply Exists.intro; apply Exists.intro; apply Exists.intro; apply Exists.intro; refine ⟨⟨j + 1, _, _, ?caj18, ?cbj18, HM.out, HG2.out, HNE1.out⟩, rfl⟩; (case caj18 => omega); (case cbj18 => first | rfl | go_num))
                 focus (first | (simp [intOf]; done) | (simp [intOf]; omega)))
            · have hki : ¬ (j : Int) < (near.length : Int) := by omega
              obtain rfl : j = near.length := by omega
              have hG := HG.out; rw [List.drop_eq_nil_of_le (Nat.le_refl _)] at hG; obtain ⟨x, hx, hz, hg2⟩ := add_step (r := wire_Num.f (ps.length : Int)) (rs := ps.map (fun p => wire_Join.f k p)) hG; have HG2 := Lib.hid hg2; have HNE1 := Lib.hid (add_num hx bs e); clear HG hG hg2 HNE; have m4 : wr.cell? ⟨bx, 4, none⟩ = some (.slice A4 ps.length c4) := (cell_of_row _ _ _ _ _ _ HM.out.hx).trans rfl; have hcall := wire_Num.calls (ps.length : Int) x.1 x.2 wr hx
              go_wp2_with fail
              refine hcall.mono ?_; rintro y wa ⟨rfl, hb⟩; replace HM := Lib.hid (HM.out.under hb); clear hb hcall; obtain ⟨p', v', hw⟩ := HM.out.hw; have hcall := wrtAdd_any b p' v' e bs x.1 x.2 wa hw hz; clear hw
              go_wp2_with fail
              refine hcall.mono ?_; rintro y wb ⟨rfl, hw, hb, hk⟩; replace HM := Lib.hid (HM.out.wrote hw hb); clear hcall hw hb hk m4 hx hz; have m4 : wb.cell? ⟨bx, 4, none⟩ = some (.slice A4 ps.length c4) := (cell_of_row _ _ _ _ _ _ HM.out.hx).trans rfl
              obtain ⟨bs1, hbs1⟩ : ∃ z, z = (addW bs e x).1 := ⟨_, rfl⟩
              obtain ⟨e1, he1⟩ : ∃ z, z = (addW bs e x).2 := ⟨_, rfl⟩
              have hG := HG2.out; have hM := HM.out; have hN := HNE1.out; rw [← hbs1, ← he1] at hG hM hN; clear HG2 HM HNE1 hbs1 he1; have HM := Lib.hid hM; have HNE := Lib.hid hN; have HG := Lib.hid hG; clear hM hN hG; go_wp2; clear m4
              go_loopw [70] (fun i wr => ∃ (j : Nat) (bs : List UInt8) (e : Int), j ≤ ps.length ∧ i = .int .i64 (j : Int) ∧ PM w wr bx b #[.int .i64 n, .int .i64 a, .bool true, .slice A3 near.length c3, .slice A4 ps.length c4] bs e ∧ addAll ((ps.drop j).map (fun p => wire_Join.f k p)) bs e = some g ∧ (bs = [] → e ≠ 0)) (fun i _ => ps.length - (intOf i).toNat)
              case atStart => exact ⟨0, bs1, e1, Nat.zero_le _, rfl, HM.out, HG.out, HNE.out⟩
              case round =>
                clear HM HG HNE; obtain ⟨j, bs, e, hj, rfl, hM, hG, hne⟩ := hrel; have HM := Lib.hid hM; have HG := Lib.hid hG; have HNE := Lib.hid hne; clear hM hG hne
                by_cases hlt : j < ps.length
                · have hki : (j : Int) < (ps.length : Int) := by omega
                  have hk0 : (0 : Int) ≤ (j : Int) := by omega
                  obtain ⟨ad, A0, c0, e0, x0, hc0, hC0⟩ := at_L10 (Kd.C_below HC4.out HM.out.below) (j : Int) (by omega) (by omega); rw [Int.toNat_natCast] at x0; subst e0
                  have hrd : rd_L10 ps (j : Int) = ps[j] := by
                    simp [rd_L10, List.getD, hlt]
                  have hG := HG.out; rw [List.drop_eq_getElem_cons hlt] at hG
                  obtain ⟨P, hP⟩ : ∃ P, P = ps[j] := ⟨_, rfl⟩
                  rw [hrd, ← hP] at x0 hc0 hC0; rw [← hP] at hG; clear hP hrd HG; obtain ⟨x, hx, hz, hg2⟩ := add_step (r := wire_Join.f k P) (rs := (ps.drop (j + 1)).map (fun p => wire_Join.f k p)) hG; have HG2 := Lib.hid hg2; clear hG hg2; have hcall := wire_Join.calls k A0 c0 P x.1 x.2 wr hC0 hc0 hx
                  go_wp2_with fail
                  refine hcall.mono ?_; rintro y wa ⟨rfl, hb⟩; replace HM := Lib.hid (HM.out.under hb); clear x0; clear hb hcall; obtain ⟨p', v', hw⟩ := HM.out.hw; have hcall := wrtAdd_any b p' v' e bs x.1 x.2 wa hw hz; clear hw
                  go_wp2_with fail
                  refine hcall.mono ?_; rintro y wb ⟨rfl, hw, hb, hk⟩; replace HM := Lib.hid (HM.out.wrote hw hb); clear hcall hw hb hk; have HNE1 := Lib.hid (add_some (x := x) HNE.out); go_wp2
                  first
                  | exact ⟨⟨j + 1, _, _, by omega, (by first | rfl | go_num), HM.out, HG2.out, HNE1.out⟩, (by first | (simp [intOf]; done) | (simp [intOf]; omega))⟩
                  | (refine ⟨?_, ?_⟩
                     focus (apply Exists.intro; apply Exists.intro; apply Exists.intro; apply Exists.intro; apply Exists.intro; apply Exists.intro; apply Exists.intro; apply Exists.intro; apply Exists.intro; apply Exists.intro; apply Exists.intro; refine ⟨⟨j + 1, _, _, ?caj11, ?cbj11, HM.out, HG2.out, HNE1.out⟩, rfl⟩; (case caj11 => omega); (case cbj11 => first | rfl | go_num))
                     focus (first | (simp [intOf]; done) | (simp [intOf]; omega)))
                · have hki : ¬ (j : Int) < (ps.length : Int) := by omega
                  obtain rfl : j = ps.length := by omega
                  have hG := HG.out; rw [List.drop_eq_nil_of_le (Nat.le_refl _)] at hG; obtain rfl : (bs, e) = g := Option.some.inj hG; clear HG hG; obtain ⟨p', v', hw⟩ := HM.out.hw; have m2 : wr.cell? ⟨b, 2, none⟩ = some (.int .i64 e) := (cell_of_row _ _ _ _ _ _ hw.hb).trans rfl
                  by_cases he : e = 0
                  · have hr := HR.out; simp only [he, if_true] at hr; simp only [Prod.mk.injEq] at hr; obtain ⟨rfl, rfl⟩ := hr; have hcall := wrtRead_any b p' v' e bs wr hw (fun h => HNE.out h he); clear hw HR
                    go_wp2_with fail
                    refine hcall.mono ?_; rintro y wz ⟨rfl, hb⟩
                    have hge : w.heap.size ≤ b := by have := HM.out.ge; have := HM.out.lt; omega
                    have HB := Lib.hid (HM.out.below.trans (hb.mono hge)); clear hcall hb HM; go_wp2
                    go_ret2
                    exact ⟨rfl, HB.out⟩
                  · have hr := HR.out; rw [if_neg he] at hr; simp only [Prod.mk.injEq] at hr; obtain ⟨rfl, rfl⟩ := hr; clear hw HR; go_wp2
                    go_quiet (fail)
                    go_wp2
                    go_ret2
                    exact ⟨rfl, HM.out.below.trans (pbN (Below.refl _ _) nq)⟩
end Go.Proofs.Ytipgldfbjlhpoab.P
