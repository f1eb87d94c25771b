/- Messages in memory, and what the calls of layer 37's statements answer at them. -/
import Derived.Test.YtipgldfbjlhpoabPL37
import Derived.Test.YtipgldfbjlhpoabHL37
import Derived.Test.YtipgldfbjlhpoabPR37P
import Derived.Test.YtipgldfbjlhpoabPR37R
import Derived.Test.YtipgldfbjlhpoabPR37S
namespace Go.Proofs.Ytipgldfbjlhpoab.P
set_option linter.unusedVariables false
set_option linter.unusedSimpArgs false
open Go.RowKit Go.Proofs.Ytipgldfbjlhpoab.Sha Go.Proofs.Ytipgldfbjlhpoab.Msg Go.Proofs.YtipgldfbjlhpoabW.PrintWords Go.Proofs.YtipgldfbjlhpoabW.PrintLast Go.Proofs.YtipgldfbjlhpoabW.PrintMore
set_option maxRecDepth 100000
structure MsgAt (W : World) (p : Nat) (k : Int) (f : ByteArray) (A2 : Option Addr) (c2 : Nat) (l2 : List ByteArray) (A3 : Option Addr) (c3 : Nat) (l3 : List ByteArray) (A4 : Option Addr) (c4 : Nat) (l4 : List Int) : Prop where
  hm : W.heap[p]? = some (.cells #[.int .i64 k, .string f, .slice A2 l2.length c2, .slice A3 l3.length c3, .slice A4 l4.length c4] 66 (0, 0))
  h2 : Kd.C Kd.string W A2 l2.length l2
  e2 : l2.length ≤ c2
  h3 : Kd.C Kd.string W A3 l3.length l3
  e3 : l3.length ≤ c3
  h4 : Kd.C (Kd.int .i64) W A4 l4.length l4
  e4 : l4.length ≤ c4
theorem MsgAt.under {W W' : World} {p : Nat} {k : Int} {f : ByteArray} {A2 : Option Addr} {c2 : Nat} {l2 : List ByteArray} {A3 : Option Addr} {c3 : Nat} {l3 : List ByteArray} {A4 : Option Addr} {c4 : Nat} {l4 : List Int} (h : MsgAt W p k f A2 c2 l2 A3 c3 l3 A4 c4 l4) (hb : Below W.heap.size W W') : MsgAt W' p k f A2 c2 l2 A3 c3 l3 A4 c4 l4 :=
  ⟨blk_below h.hm hb, Kd.C_below h.h2 hb, h.e2, Kd.C_below h.h3 hb, h.e3, Kd.C_below h.h4 hb, h.e4⟩
theorem MsgAt.cells {W : World} {p : Nat} {k : Int} {f : ByteArray} {A2 : Option Addr} {c2 : Nat} {l2 : List ByteArray} {A3 : Option Addr} {c3 : Nat} {l3 : List ByteArray} {A4 : Option Addr} {c4 : Nat} {l4 : List Int} (h : MsgAt W p k f A2 c2 l2 A3 c3 l3 A4 c4 l4) : W.cell? ⟨p, 0, none⟩ = some (.int .i64 k) ∧ W.cell? ⟨p, 1, none⟩ = some (.string f) ∧ W.cell? ⟨p, 2, none⟩ = some (.slice A2 l2.length c2) ∧ W.cell? ⟨p, 3, none⟩ = some (.slice A3 l3.length c3) ∧ W.cell? ⟨p, 4, none⟩ = some (.slice A4 l4.length c4) :=
  ⟨(cell_of_row _ _ _ _ _ _ h.hm).trans rfl, (cell_of_row _ _ _ _ _ _ h.hm).trans rfl, (cell_of_row _ _ _ _ _ _ h.hm).trans rfl, (cell_of_row _ _ _ _ _ _ h.hm).trans rfl, (cell_of_row _ _ _ _ _ _ h.hm).trans rfl⟩
theorem MsgAt.few {W : World} {p : Nat} {k : Int} {f : ByteArray} {A2 : Option Addr} {c2 : Nat} {l2 : List ByteArray} {A3 : Option Addr} {c3 : Nat} {l3 : List ByteArray} {A4 : Option Addr} {c4 : Nat} {l4 : List Int} (h : MsgAt W p k f A2 c2 l2 A3 c3 l3 A4 c4 l4) (k0 : Nat) {r : Bool} (hf : footbridgelaw37_Few.f k0 k f l2 l3 l4 = some r) :
    Calls Try.prog 41 #[.agg #[.int .i64 k, .string f, .slice A2 l2.length c2, .slice A3 l3.length c3, .slice A4 l4.length c4]] W fun e w' => e = .returned (.bool r) ∧ Below W.heap.size W w' :=
  footbridgelaw37_Few.calls k0 k f A2 c2 l2 A3 c3 l3 A4 c4 l4 _ W h.h2 h.e2 h.h3 h.e3 h.h4 h.e4 hf
theorem MsgAt.check {W : World} {p : Nat} {k : Int} {f : ByteArray} {A2 : Option Addr} {c2 : Nat} {l2 : List ByteArray} {A3 : Option Addr} {c3 : Nat} {l3 : List ByteArray} {A4 : Option Addr} {c4 : Nat} {l4 : List Int} (h : MsgAt W p k f A2 c2 l2 A3 c3 l3 A4 c4 l4) {r : Int} (hf : msg_Check.f k f l2 l3 l4 = some r) :
    Calls Try.prog 47 #[.agg #[.int .i64 k, .string f, .slice A2 l2.length c2, .slice A3 l3.length c3, .slice A4 l4.length c4]] W fun e w' => e = .returned (.int .i64 r) ∧ Below W.heap.size W w' :=
  msg_Check.calls k f A2 c2 l2 A3 c3 l3 A4 c4 l4 _ W h.h2 h.e2 h.h3 h.e3 h.h4 h.e4 hf
theorem MsgAt.rcheck {W : World} {p : Nat} {k : Int} {f : ByteArray} {A2 : Option Addr} {c2 : Nat} {l2 : List ByteArray} {A3 : Option Addr} {c3 : Nat} {l3 : List ByteArray} {A4 : Option Addr} {c4 : Nat} {l4 : List Int} (h : MsgAt W p k f A2 c2 l2 A3 c3 l3 A4 c4 l4) (k0 : Nat) {r : Int} (hf : footbridgeref37_Check.f k0 k f l2 l3 l4 = some r) :
    Calls Try.prog 48 #[.agg #[.int .i64 k, .string f, .slice A2 l2.length c2, .slice A3 l3.length c3, .slice A4 l4.length c4]] W fun e w' => e = .returned (.int .i64 r) ∧ Below W.heap.size W w' :=
  footbridgeref37_Check.calls k0 k f A2 c2 l2 A3 c3 l3 A4 c4 l4 _ W h.h2 h.e2 h.h3 h.e3 h.h4 h.e4 hf
theorem MsgAt.put {W : World} {p : Nat} {k : Int} {f : ByteArray} {A2 : Option Addr} {c2 : Nat} {l2 : List ByteArray} {A3 : Option Addr} {c3 : Nat} {l3 : List ByteArray} {A4 : Option Addr} {c4 : Nat} {l4 : List Int} (h : MsgAt W p k f A2 c2 l2 A3 c3 l3 A4 c4 l4) {r1 : ByteArray} {r2 : Int} (hf : msg_Put.f k f l2 l3 l4 = some (r1, r2)) :
    Calls Try.prog 43 #[.agg #[.int .i64 k, .string f, .slice A2 l2.length c2, .slice A3 l3.length c3, .slice A4 l4.length c4]] W fun e w' => e = .returned (.tuple #[.string r1, .int .i64 r2]) ∧ Below W.heap.size W w' :=
  msg_Put.calls k f A2 c2 l2 A3 c3 l3 A4 c4 l4 _ _ W h.h2 h.e2 h.h3 h.e3 h.h4 h.e4 hf
theorem MsgAt.rput {W : World} {p : Nat} {k : Int} {f : ByteArray} {A2 : Option Addr} {c2 : Nat} {l2 : List ByteArray} {A3 : Option Addr} {c3 : Nat} {l3 : List ByteArray} {A4 : Option Addr} {c4 : Nat} {l4 : List Int} (h : MsgAt W p k f A2 c2 l2 A3 c3 l3 A4 c4 l4) (k0 : Nat) {r1 : ByteArray} {r2 : Int} (hf : footbridgeref37_Put.f k0 k f l2 l3 l4 = some (r1, r2)) :
    Calls Try.prog 44 #[.agg #[.int .i64 k, .string f, .slice A2 l2.length c2, .slice A3 l3.length c3, .slice A4 l4.length c4]] W fun e w' => e = .returned (.tuple #[.string r1, .int .i64 r2]) ∧ Below W.heap.size W w' :=
  footbridgeref37_Put.calls k0 k f A2 c2 l2 A3 c3 l3 A4 c4 l4 _ _ W h.h2 h.e2 h.h3 h.e3 h.h4 h.e4 hf
theorem MsgAt.same {W : World} {p q : Nat} {k : Int} {f : ByteArray} {A2 : Option Addr} {c2 : Nat} {l2 : List ByteArray} {A3 : Option Addr} {c3 : Nat} {l3 : List ByteArray} {A4 : Option Addr} {c4 : Nat} {l4 : List Int} {kx : Int} {fx : ByteArray} {A2x : Option Addr} {c2x : Nat} {l2x : List ByteArray} {A3x : Option Addr} {c3x : Nat} {l3x : List ByteArray} {A4x : Option Addr} {c4x : Nat} {l4x : List Int} (h : MsgAt W p k f A2 c2 l2 A3 c3 l3 A4 c4 l4) (h' : MsgAt W q kx fx A2x c2x l2x A3x c3x l3x A4x c4x l4x) (k0 : Nat) {r : Bool} (hf : footbridgeref37_Same.f k0 k f l2 l3 l4 kx fx l2x l3x l4x = some r) :
    Calls Try.prog 49 #[.agg #[.int .i64 k, .string f, .slice A2 l2.length c2, .slice A3 l3.length c3, .slice A4 l4.length c4], .agg #[.int .i64 kx, .string fx, .slice A2x l2x.length c2x, .slice A3x l3x.length c3x, .slice A4x l4x.length c4x]] W fun e w' => e = .returned (.bool r) ∧ Below W.heap.size W w' :=
  footbridgeref37_Same.calls k0 k f A2 c2 l2 A3 c3 l3 A4 c4 l4 kx fx A2x c2x l2x A3x c3x l3x A4x c4x l4x r W h.h2 h.e2 h.h3 h.e3 h.h4 h.e4 h'.h2 h'.e2 h'.h3 h'.e3 h'.h4 h'.e4 hf
/-- A message that a reader made, laid into its variable. -/
theorem MsgAt.made {W0 W1 : World} (k : Int) (f : ByteArray) {v2 v3 v4 : Value} {l2 l3 : List ByteArray} {l4 : List Int} {n2 n3 n4 : Nat} {g2 g3 g4 : Nat → Prop} (h2 : Kd.R Kd.string n2 W1 W0.heap.size g2 v2 l2) (h3 : Kd.R Kd.string n3 W1 W0.heap.size g3 v3 l3) (h4 : Kd.R (Kd.int .i64) n4 W1 W0.heap.size g4 v4 l4) :
    ∃ A2 c2 A3 c3 A4 c4, v2 = .slice A2 l2.length c2 ∧ v3 = .slice A3 l3.length c3 ∧ v4 = .slice A4 l4.length c4 ∧ MsgAt (W1.alloc (.cells #[.int .i64 k, .string f, .slice A2 l2.length c2, .slice A3 l3.length c3, .slice A4 l4.length c4] 66)) W1.heap.size k f A2 c2 l2 A3 c3 l3 A4 c4 l4 := by
  obtain ⟨A2, c2, rfl⟩ := Kd.R_slice h2
  obtain ⟨A3, c3, rfl⟩ := Kd.R_slice h3
  obtain ⟨A4, c4, rfl⟩ := Kd.R_slice h4
  exact ⟨A2, c2, A3, c3, A4, c4, rfl, rfl, rfl, heap_alloc_new W1 _, Kd.C_alloc (Kd.R_reads' h2).2.2 _, (Kd.R_reads' h2).2.1, Kd.C_alloc (Kd.R_reads' h3).2.2 _, (Kd.R_reads' h3).2.1, Kd.C_alloc (Kd.R_reads' h4).2.2 _, (Kd.R_reads' h4).2.1⟩
end Go.Proofs.Ytipgldfbjlhpoab.P
