/- proof.Build: the proof of a key: its contract. -/
import Derived.Test.YtipgldfbjlhpoabZeHBin
import Derived.Test.YtipgldfbjlhpoabZePProofB
import Derived.BigQuiet
namespace Go.Proofs.Ytipgldfbjlhpoab.P
set_option linter.unusedVariables false
set_option linter.unusedSimpArgs false
open Go.RowKit Go.Proofs.YtipgldfbjlhpoabW.PrintWords Go.Proofs.YtipgldfbjlhpoabW.PrintLast Go.Proofs.YtipgldfbjlhpoabW.PrintMore
set_option maxRecDepth 100000
attribute [local go_sem] max2_int min2_int max_two min_two
def LeavesOk (l : List S86) (lv : List ByteArray) : Prop := lv.length = l.length ∧ ∀ (i : Nat) (x : S86), l[i]? = some x → ∃ y, lv[i]? = some y ∧ merkle_Leaf.f x.f0 x.f1 = some y
def BuildPost (n a : Int) (th : Bool) (near : List S86) (ps : List (List ByteArray)) (w : World) (e : Ending) (w' : World) : Prop :=
 ∃ (A3 : Option Addr) (c3 : Nat) (A4 : Option Addr) (c4 : Nat), e = .returned (.agg #[.int .i64 n, .int .i64 a, .bool th, .slice A3 near.length c3, .slice A4 ps.length c4]) ∧ Kd.C k86 w' A3 near.length near ∧ near.length ≤ c3 ∧ Kd.C (Kd.slice 9 Kd.string) w' A4 ps.length ps ∧ ps.length ≤ c4 ∧ Below w.heap.size w w'
structure BS (w W : World) (b4 : Nat) (V : Value) (lv : List ByteArray) : Prop where
 h4 : W.heap[b4]? = some (.cells #[.int .i64 0, .int .i64 0, .bool false, .slice none 0 0, .slice none 0 0] 82 (0, 0))
 hL : Kd.R Kd.string 9 W w.heap.size (fun _ => True) V lv
 ge : w.heap.size ≤ b4
 below : Below w.heap.size w W
theorem BS.under {w W W' : World} {b4 : Nat} {V : Value} {lv : List ByteArray} (h : BS w W b4 V lv) (hb : Below W.heap.size W W') : BS w W' b4 V lv :=
 ⟨blk_below h.h4 hb, Kd.R_below h.hL hb, h.ge, h.below.trans (hb.mono h.below.size)⟩
theorem BS.app {w W w1 : World} {b4 : Nat} {V v1 : Value} {lv lv1 : List ByteArray} (h : BS w W b4 V lv) (ho : Kd.R Kd.string 9 w1 w.heap.size (fun _ => True) v1 lv1) (hb : Below w.heap.size w w1) (hg : W.grownBy w1 V.ownBlock) : BS w w1 b4 v1 lv1 :=
 ⟨blk_grown h.h4 hg (Kd.R_ne h.hL h.h4 (by decide)), ho, h.ge, hb⟩
def set5 (W : World) (b : Nat) (v0 v1 v2 v3 v4 : Value) : World := ((((W.setCell ⟨b, 0, none⟩ v0).setCell ⟨b, 1, none⟩ v1).setCell ⟨b, 2, none⟩ v2).setCell ⟨b, 3, none⟩ v3).setCell ⟨b, 4, none⟩ v4
theorem set5_at {W : World} {b : Nat} {u0 u1 u2 u3 u4 : Value} (h : W.heap[b]? = some (.cells #[u0, u1, u2, u3, u4] 82 (0, 0))) (v0 v1 v2 v3 v4 : Value) : (set5 W b v0 v1 v2 v3 v4).heap[b]? = some (.cells #[v0, v1, v2, v3, v4] 82 (0, 0)) :=
 blk_put (cs := #[v0, v1, v2, v3, u4]) (blk_put (cs := #[v0, v1, v2, u3, u4]) (blk_put (cs := #[v0, v1, u2, u3, u4]) (blk_put (cs := #[v0, u1, u2, u3, u4]) (blk_put (cs := #[u0, u1, u2, u3, u4]) h 0 v0 rfl) 1 v1 rfl) 2 v2 rfl) 3 v3 rfl) 4 v4 rfl
theorem set5_below {w W : World} {b : Nat} (h : Below w.heap.size w W) (ge : w.heap.size ≤ b) (v0 v1 v2 v3 v4 : Value) : Below w.heap.size w (set5 W b v0 v1 v2 v3 v4) :=
 ((((h.setCell (p := ⟨b, 0, none⟩) ge v0).setCell (p := ⟨b, 1, none⟩) ge v1).setCell (p := ⟨b, 2, none⟩) ge v2).setCell (p := ⟨b, 3, none⟩) ge v3).setCell (p := ⟨b, 4, none⟩) ge v4
theorem ret5 {Q : Ending → World → Prop} {W : World} {tmps : Array Value} {b : Nat} {v0 v1 v2 v3 v4 : Value} (hp : tmps.getD 4 undef = .pointer (some ⟨b, 0, none⟩)) (hg : W.heap[b]? = some (.cells #[v0, v1, v2, v3, v4] 82 (0, 0))) (hq : Q (.returned (.agg #[v0, v1, v2, v3, v4])) W) :
  bodyPost Try.prog Try.f53 Q Exit.ret { tmps := tmps, defers := [] } W :=
 bodyPost_ret (results_cell_row rfl _ _ b 82 #[v0, v1, v2, v3, v4] (0, 0) _ hp hg Try.underlying82 rfl (by kernel_rfl)) rfl hq
theorem row_set {α : Type} {d : Kd α} {e base b : Nat} {W : World} {v : Value} {p : List α} {cs : Array Value} (h : d.R e W base (fun _ => True) v p) (hb : W.heap[b]? = some (.cells cs 82 (0, 0))) (he : ∀ q, q ∈ e :: d.E → q ≠ 82) (i : Nat) (u : Value) : d.R e (W.setCell ⟨b, i, none⟩ u) base (fun _ => True) v p :=
 Kd.R_mono (Kd.R_far (p := ⟨b, i, none⟩) (Kd.R_types h hb he) (fun k hk => hk.2) u) (fun _ _ => trivial)
theorem row_set5 {α : Type} {d : Kd α} {e base b : Nat} {W : World} {v : Value} {p : List α} {u0 u1 u2 u3 u4 : Value} (h : d.R e W base (fun _ => True) v p) (hb : W.heap[b]? = some (.cells #[u0, u1, u2, u3, u4] 82 (0, 0))) (he : ∀ q, q ∈ e :: d.E → q ≠ 82) (v0 v1 v2 v3 v4 : Value) : d.R e (set5 W b v0 v1 v2 v3 v4) base (fun _ => True) v p := by
 have h1 := blk_put (cs := #[u0, u1, u2, u3, u4]) (cs' := #[v0, u1, u2, u3, u4]) hb 0 v0 rfl; have h2 := blk_put (cs := #[v0, u1, u2, u3, u4]) (cs' := #[v0, v1, u2, u3, u4]) h1 1 v1 rfl; have h3 := blk_put (cs := #[v0, v1, u2, u3, u4]) (cs' := #[v0, v1, v2, u3, u4]) h2 2 v2 rfl; have h4 := blk_put (cs := #[v0, v1, v2, u3, u4]) (cs' := #[v0, v1, v2, v3, u4]) h3 3 v3 rfl; exact row_set (row_set (row_set (row_set (row_set h hb he 0 v0) h1 he 1 v1) h2 he 2 v2) h3 he 3 v3) h4 he 4 v4
theorem blk_set5 {W : World} {b g : Nat} {cs : Array Value} {ty : TypeId} (h : W.heap[g]? = some (.cells cs ty (0, 0))) (hne : g ≠ b) (v0 v1 v2 v3 v4 : Value) : (set5 W b v0 v1 v2 v3 v4).heap[g]? = some (.cells cs ty (0, 0)) :=
 blk_far (blk_far (blk_far (blk_far (blk_far h hne _) hne _) hne _) hne _) hne _
theorem paths1 {W : World} {b : Nat} {A : Option Addr} {c : Nat} {p : List ByteArray} (h : W.heap[b]? = some (.cells #[.slice A p.length c] 63 (0, 0))) (hc : p.length ≤ c) (hC : Kd.C Kd.string W A p.length p) : Kd.C (Kd.slice 9 Kd.string) W (some ⟨b, 0, none⟩) 1 [p] := by
 refine ⟨rfl, by decide, fun _ => ⟨_, rfl, fun j q hj => ?_⟩⟩; have hj1 : j < 1 := (List.getElem?_eq_some_iff.mp hj).1
 obtain rfl : j = 0 := by omega
 obtain rfl : p = q := Option.some.inj hj; refine ⟨[.slice A p.length c], rfl, ⟨A, c, rfl, hc, hC⟩, fun i u hi => ?_⟩
 match i, hi with
 | 0, hi => obtain rfl := Option.some.inj hi; exact (cell_of_row _ _ _ _ _ _ h).trans rfl
 | i + 1, hi => simp at hi
theorem cut_max {P : Program} (t e : TypeId) {i : TypeInfo} (ht : P.underlying t = some (.slice e)) (hi : P.info? e = some i) (size : Nat) (hsz : i.size = size) (A : Option Addr) (n c lo h : Nat) (h1 : lo ≤ h) (h2 : h ≤ n) (hc : n ≤ c) :
  ∀ W : World, (Instr.slice t (.slice A n c) (some (.int .i64 (lo : Int))) (some (.int .i64 (h : Int))) (some (.int .i64 (h : Int)))).run P W = .ok (.slice (if h = lo then A else A.map (·.add (lo * size))) (h - lo) (h - lo)) W := by
 intro W
 have hel : P.elem t = e := by simp [Program.elem, ht]
 have hu : P.underlying t = some (.slice (P.elem t)) := by rw [hel]; exact ht
 rw [run_slice_lhm W t A n c hu .i64 .i64 .i64 (lo : Int) (h : Int) (h : Int) (by omega) (by omega) (by omega) (by omega), hel]; simp [sizeOf, typeInfo, hi, hsz, sliced, Result.andThen]
structure BX (w W : World) (b4 bx : Nat) (V : Value) (lv : List ByteArray) (n t : Int) (An : Option Addr) (m : Nat) (vP : Value) (ps : List (List ByteArray)) : Prop where
 hS : BS w W b4 V lv
 hx : W.heap[bx]? = some (.cells #[.int .i64 n, .int .i64 t, .bool false, .slice An m m, vP] 82 (0, 0))
 hP : Kd.R (Kd.slice 9 Kd.string) 63 W w.heap.size (fun _ => True) vP ps
 ne : b4 ≠ bx
 ge : w.heap.size ≤ bx
theorem BX.under {w W W' : World} {b4 bx : Nat} {V : Value} {lv : List ByteArray} {n t : Int} {An : Option Addr} {m : Nat} {vP : Value} {ps : List (List ByteArray)} (h : BX w W b4 bx V lv n t An m vP ps) (hb : Below W.heap.size W W') : BX w W' b4 bx V lv n t An m vP ps :=
 ⟨h.hS.under hb, blk_below h.hx hb, Kd.R_below h.hP hb, h.ne, h.ge⟩
def buildT : Bool × List (List Nat × List Nat) := (true, [([], []), ([0], [0]), ([], []), ([], []), ([2, 3], [2, 3]), ([4], [4]), ([1, 5, 4], [1, 5]), ([0, 1, 2, 3, 4, 5, 6], []), ([7, 6, 6, 0, 1, 2, 3, 4, 5, 6], [6, 7])])
def buildB : List Nat := [0, 1, 0, 0, 12, 28, 63, 127, 255]
theorem buildTab : rtab .any (opsOf Try.f53 19) = buildT := by kernel_rfl
theorem buildBits : waitsOk buildT.2 buildB = true := by kernel_rfl
theorem BX.drew {w W : World} {b4 bx : Nat} {V : Value} {lv : List ByteArray} {n t : Int} {An : Option Addr} {m : Nat} {vP : Value} {ps : List (List ByteArray)} (h : BX w W b4 bx V lv n t An m vP ps) : BX w W.drew b4 bx V lv n t An m vP ps := h.under ((Below.refl _ _).drew)
theorem BX.put {w W w1 : World} {b4 bx : Nat} {V : Value} {lv : List ByteArray} {n t : Int} {An : Option Addr} {m : Nat} {vP v1 : Value} {ps ps1 : List (List ByteArray)} (h : BX w W b4 bx V lv n t An m vP ps)
  (ho : Kd.R (Kd.slice 9 Kd.string) 63 w1 w.heap.size (fun _ => True) v1 ps1) (hb : Below w.heap.size w w1) (hg : W.grownBy w1 vP.ownBlock) :
  BX w (w1.setCell ⟨bx, 4, none⟩ v1) b4 bx V lv n t An m v1 ps1 := by
 have h4 := blk_grown h.hS.h4 hg (Kd.R_ne h.hP h.hS.h4 (by decide)); have hx := blk_grown h.hx hg (Kd.R_ne h.hP h.hx (by decide)); have hL : Kd.R Kd.string 9 w1 w.heap.size (fun _ => True) V lv := Kd.R_over' h.hS.hL (Kd.R_typed h.hP) (by decide) hg; exact ⟨⟨blk_far h4 h.ne _, row_set hL hx (by decide) 4 _, h.hS.ge, pbS hb h.ge⟩, blk_put (cs := #[.int .i64 n, .int .i64 t, .bool false, .slice An m m, vP]) hx 4 _ rfl, row_set ho hx (by decide) 4 _, h.ne, h.ge⟩
def PathsOk (k : Nat) (lv : List ByteArray) (lo : Nat) (ps : List (List ByteArray)) : Prop := ∀ (j : Nat) (p : List ByteArray), ps[j]? = some p → proof_path.f k lv ((lo + j : Nat) : Int) = some p
set_option maxHeartbeats 2000000 in
theorem build_yes (A0 : Option Addr) (c0 : Nat) (l : List S86) (key : ByteArray) (k t : Nat) (lv : List ByteArray) (th : Bool) (near : List S86) (ps : List (List ByteArray)) (w : World) (hC : Kd.C k86 w A0 l.length l) (hc : l.length ≤ c0) (hr : proof_rises.f k l = some true)
  (hn : l.length ≤ 1000000) (hlv : LeavesOk l lv) (ht : t ≤ l.length) (hs : ∀ i, i < l.length → (cmpK (rd_T86 l (i : Int)).f0 key < 0 ↔ i < t)) (hth : th = (decide (t < l.length) && decide (cmpK (rd_T86 l (t : Int)).f0 key = 0)))
  (h1 : th = true → near = [] ∧ ∃ p, ps = [p] ∧ proof_path.f k lv (t : Int) = some p)
  (h2 : th = false → near = (l.take (min (t + 1) l.length)).drop (t - 1) ∧ ps.length = min (t + 1) l.length - (t - 1) ∧ PathsOk k lv (t - 1) ps) :
  Calls Try.prog 53 #[.slice A0 l.length c0, .string key] w (BuildPost (l.length : Int) (t : Int) th near ps w) := by
 have hcall := fun W hW => proof_rises.calls k A0 c0 l true W hW hc hr
 have hbin := fun W hW => bin_any A0 c0 l key t W hW ht hs
 rw [← hth] at hbin; have HC := Lib.hid hC; have HLV := Lib.hid hlv; have H1 := Lib.hid h1; have H2 := Lib.hid h2; clear hC hr hlv h1 h2 hth hs; have hb0 : Below w.heap.size w (w.alloc (.cells #[.int .i64 0, .int .i64 0, .bool false, .slice none 0 0, .slice none 0 0] 82)) := (Below.refl _ _).alloc (Nat.le_refl _) _; have h4 := heap_alloc_new w (.cells #[.int .i64 0, .int .i64 0, .bool false, .slice none 0 0, .slice none 0 0] 82); have HS0 := Lib.hid (show BS w (w.alloc (.cells #[.int .i64 0, .int .i64 0, .bool false, .slice none 0 0, .slice none 0 0] 82)) w.heap.size (.slice none 0 0) [] from ⟨h4, Kd.R_nil _ _ _ _ _, Nat.le_refl _, hb0⟩); clear hb0 h4
 go_enter Try.func53, Try.ntmps53
 go_wp2_with fail
 refine (hcall _ (Kd.C_below HC.out HS0.out.below)).mono ?_; rintro e w1 ⟨rfl, nd, rfl⟩; clear hcall; replace HS0 := Lib.hid (HS0.out.under (pbN (Below.refl _ _) nd))
 obtain ⟨w1, hw1⟩ : ∃ w1, w1 = (w.alloc (.cells #[.int .i64 0, .int .i64 0, .bool false, .slice none 0 0, .slice none 0 0] 82)).drewN nd := ⟨_, rfl⟩
 rw [← hw1] at HS0 ⊢; clear hw1
 obtain ⟨b4, hb4⟩ : ∃ b, b = w.heap.size := ⟨_, rfl⟩
 rw [← hb4]; have HS := Lib.hid (show BS w w1 b4 (.slice none 0 0) [] by rw [hb4]; exact HS0.out); clear HS0 hb4; go_wp2
 go_loopw [20, 5] (fun i v wr => ∃ (j : Nat) (lj : List ByteArray), j ≤ l.length ∧ i = .int .i64 (j : Int) ∧ BS w wr b4 v lj ∧ lj = lv.take j) (fun i _ _ => l.length - (intOf i).toNat)
 case atStart => exact ⟨0, [], Nat.zero_le _, rfl, HS.out, rfl⟩
 case round =>
  clear HS; obtain ⟨j, lj, hj, rfl, hS, hlj⟩ := hrel; have HJ := Lib.hid hlj; clear hlj; have HS := Lib.hid hS; obtain ⟨Av, cv, rfl⟩ := Kd.R_slice hS.hL; clear hS
  by_cases hlt : j < l.length
  · have hki : (j : Int) < (l.length : Int) := by omega
    have hk0 : (0 : Int) ≤ (j : Int) := by omega
    obtain ⟨ad, e0, x0, x1⟩ := at_T86 (Kd.C_below HC.out HS.out.below) (j : Int) (by omega) (by omega); rw [Int.toNat_natCast] at x0 x1; subst e0
    have hrd : rd_T86 l (j : Int) = l[j] := by
     simp [rd_T86, List.getD, hlt]
    obtain ⟨y, hy, hleaf⟩ := HLV.out.2 j l[j] (List.getElem?_eq_getElem hlt)
    have hjl : j < lv.length := by have := HLV.out.1; omega
    have htk : lv.take (j + 1) = lv.take j ++ [y] := by
     rw [List.take_add_one, hy]; rfl
    have hljn : lj.length < 1000001 := by rw [HJ.out, List.length_take]; omega
    obtain ⟨P, hP⟩ : ∃ P, P = l[j] := ⟨_, rfl⟩
    rw [hrd, ← hP] at x0 x1; rw [← hP] at hleaf; clear hP hrd hy
    have hcall := fun W => merkle_Leaf.calls P.f0 P.f1 y W hleaf
    clear hleaf
    go_wp2_with fail
    refine (hcall _).mono ?_; rintro e wa ⟨rfl, hb⟩; replace HS := Lib.hid ((HS.out.under ((Below.refl _ _).alloc (Nat.le_refl _) _)).under hb); clear hb hcall x0 x1
    go_wp2_with ((with_reducible refine gate_builtin (b := .append) (xs := #[.tmp 24, .tmp 27]) rfl ?_); at_builtin; refine And.right (a := True) ?_)
    refine ⟨trivial, ?_⟩; refine Kd.R_append Kd.string (w0 := w) w.heap.size rfl (.tmp 24) (.tmp 27) 63 9 (.string ⟨#[]⟩) 16 rfl Try.underlying63 info9 rfl (by decide) (by omega) (.slice Av lj.length cv) lj y [.string y] (fun _ => True) (fun _ => False) rfl (by first | (go_simp; done) | (go_simp; rfl)) rfl (fun _ hk => hk.elim) (fun _ _ => trivial) HS.out.hL HS.out.below HS.out.below.size (by omega) ?_; intro v1 w2 ho hb hg hat; have hS := HS.out.app ho hb hg; rw [HJ.out, ← htk] at hS; obtain ⟨A1, c1, rfl⟩ := Kd.R_slice ho; rw [show (lj ++ [y]).length = lj.length + 1 by simp] at hS; clear HS HJ; have HS := Lib.hid hS; clear ho hb hg hat hS htk; go_wp2; exact ⟨⟨j + 1, _, by omega, by go_num, HS.out, rfl⟩, by simp [intOf]; omega⟩
  · have hki : ¬ (j : Int) < (l.length : Int) := by omega
    obtain rfl : j = l.length := by omega
    have hljv : lj = lv := by rw [HJ.out, List.take_of_length_le (by have := HLV.out.1; omega)]
    subst hljv; have HLN := Lib.hid HLV.out.1; clear HLV HJ; have hcall := hbin wr (Kd.C_below HC.out HS.out.below); clear hbin
    go_wp2_with fail
    refine hcall.mono ?_; rintro e w3 ⟨rfl, hb⟩; clear hcall; replace HS := Lib.hid (HS.out.under hb); clear hb; have hx := heap_alloc_new w3 (.cells #[.int .i64 (l.length : Int), .int .i64 (t : Int), .bool th, .slice none 0 0, .slice none 0 0] 82); have hlt4 := blk_lt HS.out.h4; have hbx : Below w3.heap.size w3 (w3.alloc (.cells #[.int .i64 (l.length : Int), .int .i64 (t : Int), .bool th, .slice none 0 0, .slice none 0 0] 82)) := (Below.refl _ _).alloc (Nat.le_refl _) _; have hge := HS.out.below.size
    cases th with
    | true =>
     obtain ⟨rfl, p, rfl, hp⟩ := H1.out rfl; clear H1 H2
     have hpath := fun W hW => proof_path.calls k Av cv lj (t : Int) p W hW (Kd.R_reads' HS.out.hL).2.1 hp
     have HP := Lib.hid hp; clear hp; have HX := Lib.hid (HS.out.under hbx)
     have hne : b4 ≠ w3.heap.size := by omega
     obtain ⟨bx, hbb⟩ : ∃ b, b = w3.heap.size := ⟨_, rfl⟩
     have hge2 : w.heap.size ≤ bx := by omega
     have HG4 := Lib.hid HS.out.ge
     go_upto_region 12 with fail
     obtain ⟨wx, hwx⟩ : ∃ wx, wx = w3.alloc (.cells #[.int .i64 (l.length : Int), .int .i64 (t : Int), .bool true, .slice none 0 0, .slice none 0 0] 82) := ⟨_, rfl⟩
     rw [← hwx] at hx HX ⊢; rw [← hbb] at hx hne ⊢; clear hwx hbb hbx hlt4 hge HS; have HXX := Lib.hid hx; clear hx
     go_cut [] (fun w5 => w5.heap[bx]? = some (.cells #[.int .i64 (l.length : Int), .int .i64 (t : Int), .bool true, .slice none 0 0, .slice (some ⟨w5.heap.size - 1, 0, none⟩) 1 1] 82 (0, 0)) ∧ w5.heap[b4]? = some (.cells #[.int .i64 0, .int .i64 0, .bool false, .slice none 0 0, .slice none 0 0] 82 (0, 0)) ∧ (∃ Ap cp, w5.heap[w5.heap.size - 1]? = some (.cells #[.slice Ap p.length cp] 63 (0, 0)) ∧ Kd.R Kd.string 9 w5 w.heap.size (fun _ => True) (.slice Ap p.length cp) p) ∧ Below w.heap.size w w5)
     case first =>
      go_wp2_with fail
      refine (hpath _ (Kd.R_reads' HX.out.hL).2.2).mono ?_; rintro e w4 ⟨v4, rfl, hR, hb⟩; clear hpath; have HL3 := Lib.hid HX.out.below.size; replace HX := Lib.hid (HX.out.under hb); replace HXX := Lib.hid (blk_below HXX.out hb); obtain ⟨Ap, cp, rfl⟩ := Kd.R_slice hR; have HR := Lib.hid hR; clear hR hb; have f4 : w4.frozen? ⟨bx, 4, none⟩ = false := frozen_of_row _ _ _ _ _ HXX.out; have y4 : w4.cell? ⟨bx, 4, none⟩ = some (.slice none 0 0) := (cell_of_row _ _ _ _ _ _ HXX.out).trans rfl; have hbl : bx < w4.heap.size := blk_lt HXX.out
      go_wp2_with fail
      go_meet
      have hz : ((w4.setCell ⟨bx, 4, none⟩ (.slice (some ⟨w4.heap.size, 0, none⟩) 1 1)).alloc (.cells #[.slice Ap p.length cp] 63)).heap.size - 1 = w4.heap.size := by simp
      have hzs : (w4.setCell ⟨bx, 4, none⟩ (.slice (some ⟨w4.heap.size, 0, none⟩) 1 1)).heap.size = w4.heap.size := by simp
      have hn4 := heap_alloc_new (w4.setCell ⟨bx, 4, none⟩ (.slice (some ⟨w4.heap.size, 0, none⟩) 1 1)) (.cells #[.slice Ap p.length cp] 63); rw [hzs] at hn4; have hle := HL3.out; have hR5 := Kd.R_far (p := ⟨bx, 4, none⟩) (Kd.R_types HR.out HXX.out (by decide)) (fun k hk => hk.2) (.slice (some ⟨w4.heap.size, 0, none⟩) 1 1); rw [hz]; refine ⟨pkA (blk_put (cs := #[.int .i64 (l.length : Int), .int .i64 (t : Int), .bool true, .slice none 0 0, .slice none 0 0]) HXX.out 4 _ rfl) _, pkA (blk_far HX.out.h4 hne _) _, ⟨Ap, cp, hn4, Kd.R_alloc (Kd.R_mono (Kd.R_lower hR5 hle) (fun _ _ => trivial)) _⟩, (pbS HX.out.below hge2).alloc (by rw [hzs]; exact HX.out.below.size) _⟩
     case rest =>
      obtain ⟨hx, h4, hP, hB⟩ := hcut; have z0 : wc.cell? ⟨bx, 0, none⟩ = some (.int .i64 (l.length : Int)) := (cell_of_row _ _ _ _ _ _ hx).trans rfl; have z1 : wc.cell? ⟨bx, 1, none⟩ = some (.int .i64 (t : Int)) := (cell_of_row _ _ _ _ _ _ hx).trans rfl; have z2 : wc.cell? ⟨bx, 2, none⟩ = some (.bool true) := (cell_of_row _ _ _ _ _ _ hx).trans rfl; have z3 : wc.cell? ⟨bx, 3, none⟩ = some (.slice none 0 0) := (cell_of_row _ _ _ _ _ _ hx).trans rfl; have z4 : wc.cell? ⟨bx, 4, none⟩ = some (.slice (some ⟨wc.heap.size - 1, 0, none⟩) 1 1) := (cell_of_row _ _ _ _ _ _ hx).trans rfl; have f0 : wc.frozen? ⟨b4, 0, none⟩ = false := frozen_of_row _ _ _ _ _ h4; have f1 : wc.frozen? ⟨b4, 1, none⟩ = false := frozen_of_row _ _ _ _ _ h4; have f2 : wc.frozen? ⟨b4, 2, none⟩ = false := frozen_of_row _ _ _ _ _ h4; have f3 : wc.frozen? ⟨b4, 3, none⟩ = false := frozen_of_row _ _ _ _ _ h4; have f4 : wc.frozen? ⟨b4, 4, none⟩ = false := frozen_of_row _ _ _ _ _ h4; have u0 : wc.cell? ⟨b4, 0, none⟩ = some (.int .i64 0) := (cell_of_row _ _ _ _ _ _ h4).trans rfl; have u1 : wc.cell? ⟨b4, 1, none⟩ = some (.int .i64 0) := (cell_of_row _ _ _ _ _ _ h4).trans rfl; have u2 : wc.cell? ⟨b4, 2, none⟩ = some (.bool false) := (cell_of_row _ _ _ _ _ _ h4).trans rfl; have u3 : wc.cell? ⟨b4, 3, none⟩ = some (.slice none 0 0) := (cell_of_row _ _ _ _ _ _ h4).trans rfl; have u4 : wc.cell? ⟨b4, 4, none⟩ = some (.slice none 0 0) := (cell_of_row _ _ _ _ _ _ h4).trans rfl; have HP5 := Lib.hid hP; have H44 := Lib.hid h4; have HB5 := Lib.hid hB; clear hx h4 hP hB; go_wp2; obtain ⟨Ap, cp, hrow, hR⟩ := HP5.out
      have hne2 : wc.heap.size - 1 ≠ b4 := fun e => by
       rw [e, H44.out] at hrow; simp at hrow
      have hR2 := row_set5 hR H44.out (by decide) (.int .i64 (l.length : Int)) (.int .i64 (t : Int)) (.bool true) (.slice none 0 0) (.slice (some ⟨wc.heap.size - 1, 0, none⟩) 1 1); refine ret5 (b := b4) rfl (set5_at H44.out (.int .i64 (l.length : Int)) (.int .i64 (t : Int)) (.bool true) (.slice none 0 0) (.slice (some ⟨wc.heap.size - 1, 0, none⟩) 1 1)) ?_; exact ⟨none, 0, some ⟨wc.heap.size - 1, 0, none⟩, 1, rfl, Kd.C_nil _ _, Nat.le_refl _, paths1 (blk_set5 hrow hne2 _ _ _ _ _) (Kd.R_reads' hR2).2.1 (Kd.R_reads' hR2).2.2, Nat.le_refl _, set5_below HB5.out HG4.out _ _ _ _ _⟩
    | false =>
     obtain ⟨hnear, hpl, hpo⟩ := H2.out rfl; clear H1 H2; have HNE := Lib.hid hnear; have HPO := Lib.hid hpo; have HPL := Lib.hid hpl; clear hnear hpo hpl; have HX := Lib.hid (HS.out.under hbx)
     have hne : b4 ≠ w3.heap.size := by omega
     obtain ⟨bx, hbb⟩ : ∃ b, b = w3.heap.size := ⟨_, rfl⟩
     have hge2 : w.heap.size ≤ bx := by omega
     have HG4 := Lib.hid HS.out.ge
     go_upto_region 15 with fail
     obtain ⟨wx, hwx⟩ : ∃ wx, wx = w3.alloc (.cells #[.int .i64 (l.length : Int), .int .i64 (t : Int), .bool false, .slice none 0 0, .slice none 0 0] 82) := ⟨_, rfl⟩
     rw [← hwx] at hx HX ⊢; rw [← hbb] at hx hne ⊢; clear hwx hbb hbx hlt4 hge HS; have HXX := Lib.hid hx; clear hx
     obtain ⟨lo, hlo⟩ : ∃ lo, lo = t - 1 := ⟨_, rfl⟩
     obtain ⟨hi, hhi⟩ : ∃ hi, hi = min (t + 1) l.length := ⟨_, rfl⟩
     have hf : (if 1 < (t : Int) then (t : Int) - 1 else 0) = (lo : Int) := by
      rw [hlo]
      split <;> omega
     have hto : (if (l.length : Int) < (t : Int) + 1 then (l.length : Int) else (t : Int) + 1) = (hi : Int) := by
      rw [hhi]
      split <;> omega
     have hle1 : lo ≤ hi := by omega
     have hle2 : hi ≤ l.length := by omega
     rw [hf, hto]; have hN := HNE.out; have hPL := HPL.out; rw [← hlo, ← hhi] at hN hPL; have hPO := HPO.out; rw [← hlo] at hPO; clear HNE HPL HPO hf hto hlo hhi
     have hnl : near.length = hi - lo := by rw [hN, List.length_drop, List.length_take]; omega
     obtain ⟨i9, hi9, _, hsz9, _⟩ := info_parts info86; have hcut := cut_max (P := Try.prog) 39 86 Try.underlying39 hi9 2 hsz9 A0 l.length c0 lo hi hle1 hle2 hc
     have hCn : Kd.C k86 w (if hi = lo then A0 else A0.map (·.add (lo * 2))) near.length near := by
      rw [hN]; have h1 := Kd.C_take (m := hi) HC.out (by omega); have h2 := Kd.C_drop (m := lo) (c := hi) h1 (by rw [List.length_take]; omega) (by rw [List.length_take]; omega); exact h2
     obtain ⟨An, hAn⟩ : ∃ An, An = (if hi = lo then A0 else A0.map (·.add (lo * 2))) := ⟨_, rfl⟩
     rw [← hAn, ← hnl] at hcut; rw [← hAn] at hCn; clear hAn hi9 hsz9 hN; have HCN := Lib.hid hCn; have HPO := Lib.hid hPO; have HPL := Lib.hid (show hi = lo + ps.length by omega); clear hCn hPO hPL hnl; have f3 : wx.frozen? ⟨bx, 3, none⟩ = false := frozen_of_row _ _ _ _ _ HXX.out; have y3 : wx.cell? ⟨bx, 3, none⟩ = some (.slice none 0 0) := (cell_of_row _ _ _ _ _ _ HXX.out).trans rfl
     go_cut [] (fun w5 => BX w w5 b4 bx (.slice Av lj.length cv) lj (l.length : Int) (t : Int) An near.length (.slice none 0 0) [])
     case first =>
      go_wp2_with fail
      go_meet; exact ⟨⟨blk_far HX.out.h4 hne _, row_set HX.out.hL HXX.out (by decide) 3 _, HX.out.ge, pbS HX.out.below hge2⟩, blk_put (cs := #[.int .i64 (l.length : Int), .int .i64 (t : Int), .bool false, .slice none 0 0, .slice none 0 0]) HXX.out 3 _ rfl, Kd.R_nil _ _ _ _ _, hne, hge2⟩
     case rest =>
      have HB := Lib.hid hcut; clear hcut HX HXX f3 y3; go_wp2
      go_loopw [13] (fun i wr => ∃ (j : Nat) (vP : Value) (pj : List (List ByteArray)), lo ≤ j ∧ j ≤ hi ∧ i = .int .i64 (j : Int) ∧ BX w wr b4 bx (.slice Av lj.length cv) lj (l.length : Int) (t : Int) An near.length vP pj ∧ pj = ps.take (j - lo)) (fun i _ => hi - (intOf i).toNat)
      case atStart => exact ⟨lo, _, [], Nat.le_refl _, hle1, rfl, HB.out, by rw [Nat.sub_self, List.take_zero]⟩
      case round =>
       clear HB; obtain ⟨j, vP, pj, hj1, hj2, rfl, hB, hpj⟩ := hrel; obtain ⟨AP, cP, rfl⟩ := Kd.R_slice hB.hP; have HB := Lib.hid hB; have HPJ := Lib.hid hpj; clear hB hpj
       by_cases hlt : j < hi
       · have hki : (j : Int) < (hi : Int) := by omega
         have hjp : j - lo < ps.length := by have := HPL.out; omega
         obtain ⟨p, hp⟩ : ∃ p, ps[j - lo]? = some p := ⟨_, List.getElem?_eq_getElem hjp⟩
         have hpath := HPO.out (j - lo) p hp; rw [show lo + (j - lo) = j by omega] at hpath
         have htk : ps.take (j + 1 - lo) = ps.take (j - lo) ++ [p] := by
          rw [show j + 1 - lo = (j - lo) + 1 by omega, List.take_add_one, hp]; rfl
         have hpjn : pj.length < 1000001 := by rw [HPJ.out, List.length_take]; omega
         have hcall := fun W hW => proof_path.calls k Av cv lj (j : Int) p W hW (Kd.R_reads' HB.out.hS.hL).2.1 hpath
         clear hpath hp; have y4 : wr.cell? ⟨bx, 4, none⟩ = some (.slice AP pj.length cP) := (cell_of_row _ _ _ _ _ _ HB.out.hx).trans rfl
         go_upto_region 19 with fail
         replace HB := Lib.hid HB.out.drew; refine start_ (n := 9) (S := fun w' => w'.cell? ⟨bx, 4, none⟩ = some (.slice AP pj.length cP)) (ds := [8]) #[false, false, false, false, false, false, false, false, false] (by kernel_rfl) rfl rfl y4 (fun hHeld => ?_); refine with_tabW buildTab buildBits (fun HT_ HW_ => ?_)
         generalize wr.drew = w4 at HB hHeld ⊢
         refine pure_ (i := 0) (N := some 68) (v := ?_) (a' := ?_) #[true, false, false, false, false, false, false, false, false] rfl rfl (any_of HT_.out (by kernel_rfl)) (fun _ _ _ h => h) (Or.inl ⟨by rfl, ?_⟩) ?_ ?_; rotate_left
         · intro w'; go_simp; (with_reducible rfl)
         rotate_left
         · simp only [Act.put, zA, zB, zC, i64_w, i32_w]; rfl
         refine pure_ (i := 2) (N := some 70) (v := ?_) (a' := ?_) #[true, false, true, false, false, false, false, false, false] rfl rfl (any_of HT_.out (by kernel_rfl)) (fun _ _ _ h => h) (Or.inl ⟨by rfl, ?_⟩) ?_ ?_; rotate_left
         · intro w'; go_simp; (with_reducible rfl)
         rotate_left
         · simp only [Act.put, zA, zB, zC, i64_w, i32_w]; rfl
         refine pure_ (i := 3) (N := some 71) (v := ?_) (a' := ?_) #[true, false, true, true, false, false, false, false, false] rfl rfl (any_of HT_.out (by kernel_rfl)) (fun _ _ _ h => h) (Or.inl ⟨by rfl, ?_⟩) ?_ ?_; rotate_left
         · intro w'; go_simp; (with_reducible rfl)
         rotate_left
         · simp only [Act.put, zA, zB, zC, i64_w, i32_w]; rfl
         refine take_ (i := 1) (N := some 69) (v := ?_) (a' := ?_) #[true, true, true, true, false, false, false, false, false] rfl rfl (take_ofW HT_.out HW_.out (by kernel_rfl)) (fun _ _ _ h => h) (Or.inl ⟨by rfl, ?_⟩) hHeld ?_ ?_; rotate_left
         · rintro w' s0; go_simp; (with_reducible rfl)
         rotate_left
         · simp only [Act.put, zA, zB, zC, i64_w, i32_w]; rfl
         refine one_ (i := 4) (N := some 72) #[true, true, true, true, true, false, false, false, false] rfl rfl (one_of HT_.out (by kernel_rfl)) (by decide) (fun K hK => ?_); refine goes_ Try.func123 (by kernel_rfl) rfl #[.slice Av lj.length cv, .int .i64 (j : Int)] (by rfl) rfl rfl (by (try simp only [List.map_toArray, List.map_cons, List.map_nil]); first | done | rfl) ?_; (with_reducible refine (hcall _ ?side1).mono ?_); (case side1 => exact (Kd.R_reads' HB.out.hS.hL).2.2); rintro e wn ⟨v4, rfl, hR, hb⟩; refine ⟨_, rfl, ?_⟩; have hR2 := Kd.R_lower (Kd.R_new' hR (Kd.R_lt HB.out.hP)) HB.out.hS.below.size; replace HB := Lib.hid (HB.out.under hb); obtain ⟨Ap, cp, rfl⟩ := Kd.R_slice hR2; have HR := Lib.hid hR2; clear hR hR2 hb; refine hK.out _ _ ((cell_of_row _ _ _ _ _ _ HB.out.hx).trans rfl) (fun hHeld => ?_); clear hK K; refine norm_ (a' := ?_) ?_ ?_; rotate_left
         · show Act.put _ (some 72) _ = _
           simp only [Act.put, zA, zB, zC, i64_w, i32_w]; rfl
         refine one_ (i := 5) (N := some 73) #[true, true, true, true, true, true, false, false, false] rfl rfl (one_of HT_.out (by kernel_rfl)) (by decide) (fun K hK => ?_); refine value_ (w1 := ?_) (v := ?_) (by rfl) rfl ?_ ?_; rotate_left 2
         · go_simp; constructor
           · rfl
           · rfl
         refine hK.out _ _ ((cell_of_row _ _ _ _ _ _ (pkA HB.out.hx _)).trans rfl) (fun hHeld => ?_); clear hK K; refine norm_ (a' := ?_) ?_ ?_; rotate_left
         · show Act.put _ (some 73) _ = _
           simp only [Act.put, zA, zB, zC, i64_w, i32_w]; rfl
         refine one_ (i := 6) (N := some 74) #[true, true, true, true, true, true, true, false, false] rfl rfl (one_of HT_.out (by kernel_rfl)) (by decide) (fun K hK => ?_); refine Kd.R_append_step (Kd.slice 9 Kd.string) (w0 := w) w.heap.size (by rfl) (.tmp 69) (.tmp 73) 80 63 (.slice none 0 0) 24 rfl Try.underlying80 info63 rfl (by decide) (by omega) (.slice AP pj.length cP) pj p [.slice Ap p.length cp] (fun _ => True) (fun k => True ∧ some k ≠ (Value.slice AP pj.length cP).ownBlock) rfl rfl ?aP (fun _ hk => hk) (fun _ _ => trivial) ?aO ?aB ?aS ?aL ?_; (case aP => exact ⟨_, rfl, HR.out⟩); (case aO => exact HB.out.hP); (case aB => exact HB.out.hS.below); (case aS => exact HB.out.hS.below.size); (case aL => omega); intro v1 w5 ho hb hg hat; have hput := HB.out.put ho hb hg; obtain ⟨A1, c1, rfl⟩ := Kd.R_slice ho; have hx5 := blk_grown HB.out.hx hg (Kd.R_ne HB.out.hP HB.out.hx (by decide)); refine hK.out _ _ ((cell_of_row _ _ _ _ _ _ hx5).trans rfl) (fun hHeld => ?_); clear hK K; refine norm_ (a' := ?_) ?_ ?_; rotate_left
         · show Act.put _ (some 74) _ = _
           simp only [Act.put, zA, zB, zC, i64_w, i32_w]; rfl
         refine pure_ (i := 7) (N := some 75) (v := ?_) (a' := ?_) #[true, true, true, true, true, true, true, true, false] rfl rfl (any_of HT_.out (by kernel_rfl)) (fun _ _ _ h => h) (Or.inl ⟨by rfl, ?_⟩) ?_ ?_; rotate_left
         · intro w'; go_simp; (with_reducible rfl)
         rotate_left
         · simp only [Act.put, zA, zB, zC, i64_w, i32_w]; rfl
         refine last_ (i := 8) (N := none) #[true, true, true, true, true, true, true, true, true] rfl rfl (one_of HT_.out (by kernel_rfl)) (by decide) (fun K hK => ?_); have hs44 : w5.cell? ⟨bx, 4, none⟩ = some (.slice AP pj.length cP) := (cell_of_row _ _ _ _ _ _ hx5).trans rfl; have hfs44 : w5.frozen? ⟨bx, 4, none⟩ = false := frozen_of_row _ _ _ _ _ hx5; refine skip_ (w1 := ?_) (by rfl) rfl ?_ ?_; rotate_left
         · go_simp; rfl
         refine hK.out _ _ ?_; clear hK K; refine done_ (done_of HT_.out (by kernel_rfl)) ?_; rw [show (pj ++ [p]).length = pj.length + 1 by simp] at hput; have HTK := Lib.hid htk; have HBB := Lib.hid hput; clear hput htk hs44 hfs44 hx5 HT_ HW_ ho hb hg hat HB hHeld HR; go_wp2; exact ⟨⟨j + 1, _, _, by omega, by omega, by go_num, HBB.out, by rw [HPJ.out, HTK.out]⟩, by simp [intOf]; omega⟩
       · have hki : ¬ (j : Int) < (hi : Int) := by omega
         obtain rfl : j = hi := by omega
         have hpp : pj = ps := by rw [HPJ.out, List.take_of_length_le (by have := HPL.out; omega)]
         subst hpp; have hx := HB.out.hx; have h4 := HB.out.hS.h4; have z0 : wr.cell? ⟨bx, 0, none⟩ = some (.int .i64 (l.length : Int)) := (cell_of_row _ _ _ _ _ _ hx).trans rfl; have z1 : wr.cell? ⟨bx, 1, none⟩ = some (.int .i64 (t : Int)) := (cell_of_row _ _ _ _ _ _ hx).trans rfl; have z2 : wr.cell? ⟨bx, 2, none⟩ = some (.bool false) := (cell_of_row _ _ _ _ _ _ hx).trans rfl; have z3 : wr.cell? ⟨bx, 3, none⟩ = some (.slice An near.length near.length) := (cell_of_row _ _ _ _ _ _ hx).trans rfl; have z4 : wr.cell? ⟨bx, 4, none⟩ = some (.slice AP pj.length cP) := (cell_of_row _ _ _ _ _ _ hx).trans rfl; have f0 : wr.frozen? ⟨b4, 0, none⟩ = false := frozen_of_row _ _ _ _ _ h4; have f1 : wr.frozen? ⟨b4, 1, none⟩ = false := frozen_of_row _ _ _ _ _ h4; have f2 : wr.frozen? ⟨b4, 2, none⟩ = false := frozen_of_row _ _ _ _ _ h4; have f3 : wr.frozen? ⟨b4, 3, none⟩ = false := frozen_of_row _ _ _ _ _ h4; have f4 : wr.frozen? ⟨b4, 4, none⟩ = false := frozen_of_row _ _ _ _ _ h4; have u0 : wr.cell? ⟨b4, 0, none⟩ = some (.int .i64 0) := (cell_of_row _ _ _ _ _ _ h4).trans rfl; have u1 : wr.cell? ⟨b4, 1, none⟩ = some (.int .i64 0) := (cell_of_row _ _ _ _ _ _ h4).trans rfl; have u2 : wr.cell? ⟨b4, 2, none⟩ = some (.bool false) := (cell_of_row _ _ _ _ _ _ h4).trans rfl; have u3 : wr.cell? ⟨b4, 3, none⟩ = some (.slice none 0 0) := (cell_of_row _ _ _ _ _ _ h4).trans rfl; have u4 : wr.cell? ⟨b4, 4, none⟩ = some (.slice none 0 0) := (cell_of_row _ _ _ _ _ _ h4).trans rfl; clear hx h4; go_wp2; have hR2 := row_set5 HB.out.hP HB.out.hS.h4 (by decide) (.int .i64 (l.length : Int)) (.int .i64 (t : Int)) (.bool false) (.slice An near.length near.length) (.slice AP pj.length cP); have hB2 := set5_below HB.out.hS.below HB.out.hS.ge (.int .i64 (l.length : Int)) (.int .i64 (t : Int)) (.bool false) (.slice An near.length near.length) (.slice AP pj.length cP); refine ret5 (b := b4) rfl (set5_at HB.out.hS.h4 (.int .i64 (l.length : Int)) (.int .i64 (t : Int)) (.bool false) (.slice An near.length near.length) (.slice AP pj.length cP)) ?_; exact ⟨An, near.length, AP, cP, rfl, Kd.C_below HCN.out hB2, Nat.le_refl _, (Kd.R_reads' hR2).2.2, (Kd.R_reads' hR2).2.1, hB2⟩
end Go.Proofs.Ytipgldfbjlhpoab.P
namespace Go.Proofs.Ytipgldfbjlhpoab.P
set_option linter.unusedVariables false
set_option linter.unusedSimpArgs false
open Go.RowKit Go.Proofs.YtipgldfbjlhpoabW.PrintWords Go.Proofs.YtipgldfbjlhpoabW.PrintLast Go.Proofs.YtipgldfbjlhpoabW.PrintMore
def leavesF : List S86 → Option (List ByteArray)
 | [] => some []
 | x :: l => (merkle_Leaf.f x.f0 x.f1).bind fun y => (leavesF l).bind fun ys => some (y :: ys)
def pathsF (k : Nat) (lv : List ByteArray) : Nat → Nat → Option (List (List ByteArray))
 | _, 0 => some []
 | lo, n + 1 => (proof_path.f k lv (lo : Int)).bind fun p => (pathsF k lv (lo + 1) n).bind fun ps => some (p :: ps)
def cntL (key : ByteArray) : List S86 → Nat
 | [] => 0
 | x :: l => if cmpK x.f0 key < 0 then cntL key l + 1 else 0
theorem cntL_le (key : ByteArray) : ∀ l, cntL key l ≤ l.length := by
 intro l
 induction l with
 | nil => exact Nat.le_refl _
 | cons x l ih => rw [cntL]; split <;> simp <;> omega
def SplitAt (l : List S86) (key : ByteArray) : Prop := ∀ i, i < l.length → (cmpK (rd_T86 l (i : Int)).f0 key < 0 ↔ i < cntL key l)
open Classical in
noncomputable def proof_Build.f (k : Nat) (l : List S86) (key : ByteArray) : Option (Int × Int × Bool × List S86 × List (List ByteArray)) :=
 (proof_rises.f k l).bind fun b => if b = true then (if l.length ≤ 1000000 ∧ SplitAt l key then (leavesF l).bind fun lv =>
  (if (decide (cntL key l < l.length) && decide (cmpK (rd_T86 l (cntL key l : Int)).f0 key = 0)) = true then (proof_path.f k lv (cntL key l : Int)).bind fun p => some ((l.length : Int), (cntL key l : Int), true, [], [p])
  else (pathsF k lv (cntL key l - 1) (min (cntL key l + 1) l.length - (cntL key l - 1))).bind fun ps => some ((l.length : Int), (cntL key l : Int), false, (l.take (min (cntL key l + 1) l.length)).drop (cntL key l - 1), ps))
  else none) else some (0, 0, false, [], [])
end Go.Proofs.Ytipgldfbjlhpoab.P
