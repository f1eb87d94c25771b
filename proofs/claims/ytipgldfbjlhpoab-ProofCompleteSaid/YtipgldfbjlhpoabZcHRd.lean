/- The statement ProofComplete: the walk. -/
import Derived.Test.YtipgldfbjlhpoabZcPureWireR
import Derived.Test.YtipgldfbjlhpoabZcHLBuilds
import Derived.Test.YtipgldfbjlhpoabZcPR09S
import Derived.Test.YtipgldfbjlhpoabZcHCmp
import Derived.Test.YtipgldfbjlhpoabZcPurePrf6
import Derived.Test.YtipgldfbjlhpoabZcPRMerkle
import Derived.Test.YtipgldfbjlhpoabZcP0
import Derived.Deep.Slices
import Derived.Deep.Fields
import Derived.ChangeArms
namespace Go.Proofs.Ytipgldfbjlhpoab.P
set_option linter.unusedVariables false
set_option linter.unusedSimpArgs false
open Go.RowKit Go.Proofs.YtipgldfbjlhpoabW.PrintWords Go.Proofs.YtipgldfbjlhpoabW.PrintLast Go.Proofs.YtipgldfbjlhpoabW.PrintMore
set_option maxRecDepth 100000
def CompOK (k : Nat) (l : List S86) (key : ByteArray) : Prop :=
 ∃ (n a : Int) (th : Bool) (near : List S86) (ps : List (List ByteArray)) (s : ByteArray) (m c : Int) (tj : Bool) (mear : List S86) (qs : List (List ByteArray)) (v : ByteArray) (ok : Bool) (root : ByteArray),
  proof_Build.f k l key = some (n, a, th, near, ps) ∧ proof_Put.f k n a th near ps = some (s, 0) ∧ proof_Read.f k s = some (m, c, tj, mear, qs, 0) ∧ footbridgeref09_Get.f k l key = some (v, ok) ∧ merkle_Root.f l = some root ∧
  proof_Has.f k root key v m c tj mear qs = some ok ∧ proof_Lacks.f k root key m c tj mear qs = some (!ok)
structure CM (w W : World) (A0 : Option Addr) (l0 : List S86) (b : Nat) (m c : Int) (tj : Bool) (F3 : Option Addr) (e3 : Nat) (mear : List S86) (F4 : Option Addr) (e4 : Nat) (qs : List (List ByteArray)) : Prop where
 hC : Kd.C k86 W A0 l0.length l0
 hP : Proof12.Prf W F3 e3 mear F4 e4 qs
 hb : W.heap[b]? = some (.cells #[.int .i64 m, .int .i64 c, .bool tj, .slice F3 mear.length e3, .slice F4 qs.length e4] 82 (0, 0))
 below : Below w.heap.size w W
theorem CM.under {w W W' : World} {A0 : Option Addr} {l0 : List S86} {b : Nat} {m c : Int} {tj : Bool} {F3 : Option Addr} {e3 : Nat} {mear : List S86} {F4 : Option Addr} {e4 : Nat} {qs : List (List ByteArray)} (h : CM w W A0 l0 b m c tj F3 e3 mear F4 e4 qs) (hb : Below W.heap.size W W') : CM w W' A0 l0 b m c tj F3 e3 mear F4 e4 qs :=
 ⟨Kd.C_below h.hC hb, h.hP.under hb, blk_below h.hb hb, h.below.trans (hb.mono h.below.size)⟩
theorem CM.drew {w W : World} {A0 : Option Addr} {l0 : List S86} {b : Nat} {m c : Int} {tj : Bool} {F3 : Option Addr} {e3 : Nat} {mear : List S86} {F4 : Option Addr} {e4 : Nat} {qs : List (List ByteArray)} (h : CM w W A0 l0 b m c tj F3 e3 mear F4 e4 qs) : CM w W.drew A0 l0 b m c tj F3 e3 mear F4 e4 qs :=
 ⟨Kd.C_drew h.hC, h.hP.drew, h.hb, below_drew h.below⟩
theorem CM.cells {w W : World} {A0 : Option Addr} {l0 : List S86} {b : Nat} {m c : Int} {tj : Bool} {F3 : Option Addr} {e3 : Nat} {mear : List S86} {F4 : Option Addr} {e4 : Nat} {qs : List (List ByteArray)} (h : CM w W A0 l0 b m c tj F3 e3 mear F4 e4 qs) :
  W.cell? ⟨b, 0, none⟩ = some (.int .i64 m) ∧ W.cell? ⟨b, 1, none⟩ = some (.int .i64 c) ∧ W.cell? ⟨b, 2, none⟩ = some (.bool tj) ∧ W.cell? ⟨b, 3, none⟩ = some (.slice F3 mear.length e3) ∧ W.cell? ⟨b, 4, none⟩ = some (.slice F4 qs.length e4) :=
 ⟨(cell_of_row _ _ _ _ _ _ h.hb).trans rfl, (cell_of_row _ _ _ _ _ _ h.hb).trans rfl, (cell_of_row _ _ _ _ _ _ h.hb).trans rfl, (cell_of_row _ _ _ _ _ _ h.hb).trans rfl, (cell_of_row _ _ _ _ _ _ h.hb).trans rfl⟩
set_option maxHeartbeats 4000000 in
theorem footbridgelaw12_ProofComplete.calls (k : Nat) (A0 : Option Addr) (c0 : Nat) (l0 : List S86) (a1 : ByteArray) (b : Bool) (w : World) (hC : Kd.C k86 w A0 l0.length l0) (hc : l0.length ≤ c0) (hF : footbridgelaw12_few.f k l0 20 = some b)
  (hM : b = true → ¬ (a1.size : Int) > 100 → ∃ u, footbridgeref12_Rises.f k l0 = some u ∧ (u = true → CompOK k l0 a1)) :
  Calls Try.prog 13 #[.slice A0 l0.length c0, .string a1] w fun e w' => e = .returned (.bool true) ∧ Below w.heap.size w w' := by
 have haw := fun W => footbridgelaw12_awake.calls true W rfl
 have hfew : Calls Try.prog 50 #[.slice A0 l0.length c0, .int .i64 20] w fun e w' => e = .returned (.bool b) ∧ Below w.heap.size w w' :=
  (footbridgelaw12_few.calls k A0 c0 l0 20 b w hC hc hF).mono (by rintro e w' ⟨rfl, nd, rfl⟩; exact ⟨rfl, pbN (Below.refl _ _) nd⟩)
 have HC := Lib.hid hC
 have HB := Lib.hid (Below.refl w.heap.size w)
 clear hC hF
 cases b with
 | false =>
  clear hM
  go_enter Try.func13, Try.ntmps13
  go_wp2_with fail
  refine hfew.mono ?_
  clear hfew
  rintro e w1 ⟨rfl, hb⟩
  replace HB := Lib.hid hb
  clear hb
  go_wp2_with fail
  refine (haw _).mono ?_
  rintro e w2 ⟨rfl, hb⟩
  replace HB := Lib.hid (HB.out.trans (hb.mono HB.out.size))
  clear hb
  go_wp2
  go_ret
  exact ⟨rfl, HB.out⟩
 | true =>
  by_cases hk : (a1.size : Int) > 100
  · clear hM
    go_enter Try.func13, Try.ntmps13
    go_wp2_with fail
    refine hfew.mono ?_
    clear hfew
    rintro e w1 ⟨rfl, hb⟩
    replace HB := Lib.hid hb
    clear hb
    go_wp2_with fail
    refine (haw _).mono ?_
    rintro e w2 ⟨rfl, hb⟩
    replace HB := Lib.hid (HB.out.trans (hb.mono HB.out.size))
    clear hb
    go_wp2
    go_ret
    exact ⟨rfl, HB.out⟩
  · obtain ⟨u, hU, hM⟩ := hM rfl hk
    have hris : ∀ W, Kd.C k86 W A0 l0.length l0 → Calls Try.prog 39 #[.slice A0 l0.length c0] W fun e w' => e = .returned (.bool u) ∧ Below W.heap.size W w' :=
     fun W hW => (footbridgeref12_Rises.calls k A0 c0 l0 u W hW hc hU).mono (by rintro e w' ⟨rfl, nd, rfl⟩; exact ⟨rfl, pbN (Below.refl _ _) nd⟩)
    clear hU
    go_enter Try.func13, Try.ntmps13
    go_wp2_with fail
    refine hfew.mono ?_
    clear hfew
    rintro e w1 ⟨rfl, hb⟩
    replace HB := Lib.hid hb
    replace HC := Lib.hid (Kd.C_below HC.out hb)
    clear hb
    go_wp2_with fail
    refine (hris _ HC.out).mono ?_
    clear hris
    rintro e w1 ⟨rfl, hb⟩
    replace HB := Lib.hid (HB.out.trans (hb.mono HB.out.size))
    replace HC := Lib.hid (Kd.C_below HC.out hb)
    clear hb
    cases u with
    | false =>
     clear hM
     go_wp2_with fail
     refine (haw _).mono ?_
     rintro e w2 ⟨rfl, hb⟩
     replace HB := Lib.hid (HB.out.trans (hb.mono HB.out.size))
     clear hb
     go_wp2
     go_ret
     exact ⟨rfl, HB.out⟩
    | true =>
     obtain ⟨n, a, th, near, ps, s, m, c, tj, mear, qs, v, ok, root, h1, h2, h3, h4, h5, h6, h7⟩ := hM rfl
     clear hM
     have hbld := fun W hW => proof_Build.calls k A0 c0 l0 a1 n a th near ps W hW hc h1
     have hrd := fun W => proof_Read.calls k s m c tj mear qs 0 W h3
     have hget := fun W hW => footbridgeref09_Get.calls k A0 c0 l0 a1 v ok W hW hc h4
     have hrt := fun W hW => merkle_Root.calls A0 c0 l0 root W hW hc h5
     have H2 := Lib.hid h2
     have H6 := Lib.hid h6
     have H7 := Lib.hid h7
     clear h1 h2 h3 h4 h5 h6 h7
     go_wp2_with fail
     refine (hbld _ HC.out).mono ?_
     clear hbld
     rintro e w2 ⟨A3, c3, A4, c4, rfl, hN, cN, hP, cP, hb⟩
     have hput := proof_Put.calls k n a th A3 c3 near A4 c4 ps s 0 w2 hN cN hP cP H2.out
     replace HB := Lib.hid (HB.out.trans (hb.mono HB.out.size))
     replace HC := Lib.hid (Kd.C_below HC.out hb)
     clear hb hN hP cN cP H2
     go_wp2_with fail
     refine hput.mono ?_
     clear hput
     rintro e w3 ⟨rfl, hb⟩
     replace HB := Lib.hid (HB.out.trans (hb.mono HB.out.size))
     replace HC := Lib.hid (Kd.C_below HC.out hb)
     clear hb
     go_wp2_with fail
     refine (hrd _).mono ?_
     clear hrd
     rintro e w4 ⟨v3, v4, rfl, hR3, hR4, hb⟩
     obtain ⟨F3, e3, rfl⟩ := Kd.R_slice hR3
     obtain ⟨F4, e4, rfl⟩ := Kd.S_slice hR4
     have hba := (Below.refl w4.heap.size w4).alloc (Nat.le_refl _) (.cells #[.int .i64 m, .int .i64 c, .bool tj, .slice F3 mear.length e3, .slice F4 qs.length e4] 82)
     have Z : Proof12.Prf w4 F3 e3 mear F4 e4 qs := ⟨(Kd.R_reads' hR3).2.2, (Kd.R_reads' hR3).2.1, (Kd.R_reads' (Kd.S_R hR4)).2.2, (Kd.R_reads' (Kd.S_R hR4)).2.1⟩
     have H := Lib.hid (show CM w (w4.alloc (.cells #[.int .i64 m, .int .i64 c, .bool tj, .slice F3 mear.length e3, .slice F4 qs.length e4] 82)) A0 l0 w4.heap.size m c tj F3 e3 mear F4 e4 qs from
      ⟨Kd.C_below (Kd.C_below HC.out hb) hba, Z.under hba, heap_alloc_new w4 _, (HB.out.trans (hb.mono HB.out.size)).trans (hba.mono (HB.out.trans (hb.mono HB.out.size)).size)⟩)
     have hget1 := hget _ H.out.hC
     clear hb hR3 hR4 hba Z HC HB hget
     obtain ⟨b7, hb7⟩ : ∃ b7 : Nat, b7 = w4.heap.size := ⟨_, rfl⟩
     go_wp2_with fail
     refine hget1.mono ?_
     clear hget1
     rintro e w5 ⟨rfl, nd, rfl⟩
     replace H := Lib.hid (H.out.under (pbN (Below.refl _ _) nd))
     have hrt1 := hrt _ H.out.hC
     rw [← hb7] at H ⊢
     clear hrt hb7
     go_wp2_with fail
     refine hrt1.mono ?_
     clear hrt1
     rintro e w6 ⟨rfl, hb⟩
     replace H := Lib.hid (H.out.under hb)
     clear hb
     have hhas := fun W (hW : Proof12.Prf W F3 e3 mear F4 e4 qs) => proof_Has.calls k root a1 v m c tj F3 e3 mear F4 e4 qs ok W hW.hN hW.cN hW.hP hW.cP H6.out
     have hlks := fun W (hW : Proof12.Prf W F3 e3 mear F4 e4 qs) => proof_Lacks.calls k root a1 m c tj F3 e3 mear F4 e4 qs (!ok) W hW.hN hW.cN hW.hP hW.cP H7.out
     clear H6 H7
     obtain ⟨x0, x1, x2, x3, x4⟩ := H.out.cells
     cases ok <;>
     · go_wp2_with fail
       refine (hhas _ H.out.hP).mono ?_
       rintro e wn ⟨rfl, hb⟩
       replace H := Lib.hid (H.out.under hb)
       clear x0 x1 x2 x3 x4 hb
       obtain ⟨x0, x1, x2, x3, x4⟩ := H.out.cells
       go_wp2_with fail
       refine (hlks _ H.out.hP).mono ?_
       rintro e wn ⟨rfl, hb⟩
       replace H := Lib.hid (H.out.under hb)
       clear x0 x1 x2 x3 x4 hb
       go_wp2_with fail
       refine (haw _).mono ?_
       rintro e wn ⟨rfl, hb⟩
       replace H := Lib.hid (H.out.under hb)
       clear hb
       go_wp2
       go_ret
       exact ⟨rfl, H.out.below⟩
end Go.Proofs.Ytipgldfbjlhpoab.P
namespace Go.Proofs.Ytipgldfbjlhpoab.Pure
set_option linter.unusedVariables false
set_option linter.unusedSimpArgs false
open Go.RowKit Go.Proofs.Ytipgldfbjlhpoab.P Go.Proofs.Ytipgldfbjlhpoab.Wire Go.Proofs.Ytipgldfbjlhpoab.Sha Go.Proofs.YtipgldfbjlhpoabW.PrintWords Go.Proofs.YtipgldfbjlhpoabW.PrintLast
theorem get_f (l : List Pq) (key : ByteArray) (k : Nat) (hl : l.length ≤ 1000) (hk : l.length < k) : ∃ v, footbridgeref09_Get.f k l key = some (v, isAt l key) ∧ (∀ h : cntL key l < l.length, isAt l key = true → v = (l[cntL key l]'h).f1) := by
 have hc := cntL_le key l
 unfold footbridgeref09_Get.f footbridgeref09_at.f
 rw [show footbridgeref09_at.l0 k l key 0 = _ from get_l0 l key hl (cntL key l) k 0 (by omega) (by omega), Option.bind_some]
 by_cases h : cntL key l < l.length
 · rw [if_pos (by omega), if_pos (by omega), rd_mem _ h]
   by_cases he : (l[cntL key l]'h).f0.toList = key.toList
   · rw [if_pos he]
     have : isAt l key = true := (isAt_iff l key).mpr ⟨h, bytes_eq he⟩
     exact ⟨_, by rw [this], fun _ _ => rfl⟩
   · rw [if_neg he]
     have : isAt l key = false := Bool.eq_false_iff.mpr fun hh => he (by
      obtain ⟨_, e⟩ := (isAt_iff l key).mp hh
      rw [e])
     exact ⟨_, by rw [this], fun _ hh => by rw [this] at hh; cases hh⟩
 · rw [if_neg (by omega)]
   have : isAt l key = false := Bool.eq_false_iff.mpr fun hh => h ((isAt_iff l key).mp hh).1
   exact ⟨_, by rw [this], fun h' => absurd h' h⟩
theorem nearP_get (l : List Pq) (key : ByteArray) (j : Nat) (h : j < (nearP l key).length) : ∃ h' : loP l key + j < l.length, (nearP l key)[j] = l[loP l key + j] := by
 unfold nearP at h
 rw [List.length_drop, List.length_take] at h
 refine ⟨by omega, ?_⟩
 unfold nearP
 rw [List.getElem_drop, List.getElem_take]
theorem nearP_len (l : List Pq) (key : ByteArray) : (nearP l key).length = hiP l key - loP l key := by
 have : hiP l key = min (cntL key l + 1) l.length := rfl
 unfold nearP
 rw [List.length_drop, List.length_take]
 omega
theorem pathsP_len (l : List Pq) (lo n : Nat) : (pathsP l lo n).length = n := by
 unfold pathsP
 rw [List.length_map, List.length_range']
theorem root_nil : rootP [] = sumB (topT 0 ⟨#[]⟩) := by
 unfold rootP
 rw [tree, if_pos (show ([] : List Pq).length = 0 from rfl), show ((([] : List Pq).length : Nat) : Int) = 0 from rfl]
theorem lacks_l0 (l : List Pq) (key : ByteArray) (hl : l.length ≤ 20) (hs : short 200 l) (hno : isAt l key = false) : ∀ (d k j : Nat), j + d = (nearP l key).length → d + 100 ≤ k →
  proof_Lacks.l0 k (rootP l) key (loP l key : Int) (nearP l key) ((nearP l key).length : Int) (j : Int) (l.length : Int) (cntL key l : Int) false (nearP l key) (pathsP l (loP l key) (hiP l key - loP l key)) = some true := by
 have hc := cntL_le key l
 have hh : hiP l key = min (cntL key l + 1) l.length := rfl
 have hlo : loP l key = cntL key l - 1 := rfl
 have hn := nearP_len l key
 have hp := pathsP_len l (loP l key) (hiP l key - loP l key)
 intro d
 induction d with
 | zero =>
  intro k j hj hk
  obtain ⟨k, rfl⟩ : ∃ q, k = q + 1 := ⟨k - 1, by omega⟩
  rw [proof_Lacks.l0, if_neg (by omega)]
  by_cases h : (l.length : Int) > 0
  · rw [if_pos h]
  · have e : l = [] := List.length_eq_zero_iff.mp (by omega)
    subst e
    rw [if_neg h, top_f _ _ (by decide), Option.bind_some, root_nil, beq_self_eq_true]
 | succ d ih =>
  intro k j hj hk
  obtain ⟨k, rfl⟩ : ∃ q, k = q + 1 := ⟨k - 1, by omega⟩
  have hjl : j < (nearP l key).length := by omega
  obtain ⟨hil, e⟩ := nearP_get l key j hjl
  have hw : wrap64 ((loP l key : Int) + (j : Int)) = ((loP l key + j : Nat) : Int) := by rw [w64 (by omega) (by omega)]; omega
  have HW := Lib.hid hw
  clear hw
  have hpj : (pathsP l (loP l key) (hiP l key - loP l key))[j]'(by omega) = pathP 20 l (loP l key + j) := by
   unfold pathsP
   rw [List.getElem_map, List.getElem_range', Nat.one_mul]
  have hlt := pathP_len 20 l (loP l key + j)
  have hz := path_small 20 l (loP l key + j)
  have hsm := hs _ (List.getElem_mem hil)
  have hless : Op.bytesLess (((nearP l key)[j]).f0.toList) key.toList = decide (loP l key + j < cntL key l) := by
   rw [e]
   by_cases hi : loP l key + j < cntL key l
   · rw [decide_eq_true hi]
     exact cnt_less key l _ hil hi
   · rw [decide_eq_false hi]
     exact cnt_at key l _ hil (by omega)
  have hne : ¬ ((nearP l key)[j]).f0.toList = key.toList := by
   intro he
   have h1 : Op.bytesLess (((nearP l key)[j]).f0.toList) key.toList = false := by rw [he, less_irrefl]
   rw [hless, decide_eq_false_iff_not] at h1
   have h2 : loP l key + j = cntL key l := by omega
   have : isAt l key = true := (isAt_iff l key).mpr ⟨by omega, by
    rw [e] at he
    have := bytes_eq he
    simp only [h2] at this
    exact this⟩
   rw [hno] at this
   cases this
  have hd : decide (((loP l key + j : Nat) : Int) < (cntL key l : Int)) = decide (loP l key + j < cntL key l) := by
   rw [decide_eq_decide]
   omega
  rw [proof_Lacks.l0, if_pos (by omega), if_pos (by omega), if_pos (by omega), rd_mem j hjl, rdL j (by omega), hpj, HW.out, hless, hd, if_neg (by simp), if_neg hne, if_pos (by omega),
   leads_f (rootP l) ((nearP l key)[j]) (l.length : Int) ((loP l key + j : Nat) : Int) (pathP 20 l (loP l key + j)) k (by omega) (by omega) (by omega) (by rw [e]; omega) (fun t ht => by have := hz t ht; omega), Option.bind_some,
   led_path l (loP l key + j) _ (by rw [e]; exact List.getElem?_eq_getElem hil) hl, if_pos rfl, wsuc j (by omega)]
  exact ih k (j + 1) (by omega) (by omega)
theorem comp_ok (l : List Pq) (key : ByteArray) (k : Nat) (hk : 1000 ≤ k) (hl : l.length ≤ 20) (hs : short 200 l) (hu : Up keyQ l) : CompOK k l key := by
 have hc := cntL_le key l
 have hh : hiP l key = min (cntL key l + 1) l.length := rfl
 have hlo : loP l key = cntL key l - 1 := rfl
 obtain ⟨v, hv, hvo⟩ := get_f l key k (by omega) (by omega)
 have hpl : ∀ i, (pathP 20 l i).length ≤ 20 := pathP_len 20 l
 have hpz : ∀ i, ∀ t ∈ pathP 20 l i, t.size ≤ 32 := path_small 20 l
 by_cases h : isAt l key = true
 · obtain ⟨hi, he⟩ := (isAt_iff l key).mp h
   have hbv : bldV l key = ((l.length : Int), (cntL key l : Int), true, [], [pathP 20 l (cntL key l)]) := by unfold bldV; rw [if_pos h]
   have q1 : ∀ p ∈ [pathP 20 l (cntL key l)], p.length ≤ 60 := fun p hp => by rw [List.mem_singleton.mp hp]; have := hpl (cntL key l); omega
   have q2 : ∀ p ∈ [pathP 20 l (cntL key l)], ∀ t ∈ p, t.size ≤ 1000 := fun p hp t ht => by rw [List.mem_singleton.mp hp] at ht; have := hpz _ t ht; omega
   have hs0 : short 1000 ([] : List Pq) := fun p hp => by cases hp
   have hput := put_f l.length (cntL key l) true [] [pathP 20 l (cntL key l)] k (by omega) (by omega) (by omega) hs0 (by simp) (by simp) q1 q2 (by simp)
   have hrd := read_f l.length (cntL key l) true [] [pathP 20 l (cntL key l)] k (by omega) (by omega) (by omega) hs0 (by simp) (by simp) q1 q2 (by simp)
   have hp : (⟨key, v⟩ : Pq) = l[cntL key l] := by
    rw [hvo hi h]
    exact (fun (x : Pq) (hx : x.f0 = key) => by rw [← hx] : ∀ x : Pq, x.f0 = key → (⟨key, x.f1⟩ : Pq) = x) _ he
   have hsm := hs _ (List.getElem_mem hi)
   have hk1 : key.size ≤ 200 := by rw [← he]; exact hsm.1
   have hv1 : v.size ≤ 200 := by rw [hvo hi h]; exact hsm.2
   have hled := led_path l (cntL key l) ⟨key, v⟩ (by rw [hp]; exact List.getElem?_eq_getElem hi) hl
   refine ⟨_, _, _, _, _, _, _, _, _, _, _, v, isAt l key, rootP l, by rw [pbuild_up l key k hl hs (by omega) hu, hbv], hput, hrd, hv, root_f l hl hs, ?_, ?_⟩
   · have hpth := hpl (cntL key l)
     unfold proof_Has.f
     rw [if_pos rfl, if_pos (show (([] : List Pq).length : Int) = 0 from rfl), if_pos (show (([pathP 20 l (cntL key l)].length : Nat) : Int) = 1 from rfl), if_pos (show (0 : Int) < (([pathP 20 l (cntL key l)].length : Nat) : Int) from Int.zero_lt_one), show rd_L10 [pathP 20 l (cntL key l)] 0 = pathP 20 l (cntL key l) from rfl, 
      show proof_leads.f k (rootP l) key v (l.length : Int) (cntL key l : Int) (pathP 20 l (cntL key l)) = _ from leads_f (rootP l) ⟨key, v⟩ (l.length : Int) (cntL key l : Int) (pathP 20 l (cntL key l)) k (by omega) (by omega) (by omega) (by dsimp only; omega) (fun t ht => by have := hpz _ t ht; omega), Option.bind_some, hled, h]
   · obtain ⟨k, rfl⟩ : ∃ q, k = q + 1 := ⟨k - 1, by omega⟩
     unfold proof_Lacks.f
     rw [if_pos rfl, proof_Lacks.j0, if_pos rfl, h]
     rfl
 · have hf : isAt l key = false := Bool.eq_false_iff.mpr h
   have hbv : bldV l key = ((l.length : Int), (cntL key l : Int), false, nearP l key, pathsP l (loP l key) (hiP l key - loP l key)) := by unfold bldV; rw [if_neg h]
   have hn := nearP_len l key
   have hp := pathsP_len l (loP l key) (hiP l key - loP l key)
   have q1 : ∀ p ∈ pathsP l (loP l key) (hiP l key - loP l key), p.length ≤ 60 := fun p hp => by
    obtain ⟨i, _, rfl⟩ := List.mem_map.mp (show p ∈ (List.range' _ _).map (pathP 20 l) from hp)
    have := hpl i
    omega
   have q2 : ∀ p ∈ pathsP l (loP l key) (hiP l key - loP l key), ∀ t ∈ p, t.size ≤ 1000 := fun p hp t ht => by
    obtain ⟨i, _, rfl⟩ := List.mem_map.mp (show p ∈ (List.range' _ _).map (pathP 20 l) from hp)
    have := hpz i t ht
    omega
   have hs0 : short 1000 (nearP l key) := fun p hp => by
    have := hs p (List.mem_of_mem_take (List.mem_of_mem_drop hp))
    omega
   have hput := put_f l.length (cntL key l) false (nearP l key) (pathsP l (loP l key) (hiP l key - loP l key)) k (by omega) (by omega) (by omega) hs0 (by omega) (by omega) q1 q2 (by simp)
   have hrd := read_f l.length (cntL key l) false (nearP l key) (pathsP l (loP l key) (hiP l key - loP l key)) k (by omega) (by omega) (by omega) hs0 (by omega) (by omega) q1 q2 (by simp)
   refine ⟨_, _, _, _, _, _, _, _, _, _, _, v, isAt l key, rootP l, by rw [pbuild_up l key k hl hs (by omega) hu, hbv], hput, hrd, hv, root_f l hl hs, ?_, ?_⟩
   · unfold proof_Has.f
     rw [if_neg (by decide), hf]
   · obtain ⟨k, rfl⟩ : ∃ q, k = q + 2 := ⟨k - 2, by omega⟩
     have hm : mx 0 (wrap64 ((cntL key l : Int) - 1)) = ((loP l key : Nat) : Int) := by
      have hw : wrap64 ((cntL key l : Int) - 1) = (cntL key l : Int) - 1 := by unfold wrap64; omega
      rw [hw]
      unfold mx
      omega
     have h0 := lacks_l0 l key hl hs hf (nearP l key).length k 0 (by omega) (by omega)
     have hj1 : ∀ x8 : Int, x8 = (hiP l key : Int) → proof_Lacks.j1 (k + 1) (rootP l) key ((loP l key : Nat) : Int) x8 (l.length : Int) (cntL key l : Int) false (nearP l key) (pathsP l (loP l key) (hiP l key - loP l key)) = some true := by
      rintro x8 rfl
      have hw : wrap64 ((hiP l key : Int) - ((loP l key : Nat) : Int)) = (hiP l key : Int) - ((loP l key : Nat) : Int) := w64 (by omega) (by omega)
      rw [proof_Lacks.j1, hw, if_pos (by clear hw; omega)]
      exact h0
     unfold proof_Lacks.f
     rw [if_neg (by decide), if_neg (by omega), if_neg (by omega), proof_Lacks.j0, if_neg (by rw [hn, hp]; simp), hm, hf]
     by_cases hlt : (cntL key l : Int) < (l.length : Int)
     · rw [if_pos hlt]
       exact hj1 _ (by rw [wsuc _ (by omega)]; omega)
     · rw [if_neg hlt]
       exact hj1 _ (by omega)
theorem ProofComplete (l : List Pq) (key : ByteArray) : ∃ (k : Nat) (b : Bool), footbridgelaw12_few.f k l 20 = some b ∧ (b = true → ¬ (key.size : Int) > 100 → ∃ u, footbridgeref12_Rises.f k l = some u ∧ (u = true → CompOK k l key)) := by
 obtain ⟨k, hk⟩ : ∃ k : Nat, k = 2000 := ⟨_, rfl⟩
 obtain ⟨b, hb, hbs⟩ := few12_f l 20 (by omega) k (by omega)
 refine ⟨k, b, hb, fun h1 _ => ?_⟩
 obtain ⟨h2, h3⟩ := hbs h1
 have hs : short 200 l := fun p hp => by have := h3 p hp; omega
 obtain ⟨u, hu, hup⟩ := rrises l k (by omega) (by omega)
 exact ⟨u, hu, fun h => comp_ok l key k (by omega) h2 hs (hup.mp h)⟩
end Go.Proofs.Ytipgldfbjlhpoab.Pure
namespace Go.Proofs.Ytipgldfbjlhpoab.Rd
set_option linter.unusedVariables false
set_option linter.unusedSimpArgs false
open Go.RowKit Go.Deep Go.Proofs.Ytipgldfbjlhpoab.P Go.Proofs.YtipgldfbjlhpoabW.PrintWords
theorem list_of {α : Type} {p : Nat → α → Prop} (n : Nat) (h : ∀ i, i < n → ∃ v, p i v) : ∃ l : List α, l.length = n ∧ ∀ (i : Nat) (v : α), l[i]? = some v → p i v := by
 induction n with
 | zero => exact ⟨[], rfl, fun i v hv => by simp at hv⟩
 | succ n ih =>
  obtain ⟨l, hl, hp⟩ := ih (fun i hi => h i (by omega))
  obtain ⟨v, hv⟩ := h n (by omega)
  refine ⟨l ++ [v], by simp [hl], fun i u hu => ?_⟩
  rcases Nat.lt_trichotomy i n with hi | hi | hi
  · rw [List.getElem?_append_left (by omega)] at hu
    exact hp i u hu
  · subst hi
    rw [List.getElem?_append_right (by omega), hl, Nat.sub_self] at hu
    obtain rfl : v = u := Option.some.inj hu
    exact hv
  · rw [List.getElem?_eq_none (by simp; omega)] at hu
    cases hu
section
variable {H : Type} {enc : TypeId × Value → H} {W : World} {P : Program} {base : Nat} {sp : Nat → Bool} {held : Bool}
theorem slice {α : Type} (k : Kd α) {t e : TypeId} (ht : P.underlying t = some (.slice e)) (hC : P.cellsOf e = k.sz)
  (hel : ∀ (n : Nat) (cs : List Value) (y : DataW H × List MemPlace), DataW.trod enc P W base sp held n e cs = some y → ∃ v, k.K W v cs)
  {fuel : Nat} {cs : List Value} {x : DataW H × List MemPlace} (h : DataW.trod enc P W base sp held fuel t cs = some x) : ∃ (a : Option Addr) (cap : Nat) (l : List α), cs = [.slice a l.length cap] ∧ Kd.C k W a l.length l ∧ l.length ≤ cap := by
 rcases open_slice ht h with ⟨hcs, _⟩ | ⟨ad, n, c, m, f, D, Pl, hcs, _, hl, hm, hmm, _, hi⟩
 · exact ⟨none, 0, [], hcs, Kd.C_nil _ _, Nat.le_refl _⟩
 · have hnm : n ≤ m := by rw [hmm]; split <;> omega
   obtain ⟨l, hll, hp⟩ := list_of (p := fun i v => ∃ c, c.length = k.sz ∧ k.K W v c ∧ ∀ j u, c[j]? = some u → W.cell? (ad.add (i * k.sz + j)) = some u) n (fun i hin => by
    obtain ⟨cs', hc, ht'⟩ := hi i (by omega)
    obtain ⟨v, hv⟩ := hel _ _ _ ht'
    rw [hC] at hc
    obtain ⟨_, hlen, hat⟩ := World.cells?_some hc
    refine ⟨v, cs', hlen, hv, fun j u hu => ?_⟩
    have hj : j < k.sz := by rw [← hlen]; exact (List.getElem?_eq_some_iff.mp hu).1
    rw [← Go.Deep.add_add, hat j hj, hu])
   refine ⟨some ad, c, l, by rw [hcs, hll], ⟨rfl, by unfold maxLen at hm; omega, fun _ => ⟨ad, rfl, hp⟩⟩, by omega⟩
theorem cell_string {t : TypeId} (ht : P.underlying t = some .string) {n : Nat} {cs : List Value} {y : DataW H × List MemPlace} (h : DataW.trod enc P W base sp held n t cs = some y) : ∃ s : ByteArray, cs = [.string s] := by
 obtain ⟨s, hs, _⟩ := DataW.trod_string ht h
 exact ⟨s, hs⟩
theorem field {t : TypeId} {fs : Array Field} {n : Nat} {cs : List Value} {y : DataW H × List MemPlace} (ht : P.underlying t = some (.struct fs)) (h : DataW.trod enc P W base sp held n t cs = some y) (i : Nat) (f : Field) (hf : fs[i]? = some f)
  (ho : f.offset = i) (hc : P.cellsOf f.type = 1) (hi : i < P.cellsOf t) : ∃ (m : Nat) (v : Value) (z : DataW H × List MemPlace), cs[i]? = some v ∧ DataW.trod enc P W base sp held m f.type [v] = some z := by
 obtain ⟨xs, m, _, _, hl, hx, hp⟩ := DataW.trod_struct ht h
 have h1 := hp i f hf
 rw [ho, hc] at h1
 have hv : cs[i]? = some (cs[i]'(by omega)) := List.getElem?_eq_getElem (by omega)
 have hd : (cs.drop i).take 1 = [cs[i]'(by omega)] := by
  rw [List.drop_eq_getElem_cons (by omega)]
  rfl
 rw [hd] at h1
 have hxi : i < xs.length := by rw [hx]; exact (Array.getElem?_eq_some_iff.mp hf).1
 rw [List.getElem?_eq_getElem hxi] at h1
 exact ⟨m, _, _, hv, h1⟩
theorem list2 {α : Type} {l : List α} {a b : α} (h : l.length = 2) (h0 : l[0]? = some a) (h1 : l[1]? = some b) : l = [a, b] := by
 match l, h with
 | [x, y], _ => simp at h0 h1; rw [h0, h1]
end
section
variable {H : Type} {enc : TypeId × Value → H} {W : World} {base : Nat} {sp : Nat → Bool} {held : Bool}
theorem pair_cells : Try.prog.cellsOf 86 = 2 := by kernel_rfl
theorem string_cells : Try.prog.cellsOf 9 = 1 := by kernel_rfl
theorem pair {n : Nat} {cs : List Value} {y : DataW H × List MemPlace} (h : DataW.trod enc Try.prog W base sp held n 86 cs = some y) : ∃ p : S86, k86.K W p cs := by
 obtain ⟨m0, v0, z0, c0, h0⟩ := field Try.underlying86 h 0 _ rfl rfl string_cells (by rw [pair_cells]; decide)
 obtain ⟨m1, v1, z1, c1, h1⟩ := field Try.underlying86 h 1 _ rfl rfl string_cells (by rw [pair_cells]; decide)
 obtain ⟨s0, e0⟩ := cell_string Try.underlying9 h0
 obtain ⟨s1, e1⟩ := cell_string Try.underlying9 h1
 obtain rfl : v0 = .string s0 := List.head_eq_of_cons_eq e0
 obtain rfl : v1 = .string s1 := List.head_eq_of_cons_eq e1
 obtain ⟨_, _, _, _, hl, _⟩ := DataW.trod_struct Try.underlying86 h
 refine ⟨⟨s0, s1⟩, ?_⟩
 rw [list2 (hl.trans pair_cells) c0 c1]
 exact k86_mk W ⟨s0, s1⟩
theorem pairs {fuel : Nat} {cs : List Value} {x : DataW H × List MemPlace} (h : DataW.trod enc Try.prog W base sp held fuel 39 cs = some x) : ∃ (a : Option Addr) (cap : Nat) (l : List S86), cs = [.slice a l.length cap] ∧ Kd.C k86 W a l.length l ∧ l.length ≤ cap :=
 slice k86 Try.underlying39 pair_cells (fun n cs y h => pair h) h
end
end Go.Proofs.Ytipgldfbjlhpoab.Rd
