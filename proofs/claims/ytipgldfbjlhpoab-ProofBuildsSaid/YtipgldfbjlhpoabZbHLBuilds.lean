/- The statement ProofBuilds: the walk. -/
import Derived.Test.YtipgldfbjlhpoabZbHBuildF
import Derived.Test.YtipgldfbjlhpoabZbHL12
import Derived.Test.YtipgldfbjlhpoabZbPL12
import Derived.Test.YtipgldfbjlhpoabZbPR12B
namespace Go.Proofs.Ytipgldfbjlhpoab.P
set_option linter.unusedVariables false
set_option linter.unusedSimpArgs false
open Go.RowKit Go.Proofs.YtipgldfbjlhpoabW.PrintWords Go.Proofs.YtipgldfbjlhpoabW.PrintLast Go.Proofs.YtipgldfbjlhpoabW.PrintMore
set_option maxRecDepth 100000
theorem readsN {α : Type} {d : Kd α} {e base n c : Nat} {ok : Nat → Prop} {w : World} {A : Option Addr} {xs : List α} (h : Kd.N d e w base ok (.slice A n c) xs) : n = xs.length ∧ n ≤ c ∧ d.C w A xs.length xs := by
 obtain ⟨_, rows, hl, hR, hf⟩ := h
 obtain ⟨hn, hc, hC⟩ := Kd.R_reads' hR
 refine ⟨by omega, hc, ?_⟩
 rw [hl] at hC
 refine ⟨rfl, hC.2.1, fun hp => ?_⟩
 obtain ⟨ad, he, hcell⟩ := hC.2.2 hp
 refine ⟨ad, he, fun j p hj => ?_⟩
 have hjl : j < rows.length := by have := (List.getElem?_eq_some_iff.1 hj).1; omega
 obtain ⟨c', hcl, hK, hcc⟩ := hcell j _ (List.getElem?_eq_getElem hjl)
 have hk := Kd.FK_now (hf j p _ hj (List.getElem?_eq_getElem hjl))
 refine ⟨c', hcl, ?_, hcc⟩
 rw [show c' = rows[j] from hK.1]
 exact hk
noncomputable def footbridgelaw12_ProofBuilds.f (k : Nat) (l : List S86) (key : ByteArray) : Option Bool :=
 (footbridgelaw12_few.f k l 20).bind fun b => if b = true ∧ ¬ (key.size : Int) > 100 then
  (proof_Build.f k l key).bind fun x => (footbridgeref12_Build.f k l key).bind fun y => footbridgeref12_Same.f k x.1 x.2.1 x.2.2.1 x.2.2.2.1 x.2.2.2.2 y.1 y.2.1 y.2.2.1 y.2.2.2.1 y.2.2.2.2
 else some true
set_option maxHeartbeats 4000000 in
theorem footbridgelaw12_ProofBuilds.calls (k : Nat) (A0 : Option Addr) (c0 : Nat) (l0 : List S86) (a1 : ByteArray) (r : Bool) (w : World) (hC : Kd.C k86 w A0 l0.length l0) (hc : l0.length ≤ c0) (h : footbridgelaw12_ProofBuilds.f k l0 a1 = some r) :
  Calls Try.prog 11 #[.slice A0 l0.length c0, .string a1] w fun e w' => e = .returned (.bool r) ∧ Below w.heap.size w w' := by
 unfold footbridgelaw12_ProofBuilds.f at h
 obtain ⟨b, hb, h⟩ := Option.bind_eq_some_iff.mp h
 have haw := fun W => footbridgelaw12_awake.calls true W rfl
 have hfew : Calls Try.prog 50 #[.slice A0 l0.length c0, .int .i64 20] w fun e w' => e = .returned (.bool b) ∧ Below w.heap.size w w' :=
  (footbridgelaw12_few.calls k A0 c0 l0 20 b w hC hc hb).mono (by rintro e w' ⟨rfl, nd, rfl⟩; exact ⟨rfl, pbN (Below.refl _ _) nd⟩)
 have HC := Lib.hid hC
 have HB := Lib.hid (Below.refl w.heap.size w)
 clear hC hb
 cases b with
 | false =>
  rw [if_neg (fun hh => nomatch hh.1)] at h
  obtain rfl := Option.some.inj h
  clear h
  go_enter Try.func11, Try.ntmps11
  go_wp2_with fail
  refine hfew.mono ?_
  clear hfew
  rintro e w1 ⟨rfl, hb⟩
  replace HB := Lib.hid hb
  clear hb
  go_wp2_with fail
  refine (haw _).mono ?_
  rintro e w2 ⟨rfl, hb⟩
  replace HB := Lib.hid (HB.out.trans (hb.mono HB.out.size))
  clear hb
  go_wp2
  go_ret
  exact ⟨rfl, HB.out⟩
 | true =>
  by_cases hk : (a1.size : Int) > 100
  · rw [if_neg (fun hh => hh.2 hk)] at h
    obtain rfl := Option.some.inj h
    clear h
    go_enter Try.func11, Try.ntmps11
    go_wp2_with fail
    refine hfew.mono ?_
    clear hfew
    rintro e w1 ⟨rfl, hb⟩
    replace HB := Lib.hid hb
    clear hb
    go_wp2_with fail
    refine (haw _).mono ?_
    rintro e w2 ⟨rfl, hb⟩
    replace HB := Lib.hid (HB.out.trans (hb.mono HB.out.size))
    clear hb
    go_wp2
    go_ret
    exact ⟨rfl, HB.out⟩
  · rw [if_pos ⟨rfl, hk⟩] at h
    obtain ⟨⟨n, a, th, near, ps⟩, hx, h⟩ := Option.bind_eq_some_iff.mp h
    obtain ⟨⟨m, b, tj, mear, qs⟩, hy, h⟩ := Option.bind_eq_some_iff.mp h
    have hbld := fun W hW => proof_Build.calls k A0 c0 l0 a1 n a th near ps W hW hc hx
    have href := fun W hW => footbridgeref12_Build.calls k A0 c0 l0 a1 m b tj mear qs W hW hc hy
    have HS := Lib.hid (show footbridgeref12_Same.f k n a th near ps m b tj mear qs = some r from h)
    clear h hx hy
    go_enter Try.func11, Try.ntmps11
    go_wp2_with fail
    refine hfew.mono ?_
    clear hfew
    rintro e w1 ⟨rfl, hb⟩
    replace HB := Lib.hid hb
    replace HC := Lib.hid (Kd.C_below HC.out hb)
    clear hb
    go_wp2_with fail
    refine (hbld _ HC.out).mono ?_
    clear hbld
    rintro e w2 ⟨A3, c3, A4, c4, rfl, hN, cN, hP, cP, hb⟩
    have hm3 := Kd.C_max hN
    have XN := Lib.hid hN
    have XP := Lib.hid hP
    have ZN := Lib.hid cN
    have ZP := Lib.hid cP
    replace HB := Lib.hid (HB.out.trans (hb.mono HB.out.size))
    replace HC := Lib.hid (Kd.C_below HC.out hb)
    clear hb hN hP cN cP hm3
    go_wp2_with fail
    refine (href _ HC.out).mono ?_
    clear href
    rintro e w3 ⟨v3, v4, rfl, hR3, hR4, hb⟩
    obtain ⟨F3, e3, rfl⟩ := Kd.R_slice hR3
    obtain ⟨F4, e4, rfl⟩ := Kd.N_slice hR4
    have hsame := footbridgeref12_Same.calls k n a th A3 c3 near A4 c4 ps m b tj F3 e3 mear F4 e4 qs r w3 (Kd.C_below XN.out hb) ZN.out (Kd.C_below XP.out hb) ZP.out (Kd.R_reads' hR3).2.2 (Kd.R_reads' hR3).2.1 (readsN hR4).2.2 (readsN hR4).2.1 HS.out
    replace HB := Lib.hid (HB.out.trans (hb.mono HB.out.size))
    clear hb hR3 hR4 XN XP ZN ZP HC HS
    go_wp2_with fail
    refine hsame.mono ?_
    clear hsame
    rintro e w4 ⟨rfl, hb⟩
    replace HB := Lib.hid (HB.out.trans (hb.mono HB.out.size))
    clear hb
    cases r with
    | false =>
     go_wp2
     go_ret
     exact ⟨rfl, HB.out⟩
    | true =>
     go_wp2_with fail
     refine (haw _).mono ?_
     rintro e w2 ⟨rfl, hb⟩
     replace HB := Lib.hid (HB.out.trans (hb.mono HB.out.size))
     clear hb
     go_wp2
     go_ret
     exact ⟨rfl, HB.out⟩
end Go.Proofs.Ytipgldfbjlhpoab.P
