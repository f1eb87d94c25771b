/- diff.Of: going over both lists by rising keys. -/
import Derived.Test.YtipgldfbjlhpoabHDOf1
import Derived.BigQuiet
import Derived.Deep.RegionHeld3
namespace Go.Proofs.Ytipgldfbjlhpoab.P
set_option linter.unusedVariables false
set_option linter.unusedSimpArgs false
open Go.RowKit Go.Proofs.YtipgldfbjlhpoabW.PrintWords Go.Proofs.YtipgldfbjlhpoabW.PrintLast Go.Proofs.YtipgldfbjlhpoabW.PrintMore
set_option maxRecDepth 100000
def ofM : List S86 → List S86 → List S62
  | [], [] => []
  | x :: a, [] => ⟨x.f0, ⟨#[]⟩, true⟩ :: ofM a []
  | [], y :: b => ⟨y.f0, y.f1, false⟩ :: ofM [] b
  | x :: a, y :: b => if Op.bytesLess x.f0.toList y.f0.toList = true then ⟨x.f0, ⟨#[]⟩, true⟩ :: ofM a (y :: b) else
      if Op.bytesLess y.f0.toList x.f0.toList = true then ⟨y.f0, y.f1, false⟩ :: ofM (x :: a) b else (if x.f1.toList = y.f1.toList then [] else [⟨y.f0, y.f1, false⟩]) ++ ofM a b
termination_by a b => a.length + b.length
def lenOf : Value → Nat
  | .slice _ n _ => n
  | _ => 0
structure EM (w0 W : World) (q m : Nat) (v : Value) (l : List S62) (cs : Array Value) : Prop where
  hO : OutC w0.heap.size W q v l
  hm : W.heap[m]? = some (.cells cs 126 (0, 0))
  hv : some m ≠ v.ownBlock
  ne : m ≠ q
  below : Below w0.heap.size w0 W
theorem EM.under {w0 W W' : World} {q m : Nat} {v : Value} {l : List S62} {cs : Array Value} (h : EM w0 W q m v l cs) (hb : Below W.heap.size W W') : EM w0 W' q m v l cs :=
  ⟨h.hO.under hb, blk_below h.hm hb, h.hv, h.ne, h.below.trans (hb.mono h.below.size)⟩
theorem EM.drew {w0 W : World} {q m : Nat} {v : Value} {l : List S62} {cs : Array Value} (h : EM w0 W q m v l cs) : EM w0 W.drew q m v l cs := h.under ((Below.refl _ _).drew)
theorem EM.grew {w0 W W' : World} {q m : Nat} {v v1 : Value} {l l1 : List S62} {cs : Array Value} (h : EM w0 W q m v l cs) (ho : OutC w0.heap.size W' q v1 l1) (g : Grew w0.heap.size q W W' v v1) : EM w0 W' q m v1 l1 cs :=
  ⟨ho, (g.rest m (blk_lt h.hm) h.ne h.hv).trans h.hm, by
    rcases g.own with e | ⟨b, e, hb⟩
    · rw [e]; exact h.hv
    · rw [e]
      intro he
      have := Option.some.inj he
      have := blk_lt h.hm
      omega, h.ne, h.below.trans g.below⟩
theorem tailP {w0 : World} {A : Option Addr} {c n : Nat} {x : S86} {l : List S86} (hn : n = (x :: l).length) (h : Kd.C k86 w0 A (x :: l).length (x :: l)) (e : (x :: l).length ≤ c) :
    ∃ A1, (∀ W : World, (Instr.slice 39 (.slice A n c) (some (.int .i64 1)) none none).run Try.prog W = .ok (.slice A1 l.length (c - 1)) W) ∧ Kd.C k86 w0 A1 l.length l ∧ l.length ≤ c - 1 := by
  obtain ⟨i0, hi, _, hsz, _⟩ := info_parts info86
  have hl : (x :: l).length = l.length + 1 := rfl
  have h1 := cut_from (P := Try.prog) 39 86 .i64 Try.underlying39 hi 2 hsz A n c 1 (by decide) (by omega)
  have h2 := Kd.C_drop (m := 1) (c := c) h (by omega) e
  refine ⟨_, fun W => ?_, h2, ?_⟩
  · rw [h1 W, hn]
    rfl
  · change l.length ≤ c - 1
    omega
set_option maxHeartbeats 4000000 in
theorem eachP_any (w0 : World) (q : Nat) (A : Option Addr) (c : Nat) (l : List S86) (A' : Option Addr) (c' : Nat) (l' : List S86) (v : Value) (W : World)
    (h1 : Kd.C k86 w0 A l.length l) (e1 : l.length ≤ c) (h2 : Kd.C k86 w0 A' l'.length l') (e2 : l'.length ≤ c') (hO : OutC w0.heap.size W q v []) (hB : Below w0.heap.size w0 W) (hsz : l.length + l'.length < 3518437208883) :
    Calls Try.prog 83 #[.agg #[.slice A l.length c, .slice A' l'.length c', .func (.func 82) #[] #[], .func (.func 82) #[] #[]], .func (.func 84) #[] #[.pointer (some ⟨q, 0, none⟩)], .func (.func 85) #[] #[.pointer (some ⟨q, 0, none⟩)], .func (.func 86) #[] #[.pointer (some ⟨q, 0, none⟩)]] W
      fun e w' => e = .returned (.tuple #[]) ∧ ∃ v1, OutC w0.heap.size w' q v1 (ofM l l') ∧ Below w0.heap.size w0 w' := by
  obtain ⟨cs, hcs⟩ : ∃ cs : Array Value, cs = #[.slice A l.length c, .slice A' l'.length c', .func (.func 82) #[] #[], .func (.func 82) #[] #[]] := ⟨_, rfl⟩
  have hq := blk_lt hO.hq
  have hn : Below W.heap.size W (W.alloc (.cells cs 126)) := (Below.refl _ _).alloc (Nat.le_refl _) _
  have hE : EM w0 (W.alloc (.cells cs 126)) q W.heap.size v [] cs :=
    ⟨hO.under hn, heap_alloc_new W _, by
      obtain ⟨inner, ho⟩ := Kd.R_own hO.hR
      have := own_ne_new ho 0
      simpa using this, by omega, hB.trans (hn.mono hB.size)⟩
  have HE := Lib.hid hE
  clear hE hO hB hn
  subst hcs
  obtain ⟨m0, m1⟩ : (W.alloc (.cells #[.slice A l.length c, .slice A' l'.length c', .func (.func 82) #[] #[], .func (.func 82) #[] #[]] 126)).cell? ⟨W.heap.size, 0, none⟩ = some (.slice A l.length c) ∧ (W.alloc (.cells #[.slice A l.length c, .slice A' l'.length c', .func (.func 82) #[] #[], .func (.func 82) #[] #[]] 126)).cell? ⟨W.heap.size, 1, none⟩ = some (.slice A' l'.length c') :=
    ⟨(cell_of_row _ _ _ _ _ _ HE.out.hm).trans rfl, (cell_of_row _ _ _ _ _ _ HE.out.hm).trans rfl⟩
  go_enter Try.func83, Try.ntmps83
  go_wp2
  go_quiet (fail)
  replace HE := Lib.hid (HE.out.under (pw_below_drewN (Below.refl _ _) nq))
  obtain ⟨m, hm⟩ : ∃ m : Nat, m = W.heap.size := ⟨_, rfl⟩
  rw [← hm] at HE ⊢
  clear m0 m1 hm hq
  go_wp2
  go_loopw [8, 9] (fun a b wr => ∃ (done : List S62) (l1 l2 : List S86) (A1 : Option Addr) (c1 : Nat) (A2 : Option Addr) (c2 : Nat) (v1 : Value), a = .slice A1 l1.length c1 ∧ b = .slice A2 l2.length c2 ∧ Kd.C k86 w0 A1 l1.length l1 ∧ l1.length ≤ c1 ∧ Kd.C k86 w0 A2 l2.length l2 ∧ l2.length ≤ c2 ∧ ofM l l' = done ++ ofM l1 l2 ∧ done.length + l1.length + l2.length < 3518437208883 ∧
    EM w0 wr q m v1 done #[.slice A l.length c, .slice A' l'.length c', .func (.func 82) #[] #[], .func (.func 82) #[] #[]]) (fun a b _ => lenOf a + lenOf b)
  case atStart => exact ⟨[], l, l', A, c, A', c', v, rfl, rfl, h1, e1, h2, e2, rfl, by simpa using hsz, HE.out⟩
  case round =>
    clear HE h1 h2 e1 e2
    obtain ⟨done, l1, l2, A1, c1, A2, c2, v1, rfl, rfl, h1, e1, h2, e2, hof, hsz, hE⟩ := hrel
    have HOF := Lib.hid hof
    have HE := Lib.hid hE
    clear hof hE
    have m2 : wr.cell? ⟨m, 2, none⟩ = some (.func (.func 82) #[] #[]) := (cell_of_row _ _ _ _ _ _ HE.out.hm).trans rfl
    have m3 : wr.cell? ⟨m, 3, none⟩ = some (.func (.func 82) #[] #[]) := (cell_of_row _ _ _ _ _ _ HE.out.hm).trans rfl
    cases l1 with
    | nil =>
      cases l2 with
      | nil =>
        go_wp2
        go_end0
        exact ⟨rfl, _, by rw [HOF.out]; simpa [ofM] using HE.out.hO, HE.out.below⟩
      | cons y b =>
        have hC2 := Kd.C_below h2 HE.out.below
        obtain ⟨ad, rfl, x0, x1⟩ := at_T86 hC2 0 (by decide) (by simp)
        change wr.cell? ad = some (.string y.f0) at x0
        change wr.cell? ⟨ad.block, ad.off + 1, none⟩ = some (.string y.f1) at x1
        obtain ⟨n2, hn2⟩ : ∃ n2, n2 = (y :: b).length := ⟨_, rfl⟩
        have hn2' : n2 = b.length + 1 := by rw [hn2]; rfl
        rw [← hn2]
        have p0 : (0 : Int) < (n2 : Int) := by omega
        have p1 : (1 : Int) ≤ (n2 : Int) := by omega
        obtain ⟨An, hcut, hCn, hen⟩ := tailP hn2 h2 e2
        have e2' : n2 ≤ c2 := by rw [hn2]; exact e2
        have hd : done.length < 3518437208883 := by omega
        have p2 : ((n2 : Int) == 0) = false := by rw [beq_eq_false_iff_ne]; omega
        have p3 : ¬ (n2 : Int) = 0 := by omega
        have p4 : ¬ n2 = 0 := by omega
        have HN2 := Lib.hid hn2'
        clear hn2 hn2'
        go_upto_region 5 with fail
        go_quiet (fail)
        replace HE := Lib.hid (HE.out.under (pw_below_drewN (Below.refl _ _) nq))
        obtain ⟨w5, hw⟩ : ∃ W : World, W = wr.drewN nq := ⟨_, rfl⟩
        rw [← hw] at HE ⊢
        replace m2 : w5.cell? ⟨m, 2, none⟩ = some (.func (.func 82) #[] #[]) := by rw [hw]; exact m2
        replace m3 : w5.cell? ⟨m, 3, none⟩ = some (.func (.func 82) #[] #[]) := by rw [hw]; exact m3
        replace x0 : w5.cell? ad = some (.string y.f0) := by rw [hw]; exact x0
        replace x1 : w5.cell? ⟨ad.block, ad.off + 1, none⟩ = some (.string y.f1) := by rw [hw]; exact x1
        clear hw nq
        go_upto_region 8 with fail
        go_quiet (fail)
        replace HE := Lib.hid (HE.out.under (pw_below_drewN (Below.refl _ _) nq))
        obtain ⟨w8, hw⟩ : ∃ W : World, W = w5.drewN nq := ⟨_, rfl⟩
        rw [← hw] at HE ⊢
        replace m2 : w8.cell? ⟨m, 2, none⟩ = some (.func (.func 82) #[] #[]) := by rw [hw]; exact m2
        replace m3 : w8.cell? ⟨m, 3, none⟩ = some (.func (.func 82) #[] #[]) := by rw [hw]; exact m3
        replace x0 : w8.cell? ad = some (.string y.f0) := by rw [hw]; exact x0
        replace x1 : w8.cell? ⟨ad.block, ad.off + 1, none⟩ = some (.string y.f1) := by rw [hw]; exact x1
        clear hw nq
        have hcall := of2_any w0.heap.size q y.f0 y.f1 v1 done w8 HE.out.hO hd
        go_wp2_with fail
        refine hcall.mono ?_
        rintro e w9 ⟨rfl, vn, hOn, hg⟩
        replace HE := Lib.hid (HE.out.grew hOn hg)
        clear hcall hOn hg m2 m3 x0 x1
        go_wp2
        exact ⟨⟨done ++ [⟨y.f0, y.f1, false⟩], [], b, A1, c1, An, c2 - 1, vn, rfl, rfl, h1, e1, hCn, hen, by rw [HOF.out, ofM]; simp, by simp at hsz ⊢; omega, HE.out⟩, by have := HN2.out; simp [lenOf]; omega⟩
    | cons x a =>
      cases l2 with
      | nil =>
        obtain ⟨ad1, rfl, x0, x1⟩ := at_T86 (Kd.C_below h1 HE.out.below) 0 (by decide) (by simp)
        change wr.cell? ad1 = some (.string x.f0) at x0
        change wr.cell? ⟨ad1.block, ad1.off + 1, none⟩ = some (.string x.f1) at x1
        obtain ⟨n1, hn1⟩ : ∃ n, n = (x :: a).length := ⟨_, rfl⟩
        have hn1' : n1 = a.length + 1 := by rw [hn1]; rfl
        rw [← hn1]
        have xp0 : (0 : Int) < (n1 : Int) := by omega
        have xp1 : (1 : Int) ≤ (n1 : Int) := by omega
        obtain ⟨An1, hcut1, hCn1, hen1⟩ := tailP hn1 h1 e1
        have e1' : n1 ≤ c1 := by rw [hn1]; exact e1
        have xp2 : ((n1 : Int) == 0) = false := by rw [beq_eq_false_iff_ne]; omega
        have xp3 : ¬ (n1 : Int) = 0 := by omega
        have xp4 : ¬ n1 = 0 := by omega
        have xp5 : 0 < n1 := by omega
        have xp6 : decide (0 < n1) = true := decide_eq_true xp5
        have HN1 := Lib.hid hn1'
        clear hn1 hn1'
        have hd : done.length < 3518437208883 := by omega
        go_upto_region 5 with fail
        go_quiet (fail)
        replace HE := Lib.hid (HE.out.under (pw_below_drewN (Below.refl _ _) nq))
        obtain ⟨w5, hw⟩ : ∃ W : World, W = wr.drewN nq := ⟨_, rfl⟩
        rw [← hw] at HE ⊢
        replace m2 : w5.cell? ⟨m, 2, none⟩ = some (.func (.func 82) #[] #[]) := by rw [hw]; exact m2
        replace m3 : w5.cell? ⟨m, 3, none⟩ = some (.func (.func 82) #[] #[]) := by rw [hw]; exact m3
        replace x0 : w5.cell? ad1 = some (.string x.f0) := by rw [hw]; exact x0
        replace x1 : w5.cell? ⟨ad1.block, ad1.off + 1, none⟩ = some (.string x.f1) := by rw [hw]; exact x1
        clear hw nq
        have hcall := of1_any w0.heap.size q x.f0 x.f1 v1 done w5 HE.out.hO hd
        go_wp2_with fail
        refine hcall.mono ?_
        rintro e w9 ⟨rfl, vn, hOn, hg⟩
        replace HE := Lib.hid (HE.out.grew hOn hg)
        clear hcall hOn hg m2 m3 x0 x1
        go_wp2
        exact ⟨⟨done ++ [⟨x.f0, ⟨#[]⟩, true⟩], a, [], An1, c1 - 1, A2, c2, vn, rfl, rfl, hCn1, hen1, h2, e2, by rw [HOF.out, ofM]; simp, by simp at hsz ⊢; omega, HE.out⟩, by have := HN1.out; simp [lenOf]; omega⟩
      | cons y b =>
        obtain ⟨ad1, rfl, x0, x1⟩ := at_T86 (Kd.C_below h1 HE.out.below) 0 (by decide) (by simp)
        change wr.cell? ad1 = some (.string x.f0) at x0
        change wr.cell? ⟨ad1.block, ad1.off + 1, none⟩ = some (.string x.f1) at x1
        obtain ⟨n1, hn1⟩ : ∃ n, n = (x :: a).length := ⟨_, rfl⟩
        have hn1' : n1 = a.length + 1 := by rw [hn1]; rfl
        rw [← hn1]
        have xp0 : (0 : Int) < (n1 : Int) := by omega
        have xp1 : (1 : Int) ≤ (n1 : Int) := by omega
        obtain ⟨An1, hcut1, hCn1, hen1⟩ := tailP hn1 h1 e1
        have e1' : n1 ≤ c1 := by rw [hn1]; exact e1
        have xp2 : ((n1 : Int) == 0) = false := by rw [beq_eq_false_iff_ne]; omega
        have xp3 : ¬ (n1 : Int) = 0 := by omega
        have xp4 : ¬ n1 = 0 := by omega
        have xp5 : 0 < n1 := by omega
        have xp6 : decide (0 < n1) = true := decide_eq_true xp5
        have HN1 := Lib.hid hn1'
        clear hn1 hn1'
        obtain ⟨ad2, rfl, y0, y1⟩ := at_T86 (Kd.C_below h2 HE.out.below) 0 (by decide) (by simp)
        change wr.cell? ad2 = some (.string y.f0) at y0
        change wr.cell? ⟨ad2.block, ad2.off + 1, none⟩ = some (.string y.f1) at y1
        obtain ⟨n2, hn2⟩ : ∃ n, n = (y :: b).length := ⟨_, rfl⟩
        have hn2' : n2 = b.length + 1 := by rw [hn2]; rfl
        rw [← hn2]
        have yp0 : (0 : Int) < (n2 : Int) := by omega
        have yp1 : (1 : Int) ≤ (n2 : Int) := by omega
        obtain ⟨An2, hcut2, hCn2, hen2⟩ := tailP hn2 h2 e2
        have e2' : n2 ≤ c2 := by rw [hn2]; exact e2
        have yp2 : ((n2 : Int) == 0) = false := by rw [beq_eq_false_iff_ne]; omega
        have yp3 : ¬ (n2 : Int) = 0 := by omega
        have yp4 : ¬ n2 = 0 := by omega
        have yp5 : 0 < n2 := by omega
        have yp6 : decide (0 < n2) = true := decide_eq_true yp5
        have HN2 := Lib.hid hn2'
        clear hn2 hn2'
        have hd : done.length < 3518437208883 := by omega
        cases hxy : Op.bytesLess x.f0.toList y.f0.toList with
        | true =>
          go_upto_region 5 with fail
          replace HE := Lib.hid HE.out.drew
          replace m2 := (show wr.drew.cell? _ = _ from m2)
          replace m3 := (show wr.drew.cell? _ = _ from m3)
          replace x0 := (show wr.drew.cell? _ = _ from x0)
          replace x1 := (show wr.drew.cell? _ = _ from x1)
          replace y0 := (show wr.drew.cell? _ = _ from y0)
          replace y1 := (show wr.drew.cell? _ = _ from y1)
          go_region_held3 (fun w' => w'.cell? ⟨m, 2, none⟩ = some (.func (.func 82) #[] #[]) ∧ w'.cell? ⟨m, 3, none⟩ = some (.func (.func 82) #[] #[]) ∧ w'.cell? ad1 = some (.string x.f0) ∧ w'.cell? ⟨ad1.block, ad1.off + 1, none⟩ = some (.string x.f1) ∧ w'.cell? ad2 = some (.string y.f0) ∧ w'.cell? ⟨ad2.block, ad2.off + 1, none⟩ = some (.string y.f1))
            (first | exact ⟨m2, m3, x0, x1, y0, y1⟩ | go_keep)
            (first
            | (go_at_call 82; (with_reducible refine (diff_pairKey.calls x.f0 x.f1 _ _ rfl).mono ?_); rintro e wn ⟨rfl, hb⟩; replace HE := Lib.hid (HE.out.under hb); replace m2 := (hb.cell (World.block_lt_of_cell? _ _ m2)).trans m2; replace m3 := (hb.cell (World.block_lt_of_cell? _ _ m3)).trans m3; replace x0 := (hb.cell (World.block_lt_of_cell? _ _ x0)).trans x0; replace x1 := (hb.cell (World.block_lt_of_cell? _ _ x1)).trans x1; replace y0 := (hb.cell (World.block_lt_of_cell? _ _ y0)).trans y0; replace y1 := (hb.cell (World.block_lt_of_cell? _ _ y1)).trans y1; clear hb)
            | (go_at_call 82; (with_reducible refine (diff_pairKey.calls y.f0 y.f1 _ _ rfl).mono ?_); rintro e wn ⟨rfl, hb⟩; replace HE := Lib.hid (HE.out.under hb); replace m2 := (hb.cell (World.block_lt_of_cell? _ _ m2)).trans m2; replace m3 := (hb.cell (World.block_lt_of_cell? _ _ m3)).trans m3; replace x0 := (hb.cell (World.block_lt_of_cell? _ _ x0)).trans x0; replace x1 := (hb.cell (World.block_lt_of_cell? _ _ x1)).trans x1; replace y0 := (hb.cell (World.block_lt_of_cell? _ _ y0)).trans y0; replace y1 := (hb.cell (World.block_lt_of_cell? _ _ y1)).trans y1; clear hb))
          have hcall := of1_any w0.heap.size q x.f0 x.f1 v1 done _ HE.out.hO hd
          go_wp2_with fail
          refine hcall.mono ?_
          rintro e w9 ⟨rfl, vn, hOn, hg⟩
          replace HE := Lib.hid (HE.out.grew hOn hg)
          clear hcall hOn hg m2 m3 x0 x1 y0 y1
          go_wp2
          exact ⟨⟨done ++ [⟨x.f0, ⟨#[]⟩, true⟩], a, y :: b, An1, c1 - 1, some ad2, c2, vn, rfl, by rw [HN2.out]; rfl, hCn1, hen1, h2, e2, by rw [HOF.out, ofM, if_pos hxy]; simp, by simp at hsz ⊢; omega, HE.out⟩, by have := HN1.out; simp [lenOf]; omega⟩
        | false =>
          go_upto_region 5 with fail
          replace HE := Lib.hid HE.out.drew
          replace m2 := (show wr.drew.cell? _ = _ from m2)
          replace m3 := (show wr.drew.cell? _ = _ from m3)
          replace x0 := (show wr.drew.cell? _ = _ from x0)
          replace x1 := (show wr.drew.cell? _ = _ from x1)
          replace y0 := (show wr.drew.cell? _ = _ from y0)
          replace y1 := (show wr.drew.cell? _ = _ from y1)
          go_region_held3 (fun w' => w'.cell? ⟨m, 2, none⟩ = some (.func (.func 82) #[] #[]) ∧ w'.cell? ⟨m, 3, none⟩ = some (.func (.func 82) #[] #[]) ∧ w'.cell? ad1 = some (.string x.f0) ∧ w'.cell? ⟨ad1.block, ad1.off + 1, none⟩ = some (.string x.f1) ∧ w'.cell? ad2 = some (.string y.f0) ∧ w'.cell? ⟨ad2.block, ad2.off + 1, none⟩ = some (.string y.f1))
            (first | exact ⟨m2, m3, x0, x1, y0, y1⟩ | go_keep)
            (first
            | (go_at_call 82; (with_reducible refine (diff_pairKey.calls x.f0 x.f1 _ _ rfl).mono ?_); rintro e wn ⟨rfl, hb⟩; replace HE := Lib.hid (HE.out.under hb); replace m2 := (hb.cell (World.block_lt_of_cell? _ _ m2)).trans m2; replace m3 := (hb.cell (World.block_lt_of_cell? _ _ m3)).trans m3; replace x0 := (hb.cell (World.block_lt_of_cell? _ _ x0)).trans x0; replace x1 := (hb.cell (World.block_lt_of_cell? _ _ x1)).trans x1; replace y0 := (hb.cell (World.block_lt_of_cell? _ _ y0)).trans y0; replace y1 := (hb.cell (World.block_lt_of_cell? _ _ y1)).trans y1; clear hb)
            | (go_at_call 82; (with_reducible refine (diff_pairKey.calls y.f0 y.f1 _ _ rfl).mono ?_); rintro e wn ⟨rfl, hb⟩; replace HE := Lib.hid (HE.out.under hb); replace m2 := (hb.cell (World.block_lt_of_cell? _ _ m2)).trans m2; replace m3 := (hb.cell (World.block_lt_of_cell? _ _ m3)).trans m3; replace x0 := (hb.cell (World.block_lt_of_cell? _ _ x0)).trans x0; replace x1 := (hb.cell (World.block_lt_of_cell? _ _ x1)).trans x1; replace y0 := (hb.cell (World.block_lt_of_cell? _ _ y0)).trans y0; replace y1 := (hb.cell (World.block_lt_of_cell? _ _ y1)).trans y1; clear hb))
          cases hyx : Op.bytesLess y.f0.toList x.f0.toList with
          | true =>
            go_upto_region 8 with fail
            replace HE := Lib.hid HE.out.drew
            replace m2 := (show wn.drew.cell? _ = _ from m2)
            replace m3 := (show wn.drew.cell? _ = _ from m3)
            replace x0 := (show wn.drew.cell? _ = _ from x0)
            replace x1 := (show wn.drew.cell? _ = _ from x1)
            replace y0 := (show wn.drew.cell? _ = _ from y0)
            replace y1 := (show wn.drew.cell? _ = _ from y1)
            go_region_held3 (fun w' => w'.cell? ⟨m, 2, none⟩ = some (.func (.func 82) #[] #[]) ∧ w'.cell? ⟨m, 3, none⟩ = some (.func (.func 82) #[] #[]) ∧ w'.cell? ad1 = some (.string x.f0) ∧ w'.cell? ⟨ad1.block, ad1.off + 1, none⟩ = some (.string x.f1) ∧ w'.cell? ad2 = some (.string y.f0) ∧ w'.cell? ⟨ad2.block, ad2.off + 1, none⟩ = some (.string y.f1))
              (first | exact ⟨m2, m3, x0, x1, y0, y1⟩ | go_keep)
              (first
              | (go_at_call 82; (with_reducible refine (diff_pairKey.calls y.f0 y.f1 _ _ rfl).mono ?_); rintro e wn ⟨rfl, hb⟩; replace HE := Lib.hid (HE.out.under hb); replace m2 := (hb.cell (World.block_lt_of_cell? _ _ m2)).trans m2; replace m3 := (hb.cell (World.block_lt_of_cell? _ _ m3)).trans m3; replace x0 := (hb.cell (World.block_lt_of_cell? _ _ x0)).trans x0; replace x1 := (hb.cell (World.block_lt_of_cell? _ _ x1)).trans x1; replace y0 := (hb.cell (World.block_lt_of_cell? _ _ y0)).trans y0; replace y1 := (hb.cell (World.block_lt_of_cell? _ _ y1)).trans y1; clear hb)
              | (go_at_call 82; (with_reducible refine (diff_pairKey.calls x.f0 x.f1 _ _ rfl).mono ?_); rintro e wn ⟨rfl, hb⟩; replace HE := Lib.hid (HE.out.under hb); replace m2 := (hb.cell (World.block_lt_of_cell? _ _ m2)).trans m2; replace m3 := (hb.cell (World.block_lt_of_cell? _ _ m3)).trans m3; replace x0 := (hb.cell (World.block_lt_of_cell? _ _ x0)).trans x0; replace x1 := (hb.cell (World.block_lt_of_cell? _ _ x1)).trans x1; replace y0 := (hb.cell (World.block_lt_of_cell? _ _ y0)).trans y0; replace y1 := (hb.cell (World.block_lt_of_cell? _ _ y1)).trans y1; clear hb))
            have hcall := of2_any w0.heap.size q y.f0 y.f1 v1 done _ HE.out.hO hd
            go_wp2_with fail
            refine hcall.mono ?_
            rintro e w9 ⟨rfl, vn, hOn, hg⟩
            replace HE := Lib.hid (HE.out.grew hOn hg)
            clear hcall hOn hg m2 m3 x0 x1 y0 y1
            go_wp2
            exact ⟨⟨done ++ [⟨y.f0, y.f1, false⟩], x :: a, b, some ad1, c1, An2, c2 - 1, vn, by rw [HN1.out]; rfl, rfl, h1, e1, hCn2, hen2, by rw [HOF.out, ofM, if_neg (by rw [hxy]; decide), if_pos hyx]; simp, by simp at hsz ⊢; omega, HE.out⟩, by have := HN2.out; simp [lenOf]; omega⟩
          | false =>
            go_upto_region 8 with fail
            replace HE := Lib.hid HE.out.drew
            replace m2 := (show wn.drew.cell? _ = _ from m2)
            replace m3 := (show wn.drew.cell? _ = _ from m3)
            replace x0 := (show wn.drew.cell? _ = _ from x0)
            replace x1 := (show wn.drew.cell? _ = _ from x1)
            replace y0 := (show wn.drew.cell? _ = _ from y0)
            replace y1 := (show wn.drew.cell? _ = _ from y1)
            go_region_held3 (fun w' => w'.cell? ⟨m, 2, none⟩ = some (.func (.func 82) #[] #[]) ∧ w'.cell? ⟨m, 3, none⟩ = some (.func (.func 82) #[] #[]) ∧ w'.cell? ad1 = some (.string x.f0) ∧ w'.cell? ⟨ad1.block, ad1.off + 1, none⟩ = some (.string x.f1) ∧ w'.cell? ad2 = some (.string y.f0) ∧ w'.cell? ⟨ad2.block, ad2.off + 1, none⟩ = some (.string y.f1))
              (first | exact ⟨m2, m3, x0, x1, y0, y1⟩ | go_keep)
              (first
              | (go_at_call 82; (with_reducible refine (diff_pairKey.calls y.f0 y.f1 _ _ rfl).mono ?_); rintro e wn ⟨rfl, hb⟩; replace HE := Lib.hid (HE.out.under hb); replace m2 := (hb.cell (World.block_lt_of_cell? _ _ m2)).trans m2; replace m3 := (hb.cell (World.block_lt_of_cell? _ _ m3)).trans m3; replace x0 := (hb.cell (World.block_lt_of_cell? _ _ x0)).trans x0; replace x1 := (hb.cell (World.block_lt_of_cell? _ _ x1)).trans x1; replace y0 := (hb.cell (World.block_lt_of_cell? _ _ y0)).trans y0; replace y1 := (hb.cell (World.block_lt_of_cell? _ _ y1)).trans y1; clear hb)
              | (go_at_call 82; (with_reducible refine (diff_pairKey.calls x.f0 x.f1 _ _ rfl).mono ?_); rintro e wn ⟨rfl, hb⟩; replace HE := Lib.hid (HE.out.under hb); replace m2 := (hb.cell (World.block_lt_of_cell? _ _ m2)).trans m2; replace m3 := (hb.cell (World.block_lt_of_cell? _ _ m3)).trans m3; replace x0 := (hb.cell (World.block_lt_of_cell? _ _ x0)).trans x0; replace x1 := (hb.cell (World.block_lt_of_cell? _ _ x1)).trans x1; replace y0 := (hb.cell (World.block_lt_of_cell? _ _ y0)).trans y0; replace y1 := (hb.cell (World.block_lt_of_cell? _ _ y1)).trans y1; clear hb))
            go_upto_region 3 with fail
            replace m2 := (show wn.drew.cell? _ = _ from m2)
            replace m3 := (show wn.drew.cell? _ = _ from m3)
            replace x0 := (show wn.drew.cell? _ = _ from x0)
            replace x1 := (show wn.drew.cell? _ = _ from x1)
            replace y0 := (show wn.drew.cell? _ = _ from y0)
            replace y1 := (show wn.drew.cell? _ = _ from y1)
            replace HE := Lib.hid HE.out.drew
            go_still_tail 7, (by kernel_rfl)
            change wpList _ _ _ _ _ wn.drew
            have hcall := of3_any w0.heap.size q x.f0 x.f1 y.f0 y.f1 v1 done _ HE.out.hO hd
            go_wp2_with fail
            refine hcall.mono ?_
            rintro e w9 ⟨rfl, vn, hOn, hg⟩
            replace HE := Lib.hid (HE.out.grew hOn hg)
            clear hcall hOn hg m2 m3 x0 x1 y0 y1
            go_wp2_with fail
            go_quiet (fail)
            replace HE := Lib.hid (HE.out.under (pw_below_drewN (Below.refl _ _) nq))
            go_wp2
            exact ⟨⟨done ++ (if x.f1.toList = y.f1.toList then [] else [⟨y.f0, y.f1, false⟩]), a, b, An1, c1 - 1, An2, c2 - 1, vn, rfl, rfl, hCn1, hen1, hCn2, hen2, by rw [HOF.out, ofM, if_neg (by rw [hxy]; decide), if_neg (by rw [hyx]; decide), List.append_assoc], by simp at hsz ⊢; split <;> simp <;> omega, HE.out⟩, by have := HN2.out; have := HN1.out; simp [lenOf]; omega⟩
end Go.Proofs.Ytipgldfbjlhpoab.P
