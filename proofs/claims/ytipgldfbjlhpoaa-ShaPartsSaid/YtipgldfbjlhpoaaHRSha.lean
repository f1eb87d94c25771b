/- The hash of a string, as the reference makes it: its contract, in the form in which the printed callers take it: the same plain function as sha.Sum's. -/
import Derived.Test.YtipgldfbjlhpoaaHSha
import Derived.Deep.RegionHeld3
import Derived.Deep.AppendLies
namespace Go.Proofs.Ytipgldfbjlhpoaa.Sha
set_option linter.unusedVariables false
set_option linter.unusedSimpArgs false
open Go.RowKit Go.Proofs.YtipgldfbjlhpoaaW.PrintWords Go.Proofs.YtipgldfbjlhpoaaW.PrintLast Go.Proofs.YtipgldfbjlhpoaaW.PrintMore
set_option maxRecDepth 100000

theorem MemS.grown {w0 w w' : World} {g : Nat} {s : S8} {row : Option Nat} (h : MemS w0 w g s) (hg : w.grownBy w' row) (hne : some g ≠ row) (hr : ∀ k, row = some k → w0.heap.size ≤ k) : MemS w0 w' g s :=
  ⟨h.below.grown hg h.below.size hr, blk_grown h.row hg hne, h.ge⟩
theorem word4_one (x : BitVec 32) : ∀ u ∈ (word4 x).toList, u.oneCell' = true := by
  intro u hu
  simp only [word4, List.mem_cons, List.not_mem_nil, or_false] at hu
  rcases hu with rfl | rfl | rfl | rfl <;> rfl
theorem own_ne_base {W : World} {g n : Nat} {e : TypeId} {v : Value} {xs : List Value} (h : W.ownsRow (g + 1) e 1 v n xs) : some g ≠ v.ownBlock := by
  intro he
  have := own_base h g he.symm
  omega
set_option maxHeartbeats 800000 in
theorem rsum_any (s : ByteArray) (w : World) (hs : s.size ≤ 1000000000000000) :
    Calls Try.prog 17 #[.string s] w fun e w' => e = .returned (.string (sumB s)) ∧ Below w.heap.size w w' := by
  obtain ⟨m, hm⟩ : ∃ m, m = s.data.toList := ⟨_, rfl⟩
  have hml : m.length = s.size := by rw [hm, Array.length_toList]; rfl
  obtain ⟨pb, hpb⟩ : ∃ pb, pb = ofL (pad s.size) := ⟨_, rfl⟩
  have hps : pb.size ≤ 100 := by rw [hpb, size_ofL, length_pad]; omega
  have hcat : s.size + pb.size ≤ 9223372036854775807 := by omega
  obtain ⟨sb, hsb⟩ : ∃ sb, sb = s ++ pb := ⟨_, rfl⟩
  obtain ⟨T, hT⟩ : ∃ T : Nat, T = sb.size / 64 := ⟨_, rfl⟩
  have hM : sb = ofL (m ++ pad s.size) := by rw [hsb, hpb, ← ofL_data s, ofL_append, ← hm, size_ofL, hml]
  have hbs : sb.size = s.size + (pad s.size).length := by rw [hM, size_ofL, List.length_append, hml]
  have hsT : sb.size = 64 * T := by have := pad_whole s.size; omega
  have hTs : T ≤ 100000000000000 := by have := length_pad s.size; omega
  have hsbi : sb.size ≤ 6400000000000000 := by omega
  have hcl : (m.length + (pad m.length).length) / 64 = T := by rw [hml]; omega
  have hfinal : sumB s = ofL (out (blocks firstS T sb.data.toList)) := by rw [sumB, ← hm, sumL, hcl, hml, hM, data_ofL]
  have HH := Lib.hid (And.intro hpb (And.intro hsb (And.intro hsT hfinal)))
  clear hm hml hpb hsb hT hM hbs hsT hcl hfinal
  go_enter Try.func17, Try.ntmps17
  go_upto_region 1 with fail
  go_cut [0] (fun s0 wx => s0 = .string sb ∧ Below w.heap.size w wx)
  case first =>
    go_wp2_with fail
    refine (rpad_any s.size pb _ (by omega) HH.out.1).mono ?_
    rintro e w2 ⟨rfl, hb2⟩
    go_wp2_with fail
    go_meet
    exact ⟨congrArg Value.string HH.out.2.1.symm, hb2⟩
  case rest =>
    obtain ⟨rfl, hB⟩ := hcut
    go_upto_region 2 with fail
    go_cut [3] (fun s3 wx => ∃ g, s3 = .pointer (some ⟨g, 0, none⟩) ∧ MemS w wx g firstS)
    case first =>
      obtain ⟨wq, rfl⟩ : ∃ wq : World, wq = wc := ⟨_, rfl⟩
      go_wp2_with fail
      refine (regs_any _).mono ?_
      rintro e w2 ⟨rfl, hb2⟩
      go_wp2_with (refine wpList_store_row rfl 26 (.tmp 3) (.tmp 12) rfl w2.heap.size (cells8 firstS) rfl rfl 26 _ (heap_alloc_new w2 _) (by kernel_rfl) (by kernel_rfl) (by kernel_rfl) ?_)
      go_meet
      rw [World.setRow_alloc_new]
      have hz := hB.size
      have hz2 := hb2.size
      exact ⟨_, rfl, below_alloc2 (hB.trans (hb2.mono hz)) (by omega) _, heap_alloc_new w2 _, by omega⟩
    case rest =>
      obtain ⟨g, rfl, hM⟩ := hcut
      have HM := Lib.hid hM
      clear hM hB
      go_upto_region 3 with fail
      go_wp2
      go_loopw [4] (fun c wr => ∃ j : Nat, j ≤ T ∧ c = .int .i64 ((64 * j : Nat) : Int) ∧ MemS w wr g (blocks firstS j sb.data.toList)) (fun c _ => sb.size - (intOf c).toNat)
      case atStart => exact ⟨0, Nat.zero_le _, rfl, HM.out⟩
      case round =>
        clear HM
        obtain ⟨j, hj, rfl, hM⟩ := hrel
        obtain ⟨a, ha⟩ : ∃ a : Nat, a = 64 * j := ⟨_, rfl⟩
        rw [← ha]
        have hsT := HH.out.2.2.1
        obtain ⟨st, hst⟩ : ∃ st, st = blocks firstS j sb.data.toList := ⟨_, rfl⟩
        rw [← hst] at hM
        by_cases hlt : j < T
        · have haw : a + 64 ≤ sb.size := by omega
          have hdec : decide ((a : Int) < (sb.size : Int)) = true := by simp; omega
          have has : (a : Int) + 64 ≤ (sb.size : Int) := by omega
          obtain ⟨a2, ha2⟩ : ∃ a2 : Nat, a2 = a + 64 := ⟨_, rfl⟩
          have e64 : IntKind.i64.wrap ((a : Int) + 64) = (a2 : Int) := by rw [IntKind.wrap_i64]; omega
          have l1 : (a2 : Int) ≤ (sb.size : Int) := by omega
          have l2 : (a : Int) ≤ (a2 : Int) := by omega
          have l3 : a2 ≤ sb.size := by omega
          have l4 : a ≤ a2 := by omega
          have c0 : wr.cell? ⟨g, 0, none⟩ = some (.int .u32 (st.a.toNat : Int)) := (cell_of_row _ _ _ _ _ _ hM.row).trans rfl
          have c1 : wr.cell? ⟨g, 1, none⟩ = some (.int .u32 (st.b.toNat : Int)) := (cell_of_row _ _ _ _ _ _ hM.row).trans rfl
          have c2 : wr.cell? ⟨g, 2, none⟩ = some (.int .u32 (st.c.toNat : Int)) := (cell_of_row _ _ _ _ _ _ hM.row).trans rfl
          have c3 : wr.cell? ⟨g, 3, none⟩ = some (.int .u32 (st.d.toNat : Int)) := (cell_of_row _ _ _ _ _ _ hM.row).trans rfl
          have c4 : wr.cell? ⟨g, 4, none⟩ = some (.int .u32 (st.e.toNat : Int)) := (cell_of_row _ _ _ _ _ _ hM.row).trans rfl
          have c5 : wr.cell? ⟨g, 5, none⟩ = some (.int .u32 (st.f.toNat : Int)) := (cell_of_row _ _ _ _ _ _ hM.row).trans rfl
          have c6 : wr.cell? ⟨g, 6, none⟩ = some (.int .u32 (st.g.toNat : Int)) := (cell_of_row _ _ _ _ _ _ hM.row).trans rfl
          have c7 : wr.cell? ⟨g, 7, none⟩ = some (.int .u32 (st.h.toNat : Int)) := (cell_of_row _ _ _ _ _ _ hM.row).trans rfl
          have HM := Lib.hid hM
          have HA := Lib.hid (And.intro ha (And.intro hst ha2))
          clear hM ha hst hsT ha2
          go_upto_region 6 with fail
          go_still_tail 6, (by kernel_rfl)
          change wpList _ _ _ _ _ wr.drew
          go_wp2_with fail
          clear c0 c1 c2 c3 c4 c5 c6 c7
          refine (rblock_any st (sb.extract a a2) _).mono ?_
          obtain ⟨st2, hst2⟩ : ∃ x, x = block st (sb.extract a a2).data.toList := ⟨_, rfl⟩
          rw [← hst2]
          have HS2 := Lib.hid hst2
          clear hst2
          rintro e w2 ⟨rfl, hb2⟩
          have HM2 := Lib.hid (HM.out.drew.under hb2)
          clear hb2
          go_wp2_with (refine wpList_store_row rfl 26 (.tmp 3) (.tmp 25) rfl g (cells8 st2) rfl rfl 26 (cells8 st) HM2.out.row (by kernel_rfl) (by kernel_rfl) (oneCell_cellsW (L8 st2)) ?_)
          have ha := HA.out.1
          refine ⟨⟨j + 1, by omega, by rw [HA.out.2.2, ha]; go_num, ?_⟩, by rw [HA.out.2.2]; simp [intOf]; omega⟩
          have eb : blocks firstS (j + 1) sb.data.toList = st2 := by
            rw [HS2.out, blocks_snoc, ← HA.out.2.1, Lib.extract_data, HA.out.2.2, HA.out.1, show 64 * j + 64 - 64 * j = 64 by omega, block_take]
          rw [eb]
          exact HM2.out.put _
        · have hjT : j = T := by omega
          have haw : a = sb.size := by omega
          have hdec : decide ((sb.size : Int) < (sb.size : Int)) = false := by simp
          subst haw
          rw [hjT] at hst
          have hfin : sumB s = ofL (out st) := by rw [hst]; exact HH.out.2.2.2
          have HF := Lib.hid hfin
          have HM := Lib.hid hM
          clear hM ha hst hsT hjT hfin
          go_upto_region 8 with fail
          go_wp2
          go_loopw [6, 5] (fun c v wr => ∃ i : Nat, i ≤ 8 ∧ c = .int .i64 (i : Int) ∧ wr.ownsRow (g + 1) 5 1 v (4 * i) (nums .u8 (ints ((out st).take (4 * i)))) ∧ MemS w wr g st) (fun c _ _ => 8 - (intOf c).toNat)
          case atStart => exact ⟨0, by omega, rfl, ⟨by simp [ints, nums], .inl ⟨rfl, rfl⟩⟩, HM.out⟩
          case round =>
            clear HM
            obtain ⟨i, hi, rfl, ho, hM⟩ := hrel
            have HO := Lib.hid ho
            by_cases hlt : i < 8
            · have hii : (i : Int) < 8 := by omega
              obtain ⟨x, hx⟩ : ∃ x, x = (L8 st).getD i 0 := ⟨_, rfl⟩
              have cx : wr.cell? ⟨g, i, none⟩ = some (.int .u32 (x.toNat : Int)) := row_cell (L := L8 st) hM.row hlt hx
              have HX := Lib.hid hx
              have HM := Lib.hid hM
              have hgs : g < wr.heap.size := blk_lt hM.row
              clear ho hx hM
              obtain ⟨i0, hi0, hz0, hz1, hz2⟩ := info_parts info_u8
              have HI := Lib.hid (And.intro hi0 (And.intro hz0 (And.intro hz1 hz2)))
              clear hi0 hz0 hz1 hz2
              have w1 : IntKind.u8.wrap ((x.toNat : Int) / 16777216) = (x.toNat : Int) / 16777216 := by rw [IntKind.wrap_u8]; have := x.isLt; omega
              have w2 : IntKind.u8.wrap ((x.toNat : Int) / 65536) = (x.toNat : Int) / 65536 % 256 := IntKind.wrap_u8 _
              have w3 : IntKind.u8.wrap ((x.toNat : Int) / 256) = (x.toNat : Int) / 256 % 256 := IntKind.wrap_u8 _
              have w4 : IntKind.u8.wrap (x.toNat : Int) = (x.toNat : Int) % 256 := IntKind.wrap_u8 _
              go_upto_region 11 with fail
              go_region_held3 (fun w' => w'.cell? ⟨g, i, none⟩ = some (.int .u32 (x.toNat : Int)))
                (first
                  | go_keep
                  | (rw [hgrow.cell_far _ (by simp; omega) (own_ne_base HO.out)]; assumption))
                ((refine step_append_lies _ (by rfl) _ _ _ (by rfl) (g + 1) 5 i0 _ 1 1 Try.underlying31 HI.out.1 HI.out.2.1 HI.out.2.2.1 HI.out.2.2.2 rfl (by omega) u5 (4 * i) (nums .u8 (ints ((out st).take (4 * i)))) (by rfl) ((HO.out.alloc _).drew)
                    ⟨wr.heap.size, 0, none⟩ 4 4 (word4 x).toList (by rfl) (by rfl) (World.news_of_block (cs := word4 x) (t := 5) (fr := (0, 0)) (heap_alloc_new wr _)) (word4_one x)
                    (by omega) (by unfold maxLen; omega) (by omega) (by simp; omega) (wr.heap.size + 1) (by simp) ?_; intro gg cap w2 ho2 hgrow hat hgg))
              go_wp2_with fail
              refine ⟨⟨i + 1, by omega, by go_num, ?_, ?_⟩, by simp [intOf]; omega⟩
              · rw [out_take st i x hlt HX.out, ← word4_eq]
                exact ho2
              · exact ((HM.out.under (below_alloc2 (Below.refl _ _) (Nat.le_refl _) _)).drew).grown hgrow (own_ne_base HO.out) (fun k hk => by have := own_base HO.out k hk; have := HM.out.ge; omega)
            · have hi8 : i = 8 := by omega
              have hii : ¬ (i : Int) < 8 := by omega
              rw [hi8] at ho
              have hcv : (convert 31 9 u5).run Try.prog wr = .ok (.string (sumB s)) wr := by
                rw [own_string Try.underlying31 Try.underlying5 Try.underlying9 ho, HF.out, ofL_ints, List.take_of_length_le (by rw [length_out]; omega)]
              have hB := hM.below
              clear ho hi8 hM
              go_wp2
              go_ret
              exact ⟨rfl, hB⟩
end Go.Proofs.Ytipgldfbjlhpoaa.Sha
namespace Go.Proofs.Ytipgldfbjlhpoaa.P
open Go.RowKit
def footbridgeref04_Sum.f (a0 : ByteArray) : Option ByteArray := if a0.size ≤ 1000000000000000 then some (Sha.sumB a0) else none
theorem footbridgeref04_Sum.calls (a0 : ByteArray) (r : ByteArray) (w : World) (h : footbridgeref04_Sum.f a0 = some r) :
    Calls Try.prog 17 #[.string a0] w fun e w' => e = .returned (.string r) ∧ Below w.heap.size w w' := by
  unfold footbridgeref04_Sum.f at h
  split at h
  · rename_i hs
    obtain rfl := Option.some.inj h
    exact Sha.rsum_any a0 w hs
  · cases h
end Go.Proofs.Ytipgldfbjlhpoaa.P
