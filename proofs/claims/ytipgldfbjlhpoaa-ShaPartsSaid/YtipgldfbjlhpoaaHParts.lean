/- ShaParts: the law's body: the padded text, its blocks one behind the other, and what they give as bytes. -/
import Derived.Test.YtipgldfbjlhpoaaHL04
import Derived.Deep.RegionHeld3
import Derived.Deep.DrawnRows
namespace Go.Proofs.Ytipgldfbjlhpoaa.Sha
set_option linter.unusedVariables false
set_option linter.unusedSimpArgs false
open Go.RowKit Go.Proofs.YtipgldfbjlhpoaaW.PrintWords Go.Proofs.YtipgldfbjlhpoaaW.PrintLast Go.Proofs.YtipgldfbjlhpoaaW.PrintMore
set_option maxRecDepth 100000
theorem own_lt {W : World} {b : Nat} {e : TypeId} {n k : Nat} {v : Value} {xs : List Value} (h : W.ownsRow b e 1 v n xs) (hk : v.ownBlock = some k) : k < W.heap.size := by
  obtain ⟨cells, hc⟩ := own_typed h k hk
  exact blk_lt hc
theorem cv_own {W : World} {b : Nat} {v : Value} {s : ByteArray} {st : S8} (ho : W.ownsRow b 5 1 v (4 * 8) (nums .u8 (ints ((out st).take (4 * 8))))) (hf : sumB s = ofL (out st)) : (convert 31 9 v).run Try.prog W = .ok (.string (sumB s)) W := by
  rw [own_string Try.underlying31 Try.underlying5 Try.underlying9 ho, hf, ofL_ints, List.take_of_length_le (by rw [length_out]; omega)]
set_option maxHeartbeats 800000 in
theorem parts_short (s : ByteArray) (w : World) (hs : s.size ≤ 2000) :
    Calls Try.prog 5 #[.string s] w fun e w' => e = .returned (.bool true) ∧ Below w.heap.size w w' := by
  obtain ⟨m, hm⟩ : ∃ m, m = s.data.toList := ⟨_, rfl⟩
  have hml : m.length = s.size := by rw [hm, Array.length_toList]; rfl
  obtain ⟨pb, hpb⟩ : ∃ pb, pb = ofL (pad s.size) := ⟨_, rfl⟩
  have hps : pb.size ≤ 100 := by rw [hpb, size_ofL, length_pad]; omega
  have hcat : s.size + pb.size ≤ 9223372036854775807 := by omega
  obtain ⟨sb, hsb⟩ : ∃ sb, sb = s ++ pb := ⟨_, rfl⟩
  obtain ⟨T, hT⟩ : ∃ T : Nat, T = sb.size / 64 := ⟨_, rfl⟩
  have hM : sb = ofL (m ++ pad s.size) := by rw [hsb, hpb, ← ofL_data s, ofL_append, ← hm, size_ofL, hml]
  have hbs : sb.size = s.size + (pad s.size).length := by rw [hM, size_ofL, List.length_append, hml]
  have hsT : sb.size = 64 * T := by have := pad_whole s.size; omega
  have hTs : T ≤ 100000000000000 := by have := length_pad s.size; omega
  have hsbi : sb.size ≤ 6400000000000000 := by omega
  have hcl : (m.length + (pad m.length).length) / 64 = T := by rw [hml]; omega
  have hfinal : sumB s = ofL (out (blocks firstS T sb.data.toList)) := by rw [sumB, ← hm, sumL, hcl, hml, hM, data_ofL]
  have HH := Lib.hid (And.intro hpb (And.intro hsb (And.intro hsT hfinal)))
  clear hm hml hpb hsb hT hM hbs hsT hcl hfinal
  go_enter Try.func5, Try.ntmps5
  go_upto_region 3 with fail
  go_cut [3] (fun s0 wx => s0 = .string sb ∧ Below w.heap.size w wx)
  case first =>
    go_wp2_with fail
    refine (pad_any s.size pb _ (by omega) HH.out.1).mono ?_
    rintro e w2 ⟨rfl, hb2⟩
    go_wp2_with fail
    go_meet
    exact ⟨congrArg Value.string HH.out.2.1.symm, hb2⟩
  case rest =>
    obtain ⟨rfl, hB⟩ := hcut
    have t1 : ((sb.size : Int).tmod 64) = 0 := by have := HH.out.2.2.1; rw [Int.tmod_eq_emod_of_nonneg (by omega)]; omega
    have t2 : (sb.size : Int) % 64 = 0 := by have := HH.out.2.2.1; omega
    have t3 : ¬ (sb.size : Int) < (s.size : Int) + 9 := by rw [HH.out.2.1, ByteArray.size_append, HH.out.1, size_ofL, length_pad]; omega
    have t4 : ¬ (sb.size : Int) > (s.size : Int) + 72 := by rw [HH.out.2.1, ByteArray.size_append, HH.out.1, size_ofL, length_pad]; omega
    have t5 : ¬ (s.size : Int) + 72 < (sb.size : Int) := t4
    go_upto_region 6 with fail
    go_cut [4] (fun s3 wx => ∃ g, s3 = .pointer (some ⟨g, 0, none⟩) ∧ MemS w wx g firstS)
    case first =>
      obtain ⟨wq, rfl⟩ : ∃ wq : World, wq = wc := ⟨_, rfl⟩
      go_wp2_with fail
      refine (regs_any _).mono ?_
      rintro e w2 ⟨rfl, hb2⟩
      go_wp2_with (refine wpList_store_row rfl 26 (.tmp 4) (.tmp 37) rfl w2.heap.size (cells8 firstS) rfl rfl 26 _ (heap_alloc_new w2 _) (by kernel_rfl) (by kernel_rfl) (by kernel_rfl) ?_)
      go_meet
      rw [World.setRow_alloc_new]
      have hz := hB.size
      have hz2 := hb2.size
      exact ⟨_, rfl, below_alloc2 (hB.trans (hb2.mono hz)) (by omega) _, heap_alloc_new w2 _, by omega⟩
    case rest =>
      obtain ⟨g, rfl, hM⟩ := hcut
      have HM := Lib.hid hM
      clear hM hB
      go_upto_region 7 with fail
      go_wp2
      go_loopw [5] (fun c wr => ∃ j : Nat, j ≤ T ∧ c = .int .i64 ((64 * j : Nat) : Int) ∧ MemS w wr g (blocks firstS j sb.data.toList)) (fun c _ => sb.size - (intOf c).toNat)
      case atStart => exact ⟨0, Nat.zero_le _, rfl, HM.out⟩
      case round =>
        clear HM
        obtain ⟨j, hj, rfl, hM⟩ := hrel
        obtain ⟨a, ha⟩ : ∃ a : Nat, a = 64 * j := ⟨_, rfl⟩
        rw [← ha]
        have hsT := HH.out.2.2.1
        obtain ⟨st, hst⟩ : ∃ st, st = blocks firstS j sb.data.toList := ⟨_, rfl⟩
        rw [← hst] at hM
        by_cases hlt : j < T
        · have haw : a + 64 ≤ sb.size := by omega
          have hdec : decide ((a : Int) < (sb.size : Int)) = true := by simp; omega
          have has : (a : Int) + 64 ≤ (sb.size : Int) := by omega
          obtain ⟨a2, ha2⟩ : ∃ a2 : Nat, a2 = a + 64 := ⟨_, rfl⟩
          have e64 : IntKind.i64.wrap ((a : Int) + 64) = (a2 : Int) := by rw [IntKind.wrap_i64]; omega
          have l1 : (a2 : Int) ≤ (sb.size : Int) := by omega
          have l2 : (a : Int) ≤ (a2 : Int) := by omega
          have l3 : a2 ≤ sb.size := by omega
          have l4 : a ≤ a2 := by omega
          have c0 : wr.cell? ⟨g, 0, none⟩ = some (.int .u32 (st.a.toNat : Int)) := (cell_of_row _ _ _ _ _ _ hM.row).trans rfl
          have c1 : wr.cell? ⟨g, 1, none⟩ = some (.int .u32 (st.b.toNat : Int)) := (cell_of_row _ _ _ _ _ _ hM.row).trans rfl
          have c2 : wr.cell? ⟨g, 2, none⟩ = some (.int .u32 (st.c.toNat : Int)) := (cell_of_row _ _ _ _ _ _ hM.row).trans rfl
          have c3 : wr.cell? ⟨g, 3, none⟩ = some (.int .u32 (st.d.toNat : Int)) := (cell_of_row _ _ _ _ _ _ hM.row).trans rfl
          have c4 : wr.cell? ⟨g, 4, none⟩ = some (.int .u32 (st.e.toNat : Int)) := (cell_of_row _ _ _ _ _ _ hM.row).trans rfl
          have c5 : wr.cell? ⟨g, 5, none⟩ = some (.int .u32 (st.f.toNat : Int)) := (cell_of_row _ _ _ _ _ _ hM.row).trans rfl
          have c6 : wr.cell? ⟨g, 6, none⟩ = some (.int .u32 (st.g.toNat : Int)) := (cell_of_row _ _ _ _ _ _ hM.row).trans rfl
          have c7 : wr.cell? ⟨g, 7, none⟩ = some (.int .u32 (st.h.toNat : Int)) := (cell_of_row _ _ _ _ _ _ hM.row).trans rfl
          have HM := Lib.hid hM
          have HA := Lib.hid (And.intro ha (And.intro hst ha2))
          clear hM ha hst hsT ha2
          go_upto_region 10 with fail
          go_still_tail 6, (by kernel_rfl)
          change wpList _ _ _ _ _ wr.drew
          go_wp2_with fail
          clear c0 c1 c2 c3 c4 c5 c6 c7
          refine (block_any st (sb.extract a a2) _ (by rw [ByteArray.size_extract]; unfold maxLen; omega)).mono ?_
          obtain ⟨st2, hst2⟩ : ∃ x, x = block st (sb.extract a a2).data.toList := ⟨_, rfl⟩
          rw [← hst2]
          have HS2 := Lib.hid hst2
          clear hst2
          rintro e w2 ⟨rfl, hb2⟩
          have HM2 := Lib.hid (HM.out.drew.under hb2)
          clear hb2
          go_wp2_with (refine wpList_store_row rfl 26 (.tmp 4) (.tmp 50) rfl g (cells8 st2) rfl rfl 26 (cells8 st) HM2.out.row (by kernel_rfl) (by kernel_rfl) (oneCell_cellsW (L8 st2)) ?_)
          have ha := HA.out.1
          refine ⟨⟨j + 1, by omega, by rw [HA.out.2.2, ha]; go_num, ?_⟩, by rw [HA.out.2.2]; simp [intOf]; omega⟩
          have eb : blocks firstS (j + 1) sb.data.toList = st2 := by
            rw [HS2.out, blocks_snoc, ← HA.out.2.1, Lib.extract_data, HA.out.2.2, HA.out.1, show 64 * j + 64 - 64 * j = 64 by omega, block_take]
          rw [eb]
          exact HM2.out.put _
        · have hjT : j = T := by omega
          have haw : a = sb.size := by omega
          have hdec : decide ((sb.size : Int) < (sb.size : Int)) = false := by simp
          subst haw
          rw [hjT] at hst
          have hfin : sumB s = ofL (out st) := by rw [hst]; exact HH.out.2.2.2
          have HF := Lib.hid hfin
          have HM := Lib.hid hM
          clear hM ha hst hsT hjT hfin
          go_upto_region 12 with fail
          go_wp2
          go_loopw [7, 6] (fun c v wr => ∃ i : Nat, i ≤ 8 ∧ c = .int .i64 (i : Int) ∧ wr.ownsRow (g + 1) 5 1 v (4 * i) (nums .u8 (ints ((out st).take (4 * i)))) ∧ MemS w wr g st) (fun c _ _ => 8 - (intOf c).toNat)
          case atStart => exact ⟨0, by omega, rfl, ⟨by simp [ints, nums], .inl ⟨rfl, rfl⟩⟩, HM.out⟩
          case round =>
            clear HM
            obtain ⟨i, hi, rfl, ho, hM⟩ := hrel
            have HO := Lib.hid ho
            by_cases hlt : i < 8
            · have hii : (i : Int) < 8 := by omega
              obtain ⟨x, hx⟩ : ∃ x, x = (L8 st).getD i 0 := ⟨_, rfl⟩
              have cx : wr.cell? ⟨g, i, none⟩ = some (.int .u32 (x.toNat : Int)) := row_cell (L := L8 st) hM.row hlt hx
              have HX := Lib.hid hx
              have HM := Lib.hid hM
              have hgs : g < wr.heap.size := blk_lt hM.row
              clear ho hx hM
              obtain ⟨i0, hi0, hz0, hz1, hz2⟩ := info_parts info_u8
              have HI := Lib.hid (And.intro hi0 (And.intro hz0 (And.intro hz1 hz2)))
              clear hi0 hz0 hz1 hz2
              have w1 : IntKind.u8.wrap ((x.toNat : Int) / 16777216) = (x.toNat : Int) / 16777216 := by rw [IntKind.wrap_u8]; have := x.isLt; omega
              have w2 : IntKind.u8.wrap ((x.toNat : Int) / 65536) = (x.toNat : Int) / 65536 % 256 := IntKind.wrap_u8 _
              have w3 : IntKind.u8.wrap ((x.toNat : Int) / 256) = (x.toNat : Int) / 256 % 256 := IntKind.wrap_u8 _
              have w4 : IntKind.u8.wrap (x.toNat : Int) = (x.toNat : Int) % 256 := IntKind.wrap_u8 _
              go_upto_region 15 with fail
              go_region_held3 (fun w' => w'.cell? ⟨g, i, none⟩ = some (.int .u32 (x.toNat : Int)))
                (first
                  | go_keep
                  | (rw [hgrow.cell_far _ (by simp; omega) (own_ne_base HO.out)]; assumption))
                ((refine step_append_lies _ (by rfl) _ _ _ (by rfl) (g + 1) 5 i0 _ 1 1 Try.underlying31 HI.out.1 HI.out.2.1 HI.out.2.2.1 HI.out.2.2.2 rfl (by omega) u6 (4 * i) (nums .u8 (ints ((out st).take (4 * i)))) (by rfl) ((HO.out.alloc _).drew)
                    ⟨wr.heap.size, 0, none⟩ 4 4 (word4 x).toList (by rfl) (by rfl) (World.news_of_block (cs := word4 x) (t := 5) (fr := (0, 0)) (heap_alloc_new wr _)) (word4_one x)
                    (by omega) (by unfold maxLen; omega) (by omega) (by simp; omega) (wr.heap.size + 1) (by simp) ?_; intro gg cap w2 ho2 hgrow hat hgg))
              go_wp2_with fail
              refine ⟨⟨i + 1, by omega, by go_num, ?_, ?_⟩, by simp [intOf]; omega⟩
              · rw [out_take st i x hlt HX.out, ← word4_eq]
                exact ho2
              · exact ((HM.out.under (below_alloc2 (Below.refl _ _) (Nat.le_refl _) _)).drew).grown hgrow (own_ne_base HO.out) (fun k hk => by have := own_base HO.out k hk; have := HM.out.ge; omega)
            · have hi8 : i = 8 := by omega
              have hii : ¬ (i : Int) < 8 := by omega
              rw [hi8] at ho
              have hcv : (convert 31 9 u6).run Try.prog wr.drew = .ok (.string (sumB s)) wr.drew := by
                rw [own_string Try.underlying31 Try.underlying5 Try.underlying9 (ho.drew), HF.out, ofL_ints, List.take_of_length_le (by rw [length_out]; omega)]
              have HO := Lib.hid (show wr.drew.ownsRow (g + 1) 5 1 u6 (4 * 8) (nums .u8 (ints ((out st).take (4 * 8)))) from ho)
              have HB := Lib.hid (below_drew hM.below)
              have hsum := fun W => sum_any s W (by omega)
              clear ho hi8 hM
              go_upto_region 16 with fail
              go_region_with (first
                | (go_at_call 16; (with_reducible refine (hsum _).mono ?_); rintro e wn ⟨rfl, hb⟩; replace HB := Lib.hid (HB.out.trans (hb.mono HB.out.size)); have ho2 := own_move HO.out (fun k hk => hb.block k (own_lt HO.out hk)); have hcv2 : (convert 31 9 u6).run Try.prog wn = .ok (.string (sumB s)) wn := cv_own ho2 HF.out)
                | (go_at_call 15; (with_reducible refine (awake04_any _).mono ?_); rintro e wn ⟨rfl, hb⟩; replace HB := Lib.hid (HB.out.trans (hb.mono HB.out.size))))
              all_goals go_wp2_with fail
              all_goals go_ret
              all_goals exact ⟨rfl, HB.out⟩
theorem parts_long (s : ByteArray) (w : World) (hb : s.size ≤ maxLen) (h2 : s.size > 2000) :
    Calls Try.prog 5 #[.string s] w fun e w' => e = .returned (.bool true) ∧ Below w.heap.size w w' := by
  have hb' := le_maxLen hb
  have h2i : (s.size : Int) > 2000 := by omega
  go_enter Try.func5, Try.ntmps5
  go_wp2_with fail
  refine (awake04_any _).mono ?_
  rintro e w1 ⟨rfl, hb1⟩
  go_wp2_with fail
  go_ret
  exact ⟨rfl, hb1⟩
theorem parts_any (s : ByteArray) (w : World) (hb : s.size ≤ maxLen) :
    Calls Try.prog 5 #[.string s] w fun e w' => e = .returned (.bool true) ∧ Below w.heap.size w w' := by
  by_cases h : s.size ≤ 2000
  · exact parts_short s w h
  · exact parts_long s w hb (by omega)
end Go.Proofs.Ytipgldfbjlhpoaa.Sha
