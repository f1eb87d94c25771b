/- ShaBlocks: the law's body over the contracts of both block functions and both paddings. -/
import Derived.Test.YtipgldfbjlhpoaaHL04
import Derived.Deep.RegionHeld3
import Derived.Deep.DrawnRows
namespace Go.Proofs.Ytipgldfbjlhpoaa.Sha
set_option linter.unusedVariables false
set_option linter.unusedSimpArgs false
open Go.RowKit Go.Proofs.YtipgldfbjlhpoaaW.PrintWords Go.Proofs.YtipgldfbjlhpoaaW.PrintLast Go.Proofs.YtipgldfbjlhpoaaW.PrintMore
set_option maxRecDepth 100000
attribute [local go_sem ↓] Go.wp_at_zero Go.wp_at_succ

theorem equalIn_arr_self {P : Program} (d : Nat) (t e : TypeId) (n : Nat) (xs : Array Value) (f : Nat → Value) (ht : P.underlying t = some (.array n e)) (hs : ∀ W, (sizeOf e).run P W = .ok 1 W)
    (hp : ∀ i W, i < n → (part e xs i).run P W = .ok (f i) W) (he : ∀ i W, i < n → (Op.equalIn d e (f i) (f i)).run P W = .ok true W) (w : World) :
    (Op.equalIn (d + 1) t (.agg xs) (.agg xs)).run P w = .ok true w := by
  simp only [Op.equalIn, Sem.run_bind, run_underlying ht, Result.andThen_ok, hs]
  rw [Std.Legacy.Range.forIn_eq_forIn_range']
  have key : ∀ l : List Nat, (∀ i ∈ l, i < n) → ∀ W, (Sem.run P (forIn l ((none : Option Bool), ()) fun i __s => do
            let __do_lift ← part e xs (i * 1)
            let __do_lift_1 ← part e xs (i * 1)
            let __do_lift ← Op.equalIn d e __do_lift __do_lift_1
            if (!__do_lift) = true then pure (ForInStep.done (some false, ())) else pure (ForInStep.yield (none, ()))) W) = .ok ((none : Option Bool), ()) W := by
    intro l
    induction l with
    | nil => intro _ W; simp
    | cons i l ih =>
      intro h W
      have hi : i < n := h i (by simp)
      simp only [List.forIn_cons, Sem.run_bind, Nat.mul_one, hp i _ hi, he i _ hi, Result.andThen_ok, Bool.not_true, Bool.false_eq_true, if_false, Sem.run_pure]
      have := ih (fun k hk => h k (by simp [hk])) W
      simpa only [Nat.mul_one] using this
  rw [key _ (by intro i hi; simp [List.mem_range'] at hi; omega)]
  simp
theorem eql8 (s : S8) (w : World) : (binOp .eql 26 (.agg (cells8 s)) (.agg (cells8 s))).run Try.prog w = .ok (.bool true) w := by
  rw [run_eql_struct]
  rw [equalIn_arr_self 9999 26 25 8 (cells8 s) (fun i => .int .u32 (((L8 s).getD i 0).toNat : Int)) Try.underlying26 (fun _ => by kernel_rfl) ?_ ?_ w]
  · rfl
  · intro i W hi
    rcases (show i = 0 ∨ i = 1 ∨ i = 2 ∨ i = 3 ∨ i = 4 ∨ i = 5 ∨ i = 6 ∨ i = 7 by omega) with rfl | rfl | rfl | rfl | rfl | rfl | rfl | rfl <;> kernel_rfl
  · intro i W hi
    rw [run_equalIn_int W 9998 25 .u32 .u32 _ _ Try.underlying25]
    simp
theorem eight {w : World} {g : Nat} {h : S8} (h0 : w.heap[g]? = some (.cells (cells8 h) 26 (0, 0))) : w.cell? ⟨g, 0, none⟩ = some (.int .u32 (h.a.toNat : Int)) ∧ w.cell? ⟨g, 1, none⟩ = some (.int .u32 (h.b.toNat : Int)) ∧ w.cell? ⟨g, 2, none⟩ = some (.int .u32 (h.c.toNat : Int)) ∧ w.cell? ⟨g, 3, none⟩ = some (.int .u32 (h.d.toNat : Int)) ∧ w.cell? ⟨g, 4, none⟩ = some (.int .u32 (h.e.toNat : Int)) ∧ w.cell? ⟨g, 5, none⟩ = some (.int .u32 (h.f.toNat : Int)) ∧ w.cell? ⟨g, 6, none⟩ = some (.int .u32 (h.g.toNat : Int)) ∧ w.cell? ⟨g, 7, none⟩ = some (.int .u32 (h.h.toNat : Int)) :=
  ⟨(cell_of_row _ _ _ _ _ _ h0).trans rfl, (cell_of_row _ _ _ _ _ _ h0).trans rfl, (cell_of_row _ _ _ _ _ _ h0).trans rfl, (cell_of_row _ _ _ _ _ _ h0).trans rfl, (cell_of_row _ _ _ _ _ _ h0).trans rfl, (cell_of_row _ _ _ _ _ _ h0).trans rfl, (cell_of_row _ _ _ _ _ _ h0).trans rfl, (cell_of_row _ _ _ _ _ _ h0).trans rfl⟩
theorem guard8 : Try.prog.eqGuardType Try.prog.depth 26 = false := by kernel_rfl
theorem pads_any (n : Int) (hl : -9223372036854775808 ≤ n) (hn : n ≤ 9223372036854775807) : ∃ pb : ByteArray, (∀ w, Calls Try.prog 20 #[.int .i64 n] w fun e w' => e = .returned (.string pb) ∧ Below w.heap.size w w') ∧
    (∀ w, Calls Try.prog 21 #[.int .i64 n] w fun e w' => e = .returned (.string pb) ∧ Below w.heap.size w w') := by
  by_cases h : n < 0
  · exact ⟨_, fun w => P.sha_Pad.calls 0 n _ w (pad_neg n h), fun w => P.footbridgeref04_Pad.calls 0 n _ w (rpad_neg n h)⟩
  · obtain ⟨m, rfl⟩ := Int.eq_ofNat_of_zero_le (show 0 ≤ n by omega)
    exact ⟨_, fun w => pad_any m _ w (by omega) rfl, fun w => rpad_any m _ w (by omega) rfl⟩
theorem blocks_long (h : S8) (b : ByteArray) (n : Int) (hb : b.size ≤ maxLen) (h2 : b.size > 200) (w : World) :
    Calls Try.prog 4 #[.agg (cells8 h), .string b, .int .i64 n] w fun e w' => e = .returned (.bool true) ∧ Below w.heap.size w w' := by
  have hb' := le_maxLen hb
  have hnew : Below w.heap.size w (w.alloc (.cells (cells8 h) 26)) := (Below.refl _ _).alloc (Nat.le_refl _) _
  have h2i : (b.size : Int) > 200 := by omega
  go_enter Try.func4, Try.ntmps4
  go_wp2_with fail
  refine (awake04_any _).mono ?_
  rintro e w1 ⟨rfl, hb1⟩
  go_wp2_with fail
  go_ret
  exact ⟨rfl, hnew.trans (hb1.mono hnew.size)⟩
set_option maxHeartbeats 8000000 in
theorem blocks_any (h : S8) (b : ByteArray) (n : Int) (hl : -9223372036854775808 ≤ n) (hn : n ≤ 9223372036854775807) (hb : b.size ≤ maxLen) (w : World) :
    Calls Try.prog 4 #[.agg (cells8 h), .string b, .int .i64 n] w fun e w' => e = .returned (.bool true) ∧ Below w.heap.size w w' := by
  by_cases h2 : b.size > 200
  · exact blocks_long h b n hb h2 w
  · have hb' := le_maxLen hb
    have hnew : Below w.heap.size w (w.alloc (.cells (cells8 h) 26)) := (Below.refl _ _).alloc (Nat.le_refl _) _
    have h2i : ¬ (b.size : Int) > 200 := by omega
    obtain ⟨pb, hp1, hp2⟩ := pads_any n hl hn
    have hk1 : ∀ W, Calls Try.prog 18 #[.agg #[.int .u32 (h.a.toNat : Int), .int .u32 (h.b.toNat : Int), .int .u32 (h.c.toNat : Int), .int .u32 (h.d.toNat : Int), .int .u32 (h.e.toNat : Int), .int .u32 (h.f.toNat : Int), .int .u32 (h.g.toNat : Int), .int .u32 (h.h.toNat : Int)], .string b] W fun e w' => e = .returned (.agg (cells8 (block h b.data.toList))) ∧ Below W.heap.size W w' := fun W => block_any h b W hb
    have hk2 : ∀ W, Calls Try.prog 19 #[.agg #[.int .u32 (h.a.toNat : Int), .int .u32 (h.b.toNat : Int), .int .u32 (h.c.toNat : Int), .int .u32 (h.d.toNat : Int), .int .u32 (h.e.toNat : Int), .int .u32 (h.f.toNat : Int), .int .u32 (h.g.toNat : Int), .int .u32 (h.h.toNat : Int)], .string b] W fun e w' => e = .returned (.agg (cells8 (block h b.data.toList))) ∧ Below W.heap.size W w' := fun W => rblock_any h b W
    have heq := eql8 (block h b.data.toList)
    have hgd := guard8
    have haw := awake04_any
    obtain ⟨X, hX⟩ : ∃ X, X = cells8 (block h b.data.toList) := ⟨_, rfl⟩
    rw [← hX] at hk1 hk2 heq
    clear hX
    go_enter Try.func4, Try.ntmps4
    go_upto_region 0 with fail
    go_cut [3] (fun s3 wx => s3 = .pointer (some ⟨w.heap.size, 0, none⟩) ∧ wx.heap[w.heap.size]? = some (.cells (cells8 h) 26 (0, 0)) ∧ Below w.heap.size w wx)
    case first =>
      go_wp2_with fail
      go_meet
      exact ⟨rfl, heap_alloc_new w _, hnew⟩
    case rest =>
      obtain ⟨rfl, h0, hB⟩ := hcut
      have HC : Hid (wc.drew.heap[w.heap.size]? = some (.cells (cells8 h) 26 (0, 0))) := h0
      have HB := Lib.hid (below_drew hB)
      obtain ⟨c0, c1, c2, c3, c4, c5, c6, c7⟩ := eight HC.out
      clear hnew h0 hB
      clear hl hn hb h2
      go_upto_region 3 with fail
      go_region_held3 (fun w' => w'.cell? ⟨w.heap.size, 0, none⟩ = some (.int .u32 (h.a.toNat : Int)) ∧ w'.cell? ⟨w.heap.size, 1, none⟩ = some (.int .u32 (h.b.toNat : Int)) ∧ w'.cell? ⟨w.heap.size, 2, none⟩ = some (.int .u32 (h.c.toNat : Int)) ∧ w'.cell? ⟨w.heap.size, 3, none⟩ = some (.int .u32 (h.d.toNat : Int)) ∧ w'.cell? ⟨w.heap.size, 4, none⟩ = some (.int .u32 (h.e.toNat : Int)) ∧ w'.cell? ⟨w.heap.size, 5, none⟩ = some (.int .u32 (h.f.toNat : Int)) ∧ w'.cell? ⟨w.heap.size, 6, none⟩ = some (.int .u32 (h.g.toNat : Int)) ∧ w'.cell? ⟨w.heap.size, 7, none⟩ = some (.int .u32 (h.h.toNat : Int)))
          (first | exact ⟨c0, c1, c2, c3, c4, c5, c6, c7⟩ | go_keep)
          (first
          | (go_at_call 18; (with_reducible refine (hk1 _).mono ?_); rintro e wn ⟨rfl, hb⟩; replace HB := Lib.hid (HB.out.trans (hb.mono HB.out.size)); replace HC := Lib.hid (blk_below HC.out hb); clear c0 c1 c2 c3 c4 c5 c6 c7 hb; obtain ⟨c0, c1, c2, c3, c4, c5, c6, c7⟩ := eight HC.out)
          | (go_at_call 19; (with_reducible refine (hk2 _).mono ?_); rintro e wn ⟨rfl, hb⟩; replace HB := Lib.hid (HB.out.trans (hb.mono HB.out.size)); replace HC := Lib.hid (blk_below HC.out hb); clear c0 c1 c2 c3 c4 c5 c6 c7 hb; obtain ⟨c0, c1, c2, c3, c4, c5, c6, c7⟩ := eight HC.out)
          | (go_at_call 20; (with_reducible refine (hp1 _).mono ?_); rintro e wn ⟨rfl, hb⟩; replace HB := Lib.hid (HB.out.trans (hb.mono HB.out.size)); replace HC := Lib.hid (blk_below HC.out hb); clear c0 c1 c2 c3 c4 c5 c6 c7 hb; obtain ⟨c0, c1, c2, c3, c4, c5, c6, c7⟩ := eight HC.out)
          | (go_at_call 21; (with_reducible refine (hp2 _).mono ?_); rintro e wn ⟨rfl, hb⟩; replace HB := Lib.hid (HB.out.trans (hb.mono HB.out.size)); replace HC := Lib.hid (blk_below HC.out hb); clear c0 c1 c2 c3 c4 c5 c6 c7 hb; obtain ⟨c0, c1, c2, c3, c4, c5, c6, c7⟩ := eight HC.out)
          | (go_at_call 15; (with_reducible refine (haw _).mono ?_); rintro e wn ⟨rfl, hb⟩; replace HB := Lib.hid (HB.out.trans (hb.mono HB.out.size)); replace HC := Lib.hid (blk_below HC.out hb); clear c0 c1 c2 c3 c4 c5 c6 c7 hb; obtain ⟨c0, c1, c2, c3, c4, c5, c6, c7⟩ := eight HC.out))
      all_goals go_wp2_with fail
      all_goals go_ret
      all_goals exact ⟨rfl, HB.out⟩
end Go.Proofs.Ytipgldfbjlhpoaa.Sha
