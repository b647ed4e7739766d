/- PoolNobody: the law's text, walked. -/
import Derived.Test.YtieaealkdjnolaaPnPl14
import Derived.Test.YtieaealkdjnolaaPnPx0
import Derived.Test.YtieaealkdjnolaaPnK4
namespace Go.Proofs.Ytieaealkdjnolaa.P
open Go.RowKit Go.Maps Go.Proofs.YtieaealkdjnolaaW.PrintWords Go.Proofs.YtieaealkdjnolaaW.PrintLast Go.Proofs.YtieaealkdjnolaaW.PrintMore
set_option linter.unusedVariables false
set_option linter.unusedSimpArgs false
attribute [local go_sem ↓] Go.wp_at_zero Go.wp_at_succ
/-! ### trefoillaw32_PoolNobody: function 5 -/
def trefoillaw32_PoolNobody.f (a0_0 a0_1 a0_2 a0_3 a0_4 a0_5 : Int) (l6 : List S32) (a0_7 a0_8 : Int) : Option Bool := some true
set_option maxHeartbeats 4000000 in
set_option maxRecDepth 100000 in
theorem trefoillaw32_PoolNobody.calls (a0_0 a0_1 a0_2 a0_3 a0_4 a0_5 : Int) (A6 : Option Addr) (c6 : Nat) (l6 : List S32) (a0_7 a0_8 : Int) (r : Bool) (w : World) (hr6 : Kd.C k32 w A6 l6.length l6) (hc6 : l6.length ≤ c6) (h : trefoillaw32_PoolNobody.f a0_0 a0_1 a0_2 a0_3 a0_4 a0_5 l6 a0_7 a0_8 = some r) :
    Calls Try.prog 5 #[.agg #[.int .i64 a0_0, .int .i64 a0_1, .int .i64 a0_2, .int .i64 a0_3, .int .i64 a0_4, .int .i64 a0_5, .slice A6 l6.length c6, .int .i64 a0_7, .int .i64 a0_8]] w fun e w' => e = .returned (.bool r) ∧ Below w.heap.size w w' := by
  obtain rfl := Option.some.inj h
  clear h
  obtain ⟨b, hb⟩ := small_any a0_0 a0_1 a0_2 a0_3 a0_4 a0_5 a0_7 a0_8 l6
  have HSM := Lib.hid (fun W (hC : Kd.C k32 W A6 l6.length l6) => trefoillaw32_small.calls 200 a0_0 a0_1 a0_2 a0_3 a0_4 a0_5 A6 c6 l6 a0_7 a0_8 b W hC hc6 hb)
  have HC6 := Lib.hid hr6
  have HB0 := Lib.hid (below_alloc (Below.refl w.heap.size w) (.cells #[.int .i64 a0_0, .int .i64 a0_1, .int .i64 a0_2, .int .i64 a0_3, .int .i64 a0_4, .int .i64 a0_5, .slice A6 l6.length c6, .int .i64 a0_7, .int .i64 a0_8] 39))
  have HX0 := Lib.hid (heap_alloc_new w (.cells #[.int .i64 a0_0, .int .i64 a0_1, .int .i64 a0_2, .int .i64 a0_3, .int .i64 a0_4, .int .i64 a0_5, .slice A6 l6.length c6, .int .i64 a0_7, .int .i64 a0_8] 39))
  obtain ⟨x0, x1, x2, x3, x4, x5, x6, x7, x8, -⟩ := cells_9 HX0.out
  clear hr6 hc6 hb
  go_enter Try.func5, Try.ntmps5
  cases b with
  | false =>
    go_wp2_with (first
      | (go_at_call 17; go_loud (refine (HSM.out _ (Kd.C_below HC6.out HB0.out)).mono ?_); rintro e w1 ⟨rfl, hb⟩; have HB1 := Lib.hid (below_step HB0.out hb); clear hb)
      | (go_at_call 15; go_loud (refine (awake32.calls _).mono ?_); rintro e w2 ⟨rfl, hb⟩; have HB2 := Lib.hid (below_step HB1.out hb); clear hb))
    go_ret
    exact ⟨rfl, HB2.out⟩
  | true =>
    go_wp2_with (go_at_call 17; go_loud (refine (HSM.out _ (Kd.C_below HC6.out HB0.out)).mono ?_); rintro e w1 ⟨rfl, hb⟩; have HB1 := Lib.hid (below_step HB0.out hb); have HX1 := Lib.hid (blk_below HX0.out hb); clear hb x0 x1 x2 x3 x4 x5 x6 x7 x8)
    have s1 : ∀ o, (w1.alloc o).heap.size = w1.heap.size + 1 := fun o => by simp
    obtain ⟨W0, hW0⟩ : ∃ W0, W0 = (w1.alloc (.cells #[.slice none 0 0, .bool false] 52)).alloc (.cells #[.pointer none, .pointer (some ⟨w1.heap.size, 0, none⟩)] 23) := ⟨_, rfl⟩
    have HN0 := Lib.hid (show NoPool W0 (.pointer (some ⟨w1.heap.size, 0, none⟩)) from .inr ⟨w1.heap.size, rfl, by rw [hW0]; exact blk_alloc (heap_alloc_new w1 _) _⟩)
    have HR0 := Lib.hid (show W0.heap[w1.heap.size + 1]? = some (.cells #[.pointer none, .pointer (some ⟨w1.heap.size, 0, none⟩)] 23 (0, 0)) by
      rw [hW0]
      have h := heap_alloc_new (w1.alloc (.cells #[.slice none 0 0, .bool false] 52)) (.cells #[.pointer none, .pointer (some ⟨w1.heap.size, 0, none⟩)] 23)
      rw [s1] at h
      exact h)
    have HB2 := Lib.hid (show Below w.heap.size w W0 by rw [hW0]; exact below_alloc (below_alloc HB1.out _) _)
    have HX2 := Lib.hid (show W0.heap[w.heap.size]? = some (.cells #[.int .i64 a0_0, .int .i64 a0_1, .int .i64 a0_2, .int .i64 a0_3, .int .i64 a0_4, .int .i64 a0_5, .slice A6 l6.length c6, .int .i64 a0_7, .int .i64 a0_8] 39 (0, 0)) by rw [hW0]; exact blk_alloc (blk_alloc HX1.out _) _)
    rw [← hW0]
    clear hW0 s1
    go_loopw [19] (fun s wr => ∃ i : Nat, i ≤ 2 ∧ s = .int .i64 (i : Int) ∧ Go.RowKit.Hid (Below w.heap.size w wr) ∧ Go.RowKit.Hid (wr.heap[w.heap.size]? = some (.cells #[.int .i64 a0_0, .int .i64 a0_1, .int .i64 a0_2, .int .i64 a0_3, .int .i64 a0_4, .int .i64 a0_5, .slice A6 l6.length c6, .int .i64 a0_7, .int .i64 a0_8] 39 (0, 0))) ∧ Go.RowKit.Hid (NoPool wr (.pointer (some ⟨w1.heap.size, 0, none⟩))) ∧ Go.RowKit.Hid (wr.heap[w1.heap.size + 1]? = some (.cells #[.pointer none, .pointer (some ⟨w1.heap.size, 0, none⟩)] 23 (0, 0)))) (fun s _ => 3 - (intOf s).toNat)
    case atStart => exact ⟨0, by omega, rfl, HB2, HX2, HN0, HR0⟩
    case round =>
      obtain ⟨i, hi, rfl, HB3, HX3, HN3, HR3⟩ := hrel
      clear HN0 HR0 HB2 HX2
      obtain ⟨x0, x1, x2, x3, x4, x5, x6, x7, x8, -⟩ := cells_9 HX3.out
      obtain ⟨r0, r1, -⟩ := cells_2 HR3.out
      by_cases h2 : i = 2
      · subst h2
        go_wp2_with (go_at_call 15; (with_reducible refine (awake32.calls _).mono ?_); rintro e w2 ⟨rfl, hb⟩)
        go_ret
        exact ⟨rfl, below_step HB3.out hb⟩
      · have hi2 : i = 0 ∨ i = 1 := by omega
        rcases hi2 with rfl | rfl
        · go_wp2_with (first
            | (go_at_call 8; go_loud (refine (nput_no (.pointer none) ⟨a0_1, a0_2, a0_3, a0_4, a0_5⟩ A6 l6.length c6 _ (.inl rfl)).mono ?_; rintro e w4 ⟨rfl, hb⟩; have HB4 := Lib.hid (below_step HB3.out hb); have HX4 := Lib.hid (blk_below HX3.out hb); have HN4 := Lib.hid (HN3.out.below hb); have HR4 := Lib.hid (blk_below HR3.out hb); clear x0 x1 x2 x3 x4 x5 x6 x7 x8; obtain ⟨x0, x1, x2, x3, x4, x5, x6, x7, x8, -⟩ := cells_9 HX4.out; clear hb))
            | (go_at_call 11; go_loud (refine (ngrant_no (.pointer none) ⟨a0_1, a0_2, a0_3, a0_4, a0_5⟩ a0_8 _ (.inl rfl)).mono ?_; rintro e w5 ⟨rfl, hb⟩; have HB5 := Lib.hid (below_step HB4.out hb); have HX5 := Lib.hid (blk_below HX4.out hb); have HN5 := Lib.hid (HN4.out.below hb); have HR5 := Lib.hid (blk_below HR4.out hb); clear x0 x1 x2 x3 x4 x5 x6 x7 x8; obtain ⟨x0, x1, x2, x3, x4, x5, x6, x7, x8, -⟩ := cells_9 HX5.out; clear hb))
            | (go_at_call 12; go_loud (refine (ntake_no (.pointer none) ⟨a0_1, a0_2, a0_3, a0_4, a0_5⟩ a0_7 a0_8 _ (.inl rfl)).mono ?_; rintro e w6 ⟨rfl, hb⟩; have HB6 := Lib.hid (below_step HB5.out hb); have HX6 := Lib.hid (blk_below HX5.out hb); have HN6 := Lib.hid (HN5.out.below hb); have HR6 := Lib.hid (blk_below HR5.out hb); clear x0 x1 x2 x3 x4 x5 x6 x7 x8; obtain ⟨x0, x1, x2, x3, x4, x5, x6, x7, x8, -⟩ := cells_9 HX6.out; clear hb))
            | (go_at_call 10; go_loud (refine (nmark_no (.pointer none) ⟨a0_1, a0_2, a0_3, a0_4, a0_5⟩ a0_8 _ (.inl rfl)).mono ?_; rintro e w7 ⟨rfl, hb⟩; have HB7 := Lib.hid (below_step HB6.out hb); have HX7 := Lib.hid (blk_below HX6.out hb); have HN7 := Lib.hid (HN6.out.below hb); have HR7 := Lib.hid (blk_below HR6.out hb); clear x0 x1 x2 x3 x4 x5 x6 x7 x8; obtain ⟨x0, x1, x2, x3, x4, x5, x6, x7, x8, -⟩ := cells_9 HX7.out; clear hb))
            | (go_at_call 14; go_loud (refine (ntotal_no (.pointer none) ⟨a0_1, a0_2, a0_3, a0_4, a0_5⟩ _ (.inl rfl)).mono ?_; rintro e w8 ⟨rfl, hb⟩; have HB8 := Lib.hid (below_step HB7.out hb); have HX8 := Lib.hid (blk_below HX7.out hb); have HN8 := Lib.hid (HN7.out.below hb); have HR8 := Lib.hid (blk_below HR7.out hb); clear x0 x1 x2 x3 x4 x5 x6 x7 x8; obtain ⟨x0, x1, x2, x3, x4, x5, x6, x7, x8, -⟩ := cells_9 HX8.out; clear hb))
            | (go_at_call 18; go_loud (refine (nhere_no (.pointer none) ⟨a0_1, a0_2, a0_3, a0_4, a0_5⟩ _ (.inl rfl)).mono ?_; rintro e w9 ⟨rfl, hb⟩; have HB9 := Lib.hid (below_step HB8.out hb); have HX9 := Lib.hid (blk_below HX8.out hb); have HN9 := Lib.hid (HN8.out.below hb); have HR9 := Lib.hid (blk_below HR8.out hb); clear x0 x1 x2 x3 x4 x5 x6 x7 x8; obtain ⟨x0, x1, x2, x3, x4, x5, x6, x7, x8, -⟩ := cells_9 HX9.out; clear hb))
            | (go_at_call 16; go_loud (refine (nfree_no (.pointer none) ⟨a0_1, a0_2, a0_3, a0_4, a0_5⟩ _ (.inl rfl)).mono ?_; rintro e w10 ⟨rfl, hb⟩; have HB10 := Lib.hid (below_step HB9.out hb); have HX10 := Lib.hid (blk_below HX9.out hb); have HN10 := Lib.hid (HN9.out.below hb); have HR10 := Lib.hid (blk_below HR9.out hb); clear x0 x1 x2 x3 x4 x5 x6 x7 x8; obtain ⟨x0, x1, x2, x3, x4, x5, x6, x7, x8, -⟩ := cells_9 HX10.out; clear hb))
            | (go_at_call 19; go_loud (refine (all_no (.pointer none) _ (.inl rfl)).mono ?_; rintro e w11 ⟨rfl, hb⟩; have HB11 := Lib.hid (below_step HB10.out hb); have HX11 := Lib.hid (blk_below HX10.out hb); have HN11 := Lib.hid (HN10.out.below hb); have HR11 := Lib.hid (blk_below HR10.out hb); clear x0 x1 x2 x3 x4 x5 x6 x7 x8; obtain ⟨x0, x1, x2, x3, x4, x5, x6, x7, x8, -⟩ := cells_9 HX11.out; clear hb)))
          go_roundw
          case rel => exact ⟨1, by omega, rfl, HB11, HX11, HN11, HR11⟩
          case measure => simp [intOf]
        · go_wp2_with (first
            | (go_at_call 8; go_loud (refine (nput_no (.pointer (some ⟨w1.heap.size, 0, none⟩)) ⟨a0_1, a0_2, a0_3, a0_4, a0_5⟩ A6 l6.length c6 _ HN3.out).mono ?_; rintro e w4 ⟨rfl, hb⟩; have HB4 := Lib.hid (below_step HB3.out hb); have HX4 := Lib.hid (blk_below HX3.out hb); have HN4 := Lib.hid (HN3.out.below hb); have HR4 := Lib.hid (blk_below HR3.out hb); clear x0 x1 x2 x3 x4 x5 x6 x7 x8; obtain ⟨x0, x1, x2, x3, x4, x5, x6, x7, x8, -⟩ := cells_9 HX4.out; clear hb))
            | (go_at_call 11; go_loud (refine (ngrant_no (.pointer (some ⟨w1.heap.size, 0, none⟩)) ⟨a0_1, a0_2, a0_3, a0_4, a0_5⟩ a0_8 _ HN4.out).mono ?_; rintro e w5 ⟨rfl, hb⟩; have HB5 := Lib.hid (below_step HB4.out hb); have HX5 := Lib.hid (blk_below HX4.out hb); have HN5 := Lib.hid (HN4.out.below hb); have HR5 := Lib.hid (blk_below HR4.out hb); clear x0 x1 x2 x3 x4 x5 x6 x7 x8; obtain ⟨x0, x1, x2, x3, x4, x5, x6, x7, x8, -⟩ := cells_9 HX5.out; clear hb))
            | (go_at_call 12; go_loud (refine (ntake_no (.pointer (some ⟨w1.heap.size, 0, none⟩)) ⟨a0_1, a0_2, a0_3, a0_4, a0_5⟩ a0_7 a0_8 _ HN5.out).mono ?_; rintro e w6 ⟨rfl, hb⟩; have HB6 := Lib.hid (below_step HB5.out hb); have HX6 := Lib.hid (blk_below HX5.out hb); have HN6 := Lib.hid (HN5.out.below hb); have HR6 := Lib.hid (blk_below HR5.out hb); clear x0 x1 x2 x3 x4 x5 x6 x7 x8; obtain ⟨x0, x1, x2, x3, x4, x5, x6, x7, x8, -⟩ := cells_9 HX6.out; clear hb))
            | (go_at_call 10; go_loud (refine (nmark_no (.pointer (some ⟨w1.heap.size, 0, none⟩)) ⟨a0_1, a0_2, a0_3, a0_4, a0_5⟩ a0_8 _ HN6.out).mono ?_; rintro e w7 ⟨rfl, hb⟩; have HB7 := Lib.hid (below_step HB6.out hb); have HX7 := Lib.hid (blk_below HX6.out hb); have HN7 := Lib.hid (HN6.out.below hb); have HR7 := Lib.hid (blk_below HR6.out hb); clear x0 x1 x2 x3 x4 x5 x6 x7 x8; obtain ⟨x0, x1, x2, x3, x4, x5, x6, x7, x8, -⟩ := cells_9 HX7.out; clear hb))
            | (go_at_call 14; go_loud (refine (ntotal_no (.pointer (some ⟨w1.heap.size, 0, none⟩)) ⟨a0_1, a0_2, a0_3, a0_4, a0_5⟩ _ HN7.out).mono ?_; rintro e w8 ⟨rfl, hb⟩; have HB8 := Lib.hid (below_step HB7.out hb); have HX8 := Lib.hid (blk_below HX7.out hb); have HN8 := Lib.hid (HN7.out.below hb); have HR8 := Lib.hid (blk_below HR7.out hb); clear x0 x1 x2 x3 x4 x5 x6 x7 x8; obtain ⟨x0, x1, x2, x3, x4, x5, x6, x7, x8, -⟩ := cells_9 HX8.out; clear hb))
            | (go_at_call 18; go_loud (refine (nhere_no (.pointer (some ⟨w1.heap.size, 0, none⟩)) ⟨a0_1, a0_2, a0_3, a0_4, a0_5⟩ _ HN8.out).mono ?_; rintro e w9 ⟨rfl, hb⟩; have HB9 := Lib.hid (below_step HB8.out hb); have HX9 := Lib.hid (blk_below HX8.out hb); have HN9 := Lib.hid (HN8.out.below hb); have HR9 := Lib.hid (blk_below HR8.out hb); clear x0 x1 x2 x3 x4 x5 x6 x7 x8; obtain ⟨x0, x1, x2, x3, x4, x5, x6, x7, x8, -⟩ := cells_9 HX9.out; clear hb))
            | (go_at_call 16; go_loud (refine (nfree_no (.pointer (some ⟨w1.heap.size, 0, none⟩)) ⟨a0_1, a0_2, a0_3, a0_4, a0_5⟩ _ HN9.out).mono ?_; rintro e w10 ⟨rfl, hb⟩; have HB10 := Lib.hid (below_step HB9.out hb); have HX10 := Lib.hid (blk_below HX9.out hb); have HN10 := Lib.hid (HN9.out.below hb); have HR10 := Lib.hid (blk_below HR9.out hb); clear x0 x1 x2 x3 x4 x5 x6 x7 x8; obtain ⟨x0, x1, x2, x3, x4, x5, x6, x7, x8, -⟩ := cells_9 HX10.out; clear hb))
            | (go_at_call 19; go_loud (refine (all_no (.pointer (some ⟨w1.heap.size, 0, none⟩)) _ HN10.out).mono ?_; rintro e w11 ⟨rfl, hb⟩; have HB11 := Lib.hid (below_step HB10.out hb); have HX11 := Lib.hid (blk_below HX10.out hb); have HN11 := Lib.hid (HN10.out.below hb); have HR11 := Lib.hid (blk_below HR10.out hb); clear x0 x1 x2 x3 x4 x5 x6 x7 x8; obtain ⟨x0, x1, x2, x3, x4, x5, x6, x7, x8, -⟩ := cells_9 HX11.out; clear hb)))
          go_roundw
          case rel => exact ⟨2, by omega, rfl, HB11, HX11, HN11, HR11⟩
          case measure => simp [intOf]
end Go.Proofs.Ytieaealkdjnolaa.P
