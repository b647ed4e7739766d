/- ServeNobody: the law's text, walked. -/
import Derived.Test.YtmeafbjnjiadnaaVnPx0
import Derived.Test.YtmeafbjnjiadnaaVnSv9
namespace Go.Proofs.Ytmeafbjnjiadnaa.P
open Go.RowKit Go.Maps Go.Proofs.YtmeafbjnjiadnaaW.PrintWords Go.Proofs.YtmeafbjnjiadnaaW.PrintLast Go.Proofs.YtmeafbjnjiadnaaW.PrintMore
set_option linter.unusedVariables false
set_option linter.unusedSimpArgs false
attribute [local go_sem ↓] Go.wp_at_zero Go.wp_at_succ
/-! ### trefoillaw33_ServeNobody: function 4 -/
def trefoillaw33_ServeNobody.f (a0_0 a0_1 a0_2 a0_3 a0_4 a0_5 a0_6 a0_7 a0_8 a0_9 a0_10 a0_11 : Int) : Option Bool := if (Lit.int .i64 a0_1).wf = true then some true else none
set_option maxHeartbeats 4000000 in
set_option maxRecDepth 100000 in
theorem trefoillaw33_ServeNobody.calls (a0_0 a0_1 a0_2 a0_3 a0_4 a0_5 a0_6 a0_7 a0_8 a0_9 a0_10 a0_11 : Int) (r : Bool) (w : World) (h : trefoillaw33_ServeNobody.f a0_0 a0_1 a0_2 a0_3 a0_4 a0_5 a0_6 a0_7 a0_8 a0_9 a0_10 a0_11 = some r) :
    Calls Try.prog 4 #[.agg #[.int .i64 a0_0, .int .i64 a0_1, .int .i64 a0_2, .int .i64 a0_3, .int .i64 a0_4, .int .i64 a0_5, .int .i64 a0_6, .int .i64 a0_7, .int .i64 a0_8, .int .i64 a0_9, .int .i64 a0_10, .int .i64 a0_11]] w fun e w' => e = .returned (.bool r) ∧ Below w.heap.size w w' := by
  unfold trefoillaw33_ServeNobody.f at h
  by_cases hk0 : (Lit.int .i64 a0_1).wf = true
  case neg => rw [if_neg hk0] at h; cases h
  rw [if_pos hk0] at h
  obtain rfl := Option.some.inj h
  have HK := Lib.hid hk0
  clear h hk0
  have s1 : ∀ o, (w.alloc o).heap.size = w.heap.size + 1 := fun o => by simp
  have s2 : ∀ o p, ((w.alloc o).alloc p).heap.size = w.heap.size + 1 + 1 := fun o p => by simp
  have HB : Go.RowKit.Hid (∀ o p q, Below w.heap.size w (((w.alloc o).alloc p).alloc q)) := Lib.hid (fun o p q => below_alloc (below_alloc (below_alloc (Below.refl _ _) _) _) _)
  have HC : Go.RowKit.Hid (∀ cs p q, (((w.alloc (.cells cs 34)).alloc p).alloc q).heap[w.heap.size]? = some (.cells cs 34 (0, 0))) := Lib.hid (fun cs p q => blk_alloc (blk_alloc (heap_alloc_new w _) _) _)
  have HN : Go.RowKit.Hid (∀ o q, NoTab (((w.alloc o).alloc (.cells #[.map none, .int .i64 0, .bool false] 38)).alloc q) (w.heap.size + 1)) := Lib.hid (fun o q => by have := heap_alloc_new (w.alloc o) (.cells #[.map none, .int .i64 0, .bool false] 38); rw [s1] at this; exact blk_alloc this _)
  have HR : Go.RowKit.Hid (∀ o p cs, (((w.alloc o).alloc p).alloc (.cells cs 35)).heap[w.heap.size + 1 + 1]? = some (.cells cs 35 (0, 0))) := Lib.hid (fun o p cs => by have := heap_alloc_new ((w.alloc o).alloc p) (.cells cs 35); rw [s2] at this; exact this)
  clear s1 s2
  go_enter Try.func4, Try.ntmps4
  go_wp2
  go_loopw [11] (fun s wr => ∃ i : Nat, i ≤ 2 ∧ s = .int .i64 (i : Int) ∧ Go.RowKit.Hid (Below w.heap.size w wr) ∧ Go.RowKit.Hid (wr.heap[w.heap.size]? = some (.cells #[.int .i64 a0_0, .int .i64 a0_1, .int .i64 a0_2, .int .i64 a0_3, .int .i64 a0_4, .int .i64 a0_5, .int .i64 a0_6, .int .i64 a0_7, .int .i64 a0_8, .int .i64 a0_9, .int .i64 a0_10, .int .i64 a0_11] 34 (0, 0))) ∧ Go.RowKit.Hid (NoTab wr (w.heap.size + 1)) ∧ Go.RowKit.Hid (wr.heap[w.heap.size + 1 + 1]? = some (.cells #[.pointer none, .pointer (some ⟨w.heap.size + 1, 0, none⟩)] 35 (0, 0)))) (fun s _ => 2 - (intOf s).toNat)
  case atStart => exact ⟨0, by omega, rfl, Lib.hid (HB.out _ _ _), Lib.hid (HC.out _ _ _), Lib.hid (HN.out _ _), Lib.hid (HR.out _ _ _)⟩
  case round =>
    obtain ⟨i, hi, rfl, HB0, HC0, HN0, HR0⟩ := hrel
    clear HB HC HN HR
    obtain ⟨x0, x1, x2, x3, x4, x5, x6, x7, x8, x9, x10, x11, -⟩ := cells_12 HC0.out
    obtain ⟨r0, r1, -⟩ := cells_2 HR0.out
    by_cases h2 : i = 2
    · subst h2
      go_wp2_with (go_at_call 7; (with_reducible refine (awake33.calls _).mono ?_); rintro e w1 ⟨rfl, hb⟩)
      go_ret
      exact ⟨rfl, below_step HB0.out hb⟩
    · have hi2 : i = 0 ∨ i = 1 := by omega
      rcases hi2 with rfl | rfl
      · go_wp2_with (first
          | (go_at_call 8; go_loud (refine (nget_nil a0_1 _).mono ?_; rintro e w1 ⟨rfl, hb⟩; have HB1 := Lib.hid (below_alloc (below_step HB0.out hb) (.cells zEc 41)); have HC1 := Lib.hid (blk_alloc (blk_below HC0.out hb) (.cells zEc 41)); have HN1 := Lib.hid (show NoTab _ _ from blk_alloc (blk_below HN0.out hb) (.cells zEc 41)); have HR1 := Lib.hid (blk_alloc (blk_below HR0.out hb) (.cells zEc 41)); have HE1 := Lib.hid (heap_alloc_new w1 (.cells zEc 41)); obtain ⟨y1_0, y1_1, y1_2, y1_3, y1_4, y1_5, y1_6, y1_7, y1_8, y1_9, y1_10, y1_11, -⟩ := cells_12 HC1.out; clear hb))
          | (go_at_call 9; go_loud (refine (ask_nil ⟨a0_1, a0_2, a0_3, a0_4, a0_5, a0_6, a0_7⟩ _).mono ?_; rintro e w2 ⟨rfl, hb⟩; have HB2 := Lib.hid (below_step HB1.out hb); have HC2 := Lib.hid (blk_below HC1.out hb); have HN2 := Lib.hid (show NoTab _ _ from blk_below HN1.out hb); have HR2 := Lib.hid (blk_below HR1.out hb); have HE2 := Lib.hid (blk_below HE1.out hb); obtain ⟨y2_0, y2_1, y2_2, y2_3, y2_4, y2_5, y2_6, y2_7, y2_8, y2_9, y2_10, y2_11, -⟩ := cells_12 HC2.out; clear hb))
          | (go_at_call 10; go_loud (refine (hear_nil ⟨a0_1, a0_2, a0_3, a0_4, a0_5, a0_6, a0_7⟩ _).mono ?_; rintro e w3 ⟨rfl, hb⟩; have HB3 := Lib.hid (below_step HB2.out hb); have HC3 := Lib.hid (blk_below HC2.out hb); have HN3 := Lib.hid (show NoTab _ _ from blk_below HN2.out hb); have HR3 := Lib.hid (blk_below HR2.out hb); have HE3 := Lib.hid (blk_below HE2.out hb); obtain ⟨y3_0, y3_1, y3_2, y3_3, y3_4, y3_5, y3_6, y3_7, y3_8, y3_9, y3_10, y3_11, -⟩ := cells_12 HC3.out; clear hb))
          | (go_at_call 11; go_loud (refine (ngrant_nil a0_1 a0_8 a0_9 a0_10 _).mono ?_; rintro e w4 ⟨rfl, hb⟩; have HB4 := Lib.hid (below_step HB3.out hb); have HC4 := Lib.hid (blk_below HC3.out hb); have HN4 := Lib.hid (show NoTab _ _ from blk_below HN3.out hb); have HR4 := Lib.hid (blk_below HR3.out hb); have HE4 := Lib.hid (blk_below HE3.out hb); obtain ⟨y4_0, y4_1, y4_2, y4_3, y4_4, y4_5, y4_6, y4_7, y4_8, y4_9, y4_10, y4_11, -⟩ := cells_12 HC4.out; clear hb))
          | (go_at_call 12; go_loud (refine (nrefuse_nil a0_1 a0_11 _).mono ?_; rintro e w5 ⟨rfl, hb⟩; have HB5 := Lib.hid (below_step HB4.out hb); have HC5 := Lib.hid (blk_below HC4.out hb); have HN5 := Lib.hid (show NoTab _ _ from blk_below HN4.out hb); have HR5 := Lib.hid (blk_below HR4.out hb); have HE5 := Lib.hid (blk_below HE4.out hb); obtain ⟨y5_0, y5_1, y5_2, y5_3, y5_4, y5_5, y5_6, y5_7, y5_8, y5_9, y5_10, y5_11, -⟩ := cells_12 HC5.out; obtain ⟨z5_0, z5_1, z5_2, z5_3, z5_4, z5_5, z5_6, z5_7, z5_8, z5_9, z5_10, z5_11, -⟩ := cells_12 HE5.out; clear hb))
          | (go_at_call 13; go_loud (refine (nmatched_nil  _).mono ?_; rintro e w6 ⟨rfl, hb⟩; have HB6 := Lib.hid (below_step HB5.out hb); have HC6 := Lib.hid (blk_below HC5.out hb); have HN6 := Lib.hid (show NoTab _ _ from blk_below HN5.out hb); have HR6 := Lib.hid (blk_below HR5.out hb); have HE6 := Lib.hid (blk_below HE5.out hb); clear hb))
          | (go_at_call 14; go_loud (refine (nunlike_nil  _).mono ?_; rintro e w7 ⟨rfl, hb⟩; have HB7 := Lib.hid (below_step HB6.out hb); have HC7 := Lib.hid (blk_below HC6.out hb); have HN7 := Lib.hid (show NoTab _ _ from blk_below HN6.out hb); have HR7 := Lib.hid (blk_below HR6.out hb); have HE7 := Lib.hid (blk_below HE6.out hb); clear hb))
          | (go_at_call 15; go_loud (refine (nwaiting_nil  _).mono ?_; rintro e w8 ⟨rfl, hb⟩; have HB8 := Lib.hid (below_step HB7.out hb); have HC8 := Lib.hid (blk_below HC7.out hb); have HN8 := Lib.hid (show NoTab _ _ from blk_below HN7.out hb); have HR8 := Lib.hid (blk_below HR7.out hb); have HE8 := Lib.hid (blk_below HE7.out hb); clear hb))
          | (go_at_call 16; go_loud (refine (nreset_nil  _).mono ?_; rintro e w9 ⟨rfl, hb⟩; have HB9 := Lib.hid (below_step HB8.out hb); have HC9 := Lib.hid (blk_below HC8.out hb); have HN9 := Lib.hid (show NoTab _ _ from blk_below HN8.out hb); have HR9 := Lib.hid (blk_below HR8.out hb); have HE9 := Lib.hid (blk_below HE8.out hb); clear hb))
          | (go_at_call 17; go_loud (refine (nlen_nil  _).mono ?_; rintro e w10 ⟨rfl, hb⟩; have HB10 := Lib.hid (below_step HB9.out hb); have HC10 := Lib.hid (blk_below HC9.out hb); have HN10 := Lib.hid (show NoTab _ _ from blk_below HN9.out hb); have HR10 := Lib.hid (blk_below HR9.out hb); have HE10 := Lib.hid (blk_below HE9.out hb); clear hb)))
        go_roundw
        case rel => exact ⟨1, by omega, rfl, HB10, HC10, HN10, HR10⟩
        case measure => simp [intOf]
      · go_wp2_with (first
          | (go_at_call 8; go_loud (refine (nget_zero (w.heap.size + 1) a0_1 HK.out _ HN0.out).mono ?_; rintro e w1 ⟨rfl, hb⟩; have HB1 := Lib.hid (below_alloc (below_step HB0.out hb) (.cells zEc 41)); have HC1 := Lib.hid (blk_alloc (blk_below HC0.out hb) (.cells zEc 41)); have HN1 := Lib.hid (show NoTab _ _ from blk_alloc (blk_below HN0.out hb) (.cells zEc 41)); have HR1 := Lib.hid (blk_alloc (blk_below HR0.out hb) (.cells zEc 41)); have HE1 := Lib.hid (heap_alloc_new w1 (.cells zEc 41)); obtain ⟨y1_0, y1_1, y1_2, y1_3, y1_4, y1_5, y1_6, y1_7, y1_8, y1_9, y1_10, y1_11, -⟩ := cells_12 HC1.out; clear hb))
          | (go_at_call 9; go_loud (refine (ask_zero (w.heap.size + 1) ⟨a0_1, a0_2, a0_3, a0_4, a0_5, a0_6, a0_7⟩ _ _ _ HN1.out).mono ?_; rintro e w2 ⟨rfl, hb⟩; have HB2 := Lib.hid (below_step HB1.out hb); have HC2 := Lib.hid (blk_below HC1.out hb); have HN2 := Lib.hid (show NoTab _ _ from blk_below HN1.out hb); have HR2 := Lib.hid (blk_below HR1.out hb); have HE2 := Lib.hid (blk_below HE1.out hb); obtain ⟨y2_0, y2_1, y2_2, y2_3, y2_4, y2_5, y2_6, y2_7, y2_8, y2_9, y2_10, y2_11, -⟩ := cells_12 HC2.out; clear hb))
          | (go_at_call 10; go_loud (refine (hear_zero (w.heap.size + 1) ⟨a0_1, a0_2, a0_3, a0_4, a0_5, a0_6, a0_7⟩ _ _ _ HN2.out).mono ?_; rintro e w3 ⟨rfl, hb⟩; have HB3 := Lib.hid (below_step HB2.out hb); have HC3 := Lib.hid (blk_below HC2.out hb); have HN3 := Lib.hid (show NoTab _ _ from blk_below HN2.out hb); have HR3 := Lib.hid (blk_below HR2.out hb); have HE3 := Lib.hid (blk_below HE2.out hb); obtain ⟨y3_0, y3_1, y3_2, y3_3, y3_4, y3_5, y3_6, y3_7, y3_8, y3_9, y3_10, y3_11, -⟩ := cells_12 HC3.out; clear hb))
          | (go_at_call 11; go_loud (refine (ngrant_zero (w.heap.size + 1) a0_1 a0_8 a0_9 a0_10 _ HN3.out).mono ?_; rintro e w4 ⟨rfl, hb⟩; have HB4 := Lib.hid (below_step HB3.out hb); have HC4 := Lib.hid (blk_below HC3.out hb); have HN4 := Lib.hid (show NoTab _ _ from blk_below HN3.out hb); have HR4 := Lib.hid (blk_below HR3.out hb); have HE4 := Lib.hid (blk_below HE3.out hb); obtain ⟨y4_0, y4_1, y4_2, y4_3, y4_4, y4_5, y4_6, y4_7, y4_8, y4_9, y4_10, y4_11, -⟩ := cells_12 HC4.out; clear hb))
          | (go_at_call 12; go_loud (refine (nrefuse_zero (w.heap.size + 1) a0_1 a0_11 _ HN4.out).mono ?_; rintro e w5 ⟨rfl, hb⟩; have HB5 := Lib.hid (below_step HB4.out hb); have HC5 := Lib.hid (blk_below HC4.out hb); have HN5 := Lib.hid (show NoTab _ _ from blk_below HN4.out hb); have HR5 := Lib.hid (blk_below HR4.out hb); have HE5 := Lib.hid (blk_below HE4.out hb); obtain ⟨y5_0, y5_1, y5_2, y5_3, y5_4, y5_5, y5_6, y5_7, y5_8, y5_9, y5_10, y5_11, -⟩ := cells_12 HC5.out; obtain ⟨z5_0, z5_1, z5_2, z5_3, z5_4, z5_5, z5_6, z5_7, z5_8, z5_9, z5_10, z5_11, -⟩ := cells_12 HE5.out; clear hb))
          | (go_at_call 13; go_loud (refine (nmatched_zero (w.heap.size + 1)  _ HN5.out).mono ?_; rintro e w6 ⟨rfl, hb⟩; have HB6 := Lib.hid (below_step HB5.out hb); have HC6 := Lib.hid (blk_below HC5.out hb); have HN6 := Lib.hid (show NoTab _ _ from blk_below HN5.out hb); have HR6 := Lib.hid (blk_below HR5.out hb); have HE6 := Lib.hid (blk_below HE5.out hb); clear hb))
          | (go_at_call 14; go_loud (refine (nunlike_zero (w.heap.size + 1)  _ HN6.out).mono ?_; rintro e w7 ⟨rfl, hb⟩; have HB7 := Lib.hid (below_step HB6.out hb); have HC7 := Lib.hid (blk_below HC6.out hb); have HN7 := Lib.hid (show NoTab _ _ from blk_below HN6.out hb); have HR7 := Lib.hid (blk_below HR6.out hb); have HE7 := Lib.hid (blk_below HE6.out hb); clear hb))
          | (go_at_call 15; go_loud (refine (nwaiting_zero (w.heap.size + 1)  _ HN7.out).mono ?_; rintro e w8 ⟨rfl, hb⟩; have HB8 := Lib.hid (below_step HB7.out hb); have HC8 := Lib.hid (blk_below HC7.out hb); have HN8 := Lib.hid (show NoTab _ _ from blk_below HN7.out hb); have HR8 := Lib.hid (blk_below HR7.out hb); have HE8 := Lib.hid (blk_below HE7.out hb); clear hb))
          | (go_at_call 16; go_loud (refine (nreset_zero (w.heap.size + 1)  _ HN8.out).mono ?_; rintro e w9 ⟨rfl, hb⟩; have HB9 := Lib.hid (below_step HB8.out hb); have HC9 := Lib.hid (blk_below HC8.out hb); have HN9 := Lib.hid (show NoTab _ _ from blk_below HN8.out hb); have HR9 := Lib.hid (blk_below HR8.out hb); have HE9 := Lib.hid (blk_below HE8.out hb); clear hb))
          | (go_at_call 17; go_loud (refine (nlen_zero (w.heap.size + 1)  _ HN9.out).mono ?_; rintro e w10 ⟨rfl, hb⟩; have HB10 := Lib.hid (below_step HB9.out hb); have HC10 := Lib.hid (blk_below HC9.out hb); have HN10 := Lib.hid (show NoTab _ _ from blk_below HN9.out hb); have HR10 := Lib.hid (blk_below HR9.out hb); have HE10 := Lib.hid (blk_below HE9.out hb); clear hb)))
        go_roundw
        case rel => exact ⟨2, by omega, rfl, HB10, HC10, HN10, HR10⟩
        case measure => simp [intOf]
end Go.Proofs.Ytmeafbjnjiadnaa.P
