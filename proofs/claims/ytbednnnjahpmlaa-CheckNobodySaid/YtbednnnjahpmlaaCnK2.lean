/- CheckNobody: the law's text, walked. -/
import Derived.Test.YtbednnnjahpmlaaCnKn2
import Derived.Test.YtbednnnjahpmlaaCnPx0
import Derived.Test.YtbednnnjahpmlaaCnK0
namespace Go.Proofs.Ytbednnnjahpmlaa.P
open Go.RowKit Go.Maps Go.Proofs.YtbednnnjahpmlaaW.PrintWords Go.Proofs.YtbednnnjahpmlaaW.PrintLast Go.Proofs.YtbednnnjahpmlaaW.PrintMore
set_option linter.unusedVariables false
set_option linter.unusedSimpArgs false
attribute [local go_sem ↓] Go.wp_at_zero Go.wp_at_succ
/-! ### trefoillaw30_CheckNobody: function 3 -/
def trefoillaw30_CheckNobody.f (a0_0 a0_1 a0_2 a0_3 a0_4 : Int) (l1 : List S43) : Option Bool := some true
set_option maxHeartbeats 4000000 in
set_option maxRecDepth 100000 in
theorem trefoillaw30_CheckNobody.calls (a0_0 a0_1 a0_2 a0_3 a0_4 : Int) (A1 : Option Addr) (c1 : Nat) (l1 : List S43) (r : Bool) (w : World) (hr1 : Kd.C k43 w A1 l1.length l1) (hc1 : l1.length ≤ c1) (h : trefoillaw30_CheckNobody.f a0_0 a0_1 a0_2 a0_3 a0_4 l1 = some r) :
    Calls Try.prog 3 #[.agg #[.int .i64 a0_0, .int .i64 a0_1, .int .i64 a0_2, .int .i64 a0_3, .int .i64 a0_4], .slice A1 l1.length c1] w fun e w' => e = .returned (.bool r) ∧ Below w.heap.size w w' := by
  obtain rfl := Option.some.inj h
  clear h hr1 hc1
  have s1 : ∀ o, (w.alloc o).heap.size = w.heap.size + 1 := fun o => by simp
  have s2 : ∀ o p, ((w.alloc o).alloc p).heap.size = w.heap.size + 1 + 1 := fun o p => by simp
  have HB : Go.RowKit.Hid (∀ o p q, Below w.heap.size w (((w.alloc o).alloc p).alloc q)) := Lib.hid (fun o p q => below_alloc (below_alloc (below_alloc (Below.refl _ _) _) _) _)
  have HC : Go.RowKit.Hid (∀ cs p q, (((w.alloc (.cells cs 23)).alloc p).alloc q).heap[w.heap.size]? = some (.cells cs 23 (0, 0))) := Lib.hid (fun cs p q => blk_alloc (blk_alloc (heap_alloc_new w _) _) _)
  have HN : Go.RowKit.Hid (∀ o q, NoTrial (((w.alloc o).alloc (.cells #[.int .i64 0, .int .i64 0, .int .i64 0, .int .i64 0, .int .i64 0, .slice none 0 0, .slice none 0 0, .slice none 0 0, .slice none 0 0, .bool false, .bool false] 28)).alloc q) (w.heap.size + 1)) := Lib.hid (fun o q => by have := heap_alloc_new (w.alloc o) (.cells #[.int .i64 0, .int .i64 0, .int .i64 0, .int .i64 0, .int .i64 0, .slice none 0 0, .slice none 0 0, .slice none 0 0, .slice none 0 0, .bool false, .bool false] 28); rw [s1] at this; exact blk_alloc this _)
  have HR : Go.RowKit.Hid (∀ o p cs, (((w.alloc o).alloc p).alloc (.cells cs 25)).heap[w.heap.size + 1 + 1]? = some (.cells cs 25 (0, 0))) := Lib.hid (fun o p cs => by have := heap_alloc_new ((w.alloc o).alloc p) (.cells cs 25); rw [s2] at this; exact this)
  clear s1 s2
  go_enter Try.func3, Try.ntmps3
  go_wp2
  go_loopw [13] (fun s wr => ∃ i : Nat, i ≤ 2 ∧ s = .int .i64 (i : Int) ∧ Go.RowKit.Hid (Below w.heap.size w wr) ∧ Go.RowKit.Hid (wr.heap[w.heap.size]? = some (.cells #[.int .i64 a0_0, .int .i64 a0_1, .int .i64 a0_2, .int .i64 a0_3, .int .i64 a0_4] 23 (0, 0))) ∧ Go.RowKit.Hid (NoTrial wr (w.heap.size + 1)) ∧ Go.RowKit.Hid (wr.heap[w.heap.size + 1 + 1]? = some (.cells #[.pointer none, .pointer (some ⟨w.heap.size + 1, 0, none⟩)] 25 (0, 0)))) (fun s _ => 2 - (intOf s).toNat)
  case atStart => exact ⟨0, by omega, rfl, Lib.hid (HB.out _ _ _), Lib.hid (HC.out _ _ _), Lib.hid (HN.out _ _), Lib.hid (HR.out _ _ _)⟩
  case round =>
    obtain ⟨i, hi, rfl, HB0, HC0, HN0, HR0⟩ := hrel
    clear HB HC HN HR
    obtain ⟨e0, e1, e2, e3, e4, -⟩ := cells_5 HC0.out
    obtain ⟨r0, r1, -⟩ := cells_2 HR0.out
    by_cases h2 : i = 2
    · subst h2
      go_wp2_with (go_at_call 9; (with_reducible refine (awake30.calls _).mono ?_); rintro e w1 ⟨rfl, hb⟩)
      go_ret
      exact ⟨rfl, below_step HB0.out hb⟩
    · have hi2 : i = 0 ∨ i = 1 := by omega
      rcases hi2 with rfl | rfl
      · go_wp2_with (first
          | (go_at_call 4; (with_reducible refine (tkept_nil _).mono ?_); rintro e wx ⟨rfl, rfl⟩)
          | (go_at_call 5; (with_reducible refine (tlook_nil a0_0 a0_1 a0_2 a0_3 a0_4 (.slice A1 l1.length c1) _).mono ?_); rintro e w1 ⟨rfl, hb⟩; have HB1 := Lib.hid (below_step HB0.out hb); have HC1 := Lib.hid (blk_below HC0.out hb); have HN1 := Lib.hid (show NoTrial _ _ from blk_below HN0.out hb); have HR1 := Lib.hid (blk_below HR0.out hb); clear hb)
          | (go_at_call 6; (with_reducible refine (tpicked_nil _).mono ?_); rintro e wx ⟨rfl, rfl⟩)
          | (go_at_call 7; (with_reducible refine (topen_nil _).mono ?_); rintro e wx ⟨rfl, rfl⟩)
          | (go_at_call 8; (with_reducible refine (tbad_nil _).mono ?_); rintro e wx ⟨rfl, rfl⟩))
        go_roundw
        case rel => exact ⟨1, by omega, rfl, HB1, HC1, HN1, HR1⟩
        case measure => simp [intOf]
      · go_wp2_with (first
          | (go_at_call 4; (with_reducible refine (tkept_zero (w.heap.size + 1) _ HN0.out).mono ?_); rintro e w1 ⟨rfl, hb⟩; have HB1 := Lib.hid (below_step HB0.out hb); have HC1 := Lib.hid (blk_below HC0.out hb); have HN1 := Lib.hid (show NoTrial _ _ from blk_below HN0.out hb); have HR1 := Lib.hid (blk_below HR0.out hb); obtain ⟨d0, d1, d2, d3, d4, -⟩ := cells_5 HC1.out; clear hb)
          | (go_at_call 5; go_loud (refine (tlook_zero (w.heap.size + 1) a0_0 a0_1 a0_2 a0_3 a0_4 (.slice A1 l1.length c1) _ HN1.out).mono ?_); rintro e w2 ⟨rfl, hb⟩; have HB2 := Lib.hid (below_step HB1.out hb); have HC2 := Lib.hid (blk_below HC1.out hb); have HN2 := Lib.hid (show NoTrial _ _ from blk_below HN1.out hb); have HR2 := Lib.hid (blk_below HR1.out hb); clear hb)
          | (go_at_call 6; (with_reducible refine (tpicked_zero (w.heap.size + 1) _ HN2.out).mono ?_); rintro e w3 ⟨rfl, hb⟩; have HB3 := Lib.hid (below_step HB2.out hb); have HC3 := Lib.hid (blk_below HC2.out hb); have HN3 := Lib.hid (show NoTrial _ _ from blk_below HN2.out hb); have HR3 := Lib.hid (blk_below HR2.out hb); clear hb)
          | (go_at_call 7; (with_reducible refine (topen_zero (w.heap.size + 1) _ HN3.out).mono ?_); rintro e w4 ⟨rfl, hb⟩; have HB4 := Lib.hid (below_step HB3.out hb); have HC4 := Lib.hid (blk_below HC3.out hb); have HN4 := Lib.hid (show NoTrial _ _ from blk_below HN3.out hb); have HR4 := Lib.hid (blk_below HR3.out hb); clear hb)
          | (go_at_call 8; (with_reducible refine (tbad_zero (w.heap.size + 1) _ HN4.out).mono ?_); rintro e w5 ⟨rfl, hb⟩; have HB5 := Lib.hid (below_step HB4.out hb); have HC5 := Lib.hid (blk_below HC4.out hb); have HN5 := Lib.hid (show NoTrial _ _ from blk_below HN4.out hb); have HR5 := Lib.hid (blk_below HR4.out hb); clear hb))
        go_roundw
        case rel => exact ⟨2, by omega, rfl, HB5, HC5, HN5, HR5⟩
        case measure => simp [intOf]
end Go.Proofs.Ytbednnnjahpmlaa.P
