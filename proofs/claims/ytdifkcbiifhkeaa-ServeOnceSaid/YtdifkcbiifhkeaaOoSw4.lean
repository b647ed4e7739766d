/- ServeOnce: the law's text, where the ticket may not be. -/
import Derived.Test.YtdifkcbiifhkeaaOoSw3
import Derived.Test.YtdifkcbiifhkeaaOoSv8
import Derived.Test.YtdifkcbiifhkeaaOoK2
namespace Go.Proofs.Ytdifkcbiifhkeaa.P
open Go.RowKit Go.Maps Go.Proofs.YtdifkcbiifhkeaaW.PrintWords Go.Proofs.YtdifkcbiifhkeaaW.PrintLast Go.Proofs.YtdifkcbiifhkeaaW.PrintMore
set_option linter.unusedVariables false
set_option linter.unusedSimpArgs false
attribute [local go_sem ↓] Go.wp_at_zero Go.wp_at_succ
theorem tchk_r (k : Nat) (hk : 10 ≤ k) (t : Tk) : trefoilref33_Check.f k t.id t.k t.b t.m t.q t.n t.c = some (tchk t) := by
  unfold trefoilref33_Check.f tchk
  rw [Lem.check_r k hk, Option.bind_some]
  by_cases h : Lem.chk t.k t.b t.m t.q t.n = 0
  · rw [if_pos h, if_pos h]
    repeat' split
    all_goals rfl
  · rw [if_neg h, if_neg h]
    rfl
abbrev oT (a c : Int) : Tk := ⟨a, 3, 1, 0, 0, 0, c⟩
set_option maxHeartbeats 4000000 in
set_option maxRecDepth 100000 in
theorem once_bad (a0 a1_0 a1_1 a1_2 a2 : Int) (A3 : Option Addr) (n3 c3 : Nat) (w : World) (hz : tchk (oT a0 a1_2) ≠ 0) :
    Calls Try.prog 3 #[.int .i64 a0, .agg #[.int .i64 a1_0, .int .i64 a1_1, .int .i64 a1_2], .int .i64 a2, .slice A3 n3 c3] w fun e w' => e = .returned (.bool true) ∧ Below w.heap.size w w' := by
  have HB0 := Lib.hid (below_alloc (Below.refl w.heap.size w) (.cells #[.int .i64 a1_0, .int .i64 a1_1, .int .i64 a1_2] 23))
  have HX0 := Lib.hid (heap_alloc_new w (.cells #[.int .i64 a1_0, .int .i64 a1_1, .int .i64 a1_2] 23))
  have HA := Lib.hid (fun g W mv cv h => ask_no g (oT a0 a1_2) W mv cv h hz)
  have HR := Lib.hid (fun W => (trefoilref33_Check.calls 10 a0 3 1 0 0 0 a1_2 _ W (tchk_r 10 (by omega) (oT a0 a1_2))))
  have hzb : (tchk (oT a0 a1_2) != 0) = true := by rw [bne_iff_ne]; exact hz
  generalize tchk (oT a0 a1_2) = z at *
  go_enter Try.func3, Try.ntmps3
  go_wp2_with (first
    | (go_at_call 4; refine (new_ok _).mono ?_; rintro e w1 ⟨g, mb, rfl, hT, hb⟩; have HB1 := Lib.hid (below_alloc (below_step HB0.out hb) (.cells (oT a0 a1_2).C 30)); have HX1 := Lib.hid (blk_below HX0.out hb); have HY1 := Lib.hid (heap_alloc_new w1 (.cells (oT a0 a1_2).C 30)); have HT1 := Lib.hid (hT.below (below_alloc (Below.refl _ _) (.cells (oT a0 a1_2).C 30))); obtain ⟨x0, x1, x2, -⟩ := cells_3 HX1.out; clear hb hT)
    | (go_at_call 5; go_loud (refine (HA.out g _ _ _ HT1.out.blk).mono ?_); rintro e w2 ⟨rfl, hb⟩; have HB2 := Lib.hid (below_step HB1.out hb); obtain ⟨y0, y1, y2, y3, y4, y5, y6, -⟩ := cells_7 (blk_below HY1.out hb); clear hb)
    | (go_at_call 6; go_loud (refine (HR.out _).mono ?_); rintro e w3 ⟨rfl, hd⟩; have HB3 := Lib.hid (below_step HB2.out (by first | exact hd | exact hd.below)); clear hd)
    | (go_at_call 7; go_loud (refine (awake33.calls _).mono ?_); rintro e w4 ⟨rfl, hd⟩; have HB4 := Lib.hid (below_step HB3.out hd); clear hd))
  go_ret
  exact ⟨rfl, HB4.out⟩
end Go.Proofs.Ytdifkcbiifhkeaa.P
