/- ServeChecks: the law's text, walked. -/
import Derived.Test.YtmeafbjnjiadnaaVcPx0
import Derived.Test.YtmeafbjnjiadnaaVcSv8
import Derived.Test.YtmeafbjnjiadnaaVcK0
namespace Go.Proofs.Ytmeafbjnjiadnaa.P
open Go.RowKit Go.Maps Go.Proofs.YtmeafbjnjiadnaaW.PrintWords Go.Proofs.YtmeafbjnjiadnaaW.PrintLast Go.Proofs.YtmeafbjnjiadnaaW.PrintMore
set_option linter.unusedVariables false
set_option linter.unusedSimpArgs false
attribute [local go_sem ↓] Go.wp_at_zero Go.wp_at_succ
theorem tchk_r (k : Nat) (hk : 10 ≤ k) (t : Tk) : trefoilref33_Check.f k t.id t.k t.b t.m t.q t.n t.c = some (tchk t) := by
  unfold trefoilref33_Check.f tchk
  rw [Lem.check_r k hk, Option.bind_some]
  by_cases h : Lem.chk t.k t.b t.m t.q t.n = 0
  · rw [if_pos h, if_pos h]
    repeat' split
    all_goals rfl
  · rw [if_neg h, if_neg h]
    rfl
/-- a ticket lies in the first new block -/
def Lw (w : World) (t : Tk) (W : World) : Prop := Below w.heap.size w W ∧ W.heap[w.heap.size]? = some (.cells t.C 25 (0, 0))
theorem Lw.below {w W W' : World} {t : Tk} (h : Lw w t W) (hb : Below W.heap.size W W') : Lw w t W' := ⟨below_step h.1 hb, blk_below h.2 hb⟩
theorem Lw.full {w W : World} {t : Tk} (h : Lw w t W) : Lw w t W ∧ W.cell? ⟨w.heap.size, 0, none⟩ = some (.int .i64 t.id) ∧ W.cell? ⟨w.heap.size, 1, none⟩ = some (.int .i64 t.k) ∧ W.cell? ⟨w.heap.size, 2, none⟩ = some (.int .i64 t.b) ∧ W.cell? ⟨w.heap.size, 3, none⟩ = some (.int .i64 t.m) ∧ W.cell? ⟨w.heap.size, 4, none⟩ = some (.int .i64 t.q) ∧ W.cell? ⟨w.heap.size, 5, none⟩ = some (.int .i64 t.n) ∧ W.cell? ⟨w.heap.size, 6, none⟩ = some (.int .i64 t.c) := by
  obtain ⟨c0, c1, c2, c3, c4, c5, c6, -⟩ := cells_7 h.2
  exact ⟨h, c0, c1, c2, c3, c4, c5, c6⟩
/-! ### trefoillaw33_ServeChecks: function 3 -/
def trefoillaw33_ServeChecks.f (a0_0 a0_1 a0_2 a0_3 a0_4 a0_5 a0_6 : Int) : Option Bool := some true
set_option maxHeartbeats 4000000 in
set_option maxRecDepth 100000 in
theorem trefoillaw33_ServeChecks.calls (a0_0 a0_1 a0_2 a0_3 a0_4 a0_5 a0_6 : Int) (r : Bool) (w : World) (h : trefoillaw33_ServeChecks.f a0_0 a0_1 a0_2 a0_3 a0_4 a0_5 a0_6 = some r) :
    Calls Try.prog 3 #[.agg #[.int .i64 a0_0, .int .i64 a0_1, .int .i64 a0_2, .int .i64 a0_3, .int .i64 a0_4, .int .i64 a0_5, .int .i64 a0_6]] w fun e w' => e = .returned (.bool r) ∧ Below w.heap.size w w' := by
  obtain rfl := Option.some.inj h
  clear h
  obtain ⟨t, ht⟩ : ∃ t : Tk, t = ⟨a0_0, a0_1, a0_2, a0_3, a0_4, a0_5, a0_6⟩ := ⟨_, rfl⟩
  have HC := Lib.hid (fun W => scheck_ok t W)
  have HR := Lib.hid (fun W => (trefoilref33_Check.calls 10 t.id t.k t.b t.m t.q t.n t.c _ W (tchk_r 10 (by omega) t)))
  have HL := Lib.hid (show Lw w t (w.alloc (.cells t.C 25)) from ⟨below_alloc (Below.refl _ _) _, heap_alloc_new w _⟩)
  rw [show (.agg #[.int .i64 a0_0, .int .i64 a0_1, .int .i64 a0_2, .int .i64 a0_3, .int .i64 a0_4, .int .i64 a0_5, .int .i64 a0_6] : Value) = .agg t.C by rw [ht]]
  clear ht
  generalize tchk t = z at *
  go_enter Try.func3, Try.ntmps3
  go_wp2
  have hL := HL.out.full
  go_region_held3 (fun W => Lw w t W ∧ W.cell? ⟨w.heap.size, 0, none⟩ = some (.int .i64 t.id) ∧ W.cell? ⟨w.heap.size, 1, none⟩ = some (.int .i64 t.k) ∧ W.cell? ⟨w.heap.size, 2, none⟩ = some (.int .i64 t.b) ∧ W.cell? ⟨w.heap.size, 3, none⟩ = some (.int .i64 t.m) ∧ W.cell? ⟨w.heap.size, 4, none⟩ = some (.int .i64 t.q) ∧ W.cell? ⟨w.heap.size, 5, none⟩ = some (.int .i64 t.n) ∧ W.cell? ⟨w.heap.size, 6, none⟩ = some (.int .i64 t.c))
    ((refine Lw.full ?_; first | exact HLX.out | exact HLY.out | exact HLZ.out | exact HL.out | exact Lw.below HLZ.out (below_drew1 (Below.refl _ _)) | exact Lw.below HLY.out (below_drew1 (Below.refl _ _)) | exact Lw.below HLX.out (below_drew1 (Below.refl _ _)) | exact Lw.below HL.out (below_drew1 (Below.refl _ _))))
    (first
      | (go_at_call 5; go_loud (refine (HC.out _).mono ?_; rintro e w6 ⟨rfl, hb⟩; have HLX := Lib.hid (Lw.below (by first | assumption | exact And.left (by assumption)) hb); clear hb))
      | (go_at_call 6; go_loud (refine (HR.out _).mono ?_; rintro e w7 ⟨rfl, hd⟩; have hb := (by first | exact hd | exact hd.below : Below _ _ w7); have HLY := Lib.hid (Lw.below (by first | assumption | exact And.left (by assumption)) hb); clear hb hd))
      | (go_at_call 7; go_loud (refine (awake33.calls _).mono ?_; rintro e w8 ⟨rfl, hb⟩; have HLZ := Lib.hid (Lw.below (by first | assumption | exact And.left (by assumption)) hb); clear hb)))
  all_goals
    go_wp2
    go_ret
    exact ⟨rfl, HLZ.out.1⟩
end Go.Proofs.Ytmeafbjnjiadnaa.P
