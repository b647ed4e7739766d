/- Which shares come to a triple of matrices: the law's text, walked. -/
import Derived.BigQuiet
import Derived.Deep.DrawnRows
import Derived.Deep.RegionHeld3
import Derived.IntWalk
import Derived.Lib.Hide
import Derived.Test.YtcmaidpoolcelaaMrPx0
import Derived.Test.YtcmaidpoolcelaaMrK4
import Derived.Test.YtcmaidpoolcelaaMrK6
import Derived.Test.YtcmaidpoolcelaaMrK8
namespace Go.Proofs.Ytcmaidpoolcelaa.P
open Go.RowKit Go.Proofs.YtcmaidpoolcelaaW.PrintWords Go.Proofs.YtcmaidpoolcelaaW.PrintLast Go.Proofs.YtcmaidpoolcelaaW.PrintMore
set_option linter.unusedVariables false
set_option linter.unusedSimpArgs false
attribute [local go_sem ↓] Go.wp_at_zero Go.wp_at_succ

/-! ### trefoillaw23_MatrixRights: function 5 -/
def trefoillaw23_MatrixRights.f (k : Nat) (a0_0 a0_1 a0_2 a0_3 a0_4 : Int) (l1_0 l1_1 l1_2 l2_0 l2_1 l2_2 : List Int) : Option Bool :=
  (trefoillaw23_small.f k [⟨l1_0, l1_1, l1_2⟩, ⟨l2_0, l2_1, l2_2⟩]).bind fun t => (trefoillaw23_awake.f k).bind fun z => if t = true then (matrix_Right.f k a0_0 a0_1 a0_2 a0_3 a0_4 l1_0 l1_1 l1_2 l2_0 l2_1 l2_2).bind fun x => (trefoilref22_Right.f k a0_0 a0_1 a0_2 a0_3 a0_4 2 l1_0 l1_1 l1_2 l2_0 l2_1 l2_2).bind fun y => some (x == y && z) else some z

set_option maxHeartbeats 4000000 in
set_option maxRecDepth 100000 in
theorem trefoillaw23_MatrixRights.calls (k : Nat) (a0_0 a0_1 a0_2 a0_3 a0_4 : Int) (A1_0 : Option Addr) (c1_0 : Nat) (l1_0 : List Int) (A1_1 : Option Addr) (c1_1 : Nat) (l1_1 : List Int) (A1_2 : Option Addr) (c1_2 : Nat) (l1_2 : List Int) (A2_0 : Option Addr) (c2_0 : Nat) (l2_0 : List Int) (A2_1 : Option Addr) (c2_1 : Nat) (l2_1 : List Int) (A2_2 : Option Addr) (c2_2 : Nat) (l2_2 : List Int) (r : Bool) (w : World) (hr1_0 : Kd.C (Kd.int .u64) w A1_0 l1_0.length l1_0) (hc1_0 : l1_0.length ≤ c1_0) (hr1_1 : Kd.C (Kd.int .u64) w A1_1 l1_1.length l1_1) (hc1_1 : l1_1.length ≤ c1_1) (hr1_2 : Kd.C (Kd.int .u64) w A1_2 l1_2.length l1_2) (hc1_2 : l1_2.length ≤ c1_2) (hr2_0 : Kd.C (Kd.int .u64) w A2_0 l2_0.length l2_0) (hc2_0 : l2_0.length ≤ c2_0) (hr2_1 : Kd.C (Kd.int .u64) w A2_1 l2_1.length l2_1) (hc2_1 : l2_1.length ≤ c2_1) (hr2_2 : Kd.C (Kd.int .u64) w A2_2 l2_2.length l2_2) (hc2_2 : l2_2.length ≤ c2_2) (h : trefoillaw23_MatrixRights.f k a0_0 a0_1 a0_2 a0_3 a0_4 l1_0 l1_1 l1_2 l2_0 l2_1 l2_2 = some r) :
    Calls Try.prog 5 #[.agg #[.int .i64 a0_0, .int .i64 a0_1, .int .i64 a0_2, .int .i64 a0_3, .int .i64 a0_4], .agg #[.slice A1_0 l1_0.length c1_0, .slice A1_1 l1_1.length c1_1, .slice A1_2 l1_2.length c1_2], .agg #[.slice A2_0 l2_0.length c2_0, .slice A2_1 l2_1.length c2_1, .slice A2_2 l2_2.length c2_2]] w fun e w' => e = .returned (.bool r) ∧ Below w.heap.size w w' := by
  obtain ⟨t, ht, h⟩ := Option.bind_eq_some_iff.mp h
  obtain ⟨z, hz, h⟩ := Option.bind_eq_some_iff.mp h
  have HT := Aside0.mk ht
  have HZ := Aside0.mk hz
  have HH := Aside0.mk h
  clear ht hz h
  have R10 := Aside0.mk hr1_0
  have R11 := Aside0.mk hr1_1
  have R12 := Aside0.mk hr1_2
  have R20 := Aside0.mk hr2_0
  have R21 := Aside0.mk hr2_1
  have R22 := Aside0.mk hr2_2
  clear hr1_0 hr1_1 hr1_2 hr2_0 hr2_1 hr2_2
  cases t with
  | false =>
    have hzr := HH.out
    rw [if_neg (by decide)] at hzr
    obtain rfl := Option.some.inj hzr
    clear hzr
    go_enter Try.func5, Try.ntmps5
    go_wp2_with (first | (go_at_call 21; refine (trefoillaw23_small.calls k (some ⟨w.heap.size + 3, 0, none⟩) 2 [⟨l1_0, l1_1, l1_2⟩, ⟨l2_0, l2_1, l2_2⟩] false _ ?hc (by simp) HT.out).mono ?_; (case hc => exact two_shares (by repeat (first | exact R10.out | apply Kd.C_alloc)) hc1_0 (by repeat (first | exact R11.out | apply Kd.C_alloc)) hc1_1 (by repeat (first | exact R12.out | apply Kd.C_alloc)) hc1_2 (by repeat (first | exact R20.out | apply Kd.C_alloc)) hc2_0 (by repeat (first | exact R21.out | apply Kd.C_alloc)) hc2_1 (by repeat (first | exact R22.out | apply Kd.C_alloc)) hc2_2 (blk_3 w _ _ _ _)); rintro e w1 ⟨rfl, hd⟩; have hdb := hd.below; have HB1 := Aside0.mk (blk_below (blk_0 w _ _ _ _) hdb); have HB2 := Aside0.mk (blk_below (blk_1 w _ _ _ _) hdb); have HB3 := Aside0.mk (blk_below (blk_2 w _ _ _ _) hdb); have HD := Aside0.mk (below_step (below_alloc (below_alloc (below_alloc (below_alloc (Below.refl w.heap.size w) _) _) _) _) hdb); clear hd hdb) | (go_at_call 22; refine (trefoillaw23_awake.calls k z _ HZ.out).mono ?_; rintro e w2 ⟨rfl, hb⟩; replace HD := Aside0.mk (below_step HD.out hb); clear hb))
    go_ret
    exact ⟨rfl, HD.out⟩
  | true =>
    have hzr := HH.out
    rw [if_pos rfl] at hzr
    obtain ⟨x, hx, hzr⟩ := Option.bind_eq_some_iff.mp hzr
    obtain ⟨y, hy, hzr⟩ := Option.bind_eq_some_iff.mp hzr
    have HX := Aside0.mk hx
    have HY := Aside0.mk hy
    obtain rfl := Option.some.inj hzr
    clear hx hy hzr
    go_enter Try.func5, Try.ntmps5
    go_wp2_with (first | (go_at_call 21; refine (trefoillaw23_small.calls k (some ⟨w.heap.size + 3, 0, none⟩) 2 [⟨l1_0, l1_1, l1_2⟩, ⟨l2_0, l2_1, l2_2⟩] true _ ?hc (by simp) HT.out).mono ?_; (case hc => exact two_shares (by repeat (first | exact R10.out | apply Kd.C_alloc)) hc1_0 (by repeat (first | exact R11.out | apply Kd.C_alloc)) hc1_1 (by repeat (first | exact R12.out | apply Kd.C_alloc)) hc1_2 (by repeat (first | exact R20.out | apply Kd.C_alloc)) hc2_0 (by repeat (first | exact R21.out | apply Kd.C_alloc)) hc2_1 (by repeat (first | exact R22.out | apply Kd.C_alloc)) hc2_2 (blk_3 w _ _ _ _)); rintro e w1 ⟨rfl, hd⟩; have hdb := hd.below; have HB1 := Aside0.mk (blk_below (blk_0 w _ _ _ _) hdb); have HB2 := Aside0.mk (blk_below (blk_1 w _ _ _ _) hdb); have HB3 := Aside0.mk (blk_below (blk_2 w _ _ _ _) hdb); have HD := Aside0.mk (below_step (below_alloc (below_alloc (below_alloc (below_alloc (Below.refl w.heap.size w) _) _) _) _) hdb); clear hd hdb))
    obtain ⟨e0, e1, e2, e3, e4, -⟩ := cells_5 HB1.out
    obtain ⟨s0, s1, s2, -⟩ := cells_3 HB2.out
    obtain ⟨o0, o1, o2, -⟩ := cells_3 HB3.out
    replace HB2 : Aside0 (w1.heap[w.heap.size + 1]? = _) := HB2
    replace HB3 : Aside0 (w1.heap[w.heap.size + 1 + 1]? = _) := HB3
    have HD' := Aside0.mk (below_drew HD.out)
    clear HB1 HB2 HB3
    rcases x with _ | _ <;> rcases y with _ | _
    all_goals
      go_region_held3 (fun w' => w'.cell? ⟨w.heap.size, 0, none⟩ = some (.int .i64 a0_0) ∧ w'.cell? ⟨w.heap.size, 1, none⟩ = some (.int .i64 a0_1) ∧ w'.cell? ⟨w.heap.size, 2, none⟩ = some (.int .i64 a0_2) ∧ w'.cell? ⟨w.heap.size, 3, none⟩ = some (.int .i64 a0_3) ∧ w'.cell? ⟨w.heap.size, 4, none⟩ = some (.int .i64 a0_4)
        ∧ w'.cell? ⟨w.heap.size + 1, 0, none⟩ = some (.slice A1_0 l1_0.length c1_0) ∧ w'.cell? ⟨w.heap.size + 1, 1, none⟩ = some (.slice A1_1 l1_1.length c1_1) ∧ w'.cell? ⟨w.heap.size + 1, 2, none⟩ = some (.slice A1_2 l1_2.length c1_2)
        ∧ w'.cell? ⟨w.heap.size + 1 + 1, 0, none⟩ = some (.slice A2_0 l2_0.length c2_0) ∧ w'.cell? ⟨w.heap.size + 1 + 1, 1, none⟩ = some (.slice A2_1 l2_1.length c2_1) ∧ w'.cell? ⟨w.heap.size + 1 + 1, 2, none⟩ = some (.slice A2_2 l2_2.length c2_2)) (go_keep)
        (first
          | (go_at_call 23; (with_reducible refine (matrix_Right.calls k a0_0 a0_1 a0_2 a0_3 a0_4 A1_0 c1_0 l1_0 A1_1 c1_1 l1_1 A1_2 c1_2 l1_2 A2_0 c2_0 l2_0 A2_1 c2_1 l2_1 A2_2 c2_2 l2_2 _ _ (Kd.C_below R10.out HD'.out) hc1_0 (Kd.C_below R11.out HD'.out) hc1_1 (Kd.C_below R12.out HD'.out) hc1_2 (Kd.C_below R20.out HD'.out) hc2_0 (Kd.C_below R21.out HD'.out) hc2_1 (Kd.C_below R22.out HD'.out) hc2_2 HX.out).mono ?_); rintro e w2 ⟨rfl, hb⟩; replace e0 := pw_cell_below hb e0; replace e1 := pw_cell_below hb e1; replace e2 := pw_cell_below hb e2; replace e3 := pw_cell_below hb e3; replace e4 := pw_cell_below hb e4; replace s0 := pw_cell_below hb s0; replace s1 := pw_cell_below hb s1; replace s2 := pw_cell_below hb s2; replace o0 := pw_cell_below hb o0; replace o1 := pw_cell_below hb o1; replace o2 := pw_cell_below hb o2; replace HD' := Aside0.mk (below_step HD'.out hb); clear hb)
          | (go_at_call 20; (with_reducible refine (trefoilref22_Right.calls k a0_0 a0_1 a0_2 a0_3 a0_4 2 A1_0 c1_0 l1_0 A1_1 c1_1 l1_1 A1_2 c1_2 l1_2 A2_0 c2_0 l2_0 A2_1 c2_1 l2_1 A2_2 c2_2 l2_2 _ _ (Kd.C_below R10.out HD'.out) hc1_0 (Kd.C_below R11.out HD'.out) hc1_1 (Kd.C_below R12.out HD'.out) hc1_2 (Kd.C_below R20.out HD'.out) hc2_0 (Kd.C_below R21.out HD'.out) hc2_1 (Kd.C_below R22.out HD'.out) hc2_2 HY.out).mono ?_); rintro e w3 ⟨rfl, hb⟩; replace e0 := pw_cell_below hb e0; replace e1 := pw_cell_below hb e1; replace e2 := pw_cell_below hb e2; replace e3 := pw_cell_below hb e3; replace e4 := pw_cell_below hb e4; replace s0 := pw_cell_below hb s0; replace s1 := pw_cell_below hb s1; replace s2 := pw_cell_below hb s2; replace o0 := pw_cell_below hb o0; replace o1 := pw_cell_below hb o1; replace o2 := pw_cell_below hb o2; replace HD' := Aside0.mk (below_step HD'.out hb); clear hb)
          | (go_at_call 22; (with_reducible refine (trefoillaw23_awake.calls k z _ HZ.out).mono ?_); rintro e w4 ⟨rfl, hb⟩; replace e0 := pw_cell_below hb e0; replace e1 := pw_cell_below hb e1; replace e2 := pw_cell_below hb e2; replace e3 := pw_cell_below hb e3; replace e4 := pw_cell_below hb e4; replace s0 := pw_cell_below hb s0; replace s1 := pw_cell_below hb s1; replace s2 := pw_cell_below hb s2; replace o0 := pw_cell_below hb o0; replace o1 := pw_cell_below hb o1; replace o2 := pw_cell_below hb o2; replace HD' := Aside0.mk (below_step HD'.out hb); clear hb))
      all_goals (go_wp2; go_ret; exact ⟨by first | rfl | simp, HD'.out⟩)
end Go.Proofs.Ytcmaidpoolcelaa.P
