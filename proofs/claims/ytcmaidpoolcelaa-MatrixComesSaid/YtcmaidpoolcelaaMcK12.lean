/- Functions of the program as plain Lean functions, and proofs that the machine's calls do what these do: written by a program of this workplace (wip/tools/pp.py). -/
import Derived.Test.YtcmaidpoolcelaaMcPx0
import Derived.Test.YtcmaidpoolcelaaMcK8
import Derived.Test.YtcmaidpoolcelaaMcK9
import Derived.Test.YtcmaidpoolcelaaMcK11
import Derived.Test.YtcmaidpoolcelaaMcSh
namespace Go.Proofs.Ytcmaidpoolcelaa.P
open Go.RowKit Go.Proofs.YtcmaidpoolcelaaW.PrintWords Go.Proofs.YtcmaidpoolcelaaW.PrintLast Go.Proofs.YtcmaidpoolcelaaW.PrintMore
attribute [local go_sem] max2_int min2_int max_two min_two max_three min_three max_four min_four   -- for this text's walks alone
set_option linter.unusedVariables false
set_option linter.unusedSimpArgs false

/-! ### matrix_Spread: function 52 -/
def matrix_Spread.l0 : Nat → List Int → List (S26) → Int → Int → Int → Int → Int → Int → Int → Option (List Int × Int)
 | 0, _, _, _, _, _, _, _, _, _ => none
 | k + 1, x7, x16, x17, x18, x1100000, x1100001, x1100002, x1100003, x1100004 => if x18 < x17 then (if 0 ≤ x18 then (if x18 < (x16.length : Int) then ((matrix_rows.f k x1100000 x1100001 x1100002 x1100003 x1100004 ((rd_T26 x16 x18).f1)).bind fun t1103 => (if x7.length + t1103.length < 17592186044416 then (matrix_Spread.l0 k (x7 ++ t1103) x16 x17 (wrap64 (x18 + 1)) x1100000 x1100001 x1100002 x1100003 x1100004) else (none))) else (none)) else (none)) else ((gilboa_Spread.f k x1100001 x1100004 x7).bind fun bt1109 => (some (bt1109.1, bt1109.2)))
def matrix_Spread.f (k : Nat) (a0_0 : Int) (a0_1 : Int) (a0_2 : Int) (a0_3 : Int) (a0_4 : Int) (l1 : List (S26)) : Option (List Int × Int) := (matrix_wrong.f k a0_0 a0_1 a0_2 a0_3 a0_4 l1).bind fun t1100 => (if t1100 = 0 then (matrix_Spread.l0 k ([] : List Int) l1 (l1.length : Int) 0 a0_0 a0_1 a0_2 a0_3 a0_4) else (some (([] : List Int), t1100)))
set_option maxHeartbeats 8000000 in
set_option maxRecDepth 100000 in
theorem matrix_Spread.calls (k : Nat) (a0_0 : Int) (a0_1 : Int) (a0_2 : Int) (a0_3 : Int) (a0_4 : Int) (A1 : Option Addr) (c1 : Nat) (l1 : List (S26)) (r1 : List Int) (r2 : Int) (w : World) (hr1 : Kd.C k26 w A1 l1.length l1) (hc1 : l1.length ≤ c1) (h : matrix_Spread.f k a0_0 a0_1 a0_2 a0_3 a0_4 l1 = some (r1, r2)) :
  Calls Try.prog 52 #[.agg #[.int .i64 a0_0, .int .i64 a0_1, .int .i64 a0_2, .int .i64 a0_3, .int .i64 a0_4], .slice A1 l1.length c1] w fun e w' => ∃ v0_ : Value, e = .returned (.tuple #[v0_, .int .i64 r2]) ∧ Kd.R (Kd.int .u64) 35 w' w.heap.size (fun _ => True) v0_ r1 ∧ Below w.heap.size w w' := by
 have hu23 := Try.underlying23
 have hu26 := Try.underlying26
 have HR1 := Aside0.mk hr1
 have HC1 := Aside0.mk hc1
 clear hr1 hc1
 have HB := Aside0.mk (Below.refl w.heap.size w)
 have H : ((matrix_wrong.f k a0_0 a0_1 a0_2 a0_3 a0_4 l1).bind fun t1100 => (if t1100 = 0 then (matrix_Spread.l0 k ([] : List Int) l1 (l1.length : Int) 0 a0_0 a0_1 a0_2 a0_3 a0_4) else (some (([] : List Int), t1100)))) = some (r1, r2) := h
 clear h
 replace H := Option.bind_eq_some_iff.mp H
 obtain ⟨t1100, A30, H⟩ := H
 replace H : (if t1100 = 0 then (matrix_Spread.l0 k ([] : List Int) l1 (l1.length : Int) 0 a0_0 a0_1 a0_2 a0_3 a0_4) else (some (([] : List Int), t1100))) = some (r1, r2) := H
 have A3 := Aside0.mk A30
 clear A30
 by_cases c4 : t1100 = 0
 ·rw [if_pos c4] at H
  have c4b0 : (t1100 == 0) = true := beq_iff_eq.mpr c4
  have c4b1 : (t1100 != 0) = false := bne_eq_false_iff_eq.mpr c4
  clear c4
  have H' := Aside0.mk H
  clear H
  go_enter Try.func52, Try.ntmps52
  go_wp2_with (first | ((with_reducible refine gate_dst (N := 2) rfl ?_); refine box_event ?hg (N := 2) ?hd (cs := #[.int .i64 a0_0, .int .i64 a0_1, .int .i64 a0_2, .int .i64 a0_3, .int .i64 a0_4]) (t := 23) ?hr ?_; (case hd => rfl); (case hg => rfl); (case hr => first | (go_simp; done) | (go_simp; rfl)); intro gb1099 hg w5 hbox hb; have n0_ := Aside0.mk (below_step (zq35) hb); have n1_ := Aside0.mk (hbox); have n2_ := Aside0.mk ((zq19 : w.heap.size ≤ gb1099)); have n3_ := Aside0.mk ((zq19 : w.heap.size ≤ gb1099)); clear HB; have HB := n0_; have BK1099 := n1_; have GW1099 := n2_; have GE1099 := n3_; clear n0_ n1_ n2_ n3_; clear hb hbox hg; have hcz6_0 : w5.cell? ⟨gb1099, 0, none⟩ = some (.int .i64 a0_0) := (blk_cell BK1099.out 0).trans rfl; have hcz6_1 : w5.cell? ⟨gb1099, 1, none⟩ = some (.int .i64 a0_1) := (blk_cell BK1099.out 1).trans rfl; have hcz6_2 : w5.cell? ⟨gb1099, 2, none⟩ = some (.int .i64 a0_2) := (blk_cell BK1099.out 2).trans rfl; have hcz6_3 : w5.cell? ⟨gb1099, 3, none⟩ = some (.int .i64 a0_3) := (blk_cell BK1099.out 3).trans rfl; have hcz6_4 : w5.cell? ⟨gb1099, 4, none⟩ = some (.int .i64 a0_4) := (blk_cell BK1099.out 4).trans rfl; have hfz6_0 := blk_frozen BK1099.out 0; have hfz6_1 := blk_frozen BK1099.out 1; have hfz6_2 := blk_frozen BK1099.out 2; have hfz6_3 := blk_frozen BK1099.out 3; have hfz6_4 := blk_frozen BK1099.out 4) | ((with_reducible refine gate_callee (f := 79) rfl ?_); refine goesL_ (some 12) rfl rfl Try.func79 (zq56) rfl #[.agg #[.int .i64 a0_0, .int .i64 a0_1, .int .i64 a0_2, .int .i64 a0_3, .int .i64 a0_4], .slice A1 l1.length c1] rfl (zq33) ?_; (with_reducible refine (matrix_wrong.calls k a0_0 a0_1 a0_2 a0_3 a0_4 _ _ l1 t1100 _ ?side1 ?side2 A3.out).mono ?_); (case side1 => repeat (first | exact (Kd.C_below HR1.out HB.out) | (with_reducible refine Kd.C_alloc ?_ _) | (with_reducible refine Kd.C_drewN ?_ _) | (with_reducible refine Kd.C_drew ?_))); (case side2 => exact HC1.out); rintro e w7 ⟨rfl, hb⟩; refine ⟨_, rfl, ?_⟩; have n0_ := Aside0.mk (blk_below (g := gb1099) (o := .cells #[.int .i64 a0_0, .int .i64 a0_1, .int .i64 a0_2, .int .i64 a0_3, .int .i64 a0_4] 23 (0, 0)) (zq38) hb); have n1_ := Aside0.mk (below_step (zq20) hb); clear BK1099; clear HB; have BK1099 := n0_; have HB := n1_; clear n0_ n1_; (try clear hb); (try clear hb2); (try clear hk); (try clear hi)))
  go_loopg [7, 18] k (fun kq v7 v18 w' => ∃ (x7_1 : List Int) (x18_1 : Int), v18 = .int .i64 x18_1 ∧ Aside0 (matrix_Spread.l0 kq x7_1 l1 (l1.length : Int) x18_1 a0_0 a0_1 a0_2 a0_3 a0_4 = some (r1, r2)) ∧ Aside0 (kq ≤ k) ∧ Aside0 (Kd.R (Kd.int .u64) 35 w' w.heap.size (fun _ => True) v7 x7_1) ∧ Aside0 (w'.heap[gb1099]? = some (.cells #[.int .i64 a0_0, .int .i64 a0_1, .int .i64 a0_2, .int .i64 a0_3, .int .i64 a0_4] 23 (0, 0))) ∧ Aside0 (Below w.heap.size w w'))
  case atStart => exact ⟨(([] : List Int)), (0), (zq52), H', ⟨Nat.le_refl _⟩, ⟨zq32⟩, ⟨zq38⟩, ⟨zq20⟩⟩
  case round =>
   clear H'
   try clear c1
   try clear p2
   try clear c4
   try clear c4b0
   try clear c4b1
   try clear c5
   try clear c7
   try clear hcz6_0
   try clear hcz6_1
   try clear hcz6_2
   try clear hcz6_3
   try clear hcz6_4
   try clear hfz6_0
   try clear hfz6_1
   try clear hfz6_2
   try clear hfz6_3
   try clear hfz6_4
   obtain ⟨x7_1, x18_1, rfl, HA, HK1, HO_7, BK1099, HB⟩ := hrel
   cases gk with
   | zero => exact absurd HA.out (by simp [matrix_Spread.l0])
   | succ k1 =>
    have H := HA.out
    clear HA
    simp only [matrix_Spread.l0] at H
    by_cases c8 : x18_1 < (l1.length : Int)
    ·rw [if_pos c8] at H
     have c8b0 : decide (x18_1 < (l1.length : Int)) = true := decide_eq_true c8
     clear c8
     by_cases c9 : 0 ≤ x18_1
     ·rw [if_pos c9] at H
      have c9b0 : decide (0 ≤ x18_1) = true := decide_eq_true c9
      clear c9
      by_cases c10 : x18_1 < (l1.length : Int)
      ·rw [if_pos c10] at H
       have c10b0 : decide (x18_1 < (l1.length : Int)) = true := decide_eq_true c10
       clear c10
       replace H := Option.bind_eq_some_iff.mp H
       obtain ⟨t1103, A110, H⟩ := H
       replace H : (if x7_1.length + t1103.length < 17592186044416 then (matrix_Spread.l0 k1 (x7_1 ++ t1103) l1 (l1.length : Int) (wrap64 (x18_1 + 1)) a0_0 a0_1 a0_2 a0_3 a0_4) else (none)) = some (r1, r2) := H
       have A11 := Aside0.mk A110
       clear A110
       by_cases c12 : x7_1.length + t1103.length < 17592186044416
       ·rw [if_pos c12] at H
        have LMc12 := Aside0.mk c12
        clear c12
        obtain ⟨y1106, hy1106⟩ : ∃ y_ : List Int, y_ = (x7_1 ++ t1103) := ⟨_, rfl⟩
        replace H : (matrix_Spread.l0 k1 y1106 l1 (l1.length : Int) (wrap64 (x18_1 + 1)) a0_0 a0_1 a0_2 a0_3 a0_4) = some (r1, r2) := by first | (rw [hy1106]; with_reducible exact H) | (have H2_ := (Option.bind_some _ _).symm.trans H; rw [hy1106]; with_reducible exact H2_) | (have H2_ := (Option.bind_some _ _).symm.trans H; with_reducible exact H2_) | with_reducible exact H | (rw [hy1106]; exact H) | exact H
        have Ny1106 := Aside0.mk hy1106
        clear hy1106
        have H' := Aside0.mk H
        clear H
        have p1101 : 0 ≤ (x18_1 : Int) := of_decide_eq_true (zq51)
        have q1101 : x18_1 < (l1.length : Int) := of_decide_eq_true (zq51)
        obtain ⟨ad1101, A1101_0, c1101_0, A1101_1, c1101_1, A1101_2, c1101_2, e1101, hx1101_0, hx1101_1, hx1101_2, hl1101_0, hi1101_0, hl1101_1, hi1101_1, hl1101_2, hi1101_2⟩ := at_T26 HR1.out x18_1 p1101 q1101
        cases e1101
        replace hx1101_0 := (HB.out.cell (World.block_lt_of_cell? w _ hx1101_0)).trans hx1101_0
        replace hx1101_1 := (HB.out.cell (World.block_lt_of_cell? w _ hx1101_1)).trans hx1101_1
        replace hx1101_2 := (HB.out.cell (World.block_lt_of_cell? w _ hx1101_2)).trans hx1101_2
        have HR1101_0 := Aside0.mk hi1101_0
        have HC1101_0 := Aside0.mk hl1101_0
        clear hi1101_0 hl1101_0
        have HR1101_1 := Aside0.mk hi1101_1
        have HC1101_1 := Aside0.mk hl1101_1
        clear hi1101_1 hl1101_1
        have HR1101_2 := Aside0.mk hi1101_2
        have HC1101_2 := Aside0.mk hl1101_2
        clear hi1101_2 hl1101_2
        replace p1101 := eq_true p1101
        replace q1101 := eq_true q1101
        go_wp2_with (first | ((with_reducible refine gate_dst (N := 9) rfl ?_); refine box_event ?hg (N := 9) ?hd (cs := #[.slice none 0 0, .slice none 0 0, .slice none 0 0]) (t := 26) ?hr ?_; (case hd => rfl); (case hg => rfl); (case hr => first | (go_simp; done) | (go_simp; rfl)); intro gb1102 hg w13 hbox hb; have n0_ := Aside0.mk (Kd.R_below (zq48) hb); have n1_ := Aside0.mk (blk_below (g := gb1099) (o := .cells #[.int .i64 a0_0, .int .i64 a0_1, .int .i64 a0_2, .int .i64 a0_3, .int .i64 a0_4] 23 (0, 0)) (zq38) hb); have n2_ := Aside0.mk (below_step (zq20) hb); have n3_ := Aside0.mk (hbox); have n4_ := Aside0.mk ((by rw [hg]; exact (below_size (by repeat (first | (with_reducible first | exact HB.out | apply below_alloc | apply pw_below_drewN | apply below_drew1 | refine below_set ?_ GE1099.out) | exact HB.out))) : w.heap.size ≤ gb1102)); have n5_ := Aside0.mk ((by rw [hg]; exact (below_size (by repeat (first | (with_reducible first | exact HB.out | apply below_alloc | apply pw_below_drewN | apply below_drew1 | refine below_set ?_ GE1099.out) | exact HB.out))) : w.heap.size ≤ gb1102)); have n6_ := Aside0.mk ((by rw [hg]; exact Nat.ne_of_lt (blk_lt (g := gb1099) (o := .cells #[.int .i64 a0_0, .int .i64 a0_1, .int .i64 a0_2, .int .i64 a0_3, .int .i64 a0_4] 23 (0, 0)) (by (with_reducible repeat (first | refine blk_drewN ?_ _ | refine blk_drew ?_ | refine blk_alloc ?_ _)); exact BK1099.out)) : gb1099 ≠ gb1102)); have n7_ := Aside0.mk ((by rw [hg]; exact Nat.ne_of_gt (blk_lt (g := gb1099) (o := .cells #[.int .i64 a0_0, .int .i64 a0_1, .int .i64 a0_2, .int .i64 a0_3, .int .i64 a0_4] 23 (0, 0)) (by (with_reducible repeat (first | refine blk_drewN ?_ _ | refine blk_drew ?_ | refine blk_alloc ?_ _)); exact BK1099.out)) : gb1102 ≠ gb1099)); clear HO_7; clear BK1099; clear HB; have HO_7 := n0_; have BK1099 := n1_; have HB := n2_; have BK1102 := n3_; have GW1102 := n4_; have GE1102 := n5_; have NB1099_1102 := n6_; have NB1102_1099 := n7_; clear n0_ n1_ n2_ n3_ n4_ n5_ n6_ n7_; clear hb hbox hg; have hnb14 := NB1102_1099.out; have hnc14 := NB1099_1102.out; have hcz15_0 : w13.cell? ⟨gb1102, 0, none⟩ = some (.slice none 0 0) := (blk_cell BK1102.out 0).trans rfl; have hcz15_1 : w13.cell? ⟨gb1102, 1, none⟩ = some (.slice none 0 0) := (blk_cell BK1102.out 1).trans rfl; have hcz15_2 : w13.cell? ⟨gb1102, 2, none⟩ = some (.slice none 0 0) := (blk_cell BK1102.out 2).trans rfl; have hfz15_0 := blk_frozen BK1102.out 0; have hfz15_1 := blk_frozen BK1102.out 1; have hfz15_2 := blk_frozen BK1102.out 2; have hcz16_0 : w13.cell? ⟨gb1099, 0, none⟩ = some (.int .i64 a0_0) := (blk_cell BK1099.out 0).trans rfl; have hcz16_1 : w13.cell? ⟨gb1099, 1, none⟩ = some (.int .i64 a0_1) := (blk_cell BK1099.out 1).trans rfl; have hcz16_2 : w13.cell? ⟨gb1099, 2, none⟩ = some (.int .i64 a0_2) := (blk_cell BK1099.out 2).trans rfl; have hcz16_3 : w13.cell? ⟨gb1099, 3, none⟩ = some (.int .i64 a0_3) := (blk_cell BK1099.out 3).trans rfl; have hcz16_4 : w13.cell? ⟨gb1099, 4, none⟩ = some (.int .i64 a0_4) := (blk_cell BK1099.out 4).trans rfl; have hfz16_0 := blk_frozen BK1099.out 0; have hfz16_1 := blk_frozen BK1099.out 1; have hfz16_2 := blk_frozen BK1099.out 2; have hfz16_3 := blk_frozen BK1099.out 3; have hfz16_4 := blk_frozen BK1099.out 4) | ((with_reducible refine gate_callee (f := 85) rfl ?_); refine goesL_ (some 26) rfl rfl Try.func85 (zq56) rfl #[.agg #[.int .i64 a0_0, .int .i64 a0_1, .int .i64 a0_2, .int .i64 a0_3, .int .i64 a0_4], .slice A1101_1 ((rd_T26 l1 x18_1).f1).length c1101_1] rfl (zq33) ?_; (with_reducible refine (matrix_rows.calls k1 a0_0 a0_1 a0_2 a0_3 a0_4 _ _ ((rd_T26 l1 x18_1).f1) t1103 _ ?side1 ?side2 A11.out).mono ?_); (case side1 => exact Kd.C_below HR1101_1.out (zq13)); (case side2 => exact HC1101_1.out); rintro e w17 ⟨v1104, rfl, ho0, hb⟩; refine ⟨_, rfl, ?_⟩; have n0_ := Aside0.mk (Kd.R_elder' (zq2) (Kd.R_base ho0) hb); have n1_ := Aside0.mk (Kd.R_lower (Kd.R_new' ho0 (Kd.R_lt (zq2))) (below_size (zq13))); have n2_ := Aside0.mk (blk_below (g := gb1099) (o := .cells #[.int .i64 a0_0, .int .i64 a0_1, .int .i64 a0_2, .int .i64 a0_3, .int .i64 a0_4] 23 (0, 0)) (by (with_reducible repeat (first | refine blk_drewN ?_ _ | refine blk_drew ?_ | refine blk_alloc ?_ _)); refine blk_far ?_ NB1099_1102.out _; (with_reducible repeat (first | refine blk_drewN ?_ _ | refine blk_drew ?_ | refine blk_alloc ?_ _)); refine blk_far ?_ NB1099_1102.out _; (with_reducible repeat (first | refine blk_drewN ?_ _ | refine blk_drew ?_ | refine blk_alloc ?_ _)); refine blk_far ?_ NB1099_1102.out _; (with_reducible repeat (first | refine blk_drewN ?_ _ | refine blk_drew ?_ | refine blk_alloc ?_ _)); exact BK1099.out) hb); have n3_ := Aside0.mk (blk_below (g := gb1102) (o := .cells #[.slice A1101_0 ((rd_T26 l1 x18_1).f0).length c1101_0, .slice A1101_1 ((rd_T26 l1 x18_1).f1).length c1101_1, .slice A1101_2 ((rd_T26 l1 x18_1).f2).length c1101_2] 26 (0, 0)) (by (with_reducible repeat (first | refine blk_drewN ?_ _ | refine blk_drew ?_ | refine blk_alloc ?_ _)); refine blk_put (cs := #[.slice A1101_0 ((rd_T26 l1 x18_1).f0).length c1101_0, .slice A1101_1 ((rd_T26 l1 x18_1).f1).length c1101_1, .slice none 0 0]) ?_ 2 _ rfl; (with_reducible repeat (first | refine blk_drewN ?_ _ | refine blk_drew ?_ | refine blk_alloc ?_ _)); refine blk_put (cs := #[.slice A1101_0 ((rd_T26 l1 x18_1).f0).length c1101_0, .slice none 0 0, .slice none 0 0]) ?_ 1 _ rfl; (with_reducible repeat (first | refine blk_drewN ?_ _ | refine blk_drew ?_ | refine blk_alloc ?_ _)); refine blk_put (cs := #[.slice none 0 0, .slice none 0 0, .slice none 0 0]) ?_ 0 _ rfl; (with_reducible repeat (first | refine blk_drewN ?_ _ | refine blk_drew ?_ | refine blk_alloc ?_ _)); exact BK1102.out) hb); have n4_ := Aside0.mk (below_step (zq13) hb); clear HO_7; clear BK1099; clear BK1102; clear HB; have HO_7 := n0_; have HO1105 := n1_; have BK1099 := n2_; have BK1102 := n3_; have HB := n4_; clear n0_ n1_ n2_ n3_ n4_; (try clear hb); (try clear hb2); (try clear hk); (try clear hi); (try clear ho0); obtain ⟨Ao19, co19, eo19⟩ := Kd.R_slice HO1105.out; subst eo19) | ((with_reducible refine gate_builtin (b := .append) (xs := #[.tmp 22, .tmp 26]) rfl ?_); at_builtin; refine Kd.R_append_rows (Kd.int .u64) (w0 := w) w.heap.size rfl (.tmp 22) (.tmp 26) 24 35 (.int .u64 0) 8 rfl Try.underlying24 info35 rfl (by decide) (by omega) u7 x7_1 t1103 _ _ _ (fun k_ => some k_ ≠ (.slice Ao19 t1103.length co19 : Value).ownBlock) (fun _ => False) rfl rfl ?aO ?aR (fun _ _ h => h) (fun _ h => h.elim) ?aF ?aB ?aS ?aL ?_; (case aR => repeat (first | exact (Kd.R_reads' HO1105.out).2.2 | (with_reducible refine Kd.C_alloc ?_ _) | (with_reducible refine Kd.C_drewN ?_ _) | (with_reducible refine Kd.C_drew ?_))); (case aB => exact (zq13)); (case aF => exact (fun k_ hk => Kd.fresh' (Kd.R_lt (by (with_reducible repeat (first | apply Kd.R_alloc | apply Kd.R_drewN | apply Kd.R_drew)); exact HO1105.out)) k_ hk)); (case aO => exact (by (with_reducible repeat (first | apply Kd.R_alloc | apply Kd.R_drewN | apply Kd.R_drew)); exact Kd.R_mono HO_7.out (fun _ hk => hk.2))); (case aS => exact (below_size (zq13))); (case aL => have := LMc12.out; omega); intro v1107 w18 ho hb hg hat; rw [← Ny1106.out] at ho; have n0_ := Aside0.mk (blk_grown (g := gb1099) (o := .cells #[.int .i64 a0_0, .int .i64 a0_1, .int .i64 a0_2, .int .i64 a0_3, .int .i64 a0_4] 23 (0, 0)) (zq38) hg (Kd.R_ne HO_7.out BK1099.out (by decide))); have n1_ := Aside0.mk (blk_grown (g := gb1102) (o := .cells #[.slice A1101_0 ((rd_T26 l1 x18_1).f0).length c1101_0, .slice A1101_1 ((rd_T26 l1 x18_1).f1).length c1101_1, .slice A1101_2 ((rd_T26 l1 x18_1).f2).length c1101_2] 26 (0, 0)) (by (with_reducible repeat (first | refine blk_drewN ?_ _ | refine blk_drew ?_ | refine blk_alloc ?_ _)); exact BK1102.out) hg (Kd.R_ne HO_7.out BK1102.out (by decide))); have n2_ := Aside0.mk (Kd.R_after (ok := (fun _ => True)) (by (with_reducible repeat (first | apply Kd.R_alloc | apply Kd.R_drewN | apply Kd.R_drew)); exact HO1105.out) hg hat); have n3_ := Aside0.mk (hb); have n4_ := Aside0.mk (ho); clear BK1099; clear BK1102; clear HO1105; clear HB; clear HO_7; have BK1099 := n0_; have BK1102 := n1_; have HO1105 := n2_; have HB := n3_; have HO1108 := n4_; clear n0_ n1_ n2_ n3_ n4_; clear ho hb hg hat))
        go_roundg k1
        case measure => have := HK1.out; omega
        case rel => exact ⟨(y1106), (wrap64 (x18_1 + 1)), (zq52), H', ⟨zq55⟩, ⟨by (with_reducible repeat (first | apply Kd.R_alloc | apply Kd.R_drewN | apply Kd.R_drew)); exact Kd.R_mono HO1108.out (fun _ hk => trivial)⟩, ⟨zq38⟩, ⟨zq13⟩⟩
       ·rw [if_neg c12] at H
        exact absurd H (by simp)
      ·rw [if_neg c10] at H
       exact absurd H (by simp)
     ·rw [if_neg c9] at H
      exact absurd H (by simp)
    ·rw [if_neg c8] at H
     have c8b0 : decide (x18_1 < (l1.length : Int)) = false := decide_eq_false c8
     clear c8
     replace H := Option.bind_eq_some_iff.mp H
     obtain ⟨⟨t1109, t1112⟩, A200, H⟩ := H
     replace H : (some (t1109, t1112)) = some (r1, r2) := H
     have A20 := Aside0.mk A200
     clear A200
     simp only [Option.some.injEq, Prod.mk.injEq] at H
     obtain ⟨rfl, rfl⟩ := H
     have hcz21_0 : wr.cell? ⟨gb1099, 0, none⟩ = some (.int .i64 a0_0) := (blk_cell BK1099.out 0).trans rfl
     have hcz21_1 : wr.cell? ⟨gb1099, 1, none⟩ = some (.int .i64 a0_1) := (blk_cell BK1099.out 1).trans rfl
     have hcz21_2 : wr.cell? ⟨gb1099, 2, none⟩ = some (.int .i64 a0_2) := (blk_cell BK1099.out 2).trans rfl
     have hcz21_3 : wr.cell? ⟨gb1099, 3, none⟩ = some (.int .i64 a0_3) := (blk_cell BK1099.out 3).trans rfl
     have hcz21_4 : wr.cell? ⟨gb1099, 4, none⟩ = some (.int .i64 a0_4) := (blk_cell BK1099.out 4).trans rfl
     have hfz21_0 := blk_frozen BK1099.out 0
     have hfz21_1 := blk_frozen BK1099.out 1
     have hfz21_2 := blk_frozen BK1099.out 2
     have hfz21_3 := blk_frozen BK1099.out 3
     have hfz21_4 := blk_frozen BK1099.out 4
     obtain ⟨Ao22, co22, eo22⟩ := Kd.R_slice HO_7.out
     subst eo22
     go_wp2_with (first | ((with_reducible refine gate_callee (f := 77) rfl ?_); refine goesL_ (some 34) rfl rfl Try.func77 (zq56) rfl #[.int .i64 a0_1, .int .i64 a0_4, .slice Ao22 x7_1.length co22] rfl (zq33) ?_; (with_reducible refine (gilboa_Spread.calls k1 a0_1 a0_4 (fun k_ => some k_ = (.slice Ao22 x7_1.length co22 : Value).ownBlock) _ _ x7_1 t1109 t1112 _ ?side1 A20.out).mono ?_); (case side1 => exact Kd.R_V (Kd.R_tight rfl (Kd.R_types (HO_7.out) BK1099.out (by decide)))); rintro e w23 ⟨v1110, rfl, ho0, hb⟩; refine ⟨_, rfl, ?_⟩; have n0_ := Aside0.mk (Kd.R_elder' (zq48) (Kd.R_base ho0) hb); have n1_ := Aside0.mk (Kd.R_lower (Kd.R_new' (Kd.R_mono (ok' := fun k_ => True) ho0 (fun _ hk_ => trivial)) (Kd.R_lt (zq48))) (below_size (zq20))); have n2_ := Aside0.mk (blk_below (g := gb1099) (o := .cells #[.int .i64 a0_0, .int .i64 a0_1, .int .i64 a0_2, .int .i64 a0_3, .int .i64 a0_4] 23 (0, 0)) (zq38) hb); have n3_ := Aside0.mk (below_step (zq20) hb); clear HO_7; clear BK1099; clear HB; have HO_7 := n0_; have HO1111 := n1_; have BK1099 := n2_; have HB := n3_; clear n0_ n1_ n2_ n3_; (try clear hb); (try clear hb2); (try clear hk); (try clear hi); (try clear ho0)))
     go_ret2
     exact ⟨_, zq49, by (with_reducible repeat (first | apply Kd.R_alloc | apply Kd.R_drewN | apply Kd.R_drew)); exact Kd.R_mono HO1111.out (fun _ hk => trivial), zq20⟩
 ·rw [if_neg c4] at H
  have c4b0 : (t1100 == 0) = false := beq_eq_false_iff_ne.mpr c4
  have c4b1 : (t1100 != 0) = true := bne_iff_ne.mpr c4
  simp only [Option.some.injEq, Prod.mk.injEq] at H
  obtain ⟨rfl, rfl⟩ := H
  go_enter Try.func52, Try.ntmps52
  go_wp2_with (first | ((with_reducible refine gate_dst (N := 2) rfl ?_); refine box_event ?hg (N := 2) ?hd (cs := #[.int .i64 a0_0, .int .i64 a0_1, .int .i64 a0_2, .int .i64 a0_3, .int .i64 a0_4]) (t := 23) ?hr ?_; (case hd => rfl); (case hg => rfl); (case hr => first | (go_simp; done) | (go_simp; rfl)); intro gb1099 hg w24 hbox hb; have n0_ := Aside0.mk (below_step (zq35) hb); have n1_ := Aside0.mk (hbox); have n2_ := Aside0.mk ((zq19 : w.heap.size ≤ gb1099)); have n3_ := Aside0.mk ((zq19 : w.heap.size ≤ gb1099)); clear HB; have HB := n0_; have BK1099 := n1_; have GW1099 := n2_; have GE1099 := n3_; clear n0_ n1_ n2_ n3_; clear hb hbox hg; have hcz25_0 : w24.cell? ⟨gb1099, 0, none⟩ = some (.int .i64 a0_0) := (blk_cell BK1099.out 0).trans rfl; have hcz25_1 : w24.cell? ⟨gb1099, 1, none⟩ = some (.int .i64 a0_1) := (blk_cell BK1099.out 1).trans rfl; have hcz25_2 : w24.cell? ⟨gb1099, 2, none⟩ = some (.int .i64 a0_2) := (blk_cell BK1099.out 2).trans rfl; have hcz25_3 : w24.cell? ⟨gb1099, 3, none⟩ = some (.int .i64 a0_3) := (blk_cell BK1099.out 3).trans rfl; have hcz25_4 : w24.cell? ⟨gb1099, 4, none⟩ = some (.int .i64 a0_4) := (blk_cell BK1099.out 4).trans rfl; have hfz25_0 := blk_frozen BK1099.out 0; have hfz25_1 := blk_frozen BK1099.out 1; have hfz25_2 := blk_frozen BK1099.out 2; have hfz25_3 := blk_frozen BK1099.out 3; have hfz25_4 := blk_frozen BK1099.out 4) | ((with_reducible refine gate_callee (f := 79) rfl ?_); refine goesL_ (some 12) rfl rfl Try.func79 (zq56) rfl #[.agg #[.int .i64 a0_0, .int .i64 a0_1, .int .i64 a0_2, .int .i64 a0_3, .int .i64 a0_4], .slice A1 l1.length c1] rfl (zq33) ?_; (with_reducible refine (matrix_wrong.calls k a0_0 a0_1 a0_2 a0_3 a0_4 _ _ l1 t1100 _ ?side1 ?side2 A3.out).mono ?_); (case side1 => repeat (first | exact (Kd.C_below HR1.out HB.out) | (with_reducible refine Kd.C_alloc ?_ _) | (with_reducible refine Kd.C_drewN ?_ _) | (with_reducible refine Kd.C_drew ?_))); (case side2 => exact HC1.out); rintro e w26 ⟨rfl, hb⟩; refine ⟨_, rfl, ?_⟩; have n0_ := Aside0.mk (blk_below (g := gb1099) (o := .cells #[.int .i64 a0_0, .int .i64 a0_1, .int .i64 a0_2, .int .i64 a0_3, .int .i64 a0_4] 23 (0, 0)) (zq38) hb); have n1_ := Aside0.mk (below_step (zq20) hb); clear BK1099; clear HB; have BK1099 := n0_; have HB := n1_; clear n0_ n1_; (try clear hb); (try clear hb2); (try clear hk); (try clear hi)))
  go_ret2
  exact ⟨_, zq49, zq32, zq20⟩
end Go.Proofs.Ytcmaidpoolcelaa.P
