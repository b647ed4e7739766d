/- Functions of the program as plain Lean functions, and proofs that the machine's calls do what these do: written by a program of this workplace (wip/tools/pp.py). -/
import Derived.Test.YtcmaidpoolcelaaMcPx0
import Derived.Test.YtcmaidpoolcelaaMcK8
import Derived.Test.YtcmaidpoolcelaaMcK9
import Derived.Test.YtcmaidpoolcelaaMcSh
namespace Go.Proofs.Ytcmaidpoolcelaa.P
open Go.RowKit Go.Proofs.YtcmaidpoolcelaaW.PrintWords Go.Proofs.YtcmaidpoolcelaaW.PrintLast Go.Proofs.YtcmaidpoolcelaaW.PrintMore
attribute [local go_sem] max2_int min2_int max_two min_two max_three min_three max_four min_four   -- for this text's walks alone
set_option linter.unusedVariables false
set_option linter.unusedSimpArgs false

-- NOT PRINTED: function 11 (trefoillaw22_ScalarComes)

/-! ### matrix_Choices: function 51 -/
def matrix_Choices.l0 : Nat → List Int → List (S26) → Int → Int → Int → Int → Int → Int → Int → Option (Int × List Int × Int)
 | 0, _, _, _, _, _, _, _, _, _ => none
 | k + 1, x7, x17, x18, x19, x1083000, x1083001, x1083002, x1083003, x1083004 => if x19 < x18 then (if 0 ≤ x19 then (if x19 < (x17.length : Int) then (if x7.length + ((rd_T26 x17 x19).f0).length < 17592186044416 then (matrix_Choices.l0 k (x7 ++ ((rd_T26 x17 x19).f0)) x17 x18 (wrap64 (x19 + 1)) x1083000 x1083001 x1083002 x1083003 x1083004) else (none)) else (none)) else (none)) else ((gilboa_Choices.f k x1083001 x7).bind fun bt1090 => (some (bt1090.1, bt1090.2.1, bt1090.2.2)))
def matrix_Choices.f (k : Nat) (a0_0 : Int) (a0_1 : Int) (a0_2 : Int) (a0_3 : Int) (a0_4 : Int) (l1 : List (S26)) : Option (Int × List Int × Int) := (matrix_wrong.f k a0_0 a0_1 a0_2 a0_3 a0_4 l1).bind fun t1084 => (if t1084 = 0 then (matrix_Choices.l0 k ([] : List Int) l1 (l1.length : Int) 0 a0_0 a0_1 a0_2 a0_3 a0_4) else (some (0, ([] : List Int), t1084)))
set_option maxHeartbeats 8000000 in
set_option maxRecDepth 100000 in
theorem matrix_Choices.calls (k : Nat) (a0_0 : Int) (a0_1 : Int) (a0_2 : Int) (a0_3 : Int) (a0_4 : Int) (A1 : Option Addr) (c1 : Nat) (l1 : List (S26)) (r1 : Int) (r2 : List Int) (r3 : Int) (w : World) (hr1 : Kd.C k26 w A1 l1.length l1) (hc1 : l1.length ≤ c1) (h : matrix_Choices.f k a0_0 a0_1 a0_2 a0_3 a0_4 l1 = some (r1, r2, r3)) :
  Calls Try.prog 51 #[.agg #[.int .i64 a0_0, .int .i64 a0_1, .int .i64 a0_2, .int .i64 a0_3, .int .i64 a0_4], .slice A1 l1.length c1] w fun e w' => ∃ v1_ : Value, e = .returned (.tuple #[.agg #[.int .i64 r1, v1_], .int .i64 r3]) ∧ Kd.R (Kd.int .u64) 35 w' w.heap.size (fun _ => True) v1_ r2 ∧ Below w.heap.size w w' := by
 have hu23 := Try.underlying23
 have hu43 := Try.underlying43
 have hu26 := Try.underlying26
 have HR1 := Aside0.mk hr1
 have HC1 := Aside0.mk hc1
 clear hr1 hc1
 have HB := Aside0.mk (Below.refl w.heap.size w)
 have H : ((matrix_wrong.f k a0_0 a0_1 a0_2 a0_3 a0_4 l1).bind fun t1084 => (if t1084 = 0 then (matrix_Choices.l0 k ([] : List Int) l1 (l1.length : Int) 0 a0_0 a0_1 a0_2 a0_3 a0_4) else (some (0, ([] : List Int), t1084)))) = some (r1, r2, r3) := h
 clear h
 replace H := Option.bind_eq_some_iff.mp H
 obtain ⟨t1084, A30, H⟩ := H
 replace H : (if t1084 = 0 then (matrix_Choices.l0 k ([] : List Int) l1 (l1.length : Int) 0 a0_0 a0_1 a0_2 a0_3 a0_4) else (some (0, ([] : List Int), t1084))) = some (r1, r2, r3) := H
 have A3 := Aside0.mk A30
 clear A30
 by_cases c4 : t1084 = 0
 ·rw [if_pos c4] at H
  have c4b0 : (t1084 == 0) = true := beq_iff_eq.mpr c4
  have c4b1 : (t1084 != 0) = false := bne_eq_false_iff_eq.mpr c4
  clear c4
  have H' := Aside0.mk H
  clear H
  go_enter Try.func51, Try.ntmps51
  go_wp2_with (first | ((with_reducible refine gate_dst (N := 2) rfl ?_); refine box_event ?hg (N := 2) ?hd (cs := #[.int .i64 a0_0, .int .i64 a0_1, .int .i64 a0_2, .int .i64 a0_3, .int .i64 a0_4]) (t := 23) ?hr ?_; (case hd => rfl); (case hg => rfl); (case hr => first | (go_simp; done) | (go_simp; rfl)); intro gb1082 hg w5 hbox hb; have n0_ := Aside0.mk (below_step (zq35) hb); have n1_ := Aside0.mk (hbox); have n2_ := Aside0.mk ((zq19 : w.heap.size ≤ gb1082)); have n3_ := Aside0.mk ((zq19 : w.heap.size ≤ gb1082)); clear HB; have HB := n0_; have BK1082 := n1_; have GW1082 := n2_; have GE1082 := n3_; clear n0_ n1_ n2_ n3_; clear hb hbox hg) | ((with_reducible refine gate_dst (N := 4) rfl ?_); refine box_event ?hg (N := 4) ?hd (cs := #[.int .i64 0, .slice none 0 0]) (t := 43) ?hr ?_; (case hd => rfl); (case hg => rfl); (case hr => first | (go_simp; done) | (go_simp; rfl)); intro gb1083 hg w6 hbox hb; have n0_ := Aside0.mk (blk_below (g := gb1082) (o := .cells #[.int .i64 a0_0, .int .i64 a0_1, .int .i64 a0_2, .int .i64 a0_3, .int .i64 a0_4] 23 (0, 0)) (zq36) hb); have n1_ := Aside0.mk (below_step (by repeat (first | (with_reducible first | exact HB.out | apply below_alloc | apply pw_below_drewN | apply below_drew1 | refine below_set ?_ GE1082.out) | exact HB.out)) hb); have n2_ := Aside0.mk (hbox); have n3_ := Aside0.mk ((zq11 : w.heap.size ≤ gb1083)); have n4_ := Aside0.mk ((zq11 : w.heap.size ≤ gb1083)); have n5_ := Aside0.mk ((zq4 : gb1082 ≠ gb1083)); have n6_ := Aside0.mk ((zq5 : gb1083 ≠ gb1082)); clear BK1082; clear HB; have BK1082 := n0_; have HB := n1_; have BK1083 := n2_; have GW1083 := n3_; have GE1083 := n4_; have NB1082_1083 := n5_; have NB1083_1082 := n6_; clear n0_ n1_ n2_ n3_ n4_ n5_ n6_; clear hb hbox hg; have hnb7 := NB1082_1083.out; have hnc7 := NB1083_1082.out; have hcz8_0 : w6.cell? ⟨gb1082, 0, none⟩ = some (.int .i64 a0_0) := (blk_cell BK1082.out 0).trans rfl; have hcz8_1 : w6.cell? ⟨gb1082, 1, none⟩ = some (.int .i64 a0_1) := (blk_cell BK1082.out 1).trans rfl; have hcz8_2 : w6.cell? ⟨gb1082, 2, none⟩ = some (.int .i64 a0_2) := (blk_cell BK1082.out 2).trans rfl; have hcz8_3 : w6.cell? ⟨gb1082, 3, none⟩ = some (.int .i64 a0_3) := (blk_cell BK1082.out 3).trans rfl; have hcz8_4 : w6.cell? ⟨gb1082, 4, none⟩ = some (.int .i64 a0_4) := (blk_cell BK1082.out 4).trans rfl; have hfz8_0 := blk_frozen BK1082.out 0; have hfz8_1 := blk_frozen BK1082.out 1; have hfz8_2 := blk_frozen BK1082.out 2; have hfz8_3 := blk_frozen BK1082.out 3; have hfz8_4 := blk_frozen BK1082.out 4) | ((with_reducible refine gate_callee (f := 79) rfl ?_); refine goesL_ (some 12) rfl rfl Try.func79 (zq56) rfl #[.agg #[.int .i64 a0_0, .int .i64 a0_1, .int .i64 a0_2, .int .i64 a0_3, .int .i64 a0_4], .slice A1 l1.length c1] rfl (zq33) ?_; (with_reducible refine (matrix_wrong.calls k a0_0 a0_1 a0_2 a0_3 a0_4 _ _ l1 t1084 _ ?side1 ?side2 A3.out).mono ?_); (case side1 => repeat (first | exact (Kd.C_below HR1.out HB.out) | (with_reducible refine Kd.C_alloc ?_ _) | (with_reducible refine Kd.C_drewN ?_ _) | (with_reducible refine Kd.C_drew ?_))); (case side2 => exact HC1.out); rintro e w9 ⟨rfl, hb⟩; refine ⟨_, rfl, ?_⟩; have n0_ := Aside0.mk (blk_below (g := gb1082) (o := .cells #[.int .i64 a0_0, .int .i64 a0_1, .int .i64 a0_2, .int .i64 a0_3, .int .i64 a0_4] 23 (0, 0)) (zq36) hb); have n1_ := Aside0.mk (blk_below (g := gb1083) (o := .cells #[.int .i64 0, .slice none 0 0] 43 (0, 0)) (zq37) hb); have n2_ := Aside0.mk (below_step (zq12) hb); clear BK1082; clear BK1083; clear HB; have BK1082 := n0_; have BK1083 := n1_; have HB := n2_; clear n0_ n1_ n2_; (try clear hb); (try clear hb2); (try clear hk); (try clear hi)))
  go_loopg [7, 19] k (fun kq v7 v19 w' => ∃ (x7_1 : List Int) (x19_1 : Int), v19 = .int .i64 x19_1 ∧ Aside0 (matrix_Choices.l0 kq x7_1 l1 (l1.length : Int) x19_1 a0_0 a0_1 a0_2 a0_3 a0_4 = some (r1, r2, r3)) ∧ Aside0 (kq ≤ k) ∧ Aside0 (Kd.R (Kd.int .u64) 35 w' w.heap.size (fun _ => True) v7 x7_1) ∧ Aside0 (w'.heap[gb1082]? = some (.cells #[.int .i64 a0_0, .int .i64 a0_1, .int .i64 a0_2, .int .i64 a0_3, .int .i64 a0_4] 23 (0, 0))) ∧ Aside0 (w'.heap[gb1083]? = some (.cells #[.int .i64 0, (.slice none 0 0)] 43 (0, 0))) ∧ Aside0 (Below w.heap.size w w'))
  case atStart => exact ⟨(([] : List Int)), (0), (zq52), H', ⟨Nat.le_refl _⟩, ⟨zq32⟩, ⟨zq36⟩, ⟨zq37⟩, ⟨zq12⟩⟩
  case round =>
   clear H'
   try clear c1
   try clear p2
   try clear c4
   try clear c4b0
   try clear c4b1
   try clear c5
   try clear c7
   try clear hcz8_0
   try clear hcz8_1
   try clear hcz8_2
   try clear hcz8_3
   try clear hcz8_4
   try clear hfz8_0
   try clear hfz8_1
   try clear hfz8_2
   try clear hfz8_3
   try clear hfz8_4
   obtain ⟨x7_1, x19_1, rfl, HA, HK1, HO_7, BK1082, BK1083, HB⟩ := hrel
   cases gk with
   | zero => exact absurd HA.out (by simp [matrix_Choices.l0])
   | succ k1 =>
    have H := HA.out
    clear HA
    simp only [matrix_Choices.l0] at H
    by_cases c10 : x19_1 < (l1.length : Int)
    ·rw [if_pos c10] at H
     have c10b0 : decide (x19_1 < (l1.length : Int)) = true := decide_eq_true c10
     clear c10
     by_cases c11 : 0 ≤ x19_1
     ·rw [if_pos c11] at H
      have c11b0 : decide (0 ≤ x19_1) = true := decide_eq_true c11
      clear c11
      by_cases c12 : x19_1 < (l1.length : Int)
      ·rw [if_pos c12] at H
       have c12b0 : decide (x19_1 < (l1.length : Int)) = true := decide_eq_true c12
       clear c12
       by_cases c13 : x7_1.length + ((rd_T26 l1 x19_1).f0).length < 17592186044416
       ·rw [if_pos c13] at H
        have LMc13 := Aside0.mk c13
        clear c13
        obtain ⟨y1087, hy1087⟩ : ∃ y_ : List Int, y_ = (x7_1 ++ ((rd_T26 l1 x19_1).f0)) := ⟨_, rfl⟩
        replace H : (matrix_Choices.l0 k1 y1087 l1 (l1.length : Int) (wrap64 (x19_1 + 1)) a0_0 a0_1 a0_2 a0_3 a0_4) = some (r1, r2, r3) := by first | (rw [hy1087]; with_reducible exact H) | (have H2_ := (Option.bind_some _ _).symm.trans H; rw [hy1087]; with_reducible exact H2_) | (have H2_ := (Option.bind_some _ _).symm.trans H; with_reducible exact H2_) | with_reducible exact H | (rw [hy1087]; exact H) | exact H
        have Ny1087 := Aside0.mk hy1087
        clear hy1087
        have H' := Aside0.mk H
        clear H
        have p1085 : 0 ≤ (x19_1 : Int) := of_decide_eq_true (zq51)
        have q1085 : x19_1 < (l1.length : Int) := of_decide_eq_true (zq51)
        obtain ⟨ad1085, A1085_0, c1085_0, A1085_1, c1085_1, A1085_2, c1085_2, e1085, hx1085_0, hx1085_1, hx1085_2, hl1085_0, hi1085_0, hl1085_1, hi1085_1, hl1085_2, hi1085_2⟩ := at_T26 HR1.out x19_1 p1085 q1085
        cases e1085
        replace hx1085_0 := (HB.out.cell (World.block_lt_of_cell? w _ hx1085_0)).trans hx1085_0
        replace hx1085_1 := (HB.out.cell (World.block_lt_of_cell? w _ hx1085_1)).trans hx1085_1
        replace hx1085_2 := (HB.out.cell (World.block_lt_of_cell? w _ hx1085_2)).trans hx1085_2
        have HR1085_0 := Aside0.mk hi1085_0
        have HC1085_0 := Aside0.mk hl1085_0
        clear hi1085_0 hl1085_0
        have HR1085_1 := Aside0.mk hi1085_1
        have HC1085_1 := Aside0.mk hl1085_1
        clear hi1085_1 hl1085_1
        have HR1085_2 := Aside0.mk hi1085_2
        have HC1085_2 := Aside0.mk hl1085_2
        clear hi1085_2 hl1085_2
        replace p1085 := eq_true p1085
        replace q1085 := eq_true q1085
        go_wp2_with (first | ((with_reducible refine gate_dst (N := 9) rfl ?_); refine box_event ?hg (N := 9) ?hd (cs := #[.slice none 0 0, .slice none 0 0, .slice none 0 0]) (t := 26) ?hr ?_; (case hd => rfl); (case hg => rfl); (case hr => first | (go_simp; done) | (go_simp; rfl)); intro gb1086 hg w14 hbox hb; have n0_ := Aside0.mk (Kd.R_below (zq48) hb); have n1_ := Aside0.mk (blk_below (g := gb1082) (o := .cells #[.int .i64 a0_0, .int .i64 a0_1, .int .i64 a0_2, .int .i64 a0_3, .int .i64 a0_4] 23 (0, 0)) (zq36) hb); have n2_ := Aside0.mk (blk_below (g := gb1083) (o := .cells #[.int .i64 0, .slice none 0 0] 43 (0, 0)) (zq37) hb); have n3_ := Aside0.mk (below_step (zq12) hb); have n4_ := Aside0.mk (hbox); have n5_ := Aside0.mk ((by rw [hg]; exact (below_size (by repeat (first | (with_reducible first | exact HB.out | apply below_alloc | apply pw_below_drewN | apply below_drew1 | refine below_set ?_ GE1082.out | refine below_set ?_ GE1083.out) | exact HB.out))) : w.heap.size ≤ gb1086)); have n6_ := Aside0.mk ((by rw [hg]; exact (below_size (by repeat (first | (with_reducible first | exact HB.out | apply below_alloc | apply pw_below_drewN | apply below_drew1 | refine below_set ?_ GE1082.out | refine below_set ?_ GE1083.out) | exact HB.out))) : w.heap.size ≤ gb1086)); have n7_ := Aside0.mk ((zq4 : gb1082 ≠ gb1086)); have n8_ := Aside0.mk ((zq5 : gb1086 ≠ gb1082)); have n9_ := Aside0.mk ((by rw [hg]; exact Nat.ne_of_lt (blk_lt (g := gb1083) (o := .cells #[.int .i64 0, .slice none 0 0] 43 (0, 0)) (by (with_reducible repeat (first | refine blk_drewN ?_ _ | refine blk_drew ?_ | refine blk_alloc ?_ _)); exact BK1083.out)) : gb1083 ≠ gb1086)); have n10_ := Aside0.mk ((by rw [hg]; exact Nat.ne_of_gt (blk_lt (g := gb1083) (o := .cells #[.int .i64 0, .slice none 0 0] 43 (0, 0)) (by (with_reducible repeat (first | refine blk_drewN ?_ _ | refine blk_drew ?_ | refine blk_alloc ?_ _)); exact BK1083.out)) : gb1086 ≠ gb1083)); clear HO_7; clear BK1082; clear BK1083; clear HB; have HO_7 := n0_; have BK1082 := n1_; have BK1083 := n2_; have HB := n3_; have BK1086 := n4_; have GW1086 := n5_; have GE1086 := n6_; have NB1082_1086 := n7_; have NB1086_1082 := n8_; have NB1083_1086 := n9_; have NB1086_1083 := n10_; clear n0_ n1_ n2_ n3_ n4_ n5_ n6_ n7_ n8_ n9_ n10_; clear hb hbox hg; have hnb15 := NB1086_1082.out; have hnc15 := NB1082_1086.out; have hnb16 := NB1086_1083.out; have hnc16 := NB1083_1086.out; have hcz17_0 : w14.cell? ⟨gb1086, 0, none⟩ = some (.slice none 0 0) := (blk_cell BK1086.out 0).trans rfl; have hcz17_1 : w14.cell? ⟨gb1086, 1, none⟩ = some (.slice none 0 0) := (blk_cell BK1086.out 1).trans rfl; have hcz17_2 : w14.cell? ⟨gb1086, 2, none⟩ = some (.slice none 0 0) := (blk_cell BK1086.out 2).trans rfl; have hfz17_0 := blk_frozen BK1086.out 0; have hfz17_1 := blk_frozen BK1086.out 1; have hfz17_2 := blk_frozen BK1086.out 2) | ((with_reducible refine gate_builtin (b := .append) (xs := #[.tmp 23, .tmp 25]) rfl ?_); at_builtin; refine Kd.R_append_rows (Kd.int .u64) (w0 := w) w.heap.size rfl (.tmp 23) (.tmp 25) 24 35 (.int .u64 0) 8 rfl Try.underlying24 info35 rfl (by decide) (by omega) u7 x7_1 ((rd_T26 l1 x19_1).f0) _ _ _ (fun _ => True) (fun _ => False) rfl rfl ?aO ?aR (fun _ _ h => h) (fun _ h => h.elim) ?aF ?aB ?aS ?aL ?_; (case aR => exact Kd.C_below HR1085_0.out (zq8)); (case aB => exact (zq8)); (case aF => exact (fun _ _ => trivial)); (case aO => exact (by (with_reducible repeat (first | apply Kd.R_alloc | apply Kd.R_drewN | apply Kd.R_drew)); exact Kd.R_mono (Kd.R_far (p := ⟨gb1086, 2, none⟩) (Kd.R_far (p := ⟨gb1086, 1, none⟩) (Kd.R_far (p := ⟨gb1086, 0, none⟩) (Kd.R_types HO_7.out BK1086.out (by decide)) (fun _ hk => hk.2) (.slice A1085_0 ((rd_T26 l1 x19_1).f0).length c1085_0)) (fun _ hk => hk.2) (.slice A1085_1 ((rd_T26 l1 x19_1).f1).length c1085_1)) (fun _ hk => hk.2) (.slice A1085_2 ((rd_T26 l1 x19_1).f2).length c1085_2)) (fun _ hk => trivial))); (case aS => exact (below_size (zq8))); (case aL => have := LMc13.out; omega); intro v1088 w18 ho hb hg hat; rw [← Ny1087.out] at ho; have n0_ := Aside0.mk (blk_grown (g := gb1082) (o := .cells #[.int .i64 a0_0, .int .i64 a0_1, .int .i64 a0_2, .int .i64 a0_3, .int .i64 a0_4] 23 (0, 0)) (by (with_reducible repeat (first | refine blk_drewN ?_ _ | refine blk_drew ?_ | refine blk_alloc ?_ _)); refine blk_far ?_ NB1082_1086.out _; (with_reducible repeat (first | refine blk_drewN ?_ _ | refine blk_drew ?_ | refine blk_alloc ?_ _)); refine blk_far ?_ NB1082_1086.out _; (with_reducible repeat (first | refine blk_drewN ?_ _ | refine blk_drew ?_ | refine blk_alloc ?_ _)); refine blk_far ?_ NB1082_1086.out _; (with_reducible repeat (first | refine blk_drewN ?_ _ | refine blk_drew ?_ | refine blk_alloc ?_ _)); exact BK1082.out) hg (Kd.R_ne HO_7.out BK1082.out (by decide))); have n1_ := Aside0.mk (blk_grown (g := gb1083) (o := .cells #[.int .i64 0, .slice none 0 0] 43 (0, 0)) (by (with_reducible repeat (first | refine blk_drewN ?_ _ | refine blk_drew ?_ | refine blk_alloc ?_ _)); refine blk_far ?_ NB1083_1086.out _; (with_reducible repeat (first | refine blk_drewN ?_ _ | refine blk_drew ?_ | refine blk_alloc ?_ _)); refine blk_far ?_ NB1083_1086.out _; (with_reducible repeat (first | refine blk_drewN ?_ _ | refine blk_drew ?_ | refine blk_alloc ?_ _)); refine blk_far ?_ NB1083_1086.out _; (with_reducible repeat (first | refine blk_drewN ?_ _ | refine blk_drew ?_ | refine blk_alloc ?_ _)); exact BK1083.out) hg (Kd.R_ne HO_7.out BK1083.out (by decide))); have n2_ := Aside0.mk (blk_grown (g := gb1086) (o := .cells #[.slice A1085_0 ((rd_T26 l1 x19_1).f0).length c1085_0, .slice A1085_1 ((rd_T26 l1 x19_1).f1).length c1085_1, .slice A1085_2 ((rd_T26 l1 x19_1).f2).length c1085_2] 26 (0, 0)) (by (with_reducible repeat (first | refine blk_drewN ?_ _ | refine blk_drew ?_ | refine blk_alloc ?_ _)); refine blk_put (cs := #[.slice A1085_0 ((rd_T26 l1 x19_1).f0).length c1085_0, .slice A1085_1 ((rd_T26 l1 x19_1).f1).length c1085_1, .slice none 0 0]) ?_ 2 _ rfl; (with_reducible repeat (first | refine blk_drewN ?_ _ | refine blk_drew ?_ | refine blk_alloc ?_ _)); refine blk_put (cs := #[.slice A1085_0 ((rd_T26 l1 x19_1).f0).length c1085_0, .slice none 0 0, .slice none 0 0]) ?_ 1 _ rfl; (with_reducible repeat (first | refine blk_drewN ?_ _ | refine blk_drew ?_ | refine blk_alloc ?_ _)); refine blk_put (cs := #[.slice none 0 0, .slice none 0 0, .slice none 0 0]) ?_ 0 _ rfl; (with_reducible repeat (first | refine blk_drewN ?_ _ | refine blk_drew ?_ | refine blk_alloc ?_ _)); exact BK1086.out) hg (Kd.R_ne HO_7.out BK1086.out (by decide))); have n3_ := Aside0.mk (hb); have n4_ := Aside0.mk (ho); clear BK1082; clear BK1083; clear BK1086; clear HB; clear HO_7; have BK1082 := n0_; have BK1083 := n1_; have BK1086 := n2_; have HB := n3_; have HO1089 := n4_; clear n0_ n1_ n2_ n3_ n4_; clear ho hb hg hat))
        go_roundg k1
        case measure => have := HK1.out; omega
        case rel => exact ⟨(y1087), (wrap64 (x19_1 + 1)), (zq52), H', ⟨zq55⟩, ⟨by (with_reducible repeat (first | apply Kd.R_alloc | apply Kd.R_drewN | apply Kd.R_drew)); exact HO1089.out⟩, ⟨zq36⟩, ⟨zq37⟩, ⟨zq8⟩⟩
       ·rw [if_neg c13] at H
        exact absurd H (by simp)
      ·rw [if_neg c12] at H
       exact absurd H (by simp)
     ·rw [if_neg c11] at H
      exact absurd H (by simp)
    ·rw [if_neg c10] at H
     have c10b0 : decide (x19_1 < (l1.length : Int)) = false := decide_eq_false c10
     clear c10
     replace H := Option.bind_eq_some_iff.mp H
     obtain ⟨⟨t1090, t1091, t1094⟩, A190, H⟩ := H
     replace H : (some (t1090, t1091, t1094)) = some (r1, r2, r3) := H
     have A19 := Aside0.mk A190
     clear A190
     simp only [Option.some.injEq, Prod.mk.injEq] at H
     obtain ⟨rfl, rfl, rfl⟩ := H
     have hnb20 := NB1082_1083.out
     have hnc20 := NB1083_1082.out
     have hcz21_0 : wr.cell? ⟨gb1082, 0, none⟩ = some (.int .i64 a0_0) := (blk_cell BK1082.out 0).trans rfl
     have hcz21_1 : wr.cell? ⟨gb1082, 1, none⟩ = some (.int .i64 a0_1) := (blk_cell BK1082.out 1).trans rfl
     have hcz21_2 : wr.cell? ⟨gb1082, 2, none⟩ = some (.int .i64 a0_2) := (blk_cell BK1082.out 2).trans rfl
     have hcz21_3 : wr.cell? ⟨gb1082, 3, none⟩ = some (.int .i64 a0_3) := (blk_cell BK1082.out 3).trans rfl
     have hcz21_4 : wr.cell? ⟨gb1082, 4, none⟩ = some (.int .i64 a0_4) := (blk_cell BK1082.out 4).trans rfl
     have hfz21_0 := blk_frozen BK1082.out 0
     have hfz21_1 := blk_frozen BK1082.out 1
     have hfz21_2 := blk_frozen BK1082.out 2
     have hfz21_3 := blk_frozen BK1082.out 3
     have hfz21_4 := blk_frozen BK1082.out 4
     obtain ⟨Ao22, co22, eo22⟩ := Kd.R_slice HO_7.out
     subst eo22
     go_wp2_with (first | ((with_reducible refine gate_callee (f := 75) rfl ?_); refine goesL_ (some 31) rfl rfl Try.func75 (zq56) rfl #[.int .i64 a0_1, .slice Ao22 x7_1.length co22] rfl (zq33) ?_; (with_reducible refine (gilboa_Choices.calls k1 a0_1 _ _ x7_1 t1090 t1091 t1094 _ ?side1 ?side2 A19.out).mono ?_); (case side1 => repeat (first | exact (Kd.R_reads' HO_7.out).2.2 | (with_reducible refine Kd.C_alloc ?_ _) | (with_reducible refine Kd.C_drewN ?_ _) | (with_reducible refine Kd.C_drew ?_))); (case side2 => exact (Kd.R_reads' HO_7.out).2.1); rintro e w23 ⟨v1092, rfl, ho0, hb⟩; refine ⟨_, rfl, ?_⟩; have n0_ := Aside0.mk (Kd.R_elder' (zq48) (Kd.R_base ho0) hb); have n1_ := Aside0.mk (Kd.R_lower (Kd.R_new' ho0 (Kd.R_lt (zq48))) (below_size (zq12))); have n2_ := Aside0.mk (blk_below (g := gb1082) (o := .cells #[.int .i64 a0_0, .int .i64 a0_1, .int .i64 a0_2, .int .i64 a0_3, .int .i64 a0_4] 23 (0, 0)) (zq36) hb); have n3_ := Aside0.mk (blk_below (g := gb1083) (o := .cells #[.int .i64 0, .slice none 0 0] 43 (0, 0)) (zq37) hb); have n4_ := Aside0.mk (below_step (zq12) hb); clear HO_7; clear BK1082; clear BK1083; clear HB; have HO_7 := n0_; have HO1093 := n1_; have BK1082 := n2_; have BK1083 := n3_; have HB := n4_; clear n0_ n1_ n2_ n3_ n4_; (try clear hb); (try clear hb2); (try clear hk); (try clear hi); (try clear ho0); have hcz24_0 : w23.cell? ⟨gb1083, 0, none⟩ = some (.int .i64 0) := (blk_cell BK1083.out 0).trans rfl; have hcz24_1 : w23.cell? ⟨gb1083, 1, none⟩ = some (.slice none 0 0) := (blk_cell BK1083.out 1).trans rfl; have hfz24_0 := blk_frozen BK1083.out 0; have hfz24_1 := blk_frozen BK1083.out 1; obtain ⟨Ao25, co25, eo25⟩ := Kd.R_slice HO1093.out; subst eo25))
     refine bodyPost_ret (results_ct rfl _ _ gb1083 43 #[.int .i64 t1090, .slice Ao25 t1091.length co25] (0, 0) _ rfl (by (with_reducible repeat (first | refine blk_drewN ?_ _ | refine blk_drew ?_ | refine blk_alloc ?_ _)); refine blk_put (cs := #[.int .i64 t1090, .slice none 0 0]) ?_ 1 _ rfl; (with_reducible repeat (first | refine blk_drewN ?_ _ | refine blk_drew ?_ | refine blk_alloc ?_ _)); refine blk_put (cs := #[.int .i64 0, .slice none 0 0]) ?_ 0 _ rfl; (with_reducible repeat (first | refine blk_drewN ?_ _ | refine blk_drew ?_ | refine blk_alloc ?_ _)); exact BK1083.out) Try.underlying43 rfl (zq56)) rfl ?_
     exact ⟨_, zq49, by (with_reducible repeat (first | apply Kd.R_alloc | apply Kd.R_drewN | apply Kd.R_drew)); exact Kd.R_mono (Kd.R_far (p := ⟨gb1083, 1, none⟩) (Kd.R_far (p := ⟨gb1083, 0, none⟩) (Kd.R_types HO1093.out BK1083.out (by decide)) (fun _ hk => hk.2) (.int .i64 t1090)) (fun _ hk => hk.2) (.slice Ao25 t1091.length co25)) (fun _ hk => trivial), zq12⟩
 ·rw [if_neg c4] at H
  have c4b0 : (t1084 == 0) = false := beq_eq_false_iff_ne.mpr c4
  have c4b1 : (t1084 != 0) = true := bne_iff_ne.mpr c4
  simp only [Option.some.injEq, Prod.mk.injEq] at H
  obtain ⟨rfl, rfl, rfl⟩ := H
  go_enter Try.func51, Try.ntmps51
  go_wp2_with (first | ((with_reducible refine gate_dst (N := 2) rfl ?_); refine box_event ?hg (N := 2) ?hd (cs := #[.int .i64 a0_0, .int .i64 a0_1, .int .i64 a0_2, .int .i64 a0_3, .int .i64 a0_4]) (t := 23) ?hr ?_; (case hd => rfl); (case hg => rfl); (case hr => first | (go_simp; done) | (go_simp; rfl)); intro gb1082 hg w26 hbox hb; have n0_ := Aside0.mk (below_step (zq35) hb); have n1_ := Aside0.mk (hbox); have n2_ := Aside0.mk ((zq19 : w.heap.size ≤ gb1082)); have n3_ := Aside0.mk ((zq19 : w.heap.size ≤ gb1082)); clear HB; have HB := n0_; have BK1082 := n1_; have GW1082 := n2_; have GE1082 := n3_; clear n0_ n1_ n2_ n3_; clear hb hbox hg) | ((with_reducible refine gate_dst (N := 4) rfl ?_); refine box_event ?hg (N := 4) ?hd (cs := #[.int .i64 0, .slice none 0 0]) (t := 43) ?hr ?_; (case hd => rfl); (case hg => rfl); (case hr => first | (go_simp; done) | (go_simp; rfl)); intro gb1083 hg w27 hbox hb; have n0_ := Aside0.mk (blk_below (g := gb1082) (o := .cells #[.int .i64 a0_0, .int .i64 a0_1, .int .i64 a0_2, .int .i64 a0_3, .int .i64 a0_4] 23 (0, 0)) (zq36) hb); have n1_ := Aside0.mk (below_step (by repeat (first | (with_reducible first | exact HB.out | apply below_alloc | apply pw_below_drewN | apply below_drew1 | refine below_set ?_ GE1082.out) | exact HB.out)) hb); have n2_ := Aside0.mk (hbox); have n3_ := Aside0.mk ((zq11 : w.heap.size ≤ gb1083)); have n4_ := Aside0.mk ((zq11 : w.heap.size ≤ gb1083)); have n5_ := Aside0.mk ((zq4 : gb1082 ≠ gb1083)); have n6_ := Aside0.mk ((zq5 : gb1083 ≠ gb1082)); clear BK1082; clear HB; have BK1082 := n0_; have HB := n1_; have BK1083 := n2_; have GW1083 := n3_; have GE1083 := n4_; have NB1082_1083 := n5_; have NB1083_1082 := n6_; clear n0_ n1_ n2_ n3_ n4_ n5_ n6_; clear hb hbox hg; have hnb28 := NB1082_1083.out; have hnc28 := NB1083_1082.out; have hcz29_0 : w27.cell? ⟨gb1082, 0, none⟩ = some (.int .i64 a0_0) := (blk_cell BK1082.out 0).trans rfl; have hcz29_1 : w27.cell? ⟨gb1082, 1, none⟩ = some (.int .i64 a0_1) := (blk_cell BK1082.out 1).trans rfl; have hcz29_2 : w27.cell? ⟨gb1082, 2, none⟩ = some (.int .i64 a0_2) := (blk_cell BK1082.out 2).trans rfl; have hcz29_3 : w27.cell? ⟨gb1082, 3, none⟩ = some (.int .i64 a0_3) := (blk_cell BK1082.out 3).trans rfl; have hcz29_4 : w27.cell? ⟨gb1082, 4, none⟩ = some (.int .i64 a0_4) := (blk_cell BK1082.out 4).trans rfl; have hfz29_0 := blk_frozen BK1082.out 0; have hfz29_1 := blk_frozen BK1082.out 1; have hfz29_2 := blk_frozen BK1082.out 2; have hfz29_3 := blk_frozen BK1082.out 3; have hfz29_4 := blk_frozen BK1082.out 4) | ((with_reducible refine gate_callee (f := 79) rfl ?_); refine goesL_ (some 12) rfl rfl Try.func79 (zq56) rfl #[.agg #[.int .i64 a0_0, .int .i64 a0_1, .int .i64 a0_2, .int .i64 a0_3, .int .i64 a0_4], .slice A1 l1.length c1] rfl (zq33) ?_; (with_reducible refine (matrix_wrong.calls k a0_0 a0_1 a0_2 a0_3 a0_4 _ _ l1 t1084 _ ?side1 ?side2 A3.out).mono ?_); (case side1 => repeat (first | exact (Kd.C_below HR1.out HB.out) | (with_reducible refine Kd.C_alloc ?_ _) | (with_reducible refine Kd.C_drewN ?_ _) | (with_reducible refine Kd.C_drew ?_))); (case side2 => exact HC1.out); rintro e w30 ⟨rfl, hb⟩; refine ⟨_, rfl, ?_⟩; have n0_ := Aside0.mk (blk_below (g := gb1082) (o := .cells #[.int .i64 a0_0, .int .i64 a0_1, .int .i64 a0_2, .int .i64 a0_3, .int .i64 a0_4] 23 (0, 0)) (zq36) hb); have n1_ := Aside0.mk (blk_below (g := gb1083) (o := .cells #[.int .i64 0, .slice none 0 0] 43 (0, 0)) (zq37) hb); have n2_ := Aside0.mk (below_step (zq12) hb); clear BK1082; clear BK1083; clear HB; have BK1082 := n0_; have BK1083 := n1_; have HB := n2_; clear n0_ n1_ n2_; (try clear hb); (try clear hb2); (try clear hk); (try clear hi); have hcz31_0 : w30.cell? ⟨gb1083, 0, none⟩ = some (.int .i64 0) := (blk_cell BK1083.out 0).trans rfl; have hcz31_1 : w30.cell? ⟨gb1083, 1, none⟩ = some (.slice none 0 0) := (blk_cell BK1083.out 1).trans rfl; have hfz31_0 := blk_frozen BK1083.out 0; have hfz31_1 := blk_frozen BK1083.out 1))
  refine bodyPost_ret (results_ct rfl _ _ gb1083 43 #[.int .i64 0, .slice none 0 0] (0, 0) _ rfl (by (with_reducible repeat (first | refine blk_drewN ?_ _ | refine blk_drew ?_ | refine blk_alloc ?_ _)); refine blk_put (cs := #[.int .i64 0, .slice none 0 0]) ?_ 1 _ rfl; (with_reducible repeat (first | refine blk_drewN ?_ _ | refine blk_drew ?_ | refine blk_alloc ?_ _)); refine blk_put (cs := #[.int .i64 0, .slice none 0 0]) ?_ 0 _ rfl; (with_reducible repeat (first | refine blk_drewN ?_ _ | refine blk_drew ?_ | refine blk_alloc ?_ _)); exact BK1083.out) Try.underlying43 rfl (zq56)) rfl ?_
  exact ⟨_, zq49, zq32, zq12⟩

/-! ### matrix_rows: function 85 -/
def matrix_rows.l0 : Nat → List Int → List Int → Int → Int → Option (List Int)
 | 0, _, _, _, _ => none
 | k + 1, x1, x5, x7, x8 => if x8 < x7 then (if x5.length + x1.length < 17592186044416 then (matrix_rows.l0 k x1 (x5 ++ x1) x7 (wrap64 (x8 + 1))) else (none)) else (some x5)
def matrix_rows.f (k : Nat) (a0_0 : Int) (a0_1 : Int) (a0_2 : Int) (a0_3 : Int) (a0_4 : Int) (l1 : List Int) : Option (List Int) := matrix_rows.l0 k l1 ([] : List Int) a0_2 0
set_option maxHeartbeats 8000000 in
set_option maxRecDepth 100000 in
theorem matrix_rows.calls (k : Nat) (a0_0 : Int) (a0_1 : Int) (a0_2 : Int) (a0_3 : Int) (a0_4 : Int) (A1 : Option Addr) (c1 : Nat) (l1 : List Int) (r : List Int) (w : World) (hr1 : Kd.C (Kd.int .u64) w A1 l1.length l1) (hc1 : l1.length ≤ c1) (h : matrix_rows.f k a0_0 a0_1 a0_2 a0_3 a0_4 l1 = some r) :
  Calls Try.prog 85 #[.agg #[.int .i64 a0_0, .int .i64 a0_1, .int .i64 a0_2, .int .i64 a0_3, .int .i64 a0_4], .slice A1 l1.length c1] w fun e w' => ∃ v0_ : Value, e = .returned (v0_) ∧ Kd.R (Kd.int .u64) 35 w' w.heap.size (fun _ => True) v0_ r ∧ Below w.heap.size w w' := by
 have hu23 := Try.underlying23
 have HR1 := Aside0.mk hr1
 have HC1 := Aside0.mk hc1
 clear hr1 hc1
 have HB := Aside0.mk (Below.refl w.heap.size w)
 have H : (matrix_rows.l0 k l1 ([] : List Int) a0_2 0) = some r := h
 clear h
 have H' := Aside0.mk H
 clear H
 go_enter Try.func85, Try.ntmps85
 go_wp2_with (first | ((with_reducible refine gate_dst (N := 2) rfl ?_); refine box_event ?hg (N := 2) ?hd (cs := #[.int .i64 a0_0, .int .i64 a0_1, .int .i64 a0_2, .int .i64 a0_3, .int .i64 a0_4]) (t := 23) ?hr ?_; (case hd => rfl); (case hg => rfl); (case hr => first | (go_simp; done) | (go_simp; rfl)); intro gb1095 hg w3 hbox hb; have n0_ := Aside0.mk (below_step HB.bl hb); have n1_ := Aside0.mk (hbox); have n2_ := Aside0.mk ((zq54 : w.heap.size ≤ gb1095)); have n3_ := Aside0.mk ((zq54 : w.heap.size ≤ gb1095)); clear HB; have HB := n0_; have BK1095 := n1_; have GW1095 := n2_; have GE1095 := n3_; clear n0_ n1_ n2_ n3_; clear hb hbox hg; obtain ⟨hcz4_0, hcz4_1, hcz4_2, hcz4_3, hcz4_4, hfz4_0, hfz4_1, hfz4_2, hfz4_3, hfz4_4⟩ := cells_5 BK1095.out))
 go_loopg [5, 8] k (fun kq v5 v8 w' => ∃ (x5_1 : List Int) (x8_1 : Int), v8 = .int .i64 x8_1 ∧ Aside0 (matrix_rows.l0 kq l1 x5_1 a0_2 x8_1 = some r) ∧ Aside0 (kq ≤ k) ∧ Aside0 (Kd.R (Kd.int .u64) 35 w' w.heap.size (fun _ => True) v5 x5_1) ∧ Aside0 (w'.heap[gb1095]? = some (.cells #[.int .i64 a0_0, .int .i64 a0_1, .int .i64 a0_2, .int .i64 a0_3, .int .i64 a0_4] 23 (0, 0))) ∧ Aside0 (Below w.heap.size w w'))
 case atStart => exact ⟨(([] : List Int)), (0), (zq52), H', ⟨Nat.le_refl _⟩, ⟨zq32⟩, ⟨by (with_reducible repeat (first | refine blk_drewN ?_ _ | refine blk_drew ?_ | refine blk_alloc ?_ _)); exact BK1095.out⟩, ⟨by repeat (first | (with_reducible first | exact HB.out | apply below_alloc | apply pw_below_drewN | apply below_drew1 | refine below_set ?_ GE1095.out) | exact HB.out)⟩⟩
 case round =>
  clear H'
  try clear c1
  try clear p2
  try clear hcz4_0
  try clear hcz4_1
  try clear hcz4_2
  try clear hcz4_3
  try clear hcz4_4
  try clear hfz4_0
  try clear hfz4_1
  try clear hfz4_2
  try clear hfz4_3
  try clear hfz4_4
  obtain ⟨x5_1, x8_1, rfl, HA, HK1, HO_5, BK1095, HB⟩ := hrel
  cases gk with
  | zero => exact absurd HA.out (by simp [matrix_rows.l0])
  | succ k1 =>
   have H := HA.out
   clear HA
   simp only [matrix_rows.l0] at H
   by_cases c5 : x8_1 < a0_2
   ·rw [if_pos c5] at H
    have c5b0 : decide (x8_1 < a0_2) = true := decide_eq_true c5
    clear c5
    by_cases c6 : x5_1.length + l1.length < 17592186044416
    ·rw [if_pos c6] at H
     have LMc6 := Aside0.mk c6
     clear c6
     obtain ⟨y1096, hy1096⟩ : ∃ y_ : List Int, y_ = (x5_1 ++ l1) := ⟨_, rfl⟩
     replace H : (matrix_rows.l0 k1 l1 y1096 a0_2 (wrap64 (x8_1 + 1))) = some r := by first | (rw [hy1096]; with_reducible exact H) | (have H2_ := (Option.bind_some _ _).symm.trans H; rw [hy1096]; with_reducible exact H2_) | (have H2_ := (Option.bind_some _ _).symm.trans H; with_reducible exact H2_) | with_reducible exact H | (rw [hy1096]; exact H) | exact H
     have Ny1096 := Aside0.mk hy1096
     clear hy1096
     have H' := Aside0.mk H
     clear H
     go_wp2_with (first | ((with_reducible refine gate_builtin (b := .append) (xs := #[.tmp 10, .tmp 11]) rfl ?_); at_builtin; refine Kd.R_append_rows (Kd.int .u64) (w0 := w) w.heap.size rfl (.tmp 10) (.tmp 11) 24 35 (.int .u64 0) 8 rfl Try.underlying24 info35 rfl (by decide) (by omega) u5 x5_1 l1 _ _ _ (fun _ => True) (fun _ => False) rfl rfl ?aO ?aR (fun _ _ h => h) (fun _ h => h.elim) ?aF ?aB ?aS ?aL ?_; (case aR => repeat (first | exact (Kd.C_below HR1.out HB.out) | (with_reducible refine Kd.C_alloc ?_ _) | (with_reducible refine Kd.C_drewN ?_ _) | (with_reducible refine Kd.C_drew ?_))); (case aB => exact HB.bl); (case aF => exact (fun _ _ => trivial)); (case aO => exact HO_5.r); (case aS => exact (below_size HB.bl)); (case aL => have := LMc6.out; omega); intro v1097 w7 ho hb hg hat; rw [← Ny1096.out] at ho; replace BK1095 := Aside0.mk (blk_grown (g := gb1095) (o := .cells #[.int .i64 a0_0, .int .i64 a0_1, .int .i64 a0_2, .int .i64 a0_3, .int .i64 a0_4] 23 (0, 0)) (by (with_reducible repeat (first | refine blk_drewN ?_ _ | refine blk_drew ?_ | refine blk_alloc ?_ _)); exact BK1095.out) hg (Kd.R_ne HO_5.out BK1095.out (by decide))); replace HB := Aside0.mk (hb); have HO1098 := Aside0.mk (ho); clear HO_5; clear ho hb hg hat))
     go_roundg k1
     case measure => have := HK1.out; omega
     case rel => exact ⟨(y1096), (wrap64 (x8_1 + 1)), (zq52), H', ⟨zq55⟩, ⟨HO1098.r⟩, ⟨by (with_reducible repeat (first | refine blk_drewN ?_ _ | refine blk_drew ?_ | refine blk_alloc ?_ _)); exact BK1095.out⟩, ⟨by repeat (first | (with_reducible first | exact HB.out | apply below_alloc | apply pw_below_drewN | apply below_drew1 | refine below_set ?_ GE1095.out) | exact HB.out)⟩⟩
    ·rw [if_neg c6] at H
     exact absurd H (by simp)
   ·rw [if_neg c5] at H
    have c5b0 : decide (x8_1 < a0_2) = false := decide_eq_false c5
    clear c5
    obtain rfl := Option.some.inj H
    go_wp2
    go_ret
    exact ⟨_, zq49, HO_5.r, by repeat (first | (with_reducible first | exact HB.out | apply below_alloc | apply pw_below_drewN | apply below_drew1 | refine below_set ?_ GE1095.out) | exact HB.out)⟩
end Go.Proofs.Ytcmaidpoolcelaa.P
