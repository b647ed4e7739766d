/- Functions of the program as plain Lean functions, and proofs that the machine's calls do what these do: written by a program of this workplace (wip/tools/pp.py). -/
import Derived.Test.YtcmaidpoolcelaaMcPx0
import Derived.Test.YtcmaidpoolcelaaMcK4
import Derived.Test.YtcmaidpoolcelaaMcK7
import Derived.Test.YtcmaidpoolcelaaMcK8
import Derived.Test.YtcmaidpoolcelaaMcSh
namespace Go.Proofs.Ytcmaidpoolcelaa.P
open Go.RowKit Go.Proofs.YtcmaidpoolcelaaW.PrintWords Go.Proofs.YtcmaidpoolcelaaW.PrintLast Go.Proofs.YtcmaidpoolcelaaW.PrintMore
attribute [local go_sem] max2_int min2_int max_two min_two max_three min_three max_four min_four   -- for this text's walks alone
set_option linter.unusedVariables false
set_option linter.unusedSimpArgs false

/-! ### matrix_wrong: function 79 -/
def matrix_wrong.l0 : Nat → List (S26) → Int → Int → Int → Int → Int → Int → Int → Option (Int)
 | 0, _, _, _, _, _, _, _, _ => none
 | k + 1, x15, x16, x17, x894000, x894001, x894002, x894003, x894004 => if x17 < x16 then (if 0 ≤ x17 then (if x17 < (x15.length : Int) then (if (((rd_T26 x15 x17).f0).length : Int) = (wrap64 (x894002 * x894003)) then (if (((rd_T26 x15 x17).f1).length : Int) = (wrap64 (x894003 * x894004)) then ((ring_Fits.f x894001 ((rd_T26 x15 x17).f0)).bind fun t897 => (if t897 = true then ((ring_Fits.f x894001 ((rd_T26 x15 x17).f1)).bind fun t898 => (if t898 = true then (matrix_wrong.l0 k x15 x16 (wrap64 (x17 + 1)) x894000 x894001 x894002 x894003 x894004) else (some 11))) else (some 11))) else (some 11)) else (some 11)) else (none)) else (none)) else (some 0)
def matrix_wrong.f (k : Nat) (a0_0 : Int) (a0_1 : Int) (a0_2 : Int) (a0_3 : Int) (a0_4 : Int) (l1 : List (S26)) : Option (Int) := (matrix_check.f k a0_0 a0_1 a0_2 a0_3 a0_4 (l1.length : Int)).bind fun t894 => (if t894 = 0 then (matrix_wrong.l0 k l1 (l1.length : Int) 0 a0_0 a0_1 a0_2 a0_3 a0_4) else (some t894))
set_option maxHeartbeats 8000000 in
set_option maxRecDepth 100000 in
theorem matrix_wrong.calls (k : Nat) (a0_0 : Int) (a0_1 : Int) (a0_2 : Int) (a0_3 : Int) (a0_4 : Int) (A1 : Option Addr) (c1 : Nat) (l1 : List (S26)) (r : Int) (w : World) (hr1 : Kd.C k26 w A1 l1.length l1) (hc1 : l1.length ≤ c1) (h : matrix_wrong.f k a0_0 a0_1 a0_2 a0_3 a0_4 l1 = some r) :
  Calls Try.prog 79 #[.agg #[.int .i64 a0_0, .int .i64 a0_1, .int .i64 a0_2, .int .i64 a0_3, .int .i64 a0_4], .slice A1 l1.length c1] w fun e w' => e = .returned (.int .i64 r) ∧ Below w.heap.size w w' := by
 have hu23 := Try.underlying23
 have hu26 := Try.underlying26
 have HR1 := Aside0.mk hr1
 have HC1 := Aside0.mk hc1
 clear hr1 hc1
 have HB := Aside0.mk (Below.refl w.heap.size w)
 have H : ((matrix_check.f k a0_0 a0_1 a0_2 a0_3 a0_4 (l1.length : Int)).bind fun t894 => (if t894 = 0 then (matrix_wrong.l0 k l1 (l1.length : Int) 0 a0_0 a0_1 a0_2 a0_3 a0_4) else (some t894))) = some r := h
 clear h
 replace H := Option.bind_eq_some_iff.mp H
 obtain ⟨t894, A30, H⟩ := H
 replace H : (if t894 = 0 then (matrix_wrong.l0 k l1 (l1.length : Int) 0 a0_0 a0_1 a0_2 a0_3 a0_4) else (some t894)) = some r := H
 have A3 := Aside0.mk A30
 clear A30
 by_cases c4 : t894 = 0
 ·rw [if_pos c4] at H
  have c4b0 : (t894 == 0) = true := beq_iff_eq.mpr c4
  have c4b1 : (t894 != 0) = false := bne_eq_false_iff_eq.mpr c4
  clear c4
  have H' := Aside0.mk H
  clear H
  go_enter Try.func79, Try.ntmps79
  go_wp2_with (first | ((with_reducible refine gate_dst (N := 2) rfl ?_); (try (refine gate_guard (by rfl) ?_; dsimp only)); refine box_event ?hg (N := 2) ?hd (cs := #[.int .i64 a0_0, .int .i64 a0_1, .int .i64 a0_2, .int .i64 a0_3, .int .i64 a0_4]) (t := 23) ?hr ?_; (case hd => rfl); (case hg => rfl); (case hr => first | (go_simp; done) | (go_simp; rfl)); intro gb893 hg w5 hbox hb; have n0_ := Aside0.mk (below_step (zq35) hb); have n1_ := Aside0.mk (hbox); have n2_ := Aside0.mk ((zq19 : w.heap.size ≤ gb893)); have n3_ := Aside0.mk ((zq19 : w.heap.size ≤ gb893)); clear HB; have HB := n0_; have BK893 := n1_; have GW893 := n2_; have GE893 := n3_; clear n0_ n1_ n2_ n3_; clear hb hbox hg; have hcz6_0 : w5.cell? ⟨gb893, 0, none⟩ = some (.int .i64 a0_0) := (blk_cell BK893.out 0).trans rfl; have hcz6_1 : w5.cell? ⟨gb893, 1, none⟩ = some (.int .i64 a0_1) := (blk_cell BK893.out 1).trans rfl; have hcz6_2 : w5.cell? ⟨gb893, 2, none⟩ = some (.int .i64 a0_2) := (blk_cell BK893.out 2).trans rfl; have hcz6_3 : w5.cell? ⟨gb893, 3, none⟩ = some (.int .i64 a0_3) := (blk_cell BK893.out 3).trans rfl; have hcz6_4 : w5.cell? ⟨gb893, 4, none⟩ = some (.int .i64 a0_4) := (blk_cell BK893.out 4).trans rfl; have hfz6_0 := blk_frozen BK893.out 0; have hfz6_1 := blk_frozen BK893.out 1; have hfz6_2 := blk_frozen BK893.out 2; have hfz6_3 := blk_frozen BK893.out 3; have hfz6_4 := blk_frozen BK893.out 4) | ((with_reducible refine gate_callee (f := 109) rfl ?_); refine goesL_ (some 11) rfl rfl Try.func109 (zq56) rfl #[.agg #[.int .i64 a0_0, .int .i64 a0_1, .int .i64 a0_2, .int .i64 a0_3, .int .i64 a0_4], .int .i64 (l1.length : Int)] rfl (zq33) ?_; (with_reducible refine (matrix_check.calls k a0_0 a0_1 a0_2 a0_3 a0_4 (l1.length : Int) t894 _ A3.out).mono ?_); rintro e w7 ⟨rfl, hb⟩; refine ⟨_, rfl, ?_⟩; have n0_ := Aside0.mk (blk_below (g := gb893) (o := .cells #[.int .i64 a0_0, .int .i64 a0_1, .int .i64 a0_2, .int .i64 a0_3, .int .i64 a0_4] 23 (0, 0)) (zq46) hb); have n1_ := Aside0.mk (below_step (zq29) hb); clear BK893; clear HB; have BK893 := n0_; have HB := n1_; clear n0_ n1_; (try clear hb); (try clear hb2); (try clear hk); (try clear hi)))
  go_loopg [17] k (fun kq v17 w' => ∃ (x17_1 : Int), v17 = .int .i64 x17_1 ∧ Aside0 (matrix_wrong.l0 kq l1 (l1.length : Int) x17_1 a0_0 a0_1 a0_2 a0_3 a0_4 = some r) ∧ Aside0 (kq ≤ k) ∧ Aside0 (w'.heap[gb893]? = some (.cells #[.int .i64 a0_0, .int .i64 a0_1, .int .i64 a0_2, .int .i64 a0_3, .int .i64 a0_4] 23 (0, 0))) ∧ Aside0 (Below w.heap.size w w'))
  case atStart => exact ⟨(0), (zq52), H', ⟨Nat.le_refl _⟩, ⟨zq46⟩, ⟨zq29⟩⟩
  case round =>
   clear H'
   try clear c1
   try clear p2
   try clear c4
   try clear c4b0
   try clear c4b1
   try clear c7
   try clear hcz6_0
   try clear hcz6_1
   try clear hcz6_2
   try clear hcz6_3
   try clear hcz6_4
   try clear hfz6_0
   try clear hfz6_1
   try clear hfz6_2
   try clear hfz6_3
   try clear hfz6_4
   obtain ⟨x17_1, rfl, HA, HK1, BK893, HB⟩ := hrel
   cases gk with
   | zero => exact absurd HA.out (by simp [matrix_wrong.l0])
   | succ k1 =>
    have H := HA.out
    clear HA
    simp only [matrix_wrong.l0] at H
    by_cases c8 : x17_1 < (l1.length : Int)
    ·rw [if_pos c8] at H
     have c8b0 : decide (x17_1 < (l1.length : Int)) = true := decide_eq_true c8
     clear c8
     by_cases c9 : 0 ≤ x17_1
     ·rw [if_pos c9] at H
      have c9b0 : decide (0 ≤ x17_1) = true := decide_eq_true c9
      clear c9
      by_cases c10 : x17_1 < (l1.length : Int)
      ·rw [if_pos c10] at H
       have c10b0 : decide (x17_1 < (l1.length : Int)) = true := decide_eq_true c10
       clear c10
       by_cases c11 : (((rd_T26 l1 x17_1).f0).length : Int) = (wrap64 (a0_2 * a0_3))
       ·rw [if_pos c11] at H
        have c11b0 : ((((rd_T26 l1 x17_1).f0).length : Int) == (wrap64 (a0_2 * a0_3))) = true := beq_iff_eq.mpr c11
        have c11b1 : ((((rd_T26 l1 x17_1).f0).length : Int) != (wrap64 (a0_2 * a0_3))) = false := bne_eq_false_iff_eq.mpr c11
        clear c11
        by_cases c12 : (((rd_T26 l1 x17_1).f1).length : Int) = (wrap64 (a0_3 * a0_4))
        ·rw [if_pos c12] at H
         have c12b0 : ((((rd_T26 l1 x17_1).f1).length : Int) == (wrap64 (a0_3 * a0_4))) = true := beq_iff_eq.mpr c12
         have c12b1 : ((((rd_T26 l1 x17_1).f1).length : Int) != (wrap64 (a0_3 * a0_4))) = false := bne_eq_false_iff_eq.mpr c12
         clear c12
         replace H := Option.bind_eq_some_iff.mp H
         obtain ⟨t897, A130, H⟩ := H
         replace H : (if t897 = true then ((ring_Fits.f a0_1 ((rd_T26 l1 x17_1).f1)).bind fun t898 => (if t898 = true then (matrix_wrong.l0 k1 l1 (l1.length : Int) (wrap64 (x17_1 + 1)) a0_0 a0_1 a0_2 a0_3 a0_4) else (some 11))) else (some 11)) = some r := H
         have A13 := Aside0.mk A130
         clear A130
         by_cases c14 : t897 = true
         ·subst c14
          have H1 : ((ring_Fits.f a0_1 ((rd_T26 l1 x17_1).f1)).bind fun t898 => (if t898 = true then (matrix_wrong.l0 k1 l1 (l1.length : Int) (wrap64 (x17_1 + 1)) a0_0 a0_1 a0_2 a0_3 a0_4) else (some 11))) = some r := by rw [if_pos rfl] at H; exact H
          clear H
          have H := H1
          clear H1
          replace H := Option.bind_eq_some_iff.mp H
          obtain ⟨t898, A150, H⟩ := H
          replace H : (if t898 = true then (matrix_wrong.l0 k1 l1 (l1.length : Int) (wrap64 (x17_1 + 1)) a0_0 a0_1 a0_2 a0_3 a0_4) else (some 11)) = some r := H
          have A15 := Aside0.mk A150
          clear A150
          by_cases c16 : t898 = true
          ·subst c16
           have H1 : (matrix_wrong.l0 k1 l1 (l1.length : Int) (wrap64 (x17_1 + 1)) a0_0 a0_1 a0_2 a0_3 a0_4) = some r := by rw [if_pos rfl] at H; exact H
           clear H
           have H := H1
           clear H1
           have H' := Aside0.mk H
           clear H
           have p895 : 0 ≤ (x17_1 : Int) := of_decide_eq_true (zq51)
           have q895 : x17_1 < (l1.length : Int) := of_decide_eq_true (zq51)
           obtain ⟨ad895, A895_0, c895_0, A895_1, c895_1, A895_2, c895_2, e895, hx895_0, hx895_1, hx895_2, hl895_0, hi895_0, hl895_1, hi895_1, hl895_2, hi895_2⟩ := at_T26 HR1.out x17_1 p895 q895
           cases e895
           replace hx895_0 := (HB.out.cell (World.block_lt_of_cell? w _ hx895_0)).trans hx895_0
           replace hx895_1 := (HB.out.cell (World.block_lt_of_cell? w _ hx895_1)).trans hx895_1
           replace hx895_2 := (HB.out.cell (World.block_lt_of_cell? w _ hx895_2)).trans hx895_2
           have HR895_0 := Aside0.mk hi895_0
           have HC895_0 := Aside0.mk hl895_0
           clear hi895_0 hl895_0
           have HR895_1 := Aside0.mk hi895_1
           have HC895_1 := Aside0.mk hl895_1
           clear hi895_1 hl895_1
           have HR895_2 := Aside0.mk hi895_2
           have HC895_2 := Aside0.mk hl895_2
           clear hi895_2 hl895_2
           replace p895 := eq_true p895
           replace q895 := eq_true q895
           go_wp2_with (first | ((with_reducible refine gate_dst (N := 7) rfl ?_); (try (refine gate_guard (by rfl) ?_; dsimp only)); refine box_event ?hg (N := 7) ?hd (cs := #[.slice none 0 0, .slice none 0 0, .slice none 0 0]) (t := 26) ?hr ?_; (case hd => rfl); (case hg => rfl); (case hr => first | (go_simp; done) | (go_simp; rfl)); intro gb896 hg w17 hbox hb; have n0_ := Aside0.mk (blk_below (g := gb893) (o := .cells #[.int .i64 a0_0, .int .i64 a0_1, .int .i64 a0_2, .int .i64 a0_3, .int .i64 a0_4] 23 (0, 0)) (zq46) hb); have n1_ := Aside0.mk (below_step (zq29) hb); have n2_ := Aside0.mk (hbox); have n3_ := Aside0.mk ((zq14 : w.heap.size ≤ gb896)); have n4_ := Aside0.mk ((zq14 : w.heap.size ≤ gb896)); have n5_ := Aside0.mk ((zq6 : gb893 ≠ gb896)); have n6_ := Aside0.mk ((zq7 : gb896 ≠ gb893)); clear BK893; clear HB; have BK893 := n0_; have HB := n1_; have BK896 := n2_; have GW896 := n3_; have GE896 := n4_; have NB893_896 := n5_; have NB896_893 := n6_; clear n0_ n1_ n2_ n3_ n4_ n5_ n6_; clear hb hbox hg; have hnb18 := NB896_893.out; have hnc18 := NB893_896.out; have hcz19_0 : w17.cell? ⟨gb896, 0, none⟩ = some (.slice none 0 0) := (blk_cell BK896.out 0).trans rfl; have hcz19_1 : w17.cell? ⟨gb896, 1, none⟩ = some (.slice none 0 0) := (blk_cell BK896.out 1).trans rfl; have hcz19_2 : w17.cell? ⟨gb896, 2, none⟩ = some (.slice none 0 0) := (blk_cell BK896.out 2).trans rfl; have hfz19_0 := blk_frozen BK896.out 0; have hfz19_1 := blk_frozen BK896.out 1; have hfz19_2 := blk_frozen BK896.out 2; have hcz20_0 : w17.cell? ⟨gb893, 0, none⟩ = some (.int .i64 a0_0) := (blk_cell BK893.out 0).trans rfl; have hcz20_1 : w17.cell? ⟨gb893, 1, none⟩ = some (.int .i64 a0_1) := (blk_cell BK893.out 1).trans rfl; have hcz20_2 : w17.cell? ⟨gb893, 2, none⟩ = some (.int .i64 a0_2) := (blk_cell BK893.out 2).trans rfl; have hcz20_3 : w17.cell? ⟨gb893, 3, none⟩ = some (.int .i64 a0_3) := (blk_cell BK893.out 3).trans rfl; have hcz20_4 : w17.cell? ⟨gb893, 4, none⟩ = some (.int .i64 a0_4) := (blk_cell BK893.out 4).trans rfl; have hfz20_0 := blk_frozen BK893.out 0; have hfz20_1 := blk_frozen BK893.out 1; have hfz20_2 := blk_frozen BK893.out 2; have hfz20_3 := blk_frozen BK893.out 3; have hfz20_4 := blk_frozen BK893.out 4) | (go_at_call 65; (with_reducible refine (ring_Fits.calls a0_1 _ _ ((rd_T26 l1 x17_1).f0) true _ ?side1 ?side2 A13.out).mono ?_); (case side1 => exact Kd.C_below HR895_0.out (zq18)); (case side2 => exact HC895_0.out); rintro e w21 ⟨rfl, hb⟩; have n0_ := Aside0.mk (blk_below (g := gb893) (o := .cells #[.int .i64 a0_0, .int .i64 a0_1, .int .i64 a0_2, .int .i64 a0_3, .int .i64 a0_4] 23 (0, 0)) (zq1) hb); have n1_ := Aside0.mk (blk_below (g := gb896) (o := .cells #[.slice A895_0 ((rd_T26 l1 x17_1).f0).length c895_0, .slice A895_1 ((rd_T26 l1 x17_1).f1).length c895_1, .slice A895_2 ((rd_T26 l1 x17_1).f2).length c895_2] 26 (0, 0)) (zq0) hb); have n2_ := Aside0.mk (below_step (zq18) hb); clear BK893; clear BK896; clear HB; have BK893 := n0_; have BK896 := n1_; have HB := n2_; clear n0_ n1_ n2_; (try clear hb); (try clear hb2); (try clear hk); (try clear hi); have hcz22_0 : w21.cell? ⟨gb893, 0, none⟩ = some (.int .i64 a0_0) := (blk_cell BK893.out 0).trans rfl; have hcz22_1 : w21.cell? ⟨gb893, 1, none⟩ = some (.int .i64 a0_1) := (blk_cell BK893.out 1).trans rfl; have hcz22_2 : w21.cell? ⟨gb893, 2, none⟩ = some (.int .i64 a0_2) := (blk_cell BK893.out 2).trans rfl; have hcz22_3 : w21.cell? ⟨gb893, 3, none⟩ = some (.int .i64 a0_3) := (blk_cell BK893.out 3).trans rfl; have hcz22_4 : w21.cell? ⟨gb893, 4, none⟩ = some (.int .i64 a0_4) := (blk_cell BK893.out 4).trans rfl; have hfz22_0 := blk_frozen BK893.out 0; have hfz22_1 := blk_frozen BK893.out 1; have hfz22_2 := blk_frozen BK893.out 2; have hfz22_3 := blk_frozen BK893.out 3; have hfz22_4 := blk_frozen BK893.out 4; have hcz23_0 : w21.cell? ⟨gb896, 0, none⟩ = some (.slice A895_0 ((rd_T26 l1 x17_1).f0).length c895_0) := (blk_cell BK896.out 0).trans rfl; have hcz23_1 : w21.cell? ⟨gb896, 1, none⟩ = some (.slice A895_1 ((rd_T26 l1 x17_1).f1).length c895_1) := (blk_cell BK896.out 1).trans rfl; have hcz23_2 : w21.cell? ⟨gb896, 2, none⟩ = some (.slice A895_2 ((rd_T26 l1 x17_1).f2).length c895_2) := (blk_cell BK896.out 2).trans rfl; have hfz23_0 := blk_frozen BK896.out 0; have hfz23_1 := blk_frozen BK896.out 1; have hfz23_2 := blk_frozen BK896.out 2) | (go_at_call 65; (with_reducible refine (ring_Fits.calls a0_1 _ _ ((rd_T26 l1 x17_1).f1) true _ ?side1 ?side2 A15.out).mono ?_); (case side1 => repeat (first | exact (Kd.C_below HR895_1.out HB.out) | (with_reducible refine Kd.C_alloc ?_ _) | (with_reducible refine Kd.C_drewN ?_ _) | (with_reducible refine Kd.C_drew ?_))); (case side2 => exact HC895_1.out); rintro e w24 ⟨rfl, hb⟩; have n0_ := Aside0.mk (blk_below (g := gb893) (o := .cells #[.int .i64 a0_0, .int .i64 a0_1, .int .i64 a0_2, .int .i64 a0_3, .int .i64 a0_4] 23 (0, 0)) (zq46) hb); have n1_ := Aside0.mk (blk_below (g := gb896) (o := .cells #[.slice A895_0 ((rd_T26 l1 x17_1).f0).length c895_0, .slice A895_1 ((rd_T26 l1 x17_1).f1).length c895_1, .slice A895_2 ((rd_T26 l1 x17_1).f2).length c895_2] 26 (0, 0)) (by (with_reducible repeat (first | refine blk_drewN ?_ _ | refine blk_drew ?_ | refine blk_alloc ?_ _)); exact BK896.out) hb); have n2_ := Aside0.mk (below_step (zq18) hb); clear BK893; clear BK896; clear HB; have BK893 := n0_; have BK896 := n1_; have HB := n2_; clear n0_ n1_ n2_; (try clear hb); (try clear hb2); (try clear hk); (try clear hi)))
           go_roundg k1
           case measure => have := HK1.out; omega
           case rel => exact ⟨(wrap64 (x17_1 + 1)), (zq52), H', ⟨zq55⟩, ⟨zq46⟩, ⟨zq18⟩⟩
          ·replace c16 := Bool.eq_false_iff.mpr c16
           subst c16
           have H1 : (some 11) = some r := by rw [if_neg (show ¬ (false = true) by decide)] at H; exact H
           clear H
           have H := H1
           clear H1
           obtain rfl := Option.some.inj H
           have p895 : 0 ≤ (x17_1 : Int) := of_decide_eq_true (zq51)
           have q895 : x17_1 < (l1.length : Int) := of_decide_eq_true (zq51)
           obtain ⟨ad895, A895_0, c895_0, A895_1, c895_1, A895_2, c895_2, e895, hx895_0, hx895_1, hx895_2, hl895_0, hi895_0, hl895_1, hi895_1, hl895_2, hi895_2⟩ := at_T26 HR1.out x17_1 p895 q895
           cases e895
           replace hx895_0 := (HB.out.cell (World.block_lt_of_cell? w _ hx895_0)).trans hx895_0
           replace hx895_1 := (HB.out.cell (World.block_lt_of_cell? w _ hx895_1)).trans hx895_1
           replace hx895_2 := (HB.out.cell (World.block_lt_of_cell? w _ hx895_2)).trans hx895_2
           have HR895_0 := Aside0.mk hi895_0
           have HC895_0 := Aside0.mk hl895_0
           clear hi895_0 hl895_0
           have HR895_1 := Aside0.mk hi895_1
           have HC895_1 := Aside0.mk hl895_1
           clear hi895_1 hl895_1
           have HR895_2 := Aside0.mk hi895_2
           have HC895_2 := Aside0.mk hl895_2
           clear hi895_2 hl895_2
           replace p895 := eq_true p895
           replace q895 := eq_true q895
           go_wp2_with (first | ((with_reducible refine gate_dst (N := 7) rfl ?_); (try (refine gate_guard (by rfl) ?_; dsimp only)); refine box_event ?hg (N := 7) ?hd (cs := #[.slice none 0 0, .slice none 0 0, .slice none 0 0]) (t := 26) ?hr ?_; (case hd => rfl); (case hg => rfl); (case hr => first | (go_simp; done) | (go_simp; rfl)); intro gb896 hg w25 hbox hb; have n0_ := Aside0.mk (blk_below (g := gb893) (o := .cells #[.int .i64 a0_0, .int .i64 a0_1, .int .i64 a0_2, .int .i64 a0_3, .int .i64 a0_4] 23 (0, 0)) (zq46) hb); have n1_ := Aside0.mk (below_step (zq29) hb); have n2_ := Aside0.mk (hbox); have n3_ := Aside0.mk ((zq14 : w.heap.size ≤ gb896)); have n4_ := Aside0.mk ((zq14 : w.heap.size ≤ gb896)); have n5_ := Aside0.mk ((zq6 : gb893 ≠ gb896)); have n6_ := Aside0.mk ((zq7 : gb896 ≠ gb893)); clear BK893; clear HB; have BK893 := n0_; have HB := n1_; have BK896 := n2_; have GW896 := n3_; have GE896 := n4_; have NB893_896 := n5_; have NB896_893 := n6_; clear n0_ n1_ n2_ n3_ n4_ n5_ n6_; clear hb hbox hg; have hnb26 := NB896_893.out; have hnc26 := NB893_896.out; have hcz27_0 : w25.cell? ⟨gb896, 0, none⟩ = some (.slice none 0 0) := (blk_cell BK896.out 0).trans rfl; have hcz27_1 : w25.cell? ⟨gb896, 1, none⟩ = some (.slice none 0 0) := (blk_cell BK896.out 1).trans rfl; have hcz27_2 : w25.cell? ⟨gb896, 2, none⟩ = some (.slice none 0 0) := (blk_cell BK896.out 2).trans rfl; have hfz27_0 := blk_frozen BK896.out 0; have hfz27_1 := blk_frozen BK896.out 1; have hfz27_2 := blk_frozen BK896.out 2; have hcz28_0 : w25.cell? ⟨gb893, 0, none⟩ = some (.int .i64 a0_0) := (blk_cell BK893.out 0).trans rfl; have hcz28_1 : w25.cell? ⟨gb893, 1, none⟩ = some (.int .i64 a0_1) := (blk_cell BK893.out 1).trans rfl; have hcz28_2 : w25.cell? ⟨gb893, 2, none⟩ = some (.int .i64 a0_2) := (blk_cell BK893.out 2).trans rfl; have hcz28_3 : w25.cell? ⟨gb893, 3, none⟩ = some (.int .i64 a0_3) := (blk_cell BK893.out 3).trans rfl; have hcz28_4 : w25.cell? ⟨gb893, 4, none⟩ = some (.int .i64 a0_4) := (blk_cell BK893.out 4).trans rfl; have hfz28_0 := blk_frozen BK893.out 0; have hfz28_1 := blk_frozen BK893.out 1; have hfz28_2 := blk_frozen BK893.out 2; have hfz28_3 := blk_frozen BK893.out 3; have hfz28_4 := blk_frozen BK893.out 4) | (go_at_call 65; (with_reducible refine (ring_Fits.calls a0_1 _ _ ((rd_T26 l1 x17_1).f0) true _ ?side1 ?side2 A13.out).mono ?_); (case side1 => exact Kd.C_below HR895_0.out (zq18)); (case side2 => exact HC895_0.out); rintro e w29 ⟨rfl, hb⟩; have n0_ := Aside0.mk (blk_below (g := gb893) (o := .cells #[.int .i64 a0_0, .int .i64 a0_1, .int .i64 a0_2, .int .i64 a0_3, .int .i64 a0_4] 23 (0, 0)) (zq1) hb); have n1_ := Aside0.mk (blk_below (g := gb896) (o := .cells #[.slice A895_0 ((rd_T26 l1 x17_1).f0).length c895_0, .slice A895_1 ((rd_T26 l1 x17_1).f1).length c895_1, .slice A895_2 ((rd_T26 l1 x17_1).f2).length c895_2] 26 (0, 0)) (zq0) hb); have n2_ := Aside0.mk (below_step (zq18) hb); clear BK893; clear BK896; clear HB; have BK893 := n0_; have BK896 := n1_; have HB := n2_; clear n0_ n1_ n2_; (try clear hb); (try clear hb2); (try clear hk); (try clear hi); have hcz30_0 : w29.cell? ⟨gb893, 0, none⟩ = some (.int .i64 a0_0) := (blk_cell BK893.out 0).trans rfl; have hcz30_1 : w29.cell? ⟨gb893, 1, none⟩ = some (.int .i64 a0_1) := (blk_cell BK893.out 1).trans rfl; have hcz30_2 : w29.cell? ⟨gb893, 2, none⟩ = some (.int .i64 a0_2) := (blk_cell BK893.out 2).trans rfl; have hcz30_3 : w29.cell? ⟨gb893, 3, none⟩ = some (.int .i64 a0_3) := (blk_cell BK893.out 3).trans rfl; have hcz30_4 : w29.cell? ⟨gb893, 4, none⟩ = some (.int .i64 a0_4) := (blk_cell BK893.out 4).trans rfl; have hfz30_0 := blk_frozen BK893.out 0; have hfz30_1 := blk_frozen BK893.out 1; have hfz30_2 := blk_frozen BK893.out 2; have hfz30_3 := blk_frozen BK893.out 3; have hfz30_4 := blk_frozen BK893.out 4; have hcz31_0 : w29.cell? ⟨gb896, 0, none⟩ = some (.slice A895_0 ((rd_T26 l1 x17_1).f0).length c895_0) := (blk_cell BK896.out 0).trans rfl; have hcz31_1 : w29.cell? ⟨gb896, 1, none⟩ = some (.slice A895_1 ((rd_T26 l1 x17_1).f1).length c895_1) := (blk_cell BK896.out 1).trans rfl; have hcz31_2 : w29.cell? ⟨gb896, 2, none⟩ = some (.slice A895_2 ((rd_T26 l1 x17_1).f2).length c895_2) := (blk_cell BK896.out 2).trans rfl; have hfz31_0 := blk_frozen BK896.out 0; have hfz31_1 := blk_frozen BK896.out 1; have hfz31_2 := blk_frozen BK896.out 2) | (go_at_call 65; (with_reducible refine (ring_Fits.calls a0_1 _ _ ((rd_T26 l1 x17_1).f1) false _ ?side1 ?side2 A15.out).mono ?_); (case side1 => repeat (first | exact (Kd.C_below HR895_1.out HB.out) | (with_reducible refine Kd.C_alloc ?_ _) | (with_reducible refine Kd.C_drewN ?_ _) | (with_reducible refine Kd.C_drew ?_))); (case side2 => exact HC895_1.out); rintro e w32 ⟨rfl, hb⟩; have n0_ := Aside0.mk (blk_below (g := gb893) (o := .cells #[.int .i64 a0_0, .int .i64 a0_1, .int .i64 a0_2, .int .i64 a0_3, .int .i64 a0_4] 23 (0, 0)) (zq46) hb); have n1_ := Aside0.mk (blk_below (g := gb896) (o := .cells #[.slice A895_0 ((rd_T26 l1 x17_1).f0).length c895_0, .slice A895_1 ((rd_T26 l1 x17_1).f1).length c895_1, .slice A895_2 ((rd_T26 l1 x17_1).f2).length c895_2] 26 (0, 0)) (by (with_reducible repeat (first | refine blk_drewN ?_ _ | refine blk_drew ?_ | refine blk_alloc ?_ _)); exact BK896.out) hb); have n2_ := Aside0.mk (below_step (zq18) hb); clear BK893; clear BK896; clear HB; have BK893 := n0_; have BK896 := n1_; have HB := n2_; clear n0_ n1_ n2_; (try clear hb); (try clear hb2); (try clear hk); (try clear hi)))
           go_ret
           exact ⟨zq49, zq18⟩
         ·replace c14 := Bool.eq_false_iff.mpr c14
          subst c14
          have H1 : (some 11) = some r := by rw [if_neg (show ¬ (false = true) by decide)] at H; exact H
          clear H
          have H := H1
          clear H1
          obtain rfl := Option.some.inj H
          have p895 : 0 ≤ (x17_1 : Int) := of_decide_eq_true (zq51)
          have q895 : x17_1 < (l1.length : Int) := of_decide_eq_true (zq51)
          obtain ⟨ad895, A895_0, c895_0, A895_1, c895_1, A895_2, c895_2, e895, hx895_0, hx895_1, hx895_2, hl895_0, hi895_0, hl895_1, hi895_1, hl895_2, hi895_2⟩ := at_T26 HR1.out x17_1 p895 q895
          cases e895
          replace hx895_0 := (HB.out.cell (World.block_lt_of_cell? w _ hx895_0)).trans hx895_0
          replace hx895_1 := (HB.out.cell (World.block_lt_of_cell? w _ hx895_1)).trans hx895_1
          replace hx895_2 := (HB.out.cell (World.block_lt_of_cell? w _ hx895_2)).trans hx895_2
          have HR895_0 := Aside0.mk hi895_0
          have HC895_0 := Aside0.mk hl895_0
          clear hi895_0 hl895_0
          have HR895_1 := Aside0.mk hi895_1
          have HC895_1 := Aside0.mk hl895_1
          clear hi895_1 hl895_1
          have HR895_2 := Aside0.mk hi895_2
          have HC895_2 := Aside0.mk hl895_2
          clear hi895_2 hl895_2
          replace p895 := eq_true p895
          replace q895 := eq_true q895
          go_wp2_with (first | ((with_reducible refine gate_dst (N := 7) rfl ?_); (try (refine gate_guard (by rfl) ?_; dsimp only)); refine box_event ?hg (N := 7) ?hd (cs := #[.slice none 0 0, .slice none 0 0, .slice none 0 0]) (t := 26) ?hr ?_; (case hd => rfl); (case hg => rfl); (case hr => first | (go_simp; done) | (go_simp; rfl)); intro gb896 hg w33 hbox hb; have n0_ := Aside0.mk (blk_below (g := gb893) (o := .cells #[.int .i64 a0_0, .int .i64 a0_1, .int .i64 a0_2, .int .i64 a0_3, .int .i64 a0_4] 23 (0, 0)) (zq46) hb); have n1_ := Aside0.mk (below_step (zq29) hb); have n2_ := Aside0.mk (hbox); have n3_ := Aside0.mk ((zq14 : w.heap.size ≤ gb896)); have n4_ := Aside0.mk ((zq14 : w.heap.size ≤ gb896)); have n5_ := Aside0.mk ((zq6 : gb893 ≠ gb896)); have n6_ := Aside0.mk ((zq7 : gb896 ≠ gb893)); clear BK893; clear HB; have BK893 := n0_; have HB := n1_; have BK896 := n2_; have GW896 := n3_; have GE896 := n4_; have NB893_896 := n5_; have NB896_893 := n6_; clear n0_ n1_ n2_ n3_ n4_ n5_ n6_; clear hb hbox hg; have hnb34 := NB896_893.out; have hnc34 := NB893_896.out; have hcz35_0 : w33.cell? ⟨gb896, 0, none⟩ = some (.slice none 0 0) := (blk_cell BK896.out 0).trans rfl; have hcz35_1 : w33.cell? ⟨gb896, 1, none⟩ = some (.slice none 0 0) := (blk_cell BK896.out 1).trans rfl; have hcz35_2 : w33.cell? ⟨gb896, 2, none⟩ = some (.slice none 0 0) := (blk_cell BK896.out 2).trans rfl; have hfz35_0 := blk_frozen BK896.out 0; have hfz35_1 := blk_frozen BK896.out 1; have hfz35_2 := blk_frozen BK896.out 2; have hcz36_0 : w33.cell? ⟨gb893, 0, none⟩ = some (.int .i64 a0_0) := (blk_cell BK893.out 0).trans rfl; have hcz36_1 : w33.cell? ⟨gb893, 1, none⟩ = some (.int .i64 a0_1) := (blk_cell BK893.out 1).trans rfl; have hcz36_2 : w33.cell? ⟨gb893, 2, none⟩ = some (.int .i64 a0_2) := (blk_cell BK893.out 2).trans rfl; have hcz36_3 : w33.cell? ⟨gb893, 3, none⟩ = some (.int .i64 a0_3) := (blk_cell BK893.out 3).trans rfl; have hcz36_4 : w33.cell? ⟨gb893, 4, none⟩ = some (.int .i64 a0_4) := (blk_cell BK893.out 4).trans rfl; have hfz36_0 := blk_frozen BK893.out 0; have hfz36_1 := blk_frozen BK893.out 1; have hfz36_2 := blk_frozen BK893.out 2; have hfz36_3 := blk_frozen BK893.out 3; have hfz36_4 := blk_frozen BK893.out 4) | (go_at_call 65; (with_reducible refine (ring_Fits.calls a0_1 _ _ ((rd_T26 l1 x17_1).f0) false _ ?side1 ?side2 A13.out).mono ?_); (case side1 => exact Kd.C_below HR895_0.out (zq18)); (case side2 => exact HC895_0.out); rintro e w37 ⟨rfl, hb⟩; have n0_ := Aside0.mk (blk_below (g := gb893) (o := .cells #[.int .i64 a0_0, .int .i64 a0_1, .int .i64 a0_2, .int .i64 a0_3, .int .i64 a0_4] 23 (0, 0)) (zq1) hb); have n1_ := Aside0.mk (blk_below (g := gb896) (o := .cells #[.slice A895_0 ((rd_T26 l1 x17_1).f0).length c895_0, .slice A895_1 ((rd_T26 l1 x17_1).f1).length c895_1, .slice A895_2 ((rd_T26 l1 x17_1).f2).length c895_2] 26 (0, 0)) (zq0) hb); have n2_ := Aside0.mk (below_step (zq18) hb); clear BK893; clear BK896; clear HB; have BK893 := n0_; have BK896 := n1_; have HB := n2_; clear n0_ n1_ n2_; (try clear hb); (try clear hb2); (try clear hk); (try clear hi)))
          go_ret
          exact ⟨zq49, zq18⟩
        ·rw [if_neg c12] at H
         have c12b0 : ((((rd_T26 l1 x17_1).f1).length : Int) == (wrap64 (a0_3 * a0_4))) = false := beq_eq_false_iff_ne.mpr c12
         have c12b1 : ((((rd_T26 l1 x17_1).f1).length : Int) != (wrap64 (a0_3 * a0_4))) = true := bne_iff_ne.mpr c12
         obtain rfl := Option.some.inj H
         have p895 : 0 ≤ (x17_1 : Int) := of_decide_eq_true (zq51)
         have q895 : x17_1 < (l1.length : Int) := of_decide_eq_true (zq51)
         obtain ⟨ad895, A895_0, c895_0, A895_1, c895_1, A895_2, c895_2, e895, hx895_0, hx895_1, hx895_2, hl895_0, hi895_0, hl895_1, hi895_1, hl895_2, hi895_2⟩ := at_T26 HR1.out x17_1 p895 q895
         cases e895
         replace hx895_0 := (HB.out.cell (World.block_lt_of_cell? w _ hx895_0)).trans hx895_0
         replace hx895_1 := (HB.out.cell (World.block_lt_of_cell? w _ hx895_1)).trans hx895_1
         replace hx895_2 := (HB.out.cell (World.block_lt_of_cell? w _ hx895_2)).trans hx895_2
         have HR895_0 := Aside0.mk hi895_0
         have HC895_0 := Aside0.mk hl895_0
         clear hi895_0 hl895_0
         have HR895_1 := Aside0.mk hi895_1
         have HC895_1 := Aside0.mk hl895_1
         clear hi895_1 hl895_1
         have HR895_2 := Aside0.mk hi895_2
         have HC895_2 := Aside0.mk hl895_2
         clear hi895_2 hl895_2
         replace p895 := eq_true p895
         replace q895 := eq_true q895
         go_wp2_with (first | ((with_reducible refine gate_dst (N := 7) rfl ?_); (try (refine gate_guard (by rfl) ?_; dsimp only)); refine box_event ?hg (N := 7) ?hd (cs := #[.slice none 0 0, .slice none 0 0, .slice none 0 0]) (t := 26) ?hr ?_; (case hd => rfl); (case hg => rfl); (case hr => first | (go_simp; done) | (go_simp; rfl)); intro gb896 hg w38 hbox hb; have n0_ := Aside0.mk (blk_below (g := gb893) (o := .cells #[.int .i64 a0_0, .int .i64 a0_1, .int .i64 a0_2, .int .i64 a0_3, .int .i64 a0_4] 23 (0, 0)) (zq46) hb); have n1_ := Aside0.mk (below_step (zq29) hb); have n2_ := Aside0.mk (hbox); have n3_ := Aside0.mk ((zq14 : w.heap.size ≤ gb896)); have n4_ := Aside0.mk ((zq14 : w.heap.size ≤ gb896)); have n5_ := Aside0.mk ((zq6 : gb893 ≠ gb896)); have n6_ := Aside0.mk ((zq7 : gb896 ≠ gb893)); clear BK893; clear HB; have BK893 := n0_; have HB := n1_; have BK896 := n2_; have GW896 := n3_; have GE896 := n4_; have NB893_896 := n5_; have NB896_893 := n6_; clear n0_ n1_ n2_ n3_ n4_ n5_ n6_; clear hb hbox hg; have hnb39 := NB896_893.out; have hnc39 := NB893_896.out; have hcz40_0 : w38.cell? ⟨gb896, 0, none⟩ = some (.slice none 0 0) := (blk_cell BK896.out 0).trans rfl; have hcz40_1 : w38.cell? ⟨gb896, 1, none⟩ = some (.slice none 0 0) := (blk_cell BK896.out 1).trans rfl; have hcz40_2 : w38.cell? ⟨gb896, 2, none⟩ = some (.slice none 0 0) := (blk_cell BK896.out 2).trans rfl; have hfz40_0 := blk_frozen BK896.out 0; have hfz40_1 := blk_frozen BK896.out 1; have hfz40_2 := blk_frozen BK896.out 2; have hcz41_0 : w38.cell? ⟨gb893, 0, none⟩ = some (.int .i64 a0_0) := (blk_cell BK893.out 0).trans rfl; have hcz41_1 : w38.cell? ⟨gb893, 1, none⟩ = some (.int .i64 a0_1) := (blk_cell BK893.out 1).trans rfl; have hcz41_2 : w38.cell? ⟨gb893, 2, none⟩ = some (.int .i64 a0_2) := (blk_cell BK893.out 2).trans rfl; have hcz41_3 : w38.cell? ⟨gb893, 3, none⟩ = some (.int .i64 a0_3) := (blk_cell BK893.out 3).trans rfl; have hcz41_4 : w38.cell? ⟨gb893, 4, none⟩ = some (.int .i64 a0_4) := (blk_cell BK893.out 4).trans rfl; have hfz41_0 := blk_frozen BK893.out 0; have hfz41_1 := blk_frozen BK893.out 1; have hfz41_2 := blk_frozen BK893.out 2; have hfz41_3 := blk_frozen BK893.out 3; have hfz41_4 := blk_frozen BK893.out 4))
         go_ret
         exact ⟨zq49, zq18⟩
       ·rw [if_neg c11] at H
        have c11b0 : ((((rd_T26 l1 x17_1).f0).length : Int) == (wrap64 (a0_2 * a0_3))) = false := beq_eq_false_iff_ne.mpr c11
        have c11b1 : ((((rd_T26 l1 x17_1).f0).length : Int) != (wrap64 (a0_2 * a0_3))) = true := bne_iff_ne.mpr c11
        obtain rfl := Option.some.inj H
        have p895 : 0 ≤ (x17_1 : Int) := of_decide_eq_true (zq51)
        have q895 : x17_1 < (l1.length : Int) := of_decide_eq_true (zq51)
        obtain ⟨ad895, A895_0, c895_0, A895_1, c895_1, A895_2, c895_2, e895, hx895_0, hx895_1, hx895_2, hl895_0, hi895_0, hl895_1, hi895_1, hl895_2, hi895_2⟩ := at_T26 HR1.out x17_1 p895 q895
        cases e895
        replace hx895_0 := (HB.out.cell (World.block_lt_of_cell? w _ hx895_0)).trans hx895_0
        replace hx895_1 := (HB.out.cell (World.block_lt_of_cell? w _ hx895_1)).trans hx895_1
        replace hx895_2 := (HB.out.cell (World.block_lt_of_cell? w _ hx895_2)).trans hx895_2
        have HR895_0 := Aside0.mk hi895_0
        have HC895_0 := Aside0.mk hl895_0
        clear hi895_0 hl895_0
        have HR895_1 := Aside0.mk hi895_1
        have HC895_1 := Aside0.mk hl895_1
        clear hi895_1 hl895_1
        have HR895_2 := Aside0.mk hi895_2
        have HC895_2 := Aside0.mk hl895_2
        clear hi895_2 hl895_2
        replace p895 := eq_true p895
        replace q895 := eq_true q895
        go_wp2_with (first | ((with_reducible refine gate_dst (N := 7) rfl ?_); (try (refine gate_guard (by rfl) ?_; dsimp only)); refine box_event ?hg (N := 7) ?hd (cs := #[.slice none 0 0, .slice none 0 0, .slice none 0 0]) (t := 26) ?hr ?_; (case hd => rfl); (case hg => rfl); (case hr => first | (go_simp; done) | (go_simp; rfl)); intro gb896 hg w42 hbox hb; have n0_ := Aside0.mk (blk_below (g := gb893) (o := .cells #[.int .i64 a0_0, .int .i64 a0_1, .int .i64 a0_2, .int .i64 a0_3, .int .i64 a0_4] 23 (0, 0)) (zq46) hb); have n1_ := Aside0.mk (below_step (zq29) hb); have n2_ := Aside0.mk (hbox); have n3_ := Aside0.mk ((zq14 : w.heap.size ≤ gb896)); have n4_ := Aside0.mk ((zq14 : w.heap.size ≤ gb896)); have n5_ := Aside0.mk ((zq6 : gb893 ≠ gb896)); have n6_ := Aside0.mk ((zq7 : gb896 ≠ gb893)); clear BK893; clear HB; have BK893 := n0_; have HB := n1_; have BK896 := n2_; have GW896 := n3_; have GE896 := n4_; have NB893_896 := n5_; have NB896_893 := n6_; clear n0_ n1_ n2_ n3_ n4_ n5_ n6_; clear hb hbox hg; have hnb43 := NB896_893.out; have hnc43 := NB893_896.out; have hcz44_0 : w42.cell? ⟨gb896, 0, none⟩ = some (.slice none 0 0) := (blk_cell BK896.out 0).trans rfl; have hcz44_1 : w42.cell? ⟨gb896, 1, none⟩ = some (.slice none 0 0) := (blk_cell BK896.out 1).trans rfl; have hcz44_2 : w42.cell? ⟨gb896, 2, none⟩ = some (.slice none 0 0) := (blk_cell BK896.out 2).trans rfl; have hfz44_0 := blk_frozen BK896.out 0; have hfz44_1 := blk_frozen BK896.out 1; have hfz44_2 := blk_frozen BK896.out 2; have hcz45_0 : w42.cell? ⟨gb893, 0, none⟩ = some (.int .i64 a0_0) := (blk_cell BK893.out 0).trans rfl; have hcz45_1 : w42.cell? ⟨gb893, 1, none⟩ = some (.int .i64 a0_1) := (blk_cell BK893.out 1).trans rfl; have hcz45_2 : w42.cell? ⟨gb893, 2, none⟩ = some (.int .i64 a0_2) := (blk_cell BK893.out 2).trans rfl; have hcz45_3 : w42.cell? ⟨gb893, 3, none⟩ = some (.int .i64 a0_3) := (blk_cell BK893.out 3).trans rfl; have hcz45_4 : w42.cell? ⟨gb893, 4, none⟩ = some (.int .i64 a0_4) := (blk_cell BK893.out 4).trans rfl; have hfz45_0 := blk_frozen BK893.out 0; have hfz45_1 := blk_frozen BK893.out 1; have hfz45_2 := blk_frozen BK893.out 2; have hfz45_3 := blk_frozen BK893.out 3; have hfz45_4 := blk_frozen BK893.out 4))
        go_ret
        exact ⟨zq49, zq18⟩
      ·rw [if_neg c10] at H
       exact absurd H (by simp)
     ·rw [if_neg c9] at H
      exact absurd H (by simp)
    ·rw [if_neg c8] at H
     have c8b0 : decide (x17_1 < (l1.length : Int)) = false := decide_eq_false c8
     clear c8
     obtain rfl := Option.some.inj H
     go_wp2
     go_ret
     exact ⟨zq49, zq29⟩
 ·rw [if_neg c4] at H
  have c4b0 : (t894 == 0) = false := beq_eq_false_iff_ne.mpr c4
  have c4b1 : (t894 != 0) = true := bne_iff_ne.mpr c4
  obtain rfl := Option.some.inj H
  go_enter Try.func79, Try.ntmps79
  go_wp2_with (first | ((with_reducible refine gate_dst (N := 2) rfl ?_); (try (refine gate_guard (by rfl) ?_; dsimp only)); refine box_event ?hg (N := 2) ?hd (cs := #[.int .i64 a0_0, .int .i64 a0_1, .int .i64 a0_2, .int .i64 a0_3, .int .i64 a0_4]) (t := 23) ?hr ?_; (case hd => rfl); (case hg => rfl); (case hr => first | (go_simp; done) | (go_simp; rfl)); intro gb893 hg w46 hbox hb; have n0_ := Aside0.mk (below_step (zq35) hb); have n1_ := Aside0.mk (hbox); have n2_ := Aside0.mk ((zq19 : w.heap.size ≤ gb893)); have n3_ := Aside0.mk ((zq19 : w.heap.size ≤ gb893)); clear HB; have HB := n0_; have BK893 := n1_; have GW893 := n2_; have GE893 := n3_; clear n0_ n1_ n2_ n3_; clear hb hbox hg; have hcz47_0 : w46.cell? ⟨gb893, 0, none⟩ = some (.int .i64 a0_0) := (blk_cell BK893.out 0).trans rfl; have hcz47_1 : w46.cell? ⟨gb893, 1, none⟩ = some (.int .i64 a0_1) := (blk_cell BK893.out 1).trans rfl; have hcz47_2 : w46.cell? ⟨gb893, 2, none⟩ = some (.int .i64 a0_2) := (blk_cell BK893.out 2).trans rfl; have hcz47_3 : w46.cell? ⟨gb893, 3, none⟩ = some (.int .i64 a0_3) := (blk_cell BK893.out 3).trans rfl; have hcz47_4 : w46.cell? ⟨gb893, 4, none⟩ = some (.int .i64 a0_4) := (blk_cell BK893.out 4).trans rfl; have hfz47_0 := blk_frozen BK893.out 0; have hfz47_1 := blk_frozen BK893.out 1; have hfz47_2 := blk_frozen BK893.out 2; have hfz47_3 := blk_frozen BK893.out 3; have hfz47_4 := blk_frozen BK893.out 4) | ((with_reducible refine gate_callee (f := 109) rfl ?_); refine goesL_ (some 11) rfl rfl Try.func109 (zq56) rfl #[.agg #[.int .i64 a0_0, .int .i64 a0_1, .int .i64 a0_2, .int .i64 a0_3, .int .i64 a0_4], .int .i64 (l1.length : Int)] rfl (zq33) ?_; (with_reducible refine (matrix_check.calls k a0_0 a0_1 a0_2 a0_3 a0_4 (l1.length : Int) t894 _ A3.out).mono ?_); rintro e w48 ⟨rfl, hb⟩; refine ⟨_, rfl, ?_⟩; have n0_ := Aside0.mk (blk_below (g := gb893) (o := .cells #[.int .i64 a0_0, .int .i64 a0_1, .int .i64 a0_2, .int .i64 a0_3, .int .i64 a0_4] 23 (0, 0)) (zq46) hb); have n1_ := Aside0.mk (below_step (zq29) hb); clear BK893; clear HB; have BK893 := n0_; have HB := n1_; clear n0_ n1_; (try clear hb); (try clear hb2); (try clear hk); (try clear hi)))
  go_ret
  exact ⟨zq49, zq29⟩

/-! ### matrix_gather: function 80 -/
mutual
def matrix_gather.l0 : Nat → List Int → List Int → Int → Int → Int → Int → Int → Int → Int → Option (List Int)
 | 0, _, _, _, _, _, _, _, _, _ => none
 | k + 1, x1, x5, x17, x18, x900000, x900001, x900002, x900003, x900004 => if x18 < x17 then (if 0 ≤ x900004 then (if (x900004 : Int).toNat ≤ 35184372088832 then (matrix_gather.l1 k x1 x5 x18 (List.replicate (x900004 : Int).toNat 0) x17 x18 x900003 0 x900000 x900001 x900002 x900003 x900004) else (none)) else (none)) else (some x5)
def matrix_gather.l1 : Nat → List Int → List Int → Int → List Int → Int → Int → Int → Int → Int → Int → Int → Int → Int → Option (List Int)
 | 0, _, _, _, _, _, _, _, _, _, _, _, _, _ => none
 | k + 1, x1, x5, x6, x7, x17, x18, x25, x26, x900000, x900001, x900002, x900003, x900004 => if x26 < x25 then (if 0 ≤ (wrap64 ((wrap64 ((wrap64 (x6 * x900003)) + x26)) * x900004)) then (if (wrap64 ((wrap64 ((wrap64 (x6 * x900003)) + x26)) * x900004)) ≤ (wrap64 ((wrap64 ((wrap64 ((wrap64 (x6 * x900003)) + x26)) * x900004)) + x900004)) then (if (wrap64 ((wrap64 ((wrap64 ((wrap64 (x6 * x900003)) + x26)) * x900004)) + x900004)) ≤ (x1.length : Int) then ((ring_AddAll.f x900001 x7 ((x1.take ((wrap64 ((wrap64 ((wrap64 ((wrap64 (x6 * x900003)) + x26)) * x900004)) + x900004)) : Int).toNat).drop ((wrap64 ((wrap64 ((wrap64 (x6 * x900003)) + x26)) * x900004)) : Int).toNat)).bind fun bt907 => (matrix_gather.l1 k x1 x5 x6 bt907.1 x17 x18 x25 (wrap64 (x26 + 1)) x900000 x900001 x900002 x900003 x900004)) else (none)) else (none)) else (none)) else (if x5.length + x7.length < 17592186044416 then (matrix_gather.l0 k x1 (x5 ++ x7) x17 (wrap64 (x18 + 1)) x900000 x900001 x900002 x900003 x900004) else (none))
end
def matrix_gather.f (k : Nat) (a0_0 : Int) (a0_1 : Int) (a0_2 : Int) (a0_3 : Int) (a0_4 : Int) (l1 : List Int) : Option (List Int) := if 0 ≤ (wrap64 (a0_2 * a0_4)) then (if (wrap64 (a0_2 * a0_4) : Int).toNat ≤ 35184372088832 then (matrix_gather.l0 k l1 (([] : List Int)) a0_2 0 a0_0 a0_1 a0_2 a0_3 a0_4) else (none)) else (none)
def matrix_gather.T10 : Bool × List (List Nat × List Nat) := (true, [([], []), ([0], [0]), ([], []), ([], []), ([], []), ([], []), ([], []), ([6], [6]), ([5, 7], [5, 7]), ([3, 4, 8], [3, 4, 8]), ([1, 2, 9], [1, 2, 9]), ([10], [10]), ([11], [11]), ([11], [11]), ([12, 10, 0, 1, 2, 3, 4, 5, 6, 7, 8, 9, 10, 11, 12], [2, 12])])
def matrix_gather.B10 : List Nat := [0, 1, 0, 0, 0, 0, 0, 64, 224, 504, 1023, 2047, 4095, 4095, 8191]
theorem matrix_gather.tab10 : rtab .any (opsOf Try.f80 10) = matrix_gather.T10 := by kernel_rfl
theorem matrix_gather.bits10 : waitsOk matrix_gather.T10.2 matrix_gather.B10 = true := by kernel_rfl
set_option maxHeartbeats 8000000 in
set_option maxRecDepth 100000 in
theorem matrix_gather.calls (k : Nat) (a0_0 : Int) (a0_1 : Int) (a0_2 : Int) (a0_3 : Int) (a0_4 : Int) (A1 : Option Addr) (c1 : Nat) (l1 : List Int) (r : List Int) (w : World) (hr1 : Kd.C (Kd.int .u64) w A1 l1.length l1) (hc1 : l1.length ≤ c1) (h : matrix_gather.f k a0_0 a0_1 a0_2 a0_3 a0_4 l1 = some r) :
  Calls Try.prog 80 #[.agg #[.int .i64 a0_0, .int .i64 a0_1, .int .i64 a0_2, .int .i64 a0_3, .int .i64 a0_4], .slice A1 l1.length c1] w fun e w' => ∃ v0_ : Value, e = .returned (v0_) ∧ Kd.R (Kd.int .u64) 35 w' w.heap.size (fun _ => True) v0_ r ∧ Below w.heap.size w w' := by
 have hu23 := Try.underlying23
 have HR1 := Aside0.mk hr1
 have HC1 := Aside0.mk hc1
 clear hr1 hc1
 have HB := Aside0.mk (Below.refl w.heap.size w)
 have H : (if 0 ≤ (wrap64 (a0_2 * a0_4)) then (if (wrap64 (a0_2 * a0_4) : Int).toNat ≤ 35184372088832 then (matrix_gather.l0 k l1 (([] : List Int)) a0_2 0 a0_0 a0_1 a0_2 a0_3 a0_4) else (none)) else (none)) = some r := h
 clear h
 obtain ⟨ji3, hji3⟩ : ∃ j_ : Int, (wrap64 (a0_2 * a0_4)) = j_ := ⟨_, rfl⟩
 replace H : (if 0 ≤ (ji3) then (if (ji3 : Int).toNat ≤ 35184372088832 then (matrix_gather.l0 k l1 (([] : List Int)) a0_2 0 a0_0 a0_1 a0_2 a0_3 a0_4) else (none)) else (none)) = some r := by first | (rw [hji3] at H; exact H) | (simp only [hji3] at H ⊢; exact H)
 have hji3w : (IntKind.i64.wrap (a0_2 * a0_4)) = ji3 := (i64_w _).trans hji3
 by_cases c4 : 0 ≤ (ji3)
 ·rw [if_pos c4] at H
  have c4b0 := eq_true c4
  have c4b1 : decide (0 ≤ (ji3)) = true := decide_eq_true c4
  clear c4
  by_cases c5 : (ji3 : Int).toNat ≤ 35184372088832
  ·rw [if_pos c5] at H
   have c5b0 := eq_true c5
   have c5b1 : decide ((ji3 : Int).toNat ≤ 35184372088832) = true := decide_eq_true c5
   clear c5
   obtain ⟨y900, hy900⟩ : ∃ y_ : List Int, y_ = (([] : List Int)) := ⟨_, rfl⟩
   replace H : (matrix_gather.l0 k l1 y900 a0_2 0 a0_0 a0_1 a0_2 a0_3 a0_4) = some r := by first | (rw [hy900]; with_reducible exact H) | (have H2_ := (Option.bind_some _ _).symm.trans H; rw [hy900]; with_reducible exact H2_) | (have H2_ := (Option.bind_some _ _).symm.trans H; with_reducible exact H2_) | with_reducible exact H | (rw [hy900]; exact H) | exact H
   have Ny900 := Aside0.mk hy900
   clear hy900
   have H' := Aside0.mk H
   clear H
   go_enter Try.func80, Try.ntmps80
   go_wp2_with (first | ((with_reducible refine gate_dst (N := 2) rfl ?_); refine box_event ?hg (N := 2) ?hd (cs := #[.int .i64 a0_0, .int .i64 a0_1, .int .i64 a0_2, .int .i64 a0_3, .int .i64 a0_4]) (t := 23) ?hr ?_; (case hd => rfl); (case hg => rfl); (case hr => first | (go_simp; done) | (go_simp; rfl)); intro gb899 hg w6 hbox hb; have n0_ := Aside0.mk (below_step HB.bl hb); have n1_ := Aside0.mk (hbox); have n2_ := Aside0.mk ((zq54 : w.heap.size ≤ gb899)); have n3_ := Aside0.mk ((zq54 : w.heap.size ≤ gb899)); clear HB; have HB := n0_; have BK899 := n1_; have GW899 := n2_; have GE899 := n3_; clear n0_ n1_ n2_ n3_; clear hb hbox hg; obtain ⟨hcz7_0, hcz7_1, hcz7_2, hcz7_3, hcz7_4, hfz7_0, hfz7_1, hfz7_2, hfz7_3, hfz7_4⟩ := cells_5 BK899.out) | ((with_reducible refine gate_dst (N := 15) rfl ?_); refine Kd.R_makecap (Kd.int .u64) _ 35 rfl (N := 15) rfl 24 _ _ rfl ji3 rfl rfl Try.underlying24 (.int .u64 0) 8 info35 rfl (by decide) (by omega) 0 (ok := fun _ => True) (okp := fun _ => True) rfl (fun _ hk => hk) trivial (of_decide_eq_true (zq51)) (Nat.le_trans (Nat.mul_le_mul_right _ (of_decide_eq_true (zq51) : ji3.toNat ≤ 35184372088832)) (by omega)) (Below.refl _ _) (Nat.le_refl _) ?_; intro v901 w8 ho9 hb hg_ hnew_; clear hg_ hnew_; (first | rw [← Ny900.out] at ho9 | (simp only [Int.reduceToNat] at ho9; rw [← Ny900.out] at ho9)); have HO902 := Aside0.mk (Kd.R_lower ho9 (below_size HB.bl)); replace BK899 := Aside0.mk (BK899.lk hb); replace HB := Aside0.mk (below_step HB.bl hb); clear hb ho9; obtain ⟨hcz10_0, hcz10_1, hcz10_2, hcz10_3, hcz10_4, hfz10_0, hfz10_1, hfz10_2, hfz10_3, hfz10_4⟩ := cells_5 BK899.out))
   go_loopg [5, 18] k (fun kq v5 v18 w' => ∃ (x5_1 : List Int) (x18_1 : Int), v18 = .int .i64 x18_1 ∧ Aside0 (matrix_gather.l0 kq l1 x5_1 a0_2 x18_1 a0_0 a0_1 a0_2 a0_3 a0_4 = some r) ∧ Aside0 (kq ≤ k) ∧ Aside0 (Kd.R (Kd.int .u64) 35 w' w.heap.size (fun _ => True) v5 x5_1) ∧ Aside0 (w'.heap[gb899]? = some (.cells #[.int .i64 a0_0, .int .i64 a0_1, .int .i64 a0_2, .int .i64 a0_3, .int .i64 a0_4] 23 (0, 0))) ∧ Aside0 (Below w.heap.size w w'))
   case atStart => exact ⟨(y900), (0), (zq52), H', ⟨Nat.le_refl _⟩, ⟨HO902.r⟩, ⟨zq47⟩, ⟨zq30⟩⟩
   case round =>
    clear H'
    try clear c1
    try clear p2
    try clear c4
    try clear c4b0
    try clear c4b1
    try clear c5
    try clear c5b0
    try clear c5b1
    try clear p6
    try clear c8
    try clear hcz10_0
    try clear hcz10_1
    try clear hcz10_2
    try clear hcz10_3
    try clear hcz10_4
    try clear hcz7_0
    try clear hcz7_1
    try clear hcz7_2
    try clear hcz7_3
    try clear hcz7_4
    try clear hfz10_0
    try clear hfz10_1
    try clear hfz10_2
    try clear hfz10_3
    try clear hfz10_4
    try clear hfz7_0
    try clear hfz7_1
    try clear hfz7_2
    try clear hfz7_3
    try clear hfz7_4
    obtain ⟨x5_1, x18_1, rfl, HA, HK1, HO_5, BK899, HB⟩ := hrel
    cases gk with
    | zero => exact absurd HA.out (by simp [matrix_gather.l0])
    | succ k1 =>
     have H := HA.out
     clear HA
     simp only [matrix_gather.l0] at H
     by_cases c11 : x18_1 < a0_2
     ·rw [if_pos c11] at H
      have c11b0 : decide (x18_1 < a0_2) = true := decide_eq_true c11
      clear c11
      by_cases c12 : 0 ≤ a0_4
      ·rw [if_pos c12] at H
       have c12b0 := eq_true c12
       have c12b1 : decide (0 ≤ a0_4) = true := decide_eq_true c12
       clear c12
       by_cases c13 : (a0_4 : Int).toNat ≤ 35184372088832
       ·rw [if_pos c13] at H
        have c13b0 := eq_true c13
        have c13b1 : decide ((a0_4 : Int).toNat ≤ 35184372088832) = true := decide_eq_true c13
        clear c13
        obtain ⟨y903, hy903⟩ : ∃ y_ : List Int, y_ = (List.replicate (a0_4 : Int).toNat 0) := ⟨_, rfl⟩
        replace H : (matrix_gather.l1 k1 l1 x5_1 x18_1 y903 a0_2 x18_1 a0_3 0 a0_0 a0_1 a0_2 a0_3 a0_4) = some r := by first | (rw [hy903]; with_reducible exact H) | (have H2_ := (Option.bind_some _ _).symm.trans H; rw [hy903]; with_reducible exact H2_) | (have H2_ := (Option.bind_some _ _).symm.trans H; with_reducible exact H2_) | with_reducible exact H | (rw [hy903]; exact H) | exact H
        have Ny903 := Aside0.mk hy903
        clear hy903
        have H' := Aside0.mk H
        clear H
        obtain ⟨hcz14_0, hcz14_1, hcz14_2, hcz14_3, hcz14_4, hfz14_0, hfz14_1, hfz14_2, hfz14_3, hfz14_4⟩ := cells_5 BK899.out
        go_wp2_with (first | ((with_reducible refine gate_dst (N := 23) rfl ?_); refine Kd.R_make (Kd.int .u64) _ 35 rfl (N := 23) rfl 24 _ _ rfl a0_4 rfl rfl Try.underlying24 (.int .u64 0) 8 info35 rfl (by decide) (by omega) 0 (ok := fun _ => True) (okp := fun _ => True) rfl (fun _ hk => hk) trivial (of_decide_eq_true (zq51)) (Nat.le_trans (Nat.mul_le_mul_right _ (of_decide_eq_true (zq51) : a0_4.toNat ≤ 35184372088832)) (by omega)) (Below.refl _ _) (Nat.le_refl _) ?_; intro v904 w15 ho16 hb hg_ hnew_; clear hg_ hnew_; (first | rw [← Ny903.out] at ho16 | (simp only [Int.reduceToNat] at ho16; rw [← Ny903.out] at ho16)); have n0_ := Aside0.mk (Kd.R_elder' HO_5.r (Kd.R_base ho16) hb); have n1_ := Aside0.mk (Kd.R_lower (Kd.R_new' ho16 (Kd.R_lt HO_5.r)) (below_size HB.bl)); have n2_ := Aside0.mk (BK899.lk hb); have n3_ := Aside0.mk (below_step HB.bl hb); clear HO_5; clear BK899; clear HB; have HO_5 := n0_; have HO905 := n1_; have BK899 := n2_; have HB := n3_; clear n0_ n1_ n2_ n3_; clear hb ho16; obtain ⟨hcz17_0, hcz17_1, hcz17_2, hcz17_3, hcz17_4, hfz17_0, hfz17_1, hfz17_2, hfz17_3, hfz17_4⟩ := cells_5 BK899.out))
        go_loopg [7, 26] k1 (fun kq v7 v26 w' => ∃ (x7_2 : List Int) (x26_2 : Int), v26 = .int .i64 x26_2 ∧ Aside0 (matrix_gather.l1 kq l1 x5_1 x18_1 x7_2 a0_2 x18_1 a0_3 x26_2 a0_0 a0_1 a0_2 a0_3 a0_4 = some r) ∧ Aside0 (kq ≤ k1) ∧ Aside0 (Kd.R (Kd.int .u64) 35 w' w.heap.size (fun k_ => some k_ ≠ (v7 : Value).ownBlock) u5 x5_1) ∧ Aside0 (Kd.R (Kd.int .u64) 35 w' w.heap.size (fun k_ => some k_ ≠ (u5 : Value).ownBlock) v7 x7_2) ∧ Aside0 (w'.heap[gb899]? = some (.cells #[.int .i64 a0_0, .int .i64 a0_1, .int .i64 a0_2, .int .i64 a0_3, .int .i64 a0_4] 23 (0, 0))) ∧ Aside0 (Below w.heap.size w w'))
        case atStart => exact ⟨(y903), (0), (zq52), H', ⟨Nat.le_refl _⟩, ⟨by (with_reducible repeat (first | apply Kd.R_alloc | apply Kd.R_drewN | apply Kd.R_drew)); exact Kd.R_mono HO_5.out (fun _ hk => hk.2)⟩, ⟨by (with_reducible repeat (first | apply Kd.R_alloc | apply Kd.R_drewN | apply Kd.R_drew)); exact Kd.R_mono HO905.out (fun _ hk => hk.2)⟩, ⟨zq47⟩, ⟨zq30⟩⟩
        case round =>
         clear H'
         try clear c1
         try clear p2
         try clear c4
         try clear c4b0
         try clear c4b1
         try clear c5
         try clear c5b0
         try clear c5b1
         try clear p6
         try clear c8
         try clear c11
         try clear c11b0
         try clear c12
         try clear c12b0
         try clear c12b1
         try clear c13
         try clear c13b0
         try clear c13b1
         try clear hcz10_0
         try clear hcz10_1
         try clear hcz10_2
         try clear hcz10_3
         try clear hcz10_4
         try clear hcz14_0
         try clear hcz14_1
         try clear hcz14_2
         try clear hcz14_3
         try clear hcz14_4
         try clear hcz17_0
         try clear hcz17_1
         try clear hcz17_2
         try clear hcz17_3
         try clear hcz17_4
         try clear hcz7_0
         try clear hcz7_1
         try clear hcz7_2
         try clear hcz7_3
         try clear hcz7_4
         try clear hfz10_0
         try clear hfz10_1
         try clear hfz10_2
         try clear hfz10_3
         try clear hfz10_4
         try clear hfz14_0
         try clear hfz14_1
         try clear hfz14_2
         try clear hfz14_3
         try clear hfz14_4
         try clear hfz17_0
         try clear hfz17_1
         try clear hfz17_2
         try clear hfz17_3
         try clear hfz17_4
         try clear hfz7_0
         try clear hfz7_1
         try clear hfz7_2
         try clear hfz7_3
         try clear hfz7_4
         try clear p2
         try clear p6
         obtain ⟨x7_2, x26_2, rfl, HA, HK2, HO_5, HO_7, BK899, HB⟩ := hrel
         cases gk with
         | zero => exact absurd HA.out (by simp [matrix_gather.l1])
         | succ k2 =>
          have H := HA.out
          clear HA
          simp only [matrix_gather.l1] at H
          by_cases c18 : x26_2 < a0_3
          ·rw [if_pos c18] at H
           have c18b0 : decide (x26_2 < a0_3) = true := decide_eq_true c18
           clear c18
           obtain ⟨ji19, hji19⟩ : ∃ j_ : Int, (wrap64 ((wrap64 ((wrap64 (x18_1 * a0_3)) + x26_2)) * a0_4)) = j_ := ⟨_, rfl⟩
           replace H : (if 0 ≤ (ji19) then (if (ji19) ≤ (wrap64 ((ji19) + a0_4)) then (if (wrap64 ((ji19) + a0_4)) ≤ (l1.length : Int) then ((ring_AddAll.f a0_1 x7_2 ((l1.take ((wrap64 ((ji19) + a0_4)) : Int).toNat).drop ((ji19) : Int).toNat)).bind fun bt907 => (matrix_gather.l1 k2 l1 x5_1 x18_1 bt907.1 a0_2 x18_1 a0_3 (wrap64 (x26_2 + 1)) a0_0 a0_1 a0_2 a0_3 a0_4)) else (none)) else (none)) else (none)) = some r := by first | (rw [hji19] at H; exact H) | (simp only [hji19] at H ⊢; exact H)
           have hji19w : (IntKind.i64.wrap ((wrap64 ((wrap64 (x18_1 * a0_3)) + x26_2)) * a0_4)) = ji19 := (i64_w _).trans hji19
           by_cases c20 : 0 ≤ (ji19)
           ·rw [if_pos c20] at H
            have c20b0 := eq_true c20
            have c20b1 : decide (0 ≤ (ji19)) = true := decide_eq_true c20
            clear c20
            by_cases c21 : (ji19) ≤ (wrap64 ((ji19) + a0_4))
            ·rw [if_pos c21] at H
             have c21b0 := eq_true c21
             have c21b1 : decide ((ji19) ≤ (wrap64 ((ji19) + a0_4))) = true := decide_eq_true c21
             by_cases c22 : (wrap64 ((ji19) + a0_4)) ≤ (l1.length : Int)
             ·rw [if_pos c22] at H
              have c22b0 := eq_true c22
              have c22b1 : decide ((wrap64 ((ji19) + a0_4)) ≤ (l1.length : Int)) = true := decide_eq_true c22
              replace H := Option.bind_eq_some_iff.mp H
              obtain ⟨⟨t907, t908⟩, A230, H⟩ := H
              replace H : (matrix_gather.l1 k2 l1 x5_1 x18_1 t907 a0_2 x18_1 a0_3 (wrap64 (x26_2 + 1)) a0_0 a0_1 a0_2 a0_3 a0_4) = some r := H
              have A23 := Aside0.mk A230
              clear A230
              have H' := Aside0.mk H
              clear H
              obtain ⟨hcz24_0, hcz24_1, hcz24_2, hcz24_3, hcz24_4, hfz24_0, hfz24_1, hfz24_2, hfz24_3, hfz24_4⟩ := cells_5 BK899.out
              try go_wp2
              have n0_ := Aside0.mk (Kd.R_drew HO_5.out)
              have n1_ := Aside0.mk (Kd.R_drew HO_7.out)
              have n2_ := Aside0.mk (blk_drew BK899.out)
              have n3_ := Aside0.mk (below_drew1 HB.out)
              clear HO_5
              clear HO_7
              clear BK899
              clear HB
              have HO_5 := n0_
              have HO_7 := n1_
              have BK899 := n2_
              have HB := n3_
              clear n0_ n1_ n2_ n3_
              obtain ⟨i026, hi026, _, hsz26, _⟩ := info_parts info35
              obtain ⟨A26, hcut26, hA26, hC26⟩ := print_mid_of (P := Try.prog) (Value.int .u64) 0 24 35 .i64 .i64 Try.underlying24 hi026 hsz26 A1 c1 l1 (ji19) (wrap64 ((ji19) + a0_4)) (of_decide_eq_true (zq51)) (by first | omega | exact of_decide_eq_true (by first | (with_reducible assumption) | assumption)) (of_decide_eq_true (zq51)) HC1.out
              have HR906 := Aside0.mk (Kd.C_of_reads (h1 := fun _ => rfl) (hA26 _ (Kd.reads_of_C HR1.out)))
              have HC906 := Aside0.mk hC26
              clear hA26 hC26 hi026 hsz26
              obtain ⟨Ao27, co27, eo27⟩ := Kd.R_slice HO_7.out
              (first | subst eo27 | (injection eo27 with f1_ f2_ f3_; have f4_ := f1_.symm; have f5_ := f3_.symm; clear f1_ f2_ f3_; subst f4_; subst f5_))
              refine start_ (n := 15) (S := fun w' => w'.cell? ⟨gb899, 0, none⟩ = some (.int .i64 a0_0) ∧ w'.cell? ⟨gb899, 1, none⟩ = some (.int .i64 a0_1) ∧ w'.cell? ⟨gb899, 2, none⟩ = some (.int .i64 a0_2) ∧ w'.cell? ⟨gb899, 3, none⟩ = some (.int .i64 a0_3) ∧ w'.cell? ⟨gb899, 4, none⟩ = some (.int .i64 a0_4)) (ds := []) #[false, false, false, false, false, false, false, false, false, false, false, false, false, false, false] (zq56) rfl rfl ⟨(blk_cell BK899.out 0).trans rfl, (blk_cell BK899.out 1).trans rfl, (blk_cell BK899.out 2).trans rfl, (blk_cell BK899.out 3).trans rfl, (blk_cell BK899.out 4).trans rfl⟩ (fun hHeld => ?_); refine with_tabW matrix_gather.tab10 matrix_gather.bits10 (fun HT_ HW_ => ?_)
              generalize wr.drew = w25 at HO_5 HO_7 BK899 HB HR906 hHeld ⊢
              refine pure_ (i := 0) (N := some 39) (v := ?_) (a' := ?_) #[true, false, false, false, false, false, false, false, false, false, false, false, false, false, false] rfl rfl (any_of HT_.out (zq56)) (fun _ _ _ h => h) (Or.inl ⟨by rfl, ?_⟩) ?_ ?_; rotate_left; exact zs0; rotate_left; exact zs1
              refine pure_ (i := 2) (N := some 41) (v := ?_) (a' := ?_) #[true, false, true, false, false, false, false, false, false, false, false, false, false, false, false] rfl rfl (any_of HT_.out (zq56)) (fun _ _ _ h => h) (Or.inl ⟨by rfl, ?_⟩) ?_ ?_; rotate_left; exact zs0; rotate_left; exact zs1
              refine pure_ (i := 3) (N := some 42) (v := ?_) (a' := ?_) #[true, false, true, true, false, false, false, false, false, false, false, false, false, false, false] rfl rfl (any_of HT_.out (zq56)) (fun _ _ _ h => h) (Or.inl ⟨by rfl, ?_⟩) ?_ ?_; rotate_left; exact zs0; rotate_left; exact zs1
              refine pure_ (i := 4) (N := some 43) (v := ?_) (a' := ?_) #[true, false, true, true, true, false, false, false, false, false, false, false, false, false, false] rfl rfl (any_of HT_.out (zq56)) (fun _ _ _ h => h) (Or.inl ⟨by rfl, ?_⟩) ?_ ?_; rotate_left; exact zs0; rotate_left; exact zs1
              refine pure_ (i := 5) (N := some 44) (v := ?_) (a' := ?_) #[true, false, true, true, true, true, false, false, false, false, false, false, false, false, false] rfl rfl (any_of HT_.out (zq56)) (fun _ _ _ h => h) (Or.inl ⟨by rfl, ?_⟩) ?_ ?_; rotate_left; exact zs0; rotate_left; exact zs1
              refine pure_ (i := 6) (N := some 45) (v := ?_) (a' := ?_) #[true, false, true, true, true, true, true, false, false, false, false, false, false, false, false] rfl rfl (any_of HT_.out (zq56)) (fun _ _ _ h => h) (Or.inl ⟨by rfl, ?_⟩) ?_ ?_; rotate_left; exact zs0; rotate_left; exact zs1
              refine take_ (i := 1) (N := some 40) (v := ?_) (a' := ?_) #[true, true, true, true, true, true, true, false, false, false, false, false, false, false, false] rfl rfl (take_ofW HT_.out HW_.out (zq56)) (fun _ _ _ h => h) (Or.inl ⟨by rfl, ?_⟩) hHeld ?_ ?_
              rotate_left
              ·rintro w' ⟨s0, s1, s2, s3, s4⟩
               go_simp
               with_reducible rfl
              rotate_left
              exact zs1
              refine take_ (i := 7) (N := some 46) (v := ?_) (a' := ?_) #[true, true, true, true, true, true, true, true, false, false, false, false, false, false, false] rfl rfl (take_ofW HT_.out HW_.out (zq56)) (fun _ _ _ h => h) (Or.inl ⟨by rfl, ?_⟩) hHeld ?_ ?_
              rotate_left
              ·rintro w' ⟨s0, s1, s2, s3, s4⟩
               go_simp
               with_reducible rfl
              rotate_left
              exact zs1
              refine pure_ (i := 8) (N := some 47) (v := ?_) (a' := ?_) #[true, true, true, true, true, true, true, true, true, false, false, false, false, false, false] rfl rfl (any_of HT_.out (zq56)) (fun _ _ _ h => h) (Or.inl ⟨by rfl, ?_⟩) ?_ ?_; rotate_left; exact zs0; rotate_left; exact zs1
              refine pure_ (i := 9) (N := some 48) (v := ?_) (a' := ?_) #[true, true, true, true, true, true, true, true, true, true, false, false, false, false, false] rfl rfl (any_of HT_.out (zq56)) (fun _ _ _ h => h) (Or.inl ⟨by rfl, ?_⟩) ?_ ?_; rotate_left; exact zs0; rotate_left; exact zs1
              refine one_ (i := 10) (N := some 49) #[true, true, true, true, true, true, true, true, true, true, true, false, false, false, false] rfl rfl (one_of HT_.out (zq56)) (by decide) (fun K hK => ?_)
              refine goes_ Try.func60 (zq56) rfl #[.int .i64 a0_1, .slice Ao27 x7_2.length co27, .slice A26 ((l1.take ((wrap64 ((ji19) + a0_4)) : Int).toNat).drop ((ji19) : Int).toNat).length (c1 - (ji19).toNat)] (by rfl) rfl rfl (by (try simp only [List.map_toArray, List.map_cons, List.map_nil]); first | done | (rw [show ((l1.take ((wrap64 ((ji19) + a0_4)) : Int).toNat).drop ((ji19) : Int).toNat).length = ((wrap64 ((ji19) + a0_4)).toNat - (ji19).toNat) from (by rw [List.length_drop, List.length_take]; have h_ : ((wrap64 ((ji19) + a0_4)) : Int) ≤ (l1.length : Int) := of_decide_eq_true (by first | (with_reducible assumption) | assumption); omega)] <;> rfl) | (simp only [hji19]; rfl) | rfl | (simp only [List.length_drop, List.length_take]; rfl)) ?_
              with_reducible refine (ring_AddAll.calls a0_1 _ _ x7_2 _ _ ((l1.take ((wrap64 ((ji19) + a0_4)) : Int).toNat).drop ((ji19) : Int).toNat) t907 t908 _ ?side1 ?side2 ?side3 ?side4 A23.out).mono ?_
              (case side1 => repeat (first | exact (Kd.R_reads' HO_7.out).2.2 | (with_reducible refine Kd.C_alloc ?_ _) | (with_reducible refine Kd.C_drewN ?_ _) | (with_reducible refine Kd.C_drew ?_)))
              (case side2 => exact (Kd.R_reads' HO_7.out).2.1)
              (case side3 => repeat (first | exact (Kd.C_below HR906.out HB.out) | (with_reducible refine Kd.C_alloc ?_ _) | (with_reducible refine Kd.C_drewN ?_ _) | (with_reducible refine Kd.C_drew ?_)))
              (case side4 => exact HC906.out)
              rintro e w28 ⟨v909, rfl, ho0, hb⟩
              refine ⟨_, rfl, ?_⟩
              have n0_ := Aside0.mk (Kd.R_elder' HO_5.r (Kd.R_base ho0) hb)
              have n1_ := Aside0.mk (Kd.R_elder' HO_7.r (Kd.R_base ho0) hb)
              have n2_ := Aside0.mk (Kd.R_lower (Kd.R_new' (Kd.R_new' ho0 (Kd.R_lt HO_5.r)) (Kd.R_lt HO_7.r)) (below_size HB.bl))
              have n3_ := Aside0.mk (BK899.lk hb)
              have n4_ := Aside0.mk (below_step HB.bl hb)
              clear HO_5
              clear HO_7
              clear BK899
              clear HB
              have HO_5 := n0_
              have HO_7 := n1_
              have HO910 := n2_
              have BK899 := n3_
              have HB := n4_
              clear n0_ n1_ n2_ n3_ n4_
              (try clear hb)
              (try clear hb2)
              (try clear hk)
              (try clear hi)
              (try clear ho0)
              refine hK.out _ _ ⟨(blk_cell BK899.out 0).trans rfl, (blk_cell BK899.out 1).trans rfl, (blk_cell BK899.out 2).trans rfl, (blk_cell BK899.out 3).trans rfl, (blk_cell BK899.out 4).trans rfl⟩ (fun hHeld => ?_)
              clear hK K
              refine norm_ (a' := ?_) ?_ ?_
              rotate_left
              ·show Act.put _ (some 49) _ = _
               simp only [Act.put, List.setIfInBounds_toArray, List.set_cons_zero, List.set_cons_succ, i64_w, i32_w]
               rfl
              refine pure_ (i := 11) (N := some 38) (v := ?_) (a' := ?_) #[true, true, true, true, true, true, true, true, true, true, true, true, false, false, false] rfl rfl (any_of HT_.out (zq56)) (fun _ _ _ h => h) (Or.inl ⟨by rfl, ?_⟩) ?_ ?_; rotate_left; exact zs0; rotate_left; exact zs1
              refine pure_ (i := 12) (N := some 50) (v := ?_) (a' := ?_) #[true, true, true, true, true, true, true, true, true, true, true, true, true, false, false] rfl rfl (any_of HT_.out (zq56)) (fun _ _ _ h => h) (Or.inl ⟨by rfl, ?_⟩) ?_ ?_; rotate_left; exact zs0; rotate_left; exact zs1
              refine pure_ (i := 13) (N := some 51) (v := ?_) (a' := ?_) #[true, true, true, true, true, true, true, true, true, true, true, true, true, true, false] rfl rfl (any_of HT_.out (zq56)) (fun _ _ _ h => h) (Or.inl ⟨by rfl, ?_⟩) ?_ ?_; rotate_left; exact zs0; rotate_left; exact zs1
              refine pure_ (i := 14) (N := some 7) (v := ?_) (a' := ?_) #[true, true, true, true, true, true, true, true, true, true, true, true, true, true, true] rfl rfl (any_of HT_.out (zq56)) (fun _ _ _ h => h) (Or.inl ⟨by rfl, ?_⟩) ?_ ?_; rotate_left; exact zs0; rotate_left; exact zs1
              refine done_ (done_of HT_.out (zq56)) ?_
              try go_wp2
              go_roundg k2
              case measure => have := HK1.out; have := HK2.out; omega
              case rel => exact ⟨(t907), (wrap64 (x26_2 + 1)), (zq52), H', ⟨by have := HK1.out; have := HK2.out; omega⟩, ⟨by (with_reducible repeat (first | apply Kd.R_alloc | apply Kd.R_drewN | apply Kd.R_drew)); exact Kd.R_mono HO_5.out (fun _ hk => hk.2)⟩, ⟨by (with_reducible repeat (first | apply Kd.R_alloc | apply Kd.R_drewN | apply Kd.R_drew)); exact Kd.R_mono HO910.out (fun _ hk => hk.1.2)⟩, ⟨zq47⟩, ⟨zq30⟩⟩
             ·rw [if_neg c22] at H
              exact absurd H (by simp)
            ·rw [if_neg c21] at H
             exact absurd H (by simp)
           ·rw [if_neg c20] at H
            exact absurd H (by simp)
          ·rw [if_neg c18] at H
           have c18b0 : decide (x26_2 < a0_3) = false := decide_eq_false c18
           clear c18
           by_cases c29 : x5_1.length + x7_2.length < 17592186044416
           ·rw [if_pos c29] at H
            have LMc29 := Aside0.mk c29
            clear c29
            obtain ⟨y911, hy911⟩ : ∃ y_ : List Int, y_ = (x5_1 ++ x7_2) := ⟨_, rfl⟩
            replace H : (matrix_gather.l0 k2 l1 y911 a0_2 (wrap64 (x18_1 + 1)) a0_0 a0_1 a0_2 a0_3 a0_4) = some r := by first | (rw [hy911]; with_reducible exact H) | (have H2_ := (Option.bind_some _ _).symm.trans H; rw [hy911]; with_reducible exact H2_) | (have H2_ := (Option.bind_some _ _).symm.trans H; with_reducible exact H2_) | with_reducible exact H | (rw [hy911]; exact H) | exact H
            have Ny911 := Aside0.mk hy911
            clear hy911
            have H' := Aside0.mk H
            clear H
            obtain ⟨Ao31, co31, eo31⟩ := Kd.R_slice HO_7.out
            subst eo31
            go_wp2_with (first | ((with_reducible refine gate_builtin (b := .append) (xs := #[.tmp 53, .tmp 54]) rfl ?_); at_builtin; refine Kd.R_append_rows (Kd.int .u64) (w0 := w) w.heap.size rfl (.tmp 53) (.tmp 54) 24 35 (.int .u64 0) 8 rfl Try.underlying24 info35 rfl (by decide) (by omega) u5 x5_1 x7_2 _ _ _ (fun k_ => some k_ ≠ (.slice Ao31 x7_2.length co31 : Value).ownBlock) (fun _ => False) rfl rfl ?aO ?aR (fun _ _ h => h) (fun _ h => h.elim) ?aF ?aB ?aS ?aL ?_; (case aR => repeat (first | exact (Kd.R_reads' HO_7.out).2.2 | (with_reducible refine Kd.C_alloc ?_ _) | (with_reducible refine Kd.C_drewN ?_ _) | (with_reducible refine Kd.C_drew ?_))); (case aB => exact HB.bl); (case aF => exact (fun k_ hk => Kd.fresh' (Kd.R_lt HO_7.r) k_ hk)); (case aO => exact HO_5.r); (case aS => exact (below_size HB.bl)); (case aL => have := LMc29.out; omega); intro v912 w30 ho hb hg hat; rw [← Ny911.out] at ho; replace HO_7 := Aside0.mk (Kd.R_after (ok := (fun _ => True)) (by (with_reducible repeat (first | apply Kd.R_alloc | apply Kd.R_drewN | apply Kd.R_drew)); exact Kd.R_mono HO_7.out (fun _ hk => ⟨trivial, hk⟩)) hg hat); replace BK899 := Aside0.mk (blk_grown (g := gb899) (o := .cells #[.int .i64 a0_0, .int .i64 a0_1, .int .i64 a0_2, .int .i64 a0_3, .int .i64 a0_4] 23 (0, 0)) (zq47) hg (Kd.R_ne HO_5.out BK899.out (by decide))); replace HB := Aside0.mk (hb); have HO913 := Aside0.mk (ho); clear HO_5; clear ho hb hg hat))
            go_roundg k2
            case measure => have := HK1.out; have := HK2.out; omega
            case rel => exact ⟨(y911), (wrap64 (x18_1 + 1)), (zq52), H', ⟨by have := HK1.out; have := HK2.out; omega⟩, ⟨by (with_reducible repeat (first | apply Kd.R_alloc | apply Kd.R_drewN | apply Kd.R_drew)); exact Kd.R_mono HO913.out (fun _ hk => trivial)⟩, ⟨zq47⟩, ⟨zq30⟩⟩
           ·rw [if_neg c29] at H
            exact absurd H (by simp)
       ·rw [if_neg c13] at H
        exact absurd H (by simp)
      ·rw [if_neg c12] at H
       exact absurd H (by simp)
     ·rw [if_neg c11] at H
      have c11b0 : decide (x18_1 < a0_2) = false := decide_eq_false c11
      clear c11
      obtain rfl := Option.some.inj H
      go_wp2
      go_ret
      exact ⟨_, by first | rfl | (simp [errW_none, errW_some] <;> rfl) | (simp only [← hji3]; first | rfl | (simp [errW_none, errW_some] <;> rfl)) | (simp [*, errW_none, errW_some] <;> rfl), HO_5.r, zq30⟩
  ·rw [if_neg c5] at H
   exact absurd H (by simp)
 ·rw [if_neg c4] at H
  exact absurd H (by simp)
end Go.Proofs.Ytcmaidpoolcelaa.P
