/- Functions of the program as plain Lean functions, and proofs that the machine's calls do what these do: written by a program of this workplace (wip/tools/pp.py). -/
import Derived.Test.YtcmaidpoolcelaaScPx0
import Derived.Test.YtcmaidpoolcelaaScK5
import Derived.Test.YtcmaidpoolcelaaScK6
import Derived.Test.YtcmaidpoolcelaaScSh
namespace Go.Proofs.Ytcmaidpoolcelaa.P
open Go.RowKit Go.Proofs.YtcmaidpoolcelaaW.PrintWords Go.Proofs.YtcmaidpoolcelaaW.PrintLast Go.Proofs.YtcmaidpoolcelaaW.PrintMore
attribute [local go_sem] max2_int min2_int max_two min_two max_three min_three max_four min_four   -- for this text's walks alone
set_option linter.unusedVariables false
set_option linter.unusedSimpArgs false

abbrev ba7_0 : Array Bool := #[true, true, true, true, true, true, false, true, true, true, true, true, true, false, false, false]
abbrev ba7_1 : Array Bool := #[true, true, true, true, true, true, true, true, true, true, true, true, true, false, false, false]

/-! ### scalar_parts: function 70 -/
def scalar_parts.l0 : Nat → List Int → List Int → List (S26) → Int → Int → Int → Int → Int → Int → Int → Option (List Int × List Int × Int)
 | 0, _, _, _, _, _, _, _, _, _, _ => none
 | k + 1, x8, x9, x19, x20, x21, x604000, x604001, x604002, x604003, x604004 => if x21 < x20 then (if 0 ≤ x21 then (if x21 < (x19.length : Int) then (if (((rd_T26 x19 x21).f0).length : Int) = 1 then (if (((rd_T26 x19 x21).f1).length : Int) = 1 then ((ring_Fits.f x604001 ((rd_T26 x19 x21).f0)).bind fun t607 => (if t607 = true then ((ring_Fits.f x604001 ((rd_T26 x19 x21).f1)).bind fun t608 => (if t608 = true then (if 0 < (((rd_T26 x19 x21).f0).length : Int) then ((some (([rd ((rd_T26 x19 x21).f0) 0] : List Int) : List Int)).bind fun y610 => (if x8.length + y610.length < 17592186044416 then (if 0 < (((rd_T26 x19 x21).f1).length : Int) then ((some (([rd ((rd_T26 x19 x21).f1) 0] : List Int) : List Int)).bind fun y617 => (if x9.length + y617.length < 17592186044416 then (scalar_parts.l0 k (x8 ++ y610) (x9 ++ y617) x19 x20 (wrap64 (x21 + 1)) x604000 x604001 x604002 x604003 x604004) else (none))) else (none)) else (none))) else (none)) else (some (([] : List Int), ([] : List Int), 11)))) else (some (([] : List Int), ([] : List Int), 11)))) else (some (([] : List Int), ([] : List Int), 11))) else (some (([] : List Int), ([] : List Int), 11))) else (none)) else (none)) else (some (x8, x9, 0))
def scalar_parts.f (k : Nat) (a0_0 : Int) (a0_1 : Int) (a0_2 : Int) (a0_3 : Int) (a0_4 : Int) (l1 : List (S26)) : Option (List Int × List Int × Int) := (scalar_check.f k a0_0 a0_1 a0_2 a0_3 a0_4 (l1.length : Int)).bind fun t604 => (if t604 = 0 then (scalar_parts.l0 k ([] : List Int) ([] : List Int) l1 (l1.length : Int) 0 a0_0 a0_1 a0_2 a0_3 a0_4) else (some (([] : List Int), ([] : List Int), t604)))
def scalar_parts.T10 : Bool × List (List Nat × List Nat) := (true, [([], []), ([], []), ([1], [1]), ([2], [2]), ([3], [3]), ([4], [4]), ([0, 5], [0, 5]), ([], []), ([], []), ([8], [8]), ([9], [9]), ([10], [10]), ([11], [11]), ([7, 12, 6], [7, 12]), ([6, 13, 0, 1, 2, 3, 4, 5, 6], [0, 6]), ([13, 14, 0, 1, 2, 3, 4, 5, 6, 7, 8, 9, 10, 11, 12, 13, 14], [7, 13])])
def scalar_parts.B10 : List Nat := [0, 0, 2, 6, 14, 30, 63, 0, 0, 256, 768, 1792, 3840, 8191, 16383, 32767]
theorem scalar_parts.tab10 : rtab .any (opsOf Try.f70 10) = scalar_parts.T10 := by kernel_rfl
theorem scalar_parts.bits10 : waitsOk scalar_parts.T10.2 scalar_parts.B10 = true := by kernel_rfl
set_option maxHeartbeats 8000000 in
set_option maxRecDepth 100000 in
theorem scalar_parts.calls (k : Nat) (a0_0 : Int) (a0_1 : Int) (a0_2 : Int) (a0_3 : Int) (a0_4 : Int) (A1 : Option Addr) (c1 : Nat) (l1 : List (S26)) (r1 : List Int) (r2 : List Int) (r3 : Int) (w : World) (hr1 : Kd.C k26 w A1 l1.length l1) (hc1 : l1.length ≤ c1) (h : scalar_parts.f k a0_0 a0_1 a0_2 a0_3 a0_4 l1 = some (r1, r2, r3)) :
  Calls Try.prog 70 #[.agg #[.int .i64 a0_0, .int .i64 a0_1, .int .i64 a0_2, .int .i64 a0_3, .int .i64 a0_4], .slice A1 l1.length c1] w fun e w' => ∃ v0_ v1_ : Value, e = .returned (.tuple #[v0_, v1_, .int .i64 r3]) ∧ Kd.R (Kd.int .u64) 35 w' w.heap.size (fun k_ => some k_ ≠ (v1_ : Value).ownBlock) v0_ r1 ∧ Kd.R (Kd.int .u64) 35 w' w.heap.size (fun k_ => some k_ ≠ (v0_ : Value).ownBlock) v1_ r2 ∧ Below w.heap.size w w' := by
 have hu23 := Try.underlying23
 have hu26 := Try.underlying26
 have HR1 := Aside0.mk hr1
 have HC1 := Aside0.mk hc1
 clear hr1 hc1
 have HB := Aside0.mk (Below.refl w.heap.size w)
 have H : ((scalar_check.f k a0_0 a0_1 a0_2 a0_3 a0_4 (l1.length : Int)).bind fun t604 => (if t604 = 0 then (scalar_parts.l0 k ([] : List Int) ([] : List Int) l1 (l1.length : Int) 0 a0_0 a0_1 a0_2 a0_3 a0_4) else (some (([] : List Int), ([] : List Int), t604)))) = some (r1, r2, r3) := h
 clear h
 replace H := Option.bind_eq_some_iff.mp H
 obtain ⟨t604, A30, H⟩ := H
 replace H : (if t604 = 0 then (scalar_parts.l0 k ([] : List Int) ([] : List Int) l1 (l1.length : Int) 0 a0_0 a0_1 a0_2 a0_3 a0_4) else (some (([] : List Int), ([] : List Int), t604))) = some (r1, r2, r3) := H
 have A3 := Aside0.mk A30
 clear A30
 by_cases c4 : t604 = 0
 ·rw [if_pos c4] at H
  have c4b0 : (t604 == 0) = true := beq_iff_eq.mpr c4
  have c4b1 : (t604 != 0) = false := bne_eq_false_iff_eq.mpr c4
  clear c4
  have H' := Aside0.mk H
  clear H
  go_enter Try.func70, Try.ntmps70
  go_wp2_with (first | ((with_reducible refine gate_dst (N := 2) rfl ?_); (try (refine gate_guard (by rfl) ?_; dsimp only)); refine box_event ?hg (N := 2) ?hd (cs := #[.int .i64 a0_0, .int .i64 a0_1, .int .i64 a0_2, .int .i64 a0_3, .int .i64 a0_4]) (t := 23) ?hr ?_; (case hd => rfl); (case hg => rfl); (case hr => first | (go_simp; done) | (go_simp; rfl)); intro gb603 hg w5 hbox hb; have n0_ := Aside0.mk (below_step (by repeat (first | (with_reducible first | exact HB.out | apply below_alloc | apply pw_below_drewN | apply below_drew1) | exact HB.out)) hb); have n1_ := Aside0.mk (hbox); have n2_ := Aside0.mk ((zq14 : w.heap.size ≤ gb603)); have n3_ := Aside0.mk ((zq14 : w.heap.size ≤ gb603)); clear HB; have HB := n0_; have BK603 := n1_; have GW603 := n2_; have GE603 := n3_; clear n0_ n1_ n2_ n3_; clear hb hbox hg; have hcz6_0 : w5.cell? ⟨gb603, 0, none⟩ = some (.int .i64 a0_0) := (blk_cell BK603.out 0).trans rfl; have hcz6_1 : w5.cell? ⟨gb603, 1, none⟩ = some (.int .i64 a0_1) := (blk_cell BK603.out 1).trans rfl; have hcz6_2 : w5.cell? ⟨gb603, 2, none⟩ = some (.int .i64 a0_2) := (blk_cell BK603.out 2).trans rfl; have hcz6_3 : w5.cell? ⟨gb603, 3, none⟩ = some (.int .i64 a0_3) := (blk_cell BK603.out 3).trans rfl; have hcz6_4 : w5.cell? ⟨gb603, 4, none⟩ = some (.int .i64 a0_4) := (blk_cell BK603.out 4).trans rfl; have hfz6_0 := blk_frozen BK603.out 0; have hfz6_1 := blk_frozen BK603.out 1; have hfz6_2 := blk_frozen BK603.out 2; have hfz6_3 := blk_frozen BK603.out 3; have hfz6_4 := blk_frozen BK603.out 4) | ((with_reducible refine gate_callee (f := 104) rfl ?_); refine goesL_ (some 15) rfl rfl Try.func104 (zq43) rfl #[.agg #[.int .i64 a0_0, .int .i64 a0_1, .int .i64 a0_2, .int .i64 a0_3, .int .i64 a0_4], .int .i64 (l1.length : Int)] rfl (zq26) ?_; (with_reducible refine (scalar_check.calls k a0_0 a0_1 a0_2 a0_3 a0_4 (l1.length : Int) t604 _ A3.out).mono ?_); rintro e w7 ⟨rfl, hb⟩; refine ⟨_, rfl, ?_⟩; have n0_ := Aside0.mk (blk_below (g := gb603) (o := .cells #[.int .i64 a0_0, .int .i64 a0_1, .int .i64 a0_2, .int .i64 a0_3, .int .i64 a0_4] 23 (0, 0)) (zq31) hb); have n1_ := Aside0.mk (below_step (zq21) hb); clear BK603; clear HB; have BK603 := n0_; have HB := n1_; clear n0_ n1_; (try clear hb); (try clear hb2); (try clear hk); (try clear hi)))
  go_loopg [8, 9, 21] k (fun kq v8 v9 v21 w' => ∃ (x8_1 : List Int) (x9_1 : List Int) (x21_1 : Int), v21 = .int .i64 x21_1 ∧ Aside0 (scalar_parts.l0 kq x8_1 x9_1 l1 (l1.length : Int) x21_1 a0_0 a0_1 a0_2 a0_3 a0_4 = some (r1, r2, r3)) ∧ Aside0 (kq ≤ k) ∧ Aside0 (Kd.R (Kd.int .u64) 35 w' w.heap.size (fun k_ => some k_ ≠ (v9 : Value).ownBlock) v8 x8_1) ∧ Aside0 (Kd.R (Kd.int .u64) 35 w' w.heap.size (fun k_ => some k_ ≠ (v8 : Value).ownBlock) v9 x9_1) ∧ Aside0 (w'.heap[gb603]? = some (.cells #[.int .i64 a0_0, .int .i64 a0_1, .int .i64 a0_2, .int .i64 a0_3, .int .i64 a0_4] 23 (0, 0))) ∧ Aside0 (Below w.heap.size w w'))
  case atStart => exact ⟨(([] : List Int)), (([] : List Int)), (0), (zq40), H', ⟨Nat.le_refl _⟩, ⟨zq25⟩, ⟨zq25⟩, ⟨zq31⟩, ⟨zq21⟩⟩
  case round =>
   clear H'
   try clear c1
   try clear p2
   try clear c4
   try clear c4b0
   try clear c4b1
   try clear c7
   try clear hcz6_0
   try clear hcz6_1
   try clear hcz6_2
   try clear hcz6_3
   try clear hcz6_4
   try clear hfz6_0
   try clear hfz6_1
   try clear hfz6_2
   try clear hfz6_3
   try clear hfz6_4
   obtain ⟨x8_1, x9_1, x21_1, rfl, HA, HK1, HO_8, HO_9, BK603, HB⟩ := hrel
   cases gk with
   | zero => exact absurd HA.out (by simp [scalar_parts.l0])
   | succ k1 =>
    have H := HA.out
    clear HA
    simp only [scalar_parts.l0] at H
    by_cases c8 : x21_1 < (l1.length : Int)
    ·rw [if_pos c8] at H
     have c8b0 : decide (x21_1 < (l1.length : Int)) = true := decide_eq_true c8
     clear c8
     by_cases c9 : 0 ≤ x21_1
     ·rw [if_pos c9] at H
      have c9b0 : decide (0 ≤ x21_1) = true := decide_eq_true c9
      clear c9
      by_cases c10 : x21_1 < (l1.length : Int)
      ·rw [if_pos c10] at H
       have c10b0 : decide (x21_1 < (l1.length : Int)) = true := decide_eq_true c10
       clear c10
       by_cases c11 : (((rd_T26 l1 x21_1).f0).length : Int) = 1
       ·rw [if_pos c11] at H
        have c11b0 : ((((rd_T26 l1 x21_1).f0).length : Int) == 1) = true := beq_iff_eq.mpr c11
        have c11b1 : ((((rd_T26 l1 x21_1).f0).length : Int) != 1) = false := bne_eq_false_iff_eq.mpr c11
        clear c11
        by_cases c12 : (((rd_T26 l1 x21_1).f1).length : Int) = 1
        ·rw [if_pos c12] at H
         have c12b0 : ((((rd_T26 l1 x21_1).f1).length : Int) == 1) = true := beq_iff_eq.mpr c12
         have c12b1 : ((((rd_T26 l1 x21_1).f1).length : Int) != 1) = false := bne_eq_false_iff_eq.mpr c12
         clear c12
         replace H := Option.bind_eq_some_iff.mp H
         obtain ⟨t607, A130, H⟩ := H
         replace H : (if t607 = true then ((ring_Fits.f a0_1 ((rd_T26 l1 x21_1).f1)).bind fun t608 => (if t608 = true then (if 0 < (((rd_T26 l1 x21_1).f0).length : Int) then ((some (([rd ((rd_T26 l1 x21_1).f0) 0] : List Int) : List Int)).bind fun y610 => (if x8_1.length + y610.length < 17592186044416 then (if 0 < (((rd_T26 l1 x21_1).f1).length : Int) then ((some (([rd ((rd_T26 l1 x21_1).f1) 0] : List Int) : List Int)).bind fun y617 => (if x9_1.length + y617.length < 17592186044416 then (scalar_parts.l0 k1 (x8_1 ++ y610) (x9_1 ++ y617) l1 (l1.length : Int) (wrap64 (x21_1 + 1)) a0_0 a0_1 a0_2 a0_3 a0_4) else (none))) else (none)) else (none))) else (none)) else (some (([] : List Int), ([] : List Int), 11)))) else (some (([] : List Int), ([] : List Int), 11))) = some (r1, r2, r3) := H
         have A13 := Aside0.mk A130
         clear A130
         by_cases c14 : t607 = true
         ·subst c14
          have H1 : ((ring_Fits.f a0_1 ((rd_T26 l1 x21_1).f1)).bind fun t608 => (if t608 = true then (if 0 < (((rd_T26 l1 x21_1).f0).length : Int) then ((some (([rd ((rd_T26 l1 x21_1).f0) 0] : List Int) : List Int)).bind fun y610 => (if x8_1.length + y610.length < 17592186044416 then (if 0 < (((rd_T26 l1 x21_1).f1).length : Int) then ((some (([rd ((rd_T26 l1 x21_1).f1) 0] : List Int) : List Int)).bind fun y617 => (if x9_1.length + y617.length < 17592186044416 then (scalar_parts.l0 k1 (x8_1 ++ y610) (x9_1 ++ y617) l1 (l1.length : Int) (wrap64 (x21_1 + 1)) a0_0 a0_1 a0_2 a0_3 a0_4) else (none))) else (none)) else (none))) else (none)) else (some (([] : List Int), ([] : List Int), 11)))) = some (r1, r2, r3) := by rw [if_pos rfl] at H; exact H
          clear H
          have H := H1
          clear H1
          replace H := Option.bind_eq_some_iff.mp H
          obtain ⟨t608, A150, H⟩ := H
          replace H : (if t608 = true then (if 0 < (((rd_T26 l1 x21_1).f0).length : Int) then ((some (([rd ((rd_T26 l1 x21_1).f0) 0] : List Int) : List Int)).bind fun y610 => (if x8_1.length + y610.length < 17592186044416 then (if 0 < (((rd_T26 l1 x21_1).f1).length : Int) then ((some (([rd ((rd_T26 l1 x21_1).f1) 0] : List Int) : List Int)).bind fun y617 => (if x9_1.length + y617.length < 17592186044416 then (scalar_parts.l0 k1 (x8_1 ++ y610) (x9_1 ++ y617) l1 (l1.length : Int) (wrap64 (x21_1 + 1)) a0_0 a0_1 a0_2 a0_3 a0_4) else (none))) else (none)) else (none))) else (none)) else (some (([] : List Int), ([] : List Int), 11))) = some (r1, r2, r3) := H
          have A15 := Aside0.mk A150
          clear A150
          by_cases c16 : t608 = true
          ·subst c16
           have H1 : (if 0 < (((rd_T26 l1 x21_1).f0).length : Int) then ((some (([rd ((rd_T26 l1 x21_1).f0) 0] : List Int) : List Int)).bind fun y610 => (if x8_1.length + y610.length < 17592186044416 then (if 0 < (((rd_T26 l1 x21_1).f1).length : Int) then ((some (([rd ((rd_T26 l1 x21_1).f1) 0] : List Int) : List Int)).bind fun y617 => (if x9_1.length + y617.length < 17592186044416 then (scalar_parts.l0 k1 (x8_1 ++ y610) (x9_1 ++ y617) l1 (l1.length : Int) (wrap64 (x21_1 + 1)) a0_0 a0_1 a0_2 a0_3 a0_4) else (none))) else (none)) else (none))) else (none)) = some (r1, r2, r3) := by rw [if_pos rfl] at H; exact H
           clear H
           have H := H1
           clear H1
           by_cases c17 : 0 < (((rd_T26 l1 x21_1).f0).length : Int)
           ·rw [if_pos c17] at H
            have c17b0 : decide (0 < (((rd_T26 l1 x21_1).f0).length : Int)) = true := decide_eq_true c17
            have c17b1 : decide (0 < ((rd_T26 l1 x21_1).f0).length) = true := decide_eq_true (by omega)
            clear c17
            obtain ⟨y610, hy610⟩ : ∃ y_ : List Int, y_ = (([rd ((rd_T26 l1 x21_1).f0) 0] : List Int)) := ⟨_, rfl⟩
            replace H : (if x8_1.length + y610.length < 17592186044416 then (if 0 < (((rd_T26 l1 x21_1).f1).length : Int) then ((some (([rd ((rd_T26 l1 x21_1).f1) 0] : List Int) : List Int)).bind fun y617 => (if x9_1.length + y617.length < 17592186044416 then (scalar_parts.l0 k1 (x8_1 ++ y610) (x9_1 ++ y617) l1 (l1.length : Int) (wrap64 (x21_1 + 1)) a0_0 a0_1 a0_2 a0_3 a0_4) else (none))) else (none)) else (none)) = some (r1, r2, r3) := by first | (rw [hy610]; with_reducible exact H) | (have H2_ := (Option.bind_some _ _).symm.trans H; rw [hy610]; with_reducible exact H2_) | (have H2_ := (Option.bind_some _ _).symm.trans H; with_reducible exact H2_) | with_reducible exact H | (rw [hy610]; exact H) | exact H
            have Ny610 := Aside0.mk hy610
            clear hy610
            by_cases c18 : x8_1.length + y610.length < 17592186044416
            ·rw [if_pos c18] at H
             have LMc18 := Aside0.mk c18
             clear c18
             obtain ⟨y613, hy613⟩ : ∃ y_ : List Int, y_ = (x8_1 ++ y610) := ⟨_, rfl⟩
             replace H : (if 0 < (((rd_T26 l1 x21_1).f1).length : Int) then ((some (([rd ((rd_T26 l1 x21_1).f1) 0] : List Int) : List Int)).bind fun y617 => (if x9_1.length + y617.length < 17592186044416 then (scalar_parts.l0 k1 y613 (x9_1 ++ y617) l1 (l1.length : Int) (wrap64 (x21_1 + 1)) a0_0 a0_1 a0_2 a0_3 a0_4) else (none))) else (none)) = some (r1, r2, r3) := by first | (rw [hy613]; with_reducible exact H) | (have H2_ := (Option.bind_some _ _).symm.trans H; rw [hy613]; with_reducible exact H2_) | (have H2_ := (Option.bind_some _ _).symm.trans H; with_reducible exact H2_) | with_reducible exact H | (rw [hy613]; exact H) | exact H
             have Ny613 := Aside0.mk hy613
             clear hy613
             by_cases c19 : 0 < (((rd_T26 l1 x21_1).f1).length : Int)
             ·rw [if_pos c19] at H
              have c19b0 : decide (0 < (((rd_T26 l1 x21_1).f1).length : Int)) = true := decide_eq_true c19
              have c19b1 : decide (0 < ((rd_T26 l1 x21_1).f1).length) = true := decide_eq_true (by omega)
              clear c19
              obtain ⟨y617, hy617⟩ : ∃ y_ : List Int, y_ = (([rd ((rd_T26 l1 x21_1).f1) 0] : List Int)) := ⟨_, rfl⟩
              replace H : (if x9_1.length + y617.length < 17592186044416 then (scalar_parts.l0 k1 y613 (x9_1 ++ y617) l1 (l1.length : Int) (wrap64 (x21_1 + 1)) a0_0 a0_1 a0_2 a0_3 a0_4) else (none)) = some (r1, r2, r3) := by first | (rw [hy617]; with_reducible exact H) | (have H2_ := (Option.bind_some _ _).symm.trans H; rw [hy617]; with_reducible exact H2_) | (have H2_ := (Option.bind_some _ _).symm.trans H; with_reducible exact H2_) | with_reducible exact H | (rw [hy617]; exact H) | exact H
              have Ny617 := Aside0.mk hy617
              clear hy617
              by_cases c20 : x9_1.length + y617.length < 17592186044416
              ·rw [if_pos c20] at H
               have LMc20 := Aside0.mk c20
               clear c20
               obtain ⟨y620, hy620⟩ : ∃ y_ : List Int, y_ = (x9_1 ++ y617) := ⟨_, rfl⟩
               replace H : (scalar_parts.l0 k1 y613 y620 l1 (l1.length : Int) (wrap64 (x21_1 + 1)) a0_0 a0_1 a0_2 a0_3 a0_4) = some (r1, r2, r3) := by first | (rw [hy620]; with_reducible exact H) | (have H2_ := (Option.bind_some _ _).symm.trans H; rw [hy620]; with_reducible exact H2_) | (have H2_ := (Option.bind_some _ _).symm.trans H; with_reducible exact H2_) | with_reducible exact H | (rw [hy620]; exact H) | exact H
               have Ny620 := Aside0.mk hy620
               clear hy620
               have H' := Aside0.mk H
               clear H
               have p605 : 0 ≤ (x21_1 : Int) := of_decide_eq_true (zq39)
               have q605 : x21_1 < (l1.length : Int) := of_decide_eq_true (zq39)
               obtain ⟨ad605, A605_0, c605_0, A605_1, c605_1, A605_2, c605_2, e605, hx605_0, hx605_1, hx605_2, hl605_0, hi605_0, hl605_1, hi605_1, hl605_2, hi605_2⟩ := at_T26 HR1.out x21_1 p605 q605
               cases e605
               replace hx605_0 := (HB.out.cell (World.block_lt_of_cell? w _ hx605_0)).trans hx605_0
               replace hx605_1 := (HB.out.cell (World.block_lt_of_cell? w _ hx605_1)).trans hx605_1
               replace hx605_2 := (HB.out.cell (World.block_lt_of_cell? w _ hx605_2)).trans hx605_2
               have HR605_0 := Aside0.mk hi605_0
               have HC605_0 := Aside0.mk hl605_0
               clear hi605_0 hl605_0
               have HR605_1 := Aside0.mk hi605_1
               have HC605_1 := Aside0.mk hl605_1
               clear hi605_1 hl605_1
               have HR605_2 := Aside0.mk hi605_2
               have HC605_2 := Aside0.mk hl605_2
               clear hi605_2 hl605_2
               replace p605 := eq_true p605
               replace q605 := eq_true q605
               try go_wp2_with (first | ((with_reducible refine gate_dst (N := 11) rfl ?_); (try (refine gate_guard (by rfl) ?_; dsimp only)); refine box_event ?hg (N := 11) ?hd (cs := #[.slice none 0 0, .slice none 0 0, .slice none 0 0]) (t := 26) ?hr ?_; (case hd => rfl); (case hg => rfl); (case hr => first | (go_simp; done) | (go_simp; rfl)); intro gb606 hg w21 hbox hb; have n0_ := Aside0.mk (Kd.R_below (zq35) hb); have n1_ := Aside0.mk (Kd.R_below (zq36) hb); have n2_ := Aside0.mk (blk_below (g := gb603) (o := .cells #[.int .i64 a0_0, .int .i64 a0_1, .int .i64 a0_2, .int .i64 a0_3, .int .i64 a0_4] 23 (0, 0)) (zq31) hb); have n3_ := Aside0.mk (below_step (zq21) hb); have n4_ := Aside0.mk (hbox); have n5_ := Aside0.mk ((zq9 : w.heap.size ≤ gb606)); have n6_ := Aside0.mk ((zq9 : w.heap.size ≤ gb606)); have n7_ := Aside0.mk ((zq5 : gb603 ≠ gb606)); have n8_ := Aside0.mk ((zq6 : gb606 ≠ gb603)); clear HO_8; clear HO_9; clear BK603; clear HB; have HO_8 := n0_; have HO_9 := n1_; have BK603 := n2_; have HB := n3_; have BK606 := n4_; have GW606 := n5_; have GE606 := n6_; have NB603_606 := n7_; have NB606_603 := n8_; clear n0_ n1_ n2_ n3_ n4_ n5_ n6_ n7_ n8_; clear hb hbox hg; have hnb22 := NB606_603.out; have hnc22 := NB603_606.out; have hcz23_0 : w21.cell? ⟨gb606, 0, none⟩ = some (.slice none 0 0) := (blk_cell BK606.out 0).trans rfl; have hcz23_1 : w21.cell? ⟨gb606, 1, none⟩ = some (.slice none 0 0) := (blk_cell BK606.out 1).trans rfl; have hcz23_2 : w21.cell? ⟨gb606, 2, none⟩ = some (.slice none 0 0) := (blk_cell BK606.out 2).trans rfl; have hfz23_0 := blk_frozen BK606.out 0; have hfz23_1 := blk_frozen BK606.out 1; have hfz23_2 := blk_frozen BK606.out 2; have hcz24_0 : w21.cell? ⟨gb603, 0, none⟩ = some (.int .i64 a0_0) := (blk_cell BK603.out 0).trans rfl; have hcz24_1 : w21.cell? ⟨gb603, 1, none⟩ = some (.int .i64 a0_1) := (blk_cell BK603.out 1).trans rfl; have hcz24_2 : w21.cell? ⟨gb603, 2, none⟩ = some (.int .i64 a0_2) := (blk_cell BK603.out 2).trans rfl; have hcz24_3 : w21.cell? ⟨gb603, 3, none⟩ = some (.int .i64 a0_3) := (blk_cell BK603.out 3).trans rfl; have hcz24_4 : w21.cell? ⟨gb603, 4, none⟩ = some (.int .i64 a0_4) := (blk_cell BK603.out 4).trans rfl; have hfz24_0 := blk_frozen BK603.out 0; have hfz24_1 := blk_frozen BK603.out 1; have hfz24_2 := blk_frozen BK603.out 2; have hfz24_3 := blk_frozen BK603.out 3; have hfz24_4 := blk_frozen BK603.out 4) | (go_at_call 65; (with_reducible refine (ring_Fits.calls a0_1 _ _ ((rd_T26 l1 x21_1).f0) true _ ?side1 ?side2 A13.out).mono ?_); (case side1 => exact Kd.C_below HR605_0.out (zq13)); (case side2 => exact HC605_0.out); rintro e w25 ⟨rfl, hb⟩; have n0_ := Aside0.mk (Kd.R_below (zq2) hb); have n1_ := Aside0.mk (Kd.R_below (zq3) hb); have n2_ := Aside0.mk (blk_below (g := gb603) (o := .cells #[.int .i64 a0_0, .int .i64 a0_1, .int .i64 a0_2, .int .i64 a0_3, .int .i64 a0_4] 23 (0, 0)) (zq1) hb); have n3_ := Aside0.mk (blk_below (g := gb606) (o := .cells #[.slice A605_0 ((rd_T26 l1 x21_1).f0).length c605_0, .slice A605_1 ((rd_T26 l1 x21_1).f1).length c605_1, .slice A605_2 ((rd_T26 l1 x21_1).f2).length c605_2] 26 (0, 0)) (zq0) hb); have n4_ := Aside0.mk (below_step (zq13) hb); clear HO_8; clear HO_9; clear BK603; clear BK606; clear HB; have HO_8 := n0_; have HO_9 := n1_; have BK603 := n2_; have BK606 := n3_; have HB := n4_; clear n0_ n1_ n2_ n3_ n4_; (try clear hb); (try clear hb2); (try clear hk); (try clear hi); have hcz26_0 : w25.cell? ⟨gb603, 0, none⟩ = some (.int .i64 a0_0) := (blk_cell BK603.out 0).trans rfl; have hcz26_1 : w25.cell? ⟨gb603, 1, none⟩ = some (.int .i64 a0_1) := (blk_cell BK603.out 1).trans rfl; have hcz26_2 : w25.cell? ⟨gb603, 2, none⟩ = some (.int .i64 a0_2) := (blk_cell BK603.out 2).trans rfl; have hcz26_3 : w25.cell? ⟨gb603, 3, none⟩ = some (.int .i64 a0_3) := (blk_cell BK603.out 3).trans rfl; have hcz26_4 : w25.cell? ⟨gb603, 4, none⟩ = some (.int .i64 a0_4) := (blk_cell BK603.out 4).trans rfl; have hfz26_0 := blk_frozen BK603.out 0; have hfz26_1 := blk_frozen BK603.out 1; have hfz26_2 := blk_frozen BK603.out 2; have hfz26_3 := blk_frozen BK603.out 3; have hfz26_4 := blk_frozen BK603.out 4; have hcz27_0 : w25.cell? ⟨gb606, 0, none⟩ = some (.slice A605_0 ((rd_T26 l1 x21_1).f0).length c605_0) := (blk_cell BK606.out 0).trans rfl; have hcz27_1 : w25.cell? ⟨gb606, 1, none⟩ = some (.slice A605_1 ((rd_T26 l1 x21_1).f1).length c605_1) := (blk_cell BK606.out 1).trans rfl; have hcz27_2 : w25.cell? ⟨gb606, 2, none⟩ = some (.slice A605_2 ((rd_T26 l1 x21_1).f2).length c605_2) := (blk_cell BK606.out 2).trans rfl; have hfz27_0 := blk_frozen BK606.out 0; have hfz27_1 := blk_frozen BK606.out 1; have hfz27_2 := blk_frozen BK606.out 2) | (go_at_call 65; (with_reducible refine (ring_Fits.calls a0_1 _ _ ((rd_T26 l1 x21_1).f1) true _ ?side1 ?side2 A15.out).mono ?_); (case side1 => repeat (first | exact (Kd.C_below HR605_1.out HB.out) | (with_reducible refine Kd.C_alloc ?_ _) | (with_reducible refine Kd.C_drewN ?_ _) | (with_reducible refine Kd.C_drew ?_))); (case side2 => exact HC605_1.out); rintro e w28 ⟨rfl, hb⟩; have n0_ := Aside0.mk (Kd.R_below (zq35) hb); have n1_ := Aside0.mk (Kd.R_below (zq36) hb); have n2_ := Aside0.mk (blk_below (g := gb603) (o := .cells #[.int .i64 a0_0, .int .i64 a0_1, .int .i64 a0_2, .int .i64 a0_3, .int .i64 a0_4] 23 (0, 0)) (zq31) hb); have n3_ := Aside0.mk (blk_below (g := gb606) (o := .cells #[.slice A605_0 ((rd_T26 l1 x21_1).f0).length c605_0, .slice A605_1 ((rd_T26 l1 x21_1).f1).length c605_1, .slice A605_2 ((rd_T26 l1 x21_1).f2).length c605_2] 26 (0, 0)) (zq32) hb); have n4_ := Aside0.mk (below_step (zq13) hb); clear HO_8; clear HO_9; clear BK603; clear BK606; clear HB; have HO_8 := n0_; have HO_9 := n1_; have BK603 := n2_; have BK606 := n3_; have HB := n4_; clear n0_ n1_ n2_ n3_ n4_; (try clear hb); (try clear hb2); (try clear hk); (try clear hi); obtain ⟨Ao29, co29, eo29⟩ := Kd.R_slice HO_8.out; subst eo29; obtain ⟨Ao30, co30, eo30⟩ := Kd.R_slice HO_9.out; subst eo30))
               have n0_ := Aside0.mk (Kd.R_drew HO_8.out)
               have n1_ := Aside0.mk (Kd.R_drew HO_9.out)
               have n2_ := Aside0.mk (blk_drew BK603.out)
               have n3_ := Aside0.mk (blk_drew BK606.out)
               have n4_ := Aside0.mk (below_drew1 HB.out)
               clear HO_8
               clear HO_9
               clear BK603
               clear BK606
               clear HB
               have HO_8 := n0_
               have HO_9 := n1_
               have BK603 := n2_
               have BK606 := n3_
               have HB := n4_
               clear n0_ n1_ n2_ n3_ n4_
               have p609 : 0 ≤ (0 : Int) := (by omega)
               have q609 : 0 < (((rd_T26 l1 x21_1).f0).length : Int) := of_decide_eq_true (zq39)
               obtain ⟨ad609, e609, hx609_0⟩ := Kd.at_int HR605_0.out 0 p609 q609
               have hw609_0 := hx609_0
               (try rw [show ((0 : Int)).toNat = 0 from rfl] at hw609_0)
               (try rw [show 0 * 1 = 0 from rfl] at hw609_0)
               (try rw [Addr.add_zero'] at hw609_0)
               cases e609
               have qi609 : (0 < ((rd_T26 l1 x21_1).f0).length) = True := eq_true (by omega)
               (try rw [show ((0 : Int)).toNat = 0 from rfl] at hx609_0)
               (try rw [Addr.add_zero'] at hx609_0)
               replace hx609_0 := (HB.out.cell (World.block_lt_of_cell? w _ hx609_0)).trans hx609_0
               replace p609 := eq_true p609
               replace q609 := eq_true q609
               have p616 : 0 ≤ (0 : Int) := (by omega)
               have q616 : 0 < (((rd_T26 l1 x21_1).f1).length : Int) := of_decide_eq_true (zq39)
               obtain ⟨ad616, e616, hx616_0⟩ := Kd.at_int HR605_1.out 0 p616 q616
               have hw616_0 := hx616_0
               (try rw [show ((0 : Int)).toNat = 0 from rfl] at hw616_0)
               (try rw [show 0 * 1 = 0 from rfl] at hw616_0)
               (try rw [Addr.add_zero'] at hw616_0)
               cases e616
               have qi616 : (0 < ((rd_T26 l1 x21_1).f1).length) = True := eq_true (by omega)
               (try rw [show ((0 : Int)).toNat = 0 from rfl] at hx616_0)
               (try rw [Addr.add_zero'] at hx616_0)
               replace hx616_0 := (HB.out.cell (World.block_lt_of_cell? w _ hx616_0)).trans hx616_0
               replace p616 := eq_true p616
               replace q616 := eq_true q616
               refine start_ (n := 16) (S := fun w' => w'.cell? ⟨gb606, 0, none⟩ = some (.slice (some ad609) ((rd_T26 l1 x21_1).f0).length c605_0) ∧ w'.cell? ⟨gb606, 1, none⟩ = some (.slice (some ad616) ((rd_T26 l1 x21_1).f1).length c605_1) ∧ w'.cell? ⟨gb606, 2, none⟩ = some (.slice A605_2 ((rd_T26 l1 x21_1).f2).length c605_2) ∧ w'.cell? ad609 = some (.int .u64 (rd ((rd_T26 l1 x21_1).f0) 0)) ∧ w'.cell? ad616 = some (.int .u64 (rd ((rd_T26 l1 x21_1).f1) 0))) (ds := []) #[false, false, false, false, false, false, false, false, false, false, false, false, false, false, false, false] (zq43) rfl rfl ⟨(blk_cell BK606.out 0).trans rfl, (blk_cell BK606.out 1).trans rfl, (blk_cell BK606.out 2).trans rfl, ((HB.out.cell (World.block_lt_of_cell? w _ hw609_0)).trans hw609_0), ((HB.out.cell (World.block_lt_of_cell? w _ hw616_0)).trans hw616_0)⟩ (fun hHeld => ?_); refine with_tabW scalar_parts.tab10 scalar_parts.bits10 (fun HT_ HW_ => ?_)
               generalize w28.drew = w31 at HO_8 HO_9 BK603 BK606 HB hx609_0 hx616_0 hHeld ⊢
               refine pure_ (i := 0) (N := some 51) (v := ?_) (a' := ?_) #[true, false, false, false, false, false, false, false, false, false, false, false, false, false, false, false] rfl rfl (any_of HT_.out (zq43)) (fun _ _ _ h => h) (Or.inl ⟨by rfl, ?_⟩) ?_ ?_; rotate_left; exact zs0; rotate_left; exact zs1
               refine pure_ (i := 1) (N := some 52) (v := ?_) (a' := ?_) #[true, true, false, false, false, false, false, false, false, false, false, false, false, false, false, false] rfl rfl (any_of HT_.out (zq43)) (fun _ _ _ h => h) (Or.inl ⟨by rfl, ?_⟩) ?_ ?_; rotate_left; exact zs0; rotate_left; exact zs1
               refine pure_ (i := 7) (N := some 58) (v := ?_) (a' := ?_) #[true, true, false, false, false, false, false, true, false, false, false, false, false, false, false, false] rfl rfl (any_of HT_.out (zq43)) (fun _ _ _ h => h) (Or.inl ⟨by rfl, ?_⟩) ?_ ?_; rotate_left; exact zs0; rotate_left; exact zs1
               refine pure_ (i := 8) (N := some 59) (v := ?_) (a' := ?_) #[true, true, false, false, false, false, false, true, true, false, false, false, false, false, false, false] rfl rfl (any_of HT_.out (zq43)) (fun _ _ _ h => h) (Or.inl ⟨by rfl, ?_⟩) ?_ ?_; rotate_left; exact zs0; rotate_left; exact zs1
               refine take_ (i := 2) (N := some 53) (v := ?_) (a' := ?_) #[true, true, true, false, false, false, false, true, true, false, false, false, false, false, false, false] rfl rfl (take_ofW HT_.out HW_.out (zq43)) (fun _ _ _ h => h) (Or.inl ⟨by rfl, ?_⟩) hHeld ?_ ?_
               rotate_left
               ·rintro w' ⟨s0, s1, s2, s3, s4⟩
                go_simp
                with_reducible rfl
               rotate_left
               exact zs1
               refine pure_ (i := 3) (N := some 54) (v := ?_) (a' := ?_) #[true, true, true, true, false, false, false, true, true, false, false, false, false, false, false, false] rfl rfl (any_of HT_.out (zq43)) (fun _ _ _ h => h) (Or.inl ⟨by rfl, ?_⟩) ?_ ?_; rotate_left; exact zs0; rotate_left; exact zs1
               refine take_ (i := 4) (N := some 55) (v := ?_) (a' := ?_) #[true, true, true, true, true, false, false, true, true, false, false, false, false, false, false, false] rfl rfl (take_ofW HT_.out HW_.out (zq43)) (fun _ _ _ h => h) (Or.inl ⟨by rfl, ?_⟩) hHeld ?_ ?_
               rotate_left
               ·rintro w' ⟨s0, s1, s2, s3, s4⟩
                go_simp
                with_reducible rfl
               rotate_left
               exact zs1
               refine take_ (i := 9) (N := some 60) (v := ?_) (a' := ?_) #[true, true, true, true, true, false, false, true, true, true, false, false, false, false, false, false] rfl rfl (take_ofW HT_.out HW_.out (zq43)) (fun _ _ _ h => h) (Or.inl ⟨by rfl, ?_⟩) hHeld ?_ ?_
               rotate_left
               ·rintro w' ⟨s0, s1, s2, s3, s4⟩
                go_simp
                with_reducible rfl
               rotate_left
               exact zs1
               refine pure_ (i := 10) (N := some 61) (v := ?_) (a' := ?_) #[true, true, true, true, true, false, false, true, true, true, true, false, false, false, false, false] rfl rfl (any_of HT_.out (zq43)) (fun _ _ _ h => h) (Or.inl ⟨by rfl, ?_⟩) ?_ ?_; rotate_left; exact zs0; rotate_left; exact zs1
               refine take_ (i := 11) (N := some 62) (v := ?_) (a' := ?_) #[true, true, true, true, true, false, false, true, true, true, true, true, false, false, false, false] rfl rfl (take_ofW HT_.out HW_.out (zq43)) (fun _ _ _ h => h) (Or.inl ⟨by rfl, ?_⟩) hHeld ?_ ?_
               rotate_left
               ·rintro w' ⟨s0, s1, s2, s3, s4⟩
                go_simp
                with_reducible rfl
               rotate_left
               exact zs1
               refine join_ (σ := Value × Value × Value) 3 ba7_1 (fun s_ => [(56, s_.1), (57, s_.2.1), (63, s_.2.2)]) (fun s_ w' => (w'.cell? ⟨gb606, 0, none⟩ = some (.slice (some ad609) ((rd_T26 l1 x21_1).f0).length c605_0) ∧ w'.cell? ⟨gb606, 1, none⟩ = some (.slice (some ad616) ((rd_T26 l1 x21_1).f1).length c605_1) ∧ w'.cell? ⟨gb606, 2, none⟩ = some (.slice A605_2 ((rd_T26 l1 x21_1).f2).length c605_2) ∧ w'.cell? ad609 = some (.int .u64 (rd ((rd_T26 l1 x21_1).f0) 0)) ∧ w'.cell? ad616 = some (.int .u64 (rd ((rd_T26 l1 x21_1).f1) 0))) ∧ (Kd.R (Kd.int .u64) 35 w' w.heap.size (fun k_ => some k_ ≠ (s_.2.1 : Value).ownBlock ∧ some k_ ≠ (s_.2.2 : Value).ownBlock ∧ some k_ ≠ (.slice Ao30 x9_1.length co30 : Value).ownBlock) s_.1 y610) ∧ (Kd.R (Kd.int .u64) 35 w' w.heap.size (fun k_ => some k_ ≠ (s_.1 : Value).ownBlock ∧ some k_ ≠ (s_.2.2 : Value).ownBlock ∧ some k_ ≠ (.slice Ao30 x9_1.length co30 : Value).ownBlock) s_.2.1 y613) ∧ (Kd.R (Kd.int .u64) 35 w' w.heap.size (fun k_ => some k_ ≠ (s_.1 : Value).ownBlock ∧ some k_ ≠ (s_.2.1 : Value).ownBlock ∧ some k_ ≠ (.slice Ao30 x9_1.length co30 : Value).ownBlock) s_.2.2 y617) ∧ (Kd.R (Kd.int .u64) 35 w' w.heap.size (fun k_ => some k_ ≠ (s_.1 : Value).ownBlock ∧ some k_ ≠ (s_.2.1 : Value).ownBlock ∧ some k_ ≠ (s_.2.2 : Value).ownBlock) (.slice Ao30 x9_1.length co30) x9_1) ∧ (w'.heap[gb603]? = some (.cells #[.int .i64 a0_0, .int .i64 a0_1, .int .i64 a0_2, .int .i64 a0_3, .int .i64 a0_4] 23 (0, 0))) ∧ (w'.heap[gb606]? = some (.cells #[.slice (some ad609) ((rd_T26 l1 x21_1).f0).length c605_0, .slice (some ad616) ((rd_T26 l1 x21_1).f1).length c605_1, .slice A605_2 ((rd_T26 l1 x21_1).f2).length c605_2] 26 (0, 0))) ∧ (Below w.heap.size w w')) ?_ ?_
               rotate_left
               ·intro hCont
                refine two_ (i := 5) (j := 12) (Ni := some 56) (Nj := some 63) #[true, true, true, true, true, true, false, true, true, true, true, true, false, false, false, false] #[true, true, true, true, true, false, false, true, true, true, true, true, true, false, false, false] rfl rfl rfl rfl (two_of HT_.out (zq43)) (by decide) (by decide) (fun K hK => ?_) (fun K hK => ?_)
                ·skip
                 refine Kd.R_lit_step (Kd.int .u64) _ 35 ?hg (N := 56) ?hd (xs := ([rd ((rd_T26 l1 x21_1).f0) 0] : List Int)) (inner := [.int .u64 (rd ((rd_T26 l1 x21_1).f0) 0)]) (ok := fun _ => True) (okp := fun _ => True) ?hr ?hp (fun _ hk => hk) trivial (Below.refl _ _) (Nat.le_refl _) (by simp) ?_; (case hd => rfl); (case hg => rfl); (case hr => first | (go_simp; done) | (go_simp; rfl)); (case hp => exact (Reps.one (show Kd.M (Kd.int .u64) _ _ _ (rd ((rd_T26 l1 x21_1).f0) 0) [.int .u64 (rd ((rd_T26 l1 x21_1).f0) 0)] from rfl) (Reps.none _ _)))
                 intro v611 w32 ho33 hb hg_ hnew_
                 clear hg_ hnew_
                 (first | rw [← Ny610.out] at ho33 | (simp only [Int.reduceToNat] at ho33; rw [← Ny610.out] at ho33))
                 have n0_ := Aside0.mk (Kd.R_elder' (zq35) (Kd.R_base ho33) hb)
                 have n1_ := Aside0.mk (Kd.R_elder' (zq36) (Kd.R_base ho33) hb)
                 have n2_ := Aside0.mk (Kd.R_lower (Kd.R_new' (Kd.R_new' ho33 (Kd.R_lt (zq35))) (Kd.R_lt (zq36))) (below_size (zq13)))
                 have n3_ := Aside0.mk (blk_below (g := gb603) (o := .cells #[.int .i64 a0_0, .int .i64 a0_1, .int .i64 a0_2, .int .i64 a0_3, .int .i64 a0_4] 23 (0, 0)) (zq31) hb)
                 have n4_ := Aside0.mk (blk_below (g := gb606) (o := .cells #[.slice (some ad609) ((rd_T26 l1 x21_1).f0).length c605_0, .slice (some ad616) ((rd_T26 l1 x21_1).f1).length c605_1, .slice A605_2 ((rd_T26 l1 x21_1).f2).length c605_2] 26 (0, 0)) (zq32) hb)
                 have n5_ := Aside0.mk (below_step (zq13) hb)
                 clear HO_8
                 clear HO_9
                 clear BK603
                 clear BK606
                 clear HB
                 have HO_8 := n0_
                 have HO_9 := n1_
                 have HO612 := n2_
                 have BK603 := n3_
                 have BK606 := n4_
                 have HB := n5_
                 clear n0_ n1_ n2_ n3_ n4_ n5_
                 clear hb ho33
                 obtain ⟨Ao35, co35, eo35⟩ := Kd.R_slice HO612.out
                 (first | subst eo35 | (injection eo35 with f1_ f2_ f3_; have f4_ := f1_.symm; have f5_ := f3_.symm; clear f1_ f2_ f3_; subst f4_; subst f5_))
                 refine hK.out _ _ ⟨(blk_cell BK606.out 0).trans rfl, (blk_cell BK606.out 1).trans rfl, (blk_cell BK606.out 2).trans rfl, ((HB.out.cell (World.block_lt_of_cell? w _ hw609_0)).trans hw609_0), ((HB.out.cell (World.block_lt_of_cell? w _ hw616_0)).trans hw616_0)⟩ (fun hHeld => ?_)
                 clear hK K
                 refine norm_ (a' := ?_) ?_ ?_
                 rotate_left
                 ·show Act.put _ (some 56) _ = _
                  simp only [Act.put, List.setIfInBounds_toArray, List.set_cons_zero, List.set_cons_succ, i64_w, i32_w]
                  rfl
                 refine two_ (i := 6) (j := 12) (Ni := some 57) (Nj := some 63) #[true, true, true, true, true, true, true, true, true, true, true, true, false, false, false, false] ba7_0 rfl rfl rfl rfl (two_of HT_.out (zq43)) (by decide) (by decide) (fun K hK => ?_) (fun K hK => ?_)
                 ·skip
                  refine Kd.R_append_rows_step (Kd.int .u64) (w0 := w) w.heap.size (by rfl) (.tmp 51) (.tmp 56) 24 35 (.int .u64 0) 8 rfl Try.underlying24 info35 rfl (by decide) (by omega) (.slice Ao29 x8_1.length co29) x8_1 y610 _ _ _ (fun k_ => some k_ ≠ (.slice Ao30 x9_1.length co30 : Value).ownBlock ∧ some k_ ≠ (.slice Ao35 y610.length co35 : Value).ownBlock) (fun _ => False) rfl rfl ?aO ?aR (fun _ _ h => h) (fun _ h => h.elim) ?aF ?aB ?aS ?aL ?_
                  (case aR => repeat (first | exact (Kd.R_reads' HO612.out).2.2 | (with_reducible refine Kd.C_alloc ?_ _) | (with_reducible refine Kd.C_drewN ?_ _) | (with_reducible refine Kd.C_drew ?_)))
                  (case aB => exact (zq13))
                  (case aF => exact (fun k_ hk => ⟨Kd.fresh' (Kd.R_lt (zq36)) k_ hk, Kd.fresh' (Kd.R_lt (zq34)) k_ hk⟩))
                  (case aO => exact (zq35))
                  (case aS => exact (below_size (zq13)))
                  (case aL => have := LMc18.out; omega)
                  intro v614 w34 ho hb hg hat
                  rw [← Ny613.out] at ho
                  have n0_ := Aside0.mk (Kd.R_after (ok := (fun k_ => some k_ ≠ (.slice Ao35 y610.length co35 : Value).ownBlock)) (by (with_reducible repeat (first | apply Kd.R_alloc | apply Kd.R_drewN | apply Kd.R_drew)); exact Kd.R_mono HO_9.out (fun _ hk => ⟨hk.2, hk.1⟩)) hg hat)
                  have n1_ := Aside0.mk (blk_grown (g := gb603) (o := .cells #[.int .i64 a0_0, .int .i64 a0_1, .int .i64 a0_2, .int .i64 a0_3, .int .i64 a0_4] 23 (0, 0)) (zq31) hg (Kd.R_ne HO_8.out BK603.out (by decide)))
                  have n2_ := Aside0.mk (blk_grown (g := gb606) (o := .cells #[.slice (some ad609) ((rd_T26 l1 x21_1).f0).length c605_0, .slice (some ad616) ((rd_T26 l1 x21_1).f1).length c605_1, .slice A605_2 ((rd_T26 l1 x21_1).f2).length c605_2] 26 (0, 0)) (zq32) hg (Kd.R_ne HO_8.out BK606.out (by decide)))
                  have n3_ := Aside0.mk (Kd.R_after (ok := (fun k_ => some k_ ≠ (.slice Ao30 x9_1.length co30 : Value).ownBlock)) (by (with_reducible repeat (first | apply Kd.R_alloc | apply Kd.R_drewN | apply Kd.R_drew)); exact Kd.R_mono HO612.out (fun _ hk => ⟨hk.2, hk.1.2⟩)) hg hat)
                  have n4_ := Aside0.mk (hb)
                  have n5_ := Aside0.mk (ho)
                  clear HO_9
                  clear BK603
                  clear BK606
                  clear HO612
                  clear HB
                  clear HO_8
                  have HO_9 := n0_
                  have BK603 := n1_
                  have BK606 := n2_
                  have HO612 := n3_
                  have HB := n4_
                  have HO615 := n5_
                  clear n0_ n1_ n2_ n3_ n4_ n5_
                  clear ho hb hg hat
                  refine hK.out _ _ ⟨(blk_cell BK606.out 0).trans rfl, (blk_cell BK606.out 1).trans rfl, (blk_cell BK606.out 2).trans rfl, ((HB.out.cell (World.block_lt_of_cell? w _ hw609_0)).trans hw609_0), ((HB.out.cell (World.block_lt_of_cell? w _ hw616_0)).trans hw616_0)⟩ (fun hHeld => ?_)
                  clear hK K
                  refine norm_ (a' := ?_) ?_ ?_
                  rotate_left
                  ·show Act.put _ (some 57) _ = _
                   simp only [Act.put, List.setIfInBounds_toArray, List.set_cons_zero, List.set_cons_succ, i64_w, i32_w]
                   rfl
                  refine one_ (i := 12) (N := some 63) ba7_1 rfl rfl (one_of HT_.out (zq43)) (by decide) (fun K hK => ?_)
                  refine Kd.R_lit_step (Kd.int .u64) _ 35 ?hg (N := 63) ?hd (xs := ([rd ((rd_T26 l1 x21_1).f1) 0] : List Int)) (inner := [.int .u64 (rd ((rd_T26 l1 x21_1).f1) 0)]) (ok := fun _ => True) (okp := fun _ => True) ?hr ?hp (fun _ hk => hk) trivial (Below.refl _ _) (Nat.le_refl _) (by simp) ?_; (case hd => rfl); (case hg => rfl); (case hr => first | (go_simp; done) | (go_simp; rfl)); (case hp => exact (Reps.one (show Kd.M (Kd.int .u64) _ _ _ (rd ((rd_T26 l1 x21_1).f1) 0) [.int .u64 (rd ((rd_T26 l1 x21_1).f1) 0)] from rfl) (Reps.none _ _)))
                  intro v618 w36 ho37 hb hg_ hnew_
                  clear hg_ hnew_
                  (first | rw [← Ny617.out] at ho37 | (simp only [Int.reduceToNat] at ho37; rw [← Ny617.out] at ho37))
                  have n0_ := Aside0.mk (Kd.R_elder' (zq36) (Kd.R_base ho37) hb)
                  have n1_ := Aside0.mk (Kd.R_elder' (zq34) (Kd.R_base ho37) hb)
                  have n2_ := Aside0.mk (Kd.R_elder' (by (with_reducible repeat (first | apply Kd.R_alloc | apply Kd.R_drewN | apply Kd.R_drew)); exact HO615.out) (Kd.R_base ho37) hb)
                  have n3_ := Aside0.mk (Kd.R_lower (Kd.R_new' (Kd.R_new' (Kd.R_new' ho37 (Kd.R_lt (zq36))) (Kd.R_lt (zq34))) (Kd.R_lt (by (with_reducible repeat (first | apply Kd.R_alloc | apply Kd.R_drewN | apply Kd.R_drew)); exact HO615.out))) (below_size (zq13)))
                  have n4_ := Aside0.mk (blk_below (g := gb603) (o := .cells #[.int .i64 a0_0, .int .i64 a0_1, .int .i64 a0_2, .int .i64 a0_3, .int .i64 a0_4] 23 (0, 0)) (zq31) hb)
                  have n5_ := Aside0.mk (blk_below (g := gb606) (o := .cells #[.slice (some ad609) ((rd_T26 l1 x21_1).f0).length c605_0, .slice (some ad616) ((rd_T26 l1 x21_1).f1).length c605_1, .slice A605_2 ((rd_T26 l1 x21_1).f2).length c605_2] 26 (0, 0)) (zq32) hb)
                  have n6_ := Aside0.mk (below_step (zq13) hb)
                  clear HO_9
                  clear HO612
                  clear HO615
                  clear BK603
                  clear BK606
                  clear HB
                  have HO_9 := n0_
                  have HO612 := n1_
                  have HO615 := n2_
                  have HO619 := n3_
                  have BK603 := n4_
                  have BK606 := n5_
                  have HB := n6_
                  clear n0_ n1_ n2_ n3_ n4_ n5_ n6_
                  clear hb ho37
                  refine hK.out _ _ ⟨(blk_cell BK606.out 0).trans rfl, (blk_cell BK606.out 1).trans rfl, (blk_cell BK606.out 2).trans rfl, ((HB.out.cell (World.block_lt_of_cell? w _ hw609_0)).trans hw609_0), ((HB.out.cell (World.block_lt_of_cell? w _ hw616_0)).trans hw616_0)⟩ (fun hHeld => ?_)
                  clear hK K
                  refine norm_ (a' := ?_) ?_ ?_
                  rotate_left
                  ·show Act.put _ (some 63) _ = _
                   simp only [Act.put, List.setIfInBounds_toArray, List.set_cons_zero, List.set_cons_succ, i64_w, i32_w]
                   rfl
                  exact norm_ (by simp only [putAll, Act.put, List.setIfInBounds_toArray, List.set_cons_zero, List.set_cons_succ]) (hCont (.slice Ao35 y610.length co35, v614, v618) _ ⟨hHeld, (by (with_reducible repeat (first | apply Kd.R_alloc | apply Kd.R_drewN | apply Kd.R_drew)); exact Kd.R_mono HO612.out (fun _ hk => ⟨hk.1.2, ⟨hk.2, hk.1.1⟩⟩)), (by (with_reducible repeat (first | apply Kd.R_alloc | apply Kd.R_drewN | apply Kd.R_drew)); exact Kd.R_mono HO615.out (fun _ hk => ⟨hk.1.2, ⟨hk.2, hk.1.1⟩⟩)), (by (with_reducible repeat (first | apply Kd.R_alloc | apply Kd.R_drewN | apply Kd.R_drew)); exact Kd.R_mono HO619.out (fun _ hk => ⟨hk.1.2, ⟨hk.2, hk.1.1.2⟩⟩)), (by (with_reducible repeat (first | apply Kd.R_alloc | apply Kd.R_drewN | apply Kd.R_drew)); exact Kd.R_mono HO_9.out (fun _ hk => ⟨hk.1.1, ⟨hk.1.2, hk.2⟩⟩)), (zq31), (zq32), (zq13)⟩)
                 ·skip
                  refine Kd.R_lit_step (Kd.int .u64) _ 35 ?hg (N := 63) ?hd (xs := ([rd ((rd_T26 l1 x21_1).f1) 0] : List Int)) (inner := [.int .u64 (rd ((rd_T26 l1 x21_1).f1) 0)]) (ok := fun _ => True) (okp := fun _ => True) ?hr ?hp (fun _ hk => hk) trivial (Below.refl _ _) (Nat.le_refl _) (by simp) ?_; (case hd => rfl); (case hg => rfl); (case hr => first | (go_simp; done) | (go_simp; rfl)); (case hp => exact (Reps.one (show Kd.M (Kd.int .u64) _ _ _ (rd ((rd_T26 l1 x21_1).f1) 0) [.int .u64 (rd ((rd_T26 l1 x21_1).f1) 0)] from rfl) (Reps.none _ _)))
                  intro v618 w34 ho35 hb hg_ hnew_
                  clear hg_ hnew_
                  (first | rw [← Ny617.out] at ho35 | (simp only [Int.reduceToNat] at ho35; rw [← Ny617.out] at ho35))
                  have n0_ := Aside0.mk (Kd.R_elder' (zq35) (Kd.R_base ho35) hb)
                  have n1_ := Aside0.mk (Kd.R_elder' (zq36) (Kd.R_base ho35) hb)
                  have n2_ := Aside0.mk (Kd.R_elder' (zq34) (Kd.R_base ho35) hb)
                  have n3_ := Aside0.mk (Kd.R_lower (Kd.R_new' (Kd.R_new' (Kd.R_new' ho35 (Kd.R_lt (zq35))) (Kd.R_lt (zq36))) (Kd.R_lt (zq34))) (below_size (zq13)))
                  have n4_ := Aside0.mk (blk_below (g := gb603) (o := .cells #[.int .i64 a0_0, .int .i64 a0_1, .int .i64 a0_2, .int .i64 a0_3, .int .i64 a0_4] 23 (0, 0)) (zq31) hb)
                  have n5_ := Aside0.mk (blk_below (g := gb606) (o := .cells #[.slice (some ad609) ((rd_T26 l1 x21_1).f0).length c605_0, .slice (some ad616) ((rd_T26 l1 x21_1).f1).length c605_1, .slice A605_2 ((rd_T26 l1 x21_1).f2).length c605_2] 26 (0, 0)) (zq32) hb)
                  have n6_ := Aside0.mk (below_step (zq13) hb)
                  clear HO_8
                  clear HO_9
                  clear HO612
                  clear BK603
                  clear BK606
                  clear HB
                  have HO_8 := n0_
                  have HO_9 := n1_
                  have HO612 := n2_
                  have HO619 := n3_
                  have BK603 := n4_
                  have BK606 := n5_
                  have HB := n6_
                  clear n0_ n1_ n2_ n3_ n4_ n5_ n6_
                  clear hb ho35
                  obtain ⟨Ao37, co37, eo37⟩ := Kd.R_slice HO612.out
                  (first | subst eo37 | (injection eo37 with f1_ f2_ f3_; have f4_ := f1_.symm; have f5_ := f3_.symm; clear f1_ f2_ f3_; subst f4_; subst f5_))
                  refine hK.out _ _ ⟨(blk_cell BK606.out 0).trans rfl, (blk_cell BK606.out 1).trans rfl, (blk_cell BK606.out 2).trans rfl, ((HB.out.cell (World.block_lt_of_cell? w _ hw609_0)).trans hw609_0), ((HB.out.cell (World.block_lt_of_cell? w _ hw616_0)).trans hw616_0)⟩ (fun hHeld => ?_)
                  clear hK K
                  refine norm_ (a' := ?_) ?_ ?_
                  rotate_left
                  ·show Act.put _ (some 63) _ = _
                   simp only [Act.put, List.setIfInBounds_toArray, List.set_cons_zero, List.set_cons_succ, i64_w, i32_w]
                   rfl
                  refine one_ (i := 6) (N := some 57) ba7_1 rfl rfl (one_of HT_.out (zq43)) (by decide) (fun K hK => ?_)
                  refine Kd.R_append_rows_step (Kd.int .u64) (w0 := w) w.heap.size (by rfl) (.tmp 51) (.tmp 56) 24 35 (.int .u64 0) 8 rfl Try.underlying24 info35 rfl (by decide) (by omega) (.slice Ao29 x8_1.length co29) x8_1 y610 _ _ _ (fun k_ => some k_ ≠ (.slice Ao30 x9_1.length co30 : Value).ownBlock ∧ some k_ ≠ (.slice Ao37 y610.length co37 : Value).ownBlock ∧ some k_ ≠ (v618 : Value).ownBlock) (fun _ => False) rfl rfl ?aO ?aR (fun _ _ h => h) (fun _ h => h.elim) ?aF ?aB ?aS ?aL ?_
                  (case aR => repeat (first | exact (Kd.R_reads' HO612.out).2.2 | (with_reducible refine Kd.C_alloc ?_ _) | (with_reducible refine Kd.C_drewN ?_ _) | (with_reducible refine Kd.C_drew ?_)))
                  (case aB => exact (zq13))
                  (case aF => exact (fun k_ hk => ⟨Kd.fresh' (Kd.R_lt (zq36)) k_ hk, Kd.fresh' (Kd.R_lt (zq34)) k_ hk, Kd.fresh' (Kd.R_lt (by (with_reducible repeat (first | apply Kd.R_alloc | apply Kd.R_drewN | apply Kd.R_drew)); exact HO619.out)) k_ hk⟩))
                  (case aO => exact (by (with_reducible repeat (first | apply Kd.R_alloc | apply Kd.R_drewN | apply Kd.R_drew)); exact Kd.R_mono HO_8.out (fun _ hk => ⟨hk.1.1, ⟨hk.1.2, hk.2⟩⟩)))
                  (case aS => exact (below_size (zq13)))
                  (case aL => have := LMc18.out; omega)
                  intro v614 w36 ho hb hg hat
                  rw [← Ny613.out] at ho
                  have n0_ := Aside0.mk (Kd.R_after (ok := (fun k_ => some k_ ≠ (.slice Ao37 y610.length co37 : Value).ownBlock ∧ some k_ ≠ (v618 : Value).ownBlock)) (by (with_reducible repeat (first | apply Kd.R_alloc | apply Kd.R_drewN | apply Kd.R_drew)); exact Kd.R_mono HO_9.out (fun _ hk => ⟨⟨hk.1.2, hk.2⟩, hk.1.1⟩)) hg hat)
                  have n1_ := Aside0.mk (blk_grown (g := gb603) (o := .cells #[.int .i64 a0_0, .int .i64 a0_1, .int .i64 a0_2, .int .i64 a0_3, .int .i64 a0_4] 23 (0, 0)) (zq31) hg (Kd.R_ne HO_8.out BK603.out (by decide)))
                  have n2_ := Aside0.mk (blk_grown (g := gb606) (o := .cells #[.slice (some ad609) ((rd_T26 l1 x21_1).f0).length c605_0, .slice (some ad616) ((rd_T26 l1 x21_1).f1).length c605_1, .slice A605_2 ((rd_T26 l1 x21_1).f2).length c605_2] 26 (0, 0)) (zq32) hg (Kd.R_ne HO_8.out BK606.out (by decide)))
                  have n3_ := Aside0.mk (Kd.R_after (ok := (fun k_ => some k_ ≠ (.slice Ao30 x9_1.length co30 : Value).ownBlock ∧ some k_ ≠ (v618 : Value).ownBlock)) (by (with_reducible repeat (first | apply Kd.R_alloc | apply Kd.R_drewN | apply Kd.R_drew)); exact Kd.R_mono HO612.out (fun _ hk => ⟨⟨hk.1.2, hk.2⟩, hk.1.1.2⟩)) hg hat)
                  have n4_ := Aside0.mk (Kd.R_after (ok := (fun k_ => some k_ ≠ (.slice Ao30 x9_1.length co30 : Value).ownBlock ∧ some k_ ≠ (.slice Ao37 y610.length co37 : Value).ownBlock)) (by (with_reducible repeat (first | apply Kd.R_alloc | apply Kd.R_drewN | apply Kd.R_drew)); exact Kd.R_mono HO619.out (fun _ hk => ⟨⟨hk.1.2, hk.2⟩, hk.1.1.2⟩)) hg hat)
                  have n5_ := Aside0.mk (hb)
                  have n6_ := Aside0.mk (ho)
                  clear HO_9
                  clear BK603
                  clear BK606
                  clear HO612
                  clear HO619
                  clear HB
                  clear HO_8
                  have HO_9 := n0_
                  have BK603 := n1_
                  have BK606 := n2_
                  have HO612 := n3_
                  have HO619 := n4_
                  have HB := n5_
                  have HO615 := n6_
                  clear n0_ n1_ n2_ n3_ n4_ n5_ n6_
                  clear ho hb hg hat
                  refine hK.out _ _ ⟨(blk_cell BK606.out 0).trans rfl, (blk_cell BK606.out 1).trans rfl, (blk_cell BK606.out 2).trans rfl, ((HB.out.cell (World.block_lt_of_cell? w _ hw609_0)).trans hw609_0), ((HB.out.cell (World.block_lt_of_cell? w _ hw616_0)).trans hw616_0)⟩ (fun hHeld => ?_)
                  clear hK K
                  refine norm_ (a' := ?_) ?_ ?_
                  rotate_left
                  ·show Act.put _ (some 57) _ = _
                   simp only [Act.put, List.setIfInBounds_toArray, List.set_cons_zero, List.set_cons_succ, i64_w, i32_w]
                   rfl
                  exact norm_ (by simp only [putAll, Act.put, List.setIfInBounds_toArray, List.set_cons_zero, List.set_cons_succ]) (hCont (.slice Ao37 y610.length co37, v614, v618) _ ⟨hHeld, (by (with_reducible repeat (first | apply Kd.R_alloc | apply Kd.R_drewN | apply Kd.R_drew)); exact Kd.R_mono HO612.out (fun _ hk => ⟨hk.2, ⟨hk.1.2, hk.1.1⟩⟩)), (by (with_reducible repeat (first | apply Kd.R_alloc | apply Kd.R_drewN | apply Kd.R_drew)); exact Kd.R_mono HO615.out (fun _ hk => ⟨hk.2.1, ⟨hk.2.2, hk.1⟩⟩)), (by (with_reducible repeat (first | apply Kd.R_alloc | apply Kd.R_drewN | apply Kd.R_drew)); exact Kd.R_mono HO619.out (fun _ hk => ⟨hk.1.2, ⟨hk.2, hk.1.1⟩⟩)), (by (with_reducible repeat (first | apply Kd.R_alloc | apply Kd.R_drewN | apply Kd.R_drew)); exact Kd.R_mono HO_9.out (fun _ hk => ⟨hk.1.1, ⟨hk.2, hk.1.2⟩⟩)), (zq31), (zq32), (zq13)⟩)
                ·skip
                 refine Kd.R_lit_step (Kd.int .u64) _ 35 ?hg (N := 63) ?hd (xs := ([rd ((rd_T26 l1 x21_1).f1) 0] : List Int)) (inner := [.int .u64 (rd ((rd_T26 l1 x21_1).f1) 0)]) (ok := fun _ => True) (okp := fun _ => True) ?hr ?hp (fun _ hk => hk) trivial (Below.refl _ _) (Nat.le_refl _) (by simp) ?_; (case hd => rfl); (case hg => rfl); (case hr => first | (go_simp; done) | (go_simp; rfl)); (case hp => exact (Reps.one (show Kd.M (Kd.int .u64) _ _ _ (rd ((rd_T26 l1 x21_1).f1) 0) [.int .u64 (rd ((rd_T26 l1 x21_1).f1) 0)] from rfl) (Reps.none _ _)))
                 intro v618 w32 ho33 hb hg_ hnew_
                 clear hg_ hnew_
                 (first | rw [← Ny617.out] at ho33 | (simp only [Int.reduceToNat] at ho33; rw [← Ny617.out] at ho33))
                 have n0_ := Aside0.mk (Kd.R_elder' (zq35) (Kd.R_base ho33) hb)
                 have n1_ := Aside0.mk (Kd.R_elder' (zq36) (Kd.R_base ho33) hb)
                 have n2_ := Aside0.mk (Kd.R_lower (Kd.R_new' (Kd.R_new' ho33 (Kd.R_lt (zq35))) (Kd.R_lt (zq36))) (below_size (zq13)))
                 have n3_ := Aside0.mk (blk_below (g := gb603) (o := .cells #[.int .i64 a0_0, .int .i64 a0_1, .int .i64 a0_2, .int .i64 a0_3, .int .i64 a0_4] 23 (0, 0)) (zq31) hb)
                 have n4_ := Aside0.mk (blk_below (g := gb606) (o := .cells #[.slice (some ad609) ((rd_T26 l1 x21_1).f0).length c605_0, .slice (some ad616) ((rd_T26 l1 x21_1).f1).length c605_1, .slice A605_2 ((rd_T26 l1 x21_1).f2).length c605_2] 26 (0, 0)) (zq32) hb)
                 have n5_ := Aside0.mk (below_step (zq13) hb)
                 clear HO_8
                 clear HO_9
                 clear BK603
                 clear BK606
                 clear HB
                 have HO_8 := n0_
                 have HO_9 := n1_
                 have HO619 := n2_
                 have BK603 := n3_
                 have BK606 := n4_
                 have HB := n5_
                 clear n0_ n1_ n2_ n3_ n4_ n5_
                 clear hb ho33
                 refine hK.out _ _ ⟨(blk_cell BK606.out 0).trans rfl, (blk_cell BK606.out 1).trans rfl, (blk_cell BK606.out 2).trans rfl, ((HB.out.cell (World.block_lt_of_cell? w _ hw609_0)).trans hw609_0), ((HB.out.cell (World.block_lt_of_cell? w _ hw616_0)).trans hw616_0)⟩ (fun hHeld => ?_)
                 clear hK K
                 refine norm_ (a' := ?_) ?_ ?_
                 rotate_left
                 ·show Act.put _ (some 63) _ = _
                  simp only [Act.put, List.setIfInBounds_toArray, List.set_cons_zero, List.set_cons_succ, i64_w, i32_w]
                  rfl
                 refine one_ (i := 5) (N := some 56) ba7_0 rfl rfl (one_of HT_.out (zq43)) (by decide) (fun K hK => ?_)
                 refine Kd.R_lit_step (Kd.int .u64) _ 35 ?hg (N := 56) ?hd (xs := ([rd ((rd_T26 l1 x21_1).f0) 0] : List Int)) (inner := [.int .u64 (rd ((rd_T26 l1 x21_1).f0) 0)]) (ok := fun _ => True) (okp := fun _ => True) ?hr ?hp (fun _ hk => hk) trivial (Below.refl _ _) (Nat.le_refl _) (by simp) ?_; (case hd => rfl); (case hg => rfl); (case hr => first | (go_simp; done) | (go_simp; rfl)); (case hp => exact (Reps.one (show Kd.M (Kd.int .u64) _ _ _ (rd ((rd_T26 l1 x21_1).f0) 0) [.int .u64 (rd ((rd_T26 l1 x21_1).f0) 0)] from rfl) (Reps.none _ _)))
                 intro v611 w34 ho35 hb hg_ hnew_
                 clear hg_ hnew_
                 (first | rw [← Ny610.out] at ho35 | (simp only [Int.reduceToNat] at ho35; rw [← Ny610.out] at ho35))
                 have n0_ := Aside0.mk (Kd.R_elder' (zq35) (Kd.R_base ho35) hb)
                 have n1_ := Aside0.mk (Kd.R_elder' (zq36) (Kd.R_base ho35) hb)
                 have n2_ := Aside0.mk (Kd.R_elder' (by (with_reducible repeat (first | apply Kd.R_alloc | apply Kd.R_drewN | apply Kd.R_drew)); exact HO619.out) (Kd.R_base ho35) hb)
                 have n3_ := Aside0.mk (Kd.R_lower (Kd.R_new' (Kd.R_new' (Kd.R_new' ho35 (Kd.R_lt (zq35))) (Kd.R_lt (zq36))) (Kd.R_lt (by (with_reducible repeat (first | apply Kd.R_alloc | apply Kd.R_drewN | apply Kd.R_drew)); exact HO619.out))) (below_size (zq13)))
                 have n4_ := Aside0.mk (blk_below (g := gb603) (o := .cells #[.int .i64 a0_0, .int .i64 a0_1, .int .i64 a0_2, .int .i64 a0_3, .int .i64 a0_4] 23 (0, 0)) (zq31) hb)
                 have n5_ := Aside0.mk (blk_below (g := gb606) (o := .cells #[.slice (some ad609) ((rd_T26 l1 x21_1).f0).length c605_0, .slice (some ad616) ((rd_T26 l1 x21_1).f1).length c605_1, .slice A605_2 ((rd_T26 l1 x21_1).f2).length c605_2] 26 (0, 0)) (zq32) hb)
                 have n6_ := Aside0.mk (below_step (zq13) hb)
                 clear HO_8
                 clear HO_9
                 clear HO619
                 clear BK603
                 clear BK606
                 clear HB
                 have HO_8 := n0_
                 have HO_9 := n1_
                 have HO619 := n2_
                 have HO612 := n3_
                 have BK603 := n4_
                 have BK606 := n5_
                 have HB := n6_
                 clear n0_ n1_ n2_ n3_ n4_ n5_ n6_
                 clear hb ho35
                 obtain ⟨Ao37, co37, eo37⟩ := Kd.R_slice HO612.out
                 (first | subst eo37 | (injection eo37 with f1_ f2_ f3_; have f4_ := f1_.symm; have f5_ := f3_.symm; clear f1_ f2_ f3_; subst f4_; subst f5_))
                 refine hK.out _ _ ⟨(blk_cell BK606.out 0).trans rfl, (blk_cell BK606.out 1).trans rfl, (blk_cell BK606.out 2).trans rfl, ((HB.out.cell (World.block_lt_of_cell? w _ hw609_0)).trans hw609_0), ((HB.out.cell (World.block_lt_of_cell? w _ hw616_0)).trans hw616_0)⟩ (fun hHeld => ?_)
                 clear hK K
                 refine norm_ (a' := ?_) ?_ ?_
                 rotate_left
                 ·show Act.put _ (some 56) _ = _
                  simp only [Act.put, List.setIfInBounds_toArray, List.set_cons_zero, List.set_cons_succ, i64_w, i32_w]
                  rfl
                 refine one_ (i := 6) (N := some 57) ba7_1 rfl rfl (one_of HT_.out (zq43)) (by decide) (fun K hK => ?_)
                 refine Kd.R_append_rows_step (Kd.int .u64) (w0 := w) w.heap.size (by rfl) (.tmp 51) (.tmp 56) 24 35 (.int .u64 0) 8 rfl Try.underlying24 info35 rfl (by decide) (by omega) (.slice Ao29 x8_1.length co29) x8_1 y610 _ _ _ (fun k_ => some k_ ≠ (.slice Ao30 x9_1.length co30 : Value).ownBlock ∧ some k_ ≠ (v618 : Value).ownBlock ∧ some k_ ≠ (.slice Ao37 y610.length co37 : Value).ownBlock) (fun _ => False) rfl rfl ?aO ?aR (fun _ _ h => h) (fun _ h => h.elim) ?aF ?aB ?aS ?aL ?_
                 (case aR => repeat (first | exact (Kd.R_reads' HO612.out).2.2 | (with_reducible refine Kd.C_alloc ?_ _) | (with_reducible refine Kd.C_drewN ?_ _) | (with_reducible refine Kd.C_drew ?_)))
                 (case aB => exact (zq13))
                 (case aF => exact (fun k_ hk => ⟨Kd.fresh' (Kd.R_lt (zq36)) k_ hk, Kd.fresh' (Kd.R_lt (by (with_reducible repeat (first | apply Kd.R_alloc | apply Kd.R_drewN | apply Kd.R_drew)); exact HO619.out)) k_ hk, Kd.fresh' (Kd.R_lt (zq34)) k_ hk⟩))
                 (case aO => exact (by (with_reducible repeat (first | apply Kd.R_alloc | apply Kd.R_drewN | apply Kd.R_drew)); exact Kd.R_mono HO_8.out (fun _ hk => ⟨hk.1.1, ⟨hk.1.2, hk.2⟩⟩)))
                 (case aS => exact (below_size (zq13)))
                 (case aL => have := LMc18.out; omega)
                 intro v614 w36 ho hb hg hat
                 rw [← Ny613.out] at ho
                 have n0_ := Aside0.mk (Kd.R_after (ok := (fun k_ => some k_ ≠ (v618 : Value).ownBlock ∧ some k_ ≠ (.slice Ao37 y610.length co37 : Value).ownBlock)) (by (with_reducible repeat (first | apply Kd.R_alloc | apply Kd.R_drewN | apply Kd.R_drew)); exact Kd.R_mono HO_9.out (fun _ hk => ⟨⟨hk.1.2, hk.2⟩, hk.1.1⟩)) hg hat)
                 have n1_ := Aside0.mk (blk_grown (g := gb603) (o := .cells #[.int .i64 a0_0, .int .i64 a0_1, .int .i64 a0_2, .int .i64 a0_3, .int .i64 a0_4] 23 (0, 0)) (zq31) hg (Kd.R_ne HO_8.out BK603.out (by decide)))
                 have n2_ := Aside0.mk (blk_grown (g := gb606) (o := .cells #[.slice (some ad609) ((rd_T26 l1 x21_1).f0).length c605_0, .slice (some ad616) ((rd_T26 l1 x21_1).f1).length c605_1, .slice A605_2 ((rd_T26 l1 x21_1).f2).length c605_2] 26 (0, 0)) (zq32) hg (Kd.R_ne HO_8.out BK606.out (by decide)))
                 have n3_ := Aside0.mk (Kd.R_after (ok := (fun k_ => some k_ ≠ (.slice Ao30 x9_1.length co30 : Value).ownBlock ∧ some k_ ≠ (.slice Ao37 y610.length co37 : Value).ownBlock)) (by (with_reducible repeat (first | apply Kd.R_alloc | apply Kd.R_drewN | apply Kd.R_drew)); exact Kd.R_mono HO619.out (fun _ hk => ⟨⟨hk.1.2, hk.2⟩, hk.1.1.2⟩)) hg hat)
                 have n4_ := Aside0.mk (Kd.R_after (ok := (fun k_ => some k_ ≠ (.slice Ao30 x9_1.length co30 : Value).ownBlock ∧ some k_ ≠ (v618 : Value).ownBlock)) (by (with_reducible repeat (first | apply Kd.R_alloc | apply Kd.R_drewN | apply Kd.R_drew)); exact Kd.R_mono HO612.out (fun _ hk => ⟨⟨hk.1.2, hk.2⟩, hk.1.1.2⟩)) hg hat)
                 have n5_ := Aside0.mk (hb)
                 have n6_ := Aside0.mk (ho)
                 clear HO_9
                 clear BK603
                 clear BK606
                 clear HO619
                 clear HO612
                 clear HB
                 clear HO_8
                 have HO_9 := n0_
                 have BK603 := n1_
                 have BK606 := n2_
                 have HO619 := n3_
                 have HO612 := n4_
                 have HB := n5_
                 have HO615 := n6_
                 clear n0_ n1_ n2_ n3_ n4_ n5_ n6_
                 clear ho hb hg hat
                 refine hK.out _ _ ⟨(blk_cell BK606.out 0).trans rfl, (blk_cell BK606.out 1).trans rfl, (blk_cell BK606.out 2).trans rfl, ((HB.out.cell (World.block_lt_of_cell? w _ hw609_0)).trans hw609_0), ((HB.out.cell (World.block_lt_of_cell? w _ hw616_0)).trans hw616_0)⟩ (fun hHeld => ?_)
                 clear hK K
                 refine norm_ (a' := ?_) ?_ ?_
                 rotate_left
                 ·show Act.put _ (some 57) _ = _
                  simp only [Act.put, List.setIfInBounds_toArray, List.set_cons_zero, List.set_cons_succ, i64_w, i32_w]
                  rfl
                 exact norm_ (by simp only [putAll, Act.put, List.setIfInBounds_toArray, List.set_cons_zero, List.set_cons_succ]) (hCont (.slice Ao37 y610.length co37, v614, v618) _ ⟨hHeld, (by (with_reducible repeat (first | apply Kd.R_alloc | apply Kd.R_drewN | apply Kd.R_drew)); exact Kd.R_mono HO612.out (fun _ hk => ⟨hk.2, ⟨hk.1.2, hk.1.1⟩⟩)), (by (with_reducible repeat (first | apply Kd.R_alloc | apply Kd.R_drewN | apply Kd.R_drew)); exact Kd.R_mono HO615.out (fun _ hk => ⟨hk.2.2, ⟨hk.2.1, hk.1⟩⟩)), (by (with_reducible repeat (first | apply Kd.R_alloc | apply Kd.R_drewN | apply Kd.R_drew)); exact Kd.R_mono HO619.out (fun _ hk => ⟨hk.1.2, ⟨hk.2, hk.1.1⟩⟩)), (by (with_reducible repeat (first | apply Kd.R_alloc | apply Kd.R_drewN | apply Kd.R_drew)); exact Kd.R_mono HO_9.out (fun _ hk => ⟨hk.1.2, ⟨hk.2, hk.1.1⟩⟩)), (zq31), (zq32), (zq13)⟩)
               rintro ⟨v611, v614, v618⟩ w38 ⟨hS_, h0_, h1_, h2_, h3_, h4_, h5_, h6_⟩
               have n0_ : Aside0 (Kd.R (Kd.int .u64) 35 w38 w.heap.size (fun k_ => some k_ ≠ (v614 : Value).ownBlock ∧ some k_ ≠ (v618 : Value).ownBlock ∧ some k_ ≠ (.slice Ao30 x9_1.length co30 : Value).ownBlock) v611 y610) := ⟨h0_⟩
               have n1_ : Aside0 (Kd.R (Kd.int .u64) 35 w38 w.heap.size (fun k_ => some k_ ≠ (v611 : Value).ownBlock ∧ some k_ ≠ (v618 : Value).ownBlock ∧ some k_ ≠ (.slice Ao30 x9_1.length co30 : Value).ownBlock) v614 y613) := ⟨h1_⟩
               have n2_ : Aside0 (Kd.R (Kd.int .u64) 35 w38 w.heap.size (fun k_ => some k_ ≠ (v611 : Value).ownBlock ∧ some k_ ≠ (v614 : Value).ownBlock ∧ some k_ ≠ (.slice Ao30 x9_1.length co30 : Value).ownBlock) v618 y617) := ⟨h2_⟩
               have n3_ : Aside0 (Kd.R (Kd.int .u64) 35 w38 w.heap.size (fun k_ => some k_ ≠ (v611 : Value).ownBlock ∧ some k_ ≠ (v614 : Value).ownBlock ∧ some k_ ≠ (v618 : Value).ownBlock) (.slice Ao30 x9_1.length co30) x9_1) := ⟨h3_⟩
               have n4_ : Aside0 (w38.heap[gb603]? = some (.cells #[.int .i64 a0_0, .int .i64 a0_1, .int .i64 a0_2, .int .i64 a0_3, .int .i64 a0_4] 23 (0, 0))) := ⟨h4_⟩
               have n5_ : Aside0 (w38.heap[gb606]? = some (.cells #[.slice (some ad609) ((rd_T26 l1 x21_1).f0).length c605_0, .slice (some ad616) ((rd_T26 l1 x21_1).f1).length c605_1, .slice A605_2 ((rd_T26 l1 x21_1).f2).length c605_2] 26 (0, 0))) := ⟨h5_⟩
               have n6_ : Aside0 (Below w.heap.size w w38) := ⟨h6_⟩
               clear HO_8
               clear HO_9
               clear BK603
               clear BK606
               clear HB
               clear h0_ h1_ h2_ h3_ h4_ h5_ h6_
               have HO612 := n0_
               have HO615 := n1_
               have HO619 := n2_
               have HO_9 := n3_
               have BK603 := n4_
               have BK606 := n5_
               have HB := n6_
               clear n0_ n1_ n2_ n3_ n4_ n5_ n6_
               have hHeld : w38.cell? ⟨gb606, 0, none⟩ = some (.slice (some ad609) ((rd_T26 l1 x21_1).f0).length c605_0) ∧ w38.cell? ⟨gb606, 1, none⟩ = some (.slice (some ad616) ((rd_T26 l1 x21_1).f1).length c605_1) ∧ w38.cell? ⟨gb606, 2, none⟩ = some (.slice A605_2 ((rd_T26 l1 x21_1).f2).length c605_2) ∧ w38.cell? ad609 = some (.int .u64 (rd ((rd_T26 l1 x21_1).f0) 0)) ∧ w38.cell? ad616 = some (.int .u64 (rd ((rd_T26 l1 x21_1).f1) 0)) := hS_
               obtain ⟨Ao40, co40, eo40⟩ := Kd.R_slice HO619.out
               (first | subst eo40 | (injection eo40 with f1_ f2_ f3_; have f4_ := f1_.symm; have f5_ := f3_.symm; clear f1_ f2_ f3_; subst f4_; subst f5_))
               refine norm_ (a' := ?_) ?_ ?_
               rotate_left
               ·simp only [putAll, Act.put, List.setIfInBounds_toArray, List.set_cons_zero, List.set_cons_succ]
                rfl
               refine one_ (i := 13) (N := some 64) #[true, true, true, true, true, true, true, true, true, true, true, true, true, true, false, false] rfl rfl (one_of HT_.out (zq43)) (by decide) (fun K hK => ?_)
               refine Kd.R_append_rows_step (Kd.int .u64) (w0 := w) w.heap.size (by rfl) (.tmp 58) (.tmp 63) 24 35 (.int .u64 0) 8 rfl Try.underlying24 info35 rfl (by decide) (by omega) (.slice Ao30 x9_1.length co30) x9_1 y617 _ _ _ (fun k_ => some k_ ≠ (v611 : Value).ownBlock ∧ some k_ ≠ (v614 : Value).ownBlock ∧ some k_ ≠ (.slice Ao40 y617.length co40 : Value).ownBlock) (fun _ => False) rfl rfl ?aO ?aR (fun _ _ h => h) (fun _ h => h.elim) ?aF ?aB ?aS ?aL ?_
               (case aR => repeat (first | exact (Kd.R_reads' HO619.out).2.2 | (with_reducible refine Kd.C_alloc ?_ _) | (with_reducible refine Kd.C_drewN ?_ _) | (with_reducible refine Kd.C_drew ?_)))
               (case aB => exact (zq13))
               (case aF => exact (fun k_ hk => ⟨Kd.fresh' (Kd.R_lt (zq34)) k_ hk, Kd.fresh' (Kd.R_lt (by (with_reducible repeat (first | apply Kd.R_alloc | apply Kd.R_drewN | apply Kd.R_drew)); exact HO615.out)) k_ hk, Kd.fresh' (Kd.R_lt (by (with_reducible repeat (first | apply Kd.R_alloc | apply Kd.R_drewN | apply Kd.R_drew)); exact HO619.out)) k_ hk⟩))
               (case aO => exact (zq36))
               (case aS => exact (below_size (zq13)))
               (case aL => have := LMc20.out; omega)
               intro v621 w39 ho hb hg hat
               rw [← Ny620.out] at ho
               have n0_ := Aside0.mk (blk_grown (g := gb603) (o := .cells #[.int .i64 a0_0, .int .i64 a0_1, .int .i64 a0_2, .int .i64 a0_3, .int .i64 a0_4] 23 (0, 0)) (zq31) hg (Kd.R_ne HO_9.out BK603.out (by decide)))
               have n1_ := Aside0.mk (blk_grown (g := gb606) (o := .cells #[.slice (some ad609) ((rd_T26 l1 x21_1).f0).length c605_0, .slice (some ad616) ((rd_T26 l1 x21_1).f1).length c605_1, .slice A605_2 ((rd_T26 l1 x21_1).f2).length c605_2] 26 (0, 0)) (zq32) hg (Kd.R_ne HO_9.out BK606.out (by decide)))
               have n2_ := Aside0.mk (Kd.R_after (ok := (fun k_ => some k_ ≠ (v614 : Value).ownBlock ∧ some k_ ≠ (.slice Ao40 y617.length co40 : Value).ownBlock)) (by (with_reducible repeat (first | apply Kd.R_alloc | apply Kd.R_drewN | apply Kd.R_drew)); exact Kd.R_mono HO612.out (fun _ hk => ⟨⟨hk.1, hk.2.1⟩, hk.2.2⟩)) hg hat)
               have n3_ := Aside0.mk (Kd.R_after (ok := (fun k_ => some k_ ≠ (v611 : Value).ownBlock ∧ some k_ ≠ (.slice Ao40 y617.length co40 : Value).ownBlock)) (by (with_reducible repeat (first | apply Kd.R_alloc | apply Kd.R_drewN | apply Kd.R_drew)); exact Kd.R_mono HO615.out (fun _ hk => ⟨⟨hk.1, hk.2.1⟩, hk.2.2⟩)) hg hat)
               have n4_ := Aside0.mk (Kd.R_after (ok := (fun k_ => some k_ ≠ (v611 : Value).ownBlock ∧ some k_ ≠ (v614 : Value).ownBlock)) (by (with_reducible repeat (first | apply Kd.R_alloc | apply Kd.R_drewN | apply Kd.R_drew)); exact Kd.R_mono HO619.out (fun _ hk => ⟨⟨hk.1, hk.2.1⟩, hk.2.2⟩)) hg hat)
               have n5_ := Aside0.mk (hb)
               have n6_ := Aside0.mk (ho)
               clear BK603
               clear BK606
               clear HO612
               clear HO615
               clear HO619
               clear HB
               clear HO_9
               have BK603 := n0_
               have BK606 := n1_
               have HO612 := n2_
               have HO615 := n3_
               have HO619 := n4_
               have HB := n5_
               have HO622 := n6_
               clear n0_ n1_ n2_ n3_ n4_ n5_ n6_
               clear ho hb hg hat
               refine hK.out _ _ ⟨(blk_cell BK606.out 0).trans rfl, (blk_cell BK606.out 1).trans rfl, (blk_cell BK606.out 2).trans rfl, ((HB.out.cell (World.block_lt_of_cell? w _ hw609_0)).trans hw609_0), ((HB.out.cell (World.block_lt_of_cell? w _ hw616_0)).trans hw616_0)⟩ (fun hHeld => ?_)
               clear hK K
               refine norm_ (a' := ?_) ?_ ?_
               rotate_left
               ·show Act.put _ (some 64) _ = _
                simp only [Act.put, List.setIfInBounds_toArray, List.set_cons_zero, List.set_cons_succ, i64_w, i32_w]
                rfl
               refine pure_ (i := 14) (N := some 8) (v := ?_) (a' := ?_) #[true, true, true, true, true, true, true, true, true, true, true, true, true, true, true, false] rfl rfl (any_of HT_.out (zq43)) (fun _ _ _ h => h) (Or.inl ⟨by rfl, ?_⟩) ?_ ?_; rotate_left; exact zs0; rotate_left; exact zs1
               refine pure_ (i := 15) (N := some 9) (v := ?_) (a' := ?_) #[true, true, true, true, true, true, true, true, true, true, true, true, true, true, true, true] rfl rfl (any_of HT_.out (zq43)) (fun _ _ _ h => h) (Or.inl ⟨by rfl, ?_⟩) ?_ ?_; rotate_left; exact zs0; rotate_left; exact zs1
               refine done_ (done_of HT_.out (zq43)) ?_
               try go_wp2
               go_roundg k1
               case measure => have := HK1.out; omega
               case rel => exact ⟨(y613), (y620), (wrap64 (x21_1 + 1)), (zq40), H', ⟨by have := HK1.out; omega⟩, ⟨by (with_reducible repeat (first | apply Kd.R_alloc | apply Kd.R_drewN | apply Kd.R_drew)); exact Kd.R_mono HO615.out (fun _ hk => hk.2)⟩, ⟨by (with_reducible repeat (first | apply Kd.R_alloc | apply Kd.R_drewN | apply Kd.R_drew)); exact Kd.R_mono HO622.out (fun _ hk => hk.2.1)⟩, ⟨zq31⟩, ⟨zq13⟩⟩
              ·rw [if_neg c20] at H
               exact absurd H (by simp)
             ·rw [if_neg c19] at H
              exact absurd H (by simp)
            ·rw [if_neg c18] at H
             exact absurd H (by simp)
           ·rw [if_neg c17] at H
            exact absurd H (by simp)
          ·replace c16 := Bool.eq_false_iff.mpr c16
           subst c16
           have H1 : (some (([] : List Int), ([] : List Int), 11)) = some (r1, r2, r3) := by rw [if_neg (show ¬ (false = true) by decide)] at H; exact H
           clear H
           have H := H1
           clear H1
           simp only [Option.some.injEq, Prod.mk.injEq] at H
           obtain ⟨rfl, rfl, rfl⟩ := H
           have p605 : 0 ≤ (x21_1 : Int) := of_decide_eq_true (zq39)
           have q605 : x21_1 < (l1.length : Int) := of_decide_eq_true (zq39)
           obtain ⟨ad605, A605_0, c605_0, A605_1, c605_1, A605_2, c605_2, e605, hx605_0, hx605_1, hx605_2, hl605_0, hi605_0, hl605_1, hi605_1, hl605_2, hi605_2⟩ := at_T26 HR1.out x21_1 p605 q605
           cases e605
           replace hx605_0 := (HB.out.cell (World.block_lt_of_cell? w _ hx605_0)).trans hx605_0
           replace hx605_1 := (HB.out.cell (World.block_lt_of_cell? w _ hx605_1)).trans hx605_1
           replace hx605_2 := (HB.out.cell (World.block_lt_of_cell? w _ hx605_2)).trans hx605_2
           have HR605_0 := Aside0.mk hi605_0
           have HC605_0 := Aside0.mk hl605_0
           clear hi605_0 hl605_0
           have HR605_1 := Aside0.mk hi605_1
           have HC605_1 := Aside0.mk hl605_1
           clear hi605_1 hl605_1
           have HR605_2 := Aside0.mk hi605_2
           have HC605_2 := Aside0.mk hl605_2
           clear hi605_2 hl605_2
           replace p605 := eq_true p605
           replace q605 := eq_true q605
           go_wp2_with (first | ((with_reducible refine gate_dst (N := 11) rfl ?_); (try (refine gate_guard (by rfl) ?_; dsimp only)); refine box_event ?hg (N := 11) ?hd (cs := #[.slice none 0 0, .slice none 0 0, .slice none 0 0]) (t := 26) ?hr ?_; (case hd => rfl); (case hg => rfl); (case hr => first | (go_simp; done) | (go_simp; rfl)); intro gb606 hg w41 hbox hb; have n0_ := Aside0.mk (Kd.R_below (zq35) hb); have n1_ := Aside0.mk (Kd.R_below (zq36) hb); have n2_ := Aside0.mk (blk_below (g := gb603) (o := .cells #[.int .i64 a0_0, .int .i64 a0_1, .int .i64 a0_2, .int .i64 a0_3, .int .i64 a0_4] 23 (0, 0)) (zq31) hb); have n3_ := Aside0.mk (below_step (zq21) hb); have n4_ := Aside0.mk (hbox); have n5_ := Aside0.mk ((zq9 : w.heap.size ≤ gb606)); have n6_ := Aside0.mk ((zq9 : w.heap.size ≤ gb606)); have n7_ := Aside0.mk ((zq5 : gb603 ≠ gb606)); have n8_ := Aside0.mk ((zq6 : gb606 ≠ gb603)); clear HO_8; clear HO_9; clear BK603; clear HB; have HO_8 := n0_; have HO_9 := n1_; have BK603 := n2_; have HB := n3_; have BK606 := n4_; have GW606 := n5_; have GE606 := n6_; have NB603_606 := n7_; have NB606_603 := n8_; clear n0_ n1_ n2_ n3_ n4_ n5_ n6_ n7_ n8_; clear hb hbox hg; have hnb42 := NB606_603.out; have hnc42 := NB603_606.out; have hcz43_0 : w41.cell? ⟨gb606, 0, none⟩ = some (.slice none 0 0) := (blk_cell BK606.out 0).trans rfl; have hcz43_1 : w41.cell? ⟨gb606, 1, none⟩ = some (.slice none 0 0) := (blk_cell BK606.out 1).trans rfl; have hcz43_2 : w41.cell? ⟨gb606, 2, none⟩ = some (.slice none 0 0) := (blk_cell BK606.out 2).trans rfl; have hfz43_0 := blk_frozen BK606.out 0; have hfz43_1 := blk_frozen BK606.out 1; have hfz43_2 := blk_frozen BK606.out 2; have hcz44_0 : w41.cell? ⟨gb603, 0, none⟩ = some (.int .i64 a0_0) := (blk_cell BK603.out 0).trans rfl; have hcz44_1 : w41.cell? ⟨gb603, 1, none⟩ = some (.int .i64 a0_1) := (blk_cell BK603.out 1).trans rfl; have hcz44_2 : w41.cell? ⟨gb603, 2, none⟩ = some (.int .i64 a0_2) := (blk_cell BK603.out 2).trans rfl; have hcz44_3 : w41.cell? ⟨gb603, 3, none⟩ = some (.int .i64 a0_3) := (blk_cell BK603.out 3).trans rfl; have hcz44_4 : w41.cell? ⟨gb603, 4, none⟩ = some (.int .i64 a0_4) := (blk_cell BK603.out 4).trans rfl; have hfz44_0 := blk_frozen BK603.out 0; have hfz44_1 := blk_frozen BK603.out 1; have hfz44_2 := blk_frozen BK603.out 2; have hfz44_3 := blk_frozen BK603.out 3; have hfz44_4 := blk_frozen BK603.out 4) | (go_at_call 65; (with_reducible refine (ring_Fits.calls a0_1 _ _ ((rd_T26 l1 x21_1).f0) true _ ?side1 ?side2 A13.out).mono ?_); (case side1 => exact Kd.C_below HR605_0.out (zq13)); (case side2 => exact HC605_0.out); rintro e w45 ⟨rfl, hb⟩; have n0_ := Aside0.mk (Kd.R_below (zq2) hb); have n1_ := Aside0.mk (Kd.R_below (zq3) hb); have n2_ := Aside0.mk (blk_below (g := gb603) (o := .cells #[.int .i64 a0_0, .int .i64 a0_1, .int .i64 a0_2, .int .i64 a0_3, .int .i64 a0_4] 23 (0, 0)) (zq1) hb); have n3_ := Aside0.mk (blk_below (g := gb606) (o := .cells #[.slice A605_0 ((rd_T26 l1 x21_1).f0).length c605_0, .slice A605_1 ((rd_T26 l1 x21_1).f1).length c605_1, .slice A605_2 ((rd_T26 l1 x21_1).f2).length c605_2] 26 (0, 0)) (zq0) hb); have n4_ := Aside0.mk (below_step (zq13) hb); clear HO_8; clear HO_9; clear BK603; clear BK606; clear HB; have HO_8 := n0_; have HO_9 := n1_; have BK603 := n2_; have BK606 := n3_; have HB := n4_; clear n0_ n1_ n2_ n3_ n4_; (try clear hb); (try clear hb2); (try clear hk); (try clear hi); have hcz46_0 : w45.cell? ⟨gb603, 0, none⟩ = some (.int .i64 a0_0) := (blk_cell BK603.out 0).trans rfl; have hcz46_1 : w45.cell? ⟨gb603, 1, none⟩ = some (.int .i64 a0_1) := (blk_cell BK603.out 1).trans rfl; have hcz46_2 : w45.cell? ⟨gb603, 2, none⟩ = some (.int .i64 a0_2) := (blk_cell BK603.out 2).trans rfl; have hcz46_3 : w45.cell? ⟨gb603, 3, none⟩ = some (.int .i64 a0_3) := (blk_cell BK603.out 3).trans rfl; have hcz46_4 : w45.cell? ⟨gb603, 4, none⟩ = some (.int .i64 a0_4) := (blk_cell BK603.out 4).trans rfl; have hfz46_0 := blk_frozen BK603.out 0; have hfz46_1 := blk_frozen BK603.out 1; have hfz46_2 := blk_frozen BK603.out 2; have hfz46_3 := blk_frozen BK603.out 3; have hfz46_4 := blk_frozen BK603.out 4; have hcz47_0 : w45.cell? ⟨gb606, 0, none⟩ = some (.slice A605_0 ((rd_T26 l1 x21_1).f0).length c605_0) := (blk_cell BK606.out 0).trans rfl; have hcz47_1 : w45.cell? ⟨gb606, 1, none⟩ = some (.slice A605_1 ((rd_T26 l1 x21_1).f1).length c605_1) := (blk_cell BK606.out 1).trans rfl; have hcz47_2 : w45.cell? ⟨gb606, 2, none⟩ = some (.slice A605_2 ((rd_T26 l1 x21_1).f2).length c605_2) := (blk_cell BK606.out 2).trans rfl; have hfz47_0 := blk_frozen BK606.out 0; have hfz47_1 := blk_frozen BK606.out 1; have hfz47_2 := blk_frozen BK606.out 2) | (go_at_call 65; (with_reducible refine (ring_Fits.calls a0_1 _ _ ((rd_T26 l1 x21_1).f1) false _ ?side1 ?side2 A15.out).mono ?_); (case side1 => repeat (first | exact (Kd.C_below HR605_1.out HB.out) | (with_reducible refine Kd.C_alloc ?_ _) | (with_reducible refine Kd.C_drewN ?_ _) | (with_reducible refine Kd.C_drew ?_))); (case side2 => exact HC605_1.out); rintro e w48 ⟨rfl, hb⟩; have n0_ := Aside0.mk (Kd.R_below (zq35) hb); have n1_ := Aside0.mk (Kd.R_below (zq36) hb); have n2_ := Aside0.mk (blk_below (g := gb603) (o := .cells #[.int .i64 a0_0, .int .i64 a0_1, .int .i64 a0_2, .int .i64 a0_3, .int .i64 a0_4] 23 (0, 0)) (zq31) hb); have n3_ := Aside0.mk (blk_below (g := gb606) (o := .cells #[.slice A605_0 ((rd_T26 l1 x21_1).f0).length c605_0, .slice A605_1 ((rd_T26 l1 x21_1).f1).length c605_1, .slice A605_2 ((rd_T26 l1 x21_1).f2).length c605_2] 26 (0, 0)) (zq32) hb); have n4_ := Aside0.mk (below_step (zq13) hb); clear HO_8; clear HO_9; clear BK603; clear BK606; clear HB; have HO_8 := n0_; have HO_9 := n1_; have BK603 := n2_; have BK606 := n3_; have HB := n4_; clear n0_ n1_ n2_ n3_ n4_; (try clear hb); (try clear hb2); (try clear hk); (try clear hi)))
           go_ret3
           exact ⟨_, _, zq37, zq25, zq25, zq13⟩
         ·replace c14 := Bool.eq_false_iff.mpr c14
          subst c14
          have H1 : (some (([] : List Int), ([] : List Int), 11)) = some (r1, r2, r3) := by rw [if_neg (show ¬ (false = true) by decide)] at H; exact H
          clear H
          have H := H1
          clear H1
          simp only [Option.some.injEq, Prod.mk.injEq] at H
          obtain ⟨rfl, rfl, rfl⟩ := H
          have p605 : 0 ≤ (x21_1 : Int) := of_decide_eq_true (zq39)
          have q605 : x21_1 < (l1.length : Int) := of_decide_eq_true (zq39)
          obtain ⟨ad605, A605_0, c605_0, A605_1, c605_1, A605_2, c605_2, e605, hx605_0, hx605_1, hx605_2, hl605_0, hi605_0, hl605_1, hi605_1, hl605_2, hi605_2⟩ := at_T26 HR1.out x21_1 p605 q605
          cases e605
          replace hx605_0 := (HB.out.cell (World.block_lt_of_cell? w _ hx605_0)).trans hx605_0
          replace hx605_1 := (HB.out.cell (World.block_lt_of_cell? w _ hx605_1)).trans hx605_1
          replace hx605_2 := (HB.out.cell (World.block_lt_of_cell? w _ hx605_2)).trans hx605_2
          have HR605_0 := Aside0.mk hi605_0
          have HC605_0 := Aside0.mk hl605_0
          clear hi605_0 hl605_0
          have HR605_1 := Aside0.mk hi605_1
          have HC605_1 := Aside0.mk hl605_1
          clear hi605_1 hl605_1
          have HR605_2 := Aside0.mk hi605_2
          have HC605_2 := Aside0.mk hl605_2
          clear hi605_2 hl605_2
          replace p605 := eq_true p605
          replace q605 := eq_true q605
          go_wp2_with (first | ((with_reducible refine gate_dst (N := 11) rfl ?_); (try (refine gate_guard (by rfl) ?_; dsimp only)); refine box_event ?hg (N := 11) ?hd (cs := #[.slice none 0 0, .slice none 0 0, .slice none 0 0]) (t := 26) ?hr ?_; (case hd => rfl); (case hg => rfl); (case hr => first | (go_simp; done) | (go_simp; rfl)); intro gb606 hg w49 hbox hb; have n0_ := Aside0.mk (Kd.R_below (zq35) hb); have n1_ := Aside0.mk (Kd.R_below (zq36) hb); have n2_ := Aside0.mk (blk_below (g := gb603) (o := .cells #[.int .i64 a0_0, .int .i64 a0_1, .int .i64 a0_2, .int .i64 a0_3, .int .i64 a0_4] 23 (0, 0)) (zq31) hb); have n3_ := Aside0.mk (below_step (zq21) hb); have n4_ := Aside0.mk (hbox); have n5_ := Aside0.mk ((zq9 : w.heap.size ≤ gb606)); have n6_ := Aside0.mk ((zq9 : w.heap.size ≤ gb606)); have n7_ := Aside0.mk ((zq5 : gb603 ≠ gb606)); have n8_ := Aside0.mk ((zq6 : gb606 ≠ gb603)); clear HO_8; clear HO_9; clear BK603; clear HB; have HO_8 := n0_; have HO_9 := n1_; have BK603 := n2_; have HB := n3_; have BK606 := n4_; have GW606 := n5_; have GE606 := n6_; have NB603_606 := n7_; have NB606_603 := n8_; clear n0_ n1_ n2_ n3_ n4_ n5_ n6_ n7_ n8_; clear hb hbox hg; have hnb50 := NB606_603.out; have hnc50 := NB603_606.out; have hcz51_0 : w49.cell? ⟨gb606, 0, none⟩ = some (.slice none 0 0) := (blk_cell BK606.out 0).trans rfl; have hcz51_1 : w49.cell? ⟨gb606, 1, none⟩ = some (.slice none 0 0) := (blk_cell BK606.out 1).trans rfl; have hcz51_2 : w49.cell? ⟨gb606, 2, none⟩ = some (.slice none 0 0) := (blk_cell BK606.out 2).trans rfl; have hfz51_0 := blk_frozen BK606.out 0; have hfz51_1 := blk_frozen BK606.out 1; have hfz51_2 := blk_frozen BK606.out 2; have hcz52_0 : w49.cell? ⟨gb603, 0, none⟩ = some (.int .i64 a0_0) := (blk_cell BK603.out 0).trans rfl; have hcz52_1 : w49.cell? ⟨gb603, 1, none⟩ = some (.int .i64 a0_1) := (blk_cell BK603.out 1).trans rfl; have hcz52_2 : w49.cell? ⟨gb603, 2, none⟩ = some (.int .i64 a0_2) := (blk_cell BK603.out 2).trans rfl; have hcz52_3 : w49.cell? ⟨gb603, 3, none⟩ = some (.int .i64 a0_3) := (blk_cell BK603.out 3).trans rfl; have hcz52_4 : w49.cell? ⟨gb603, 4, none⟩ = some (.int .i64 a0_4) := (blk_cell BK603.out 4).trans rfl; have hfz52_0 := blk_frozen BK603.out 0; have hfz52_1 := blk_frozen BK603.out 1; have hfz52_2 := blk_frozen BK603.out 2; have hfz52_3 := blk_frozen BK603.out 3; have hfz52_4 := blk_frozen BK603.out 4) | (go_at_call 65; (with_reducible refine (ring_Fits.calls a0_1 _ _ ((rd_T26 l1 x21_1).f0) false _ ?side1 ?side2 A13.out).mono ?_); (case side1 => exact Kd.C_below HR605_0.out (zq13)); (case side2 => exact HC605_0.out); rintro e w53 ⟨rfl, hb⟩; have n0_ := Aside0.mk (Kd.R_below (zq2) hb); have n1_ := Aside0.mk (Kd.R_below (zq3) hb); have n2_ := Aside0.mk (blk_below (g := gb603) (o := .cells #[.int .i64 a0_0, .int .i64 a0_1, .int .i64 a0_2, .int .i64 a0_3, .int .i64 a0_4] 23 (0, 0)) (zq1) hb); have n3_ := Aside0.mk (blk_below (g := gb606) (o := .cells #[.slice A605_0 ((rd_T26 l1 x21_1).f0).length c605_0, .slice A605_1 ((rd_T26 l1 x21_1).f1).length c605_1, .slice A605_2 ((rd_T26 l1 x21_1).f2).length c605_2] 26 (0, 0)) (zq0) hb); have n4_ := Aside0.mk (below_step (zq13) hb); clear HO_8; clear HO_9; clear BK603; clear BK606; clear HB; have HO_8 := n0_; have HO_9 := n1_; have BK603 := n2_; have BK606 := n3_; have HB := n4_; clear n0_ n1_ n2_ n3_ n4_; (try clear hb); (try clear hb2); (try clear hk); (try clear hi)))
          go_ret3
          exact ⟨_, _, zq37, zq25, zq25, zq13⟩
        ·rw [if_neg c12] at H
         have c12b0 : ((((rd_T26 l1 x21_1).f1).length : Int) == 1) = false := beq_eq_false_iff_ne.mpr c12
         have c12b1 : ((((rd_T26 l1 x21_1).f1).length : Int) != 1) = true := bne_iff_ne.mpr c12
         simp only [Option.some.injEq, Prod.mk.injEq] at H
         obtain ⟨rfl, rfl, rfl⟩ := H
         have p605 : 0 ≤ (x21_1 : Int) := of_decide_eq_true (zq39)
         have q605 : x21_1 < (l1.length : Int) := of_decide_eq_true (zq39)
         obtain ⟨ad605, A605_0, c605_0, A605_1, c605_1, A605_2, c605_2, e605, hx605_0, hx605_1, hx605_2, hl605_0, hi605_0, hl605_1, hi605_1, hl605_2, hi605_2⟩ := at_T26 HR1.out x21_1 p605 q605
         cases e605
         replace hx605_0 := (HB.out.cell (World.block_lt_of_cell? w _ hx605_0)).trans hx605_0
         replace hx605_1 := (HB.out.cell (World.block_lt_of_cell? w _ hx605_1)).trans hx605_1
         replace hx605_2 := (HB.out.cell (World.block_lt_of_cell? w _ hx605_2)).trans hx605_2
         have HR605_0 := Aside0.mk hi605_0
         have HC605_0 := Aside0.mk hl605_0
         clear hi605_0 hl605_0
         have HR605_1 := Aside0.mk hi605_1
         have HC605_1 := Aside0.mk hl605_1
         clear hi605_1 hl605_1
         have HR605_2 := Aside0.mk hi605_2
         have HC605_2 := Aside0.mk hl605_2
         clear hi605_2 hl605_2
         replace p605 := eq_true p605
         replace q605 := eq_true q605
         go_wp2_with (first | ((with_reducible refine gate_dst (N := 11) rfl ?_); (try (refine gate_guard (by rfl) ?_; dsimp only)); refine box_event ?hg (N := 11) ?hd (cs := #[.slice none 0 0, .slice none 0 0, .slice none 0 0]) (t := 26) ?hr ?_; (case hd => rfl); (case hg => rfl); (case hr => first | (go_simp; done) | (go_simp; rfl)); intro gb606 hg w54 hbox hb; have n0_ := Aside0.mk (Kd.R_below (zq35) hb); have n1_ := Aside0.mk (Kd.R_below (zq36) hb); have n2_ := Aside0.mk (blk_below (g := gb603) (o := .cells #[.int .i64 a0_0, .int .i64 a0_1, .int .i64 a0_2, .int .i64 a0_3, .int .i64 a0_4] 23 (0, 0)) (zq31) hb); have n3_ := Aside0.mk (below_step (zq21) hb); have n4_ := Aside0.mk (hbox); have n5_ := Aside0.mk ((zq9 : w.heap.size ≤ gb606)); have n6_ := Aside0.mk ((zq9 : w.heap.size ≤ gb606)); have n7_ := Aside0.mk ((zq5 : gb603 ≠ gb606)); have n8_ := Aside0.mk ((zq6 : gb606 ≠ gb603)); clear HO_8; clear HO_9; clear BK603; clear HB; have HO_8 := n0_; have HO_9 := n1_; have BK603 := n2_; have HB := n3_; have BK606 := n4_; have GW606 := n5_; have GE606 := n6_; have NB603_606 := n7_; have NB606_603 := n8_; clear n0_ n1_ n2_ n3_ n4_ n5_ n6_ n7_ n8_; clear hb hbox hg; have hnb55 := NB606_603.out; have hnc55 := NB603_606.out; have hcz56_0 : w54.cell? ⟨gb606, 0, none⟩ = some (.slice none 0 0) := (blk_cell BK606.out 0).trans rfl; have hcz56_1 : w54.cell? ⟨gb606, 1, none⟩ = some (.slice none 0 0) := (blk_cell BK606.out 1).trans rfl; have hcz56_2 : w54.cell? ⟨gb606, 2, none⟩ = some (.slice none 0 0) := (blk_cell BK606.out 2).trans rfl; have hfz56_0 := blk_frozen BK606.out 0; have hfz56_1 := blk_frozen BK606.out 1; have hfz56_2 := blk_frozen BK606.out 2))
         go_ret3
         exact ⟨_, _, zq37, zq25, zq25, zq13⟩
       ·rw [if_neg c11] at H
        have c11b0 : ((((rd_T26 l1 x21_1).f0).length : Int) == 1) = false := beq_eq_false_iff_ne.mpr c11
        have c11b1 : ((((rd_T26 l1 x21_1).f0).length : Int) != 1) = true := bne_iff_ne.mpr c11
        simp only [Option.some.injEq, Prod.mk.injEq] at H
        obtain ⟨rfl, rfl, rfl⟩ := H
        have p605 : 0 ≤ (x21_1 : Int) := of_decide_eq_true (zq39)
        have q605 : x21_1 < (l1.length : Int) := of_decide_eq_true (zq39)
        obtain ⟨ad605, A605_0, c605_0, A605_1, c605_1, A605_2, c605_2, e605, hx605_0, hx605_1, hx605_2, hl605_0, hi605_0, hl605_1, hi605_1, hl605_2, hi605_2⟩ := at_T26 HR1.out x21_1 p605 q605
        cases e605
        replace hx605_0 := (HB.out.cell (World.block_lt_of_cell? w _ hx605_0)).trans hx605_0
        replace hx605_1 := (HB.out.cell (World.block_lt_of_cell? w _ hx605_1)).trans hx605_1
        replace hx605_2 := (HB.out.cell (World.block_lt_of_cell? w _ hx605_2)).trans hx605_2
        have HR605_0 := Aside0.mk hi605_0
        have HC605_0 := Aside0.mk hl605_0
        clear hi605_0 hl605_0
        have HR605_1 := Aside0.mk hi605_1
        have HC605_1 := Aside0.mk hl605_1
        clear hi605_1 hl605_1
        have HR605_2 := Aside0.mk hi605_2
        have HC605_2 := Aside0.mk hl605_2
        clear hi605_2 hl605_2
        replace p605 := eq_true p605
        replace q605 := eq_true q605
        go_wp2_with (first | ((with_reducible refine gate_dst (N := 11) rfl ?_); (try (refine gate_guard (by rfl) ?_; dsimp only)); refine box_event ?hg (N := 11) ?hd (cs := #[.slice none 0 0, .slice none 0 0, .slice none 0 0]) (t := 26) ?hr ?_; (case hd => rfl); (case hg => rfl); (case hr => first | (go_simp; done) | (go_simp; rfl)); intro gb606 hg w57 hbox hb; have n0_ := Aside0.mk (Kd.R_below (zq35) hb); have n1_ := Aside0.mk (Kd.R_below (zq36) hb); have n2_ := Aside0.mk (blk_below (g := gb603) (o := .cells #[.int .i64 a0_0, .int .i64 a0_1, .int .i64 a0_2, .int .i64 a0_3, .int .i64 a0_4] 23 (0, 0)) (zq31) hb); have n3_ := Aside0.mk (below_step (zq21) hb); have n4_ := Aside0.mk (hbox); have n5_ := Aside0.mk ((zq9 : w.heap.size ≤ gb606)); have n6_ := Aside0.mk ((zq9 : w.heap.size ≤ gb606)); have n7_ := Aside0.mk ((zq5 : gb603 ≠ gb606)); have n8_ := Aside0.mk ((zq6 : gb606 ≠ gb603)); clear HO_8; clear HO_9; clear BK603; clear HB; have HO_8 := n0_; have HO_9 := n1_; have BK603 := n2_; have HB := n3_; have BK606 := n4_; have GW606 := n5_; have GE606 := n6_; have NB603_606 := n7_; have NB606_603 := n8_; clear n0_ n1_ n2_ n3_ n4_ n5_ n6_ n7_ n8_; clear hb hbox hg; have hnb58 := NB606_603.out; have hnc58 := NB603_606.out; have hcz59_0 : w57.cell? ⟨gb606, 0, none⟩ = some (.slice none 0 0) := (blk_cell BK606.out 0).trans rfl; have hcz59_1 : w57.cell? ⟨gb606, 1, none⟩ = some (.slice none 0 0) := (blk_cell BK606.out 1).trans rfl; have hcz59_2 : w57.cell? ⟨gb606, 2, none⟩ = some (.slice none 0 0) := (blk_cell BK606.out 2).trans rfl; have hfz59_0 := blk_frozen BK606.out 0; have hfz59_1 := blk_frozen BK606.out 1; have hfz59_2 := blk_frozen BK606.out 2))
        go_ret3
        exact ⟨_, _, zq37, zq25, zq25, zq13⟩
      ·rw [if_neg c10] at H
       exact absurd H (by simp)
     ·rw [if_neg c9] at H
      exact absurd H (by simp)
    ·rw [if_neg c8] at H
     have c8b0 : decide (x21_1 < (l1.length : Int)) = false := decide_eq_false c8
     clear c8
     simp only [Option.some.injEq, Prod.mk.injEq] at H
     obtain ⟨rfl, rfl, rfl⟩ := H
     go_wp2
     go_ret3
     exact ⟨_, _, zq37, zq35, zq36, zq21⟩
 ·rw [if_neg c4] at H
  have c4b0 : (t604 == 0) = false := beq_eq_false_iff_ne.mpr c4
  have c4b1 : (t604 != 0) = true := bne_iff_ne.mpr c4
  simp only [Option.some.injEq, Prod.mk.injEq] at H
  obtain ⟨rfl, rfl, rfl⟩ := H
  go_enter Try.func70, Try.ntmps70
  go_wp2_with (first | ((with_reducible refine gate_dst (N := 2) rfl ?_); (try (refine gate_guard (by rfl) ?_; dsimp only)); refine box_event ?hg (N := 2) ?hd (cs := #[.int .i64 a0_0, .int .i64 a0_1, .int .i64 a0_2, .int .i64 a0_3, .int .i64 a0_4]) (t := 23) ?hr ?_; (case hd => rfl); (case hg => rfl); (case hr => first | (go_simp; done) | (go_simp; rfl)); intro gb603 hg w60 hbox hb; have n0_ := Aside0.mk (below_step (by repeat (first | (with_reducible first | exact HB.out | apply below_alloc | apply pw_below_drewN | apply below_drew1) | exact HB.out)) hb); have n1_ := Aside0.mk (hbox); have n2_ := Aside0.mk ((zq14 : w.heap.size ≤ gb603)); have n3_ := Aside0.mk ((zq14 : w.heap.size ≤ gb603)); clear HB; have HB := n0_; have BK603 := n1_; have GW603 := n2_; have GE603 := n3_; clear n0_ n1_ n2_ n3_; clear hb hbox hg; have hcz61_0 : w60.cell? ⟨gb603, 0, none⟩ = some (.int .i64 a0_0) := (blk_cell BK603.out 0).trans rfl; have hcz61_1 : w60.cell? ⟨gb603, 1, none⟩ = some (.int .i64 a0_1) := (blk_cell BK603.out 1).trans rfl; have hcz61_2 : w60.cell? ⟨gb603, 2, none⟩ = some (.int .i64 a0_2) := (blk_cell BK603.out 2).trans rfl; have hcz61_3 : w60.cell? ⟨gb603, 3, none⟩ = some (.int .i64 a0_3) := (blk_cell BK603.out 3).trans rfl; have hcz61_4 : w60.cell? ⟨gb603, 4, none⟩ = some (.int .i64 a0_4) := (blk_cell BK603.out 4).trans rfl; have hfz61_0 := blk_frozen BK603.out 0; have hfz61_1 := blk_frozen BK603.out 1; have hfz61_2 := blk_frozen BK603.out 2; have hfz61_3 := blk_frozen BK603.out 3; have hfz61_4 := blk_frozen BK603.out 4) | ((with_reducible refine gate_callee (f := 104) rfl ?_); refine goesL_ (some 15) rfl rfl Try.func104 (zq43) rfl #[.agg #[.int .i64 a0_0, .int .i64 a0_1, .int .i64 a0_2, .int .i64 a0_3, .int .i64 a0_4], .int .i64 (l1.length : Int)] rfl (zq26) ?_; (with_reducible refine (scalar_check.calls k a0_0 a0_1 a0_2 a0_3 a0_4 (l1.length : Int) t604 _ A3.out).mono ?_); rintro e w62 ⟨rfl, hb⟩; refine ⟨_, rfl, ?_⟩; have n0_ := Aside0.mk (blk_below (g := gb603) (o := .cells #[.int .i64 a0_0, .int .i64 a0_1, .int .i64 a0_2, .int .i64 a0_3, .int .i64 a0_4] 23 (0, 0)) (zq31) hb); have n1_ := Aside0.mk (below_step (zq21) hb); clear BK603; clear HB; have BK603 := n0_; have HB := n1_; clear n0_ n1_; (try clear hb); (try clear hb2); (try clear hk); (try clear hi)))
  go_ret3
  exact ⟨_, _, zq37, zq25, zq25, zq21⟩
end Go.Proofs.Ytcmaidpoolcelaa.P
