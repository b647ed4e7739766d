/- Functions of the program as plain Lean functions, and proofs that the machine's calls do what these do: written by a program of this workplace (wip/tools/pp.py). -/
import Derived.Test.YtcmaidpoolcelaaMfPx0
import Derived.Test.YtcmaidpoolcelaaMfK0
import Derived.Test.YtcmaidpoolcelaaMfK1
import Derived.Test.YtcmaidpoolcelaaMfK2
import Derived.Test.YtcmaidpoolcelaaMfK3
import Derived.Test.YtcmaidpoolcelaaMfK7
import Derived.Test.YtcmaidpoolcelaaMfK8
import Derived.Test.YtcmaidpoolcelaaMfK9
import Derived.Test.YtcmaidpoolcelaaMfSh
namespace Go.Proofs.Ytcmaidpoolcelaa.P
open Go.RowKit Go.Proofs.YtcmaidpoolcelaaW.PrintWords Go.Proofs.YtcmaidpoolcelaaW.PrintLast Go.Proofs.YtcmaidpoolcelaaW.PrintMore
attribute [local go_sem] max2_int min2_int max_two min_two max_three min_three max_four min_four   -- for this text's walks alone
set_option linter.unusedVariables false
set_option linter.unusedSimpArgs false

abbrev ba10_0 : Array Bool := #[false, false, false, false, false, false, false, false, false, false, false, false, false, false, false, false]
abbrev ba10_1 : Array Bool := #[true, false, false, false, false, false, false, false, false, false, false, false, false, false, false, false]
abbrev ba10_2 : Array Bool := #[true, true, true, true, true, true, true, true, true, true, true, true, false, false, false, false]
abbrev ba10_3 : Array Bool := #[true, true, true, true, true, true, true, true, true, true, true, true, true, false, false, false]
abbrev ba10_4 : Array Bool := #[true, true, true, true, true, true, true, true, true, true, true, true, true, true, false, false]
abbrev ba10_5 : Array Bool := #[true, true, true, true, true, true, true, true, true, true, true, true, true, true, true, false]
abbrev ba10_6 : Array Bool := #[true, true, true, true, true, true, true, true, true, true, true, true, true, true, true, true]

/-! ### trefoilref22_Finish: function 39 -/
mutual
def trefoilref22_Finish.j0 : Nat → List (S26) → Int → Int → Int → List Int → List Int → Bool → Int → Int → Int → Int → Int → Option ((List (S26)) × Int)
 | 0, _, _, _, _, _, _, _, _, _, _, _, _ => none
 | k + 1, x2, x12, x13, x14, x15, x17, x80, x705000, x705001, x705002, x705003, x705004 => if x80 = true then (some (([] : List (S26)), 11)) else (trefoilref22_Finish.l0 k x2 x12 x13 x14 x15 x17 ([] : List (S26)) 0 x705000 x705001 x705002 x705003 x705004)
def trefoilref22_Finish.l0 : Nat → List (S26) → Int → Int → Int → List Int → List Int → List (S26) → Int → Int → Int → Int → Int → Int → Option ((List (S26)) × Int)
 | 0, _, _, _, _, _, _, _, _, _, _, _, _, _ => none
 | k + 1, x2, x12, x13, x14, x15, x17, x18, x19, x705000, x705001, x705002, x705003, x705004 => if x19 < (x2.length : Int) then (trefoilref22_Finish.l1 k x2 x12 x13 x14 x15 x17 x18 x19 ([] : List Int) 0 x705000 x705001 x705002 x705003 x705004) else (some (x18, 0))
def trefoilref22_Finish.l1 : Nat → List (S26) → Int → Int → Int → List Int → List Int → List (S26) → Int → List Int → Int → Int → Int → Int → Int → Int → Option ((List (S26)) × Int)
 | 0, _, _, _, _, _, _, _, _, _, _, _, _, _, _, _ => none
 | k + 1, x2, x12, x13, x14, x15, x17, x18, x19, x20, x21, x705000, x705001, x705002, x705003, x705004 => if x21 < x12 then (trefoilref22_Finish.l2 k x2 x12 x13 x14 x15 x17 x18 x19 x20 x21 0 x705000 x705001 x705002 x705003 x705004) else (if 0 ≤ x19 then (if x19 < (x2.length : Int) then (if x18.length < 1954687338268 then (trefoilref22_Finish.l0 k x2 x12 x13 x14 x15 x17 (x18 ++ [(⟨(rd_T26 x2 x19).f0, (rd_T26 x2 x19).f1, x20⟩ : S26)]) (wrap64 (x19 + 1)) x705000 x705001 x705002 x705003 x705004) else (none)) else (none)) else (none))
def trefoilref22_Finish.l2 : Nat → List (S26) → Int → Int → Int → List Int → List Int → List (S26) → Int → List Int → Int → Int → Int → Int → Int → Int → Int → Option ((List (S26)) × Int)
 | 0, _, _, _, _, _, _, _, _, _, _, _, _, _, _, _, _ => none
 | k + 1, x2, x12, x13, x14, x15, x17, x18, x19, x20, x21, x22, x705000, x705001, x705002, x705003, x705004 => if x22 < x14 then (trefoilref22_Finish.l3 k x2 x12 x13 x14 x15 x17 x18 x19 x20 x21 x22 0 0 x705000 x705001 x705002 x705003 x705004) else (trefoilref22_Finish.l1 k x2 x12 x13 x14 x15 x17 x18 x19 x20 (wrap64 (x21 + 1)) x705000 x705001 x705002 x705003 x705004)
def trefoilref22_Finish.l3 : Nat → List (S26) → Int → Int → Int → List Int → List Int → List (S26) → Int → List Int → Int → Int → Int → Int → Int → Int → Int → Int → Int → Option ((List (S26)) × Int)
 | 0, _, _, _, _, _, _, _, _, _, _, _, _, _, _, _, _, _, _ => none
 | k + 1, x2, x12, x13, x14, x15, x17, x18, x19, x20, x21, x22, x23, x24, x705000, x705001, x705002, x705003, x705004 => if x24 < x13 then (if 0 ≤ x19 then (if x19 < (x2.length : Int) then (if 0 ≤ (wrap64 ((wrap64 (x21 * x13)) + x24)) then (if (wrap64 ((wrap64 (x21 * x13)) + x24)) < (((rd_T26 x2 x19).f0).length : Int) then (if 0 ≤ (wrap64 ((wrap64 (x24 * x14)) + x22)) then (if (wrap64 ((wrap64 (x24 * x14)) + x22)) < (((rd_T26 x2 x19).f1).length : Int) then ((trefoilref03_Mul.f k x705001 (rd ((rd_T26 x2 x19).f0) (wrap64 ((wrap64 (x21 * x13)) + x24))) (rd ((rd_T26 x2 x19).f1) (wrap64 ((wrap64 (x24 * x14)) + x22)))).bind fun t730 => ((trefoilref03_Add.f k x705001 x23 t730).bind fun t731 => (if 0 ≤ (wrap64 ((wrap64 ((wrap64 ((wrap64 ((wrap64 (x19 * x12)) * x13)) * x14)) + (wrap64 ((wrap64 ((wrap64 (x21 * x13)) + x24)) * x14)))) + x22)) then (if (wrap64 ((wrap64 ((wrap64 ((wrap64 ((wrap64 (x19 * x12)) * x13)) * x14)) + (wrap64 ((wrap64 ((wrap64 (x21 * x13)) + x24)) * x14)))) + x22)) < (x15.length : Int) then (if (wrap64 ((wrap64 ((wrap64 ((wrap64 ((wrap64 (x19 * x12)) * x13)) * x14)) + (wrap64 ((wrap64 ((wrap64 (x21 * x13)) + x24)) * x14)))) + x22)) < (x17.length : Int) then ((trefoilref03_Add.f k x705001 (rd x15 (wrap64 ((wrap64 ((wrap64 ((wrap64 ((wrap64 (x19 * x12)) * x13)) * x14)) + (wrap64 ((wrap64 ((wrap64 (x21 * x13)) + x24)) * x14)))) + x22))) (rd x17 (wrap64 ((wrap64 ((wrap64 ((wrap64 ((wrap64 (x19 * x12)) * x13)) * x14)) + (wrap64 ((wrap64 ((wrap64 (x21 * x13)) + x24)) * x14)))) + x22)))).bind fun t734 => ((trefoilref03_Add.f k x705001 t731 t734).bind fun t735 => (trefoilref22_Finish.l3 k x2 x12 x13 x14 x15 x17 x18 x19 x20 x21 x22 t735 (wrap64 (x24 + 1)) x705000 x705001 x705002 x705003 x705004))) else (none)) else (none)) else (none)))) else (none)) else (none)) else (none)) else (none)) else (none)) else (none)) else (if x20.length < 17592186044416 then (trefoilref22_Finish.l2 k x2 x12 x13 x14 x15 x17 x18 x19 (x20 ++ [x23]) x21 (wrap64 (x22 + 1)) x705000 x705001 x705002 x705003 x705004) else (none))
end
def trefoilref22_Finish.f (k : Nat) (a0_0 : Int) (a0_1 : Int) (a0_2 : Int) (a0_3 : Int) (a0_4 : Int) (a1 : Int) (l2 : List (S26)) (l3 : List Int) (l4 : List Int) : Option ((List (S26)) × Int) := (trefoilref22_Wrong.f k a0_0 a0_1 a0_2 a0_3 a0_4 a1 l2).bind fun t705 => (if t705 = 0 then ((trefoilref22_Sides.f a0_0 a0_1 a0_2 a0_3 a0_4).bind fun bt707 => ((trefoilref21_Fold.f k a0_1 bt707.2.2 l3).bind fun bt710 => (if bt710.2 = 0 then ((trefoilref21_Fold.f k a0_1 bt707.2.2 l4).bind fun bt714 => (if bt714.2 = 0 then (if (bt710.1.length : Int) = (wrap64 ((wrap64 ((wrap64 (bt707.1 * bt707.2.1)) * bt707.2.2)) * (l2.length : Int))) then (trefoilref22_Finish.j0 k l2 bt707.1 bt707.2.1 bt707.2.2 bt710.1 bt714.1 ((bt714.1.length : Int) != (bt710.1.length : Int)) a0_0 a0_1 a0_2 a0_3 a0_4) else (trefoilref22_Finish.j0 k l2 bt707.1 bt707.2.1 bt707.2.2 bt710.1 bt714.1 true a0_0 a0_1 a0_2 a0_3 a0_4)) else (some (([] : List (S26)), bt714.2)))) else (some (([] : List (S26)), bt710.2))))) else ((trefoilref22_Wrong.f k a0_0 a0_1 a0_2 a0_3 a0_4 a1 l2).bind fun t706 => (some (([] : List (S26)), t706))))
def trefoilref22_Finish.T28 : Bool × List (List Nat × List Nat) := (true, [([], []), ([0], [0]), ([], []), ([], []), ([3], [3]), ([], []), ([], []), ([5, 6], [5, 6]), ([7], [7]), ([8], [8]), ([], []), ([], []), ([10, 11], [10, 11]), ([], []), ([12, 13], [12, 13]), ([9, 14], [9, 14]), ([15], [15]), ([], []), ([], []), ([17, 18], [17, 18]), ([19], [19]), ([20], [20]), ([], []), ([], []), ([22, 23], [22, 23]), ([], []), ([24, 25], [24, 25]), ([21, 26], [21, 26]), ([27], [27]), ([4, 16, 28], [4, 16, 28]), ([1, 2, 29, 29], [1, 2, 29]), ([30, 30, 0, 1, 2, 3, 4, 5, 6, 7, 8, 9, 10, 11, 12, 13, 14, 15, 16, 17, 18, 19, 20, 21, 22, 23, 24, 25, 26, 27, 28, 29, 30], [2, 30])])
def trefoilref22_Finish.B28 : List Nat := [0, 1, 0, 0, 8, 0, 0, 96, 224, 480, 0, 0, 3072, 0, 15360, 32736, 65504, 0, 0, 393216, 917504, 1966080, 0, 0, 12582912, 0, 62914560, 134086656, 268304384, 536870904, 1073741823, 2147483647]
theorem trefoilref22_Finish.tab28 : rtab .any (opsOf Try.f39 28) = trefoilref22_Finish.T28 := by kernel_rfl
theorem trefoilref22_Finish.bits28 : waitsOk trefoilref22_Finish.T28.2 trefoilref22_Finish.B28 = true := by kernel_rfl
def trefoilref22_Finish.T29 : Bool × List (List Nat × List Nat) := (true, [([], []), ([0], [0]), ([], []), ([], []), ([3], [3]), ([], []), ([], []), ([5, 6], [5, 6]), ([7], [7]), ([], []), ([], []), ([9, 10], [9, 10]), ([11], [11]), ([4, 8, 12], [4, 8, 12]), ([1, 2, 13, 13], [1, 2, 13]), ([14, 14, 0, 1, 2, 3, 4, 5, 6, 7, 8, 9, 10, 11, 12, 13, 14], [2, 14])])
def trefoilref22_Finish.B29 : List Nat := [0, 1, 0, 0, 8, 0, 0, 96, 224, 0, 0, 1536, 3584, 8184, 16383, 32767]
theorem trefoilref22_Finish.tab29 : rtab .any (opsOf Try.f39 29) = trefoilref22_Finish.T29 := by kernel_rfl
theorem trefoilref22_Finish.bits29 : waitsOk trefoilref22_Finish.T29.2 trefoilref22_Finish.B29 = true := by kernel_rfl
def trefoilref22_Finish.T31 : Bool × List (List Nat × List Nat) := (true, [([], []), ([], []), ([], []), ([1, 2], [1, 2]), ([3], [3]), ([4], [4]), ([], []), ([], []), ([6, 7], [6, 7]), ([8], [8]), ([9], [9]), ([], []), ([5, 10, 11], [5, 10, 11]), ([12], [12]), ([0, 13], [0, 13]), ([14, 14, 0, 1, 2, 3, 4, 5, 6, 7, 8, 9, 10, 11, 12, 13, 14], [0, 14])])
def trefoilref22_Finish.B31 : List Nat := [0, 0, 0, 6, 14, 30, 0, 0, 192, 448, 960, 0, 4094, 8190, 16383, 32767]
theorem trefoilref22_Finish.tab31 : rtab .any (opsOf Try.f39 31) = trefoilref22_Finish.T31 := by kernel_rfl
theorem trefoilref22_Finish.bits31 : waitsOk trefoilref22_Finish.T31.2 trefoilref22_Finish.B31 = true := by kernel_rfl
set_option maxHeartbeats 8000000 in
set_option maxRecDepth 100000 in
theorem trefoilref22_Finish.calls (k : Nat) (a0_0 : Int) (a0_1 : Int) (a0_2 : Int) (a0_3 : Int) (a0_4 : Int) (a1 : Int) (P2_ : Nat → Prop) (A2 : Option Addr) (c2 : Nat) (l2 : List (S26)) (A3 : Option Addr) (c3 : Nat) (l3 : List Int) (A4 : Option Addr) (c4 : Nat) (l4 : List Int) (r1 : List (S26)) (r2 : Int) (w : World) (hs2 : Kd.V k26 26 w w.heap.size (fun k_ => P2_ k_) (.slice A2 l2.length c2) l2) (hr3 : Kd.C (Kd.int .u64) w A3 l3.length l3) (hc3 : l3.length ≤ c3) (hr4 : Kd.C (Kd.int .u64) w A4 l4.length l4) (hc4 : l4.length ≤ c4) (h : trefoilref22_Finish.f k a0_0 a0_1 a0_2 a0_3 a0_4 a1 l2 l3 l4 = some (r1, r2)) :
  Calls Try.prog 39 #[.agg #[.int .i64 a0_0, .int .i64 a0_1, .int .i64 a0_2, .int .i64 a0_3, .int .i64 a0_4], .int .i64 a1, .slice A2 l2.length c2, .slice A3 l3.length c3, .slice A4 l4.length c4] w fun e w' => ∃ v0_ : Value, e = .returned (.tuple #[v0_, .int .i64 r2]) ∧ Kd.N k26 26 w' w.heap.size (fun k_ => (P2_ k_ ∨ w.heap.size ≤ k_)) v0_ r1 ∧ Below w.heap.size w w' := by
 have hu23 := Try.underlying23
 have hu26 := Try.underlying26
 have HO2 := Aside0.mk (show Kd.V k26 26 w w.heap.size (fun k_ => (P2_ k_ ∨ w.heap.size ≤ k_)) (.slice A2 l2.length c2) l2 from Kd.V_mono hs2 (fun k_ hk => .inl hk))
 have HR3 := Aside0.mk hr3
 have HC3 := Aside0.mk hc3
 clear hr3 hc3
 have HR4 := Aside0.mk hr4
 have HC4 := Aside0.mk hc4
 clear hr4 hc4
 have HB := Aside0.mk (Below.refl w.heap.size w)
 have H : ((trefoilref22_Wrong.f k a0_0 a0_1 a0_2 a0_3 a0_4 a1 l2).bind fun t705 => (if t705 = 0 then ((trefoilref22_Sides.f a0_0 a0_1 a0_2 a0_3 a0_4).bind fun bt707 => ((trefoilref21_Fold.f k a0_1 bt707.2.2 l3).bind fun bt710 => (if bt710.2 = 0 then ((trefoilref21_Fold.f k a0_1 bt707.2.2 l4).bind fun bt714 => (if bt714.2 = 0 then (if (bt710.1.length : Int) = (wrap64 ((wrap64 ((wrap64 (bt707.1 * bt707.2.1)) * bt707.2.2)) * (l2.length : Int))) then (trefoilref22_Finish.j0 k l2 bt707.1 bt707.2.1 bt707.2.2 bt710.1 bt714.1 ((bt714.1.length : Int) != (bt710.1.length : Int)) a0_0 a0_1 a0_2 a0_3 a0_4) else (trefoilref22_Finish.j0 k l2 bt707.1 bt707.2.1 bt707.2.2 bt710.1 bt714.1 true a0_0 a0_1 a0_2 a0_3 a0_4)) else (some (([] : List (S26)), bt714.2)))) else (some (([] : List (S26)), bt710.2))))) else ((trefoilref22_Wrong.f k a0_0 a0_1 a0_2 a0_3 a0_4 a1 l2).bind fun t706 => (some (([] : List (S26)), t706))))) = some (r1, r2) := h
 clear h
 replace H := Option.bind_eq_some_iff.mp H
 obtain ⟨t705, A60, H⟩ := H
 replace H : (if t705 = 0 then ((trefoilref22_Sides.f a0_0 a0_1 a0_2 a0_3 a0_4).bind fun bt707 => ((trefoilref21_Fold.f k a0_1 bt707.2.2 l3).bind fun bt710 => (if bt710.2 = 0 then ((trefoilref21_Fold.f k a0_1 bt707.2.2 l4).bind fun bt714 => (if bt714.2 = 0 then (if (bt710.1.length : Int) = (wrap64 ((wrap64 ((wrap64 (bt707.1 * bt707.2.1)) * bt707.2.2)) * (l2.length : Int))) then (trefoilref22_Finish.j0 k l2 bt707.1 bt707.2.1 bt707.2.2 bt710.1 bt714.1 ((bt714.1.length : Int) != (bt710.1.length : Int)) a0_0 a0_1 a0_2 a0_3 a0_4) else (trefoilref22_Finish.j0 k l2 bt707.1 bt707.2.1 bt707.2.2 bt710.1 bt714.1 true a0_0 a0_1 a0_2 a0_3 a0_4)) else (some (([] : List (S26)), bt714.2)))) else (some (([] : List (S26)), bt710.2))))) else ((trefoilref22_Wrong.f k a0_0 a0_1 a0_2 a0_3 a0_4 a1 l2).bind fun t706 => (some (([] : List (S26)), t706)))) = some (r1, r2) := H
 have A6 := Aside0.mk A60
 clear A60
 by_cases c7 : t705 = 0
 ·rw [if_pos c7] at H
  have c7b0 : (t705 == 0) = true := beq_iff_eq.mpr c7
  have c7b1 : (t705 != 0) = false := bne_eq_false_iff_eq.mpr c7
  clear c7
  replace H := Option.bind_eq_some_iff.mp H
  obtain ⟨⟨t707, t708, t709⟩, A80, H⟩ := H
  replace H : ((trefoilref21_Fold.f k a0_1 t709 l3).bind fun bt710 => (if bt710.2 = 0 then ((trefoilref21_Fold.f k a0_1 t709 l4).bind fun bt714 => (if bt714.2 = 0 then (if (bt710.1.length : Int) = (wrap64 ((wrap64 ((wrap64 (t707 * t708)) * t709)) * (l2.length : Int))) then (trefoilref22_Finish.j0 k l2 t707 t708 t709 bt710.1 bt714.1 ((bt714.1.length : Int) != (bt710.1.length : Int)) a0_0 a0_1 a0_2 a0_3 a0_4) else (trefoilref22_Finish.j0 k l2 t707 t708 t709 bt710.1 bt714.1 true a0_0 a0_1 a0_2 a0_3 a0_4)) else (some (([] : List (S26)), bt714.2)))) else (some (([] : List (S26)), bt710.2)))) = some (r1, r2) := H
  have A8 := Aside0.mk A80
  clear A80
  replace H := Option.bind_eq_some_iff.mp H
  obtain ⟨⟨t710, t711⟩, A90, H⟩ := H
  replace H : (if t711 = 0 then ((trefoilref21_Fold.f k a0_1 t709 l4).bind fun bt714 => (if bt714.2 = 0 then (if (t710.length : Int) = (wrap64 ((wrap64 ((wrap64 (t707 * t708)) * t709)) * (l2.length : Int))) then (trefoilref22_Finish.j0 k l2 t707 t708 t709 t710 bt714.1 ((bt714.1.length : Int) != (t710.length : Int)) a0_0 a0_1 a0_2 a0_3 a0_4) else (trefoilref22_Finish.j0 k l2 t707 t708 t709 t710 bt714.1 true a0_0 a0_1 a0_2 a0_3 a0_4)) else (some (([] : List (S26)), bt714.2)))) else (some (([] : List (S26)), t711))) = some (r1, r2) := H
  have A9 := Aside0.mk A90
  clear A90
  by_cases c10 : t711 = 0
  ·rw [if_pos c10] at H
   have c10b0 : (t711 == 0) = true := beq_iff_eq.mpr c10
   have c10b1 : (t711 != 0) = false := bne_eq_false_iff_eq.mpr c10
   clear c10
   replace H := Option.bind_eq_some_iff.mp H
   obtain ⟨⟨t714, t715⟩, A110, H⟩ := H
   replace H : (if t715 = 0 then (if (t710.length : Int) = (wrap64 ((wrap64 ((wrap64 (t707 * t708)) * t709)) * (l2.length : Int))) then (trefoilref22_Finish.j0 k l2 t707 t708 t709 t710 t714 ((t714.length : Int) != (t710.length : Int)) a0_0 a0_1 a0_2 a0_3 a0_4) else (trefoilref22_Finish.j0 k l2 t707 t708 t709 t710 t714 true a0_0 a0_1 a0_2 a0_3 a0_4)) else (some (([] : List (S26)), t715))) = some (r1, r2) := H
   have A11 := Aside0.mk A110
   clear A110
   by_cases c12 : t715 = 0
   ·rw [if_pos c12] at H
    have c12b0 : (t715 == 0) = true := beq_iff_eq.mpr c12
    have c12b1 : (t715 != 0) = false := bne_eq_false_iff_eq.mpr c12
    clear c12
    have HC13 := Aside0.mk H
    clear H
    go_enter Try.func39, Try.ntmps39
    go_upto_region 10 with (first | ((with_reducible refine gate_dst (N := 5) rfl ?_); (try (refine gate_guard (by rfl) ?_; dsimp only)); refine box_event ?hg (N := 5) ?hd (cs := #[.int .i64 a0_0, .int .i64 a0_1, .int .i64 a0_2, .int .i64 a0_3, .int .i64 a0_4]) (t := 23) ?hr ?_; (case hd => rfl); (case hg => rfl); (case hr => first | (go_simp; done) | (go_simp; rfl)); intro gb704 hg w14 hbox hb; have n0_ := Aside0.mk (Kd.V_below (Kd.V_elderB HO2.v gb704 (Nat.le_of_eq hg.symm)) hb); have n1_ := Aside0.mk (below_step HB.bl hb); have n2_ := Aside0.mk (hbox); have n3_ := Aside0.mk ((zq46 : w.heap.size ≤ gb704)); have n4_ := Aside0.mk ((zq46 : w.heap.size ≤ gb704)); clear HO2; clear HB; have HO2 := n0_; have HB := n1_; have BK704 := n2_; have GW704 := n3_; have GE704 := n4_; clear n0_ n1_ n2_ n3_ n4_; clear hb hbox hg; obtain ⟨hcz15_0, hcz15_1, hcz15_2, hcz15_3, hcz15_4, hfz15_0, hfz15_1, hfz15_2, hfz15_3, hfz15_4⟩ := cells_5 BK704.out) | ((with_reducible refine gate_callee (f := 72) rfl ?_); refine goesL_ (some 29) rfl rfl Try.func72 (zq47) rfl #[.agg #[.int .i64 a0_0, .int .i64 a0_1, .int .i64 a0_2, .int .i64 a0_3, .int .i64 a0_4], .int .i64 a1, .slice A2 l2.length c2] rfl (zq28) ?_; (with_reducible refine (trefoilref22_Wrong.calls k a0_0 a0_1 a0_2 a0_3 a0_4 a1 _ _ l2 t705 _ ?side1 ?side2 A6.out).mono ?_); (case side1 => repeat (first | exact (Kd.V_reads' HO2.out).2.2 | (with_reducible refine Kd.C_alloc ?_ _) | (with_reducible refine Kd.C_drewN ?_ _) | (with_reducible refine Kd.C_drew ?_))); (case side2 => exact (Kd.V_reads' HO2.out).2.1); rintro e w16 ⟨rfl, hb⟩; refine ⟨_, rfl, ?_⟩; replace HO2 := Aside0.mk (Kd.V_below HO2.v hb); replace BK704 := Aside0.mk (BK704.lk hb); replace HB := Aside0.mk (below_step HB.bl hb); (try clear hb); (try clear hb2); (try clear hk); (try clear hi); obtain ⟨hcz17_0, hcz17_1, hcz17_2, hcz17_3, hcz17_4, hfz17_0, hfz17_1, hfz17_2, hfz17_3, hfz17_4⟩ := cells_5 BK704.out) | ((with_reducible refine gate_callee (f := 48) rfl ?_); refine goesL_ (some 37) rfl rfl Try.func48 (zq47) rfl #[.agg #[.int .i64 a0_0, .int .i64 a0_1, .int .i64 a0_2, .int .i64 a0_3, .int .i64 a0_4]] rfl (zq28) ?_; (with_reducible refine (trefoilref22_Sides.calls a0_0 a0_1 a0_2 a0_3 a0_4 t707 t708 t709 _ A8.out).mono ?_); rintro e w18 ⟨rfl, hb⟩; refine ⟨_, rfl, ?_⟩; replace HO2 := Aside0.mk (Kd.V_below HO2.v hb); replace BK704 := Aside0.mk (BK704.lk hb); replace HB := Aside0.mk (below_step HB.bl hb); (try clear hb); (try clear hb2); (try clear hk); (try clear hi); obtain ⟨hcz19_0, hcz19_1, hcz19_2, hcz19_3, hcz19_4, hfz19_0, hfz19_1, hfz19_2, hfz19_3, hfz19_4⟩ := cells_5 BK704.out) | ((with_reducible refine gate_callee (f := 73) rfl ?_); refine goesL_ (some 46) rfl rfl Try.func73 (zq47) rfl #[.int .i64 a0_1, .int .i64 t709, .slice A3 l3.length c3] rfl (zq28) ?_; (with_reducible refine (trefoilref21_Fold.calls k a0_1 t709 _ _ l3 t710 t711 _ ?side1 ?side2 A9.out).mono ?_); (case side1 => repeat (first | exact (Kd.C_below HR3.out HB.out) | (with_reducible refine Kd.C_alloc ?_ _) | (with_reducible refine Kd.C_drewN ?_ _) | (with_reducible refine Kd.C_drew ?_))); (case side2 => exact HC3.out); rintro e w20 ⟨v712, rfl, ho0, hb⟩; refine ⟨_, rfl, ?_⟩; replace HO2 := Aside0.mk (Kd.V_elder' HO2.v (Kd.R_base ho0) hb); have HO713 := Aside0.mk (Kd.R_lower (Kd.R_newM (M := fun k_ => (w.heap.size ≤ k_)) ho0 (below_size HB.bl) (fun k_ h_ => h_)) (below_size HB.bl)); replace BK704 := Aside0.mk (BK704.lk hb); replace HB := Aside0.mk (below_step HB.bl hb); (try clear hb); (try clear hb2); (try clear hk); (try clear hi); (try clear ho0); obtain ⟨hcz21_0, hcz21_1, hcz21_2, hcz21_3, hcz21_4, hfz21_0, hfz21_1, hfz21_2, hfz21_3, hfz21_4⟩ := cells_5 BK704.out) | ((with_reducible refine gate_callee (f := 73) rfl ?_); refine goesL_ (some 57) rfl rfl Try.func73 (zq47) rfl #[.int .i64 a0_1, .int .i64 t709, .slice A4 l4.length c4] rfl (zq28) ?_; (with_reducible refine (trefoilref21_Fold.calls k a0_1 t709 _ _ l4 t714 t715 _ ?side1 ?side2 A11.out).mono ?_); (case side1 => repeat (first | exact (Kd.C_below HR4.out HB.out) | (with_reducible refine Kd.C_alloc ?_ _) | (with_reducible refine Kd.C_drewN ?_ _) | (with_reducible refine Kd.C_drew ?_))); (case side2 => exact HC4.out); rintro e w22 ⟨v716, rfl, ho0, hb⟩; refine ⟨_, rfl, ?_⟩; have n0_ := Aside0.mk (Kd.V_elder' HO2.v (Kd.R_base ho0) hb); have n1_ := Aside0.mk (Kd.R_elder' HO713.r (Kd.R_base ho0) hb); have n2_ := Aside0.mk (Kd.R_lower (Kd.R_new' (Kd.R_newM (M := fun k_ => (w.heap.size ≤ k_)) ho0 (below_size HB.bl) (fun k_ h_ => h_)) (Kd.R_lt HO713.r)) (below_size HB.bl)); have n3_ := Aside0.mk (BK704.lk hb); have n4_ := Aside0.mk (below_step HB.bl hb); clear HO2; clear HO713; clear BK704; clear HB; have HO2 := n0_; have HO713 := n1_; have HO717 := n2_; have BK704 := n3_; have HB := n4_; clear n0_ n1_ n2_ n3_ n4_; (try clear hb); (try clear hb2); (try clear hk); (try clear hi); (try clear ho0)))
    (try simp only [Act.put, List.setIfInBounds_toArray, List.set_cons_zero, List.set_cons_succ])
    go_cut [80] (fun v80 wc => ∃ (kq : Nat) (x80_12 : Bool), v80 = .bool x80_12 ∧ Aside0 (trefoilref22_Finish.j0 kq l2 t707 t708 t709 t710 t714 x80_12 a0_0 a0_1 a0_2 a0_3 a0_4 = some (r1, r2)) ∧ Aside0 (kq ≤ k) ∧ Aside0 (Kd.V k26 26 wc w.heap.size (fun k_ => (P2_ k_ ∨ w.heap.size ≤ k_) ∧ some k_ ≠ (v712 : Value).ownBlock ∧ some k_ ≠ (v716 : Value).ownBlock ∧ k_ ≠ gb704) (.slice A2 l2.length c2) l2) ∧ Aside0 (Kd.R (Kd.int .u64) 35 wc w.heap.size (fun k_ => (w.heap.size ≤ k_) ∧ some k_ ≠ (v716 : Value).ownBlock) v712 t710) ∧ Aside0 (Kd.R (Kd.int .u64) 35 wc w.heap.size (fun k_ => (w.heap.size ≤ k_) ∧ some k_ ≠ (v712 : Value).ownBlock) v716 t714) ∧ Aside0 (wc.heap[gb704]? = some (.cells #[.int .i64 a0_0, .int .i64 a0_1, .int .i64 a0_2, .int .i64 a0_3, .int .i64 a0_4] 23 (0, 0))) ∧ Aside0 (Below w.heap.size w wc))
    case first =>
     have H := HC13.out
     clear HC13
     by_cases c23 : (t710.length : Int) = (wrap64 ((wrap64 ((wrap64 (t707 * t708)) * t709)) * (l2.length : Int)))
     ·rw [if_pos c23] at H
      have c23b0 : ((t710.length : Int) == (wrap64 ((wrap64 ((wrap64 (t707 * t708)) * t709)) * (l2.length : Int)))) = true := beq_iff_eq.mpr c23
      have c23b1 : ((t710.length : Int) != (wrap64 ((wrap64 ((wrap64 (t707 * t708)) * t709)) * (l2.length : Int)))) = false := bne_eq_false_iff_eq.mpr c23
      clear c23
      (first | rw [c23b0] | (simp only [i64_w, i32_w]; rw [c23b0]) | skip)
      have H' := Aside0.mk H
      clear H
      obtain ⟨Ao24, co24, eo24⟩ := Kd.R_slice HO713.out
      subst eo24
      obtain ⟨Ao25, co25, eo25⟩ := Kd.R_slice HO717.out
      subst eo25
      go_wp2
      go_meet
      case rel => exact ⟨_, (((t714.length : Int) != (t710.length : Int))), (zq40), H', ⟨zq45⟩, ⟨by (with_reducible repeat (first | apply Kd.V_alloc | apply Kd.V_drewN | apply Kd.V_drew)); exact Kd.V_mono HO2.out (fun _ hk => ⟨hk.1.1.1, ⟨hk.1.2, ⟨hk.2, hk.1.1.2⟩⟩⟩)⟩, ⟨by (with_reducible repeat (first | apply Kd.R_alloc | apply Kd.R_drewN | apply Kd.R_drew)); exact Kd.R_mono HO713.out (fun _ hk => ⟨hk.1.1, hk.2⟩)⟩, ⟨by (with_reducible repeat (first | apply Kd.R_alloc | apply Kd.R_drewN | apply Kd.R_drew)); exact Kd.R_mono HO717.out (fun _ hk => ⟨hk.1.1, hk.2⟩)⟩, ⟨zq33⟩, ⟨zq21⟩⟩
     ·rw [if_neg c23] at H
      have c23b0 : ((t710.length : Int) == (wrap64 ((wrap64 ((wrap64 (t707 * t708)) * t709)) * (l2.length : Int)))) = false := beq_eq_false_iff_ne.mpr c23
      have c23b1 : ((t710.length : Int) != (wrap64 ((wrap64 ((wrap64 (t707 * t708)) * t709)) * (l2.length : Int)))) = true := bne_iff_ne.mpr c23
      (first | rw [c23b0] | (simp only [i64_w, i32_w]; rw [c23b0]) | skip)
      have H' := Aside0.mk H
      clear H
      obtain ⟨Ao26, co26, eo26⟩ := Kd.R_slice HO713.out
      subst eo26
      go_wp2
      go_meet
      case rel => exact ⟨_, (true), (zq40), H', ⟨zq45⟩, ⟨by (with_reducible repeat (first | apply Kd.V_alloc | apply Kd.V_drewN | apply Kd.V_drew)); exact Kd.V_mono HO2.out (fun _ hk => ⟨hk.1.1.1, ⟨hk.1.2, ⟨hk.2, hk.1.1.2⟩⟩⟩)⟩, ⟨by (with_reducible repeat (first | apply Kd.R_alloc | apply Kd.R_drewN | apply Kd.R_drew)); exact Kd.R_mono HO713.out (fun _ hk => ⟨hk.1.1, hk.2⟩)⟩, ⟨by (with_reducible repeat (first | apply Kd.R_alloc | apply Kd.R_drewN | apply Kd.R_drew)); exact Kd.R_mono HO717.out (fun _ hk => ⟨hk.1.1, hk.2⟩)⟩, ⟨zq33⟩, ⟨zq21⟩⟩
    case rest =>
     clear HC13
     try clear c1
     try clear c2
     try clear p2
     try clear c3
     try clear c4
     try clear p6
     try clear c7
     try clear c7b0
     try clear c7b1
     try clear c10
     try clear c10b0
     try clear c10b1
     try clear c12
     try clear c12b0
     try clear c12b1
     try clear c23
     try clear c23b0
     try clear c23b1
     try clear hcz15_0
     try clear hcz15_1
     try clear hcz15_2
     try clear hcz15_3
     try clear hcz15_4
     try clear hcz17_0
     try clear hcz17_1
     try clear hcz17_2
     try clear hcz17_3
     try clear hcz17_4
     try clear hcz19_0
     try clear hcz19_1
     try clear hcz19_2
     try clear hcz19_3
     try clear hcz19_4
     try clear hcz21_0
     try clear hcz21_1
     try clear hcz21_2
     try clear hcz21_3
     try clear hcz21_4
     try clear hfz15_0
     try clear hfz15_1
     try clear hfz15_2
     try clear hfz15_3
     try clear hfz15_4
     try clear hfz17_0
     try clear hfz17_1
     try clear hfz17_2
     try clear hfz17_3
     try clear hfz17_4
     try clear hfz19_0
     try clear hfz19_1
     try clear hfz19_2
     try clear hfz19_3
     try clear hfz19_4
     try clear hfz21_0
     try clear hfz21_1
     try clear hfz21_2
     try clear hfz21_3
     try clear hfz21_4
     obtain ⟨kq, x80_12, rfl, HA, HJ12, HO_2, HO_15, HO_17, BK704, HB⟩ := hcut
     cases kq with
     | zero => exact absurd HA.out (by simp [trefoilref22_Finish.j0])
     | succ kj12 =>
      have H := HA.out
      clear HA
      simp only [trefoilref22_Finish.j0] at H
      by_cases c27 : x80_12 = true
      ·subst c27
       have H1 : (some (([] : List (S26)), 11)) = some (r1, r2) := by rw [if_pos rfl] at H; exact H
       clear H
       have H := H1
       clear H1
       simp only [Option.some.injEq, Prod.mk.injEq] at H
       obtain ⟨rfl, rfl⟩ := H
       go_wp2
       go_ret2
       exact ⟨_, zq37, zq27, zq21⟩
      ·replace c27 := Bool.eq_false_iff.mpr c27
       subst c27
       have H1 : (trefoilref22_Finish.l0 kj12 l2 t707 t708 t709 t710 t714 ([] : List (S26)) 0 a0_0 a0_1 a0_2 a0_3 a0_4) = some (r1, r2) := by rw [if_neg (show ¬ (false = true) by decide)] at H; exact H
       clear H
       have H := H1
       clear H1
       have H' := Aside0.mk H
       clear H
       go_wp2
       go_loopg [18, 19] kj12 (fun kq v18 v19 w' => ∃ (x18_2 : List (S26)) (x19_2 : Int), v19 = .int .i64 x19_2 ∧ Aside0 (trefoilref22_Finish.l0 kq l2 t707 t708 t709 t710 t714 x18_2 x19_2 a0_0 a0_1 a0_2 a0_3 a0_4 = some (r1, r2)) ∧ Aside0 (kq ≤ kj12) ∧ Aside0 (Kd.V k26 26 w' w.heap.size (fun k_ => (P2_ k_ ∨ w.heap.size ≤ k_) ∧ some k_ ≠ (v712 : Value).ownBlock ∧ some k_ ≠ (v716 : Value).ownBlock ∧ some k_ ≠ (v18 : Value).ownBlock ∧ k_ ≠ gb704) (.slice A2 l2.length c2) l2) ∧ Aside0 (Kd.R (Kd.int .u64) 35 w' w.heap.size (fun k_ => (w.heap.size ≤ k_) ∧ some k_ ≠ (v716 : Value).ownBlock) v712 t710) ∧ Aside0 (Kd.R (Kd.int .u64) 35 w' w.heap.size (fun k_ => (w.heap.size ≤ k_) ∧ some k_ ≠ (v712 : Value).ownBlock) v716 t714) ∧ Aside0 (Kd.N k26 26 w' w.heap.size (fun k_ => (P2_ k_ ∨ w.heap.size ≤ k_) ∧ some k_ ≠ (v712 : Value).ownBlock ∧ some k_ ≠ (v716 : Value).ownBlock ∧ k_ ≠ gb704) v18 x18_2) ∧ Aside0 (w'.heap[gb704]? = some (.cells #[.int .i64 a0_0, .int .i64 a0_1, .int .i64 a0_2, .int .i64 a0_3, .int .i64 a0_4] 23 (0, 0))) ∧ Aside0 (Below w.heap.size w w'))
       case atStart => exact ⟨(([] : List (S26))), (0), (zq40), H', ⟨Nat.le_refl _⟩, ⟨by (with_reducible repeat (first | apply Kd.V_alloc | apply Kd.V_drewN | apply Kd.V_drew)); exact Kd.V_mono HO_2.out (fun _ hk => ⟨hk.1, ⟨hk.2.1, ⟨hk.2.2.1, ⟨(by simp [Value.ownBlock]), hk.2.2.2⟩⟩⟩⟩)⟩, ⟨HO_15.r⟩, ⟨HO_17.r⟩, ⟨zq27⟩, ⟨zq33⟩, ⟨zq21⟩⟩
       case round =>
        clear H'
        try clear c1
        try clear c2
        try clear p2
        try clear c3
        try clear c4
        try clear p6
        try clear c7
        try clear c7b0
        try clear c7b1
        try clear c10
        try clear c10b0
        try clear c10b1
        try clear c12
        try clear c12b0
        try clear c12b1
        try clear c23
        try clear c23b0
        try clear c23b1
        try clear c27
        try clear hcz15_0
        try clear hcz15_1
        try clear hcz15_2
        try clear hcz15_3
        try clear hcz15_4
        try clear hcz17_0
        try clear hcz17_1
        try clear hcz17_2
        try clear hcz17_3
        try clear hcz17_4
        try clear hcz19_0
        try clear hcz19_1
        try clear hcz19_2
        try clear hcz19_3
        try clear hcz19_4
        try clear hcz21_0
        try clear hcz21_1
        try clear hcz21_2
        try clear hcz21_3
        try clear hcz21_4
        try clear hfz15_0
        try clear hfz15_1
        try clear hfz15_2
        try clear hfz15_3
        try clear hfz15_4
        try clear hfz17_0
        try clear hfz17_1
        try clear hfz17_2
        try clear hfz17_3
        try clear hfz17_4
        try clear hfz19_0
        try clear hfz19_1
        try clear hfz19_2
        try clear hfz19_3
        try clear hfz19_4
        try clear hfz21_0
        try clear hfz21_1
        try clear hfz21_2
        try clear hfz21_3
        try clear hfz21_4
        try clear p2
        try clear p6
        obtain ⟨x18_2, x19_2, rfl, HA, HK2, HO_2, HO_15, HO_17, HO_18, BK704, HB⟩ := hrel
        cases gk with
        | zero => exact absurd HA.out (by simp [trefoilref22_Finish.l0])
        | succ k2 =>
         have H := HA.out
         clear HA
         simp only [trefoilref22_Finish.l0] at H
         by_cases c28 : x19_2 < (l2.length : Int)
         ·rw [if_pos c28] at H
          have c28b0 : decide (x19_2 < (l2.length : Int)) = true := decide_eq_true c28
          clear c28
          have H' := Aside0.mk H
          clear H
          go_wp2
          go_loopg [20, 21] k2 (fun kq v20 v21 w' => ∃ (x20_3 : List Int) (x21_3 : Int), v21 = .int .i64 x21_3 ∧ Aside0 (trefoilref22_Finish.l1 kq l2 t707 t708 t709 t710 t714 x18_2 x19_2 x20_3 x21_3 a0_0 a0_1 a0_2 a0_3 a0_4 = some (r1, r2)) ∧ Aside0 (kq ≤ k2) ∧ Aside0 (Kd.V k26 26 w' w.heap.size (fun k_ => (P2_ k_ ∨ w.heap.size ≤ k_) ∧ some k_ ≠ (v712 : Value).ownBlock ∧ some k_ ≠ (v716 : Value).ownBlock ∧ some k_ ≠ (u18 : Value).ownBlock ∧ some k_ ≠ (v20 : Value).ownBlock ∧ k_ ≠ gb704) (.slice A2 l2.length c2) l2) ∧ Aside0 (Kd.R (Kd.int .u64) 35 w' w.heap.size (fun k_ => (w.heap.size ≤ k_) ∧ some k_ ≠ (v716 : Value).ownBlock ∧ some k_ ≠ (v20 : Value).ownBlock) v712 t710) ∧ Aside0 (Kd.R (Kd.int .u64) 35 w' w.heap.size (fun k_ => (w.heap.size ≤ k_) ∧ some k_ ≠ (v712 : Value).ownBlock ∧ some k_ ≠ (v20 : Value).ownBlock) v716 t714) ∧ Aside0 (Kd.N k26 26 w' w.heap.size (fun k_ => (P2_ k_ ∨ w.heap.size ≤ k_) ∧ some k_ ≠ (v712 : Value).ownBlock ∧ some k_ ≠ (v716 : Value).ownBlock ∧ some k_ ≠ (v20 : Value).ownBlock ∧ k_ ≠ gb704) u18 x18_2) ∧ Aside0 (Kd.R (Kd.int .u64) 35 w' w.heap.size (fun k_ => (w.heap.size ≤ k_) ∧ some k_ ≠ (v712 : Value).ownBlock ∧ some k_ ≠ (v716 : Value).ownBlock) v20 x20_3) ∧ Aside0 (w'.heap[gb704]? = some (.cells #[.int .i64 a0_0, .int .i64 a0_1, .int .i64 a0_2, .int .i64 a0_3, .int .i64 a0_4] 23 (0, 0))) ∧ Aside0 (Below w.heap.size w w'))
          case atStart => exact ⟨(([] : List Int)), (0), (zq40), H', ⟨Nat.le_refl _⟩, ⟨by (with_reducible repeat (first | apply Kd.V_alloc | apply Kd.V_drewN | apply Kd.V_drew)); exact Kd.V_mono HO_2.out (fun _ hk => ⟨hk.1, ⟨hk.2.1, ⟨hk.2.2.1, ⟨hk.2.2.2.1, ⟨(by simp [Value.ownBlock]), hk.2.2.2.2⟩⟩⟩⟩⟩)⟩, ⟨by (with_reducible repeat (first | apply Kd.R_alloc | apply Kd.R_drewN | apply Kd.R_drew)); exact Kd.R_mono HO_15.out (fun _ hk => ⟨hk.1, ⟨hk.2, (by simp [Value.ownBlock])⟩⟩)⟩, ⟨by (with_reducible repeat (first | apply Kd.R_alloc | apply Kd.R_drewN | apply Kd.R_drew)); exact Kd.R_mono HO_17.out (fun _ hk => ⟨hk.1, ⟨hk.2, (by simp [Value.ownBlock])⟩⟩)⟩, ⟨by (with_reducible repeat (first | apply Kd.N_alloc | apply Kd.N_drewN | apply Kd.N_drew)); exact Kd.N_mono HO_18.out (fun _ hk => ⟨hk.1, ⟨hk.2.1, ⟨hk.2.2.1, ⟨(by simp [Value.ownBlock]), hk.2.2.2⟩⟩⟩⟩)⟩, ⟨zq26⟩, ⟨zq33⟩, ⟨zq21⟩⟩
          case round =>
           clear H'
           try clear c1
           try clear c2
           try clear p2
           try clear c3
           try clear c4
           try clear p6
           try clear c7
           try clear c7b0
           try clear c7b1
           try clear c10
           try clear c10b0
           try clear c10b1
           try clear c12
           try clear c12b0
           try clear c12b1
           try clear c23
           try clear c23b0
           try clear c23b1
           try clear c27
           try clear c28
           try clear c28b0
           try clear hcz15_0
           try clear hcz15_1
           try clear hcz15_2
           try clear hcz15_3
           try clear hcz15_4
           try clear hcz17_0
           try clear hcz17_1
           try clear hcz17_2
           try clear hcz17_3
           try clear hcz17_4
           try clear hcz19_0
           try clear hcz19_1
           try clear hcz19_2
           try clear hcz19_3
           try clear hcz19_4
           try clear hcz21_0
           try clear hcz21_1
           try clear hcz21_2
           try clear hcz21_3
           try clear hcz21_4
           try clear hfz15_0
           try clear hfz15_1
           try clear hfz15_2
           try clear hfz15_3
           try clear hfz15_4
           try clear hfz17_0
           try clear hfz17_1
           try clear hfz17_2
           try clear hfz17_3
           try clear hfz17_4
           try clear hfz19_0
           try clear hfz19_1
           try clear hfz19_2
           try clear hfz19_3
           try clear hfz19_4
           try clear hfz21_0
           try clear hfz21_1
           try clear hfz21_2
           try clear hfz21_3
           try clear hfz21_4
           try clear p2
           try clear p6
           obtain ⟨x20_3, x21_3, rfl, HA, HK3, HO_2, HO_15, HO_17, HO_18, HO_20, BK704, HB⟩ := hrel
           cases gk with
           | zero => exact absurd HA.out (by simp [trefoilref22_Finish.l1])
           | succ k3 =>
            have H := HA.out
            clear HA
            simp only [trefoilref22_Finish.l1] at H
            by_cases c29 : x21_3 < t707
            ·rw [if_pos c29] at H
             have c29b0 : decide (x21_3 < t707) = true := decide_eq_true c29
             clear c29
             have H' := Aside0.mk H
             clear H
             go_wp2
             go_loopg [20, 22] k3 (fun kq v20 v22 w' => ∃ (x20_4 : List Int) (x22_4 : Int), v22 = .int .i64 x22_4 ∧ Aside0 (trefoilref22_Finish.l2 kq l2 t707 t708 t709 t710 t714 x18_2 x19_2 x20_4 x21_3 x22_4 a0_0 a0_1 a0_2 a0_3 a0_4 = some (r1, r2)) ∧ Aside0 (kq ≤ k3) ∧ Aside0 (Kd.V k26 26 w' w.heap.size (fun k_ => (P2_ k_ ∨ w.heap.size ≤ k_) ∧ some k_ ≠ (v712 : Value).ownBlock ∧ some k_ ≠ (v716 : Value).ownBlock ∧ some k_ ≠ (u18 : Value).ownBlock ∧ some k_ ≠ (v20 : Value).ownBlock ∧ k_ ≠ gb704) (.slice A2 l2.length c2) l2) ∧ Aside0 (Kd.R (Kd.int .u64) 35 w' w.heap.size (fun k_ => (w.heap.size ≤ k_) ∧ some k_ ≠ (v716 : Value).ownBlock ∧ some k_ ≠ (v20 : Value).ownBlock) v712 t710) ∧ Aside0 (Kd.R (Kd.int .u64) 35 w' w.heap.size (fun k_ => (w.heap.size ≤ k_) ∧ some k_ ≠ (v712 : Value).ownBlock ∧ some k_ ≠ (v20 : Value).ownBlock) v716 t714) ∧ Aside0 (Kd.N k26 26 w' w.heap.size (fun k_ => (P2_ k_ ∨ w.heap.size ≤ k_) ∧ some k_ ≠ (v712 : Value).ownBlock ∧ some k_ ≠ (v716 : Value).ownBlock ∧ some k_ ≠ (v20 : Value).ownBlock ∧ k_ ≠ gb704) u18 x18_2) ∧ Aside0 (Kd.R (Kd.int .u64) 35 w' w.heap.size (fun k_ => (w.heap.size ≤ k_) ∧ some k_ ≠ (v712 : Value).ownBlock ∧ some k_ ≠ (v716 : Value).ownBlock) v20 x20_4) ∧ Aside0 (w'.heap[gb704]? = some (.cells #[.int .i64 a0_0, .int .i64 a0_1, .int .i64 a0_2, .int .i64 a0_3, .int .i64 a0_4] 23 (0, 0))) ∧ Aside0 (Below w.heap.size w w'))
             case atStart => exact ⟨(x20_3), (0), (zq40), H', ⟨Nat.le_refl _⟩, ⟨HO_2.v⟩, ⟨HO_15.r⟩, ⟨HO_17.r⟩, ⟨HO_18.n⟩, ⟨HO_20.r⟩, ⟨zq33⟩, ⟨zq21⟩⟩
             case round =>
              clear H'
              try clear c1
              try clear c2
              try clear p2
              try clear c3
              try clear c4
              try clear p6
              try clear c7
              try clear c7b0
              try clear c7b1
              try clear c10
              try clear c10b0
              try clear c10b1
              try clear c12
              try clear c12b0
              try clear c12b1
              try clear c23
              try clear c23b0
              try clear c23b1
              try clear c27
              try clear c28
              try clear c28b0
              try clear c29
              try clear c29b0
              try clear hcz15_0
              try clear hcz15_1
              try clear hcz15_2
              try clear hcz15_3
              try clear hcz15_4
              try clear hcz17_0
              try clear hcz17_1
              try clear hcz17_2
              try clear hcz17_3
              try clear hcz17_4
              try clear hcz19_0
              try clear hcz19_1
              try clear hcz19_2
              try clear hcz19_3
              try clear hcz19_4
              try clear hcz21_0
              try clear hcz21_1
              try clear hcz21_2
              try clear hcz21_3
              try clear hcz21_4
              try clear hfz15_0
              try clear hfz15_1
              try clear hfz15_2
              try clear hfz15_3
              try clear hfz15_4
              try clear hfz17_0
              try clear hfz17_1
              try clear hfz17_2
              try clear hfz17_3
              try clear hfz17_4
              try clear hfz19_0
              try clear hfz19_1
              try clear hfz19_2
              try clear hfz19_3
              try clear hfz19_4
              try clear hfz21_0
              try clear hfz21_1
              try clear hfz21_2
              try clear hfz21_3
              try clear hfz21_4
              try clear p2
              try clear p6
              obtain ⟨x20_4, x22_4, rfl, HA, HK4, HO_2, HO_15, HO_17, HO_18, HO_20, BK704, HB⟩ := hrel
              cases gk with
              | zero => exact absurd HA.out (by simp [trefoilref22_Finish.l2])
              | succ k4 =>
               have H := HA.out
               clear HA
               simp only [trefoilref22_Finish.l2] at H
               by_cases c30 : x22_4 < t709
               ·rw [if_pos c30] at H
                have c30b0 : decide (x22_4 < t709) = true := decide_eq_true c30
                clear c30
                have H' := Aside0.mk H
                clear H
                go_wp2
                go_loopg [23, 24] k4 (fun kq v23 v24 w' => ∃ (x23_5 : Int) (x24_5 : Int), v23 = .int .u64 x23_5 ∧ v24 = .int .i64 x24_5 ∧ Aside0 (trefoilref22_Finish.l3 kq l2 t707 t708 t709 t710 t714 x18_2 x19_2 x20_4 x21_3 x22_4 x23_5 x24_5 a0_0 a0_1 a0_2 a0_3 a0_4 = some (r1, r2)) ∧ Aside0 (kq ≤ k4) ∧ Aside0 (Kd.V k26 26 w' w.heap.size (fun k_ => (P2_ k_ ∨ w.heap.size ≤ k_) ∧ some k_ ≠ (v712 : Value).ownBlock ∧ some k_ ≠ (v716 : Value).ownBlock ∧ some k_ ≠ (u18 : Value).ownBlock ∧ some k_ ≠ (u20 : Value).ownBlock ∧ k_ ≠ gb704) (.slice A2 l2.length c2) l2) ∧ Aside0 (Kd.R (Kd.int .u64) 35 w' w.heap.size (fun k_ => (w.heap.size ≤ k_) ∧ some k_ ≠ (v716 : Value).ownBlock ∧ some k_ ≠ (u20 : Value).ownBlock) v712 t710) ∧ Aside0 (Kd.R (Kd.int .u64) 35 w' w.heap.size (fun k_ => (w.heap.size ≤ k_) ∧ some k_ ≠ (v712 : Value).ownBlock ∧ some k_ ≠ (u20 : Value).ownBlock) v716 t714) ∧ Aside0 (Kd.N k26 26 w' w.heap.size (fun k_ => (P2_ k_ ∨ w.heap.size ≤ k_) ∧ some k_ ≠ (v712 : Value).ownBlock ∧ some k_ ≠ (v716 : Value).ownBlock ∧ some k_ ≠ (u20 : Value).ownBlock ∧ k_ ≠ gb704) u18 x18_2) ∧ Aside0 (Kd.R (Kd.int .u64) 35 w' w.heap.size (fun k_ => (w.heap.size ≤ k_) ∧ some k_ ≠ (v712 : Value).ownBlock ∧ some k_ ≠ (v716 : Value).ownBlock) u20 x20_4) ∧ Aside0 (w'.heap[gb704]? = some (.cells #[.int .i64 a0_0, .int .i64 a0_1, .int .i64 a0_2, .int .i64 a0_3, .int .i64 a0_4] 23 (0, 0))) ∧ Aside0 (Below w.heap.size w w'))
                case atStart => exact ⟨(0), (0), (zq40), (zq40), H', ⟨Nat.le_refl _⟩, ⟨HO_2.v⟩, ⟨HO_15.r⟩, ⟨HO_17.r⟩, ⟨HO_18.n⟩, ⟨HO_20.r⟩, ⟨zq33⟩, ⟨zq21⟩⟩
                case round =>
                 clear H'
                 try clear c1
                 try clear c2
                 try clear p2
                 try clear c3
                 try clear c4
                 try clear p6
                 try clear c7
                 try clear c7b0
                 try clear c7b1
                 try clear c10
                 try clear c10b0
                 try clear c10b1
                 try clear c12
                 try clear c12b0
                 try clear c12b1
                 try clear c23
                 try clear c23b0
                 try clear c23b1
                 try clear c27
                 try clear c28
                 try clear c28b0
                 try clear c29
                 try clear c29b0
                 try clear c30
                 try clear c30b0
                 try clear hcz15_0
                 try clear hcz15_1
                 try clear hcz15_2
                 try clear hcz15_3
                 try clear hcz15_4
                 try clear hcz17_0
                 try clear hcz17_1
                 try clear hcz17_2
                 try clear hcz17_3
                 try clear hcz17_4
                 try clear hcz19_0
                 try clear hcz19_1
                 try clear hcz19_2
                 try clear hcz19_3
                 try clear hcz19_4
                 try clear hcz21_0
                 try clear hcz21_1
                 try clear hcz21_2
                 try clear hcz21_3
                 try clear hcz21_4
                 try clear hfz15_0
                 try clear hfz15_1
                 try clear hfz15_2
                 try clear hfz15_3
                 try clear hfz15_4
                 try clear hfz17_0
                 try clear hfz17_1
                 try clear hfz17_2
                 try clear hfz17_3
                 try clear hfz17_4
                 try clear hfz19_0
                 try clear hfz19_1
                 try clear hfz19_2
                 try clear hfz19_3
                 try clear hfz19_4
                 try clear hfz21_0
                 try clear hfz21_1
                 try clear hfz21_2
                 try clear hfz21_3
                 try clear hfz21_4
                 try clear p2
                 try clear p6
                 obtain ⟨x23_5, x24_5, rfl, rfl, HA, HK5, HO_2, HO_15, HO_17, HO_18, HO_20, BK704, HB⟩ := hrel
                 cases gk with
                 | zero => exact absurd HA.out (by simp [trefoilref22_Finish.l3])
                 | succ k5 =>
                  have H := HA.out
                  clear HA
                  simp only [trefoilref22_Finish.l3] at H
                  by_cases c31 : x24_5 < t708
                  ·rw [if_pos c31] at H
                   have c31b0 : decide (x24_5 < t708) = true := decide_eq_true c31
                   clear c31
                   by_cases c32 : 0 ≤ x19_2
                   ·rw [if_pos c32] at H
                    have c32b0 : decide (0 ≤ x19_2) = true := decide_eq_true c32
                    clear c32
                    by_cases c33 : x19_2 < (l2.length : Int)
                    ·rw [if_pos c33] at H
                     have c33b0 : decide (x19_2 < (l2.length : Int)) = true := decide_eq_true c33
                     clear c33
                     obtain ⟨ji34, hji34⟩ : ∃ j_ : Int, (wrap64 ((wrap64 (x21_3 * t708)) + x24_5)) = j_ := ⟨_, rfl⟩
                     replace H : (if 0 ≤ (ji34) then (if (ji34) < (((rd_T26 l2 x19_2).f0).length : Int) then (if 0 ≤ (wrap64 ((wrap64 (x24_5 * t709)) + x22_4)) then (if (wrap64 ((wrap64 (x24_5 * t709)) + x22_4)) < (((rd_T26 l2 x19_2).f1).length : Int) then ((trefoilref03_Mul.f k5 a0_1 (rd ((rd_T26 l2 x19_2).f0) (ji34)) (rd ((rd_T26 l2 x19_2).f1) (wrap64 ((wrap64 (x24_5 * t709)) + x22_4)))).bind fun t730 => ((trefoilref03_Add.f k5 a0_1 x23_5 t730).bind fun t731 => (if 0 ≤ (wrap64 ((wrap64 ((wrap64 ((wrap64 ((wrap64 (x19_2 * t707)) * t708)) * t709)) + (wrap64 ((ji34) * t709)))) + x22_4)) then (if (wrap64 ((wrap64 ((wrap64 ((wrap64 ((wrap64 (x19_2 * t707)) * t708)) * t709)) + (wrap64 ((ji34) * t709)))) + x22_4)) < (t710.length : Int) then (if (wrap64 ((wrap64 ((wrap64 ((wrap64 ((wrap64 (x19_2 * t707)) * t708)) * t709)) + (wrap64 ((ji34) * t709)))) + x22_4)) < (t714.length : Int) then ((trefoilref03_Add.f k5 a0_1 (rd t710 (wrap64 ((wrap64 ((wrap64 ((wrap64 ((wrap64 (x19_2 * t707)) * t708)) * t709)) + (wrap64 ((ji34) * t709)))) + x22_4))) (rd t714 (wrap64 ((wrap64 ((wrap64 ((wrap64 ((wrap64 (x19_2 * t707)) * t708)) * t709)) + (wrap64 ((ji34) * t709)))) + x22_4)))).bind fun t734 => ((trefoilref03_Add.f k5 a0_1 t731 t734).bind fun t735 => (trefoilref22_Finish.l3 k5 l2 t707 t708 t709 t710 t714 x18_2 x19_2 x20_4 x21_3 x22_4 t735 (wrap64 (x24_5 + 1)) a0_0 a0_1 a0_2 a0_3 a0_4))) else (none)) else (none)) else (none)))) else (none)) else (none)) else (none)) else (none)) = some (r1, r2) := by first | (rw [hji34] at H; exact H) | (simp only [hji34] at H ⊢; exact H)
                     have hji34w : (IntKind.i64.wrap ((wrap64 (x21_3 * t708)) + x24_5)) = ji34 := (i64_w _).trans hji34
                     by_cases c35 : 0 ≤ (ji34)
                     ·rw [if_pos c35] at H
                      have c35b0 : decide (0 ≤ (ji34)) = true := decide_eq_true c35
                      clear c35
                      by_cases c36 : (ji34) < (((rd_T26 l2 x19_2).f0).length : Int)
                      ·rw [if_pos c36] at H
                       have c36b0 : decide ((ji34) < (((rd_T26 l2 x19_2).f0).length : Int)) = true := decide_eq_true c36
                       clear c36
                       obtain ⟨ji37, hji37⟩ : ∃ j_ : Int, (wrap64 ((wrap64 (x24_5 * t709)) + x22_4)) = j_ := ⟨_, rfl⟩
                       replace H : (if 0 ≤ (ji37) then (if (ji37) < (((rd_T26 l2 x19_2).f1).length : Int) then ((trefoilref03_Mul.f k5 a0_1 (rd ((rd_T26 l2 x19_2).f0) (ji34)) (rd ((rd_T26 l2 x19_2).f1) (ji37))).bind fun t730 => ((trefoilref03_Add.f k5 a0_1 x23_5 t730).bind fun t731 => (if 0 ≤ (wrap64 ((wrap64 ((wrap64 ((wrap64 ((wrap64 (x19_2 * t707)) * t708)) * t709)) + (wrap64 ((ji34) * t709)))) + x22_4)) then (if (wrap64 ((wrap64 ((wrap64 ((wrap64 ((wrap64 (x19_2 * t707)) * t708)) * t709)) + (wrap64 ((ji34) * t709)))) + x22_4)) < (t710.length : Int) then (if (wrap64 ((wrap64 ((wrap64 ((wrap64 ((wrap64 (x19_2 * t707)) * t708)) * t709)) + (wrap64 ((ji34) * t709)))) + x22_4)) < (t714.length : Int) then ((trefoilref03_Add.f k5 a0_1 (rd t710 (wrap64 ((wrap64 ((wrap64 ((wrap64 ((wrap64 (x19_2 * t707)) * t708)) * t709)) + (wrap64 ((ji34) * t709)))) + x22_4))) (rd t714 (wrap64 ((wrap64 ((wrap64 ((wrap64 ((wrap64 (x19_2 * t707)) * t708)) * t709)) + (wrap64 ((ji34) * t709)))) + x22_4)))).bind fun t734 => ((trefoilref03_Add.f k5 a0_1 t731 t734).bind fun t735 => (trefoilref22_Finish.l3 k5 l2 t707 t708 t709 t710 t714 x18_2 x19_2 x20_4 x21_3 x22_4 t735 (wrap64 (x24_5 + 1)) a0_0 a0_1 a0_2 a0_3 a0_4))) else (none)) else (none)) else (none)))) else (none)) else (none)) = some (r1, r2) := by first | (rw [hji37] at H; exact H) | (simp only [hji37] at H ⊢; exact H)
                       have hji37w : (IntKind.i64.wrap ((wrap64 (x24_5 * t709)) + x22_4)) = ji37 := (i64_w _).trans hji37
                       by_cases c38 : 0 ≤ (ji37)
                       ·rw [if_pos c38] at H
                        have c38b0 : decide (0 ≤ (ji37)) = true := decide_eq_true c38
                        clear c38
                        by_cases c39 : (ji37) < (((rd_T26 l2 x19_2).f1).length : Int)
                        ·rw [if_pos c39] at H
                         have c39b0 : decide ((ji37) < (((rd_T26 l2 x19_2).f1).length : Int)) = true := decide_eq_true c39
                         clear c39
                         replace H := Option.bind_eq_some_iff.mp H
                         obtain ⟨t730, A400, H⟩ := H
                         replace H : ((trefoilref03_Add.f k5 a0_1 x23_5 t730).bind fun t731 => (if 0 ≤ (wrap64 ((wrap64 ((wrap64 ((wrap64 ((wrap64 (x19_2 * t707)) * t708)) * t709)) + (wrap64 ((ji34) * t709)))) + x22_4)) then (if (wrap64 ((wrap64 ((wrap64 ((wrap64 ((wrap64 (x19_2 * t707)) * t708)) * t709)) + (wrap64 ((ji34) * t709)))) + x22_4)) < (t710.length : Int) then (if (wrap64 ((wrap64 ((wrap64 ((wrap64 ((wrap64 (x19_2 * t707)) * t708)) * t709)) + (wrap64 ((ji34) * t709)))) + x22_4)) < (t714.length : Int) then ((trefoilref03_Add.f k5 a0_1 (rd t710 (wrap64 ((wrap64 ((wrap64 ((wrap64 ((wrap64 (x19_2 * t707)) * t708)) * t709)) + (wrap64 ((ji34) * t709)))) + x22_4))) (rd t714 (wrap64 ((wrap64 ((wrap64 ((wrap64 ((wrap64 (x19_2 * t707)) * t708)) * t709)) + (wrap64 ((ji34) * t709)))) + x22_4)))).bind fun t734 => ((trefoilref03_Add.f k5 a0_1 t731 t734).bind fun t735 => (trefoilref22_Finish.l3 k5 l2 t707 t708 t709 t710 t714 x18_2 x19_2 x20_4 x21_3 x22_4 t735 (wrap64 (x24_5 + 1)) a0_0 a0_1 a0_2 a0_3 a0_4))) else (none)) else (none)) else (none))) = some (r1, r2) := H
                         have A40 := Aside0.mk A400
                         clear A400
                         replace H := Option.bind_eq_some_iff.mp H
                         obtain ⟨t731, A410, H⟩ := H
                         replace H : (if 0 ≤ (wrap64 ((wrap64 ((wrap64 ((wrap64 ((wrap64 (x19_2 * t707)) * t708)) * t709)) + (wrap64 ((ji34) * t709)))) + x22_4)) then (if (wrap64 ((wrap64 ((wrap64 ((wrap64 ((wrap64 (x19_2 * t707)) * t708)) * t709)) + (wrap64 ((ji34) * t709)))) + x22_4)) < (t710.length : Int) then (if (wrap64 ((wrap64 ((wrap64 ((wrap64 ((wrap64 (x19_2 * t707)) * t708)) * t709)) + (wrap64 ((ji34) * t709)))) + x22_4)) < (t714.length : Int) then ((trefoilref03_Add.f k5 a0_1 (rd t710 (wrap64 ((wrap64 ((wrap64 ((wrap64 ((wrap64 (x19_2 * t707)) * t708)) * t709)) + (wrap64 ((ji34) * t709)))) + x22_4))) (rd t714 (wrap64 ((wrap64 ((wrap64 ((wrap64 ((wrap64 (x19_2 * t707)) * t708)) * t709)) + (wrap64 ((ji34) * t709)))) + x22_4)))).bind fun t734 => ((trefoilref03_Add.f k5 a0_1 t731 t734).bind fun t735 => (trefoilref22_Finish.l3 k5 l2 t707 t708 t709 t710 t714 x18_2 x19_2 x20_4 x21_3 x22_4 t735 (wrap64 (x24_5 + 1)) a0_0 a0_1 a0_2 a0_3 a0_4))) else (none)) else (none)) else (none)) = some (r1, r2) := H
                         have A41 := Aside0.mk A410
                         clear A410
                         obtain ⟨ji42, hji42⟩ : ∃ j_ : Int, (wrap64 ((wrap64 ((wrap64 ((wrap64 ((wrap64 (x19_2 * t707)) * t708)) * t709)) + (wrap64 ((ji34) * t709)))) + x22_4)) = j_ := ⟨_, rfl⟩
                         replace H : (if 0 ≤ (ji42) then (if (ji42) < (t710.length : Int) then (if (ji42) < (t714.length : Int) then ((trefoilref03_Add.f k5 a0_1 (rd t710 (ji42)) (rd t714 (ji42))).bind fun t734 => ((trefoilref03_Add.f k5 a0_1 t731 t734).bind fun t735 => (trefoilref22_Finish.l3 k5 l2 t707 t708 t709 t710 t714 x18_2 x19_2 x20_4 x21_3 x22_4 t735 (wrap64 (x24_5 + 1)) a0_0 a0_1 a0_2 a0_3 a0_4))) else (none)) else (none)) else (none)) = some (r1, r2) := by first | (rw [hji42] at H; exact H) | (simp only [hji42] at H ⊢; exact H)
                         (try rw [hji42] at A40)
                         (try rw [hji42] at A41)
                         have hji42w : (IntKind.i64.wrap ((wrap64 ((wrap64 ((wrap64 ((wrap64 (x19_2 * t707)) * t708)) * t709)) + (wrap64 ((ji34) * t709)))) + x22_4)) = ji42 := (i64_w _).trans hji42
                         by_cases c43 : 0 ≤ (ji42)
                         ·rw [if_pos c43] at H
                          have c43b0 : decide (0 ≤ (ji42)) = true := decide_eq_true c43
                          clear c43
                          by_cases c44 : (ji42) < (t710.length : Int)
                          ·rw [if_pos c44] at H
                           have c44b0 : decide ((ji42) < (t710.length : Int)) = true := decide_eq_true c44
                           clear c44
                           by_cases c45 : (ji42) < (t714.length : Int)
                           ·rw [if_pos c45] at H
                            have c45b0 : decide ((ji42) < (t714.length : Int)) = true := decide_eq_true c45
                            clear c45
                            replace H := Option.bind_eq_some_iff.mp H
                            obtain ⟨t734, A460, H⟩ := H
                            replace H : ((trefoilref03_Add.f k5 a0_1 t731 t734).bind fun t735 => (trefoilref22_Finish.l3 k5 l2 t707 t708 t709 t710 t714 x18_2 x19_2 x20_4 x21_3 x22_4 t735 (wrap64 (x24_5 + 1)) a0_0 a0_1 a0_2 a0_3 a0_4)) = some (r1, r2) := H
                            have A46 := Aside0.mk A460
                            clear A460
                            replace H := Option.bind_eq_some_iff.mp H
                            obtain ⟨t735, A470, H⟩ := H
                            replace H : (trefoilref22_Finish.l3 k5 l2 t707 t708 t709 t710 t714 x18_2 x19_2 x20_4 x21_3 x22_4 t735 (wrap64 (x24_5 + 1)) a0_0 a0_1 a0_2 a0_3 a0_4) = some (r1, r2) := H
                            have A47 := Aside0.mk A470
                            clear A470
                            have H' := Aside0.mk H
                            clear H
                            try go_wp2
                            have n0_ := Aside0.mk (Kd.V_drew HO_2.out)
                            have n1_ := Aside0.mk (Kd.R_drew HO_15.out)
                            have n2_ := Aside0.mk (Kd.R_drew HO_17.out)
                            have n3_ := Aside0.mk (Kd.N_drew HO_18.out)
                            have n4_ := Aside0.mk (Kd.R_drew HO_20.out)
                            have n5_ := Aside0.mk (blk_drew BK704.out)
                            have n6_ := Aside0.mk (below_drew1 HB.out)
                            clear HO_2
                            clear HO_15
                            clear HO_17
                            clear HO_18
                            clear HO_20
                            clear BK704
                            clear HB
                            have HO_2 := n0_
                            have HO_15 := n1_
                            have HO_17 := n2_
                            have HO_18 := n3_
                            have HO_20 := n4_
                            have BK704 := n5_
                            have HB := n6_
                            clear n0_ n1_ n2_ n3_ n4_ n5_ n6_
                            have p726 : 0 ≤ (x19_2 : Int) := of_decide_eq_true (zq39)
                            have q726 : x19_2 < (l2.length : Int) := of_decide_eq_true (zq39)
                            obtain ⟨ad726, A726_0, c726_0, A726_1, c726_1, A726_2, c726_2, e726, hx726_0, hx726_1, hx726_2, hl726_0, hi726_0, hl726_1, hi726_1, hl726_2, hi726_2⟩ := at_T26 (Kd.V_reads' HO_2.out).2.2 x19_2 p726 q726
                            cases e726
                            obtain ⟨ce726, hce726, hMe726, hcc726⟩ := Kd.V_get HO_2.out z26 x19_2 p726 (by first | exact q726 | exact of_decide_eq_true (by first | (with_reducible assumption) | assumption) | (have e_ := (Kd.V_reads' HO_2.out).1; omega))
                            obtain ⟨ua726_0, uc726_0, ua726_1, uc726_1, ua726_2, uc726_2, rfl, ul726_0, ge726_0, ul726_1, ge726_1, ul726_2, ge726_2⟩ := k26_openF hMe726
                            have hv726_0 := hcc726 0 _ rfl
                            rw [Nat.add_zero] at hv726_0
                            replace hv726_0 := Option.some.inj (hv726_0.symm.trans hx726_0)
                            injection hv726_0 with hva_ hvn_ hvc_
                            rw [hva_] at ge726_0
                            rw [hvc_] at ul726_0
                            have HL726_0 := Aside0.mk (show Kd.V (Kd.int .u64) 35 _ w.heap.size _ _ ((rd_T26 l2 x19_2).f0) from Kd.V_mk ul726_0 ge726_0)
                            clear hva_ hvn_ hvc_ ge726_0 ul726_0
                            have hv726_1 := hcc726 1 _ rfl
                            rw [add_field _ _ 1 (by omega)] at hv726_1
                            replace hv726_1 := Option.some.inj (hv726_1.symm.trans hx726_1)
                            injection hv726_1 with hva_ hvn_ hvc_
                            rw [hva_] at ge726_1
                            rw [hvc_] at ul726_1
                            have HL726_1 := Aside0.mk (show Kd.V (Kd.int .u64) 35 _ w.heap.size _ _ ((rd_T26 l2 x19_2).f1) from Kd.V_mk ul726_1 ge726_1)
                            clear hva_ hvn_ hvc_ ge726_1 ul726_1
                            have hv726_2 := hcc726 2 _ rfl
                            rw [add_field _ _ 2 (by omega)] at hv726_2
                            replace hv726_2 := Option.some.inj (hv726_2.symm.trans hx726_2)
                            injection hv726_2 with hva_ hvn_ hvc_
                            rw [hva_] at ge726_2
                            rw [hvc_] at ul726_2
                            have HL726_2 := Aside0.mk (show Kd.V (Kd.int .u64) 35 _ w.heap.size _ _ ((rd_T26 l2 x19_2).f2) from Kd.V_mk ul726_2 ge726_2)
                            clear hva_ hvn_ hvc_ ge726_2 ul726_2
                            clear hcc726 hce726
                            have HR726_0 := Aside0.mk hi726_0
                            have HC726_0 := Aside0.mk hl726_0
                            clear hi726_0 hl726_0
                            have HR726_1 := Aside0.mk hi726_1
                            have HC726_1 := Aside0.mk hl726_1
                            clear hi726_1 hl726_1
                            have HR726_2 := Aside0.mk hi726_2
                            have HC726_2 := Aside0.mk hl726_2
                            clear hi726_2 hl726_2
                            replace p726 := eq_true p726
                            replace q726 := eq_true q726
                            have p727 : 0 ≤ ((ji34) : Int) := of_decide_eq_true (zq39)
                            have q727 : (ji34) < (((rd_T26 l2 x19_2).f0).length : Int) := of_decide_eq_true (zq39)
                            obtain ⟨ad727, e727, hx727_0⟩ := Kd.at_int (by repeat (first | (with_reducible exact HR726_0.out) | (with_reducible refine Kd.C_alloc ?_ _) | (with_reducible refine Kd.C_drewN ?_ _) | (with_reducible refine Kd.C_drew ?_) | exact HR726_0.out)) (ji34) p727 q727
                            cases e727
                            replace p727 := eq_true p727
                            replace q727 := eq_true q727
                            have p728 : 0 ≤ (x19_2 : Int) := of_decide_eq_true (zq39)
                            have q728 : x19_2 < (l2.length : Int) := of_decide_eq_true (zq39)
                            obtain ⟨ad728, A728_0, c728_0, A728_1, c728_1, A728_2, c728_2, e728, hx728_0, hx728_1, hx728_2, hl728_0, hi728_0, hl728_1, hi728_1, hl728_2, hi728_2⟩ := at_T26 (Kd.V_reads' HO_2.out).2.2 x19_2 p728 q728
                            obtain rfl : ad726 = ad728 := (by injection e728)
                            obtain ⟨ce728, hce728, hMe728, hcc728⟩ := Kd.V_get HO_2.out z26 x19_2 p728 (by first | exact q728 | exact of_decide_eq_true (by first | (with_reducible assumption) | assumption) | (have e_ := (Kd.V_reads' HO_2.out).1; omega))
                            obtain ⟨ua728_0, uc728_0, ua728_1, uc728_1, ua728_2, uc728_2, rfl, ul728_0, ge728_0, ul728_1, ge728_1, ul728_2, ge728_2⟩ := k26_openF hMe728
                            have hv728_0 := hcc728 0 _ rfl
                            rw [Nat.add_zero] at hv728_0
                            replace hv728_0 := Option.some.inj (hv728_0.symm.trans hx728_0)
                            injection hv728_0 with hva_ hvn_ hvc_
                            rw [hva_] at ge728_0
                            rw [hvc_] at ul728_0
                            have HL728_0 := Aside0.mk (show Kd.V (Kd.int .u64) 35 _ w.heap.size _ _ ((rd_T26 l2 x19_2).f0) from Kd.V_mk ul728_0 ge728_0)
                            clear hva_ hvn_ hvc_ ge728_0 ul728_0
                            have hv728_1 := hcc728 1 _ rfl
                            rw [add_field _ _ 1 (by omega)] at hv728_1
                            replace hv728_1 := Option.some.inj (hv728_1.symm.trans hx728_1)
                            injection hv728_1 with hva_ hvn_ hvc_
                            rw [hva_] at ge728_1
                            rw [hvc_] at ul728_1
                            have HL728_1 := Aside0.mk (show Kd.V (Kd.int .u64) 35 _ w.heap.size _ _ ((rd_T26 l2 x19_2).f1) from Kd.V_mk ul728_1 ge728_1)
                            clear hva_ hvn_ hvc_ ge728_1 ul728_1
                            have hv728_2 := hcc728 2 _ rfl
                            rw [add_field _ _ 2 (by omega)] at hv728_2
                            replace hv728_2 := Option.some.inj (hv728_2.symm.trans hx728_2)
                            injection hv728_2 with hva_ hvn_ hvc_
                            rw [hva_] at ge728_2
                            rw [hvc_] at ul728_2
                            have HL728_2 := Aside0.mk (show Kd.V (Kd.int .u64) 35 _ w.heap.size _ _ ((rd_T26 l2 x19_2).f2) from Kd.V_mk ul728_2 ge728_2)
                            clear hva_ hvn_ hvc_ ge728_2 ul728_2
                            clear hcc728 hce728
                            have HR728_0 := Aside0.mk hi728_0
                            have HC728_0 := Aside0.mk hl728_0
                            clear hi728_0 hl728_0
                            have HR728_1 := Aside0.mk hi728_1
                            have HC728_1 := Aside0.mk hl728_1
                            clear hi728_1 hl728_1
                            have HR728_2 := Aside0.mk hi728_2
                            have HC728_2 := Aside0.mk hl728_2
                            clear hi728_2 hl728_2
                            replace p728 := eq_true p728
                            replace q728 := eq_true q728
                            have ea_ := Option.some.inj (hx726_0.symm.trans hx728_0)
                            injection ea_ with ea_ en_ ec_
                            subst ea_
                            subst ec_
                            clear en_
                            have ea_ := Option.some.inj (hx726_1.symm.trans hx728_1)
                            injection ea_ with ea_ en_ ec_
                            subst ea_
                            subst ec_
                            clear en_
                            have ea_ := Option.some.inj (hx726_2.symm.trans hx728_2)
                            injection ea_ with ea_ en_ ec_
                            subst ea_
                            subst ec_
                            clear en_
                            have p729 : 0 ≤ ((ji37) : Int) := of_decide_eq_true (zq39)
                            have q729 : (ji37) < (((rd_T26 l2 x19_2).f1).length : Int) := of_decide_eq_true (zq39)
                            obtain ⟨ad729, e729, hx729_0⟩ := Kd.at_int (by repeat (first | (with_reducible exact HR728_1.out) | (with_reducible refine Kd.C_alloc ?_ _) | (with_reducible refine Kd.C_drewN ?_ _) | (with_reducible refine Kd.C_drew ?_) | exact HR728_1.out)) (ji37) p729 q729
                            cases e729
                            replace p729 := eq_true p729
                            replace q729 := eq_true q729
                            refine start_ (n := 32) (S := fun w' => w'.cell? ⟨gb704, 0, none⟩ = some (.int .i64 a0_0) ∧ w'.cell? ⟨gb704, 1, none⟩ = some (.int .i64 a0_1) ∧ w'.cell? ⟨gb704, 2, none⟩ = some (.int .i64 a0_2) ∧ w'.cell? ⟨gb704, 3, none⟩ = some (.int .i64 a0_3) ∧ w'.cell? ⟨gb704, 4, none⟩ = some (.int .i64 a0_4) ∧ w'.cell? (ad726.add ((x19_2).toNat * 3)) = some (.slice (some ad727) ((rd_T26 l2 x19_2).f0).length c726_0) ∧ w'.cell? ⟨(ad726.add ((x19_2).toNat * 3)).block, (ad726.add ((x19_2).toNat * 3)).off + 1, none⟩ = some (.slice (some ad729) ((rd_T26 l2 x19_2).f1).length c726_1) ∧ w'.cell? ⟨(ad726.add ((x19_2).toNat * 3)).block, (ad726.add ((x19_2).toNat * 3)).off + 2, none⟩ = some (.slice A726_2 ((rd_T26 l2 x19_2).f2).length c726_2) ∧ w'.cell? (ad727.add ((ji34)).toNat) = some (.int .u64 (rd ((rd_T26 l2 x19_2).f0) (ji34))) ∧ w'.cell? (ad726.add ((x19_2).toNat * 3)) = some (.slice (some ad727) ((rd_T26 l2 x19_2).f0).length c726_0) ∧ w'.cell? ⟨(ad726.add ((x19_2).toNat * 3)).block, (ad726.add ((x19_2).toNat * 3)).off + 1, none⟩ = some (.slice (some ad729) ((rd_T26 l2 x19_2).f1).length c726_1) ∧ w'.cell? ⟨(ad726.add ((x19_2).toNat * 3)).block, (ad726.add ((x19_2).toNat * 3)).off + 2, none⟩ = some (.slice A726_2 ((rd_T26 l2 x19_2).f2).length c726_2) ∧ w'.cell? (ad729.add ((ji37)).toNat) = some (.int .u64 (rd ((rd_T26 l2 x19_2).f1) (ji37)))) (ds := []) #[false, false, false, false, false, false, false, false, false, false, false, false, false, false, false, false, false, false, false, false, false, false, false, false, false, false, false, false, false, false, false, false] (zq47) rfl rfl ⟨(blk_cell BK704.out 0).trans rfl, (blk_cell BK704.out 1).trans rfl, (blk_cell BK704.out 2).trans rfl, (blk_cell BK704.out 3).trans rfl, (blk_cell BK704.out 4).trans rfl, hx726_0, hx726_1, hx726_2, hx727_0, hx728_0, hx728_1, hx728_2, hx729_0⟩ (fun hHeld => ?_); refine with_tabW trefoilref22_Finish.tab28 trefoilref22_Finish.bits28 (fun HT_ HW_ => ?_)
                            generalize wr.drew = w48 at HO_2 HO_15 HO_17 HO_18 HO_20 BK704 HB HL726_0 HL726_1 HL726_2 HL728_0 HL728_1 HL728_2 HR726_0 HR726_1 HR726_2 HR728_0 HR728_1 HR728_2 hx726_0 hx726_1 hx726_2 hx727_0 hx728_0 hx728_1 hx728_2 hx729_0 hHeld ⊢
                            refine pure_ (i := 0) (N := some 119) (v := ?_) (a' := ?_) #[true, false, false, false, false, false, false, false, false, false, false, false, false, false, false, false, false, false, false, false, false, false, false, false, false, false, false, false, false, false, false, false] rfl rfl (any_of HT_.out (zq47)) (fun _ _ _ h => h) (Or.inl ⟨by rfl, ?_⟩) ?_ ?_; rotate_left; exact zs0; rotate_left; exact zs1
                            refine pure_ (i := 2) (N := some 121) (v := ?_) (a' := ?_) #[true, false, true, false, false, false, false, false, false, false, false, false, false, false, false, false, false, false, false, false, false, false, false, false, false, false, false, false, false, false, false, false] rfl rfl (any_of HT_.out (zq47)) (fun _ _ _ h => h) (Or.inl ⟨by rfl, ?_⟩) ?_ ?_; rotate_left; exact zs0; rotate_left; exact zs1
                            refine pure_ (i := 3) (N := some 122) (v := ?_) (a' := ?_) #[true, false, true, true, false, false, false, false, false, false, false, false, false, false, false, false, false, false, false, false, false, false, false, false, false, false, false, false, false, false, false, false] rfl rfl (any_of HT_.out (zq47)) (fun _ _ _ h => h) (Or.inl ⟨by rfl, ?_⟩) ?_ ?_; rotate_left; exact zs0; rotate_left; exact zs1
                            refine pure_ (i := 5) (N := some 124) (v := ?_) (a' := ?_) #[true, false, true, true, false, true, false, false, false, false, false, false, false, false, false, false, false, false, false, false, false, false, false, false, false, false, false, false, false, false, false, false] rfl rfl (any_of HT_.out (zq47)) (fun _ _ _ h => h) (Or.inl ⟨by rfl, ?_⟩) ?_ ?_; rotate_left; exact zs0; rotate_left; exact zs1
                            refine pure_ (i := 6) (N := some 125) (v := ?_) (a' := ?_) #[true, false, true, true, false, true, true, false, false, false, false, false, false, false, false, false, false, false, false, false, false, false, false, false, false, false, false, false, false, false, false, false] rfl rfl (any_of HT_.out (zq47)) (fun _ _ _ h => h) (Or.inl ⟨by rfl, ?_⟩) ?_ ?_; rotate_left; exact zs0; rotate_left; exact zs1
                            refine pure_ (i := 7) (N := some 126) (v := ?_) (a' := ?_) #[true, false, true, true, false, true, true, true, false, false, false, false, false, false, false, false, false, false, false, false, false, false, false, false, false, false, false, false, false, false, false, false] rfl rfl (any_of HT_.out (zq47)) (fun _ _ _ h => h) (Or.inl ⟨by rfl, ?_⟩) ?_ ?_; rotate_left; exact zs0; rotate_left; exact zs1
                            refine pure_ (i := 8) (N := some 127) (v := ?_) (a' := ?_) #[true, false, true, true, false, true, true, true, true, false, false, false, false, false, false, false, false, false, false, false, false, false, false, false, false, false, false, false, false, false, false, false] rfl rfl (any_of HT_.out (zq47)) (fun _ _ _ h => h) (Or.inl ⟨by rfl, ?_⟩) ?_ ?_; rotate_left; exact zs0; rotate_left; exact zs1
                            refine pure_ (i := 10) (N := some 129) (v := ?_) (a' := ?_) #[true, false, true, true, false, true, true, true, true, false, true, false, false, false, false, false, false, false, false, false, false, false, false, false, false, false, false, false, false, false, false, false] rfl rfl (any_of HT_.out (zq47)) (fun _ _ _ h => h) (Or.inl ⟨by rfl, ?_⟩) ?_ ?_; rotate_left; exact zs0; rotate_left; exact zs1
                            refine pure_ (i := 11) (N := some 130) (v := ?_) (a' := ?_) #[true, false, true, true, false, true, true, true, true, false, true, true, false, false, false, false, false, false, false, false, false, false, false, false, false, false, false, false, false, false, false, false] rfl rfl (any_of HT_.out (zq47)) (fun _ _ _ h => h) (Or.inl ⟨by rfl, ?_⟩) ?_ ?_; rotate_left; exact zs0; rotate_left; exact zs1
                            refine pure_ (i := 12) (N := some 131) (v := ?_) (a' := ?_) #[true, false, true, true, false, true, true, true, true, false, true, true, true, false, false, false, false, false, false, false, false, false, false, false, false, false, false, false, false, false, false, false] rfl rfl (any_of HT_.out (zq47)) (fun _ _ _ h => h) (Or.inl ⟨by rfl, ?_⟩) ?_ ?_; rotate_left; exact zs0; rotate_left; exact zs1
                            refine pure_ (i := 13) (N := some 132) (v := ?_) (a' := ?_) #[true, false, true, true, false, true, true, true, true, false, true, true, true, true, false, false, false, false, false, false, false, false, false, false, false, false, false, false, false, false, false, false] rfl rfl (any_of HT_.out (zq47)) (fun _ _ _ h => h) (Or.inl ⟨by rfl, ?_⟩) ?_ ?_; rotate_left; exact zs0; rotate_left; exact zs1
                            refine pure_ (i := 14) (N := some 133) (v := ?_) (a' := ?_) #[true, false, true, true, false, true, true, true, true, false, true, true, true, true, true, false, false, false, false, false, false, false, false, false, false, false, false, false, false, false, false, false] rfl rfl (any_of HT_.out (zq47)) (fun _ _ _ h => h) (Or.inl ⟨by rfl, ?_⟩) ?_ ?_; rotate_left; exact zs0; rotate_left; exact zs1
                            refine pure_ (i := 17) (N := some 136) (v := ?_) (a' := ?_) #[true, false, true, true, false, true, true, true, true, false, true, true, true, true, true, false, false, true, false, false, false, false, false, false, false, false, false, false, false, false, false, false] rfl rfl (any_of HT_.out (zq47)) (fun _ _ _ h => h) (Or.inl ⟨by rfl, ?_⟩) ?_ ?_; rotate_left; exact zs0; rotate_left; exact zs1
                            refine pure_ (i := 18) (N := some 137) (v := ?_) (a' := ?_) #[true, false, true, true, false, true, true, true, true, false, true, true, true, true, true, false, false, true, true, false, false, false, false, false, false, false, false, false, false, false, false, false] rfl rfl (any_of HT_.out (zq47)) (fun _ _ _ h => h) (Or.inl ⟨by rfl, ?_⟩) ?_ ?_; rotate_left; exact zs0; rotate_left; exact zs1
                            refine pure_ (i := 19) (N := some 138) (v := ?_) (a' := ?_) #[true, false, true, true, false, true, true, true, true, false, true, true, true, true, true, false, false, true, true, true, false, false, false, false, false, false, false, false, false, false, false, false] rfl rfl (any_of HT_.out (zq47)) (fun _ _ _ h => h) (Or.inl ⟨by rfl, ?_⟩) ?_ ?_; rotate_left; exact zs0; rotate_left; exact zs1
                            refine pure_ (i := 20) (N := some 139) (v := ?_) (a' := ?_) #[true, false, true, true, false, true, true, true, true, false, true, true, true, true, true, false, false, true, true, true, true, false, false, false, false, false, false, false, false, false, false, false] rfl rfl (any_of HT_.out (zq47)) (fun _ _ _ h => h) (Or.inl ⟨by rfl, ?_⟩) ?_ ?_; rotate_left; exact zs0; rotate_left; exact zs1
                            refine pure_ (i := 22) (N := some 141) (v := ?_) (a' := ?_) #[true, false, true, true, false, true, true, true, true, false, true, true, true, true, true, false, false, true, true, true, true, false, true, false, false, false, false, false, false, false, false, false] rfl rfl (any_of HT_.out (zq47)) (fun _ _ _ h => h) (Or.inl ⟨by rfl, ?_⟩) ?_ ?_; rotate_left; exact zs0; rotate_left; exact zs1
                            refine pure_ (i := 23) (N := some 142) (v := ?_) (a' := ?_) #[true, false, true, true, false, true, true, true, true, false, true, true, true, true, true, false, false, true, true, true, true, false, true, true, false, false, false, false, false, false, false, false] rfl rfl (any_of HT_.out (zq47)) (fun _ _ _ h => h) (Or.inl ⟨by rfl, ?_⟩) ?_ ?_; rotate_left; exact zs0; rotate_left; exact zs1
                            refine pure_ (i := 24) (N := some 143) (v := ?_) (a' := ?_) #[true, false, true, true, false, true, true, true, true, false, true, true, true, true, true, false, false, true, true, true, true, false, true, true, true, false, false, false, false, false, false, false] rfl rfl (any_of HT_.out (zq47)) (fun _ _ _ h => h) (Or.inl ⟨by rfl, ?_⟩) ?_ ?_; rotate_left; exact zs0; rotate_left; exact zs1
                            refine pure_ (i := 25) (N := some 144) (v := ?_) (a' := ?_) #[true, false, true, true, false, true, true, true, true, false, true, true, true, true, true, false, false, true, true, true, true, false, true, true, true, true, false, false, false, false, false, false] rfl rfl (any_of HT_.out (zq47)) (fun _ _ _ h => h) (Or.inl ⟨by rfl, ?_⟩) ?_ ?_; rotate_left; exact zs0; rotate_left; exact zs1
                            refine pure_ (i := 26) (N := some 145) (v := ?_) (a' := ?_) #[true, false, true, true, false, true, true, true, true, false, true, true, true, true, true, false, false, true, true, true, true, false, true, true, true, true, true, false, false, false, false, false] rfl rfl (any_of HT_.out (zq47)) (fun _ _ _ h => h) (Or.inl ⟨by rfl, ?_⟩) ?_ ?_; rotate_left; exact zs0; rotate_left; exact zs1
                            refine take_ (i := 1) (N := some 120) (v := ?_) (a' := ?_) #[true, true, true, true, false, true, true, true, true, false, true, true, true, true, true, false, false, true, true, true, true, false, true, true, true, true, true, false, false, false, false, false] rfl rfl (take_ofW HT_.out HW_.out (zq47)) (fun _ _ _ h => h) (Or.inl ⟨by rfl, ?_⟩) hHeld ?_ ?_
                            rotate_left
                            ·rintro w' ⟨s0, s1, s2, s3, s4, s5, s6, s7, s8, s9, s10, s11, s12⟩
                             go_simp
                             with_reducible rfl
                            rotate_left
                            exact zs1
                            refine take_ (i := 4) (N := some 123) (v := ?_) (a' := ?_) #[true, true, true, true, true, true, true, true, true, false, true, true, true, true, true, false, false, true, true, true, true, false, true, true, true, true, true, false, false, false, false, false] rfl rfl (take_ofW HT_.out HW_.out (zq47)) (fun _ _ _ h => h) (Or.inl ⟨by rfl, ?_⟩) hHeld ?_ ?_
                            rotate_left
                            ·rintro w' ⟨s0, s1, s2, s3, s4, s5, s6, s7, s8, s9, s10, s11, s12⟩
                             go_simp
                             with_reducible rfl
                            rotate_left
                            exact zs1
                            refine take_ (i := 9) (N := some 128) (v := ?_) (a' := ?_) #[true, true, true, true, true, true, true, true, true, true, true, true, true, true, true, false, false, true, true, true, true, false, true, true, true, true, true, false, false, false, false, false] rfl rfl (take_ofW HT_.out HW_.out (zq47)) (fun _ _ _ h => h) (Or.inl ⟨by rfl, ?_⟩) hHeld ?_ ?_
                            rotate_left
                            ·rintro w' ⟨s0, s1, s2, s3, s4, s5, s6, s7, s8, s9, s10, s11, s12⟩
                             go_simp
                             with_reducible rfl
                            rotate_left
                            exact zs1
                            refine pure_ (i := 15) (N := some 134) (v := ?_) (a' := ?_) #[true, true, true, true, true, true, true, true, true, true, true, true, true, true, true, true, false, true, true, true, true, false, true, true, true, true, true, false, false, false, false, false] rfl rfl (any_of HT_.out (zq47)) (fun _ _ _ h => h) (Or.inl ⟨by rfl, ?_⟩) ?_ ?_; rotate_left; exact zs0; rotate_left; exact zs1
                            refine take_ (i := 16) (N := some 135) (v := ?_) (a' := ?_) #[true, true, true, true, true, true, true, true, true, true, true, true, true, true, true, true, true, true, true, true, true, false, true, true, true, true, true, false, false, false, false, false] rfl rfl (take_ofW HT_.out HW_.out (zq47)) (fun _ _ _ h => h) (Or.inl ⟨by rfl, ?_⟩) hHeld ?_ ?_
                            rotate_left
                            ·rintro w' ⟨s0, s1, s2, s3, s4, s5, s6, s7, s8, s9, s10, s11, s12⟩
                             go_simp
                             with_reducible rfl
                            rotate_left
                            exact zs1
                            refine take_ (i := 21) (N := some 140) (v := ?_) (a' := ?_) #[true, true, true, true, true, true, true, true, true, true, true, true, true, true, true, true, true, true, true, true, true, true, true, true, true, true, true, false, false, false, false, false] rfl rfl (take_ofW HT_.out HW_.out (zq47)) (fun _ _ _ h => h) (Or.inl ⟨by rfl, ?_⟩) hHeld ?_ ?_
                            rotate_left
                            ·rintro w' ⟨s0, s1, s2, s3, s4, s5, s6, s7, s8, s9, s10, s11, s12⟩
                             go_simp
                             with_reducible rfl
                            rotate_left
                            exact zs1
                            refine pure_ (i := 27) (N := some 146) (v := ?_) (a' := ?_) #[true, true, true, true, true, true, true, true, true, true, true, true, true, true, true, true, true, true, true, true, true, true, true, true, true, true, true, true, false, false, false, false] rfl rfl (any_of HT_.out (zq47)) (fun _ _ _ h => h) (Or.inl ⟨by rfl, ?_⟩) ?_ ?_; rotate_left; exact zs0; rotate_left; exact zs1
                            refine take_ (i := 28) (N := some 147) (v := ?_) (a' := ?_) #[true, true, true, true, true, true, true, true, true, true, true, true, true, true, true, true, true, true, true, true, true, true, true, true, true, true, true, true, true, false, false, false] rfl rfl (take_ofW HT_.out HW_.out (zq47)) (fun _ _ _ h => h) (Or.inl ⟨by rfl, ?_⟩) hHeld ?_ ?_
                            rotate_left
                            ·rintro w' ⟨s0, s1, s2, s3, s4, s5, s6, s7, s8, s9, s10, s11, s12⟩
                             go_simp
                             with_reducible rfl
                            rotate_left
                            exact zs1
                            refine one_ (i := 29) (N := some 148) #[true, true, true, true, true, true, true, true, true, true, true, true, true, true, true, true, true, true, true, true, true, true, true, true, true, true, true, true, true, true, false, false] rfl rfl (one_of HT_.out (zq47)) (by decide) (fun K hK => ?_)
                            refine goes_ Try.func74 (zq47) rfl #[.int .i64 a0_1, .int .u64 (rd ((rd_T26 l2 x19_2).f0) (ji34)), .int .u64 (rd ((rd_T26 l2 x19_2).f1) (ji37))] (by rfl) rfl rfl (by (try simp only [List.map_toArray, List.map_cons, List.map_nil]); first | done | (simp only [hji34, hji37]; rfl) | rfl | (simp only [List.length_drop, List.length_take]; rfl)) ?_
                            with_reducible refine (trefoilref03_Mul.calls k5 a0_1 (rd ((rd_T26 l2 x19_2).f0) (ji34)) (rd ((rd_T26 l2 x19_2).f1) (ji37)) t730 _ A40.out).mono ?_
                            rintro e w' ⟨rfl, ⟨nd, rfl⟩⟩
                            refine ⟨_, rfl, ?_⟩
                            refine hK.out _ _ ⟨(blk_cell BK704.out 0).trans rfl, (blk_cell BK704.out 1).trans rfl, (blk_cell BK704.out 2).trans rfl, (blk_cell BK704.out 3).trans rfl, (blk_cell BK704.out 4).trans rfl, hHeld.2.2.2.2.2.1, hHeld.2.2.2.2.2.2.1, hHeld.2.2.2.2.2.2.2.1, hHeld.2.2.2.2.2.2.2.2.1, hHeld.2.2.2.2.2.2.2.2.2.1, hHeld.2.2.2.2.2.2.2.2.2.2.1, hHeld.2.2.2.2.2.2.2.2.2.2.2.1, hHeld.2.2.2.2.2.2.2.2.2.2.2.2⟩ (fun hHeld => ?_)
                            clear hK K
                            refine norm_ (a' := ?_) ?_ ?_
                            rotate_left
                            ·show Act.put _ (some 148) _ = _
                             simp only [Act.put, List.setIfInBounds_toArray, List.set_cons_zero, List.set_cons_succ, i64_w, i32_w]
                             rfl
                            refine one_ (i := 30) (N := some 149) #[true, true, true, true, true, true, true, true, true, true, true, true, true, true, true, true, true, true, true, true, true, true, true, true, true, true, true, true, true, true, true, false] rfl rfl (one_of HT_.out (zq47)) (by decide) (fun K hK => ?_)
                            refine goes_ Try.func29 (zq47) rfl #[.int .i64 a0_1, .int .u64 x23_5, .int .u64 t730] (by rfl) rfl rfl (zq28) ?_
                            with_reducible refine (trefoilref03_Add.calls k5 a0_1 x23_5 t730 t731 _ A41.out).mono ?_
                            rintro e w' ⟨rfl, ⟨nd, rfl⟩⟩
                            refine ⟨_, rfl, ?_⟩
                            refine hK.out _ _ ⟨(blk_cell BK704.out 0).trans rfl, (blk_cell BK704.out 1).trans rfl, (blk_cell BK704.out 2).trans rfl, (blk_cell BK704.out 3).trans rfl, (blk_cell BK704.out 4).trans rfl, hHeld.2.2.2.2.2.1, hHeld.2.2.2.2.2.2.1, hHeld.2.2.2.2.2.2.2.1, hHeld.2.2.2.2.2.2.2.2.1, hHeld.2.2.2.2.2.2.2.2.2.1, hHeld.2.2.2.2.2.2.2.2.2.2.1, hHeld.2.2.2.2.2.2.2.2.2.2.2.1, hHeld.2.2.2.2.2.2.2.2.2.2.2.2⟩ (fun hHeld => ?_)
                            clear hK K
                            refine norm_ (a' := ?_) ?_ ?_
                            rotate_left
                            ·show Act.put _ (some 149) _ = _
                             simp only [Act.put, List.setIfInBounds_toArray, List.set_cons_zero, List.set_cons_succ, i64_w, i32_w]
                             rfl
                            refine pure_ (i := 31) (N := some 23) (v := ?_) (a' := ?_) #[true, true, true, true, true, true, true, true, true, true, true, true, true, true, true, true, true, true, true, true, true, true, true, true, true, true, true, true, true, true, true, true] rfl rfl (any_of HT_.out (zq47)) (fun _ _ _ h => h) (Or.inl ⟨by rfl, ?_⟩) ?_ ?_; rotate_left; exact zs0; rotate_left; exact zs1
                            refine done_ (done_of HT_.out (zq47)) ?_
                            try go_wp2
                            (try (rw [drewN_self w48]; generalize hq_ : World.drewN w48 _ = w48; have n0_ : Aside0 (Kd.V (Kd.int .u64) 35 w48 w.heap.size (fun k_ => (P2_ k_ ∨ w.heap.size ≤ k_) ∧ some k_ ≠ (v712 : Value).ownBlock ∧ some k_ ≠ (v716 : Value).ownBlock ∧ some k_ ≠ (u18 : Value).ownBlock ∧ some k_ ≠ (u20 : Value).ownBlock ∧ k_ ≠ gb704) (.slice (some ad727) ((rd_T26 l2 x19_2).f0).length c726_0) ((rd_T26 l2 x19_2).f0)) := ⟨by rw [← hq_]; exact HL726_0.v⟩; have n1_ : Aside0 (Kd.V (Kd.int .u64) 35 w48 w.heap.size (fun k_ => (P2_ k_ ∨ w.heap.size ≤ k_) ∧ some k_ ≠ (v712 : Value).ownBlock ∧ some k_ ≠ (v716 : Value).ownBlock ∧ some k_ ≠ (u18 : Value).ownBlock ∧ some k_ ≠ (u20 : Value).ownBlock ∧ k_ ≠ gb704) (.slice (some ad729) ((rd_T26 l2 x19_2).f1).length c726_1) ((rd_T26 l2 x19_2).f1)) := ⟨by rw [← hq_]; exact HL726_1.v⟩; have n2_ : Aside0 (Kd.V (Kd.int .u64) 35 w48 w.heap.size (fun k_ => (P2_ k_ ∨ w.heap.size ≤ k_) ∧ some k_ ≠ (v712 : Value).ownBlock ∧ some k_ ≠ (v716 : Value).ownBlock ∧ some k_ ≠ (u18 : Value).ownBlock ∧ some k_ ≠ (u20 : Value).ownBlock ∧ k_ ≠ gb704) (.slice A726_2 ((rd_T26 l2 x19_2).f2).length c726_2) ((rd_T26 l2 x19_2).f2)) := ⟨by rw [← hq_]; exact HL726_2.v⟩; have n3_ : Aside0 (Kd.V (Kd.int .u64) 35 w48 w.heap.size (fun k_ => (P2_ k_ ∨ w.heap.size ≤ k_) ∧ some k_ ≠ (v712 : Value).ownBlock ∧ some k_ ≠ (v716 : Value).ownBlock ∧ some k_ ≠ (u18 : Value).ownBlock ∧ some k_ ≠ (u20 : Value).ownBlock ∧ k_ ≠ gb704) (.slice (some ad727) ((rd_T26 l2 x19_2).f0).length c726_0) ((rd_T26 l2 x19_2).f0)) := ⟨by rw [← hq_]; exact HL728_0.v⟩; have n4_ : Aside0 (Kd.V (Kd.int .u64) 35 w48 w.heap.size (fun k_ => (P2_ k_ ∨ w.heap.size ≤ k_) ∧ some k_ ≠ (v712 : Value).ownBlock ∧ some k_ ≠ (v716 : Value).ownBlock ∧ some k_ ≠ (u18 : Value).ownBlock ∧ some k_ ≠ (u20 : Value).ownBlock ∧ k_ ≠ gb704) (.slice (some ad729) ((rd_T26 l2 x19_2).f1).length c726_1) ((rd_T26 l2 x19_2).f1)) := ⟨by rw [← hq_]; exact HL728_1.v⟩; have n5_ : Aside0 (Kd.V (Kd.int .u64) 35 w48 w.heap.size (fun k_ => (P2_ k_ ∨ w.heap.size ≤ k_) ∧ some k_ ≠ (v712 : Value).ownBlock ∧ some k_ ≠ (v716 : Value).ownBlock ∧ some k_ ≠ (u18 : Value).ownBlock ∧ some k_ ≠ (u20 : Value).ownBlock ∧ k_ ≠ gb704) (.slice A726_2 ((rd_T26 l2 x19_2).f2).length c726_2) ((rd_T26 l2 x19_2).f2)) := ⟨by rw [← hq_]; exact HL728_2.v⟩; have n6_ : Aside0 (Kd.R (Kd.int .u64) 35 w48 w.heap.size (fun k_ => (w.heap.size ≤ k_) ∧ some k_ ≠ (v716 : Value).ownBlock ∧ some k_ ≠ (u20 : Value).ownBlock) v712 t710) := ⟨by rw [← hq_]; exact HO_15.r⟩; have n7_ : Aside0 (Kd.R (Kd.int .u64) 35 w48 w.heap.size (fun k_ => (w.heap.size ≤ k_) ∧ some k_ ≠ (v712 : Value).ownBlock ∧ some k_ ≠ (u20 : Value).ownBlock) v716 t714) := ⟨by rw [← hq_]; exact HO_17.r⟩; have n8_ : Aside0 (Kd.N k26 26 w48 w.heap.size (fun k_ => (P2_ k_ ∨ w.heap.size ≤ k_) ∧ some k_ ≠ (v712 : Value).ownBlock ∧ some k_ ≠ (v716 : Value).ownBlock ∧ some k_ ≠ (u20 : Value).ownBlock ∧ k_ ≠ gb704) u18 x18_2) := ⟨by rw [← hq_]; exact HO_18.n⟩; have n9_ : Aside0 (Kd.V k26 26 w48 w.heap.size (fun k_ => (P2_ k_ ∨ w.heap.size ≤ k_) ∧ some k_ ≠ (v712 : Value).ownBlock ∧ some k_ ≠ (v716 : Value).ownBlock ∧ some k_ ≠ (u18 : Value).ownBlock ∧ some k_ ≠ (u20 : Value).ownBlock ∧ k_ ≠ gb704) (.slice (some ad726) l2.length c2) l2) := ⟨by rw [← hq_]; exact HO_2.v⟩; have n10_ : Aside0 (Kd.R (Kd.int .u64) 35 w48 w.heap.size (fun k_ => (w.heap.size ≤ k_) ∧ some k_ ≠ (v712 : Value).ownBlock ∧ some k_ ≠ (v716 : Value).ownBlock) u20 x20_4) := ⟨by rw [← hq_]; exact HO_20.r⟩; have n11_ : Aside0 (w48.heap[gb704]? = some (.cells #[.int .i64 a0_0, .int .i64 a0_1, .int .i64 a0_2, .int .i64 a0_3, .int .i64 a0_4] 23 (0, 0))) := ⟨by rw [← hq_]; exact (by (with_reducible repeat (first | refine blk_drewN ?_ _ | refine blk_drew ?_ | refine blk_alloc ?_ _)); exact BK704.out)⟩; have n12_ : Aside0 (Below w.heap.size w w48) := ⟨by rw [← hq_]; exact HB.bl⟩; have n13_ : Aside0 (Kd.C (Kd.int .u64) w48 (some ad727) ((rd_T26 l2 x19_2).f0).length ((rd_T26 l2 x19_2).f0)) := ⟨by rw [← hq_]; exact (by repeat (first | (with_reducible exact HR726_0.out) | (with_reducible refine Kd.C_alloc ?_ _) | (with_reducible refine Kd.C_drewN ?_ _) | (with_reducible refine Kd.C_drew ?_) | exact HR726_0.out))⟩; have n14_ : Aside0 (Kd.C (Kd.int .u64) w48 (some ad729) ((rd_T26 l2 x19_2).f1).length ((rd_T26 l2 x19_2).f1)) := ⟨by rw [← hq_]; exact (by repeat (first | (with_reducible exact HR726_1.out) | (with_reducible refine Kd.C_alloc ?_ _) | (with_reducible refine Kd.C_drewN ?_ _) | (with_reducible refine Kd.C_drew ?_) | exact HR726_1.out))⟩; have n15_ : Aside0 (Kd.C (Kd.int .u64) w48 A726_2 ((rd_T26 l2 x19_2).f2).length ((rd_T26 l2 x19_2).f2)) := ⟨by rw [← hq_]; exact (by repeat (first | (with_reducible exact HR726_2.out) | (with_reducible refine Kd.C_alloc ?_ _) | (with_reducible refine Kd.C_drewN ?_ _) | (with_reducible refine Kd.C_drew ?_) | exact HR726_2.out))⟩; have n16_ : Aside0 (Kd.C (Kd.int .u64) w48 (some ad727) ((rd_T26 l2 x19_2).f0).length ((rd_T26 l2 x19_2).f0)) := ⟨by rw [← hq_]; exact (by repeat (first | (with_reducible exact HR728_0.out) | (with_reducible refine Kd.C_alloc ?_ _) | (with_reducible refine Kd.C_drewN ?_ _) | (with_reducible refine Kd.C_drew ?_) | exact HR728_0.out))⟩; have n17_ : Aside0 (Kd.C (Kd.int .u64) w48 (some ad729) ((rd_T26 l2 x19_2).f1).length ((rd_T26 l2 x19_2).f1)) := ⟨by rw [← hq_]; exact (by repeat (first | (with_reducible exact HR728_1.out) | (with_reducible refine Kd.C_alloc ?_ _) | (with_reducible refine Kd.C_drewN ?_ _) | (with_reducible refine Kd.C_drew ?_) | exact HR728_1.out))⟩; have n18_ : Aside0 (Kd.C (Kd.int .u64) w48 A726_2 ((rd_T26 l2 x19_2).f2).length ((rd_T26 l2 x19_2).f2)) := ⟨by rw [← hq_]; exact (by repeat (first | (with_reducible exact HR728_2.out) | (with_reducible refine Kd.C_alloc ?_ _) | (with_reducible refine Kd.C_drewN ?_ _) | (with_reducible refine Kd.C_drew ?_) | exact HR728_2.out))⟩; clear HL726_0 HL726_1 HL726_2 HL728_0 HL728_1 HL728_2 HO_15 HO_17 HO_18 HO_2 HO_20 BK704 HB HR726_0 HR726_1 HR726_2 HR728_0 HR728_1 HR728_2 hq_; have HL726_0 := n0_; have HL726_1 := n1_; have HL726_2 := n2_; have HL728_0 := n3_; have HL728_1 := n4_; have HL728_2 := n5_; have HO_15 := n6_; have HO_17 := n7_; have HO_18 := n8_; have HO_2 := n9_; have HO_20 := n10_; have BK704 := n11_; have HB := n12_; have HR726_0 := n13_; have HR726_1 := n14_; have HR726_2 := n15_; have HR728_0 := n16_; have HR728_1 := n17_; have HR728_2 := n18_; clear n0_ n1_ n2_ n3_ n4_ n5_ n6_ n7_ n8_ n9_ n10_ n11_ n12_ n13_ n14_ n15_ n16_ n17_ n18_))
                            have n0_ := Aside0.mk (Kd.V_drew HO_2.out)
                            have n1_ := Aside0.mk (Kd.R_drew HO_15.out)
                            have n2_ := Aside0.mk (Kd.R_drew HO_17.out)
                            have n3_ := Aside0.mk (Kd.N_drew HO_18.out)
                            have n4_ := Aside0.mk (Kd.R_drew HO_20.out)
                            have n5_ := Aside0.mk (Kd.V_drew HL726_0.out)
                            have n6_ := Aside0.mk (Kd.V_drew HL726_1.out)
                            have n7_ := Aside0.mk (Kd.V_drew HL726_2.out)
                            have n8_ := Aside0.mk (Kd.V_drew HL728_0.out)
                            have n9_ := Aside0.mk (Kd.V_drew HL728_1.out)
                            have n10_ := Aside0.mk (Kd.V_drew HL728_2.out)
                            have n11_ := Aside0.mk (blk_drew BK704.out)
                            have n12_ := Aside0.mk (Kd.C_drew HR726_0.out)
                            have n13_ := Aside0.mk (Kd.C_drew HR726_1.out)
                            have n14_ := Aside0.mk (Kd.C_drew HR726_2.out)
                            have n15_ := Aside0.mk (Kd.C_drew HR728_0.out)
                            have n16_ := Aside0.mk (Kd.C_drew HR728_1.out)
                            have n17_ := Aside0.mk (Kd.C_drew HR728_2.out)
                            have n18_ := Aside0.mk (below_drew1 HB.out)
                            clear HO_2
                            clear HO_15
                            clear HO_17
                            clear HO_18
                            clear HO_20
                            clear HL726_0
                            clear HL726_1
                            clear HL726_2
                            clear HL728_0
                            clear HL728_1
                            clear HL728_2
                            clear BK704
                            clear HR726_0
                            clear HR726_1
                            clear HR726_2
                            clear HR728_0
                            clear HR728_1
                            clear HR728_2
                            clear HB
                            have HO_2 := n0_
                            have HO_15 := n1_
                            have HO_17 := n2_
                            have HO_18 := n3_
                            have HO_20 := n4_
                            have HL726_0 := n5_
                            have HL726_1 := n6_
                            have HL726_2 := n7_
                            have HL728_0 := n8_
                            have HL728_1 := n9_
                            have HL728_2 := n10_
                            have BK704 := n11_
                            have HR726_0 := n12_
                            have HR726_1 := n13_
                            have HR726_2 := n14_
                            have HR728_0 := n15_
                            have HR728_1 := n16_
                            have HR728_2 := n17_
                            have HB := n18_
                            clear n0_ n1_ n2_ n3_ n4_ n5_ n6_ n7_ n8_ n9_ n10_ n11_ n12_ n13_ n14_ n15_ n16_ n17_ n18_
                            obtain ⟨Ao50, co50, eo50⟩ := Kd.R_slice HO_15.out
                            (first | subst eo50 | (injection eo50 with f1_ f2_ f3_; have f4_ := f1_.symm; have f5_ := f3_.symm; clear f1_ f2_ f3_; subst f4_; subst f5_))
                            have p732 : 0 ≤ ((ji42) : Int) := of_decide_eq_true (zq39)
                            have q732 : (ji42) < (t710.length : Int) := of_decide_eq_true (zq39)
                            obtain ⟨ad732, e732, hx732_0⟩ := Kd.at_int (Kd.R_reads' HO_15.out).2.2 (ji42) p732 q732
                            cases e732
                            replace p732 := eq_true p732
                            replace q732 := eq_true q732
                            obtain ⟨Ao51, co51, eo51⟩ := Kd.R_slice HO_17.out
                            (first | subst eo51 | (injection eo51 with f1_ f2_ f3_; have f4_ := f1_.symm; have f5_ := f3_.symm; clear f1_ f2_ f3_; subst f4_; subst f5_))
                            have p733 : 0 ≤ ((ji42) : Int) := of_decide_eq_true (zq39)
                            have q733 : (ji42) < (t714.length : Int) := of_decide_eq_true (zq39)
                            obtain ⟨ad733, e733, hx733_0⟩ := Kd.at_int (Kd.R_reads' HO_17.out).2.2 (ji42) p733 q733
                            cases e733
                            replace p733 := eq_true p733
                            replace q733 := eq_true q733
                            refine start_ (n := 16) (S := fun w' => w'.cell? ⟨gb704, 0, none⟩ = some (.int .i64 a0_0) ∧ w'.cell? ⟨gb704, 1, none⟩ = some (.int .i64 a0_1) ∧ w'.cell? ⟨gb704, 2, none⟩ = some (.int .i64 a0_2) ∧ w'.cell? ⟨gb704, 3, none⟩ = some (.int .i64 a0_3) ∧ w'.cell? ⟨gb704, 4, none⟩ = some (.int .i64 a0_4) ∧ w'.cell? (ad732.add ((ji42)).toNat) = some (.int .u64 (rd t710 (ji42))) ∧ w'.cell? (ad733.add ((ji42)).toNat) = some (.int .u64 (rd t714 (ji42)))) (ds := []) ba10_0 (zq47) rfl rfl ⟨(blk_cell BK704.out 0).trans rfl, (blk_cell BK704.out 1).trans rfl, (blk_cell BK704.out 2).trans rfl, (blk_cell BK704.out 3).trans rfl, (blk_cell BK704.out 4).trans rfl, hx732_0, hx733_0⟩ (fun hHeld => ?_); refine with_tabW trefoilref22_Finish.tab29 trefoilref22_Finish.bits29 (fun HT_ HW_ => ?_)
                            generalize w48.drew = w49 at HO_2 HO_15 HO_17 HO_18 HO_20 HL726_0 HL726_1 HL726_2 HL728_0 HL728_1 HL728_2 BK704 HR726_0 HR726_1 HR726_2 HR728_0 HR728_1 HR728_2 HB hx732_0 hx733_0 hHeld ⊢
                            refine pure_ (i := 0) (N := some 150) (v := ?_) (a' := ?_) ba10_1 rfl rfl (any_of HT_.out (zq47)) (fun _ _ _ h => h) (Or.inl ⟨by rfl, ?_⟩) ?_ ?_; rotate_left; exact zs0; rotate_left; exact zs1
                            refine pure_ (i := 2) (N := some 152) (v := ?_) (a' := ?_) #[true, false, true, false, false, false, false, false, false, false, false, false, false, false, false, false] rfl rfl (any_of HT_.out (zq47)) (fun _ _ _ h => h) (Or.inl ⟨by rfl, ?_⟩) ?_ ?_; rotate_left; exact zs0; rotate_left; exact zs1
                            refine pure_ (i := 3) (N := some 153) (v := ?_) (a' := ?_) #[true, false, true, true, false, false, false, false, false, false, false, false, false, false, false, false] rfl rfl (any_of HT_.out (zq47)) (fun _ _ _ h => h) (Or.inl ⟨by rfl, ?_⟩) ?_ ?_; rotate_left; exact zs0; rotate_left; exact zs1
                            refine pure_ (i := 5) (N := some 155) (v := ?_) (a' := ?_) #[true, false, true, true, false, true, false, false, false, false, false, false, false, false, false, false] rfl rfl (any_of HT_.out (zq47)) (fun _ _ _ h => h) (Or.inl ⟨by rfl, ?_⟩) ?_ ?_; rotate_left; exact zs0; rotate_left; exact zs1
                            refine pure_ (i := 6) (N := some 156) (v := ?_) (a' := ?_) #[true, false, true, true, false, true, true, false, false, false, false, false, false, false, false, false] rfl rfl (any_of HT_.out (zq47)) (fun _ _ _ h => h) (Or.inl ⟨by rfl, ?_⟩) ?_ ?_; rotate_left; exact zs0; rotate_left; exact zs1
                            refine pure_ (i := 7) (N := some 157) (v := ?_) (a' := ?_) #[true, false, true, true, false, true, true, true, false, false, false, false, false, false, false, false] rfl rfl (any_of HT_.out (zq47)) (fun _ _ _ h => h) (Or.inl ⟨by rfl, ?_⟩) ?_ ?_; rotate_left; exact zs0; rotate_left; exact zs1
                            refine pure_ (i := 9) (N := some 159) (v := ?_) (a' := ?_) #[true, false, true, true, false, true, true, true, false, true, false, false, false, false, false, false] rfl rfl (any_of HT_.out (zq47)) (fun _ _ _ h => h) (Or.inl ⟨by rfl, ?_⟩) ?_ ?_; rotate_left; exact zs0; rotate_left; exact zs1
                            refine pure_ (i := 10) (N := some 160) (v := ?_) (a' := ?_) #[true, false, true, true, false, true, true, true, false, true, true, false, false, false, false, false] rfl rfl (any_of HT_.out (zq47)) (fun _ _ _ h => h) (Or.inl ⟨by rfl, ?_⟩) ?_ ?_; rotate_left; exact zs0; rotate_left; exact zs1
                            refine pure_ (i := 11) (N := some 161) (v := ?_) (a' := ?_) #[true, false, true, true, false, true, true, true, false, true, true, true, false, false, false, false] rfl rfl (any_of HT_.out (zq47)) (fun _ _ _ h => h) (Or.inl ⟨by rfl, ?_⟩) ?_ ?_; rotate_left; exact zs0; rotate_left; exact zs1
                            refine take_ (i := 1) (N := some 151) (v := ?_) (a' := ?_) #[true, true, true, true, false, true, true, true, false, true, true, true, false, false, false, false] rfl rfl (take_ofW HT_.out HW_.out (zq47)) (fun _ _ _ h => h) (Or.inl ⟨by rfl, ?_⟩) hHeld ?_ ?_
                            rotate_left
                            ·rintro w' ⟨s0, s1, s2, s3, s4, s5, s6⟩
                             go_simp
                             with_reducible rfl
                            rotate_left
                            exact zs1
                            refine take_ (i := 4) (N := some 154) (v := ?_) (a' := ?_) #[true, true, true, true, true, true, true, true, false, true, true, true, false, false, false, false] rfl rfl (take_ofW HT_.out HW_.out (zq47)) (fun _ _ _ h => h) (Or.inl ⟨by rfl, ?_⟩) hHeld ?_ ?_
                            rotate_left
                            ·rintro w' ⟨s0, s1, s2, s3, s4, s5, s6⟩
                             go_simp
                             with_reducible rfl
                            rotate_left
                            exact zs1
                            refine take_ (i := 8) (N := some 158) (v := ?_) (a' := ?_) ba10_2 rfl rfl (take_ofW HT_.out HW_.out (zq47)) (fun _ _ _ h => h) (Or.inl ⟨by rfl, ?_⟩) hHeld ?_ ?_
                            rotate_left
                            ·rintro w' ⟨s0, s1, s2, s3, s4, s5, s6⟩
                             go_simp
                             with_reducible rfl
                            rotate_left
                            exact zs1
                            refine take_ (i := 12) (N := some 162) (v := ?_) (a' := ?_) ba10_3 rfl rfl (take_ofW HT_.out HW_.out (zq47)) (fun _ _ _ h => h) (Or.inl ⟨by rfl, ?_⟩) hHeld ?_ ?_
                            rotate_left
                            ·rintro w' ⟨s0, s1, s2, s3, s4, s5, s6⟩
                             go_simp
                             with_reducible rfl
                            rotate_left
                            exact zs1
                            refine one_ (i := 13) (N := some 163) ba10_4 rfl rfl (one_of HT_.out (zq47)) (by decide) (fun K hK => ?_)
                            refine goes_ Try.func29 (zq47) rfl #[.int .i64 a0_1, .int .u64 (rd t710 (ji42)), .int .u64 (rd t714 (ji42))] (by rfl) rfl rfl (by (try simp only [List.map_toArray, List.map_cons, List.map_nil]); first | done | (simp only [hji42]; rfl) | rfl | (simp only [List.length_drop, List.length_take]; rfl)) ?_
                            with_reducible refine (trefoilref03_Add.calls k5 a0_1 (rd t710 (ji42)) (rd t714 (ji42)) t734 _ A46.out).mono ?_
                            rintro e w' ⟨rfl, ⟨nd, rfl⟩⟩
                            refine ⟨_, rfl, ?_⟩
                            refine hK.out _ _ ⟨(blk_cell BK704.out 0).trans rfl, (blk_cell BK704.out 1).trans rfl, (blk_cell BK704.out 2).trans rfl, (blk_cell BK704.out 3).trans rfl, (blk_cell BK704.out 4).trans rfl, hHeld.2.2.2.2.2.1, hHeld.2.2.2.2.2.2⟩ (fun hHeld => ?_)
                            clear hK K
                            refine norm_ (a' := ?_) ?_ ?_
                            rotate_left
                            ·show Act.put _ (some 163) _ = _
                             simp only [Act.put, List.setIfInBounds_toArray, List.set_cons_zero, List.set_cons_succ, i64_w, i32_w]
                             rfl
                            refine one_ (i := 14) (N := some 164) ba10_5 rfl rfl (one_of HT_.out (zq47)) (by decide) (fun K hK => ?_)
                            refine goes_ Try.func29 (zq47) rfl #[.int .i64 a0_1, .int .u64 t731, .int .u64 t734] (by rfl) rfl rfl (zq28) ?_
                            with_reducible refine (trefoilref03_Add.calls k5 a0_1 t731 t734 t735 _ A47.out).mono ?_
                            rintro e w' ⟨rfl, ⟨nd, rfl⟩⟩
                            refine ⟨_, rfl, ?_⟩
                            refine hK.out _ _ ⟨(blk_cell BK704.out 0).trans rfl, (blk_cell BK704.out 1).trans rfl, (blk_cell BK704.out 2).trans rfl, (blk_cell BK704.out 3).trans rfl, (blk_cell BK704.out 4).trans rfl, hHeld.2.2.2.2.2.1, hHeld.2.2.2.2.2.2⟩ (fun hHeld => ?_)
                            clear hK K
                            refine norm_ (a' := ?_) ?_ ?_
                            rotate_left
                            ·show Act.put _ (some 164) _ = _
                             simp only [Act.put, List.setIfInBounds_toArray, List.set_cons_zero, List.set_cons_succ, i64_w, i32_w]
                             rfl
                            refine pure_ (i := 15) (N := some 23) (v := ?_) (a' := ?_) ba10_6 rfl rfl (any_of HT_.out (zq47)) (fun _ _ _ h => h) (Or.inl ⟨by rfl, ?_⟩) ?_ ?_; rotate_left; exact zs0; rotate_left; exact zs1
                            refine done_ (done_of HT_.out (zq47)) ?_
                            try go_wp2
                            go_roundg k5
                            case measure => have := HJ12.out; have := HK2.out; have := HK3.out; have := HK4.out; have := HK5.out; omega
                            case rel => exact ⟨(t735), (wrap64 (x24_5 + 1)), (zq40), (zq40), H', ⟨by have := HJ12.out; have := HK2.out; have := HK3.out; have := HK4.out; have := HK5.out; omega⟩, ⟨HO_2.v⟩, ⟨HO_15.r⟩, ⟨HO_17.r⟩, ⟨HO_18.n⟩, ⟨HO_20.r⟩, ⟨zq33⟩, ⟨zq21⟩⟩
                           ·rw [if_neg c45] at H
                            exact absurd H (by simp)
                          ·rw [if_neg c44] at H
                           exact absurd H (by simp)
                         ·rw [if_neg c43] at H
                          exact absurd H (by simp)
                        ·rw [if_neg c39] at H
                         exact absurd H (by simp)
                       ·rw [if_neg c38] at H
                        exact absurd H (by simp)
                      ·rw [if_neg c36] at H
                       exact absurd H (by simp)
                     ·rw [if_neg c35] at H
                      exact absurd H (by simp)
                    ·rw [if_neg c33] at H
                     exact absurd H (by simp)
                   ·rw [if_neg c32] at H
                    exact absurd H (by simp)
                  ·rw [if_neg c31] at H
                   have c31b0 : decide (x24_5 < t708) = false := decide_eq_false c31
                   clear c31
                   by_cases c52 : x20_4.length < 17592186044416
                   ·rw [if_pos c52] at H
                    have LMc52 := Aside0.mk c52
                    clear c52
                    obtain ⟨y723, hy723⟩ : ∃ y_ : List Int, y_ = (x20_4 ++ [x23_5]) := ⟨_, rfl⟩
                    replace H : (trefoilref22_Finish.l2 k5 l2 t707 t708 t709 t710 t714 x18_2 x19_2 y723 x21_3 (wrap64 (x22_4 + 1)) a0_0 a0_1 a0_2 a0_3 a0_4) = some (r1, r2) := by first | (rw [hy723]; with_reducible exact H) | (have H2_ := (Option.bind_some _ _).symm.trans H; rw [hy723]; with_reducible exact H2_) | (have H2_ := (Option.bind_some _ _).symm.trans H; with_reducible exact H2_) | with_reducible exact H | (rw [hy723]; exact H) | exact H
                    have Ny723 := Aside0.mk hy723
                    clear hy723
                    have H' := Aside0.mk H
                    clear H
                    go_wp2_with (first | ((with_reducible refine gate_builtin (b := .append) (xs := #[.tmp 165, .tmp 167]) rfl ?_); (try (refine gate_guard (by rfl) ?_; dsimp only)); at_builtin; refine Kd.R_append (Kd.int .u64) (w0 := w) w.heap.size rfl (.tmp 165) (.tmp 167) 24 35 (.int .u64 0) 8 rfl Try.underlying24 info35 rfl (by decide) (by omega) u20 x20_4 x23_5 [.int .u64 x23_5] (fun k_ => (w.heap.size ≤ k_) ∧ some k_ ≠ (v712 : Value).ownBlock ∧ some k_ ≠ (v716 : Value).ownBlock) (fun _ => False) rfl rfl ?aP (fun _ hk => hk.elim) ?aF ?aO ?aB ?aS ?aL ?_; (case aP => exact rfl); (case aB => exact HB.bl); (case aF => exact (fun k_ hk => ⟨(Nat.le_trans (below_size HB.bl) hk), Kd.fresh' (Kd.R_lt HO_15.r) k_ hk, Kd.fresh' (Kd.R_lt HO_17.r) k_ hk⟩)); (case aO => exact HO_20.r); (case aS => exact (below_size HB.bl)); (case aL => have := LMc52.out; omega); intro v724 w53 ho hb hg hat; rw [← Ny723.out] at ho; replace HO_2 := Aside0.mk (Kd.V_afterv (ok := (fun k_ => (P2_ k_ ∨ w.heap.size ≤ k_) ∧ some k_ ≠ (v712 : Value).ownBlock ∧ some k_ ≠ (v716 : Value).ownBlock ∧ some k_ ≠ (u18 : Value).ownBlock ∧ k_ ≠ gb704)) (by (with_reducible repeat (first | apply Kd.V_alloc | apply Kd.V_drewN | apply Kd.V_drew)); exact Kd.V_mono HO_2.out (fun _ hk => ⟨⟨hk.1, ⟨hk.2.1, ⟨hk.2.2.1, ⟨hk.2.2.2.1, hk.2.2.2.2.2⟩⟩⟩⟩, hk.2.2.2.2.1⟩)) hg hat); replace HO_15 := Aside0.mk (Kd.R_after (ok := (fun k_ => (w.heap.size ≤ k_) ∧ some k_ ≠ (v716 : Value).ownBlock)) (by (with_reducible repeat (first | apply Kd.R_alloc | apply Kd.R_drewN | apply Kd.R_drew)); exact Kd.R_mono HO_15.out (fun _ hk => ⟨⟨hk.1, hk.2.1⟩, hk.2.2⟩)) hg hat); replace HO_17 := Aside0.mk (Kd.R_after (ok := (fun k_ => (w.heap.size ≤ k_) ∧ some k_ ≠ (v712 : Value).ownBlock)) (by (with_reducible repeat (first | apply Kd.R_alloc | apply Kd.R_drewN | apply Kd.R_drew)); exact Kd.R_mono HO_17.out (fun _ hk => ⟨⟨hk.1, hk.2.1⟩, hk.2.2⟩)) hg hat); replace HO_18 := Aside0.mk (Kd.N_afterv (ok := (fun k_ => (P2_ k_ ∨ w.heap.size ≤ k_) ∧ some k_ ≠ (v712 : Value).ownBlock ∧ some k_ ≠ (v716 : Value).ownBlock ∧ k_ ≠ gb704)) (by (with_reducible repeat (first | apply Kd.N_alloc | apply Kd.N_drewN | apply Kd.N_drew)); exact Kd.N_mono HO_18.out (fun _ hk => ⟨⟨hk.1, ⟨hk.2.1, ⟨hk.2.2.1, hk.2.2.2.2⟩⟩⟩, hk.2.2.2.1⟩)) hg hat); replace BK704 := Aside0.mk (blk_grown (g := gb704) (o := .cells #[.int .i64 a0_0, .int .i64 a0_1, .int .i64 a0_2, .int .i64 a0_3, .int .i64 a0_4] 23 (0, 0)) (zq33) hg (Kd.R_ne HO_20.out BK704.out (by decide))); replace HB := Aside0.mk (hb); have HO725 := Aside0.mk (ho); clear HO_20; clear ho hb hg hat))
                    go_roundg k5
                    case measure => have := HJ12.out; have := HK2.out; have := HK3.out; have := HK4.out; have := HK5.out; omega
                    case rel => exact ⟨(y723), (wrap64 (x22_4 + 1)), (zq40), H', ⟨by have := HJ12.out; have := HK2.out; have := HK3.out; have := HK4.out; have := HK5.out; omega⟩, ⟨by (with_reducible repeat (first | apply Kd.V_alloc | apply Kd.V_drewN | apply Kd.V_drew)); exact Kd.V_mono HO_2.out (fun _ hk => ⟨hk.1.1, ⟨hk.1.2.1, ⟨hk.1.2.2.1, ⟨hk.1.2.2.2.1, ⟨hk.2, hk.1.2.2.2.2⟩⟩⟩⟩⟩)⟩, ⟨by (with_reducible repeat (first | apply Kd.R_alloc | apply Kd.R_drewN | apply Kd.R_drew)); exact Kd.R_mono HO_15.out (fun _ hk => ⟨hk.1.1, ⟨hk.1.2, hk.2⟩⟩)⟩, ⟨by (with_reducible repeat (first | apply Kd.R_alloc | apply Kd.R_drewN | apply Kd.R_drew)); exact Kd.R_mono HO_17.out (fun _ hk => ⟨hk.1.1, ⟨hk.1.2, hk.2⟩⟩)⟩, ⟨by (with_reducible repeat (first | apply Kd.N_alloc | apply Kd.N_drewN | apply Kd.N_drew)); exact Kd.N_mono HO_18.out (fun _ hk => ⟨hk.1.1, ⟨hk.1.2.1, ⟨hk.1.2.2.1, ⟨hk.2, hk.1.2.2.2⟩⟩⟩⟩)⟩, ⟨HO725.r⟩, ⟨zq33⟩, ⟨zq21⟩⟩
                   ·rw [if_neg c52] at H
                    exact absurd H (by simp)
               ·rw [if_neg c30] at H
                have c30b0 : decide (x22_4 < t709) = false := decide_eq_false c30
                clear c30
                have H' := Aside0.mk H
                clear H
                go_wp2
                go_roundg k4
                case measure => have := HJ12.out; have := HK2.out; have := HK3.out; have := HK4.out; omega
                case rel => exact ⟨(x20_4), (wrap64 (x21_3 + 1)), (zq40), H', ⟨by have := HJ12.out; have := HK2.out; have := HK3.out; have := HK4.out; omega⟩, ⟨HO_2.v⟩, ⟨HO_15.r⟩, ⟨HO_17.r⟩, ⟨HO_18.n⟩, ⟨HO_20.r⟩, ⟨zq33⟩, ⟨zq21⟩⟩
            ·rw [if_neg c29] at H
             have c29b0 : decide (x21_3 < t707) = false := decide_eq_false c29
             clear c29
             by_cases c54 : 0 ≤ x19_2
             ·rw [if_pos c54] at H
              have c54b0 : decide (0 ≤ x19_2) = true := decide_eq_true c54
              clear c54
              by_cases c55 : x19_2 < (l2.length : Int)
              ·rw [if_pos c55] at H
               have c55b0 : decide (x19_2 < (l2.length : Int)) = true := decide_eq_true c55
               clear c55
               by_cases c56 : x18_2.length < 1954687338268
               ·rw [if_pos c56] at H
                have LMc56 := Aside0.mk c56
                clear c56
                obtain ⟨y720, hy720⟩ : ∃ y_ : List (S26), y_ = (x18_2 ++ [(⟨(rd_T26 l2 x19_2).f0, (rd_T26 l2 x19_2).f1, x20_3⟩ : S26)]) := ⟨_, rfl⟩
                replace H : (trefoilref22_Finish.l0 k3 l2 t707 t708 t709 t710 t714 y720 (wrap64 (x19_2 + 1)) a0_0 a0_1 a0_2 a0_3 a0_4) = some (r1, r2) := by first | (rw [hy720]; with_reducible exact H) | (have H2_ := (Option.bind_some _ _).symm.trans H; rw [hy720]; with_reducible exact H2_) | (have H2_ := (Option.bind_some _ _).symm.trans H; with_reducible exact H2_) | with_reducible exact H | (rw [hy720]; exact H) | exact H
                have Ny720 := Aside0.mk hy720
                clear hy720
                have H' := Aside0.mk H
                clear H
                try go_wp2
                have n0_ := Aside0.mk (Kd.V_drew HO_2.out)
                have n1_ := Aside0.mk (Kd.R_drew HO_15.out)
                have n2_ := Aside0.mk (Kd.R_drew HO_17.out)
                have n3_ := Aside0.mk (Kd.N_drew HO_18.out)
                have n4_ := Aside0.mk (Kd.R_drew HO_20.out)
                have n5_ := Aside0.mk (blk_drew BK704.out)
                have n6_ := Aside0.mk (below_drew1 HB.out)
                clear HO_2
                clear HO_15
                clear HO_17
                clear HO_18
                clear HO_20
                clear BK704
                clear HB
                have HO_2 := n0_
                have HO_15 := n1_
                have HO_17 := n2_
                have HO_18 := n3_
                have HO_20 := n4_
                have BK704 := n5_
                have HB := n6_
                clear n0_ n1_ n2_ n3_ n4_ n5_ n6_
                have p718 : 0 ≤ (x19_2 : Int) := of_decide_eq_true (zq39)
                have q718 : x19_2 < (l2.length : Int) := of_decide_eq_true (zq39)
                obtain ⟨ad718, A718_0, c718_0, A718_1, c718_1, A718_2, c718_2, e718, hx718_0, hx718_1, hx718_2, hl718_0, hi718_0, hl718_1, hi718_1, hl718_2, hi718_2⟩ := at_T26 (Kd.V_reads' HO_2.out).2.2 x19_2 p718 q718
                cases e718
                obtain ⟨ce718, hce718, hMe718, hcc718⟩ := Kd.V_get HO_2.out z26 x19_2 p718 (by first | exact q718 | exact of_decide_eq_true (by first | (with_reducible assumption) | assumption) | (have e_ := (Kd.V_reads' HO_2.out).1; omega))
                obtain ⟨ua718_0, uc718_0, ua718_1, uc718_1, ua718_2, uc718_2, rfl, ul718_0, ge718_0, ul718_1, ge718_1, ul718_2, ge718_2⟩ := k26_openF hMe718
                have hv718_0 := hcc718 0 _ rfl
                rw [Nat.add_zero] at hv718_0
                replace hv718_0 := Option.some.inj (hv718_0.symm.trans hx718_0)
                injection hv718_0 with hva_ hvn_ hvc_
                rw [hva_] at ge718_0
                rw [hvc_] at ul718_0
                have HL718_0 := Aside0.mk (show Kd.V (Kd.int .u64) 35 _ w.heap.size _ _ ((rd_T26 l2 x19_2).f0) from Kd.V_mk ul718_0 ge718_0)
                clear hva_ hvn_ hvc_ ge718_0 ul718_0
                have hv718_1 := hcc718 1 _ rfl
                rw [add_field _ _ 1 (by omega)] at hv718_1
                replace hv718_1 := Option.some.inj (hv718_1.symm.trans hx718_1)
                injection hv718_1 with hva_ hvn_ hvc_
                rw [hva_] at ge718_1
                rw [hvc_] at ul718_1
                have HL718_1 := Aside0.mk (show Kd.V (Kd.int .u64) 35 _ w.heap.size _ _ ((rd_T26 l2 x19_2).f1) from Kd.V_mk ul718_1 ge718_1)
                clear hva_ hvn_ hvc_ ge718_1 ul718_1
                have hv718_2 := hcc718 2 _ rfl
                rw [add_field _ _ 2 (by omega)] at hv718_2
                replace hv718_2 := Option.some.inj (hv718_2.symm.trans hx718_2)
                injection hv718_2 with hva_ hvn_ hvc_
                rw [hva_] at ge718_2
                rw [hvc_] at ul718_2
                have HL718_2 := Aside0.mk (show Kd.V (Kd.int .u64) 35 _ w.heap.size _ _ ((rd_T26 l2 x19_2).f2) from Kd.V_mk ul718_2 ge718_2)
                clear hva_ hvn_ hvc_ ge718_2 ul718_2
                clear hcc718 hce718
                have HR718_0 := Aside0.mk hi718_0
                have HC718_0 := Aside0.mk hl718_0
                clear hi718_0 hl718_0
                have HR718_1 := Aside0.mk hi718_1
                have HC718_1 := Aside0.mk hl718_1
                clear hi718_1 hl718_1
                have HR718_2 := Aside0.mk hi718_2
                have HC718_2 := Aside0.mk hl718_2
                clear hi718_2 hl718_2
                replace p718 := eq_true p718
                replace q718 := eq_true q718
                have p719 : 0 ≤ (x19_2 : Int) := of_decide_eq_true (zq39)
                have q719 : x19_2 < (l2.length : Int) := of_decide_eq_true (zq39)
                obtain ⟨ad719, A719_0, c719_0, A719_1, c719_1, A719_2, c719_2, e719, hx719_0, hx719_1, hx719_2, hl719_0, hi719_0, hl719_1, hi719_1, hl719_2, hi719_2⟩ := at_T26 (Kd.V_reads' HO_2.out).2.2 x19_2 p719 q719
                obtain rfl : ad718 = ad719 := (by injection e719)
                obtain ⟨ce719, hce719, hMe719, hcc719⟩ := Kd.V_get HO_2.out z26 x19_2 p719 (by first | exact q719 | exact of_decide_eq_true (by first | (with_reducible assumption) | assumption) | (have e_ := (Kd.V_reads' HO_2.out).1; omega))
                obtain ⟨ua719_0, uc719_0, ua719_1, uc719_1, ua719_2, uc719_2, rfl, ul719_0, ge719_0, ul719_1, ge719_1, ul719_2, ge719_2⟩ := k26_openF hMe719
                have hv719_0 := hcc719 0 _ rfl
                rw [Nat.add_zero] at hv719_0
                replace hv719_0 := Option.some.inj (hv719_0.symm.trans hx719_0)
                injection hv719_0 with hva_ hvn_ hvc_
                rw [hva_] at ge719_0
                rw [hvc_] at ul719_0
                have HL719_0 := Aside0.mk (show Kd.V (Kd.int .u64) 35 _ w.heap.size _ _ ((rd_T26 l2 x19_2).f0) from Kd.V_mk ul719_0 ge719_0)
                clear hva_ hvn_ hvc_ ge719_0 ul719_0
                have hv719_1 := hcc719 1 _ rfl
                rw [add_field _ _ 1 (by omega)] at hv719_1
                replace hv719_1 := Option.some.inj (hv719_1.symm.trans hx719_1)
                injection hv719_1 with hva_ hvn_ hvc_
                rw [hva_] at ge719_1
                rw [hvc_] at ul719_1
                have HL719_1 := Aside0.mk (show Kd.V (Kd.int .u64) 35 _ w.heap.size _ _ ((rd_T26 l2 x19_2).f1) from Kd.V_mk ul719_1 ge719_1)
                clear hva_ hvn_ hvc_ ge719_1 ul719_1
                have hv719_2 := hcc719 2 _ rfl
                rw [add_field _ _ 2 (by omega)] at hv719_2
                replace hv719_2 := Option.some.inj (hv719_2.symm.trans hx719_2)
                injection hv719_2 with hva_ hvn_ hvc_
                rw [hva_] at ge719_2
                rw [hvc_] at ul719_2
                have HL719_2 := Aside0.mk (show Kd.V (Kd.int .u64) 35 _ w.heap.size _ _ ((rd_T26 l2 x19_2).f2) from Kd.V_mk ul719_2 ge719_2)
                clear hva_ hvn_ hvc_ ge719_2 ul719_2
                clear hcc719 hce719
                have HR719_0 := Aside0.mk hi719_0
                have HC719_0 := Aside0.mk hl719_0
                clear hi719_0 hl719_0
                have HR719_1 := Aside0.mk hi719_1
                have HC719_1 := Aside0.mk hl719_1
                clear hi719_1 hl719_1
                have HR719_2 := Aside0.mk hi719_2
                have HC719_2 := Aside0.mk hl719_2
                clear hi719_2 hl719_2
                replace p719 := eq_true p719
                replace q719 := eq_true q719
                have ea_ := Option.some.inj (hx718_0.symm.trans hx719_0)
                injection ea_ with ea_ en_ ec_
                subst ea_
                subst ec_
                clear en_
                have ea_ := Option.some.inj (hx718_1.symm.trans hx719_1)
                injection ea_ with ea_ en_ ec_
                subst ea_
                subst ec_
                clear en_
                have ea_ := Option.some.inj (hx718_2.symm.trans hx719_2)
                injection ea_ with ea_ en_ ec_
                subst ea_
                subst ec_
                clear en_
                obtain ⟨Ao58, co58, eo58⟩ := Kd.R_slice HO_20.out
                (first | subst eo58 | (injection eo58 with f1_ f2_ f3_; have f4_ := f1_.symm; have f5_ := f3_.symm; clear f1_ f2_ f3_; subst f4_; subst f5_))
                refine start_ (n := 16) (S := fun w' => w'.cell? (ad718.add ((x19_2).toNat * 3)) = some (.slice A718_0 ((rd_T26 l2 x19_2).f0).length c718_0) ∧ w'.cell? ⟨(ad718.add ((x19_2).toNat * 3)).block, (ad718.add ((x19_2).toNat * 3)).off + 1, none⟩ = some (.slice A718_1 ((rd_T26 l2 x19_2).f1).length c718_1) ∧ w'.cell? ⟨(ad718.add ((x19_2).toNat * 3)).block, (ad718.add ((x19_2).toNat * 3)).off + 2, none⟩ = some (.slice A718_2 ((rd_T26 l2 x19_2).f2).length c718_2) ∧ w'.cell? (ad718.add ((x19_2).toNat * 3)) = some (.slice A718_0 ((rd_T26 l2 x19_2).f0).length c718_0) ∧ w'.cell? ⟨(ad718.add ((x19_2).toNat * 3)).block, (ad718.add ((x19_2).toNat * 3)).off + 1, none⟩ = some (.slice A718_1 ((rd_T26 l2 x19_2).f1).length c718_1) ∧ w'.cell? ⟨(ad718.add ((x19_2).toNat * 3)).block, (ad718.add ((x19_2).toNat * 3)).off + 2, none⟩ = some (.slice A718_2 ((rd_T26 l2 x19_2).f2).length c718_2)) (ds := [13, 14]) ba10_0 (zq47) rfl rfl ⟨hx718_0, hx718_1, hx718_2, hx719_0, hx719_1, hx719_2⟩ (fun hHeld => ?_); refine with_tabW trefoilref22_Finish.tab31 trefoilref22_Finish.bits31 (fun HT_ HW_ => ?_)
                generalize wr.drew = w57 at HO_2 HO_15 HO_17 HO_18 HO_20 BK704 HB HL718_0 HL718_1 HL718_2 HL719_0 HL719_1 HL719_2 HR718_0 HR718_1 HR718_2 HR719_0 HR719_1 HR719_2 hx718_0 hx718_1 hx718_2 hx719_0 hx719_1 hx719_2 hHeld ⊢
                refine pure_ (i := 0) (N := some 169) (v := ?_) (a' := ?_) ba10_1 rfl rfl (any_of HT_.out (zq47)) (fun _ _ _ h => h) (Or.inl ⟨by rfl, ?_⟩) ?_ ?_; rotate_left; exact zs0; rotate_left; exact zs1
                refine pure_ (i := 1) (N := some 170) (v := ?_) (a' := ?_) #[true, true, false, false, false, false, false, false, false, false, false, false, false, false, false, false] rfl rfl (any_of HT_.out (zq47)) (fun _ _ _ h => h) (Or.inl ⟨by rfl, ?_⟩) ?_ ?_; rotate_left; exact zs0; rotate_left; exact zs1
                refine pure_ (i := 2) (N := some 171) (v := ?_) (a' := ?_) #[true, true, true, false, false, false, false, false, false, false, false, false, false, false, false, false] rfl rfl (any_of HT_.out (zq47)) (fun _ _ _ h => h) (Or.inl ⟨by rfl, ?_⟩) ?_ ?_; rotate_left; exact zs0; rotate_left; exact zs1
                refine pure_ (i := 3) (N := some 172) (v := ?_) (a' := ?_) #[true, true, true, true, false, false, false, false, false, false, false, false, false, false, false, false] rfl rfl (any_of HT_.out (zq47)) (fun _ _ _ h => h) (Or.inl ⟨by rfl, ?_⟩) ?_ ?_; rotate_left; exact zs0; rotate_left; exact zs1
                refine pure_ (i := 4) (N := some 173) (v := ?_) (a' := ?_) #[true, true, true, true, true, false, false, false, false, false, false, false, false, false, false, false] rfl rfl (any_of HT_.out (zq47)) (fun _ _ _ h => h) (Or.inl ⟨by rfl, ?_⟩) ?_ ?_; rotate_left; exact zs0; rotate_left; exact zs1
                refine pure_ (i := 6) (N := some 175) (v := ?_) (a' := ?_) #[true, true, true, true, true, false, true, false, false, false, false, false, false, false, false, false] rfl rfl (any_of HT_.out (zq47)) (fun _ _ _ h => h) (Or.inl ⟨by rfl, ?_⟩) ?_ ?_; rotate_left; exact zs0; rotate_left; exact zs1
                refine pure_ (i := 7) (N := some 176) (v := ?_) (a' := ?_) #[true, true, true, true, true, false, true, true, false, false, false, false, false, false, false, false] rfl rfl (any_of HT_.out (zq47)) (fun _ _ _ h => h) (Or.inl ⟨by rfl, ?_⟩) ?_ ?_; rotate_left; exact zs0; rotate_left; exact zs1
                refine pure_ (i := 8) (N := some 177) (v := ?_) (a' := ?_) #[true, true, true, true, true, false, true, true, true, false, false, false, false, false, false, false] rfl rfl (any_of HT_.out (zq47)) (fun _ _ _ h => h) (Or.inl ⟨by rfl, ?_⟩) ?_ ?_; rotate_left; exact zs0; rotate_left; exact zs1
                refine pure_ (i := 9) (N := some 178) (v := ?_) (a' := ?_) #[true, true, true, true, true, false, true, true, true, true, false, false, false, false, false, false] rfl rfl (any_of HT_.out (zq47)) (fun _ _ _ h => h) (Or.inl ⟨by rfl, ?_⟩) ?_ ?_; rotate_left; exact zs0; rotate_left; exact zs1
                refine pure_ (i := 11) (N := some 180) (v := ?_) (a' := ?_) #[true, true, true, true, true, false, true, true, true, true, false, true, false, false, false, false] rfl rfl (any_of HT_.out (zq47)) (fun _ _ _ h => h) (Or.inl ⟨by rfl, ?_⟩) ?_ ?_; rotate_left; exact zs0; rotate_left; exact zs1
                refine take_ (i := 5) (N := some 174) (v := ?_) (a' := ?_) #[true, true, true, true, true, true, true, true, true, true, false, true, false, false, false, false] rfl rfl (take_ofW HT_.out HW_.out (zq47)) (fun _ _ _ h => h) (Or.inl ⟨by rfl, ?_⟩) hHeld ?_ ?_
                rotate_left
                ·rintro w' ⟨s0, s1, s2, s3, s4, s5⟩
                 go_simp
                 with_reducible rfl
                rotate_left
                exact zs1
                refine take_ (i := 10) (N := some 179) (v := ?_) (a' := ?_) ba10_2 rfl rfl (take_ofW HT_.out HW_.out (zq47)) (fun _ _ _ h => h) (Or.inl ⟨by rfl, ?_⟩) hHeld ?_ ?_
                rotate_left
                ·rintro w' ⟨s0, s1, s2, s3, s4, s5⟩
                 go_simp
                 with_reducible rfl
                rotate_left
                exact zs1
                refine pure_ (i := 12) (N := some 181) (v := ?_) (a' := ?_) ba10_3 rfl rfl (any_of HT_.out (zq47)) (fun _ _ _ h => h) (Or.inl ⟨by rfl, ?_⟩) ?_ ?_; rotate_left; exact zs0; rotate_left; exact zs1
                refine last_ (i := 13) (N := some 182) ba10_4 rfl rfl (one_of HT_.out (zq47)) (by decide) (fun K hK => ?_)
                refine value_ (w1 := ?_) (v := ?_) (by rfl) rfl ?_ ?_
                rotate_left 2
                ·go_simp
                 constructor
                 ·rfl
                 ·rfl
                refine hK.out _ _ ?_
                clear hK K
                refine norm_ (a' := ?_) ?_ ?_
                rotate_left
                ·show Act.put _ (some 182) _ = _
                 simp only [Act.put, List.setIfInBounds_toArray, List.set_cons_zero, List.set_cons_succ, i64_w, i32_w]
                 rfl
                refine last_ (i := 14) (N := some 183) ba10_5 rfl rfl (one_of HT_.out (zq47)) (by decide) (fun K hK => ?_)
                refine Kd.N_append_step k26 (w0 := w) w.heap.size (by rfl) (.tmp 169) (.tmp 182) 30 26 (.agg #[(.slice none 0 0), (.slice none 0 0), (.slice none 0 0)]) 72 rfl Try.underlying30 info26 rfl (by decide) (by omega) u18 x18_2 (⟨(rd_T26 l2 x19_2).f0, (rd_T26 l2 x19_2).f1, x20_3⟩ : S26) [.slice A718_0 ((rd_T26 l2 x19_2).f0).length c718_0, .slice A718_1 ((rd_T26 l2 x19_2).f1).length c718_1, .slice Ao58 x20_3.length co58] (fun k_ => (P2_ k_ ∨ w.heap.size ≤ k_) ∧ some k_ ≠ (v712 : Value).ownBlock ∧ some k_ ≠ (v716 : Value).ownBlock ∧ k_ ≠ gb704) (fun k_ => ((fun k_ => (P2_ k_ ∨ w.heap.size ≤ k_) ∧ some k_ ≠ (v712 : Value).ownBlock ∧ some k_ ≠ (v716 : Value).ownBlock ∧ k_ ≠ gb704)) k_ ∧ some k_ ≠ (u18 : Value).ownBlock) rfl rfl ?aP (fun _ hk => hk) ?aF ?aO ?aB ?aS ?aL ?_
                (case aP => exact (k26_mkF _ _ (⟨(rd_T26 l2 x19_2).f0, (rd_T26 l2 x19_2).f1, x20_3⟩ : S26) (Kd.V_reads' (Kd.V_mono (ok' := (fun k_ => ((fun k_ => (P2_ k_ ∨ w.heap.size ≤ k_) ∧ some k_ ≠ (v712 : Value).ownBlock ∧ some k_ ≠ (v716 : Value).ownBlock ∧ k_ ≠ gb704)) k_ ∧ some k_ ≠ (u18 : Value).ownBlock)) (HL718_0.out) (fun k_ hk => ⟨⟨hk.1, ⟨hk.2.1, ⟨hk.2.2.1, hk.2.2.2.2.2⟩⟩⟩, hk.2.2.2.1⟩))).2.1 (Kd.V_F (Kd.V_mono (ok' := (fun k_ => ((fun k_ => (P2_ k_ ∨ w.heap.size ≤ k_) ∧ some k_ ≠ (v712 : Value).ownBlock ∧ some k_ ≠ (v716 : Value).ownBlock ∧ k_ ≠ gb704)) k_ ∧ some k_ ≠ (u18 : Value).ownBlock)) (HL718_0.out) (fun k_ hk => ⟨⟨hk.1, ⟨hk.2.1, ⟨hk.2.2.1, hk.2.2.2.2.2⟩⟩⟩, hk.2.2.2.1⟩))) (Kd.V_reads' (Kd.V_mono (ok' := (fun k_ => ((fun k_ => (P2_ k_ ∨ w.heap.size ≤ k_) ∧ some k_ ≠ (v712 : Value).ownBlock ∧ some k_ ≠ (v716 : Value).ownBlock ∧ k_ ≠ gb704)) k_ ∧ some k_ ≠ (u18 : Value).ownBlock)) (HL719_1.out) (fun k_ hk => ⟨⟨hk.1, ⟨hk.2.1, ⟨hk.2.2.1, hk.2.2.2.2.2⟩⟩⟩, hk.2.2.2.1⟩))).2.1 (Kd.V_F (Kd.V_mono (ok' := (fun k_ => ((fun k_ => (P2_ k_ ∨ w.heap.size ≤ k_) ∧ some k_ ≠ (v712 : Value).ownBlock ∧ some k_ ≠ (v716 : Value).ownBlock ∧ k_ ≠ gb704)) k_ ∧ some k_ ≠ (u18 : Value).ownBlock)) (HL719_1.out) (fun k_ hk => ⟨⟨hk.1, ⟨hk.2.1, ⟨hk.2.2.1, hk.2.2.2.2.2⟩⟩⟩, hk.2.2.2.1⟩))) (Kd.R_reads' (Kd.R_mono (ok' := (fun k_ => ((fun k_ => (P2_ k_ ∨ w.heap.size ≤ k_) ∧ some k_ ≠ (v712 : Value).ownBlock ∧ some k_ ≠ (v716 : Value).ownBlock ∧ k_ ≠ gb704)) k_ ∧ some k_ ≠ (u18 : Value).ownBlock)) (Kd.R_types (Kd.R_apart' (HO_20.out) (Kd.N_typed HO_18.out) (by decide)) BK704.out (by decide)) (fun k_ hk => ⟨⟨(.inr (hk.1.1.1)), ⟨hk.1.1.2.1, ⟨hk.1.1.2.2, hk.2⟩⟩⟩, hk.1.2⟩))).2.1 (Kd.R_F (Kd.R_mono (ok' := (fun k_ => ((fun k_ => (P2_ k_ ∨ w.heap.size ≤ k_) ∧ some k_ ≠ (v712 : Value).ownBlock ∧ some k_ ≠ (v716 : Value).ownBlock ∧ k_ ≠ gb704)) k_ ∧ some k_ ≠ (u18 : Value).ownBlock)) (Kd.R_types (Kd.R_apart' (HO_20.out) (Kd.N_typed HO_18.out) (by decide)) BK704.out (by decide)) (fun k_ hk => ⟨⟨(.inr (hk.1.1.1)), ⟨hk.1.1.2.1, ⟨hk.1.1.2.2, hk.2⟩⟩⟩, hk.1.2⟩)))))
                (case aB => exact HB.bl)
                (case aF => exact (fun k_ hk => ⟨(.inr (Nat.le_trans (below_size HB.bl) hk)), Kd.fresh' (Kd.R_lt HO_15.r) k_ hk, Kd.fresh' (Kd.R_lt HO_17.r) k_ hk, Kd.freshB (g := gb704) (o := .cells #[.int .i64 a0_0, .int .i64 a0_1, .int .i64 a0_2, .int .i64 a0_3, .int .i64 a0_4] 23 (0, 0)) (zq33) k_ hk⟩))
                (case aO => exact (by (with_reducible repeat (first | apply Kd.N_alloc | apply Kd.N_drewN | apply Kd.N_drew)); exact Kd.N_mono HO_18.out (fun _ hk => ⟨hk.1, ⟨hk.2.1, ⟨hk.2.2.1, hk.2.2.2.2⟩⟩⟩)))
                (case aS => exact (below_size HB.bl))
                (case aL => have := LMc56.out; omega)
                intro v721 w59 ho hb hg hat
                rw [← Ny720.out] at ho
                have n0_ := Aside0.mk (Kd.V_afterv (ok := (fun k_ => (P2_ k_ ∨ w.heap.size ≤ k_) ∧ some k_ ≠ (v712 : Value).ownBlock ∧ some k_ ≠ (v716 : Value).ownBlock ∧ some k_ ≠ (.slice Ao58 x20_3.length co58 : Value).ownBlock ∧ k_ ≠ gb704)) (by (with_reducible repeat (first | apply Kd.V_alloc | apply Kd.V_drewN | apply Kd.V_drew)); exact Kd.V_mono HO_2.out (fun _ hk => ⟨⟨hk.1, ⟨hk.2.1, ⟨hk.2.2.1, ⟨hk.2.2.2.2.1, hk.2.2.2.2.2⟩⟩⟩⟩, hk.2.2.2.1⟩)) hg hat)
                have n1_ := Aside0.mk (Kd.R_over' HO_15.r (Kd.N_typed HO_18.n) (by decide) hg)
                have n2_ := Aside0.mk (Kd.R_over' HO_17.r (Kd.N_typed HO_18.n) (by decide) hg)
                have n3_ := Aside0.mk (blk_grown (g := gb704) (o := .cells #[.int .i64 a0_0, .int .i64 a0_1, .int .i64 a0_2, .int .i64 a0_3, .int .i64 a0_4] 23 (0, 0)) (zq33) hg (Kd.N_ne HO_18.out BK704.out (by decide)))
                have n4_ := Aside0.mk (Kd.V_afterv (ok := (fun k_ => (P2_ k_ ∨ w.heap.size ≤ k_) ∧ some k_ ≠ (v712 : Value).ownBlock ∧ some k_ ≠ (v716 : Value).ownBlock ∧ some k_ ≠ (.slice Ao58 x20_3.length co58 : Value).ownBlock ∧ k_ ≠ gb704)) (by (with_reducible repeat (first | apply Kd.V_alloc | apply Kd.V_drewN | apply Kd.V_drew)); exact Kd.V_mono HL718_0.out (fun _ hk => ⟨⟨hk.1, ⟨hk.2.1, ⟨hk.2.2.1, ⟨hk.2.2.2.2.1, hk.2.2.2.2.2⟩⟩⟩⟩, hk.2.2.2.1⟩)) hg hat)
                have n5_ := Aside0.mk (Kd.V_afterv (ok := (fun k_ => (P2_ k_ ∨ w.heap.size ≤ k_) ∧ some k_ ≠ (v712 : Value).ownBlock ∧ some k_ ≠ (v716 : Value).ownBlock ∧ some k_ ≠ (.slice Ao58 x20_3.length co58 : Value).ownBlock ∧ k_ ≠ gb704)) (by (with_reducible repeat (first | apply Kd.V_alloc | apply Kd.V_drewN | apply Kd.V_drew)); exact Kd.V_mono HL718_1.out (fun _ hk => ⟨⟨hk.1, ⟨hk.2.1, ⟨hk.2.2.1, ⟨hk.2.2.2.2.1, hk.2.2.2.2.2⟩⟩⟩⟩, hk.2.2.2.1⟩)) hg hat)
                have n6_ := Aside0.mk (Kd.V_afterv (ok := (fun k_ => (P2_ k_ ∨ w.heap.size ≤ k_) ∧ some k_ ≠ (v712 : Value).ownBlock ∧ some k_ ≠ (v716 : Value).ownBlock ∧ some k_ ≠ (.slice Ao58 x20_3.length co58 : Value).ownBlock ∧ k_ ≠ gb704)) (by (with_reducible repeat (first | apply Kd.V_alloc | apply Kd.V_drewN | apply Kd.V_drew)); exact Kd.V_mono HL718_2.out (fun _ hk => ⟨⟨hk.1, ⟨hk.2.1, ⟨hk.2.2.1, ⟨hk.2.2.2.2.1, hk.2.2.2.2.2⟩⟩⟩⟩, hk.2.2.2.1⟩)) hg hat)
                have n7_ := Aside0.mk (Kd.V_afterv (ok := (fun k_ => (P2_ k_ ∨ w.heap.size ≤ k_) ∧ some k_ ≠ (v712 : Value).ownBlock ∧ some k_ ≠ (v716 : Value).ownBlock ∧ some k_ ≠ (.slice Ao58 x20_3.length co58 : Value).ownBlock ∧ k_ ≠ gb704)) (by (with_reducible repeat (first | apply Kd.V_alloc | apply Kd.V_drewN | apply Kd.V_drew)); exact Kd.V_mono HL719_0.out (fun _ hk => ⟨⟨hk.1, ⟨hk.2.1, ⟨hk.2.2.1, ⟨hk.2.2.2.2.1, hk.2.2.2.2.2⟩⟩⟩⟩, hk.2.2.2.1⟩)) hg hat)
                have n8_ := Aside0.mk (Kd.V_afterv (ok := (fun k_ => (P2_ k_ ∨ w.heap.size ≤ k_) ∧ some k_ ≠ (v712 : Value).ownBlock ∧ some k_ ≠ (v716 : Value).ownBlock ∧ some k_ ≠ (.slice Ao58 x20_3.length co58 : Value).ownBlock ∧ k_ ≠ gb704)) (by (with_reducible repeat (first | apply Kd.V_alloc | apply Kd.V_drewN | apply Kd.V_drew)); exact Kd.V_mono HL719_1.out (fun _ hk => ⟨⟨hk.1, ⟨hk.2.1, ⟨hk.2.2.1, ⟨hk.2.2.2.2.1, hk.2.2.2.2.2⟩⟩⟩⟩, hk.2.2.2.1⟩)) hg hat)
                have n9_ := Aside0.mk (Kd.V_afterv (ok := (fun k_ => (P2_ k_ ∨ w.heap.size ≤ k_) ∧ some k_ ≠ (v712 : Value).ownBlock ∧ some k_ ≠ (v716 : Value).ownBlock ∧ some k_ ≠ (.slice Ao58 x20_3.length co58 : Value).ownBlock ∧ k_ ≠ gb704)) (by (with_reducible repeat (first | apply Kd.V_alloc | apply Kd.V_drewN | apply Kd.V_drew)); exact Kd.V_mono HL719_2.out (fun _ hk => ⟨⟨hk.1, ⟨hk.2.1, ⟨hk.2.2.1, ⟨hk.2.2.2.2.1, hk.2.2.2.2.2⟩⟩⟩⟩, hk.2.2.2.1⟩)) hg hat)
                have n10_ := Aside0.mk (hb)
                have n11_ := Aside0.mk (ho)
                clear HO_2
                clear HO_15
                clear HO_17
                clear BK704
                clear HL718_0
                clear HL718_1
                clear HL718_2
                clear HL719_0
                clear HL719_1
                clear HL719_2
                clear HB
                clear HO_18
                clear HO_20
                have HO_2 := n0_
                have HO_15 := n1_
                have HO_17 := n2_
                have BK704 := n3_
                have HL718_0 := n4_
                have HL718_1 := n5_
                have HL718_2 := n6_
                have HL719_0 := n7_
                have HL719_1 := n8_
                have HL719_2 := n9_
                have HB := n10_
                have HO722 := n11_
                clear n0_ n1_ n2_ n3_ n4_ n5_ n6_ n7_ n8_ n9_ n10_ n11_
                clear ho hb hg hat
                refine hK.out _ _ ?_
                clear hK K
                refine norm_ (a' := ?_) ?_ ?_
                rotate_left
                ·show Act.put _ (some 183) _ = _
                 simp only [Act.put, List.setIfInBounds_toArray, List.set_cons_zero, List.set_cons_succ, i64_w, i32_w]
                 rfl
                refine pure_ (i := 15) (N := some 18) (v := ?_) (a' := ?_) ba10_6 rfl rfl (any_of HT_.out (zq47)) (fun _ _ _ h => h) (Or.inl ⟨by rfl, ?_⟩) ?_ ?_; rotate_left; exact zs0; rotate_left; exact zs1
                refine done_ (done_of HT_.out (zq47)) ?_
                try go_wp2
                go_roundg k3
                case measure => have := HJ12.out; have := HK2.out; have := HK3.out; omega
                case rel => exact ⟨(y720), (wrap64 (x19_2 + 1)), (zq40), H', ⟨by have := HJ12.out; have := HK2.out; have := HK3.out; omega⟩, ⟨by (with_reducible repeat (first | apply Kd.V_alloc | apply Kd.V_drewN | apply Kd.V_drew)); exact Kd.V_mono HO_2.out (fun _ hk => ⟨hk.1.1, ⟨hk.1.2.1, ⟨hk.1.2.2.1, ⟨hk.2, hk.1.2.2.2.2⟩⟩⟩⟩)⟩, ⟨by (with_reducible repeat (first | apply Kd.R_alloc | apply Kd.R_drewN | apply Kd.R_drew)); exact Kd.R_mono HO_15.out (fun _ hk => ⟨hk.1, hk.2.1⟩)⟩, ⟨by (with_reducible repeat (first | apply Kd.R_alloc | apply Kd.R_drewN | apply Kd.R_drew)); exact Kd.R_mono HO_17.out (fun _ hk => ⟨hk.1, hk.2.1⟩)⟩, ⟨HO722.n⟩, ⟨zq33⟩, ⟨zq21⟩⟩
               ·rw [if_neg c56] at H
                exact absurd H (by simp)
              ·rw [if_neg c55] at H
               exact absurd H (by simp)
             ·rw [if_neg c54] at H
              exact absurd H (by simp)
         ·rw [if_neg c28] at H
          have c28b0 : decide (x19_2 < (l2.length : Int)) = false := decide_eq_false c28
          clear c28
          simp only [Option.some.injEq, Prod.mk.injEq] at H
          obtain ⟨rfl, rfl⟩ := H
          go_wp2
          go_ret2
          exact ⟨_, zq37, by (with_reducible repeat (first | apply Kd.N_alloc | apply Kd.N_drewN | apply Kd.N_drew)); exact Kd.N_mono HO_18.out (fun _ hk => hk.1), zq21⟩
   ·rw [if_neg c12] at H
    have c12b0 : (t715 == 0) = false := beq_eq_false_iff_ne.mpr c12
    have c12b1 : (t715 != 0) = true := bne_iff_ne.mpr c12
    simp only [Option.some.injEq, Prod.mk.injEq] at H
    obtain ⟨rfl, rfl⟩ := H
    go_enter Try.func39, Try.ntmps39
    go_wp2_with (first | ((with_reducible refine gate_dst (N := 5) rfl ?_); (try (refine gate_guard (by rfl) ?_; dsimp only)); refine box_event ?hg (N := 5) ?hd (cs := #[.int .i64 a0_0, .int .i64 a0_1, .int .i64 a0_2, .int .i64 a0_3, .int .i64 a0_4]) (t := 23) ?hr ?_; (case hd => rfl); (case hg => rfl); (case hr => first | (go_simp; done) | (go_simp; rfl)); intro gb704 hg w60 hbox hb; have n0_ := Aside0.mk (Kd.V_below (Kd.V_elderB HO2.v gb704 (Nat.le_of_eq hg.symm)) hb); have n1_ := Aside0.mk (below_step HB.bl hb); have n2_ := Aside0.mk (hbox); have n3_ := Aside0.mk ((zq46 : w.heap.size ≤ gb704)); have n4_ := Aside0.mk ((zq46 : w.heap.size ≤ gb704)); clear HO2; clear HB; have HO2 := n0_; have HB := n1_; have BK704 := n2_; have GW704 := n3_; have GE704 := n4_; clear n0_ n1_ n2_ n3_ n4_; clear hb hbox hg; obtain ⟨hcz61_0, hcz61_1, hcz61_2, hcz61_3, hcz61_4, hfz61_0, hfz61_1, hfz61_2, hfz61_3, hfz61_4⟩ := cells_5 BK704.out) | ((with_reducible refine gate_callee (f := 72) rfl ?_); refine goesL_ (some 29) rfl rfl Try.func72 (zq47) rfl #[.agg #[.int .i64 a0_0, .int .i64 a0_1, .int .i64 a0_2, .int .i64 a0_3, .int .i64 a0_4], .int .i64 a1, .slice A2 l2.length c2] rfl (zq28) ?_; (with_reducible refine (trefoilref22_Wrong.calls k a0_0 a0_1 a0_2 a0_3 a0_4 a1 _ _ l2 t705 _ ?side1 ?side2 A6.out).mono ?_); (case side1 => repeat (first | exact (Kd.V_reads' HO2.out).2.2 | (with_reducible refine Kd.C_alloc ?_ _) | (with_reducible refine Kd.C_drewN ?_ _) | (with_reducible refine Kd.C_drew ?_))); (case side2 => exact (Kd.V_reads' HO2.out).2.1); rintro e w62 ⟨rfl, hb⟩; refine ⟨_, rfl, ?_⟩; replace HO2 := Aside0.mk (Kd.V_below HO2.v hb); replace BK704 := Aside0.mk (BK704.lk hb); replace HB := Aside0.mk (below_step HB.bl hb); (try clear hb); (try clear hb2); (try clear hk); (try clear hi); obtain ⟨hcz63_0, hcz63_1, hcz63_2, hcz63_3, hcz63_4, hfz63_0, hfz63_1, hfz63_2, hfz63_3, hfz63_4⟩ := cells_5 BK704.out) | ((with_reducible refine gate_callee (f := 48) rfl ?_); refine goesL_ (some 37) rfl rfl Try.func48 (zq47) rfl #[.agg #[.int .i64 a0_0, .int .i64 a0_1, .int .i64 a0_2, .int .i64 a0_3, .int .i64 a0_4]] rfl (zq28) ?_; (with_reducible refine (trefoilref22_Sides.calls a0_0 a0_1 a0_2 a0_3 a0_4 t707 t708 t709 _ A8.out).mono ?_); rintro e w64 ⟨rfl, hb⟩; refine ⟨_, rfl, ?_⟩; replace HO2 := Aside0.mk (Kd.V_below HO2.v hb); replace BK704 := Aside0.mk (BK704.lk hb); replace HB := Aside0.mk (below_step HB.bl hb); (try clear hb); (try clear hb2); (try clear hk); (try clear hi); obtain ⟨hcz65_0, hcz65_1, hcz65_2, hcz65_3, hcz65_4, hfz65_0, hfz65_1, hfz65_2, hfz65_3, hfz65_4⟩ := cells_5 BK704.out) | ((with_reducible refine gate_callee (f := 73) rfl ?_); refine goesL_ (some 46) rfl rfl Try.func73 (zq47) rfl #[.int .i64 a0_1, .int .i64 t709, .slice A3 l3.length c3] rfl (zq28) ?_; (with_reducible refine (trefoilref21_Fold.calls k a0_1 t709 _ _ l3 t710 t711 _ ?side1 ?side2 A9.out).mono ?_); (case side1 => repeat (first | exact (Kd.C_below HR3.out HB.out) | (with_reducible refine Kd.C_alloc ?_ _) | (with_reducible refine Kd.C_drewN ?_ _) | (with_reducible refine Kd.C_drew ?_))); (case side2 => exact HC3.out); rintro e w66 ⟨v712, rfl, ho0, hb⟩; refine ⟨_, rfl, ?_⟩; replace HO2 := Aside0.mk (Kd.V_elder' HO2.v (Kd.R_base ho0) hb); have HO713 := Aside0.mk (Kd.R_lower (Kd.R_newM (M := fun k_ => (w.heap.size ≤ k_)) ho0 (below_size HB.bl) (fun k_ h_ => h_)) (below_size HB.bl)); replace BK704 := Aside0.mk (BK704.lk hb); replace HB := Aside0.mk (below_step HB.bl hb); (try clear hb); (try clear hb2); (try clear hk); (try clear hi); (try clear ho0); obtain ⟨hcz67_0, hcz67_1, hcz67_2, hcz67_3, hcz67_4, hfz67_0, hfz67_1, hfz67_2, hfz67_3, hfz67_4⟩ := cells_5 BK704.out) | ((with_reducible refine gate_callee (f := 73) rfl ?_); refine goesL_ (some 57) rfl rfl Try.func73 (zq47) rfl #[.int .i64 a0_1, .int .i64 t709, .slice A4 l4.length c4] rfl (zq28) ?_; (with_reducible refine (trefoilref21_Fold.calls k a0_1 t709 _ _ l4 t714 t715 _ ?side1 ?side2 A11.out).mono ?_); (case side1 => repeat (first | exact (Kd.C_below HR4.out HB.out) | (with_reducible refine Kd.C_alloc ?_ _) | (with_reducible refine Kd.C_drewN ?_ _) | (with_reducible refine Kd.C_drew ?_))); (case side2 => exact HC4.out); rintro e w68 ⟨v716, rfl, ho0, hb⟩; refine ⟨_, rfl, ?_⟩; have n0_ := Aside0.mk (Kd.V_elder' HO2.v (Kd.R_base ho0) hb); have n1_ := Aside0.mk (Kd.R_elder' HO713.r (Kd.R_base ho0) hb); have n2_ := Aside0.mk (Kd.R_lower (Kd.R_new' (Kd.R_newM (M := fun k_ => (w.heap.size ≤ k_)) ho0 (below_size HB.bl) (fun k_ h_ => h_)) (Kd.R_lt HO713.r)) (below_size HB.bl)); have n3_ := Aside0.mk (BK704.lk hb); have n4_ := Aside0.mk (below_step HB.bl hb); clear HO2; clear HO713; clear BK704; clear HB; have HO2 := n0_; have HO713 := n1_; have HO717 := n2_; have BK704 := n3_; have HB := n4_; clear n0_ n1_ n2_ n3_ n4_; (try clear hb); (try clear hb2); (try clear hk); (try clear hi); (try clear ho0)))
    go_ret2
    exact ⟨_, zq37, zq27, zq21⟩
  ·rw [if_neg c10] at H
   have c10b0 : (t711 == 0) = false := beq_eq_false_iff_ne.mpr c10
   have c10b1 : (t711 != 0) = true := bne_iff_ne.mpr c10
   simp only [Option.some.injEq, Prod.mk.injEq] at H
   obtain ⟨rfl, rfl⟩ := H
   go_enter Try.func39, Try.ntmps39
   go_wp2_with (first | ((with_reducible refine gate_dst (N := 5) rfl ?_); (try (refine gate_guard (by rfl) ?_; dsimp only)); refine box_event ?hg (N := 5) ?hd (cs := #[.int .i64 a0_0, .int .i64 a0_1, .int .i64 a0_2, .int .i64 a0_3, .int .i64 a0_4]) (t := 23) ?hr ?_; (case hd => rfl); (case hg => rfl); (case hr => first | (go_simp; done) | (go_simp; rfl)); intro gb704 hg w69 hbox hb; have n0_ := Aside0.mk (Kd.V_below (Kd.V_elderB HO2.v gb704 (Nat.le_of_eq hg.symm)) hb); have n1_ := Aside0.mk (below_step HB.bl hb); have n2_ := Aside0.mk (hbox); have n3_ := Aside0.mk ((zq46 : w.heap.size ≤ gb704)); have n4_ := Aside0.mk ((zq46 : w.heap.size ≤ gb704)); clear HO2; clear HB; have HO2 := n0_; have HB := n1_; have BK704 := n2_; have GW704 := n3_; have GE704 := n4_; clear n0_ n1_ n2_ n3_ n4_; clear hb hbox hg; obtain ⟨hcz70_0, hcz70_1, hcz70_2, hcz70_3, hcz70_4, hfz70_0, hfz70_1, hfz70_2, hfz70_3, hfz70_4⟩ := cells_5 BK704.out) | ((with_reducible refine gate_callee (f := 72) rfl ?_); refine goesL_ (some 29) rfl rfl Try.func72 (zq47) rfl #[.agg #[.int .i64 a0_0, .int .i64 a0_1, .int .i64 a0_2, .int .i64 a0_3, .int .i64 a0_4], .int .i64 a1, .slice A2 l2.length c2] rfl (zq28) ?_; (with_reducible refine (trefoilref22_Wrong.calls k a0_0 a0_1 a0_2 a0_3 a0_4 a1 _ _ l2 t705 _ ?side1 ?side2 A6.out).mono ?_); (case side1 => repeat (first | exact (Kd.V_reads' HO2.out).2.2 | (with_reducible refine Kd.C_alloc ?_ _) | (with_reducible refine Kd.C_drewN ?_ _) | (with_reducible refine Kd.C_drew ?_))); (case side2 => exact (Kd.V_reads' HO2.out).2.1); rintro e w71 ⟨rfl, hb⟩; refine ⟨_, rfl, ?_⟩; replace HO2 := Aside0.mk (Kd.V_below HO2.v hb); replace BK704 := Aside0.mk (BK704.lk hb); replace HB := Aside0.mk (below_step HB.bl hb); (try clear hb); (try clear hb2); (try clear hk); (try clear hi); obtain ⟨hcz72_0, hcz72_1, hcz72_2, hcz72_3, hcz72_4, hfz72_0, hfz72_1, hfz72_2, hfz72_3, hfz72_4⟩ := cells_5 BK704.out) | ((with_reducible refine gate_callee (f := 48) rfl ?_); refine goesL_ (some 37) rfl rfl Try.func48 (zq47) rfl #[.agg #[.int .i64 a0_0, .int .i64 a0_1, .int .i64 a0_2, .int .i64 a0_3, .int .i64 a0_4]] rfl (zq28) ?_; (with_reducible refine (trefoilref22_Sides.calls a0_0 a0_1 a0_2 a0_3 a0_4 t707 t708 t709 _ A8.out).mono ?_); rintro e w73 ⟨rfl, hb⟩; refine ⟨_, rfl, ?_⟩; replace HO2 := Aside0.mk (Kd.V_below HO2.v hb); replace BK704 := Aside0.mk (BK704.lk hb); replace HB := Aside0.mk (below_step HB.bl hb); (try clear hb); (try clear hb2); (try clear hk); (try clear hi); obtain ⟨hcz74_0, hcz74_1, hcz74_2, hcz74_3, hcz74_4, hfz74_0, hfz74_1, hfz74_2, hfz74_3, hfz74_4⟩ := cells_5 BK704.out) | ((with_reducible refine gate_callee (f := 73) rfl ?_); refine goesL_ (some 46) rfl rfl Try.func73 (zq47) rfl #[.int .i64 a0_1, .int .i64 t709, .slice A3 l3.length c3] rfl (zq28) ?_; (with_reducible refine (trefoilref21_Fold.calls k a0_1 t709 _ _ l3 t710 t711 _ ?side1 ?side2 A9.out).mono ?_); (case side1 => repeat (first | exact (Kd.C_below HR3.out HB.out) | (with_reducible refine Kd.C_alloc ?_ _) | (with_reducible refine Kd.C_drewN ?_ _) | (with_reducible refine Kd.C_drew ?_))); (case side2 => exact HC3.out); rintro e w75 ⟨v712, rfl, ho0, hb⟩; refine ⟨_, rfl, ?_⟩; replace HO2 := Aside0.mk (Kd.V_elder' HO2.v (Kd.R_base ho0) hb); have HO713 := Aside0.mk (Kd.R_lower (Kd.R_newM (M := fun k_ => (w.heap.size ≤ k_)) ho0 (below_size HB.bl) (fun k_ h_ => h_)) (below_size HB.bl)); replace BK704 := Aside0.mk (BK704.lk hb); replace HB := Aside0.mk (below_step HB.bl hb); (try clear hb); (try clear hb2); (try clear hk); (try clear hi); (try clear ho0)))
   go_ret2
   exact ⟨_, zq37, zq27, zq21⟩
 ·rw [if_neg c7] at H
  have c7b0 : (t705 == 0) = false := beq_eq_false_iff_ne.mpr c7
  have c7b1 : (t705 != 0) = true := bne_iff_ne.mpr c7
  replace H := Option.bind_eq_some_iff.mp H
  obtain ⟨t706, A760, H⟩ := H
  replace H : (some (([] : List (S26)), t706)) = some (r1, r2) := H
  have A76 := Aside0.mk A760
  clear A760
  simp only [Option.some.injEq, Prod.mk.injEq] at H
  obtain ⟨rfl, rfl⟩ := H
  go_enter Try.func39, Try.ntmps39
  go_wp2_with (first | ((with_reducible refine gate_dst (N := 5) rfl ?_); (try (refine gate_guard (by rfl) ?_; dsimp only)); refine box_event ?hg (N := 5) ?hd (cs := #[.int .i64 a0_0, .int .i64 a0_1, .int .i64 a0_2, .int .i64 a0_3, .int .i64 a0_4]) (t := 23) ?hr ?_; (case hd => rfl); (case hg => rfl); (case hr => first | (go_simp; done) | (go_simp; rfl)); intro gb704 hg w77 hbox hb; have n0_ := Aside0.mk (Kd.V_below (Kd.V_elderB HO2.v gb704 (Nat.le_of_eq hg.symm)) hb); have n1_ := Aside0.mk (below_step HB.bl hb); have n2_ := Aside0.mk (hbox); have n3_ := Aside0.mk ((zq46 : w.heap.size ≤ gb704)); have n4_ := Aside0.mk ((zq46 : w.heap.size ≤ gb704)); clear HO2; clear HB; have HO2 := n0_; have HB := n1_; have BK704 := n2_; have GW704 := n3_; have GE704 := n4_; clear n0_ n1_ n2_ n3_ n4_; clear hb hbox hg; obtain ⟨hcz78_0, hcz78_1, hcz78_2, hcz78_3, hcz78_4, hfz78_0, hfz78_1, hfz78_2, hfz78_3, hfz78_4⟩ := cells_5 BK704.out) | ((with_reducible refine gate_callee (f := 72) rfl ?_); refine goesL_ (some 29) rfl rfl Try.func72 (zq47) rfl #[.agg #[.int .i64 a0_0, .int .i64 a0_1, .int .i64 a0_2, .int .i64 a0_3, .int .i64 a0_4], .int .i64 a1, .slice A2 l2.length c2] rfl (zq28) ?_; (with_reducible refine (trefoilref22_Wrong.calls k a0_0 a0_1 a0_2 a0_3 a0_4 a1 _ _ l2 t705 _ ?side1 ?side2 A6.out).mono ?_); (case side1 => repeat (first | exact (Kd.V_reads' HO2.out).2.2 | (with_reducible refine Kd.C_alloc ?_ _) | (with_reducible refine Kd.C_drewN ?_ _) | (with_reducible refine Kd.C_drew ?_))); (case side2 => exact (Kd.V_reads' HO2.out).2.1); rintro e w79 ⟨rfl, hb⟩; refine ⟨_, rfl, ?_⟩; replace HO2 := Aside0.mk (Kd.V_below HO2.v hb); replace BK704 := Aside0.mk (BK704.lk hb); replace HB := Aside0.mk (below_step HB.bl hb); (try clear hb); (try clear hb2); (try clear hk); (try clear hi); obtain ⟨hcz80_0, hcz80_1, hcz80_2, hcz80_3, hcz80_4, hfz80_0, hfz80_1, hfz80_2, hfz80_3, hfz80_4⟩ := cells_5 BK704.out) | ((with_reducible refine gate_callee (f := 72) rfl ?_); refine goesL_ (some 34) rfl rfl Try.func72 (zq47) rfl #[.agg #[.int .i64 a0_0, .int .i64 a0_1, .int .i64 a0_2, .int .i64 a0_3, .int .i64 a0_4], .int .i64 a1, .slice A2 l2.length c2] rfl (zq28) ?_; (with_reducible refine (trefoilref22_Wrong.calls k a0_0 a0_1 a0_2 a0_3 a0_4 a1 _ _ l2 t706 _ ?side1 ?side2 A76.out).mono ?_); (case side1 => repeat (first | exact (Kd.V_reads' HO2.out).2.2 | (with_reducible refine Kd.C_alloc ?_ _) | (with_reducible refine Kd.C_drewN ?_ _) | (with_reducible refine Kd.C_drew ?_))); (case side2 => exact (Kd.V_reads' HO2.out).2.1); rintro e w81 ⟨rfl, hb⟩; refine ⟨_, rfl, ?_⟩; replace HO2 := Aside0.mk (Kd.V_below HO2.v hb); replace BK704 := Aside0.mk (BK704.lk hb); replace HB := Aside0.mk (below_step HB.bl hb); (try clear hb); (try clear hb2); (try clear hk); (try clear hi)))
  go_ret2
  exact ⟨_, zq37, zq27, zq21⟩
end Go.Proofs.Ytcmaidpoolcelaa.P
