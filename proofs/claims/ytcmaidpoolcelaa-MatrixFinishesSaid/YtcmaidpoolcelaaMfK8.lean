/- Functions of the program as plain Lean functions, and proofs that the machine's calls do what these do: written by a program of this workplace (wip/tools/pp.py). -/
import Derived.Test.YtcmaidpoolcelaaMfPx0
import Derived.Test.YtcmaidpoolcelaaMfK0
import Derived.Test.YtcmaidpoolcelaaMfK1
import Derived.Test.YtcmaidpoolcelaaMfK2
import Derived.Test.YtcmaidpoolcelaaMfK3
import Derived.Test.YtcmaidpoolcelaaMfK7
import Derived.Test.YtcmaidpoolcelaaMfSh
namespace Go.Proofs.Ytcmaidpoolcelaa.P
open Go.RowKit Go.Proofs.YtcmaidpoolcelaaW.PrintWords Go.Proofs.YtcmaidpoolcelaaW.PrintLast Go.Proofs.YtcmaidpoolcelaaW.PrintMore
attribute [local go_sem] max2_int min2_int max_two min_two max_three min_three max_four min_four   -- for this text's walks alone
set_option linter.unusedVariables false
set_option linter.unusedSimpArgs false

abbrev ba8_0 : Array Bool := #[false, false, false, false, false, false, false, false, false, false, false, false, false, false, false, false, false, false, false, false, false, false, false, false, false, false, false, false, false, false, false, false, false, false, false, false, false, false, false, false, false, false, false, false]
abbrev ba8_1 : Array Bool := #[true, false, false, false, false, false, false, false, false, false, false, false, false, false, false, false, false, false, false, false, false, false, false, false, false, false, false, false, false, false, false, false, false, false, false, false, false, false, false, false, false, false, false, false]
abbrev ba8_2 : Array Bool := #[true, true, false, false, false, false, false, false, false, false, false, false, false, false, false, false, false, false, false, false, false, false, false, false, false, false, false, false, false, false, false, false, false, false, false, false, false, false, false, false, false, false, false, false]
abbrev ba8_3 : Array Bool := #[true, true, true, false, false, false, false, false, false, false, false, false, false, false, false, false, false, false, false, false, false, false, false, false, false, false, false, false, false, false, false, false, false, false, false, false, false, false, false, false, false, false, false, false]
abbrev ba8_4 : Array Bool := #[true, true, true, true, false, false, false, false, false, false, false, false, false, false, false, false, false, false, false, false, false, false, false, false, false, false, false, false, false, false, false, false, false, false, false, false, false, false, false, false, false, false, false, false]
abbrev ba8_5 : Array Bool := #[true, true, true, true, false, false, true, false, false, false, false, false, false, false, false, false, false, false, false, false, false, false, false, false, false, false, false, false, false, false, false, false, false, false, false, false, false, false, false, false, false, false, false, false]
abbrev ba8_6 : Array Bool := #[true, true, true, true, false, false, true, true, false, false, false, false, false, false, false, false, false, false, false, false, false, false, false, false, false, false, false, false, false, false, false, false, false, false, false, false, false, false, false, false, false, false, false, false]
abbrev ba8_7 : Array Bool := #[true, true, true, true, false, false, true, true, true, false, false, false, false, false, false, false, false, false, false, false, false, false, false, false, false, false, false, false, false, false, false, false, false, false, false, false, false, false, false, false, false, false, false, false]
abbrev ba8_8 : Array Bool := #[true, true, true, true, true, false, true, true, true, false, false, false, false, false, false, false, false, false, false, false, false, false, false, false, false, false, false, false, false, false, false, false, false, false, false, false, false, false, false, false, false, false, false, false]
abbrev ba8_9 : Array Bool := #[true, true, true, true, true, true, true, true, true, false, false, false, false, false, false, false, false, false, false, false, false, false, false, false, false, false, false, false, false, false, false, false, false, false, false, false, false, false, false, false, false, false, false, false]
abbrev ba8_10 : Array Bool := #[true, true, true, true, true, true, true, true, true, true, false, false, false, false, false, false, false, false, false, false, false, false, false, false, false, false, false, false, false, false, false, false, false, false, false, false, false, false, false, false, false, false, false, false]
abbrev ba8_11 : Array Bool := #[true, true, true, true, true, true, true, true, true, true, true, false, false, false, false, false, false, false, false, false, false, false, false, false, false, false, false, false, false, false, false, false, false, false, false, false, false, false, false, false, false, false, false, false]
abbrev ba8_12 : Array Bool := #[true, true, true, true, true, true, true, true, true, true, true, true, false, false, false, false, false, false, false, false, false, false, false, false, false, false, false, false, false, false, false, false, false, false, false, false, false, false, false, false, false, false, false, false]
abbrev ba8_13 : Array Bool := #[true, true, true, true, true, true, true, true, true, true, true, true, true, false, false, false, false, false, false, false, false, false, false, false, false, false, false, false, false, false, false, false, false, false, false, false, false, false, false, false, false, false, false, false]
abbrev ba8_14 : Array Bool := #[true, true, true, true, true, true, true, true, true, true, true, true, true, true, false, false, false, false, false, false, false, false, false, false, false, false, false, false, false, false, false, false, false, false, false, false, false, false, false, false, false, false, false, false]
abbrev ba8_15 : Array Bool := #[true, true, true, true, true, true, true, true, true, true, true, true, true, true, true, false, false, false, false, false, false, false, false, false, false, false, false, false, false, false, false, false, false, false, false, false, false, false, false, false, false, false, false, false]
abbrev ba8_16 : Array Bool := #[true, true, true, true, true, true, true, true, true, true, true, true, true, true, true, false, false, true, false, false, false, false, false, false, false, false, false, false, false, false, false, false, false, false, false, false, false, false, false, false, false, false, false, false]
abbrev ba8_17 : Array Bool := #[true, true, true, true, true, true, true, true, true, true, true, true, true, true, true, false, false, true, true, false, false, false, false, false, false, false, false, false, false, false, false, false, false, false, false, false, false, false, false, false, false, false, false, false]
abbrev ba8_18 : Array Bool := #[true, true, true, true, true, true, true, true, true, true, true, true, true, true, true, false, false, true, true, true, false, false, false, false, false, false, false, false, false, false, false, false, false, false, false, false, false, false, false, false, false, false, false, false]
abbrev ba8_19 : Array Bool := #[true, true, true, true, true, true, true, true, true, true, true, true, true, true, true, true, false, true, true, true, false, false, false, false, false, false, false, false, false, false, false, false, false, false, false, false, false, false, false, false, false, false, false, false]
abbrev ba8_20 : Array Bool := #[true, true, true, true, true, true, true, true, true, true, true, true, true, true, true, true, true, true, true, true, false, false, false, false, false, false, false, false, false, false, false, false, false, false, false, false, false, false, false, false, false, false, false, false]
abbrev ba8_21 : Array Bool := #[true, true, true, true, true, true, true, true, true, true, true, true, true, true, true, true, true, true, true, true, true, false, false, false, false, false, false, false, false, false, false, false, false, false, false, false, false, false, false, false, false, false, false, false]
abbrev ba8_22 : Array Bool := #[true, true, true, true, true, true, true, true, true, true, true, true, true, true, true, true, true, true, true, true, true, true, false, false, false, false, false, false, false, false, false, false, false, false, false, false, false, false, false, false, false, false, false, false]
abbrev ba8_23 : Array Bool := #[true, true, true, true, true, true, true, true, true, true, true, true, true, true, true, true, true, true, true, true, true, true, true, false, false, false, false, false, false, false, false, false, false, false, false, false, false, false, false, false, false, false, false, false]
abbrev ba8_24 : Array Bool := #[true, true, true, true, true, true, true, true, true, true, true, true, true, true, true, true, true, true, true, true, true, true, true, true, false, false, false, false, false, false, false, false, false, false, false, false, false, false, false, false, false, false, false, false]
abbrev ba8_25 : Array Bool := #[true, true, true, true, true, true, true, true, true, true, true, true, true, true, true, true, true, true, true, true, true, true, true, true, false, true, false, false, false, false, false, false, false, false, false, false, false, false, false, false, false, false, false, false]
abbrev ba8_26 : Array Bool := #[true, true, true, true, true, true, true, true, true, true, true, true, true, true, true, true, true, true, true, true, true, true, true, true, false, true, true, false, false, false, false, false, false, false, false, false, false, false, false, false, false, false, false, false]
abbrev ba8_27 : Array Bool := #[true, true, true, true, true, true, true, true, true, true, true, true, true, true, true, true, true, true, true, true, true, true, true, true, false, true, true, true, false, false, false, false, false, false, false, false, false, false, false, false, false, false, false, false]
abbrev ba8_28 : Array Bool := #[true, true, true, true, true, true, true, true, true, true, true, true, true, true, true, true, true, true, true, true, true, true, true, true, false, true, true, true, true, false, false, false, false, false, false, false, false, false, false, false, false, false, false, false]
abbrev ba8_29 : Array Bool := #[true, true, true, true, true, true, true, true, true, true, true, true, true, true, true, true, true, true, true, true, true, true, true, true, true, false, false, false, false, false, false, false, false, false, false, false, false, false, false, false, false, false, false, false]
abbrev ba8_30 : Array Bool := #[true, true, true, true, true, true, true, true, true, true, true, true, true, true, true, true, true, true, true, true, true, true, true, true, true, true, false, false, false, false, false, false, false, false, false, false, false, false, false, false, false, false, false, false]
abbrev ba8_31 : Array Bool := #[true, true, true, true, true, true, true, true, true, true, true, true, true, true, true, true, true, true, true, true, true, true, true, true, true, true, true, false, false, false, false, false, false, false, false, false, false, false, false, false, false, false, false, false]
abbrev ba8_32 : Array Bool := #[true, true, true, true, true, true, true, true, true, true, true, true, true, true, true, true, true, true, true, true, true, true, true, true, true, true, true, true, false, false, false, false, false, false, false, false, false, false, false, false, false, false, false, false]
abbrev ba8_33 : Array Bool := #[true, true, true, true, true, true, true, true, true, true, true, true, true, true, true, true, true, true, true, true, true, true, true, true, true, true, true, true, true, false, false, false, false, false, false, false, false, false, false, false, false, false, false, false]
abbrev ba8_34 : Array Bool := #[true, true, true, true, true, true, true, true, true, true, true, true, true, true, true, true, true, true, true, true, true, true, true, true, true, true, true, true, true, true, false, false, false, false, false, false, false, false, false, false, false, false, false, false]
abbrev ba8_35 : Array Bool := #[true, true, true, true, true, true, true, true, true, true, true, true, true, true, true, true, true, true, true, true, true, true, true, true, true, true, true, true, true, true, true, false, false, false, false, false, false, false, false, false, false, false, false, false]
abbrev ba8_36 : Array Bool := #[true, true, true, true, true, true, true, true, true, true, true, true, true, true, true, true, true, true, true, true, true, true, true, true, true, true, true, true, true, true, true, true, false, false, false, false, false, false, false, false, false, false, false, false]
abbrev ba8_37 : Array Bool := #[true, true, true, true, true, true, true, true, true, true, true, true, true, true, true, true, true, true, true, true, true, true, true, true, true, true, true, true, true, true, true, true, true, false, false, false, false, false, false, false, false, false, false, false]
abbrev ba8_38 : Array Bool := #[true, true, true, true, true, true, true, true, true, true, true, true, true, true, true, true, true, true, true, true, true, true, true, true, true, true, true, true, true, true, true, true, true, true, false, false, false, false, false, false, false, false, false, false]
abbrev ba8_39 : Array Bool := #[true, true, true, true, true, true, true, true, true, true, true, true, true, true, true, true, true, true, true, true, true, true, true, true, true, true, true, true, true, true, true, true, true, true, true, false, false, false, false, false, false, false, false, false]
abbrev ba8_40 : Array Bool := #[true, true, true, true, true, true, true, true, true, true, true, true, true, true, true, true, true, true, true, true, true, true, true, true, true, true, true, true, true, true, true, true, true, true, true, false, true, false, false, false, false, false, false, false]
abbrev ba8_41 : Array Bool := #[true, true, true, true, true, true, true, true, true, true, true, true, true, true, true, true, true, true, true, true, true, true, true, true, true, true, true, true, true, true, true, true, true, true, true, false, true, true, false, false, false, false, false, false]
abbrev ba8_42 : Array Bool := #[true, true, true, true, true, true, true, true, true, true, true, true, true, true, true, true, true, true, true, true, true, true, true, true, true, true, true, true, true, true, true, true, true, true, true, false, true, true, true, false, false, false, false, false]
abbrev ba8_43 : Array Bool := #[true, true, true, true, true, true, true, true, true, true, true, true, true, true, true, true, true, true, true, true, true, true, true, true, true, true, true, true, true, true, true, true, true, true, true, false, true, true, true, true, false, false, false, false]
abbrev ba8_44 : Array Bool := #[true, true, true, true, true, true, true, true, true, true, true, true, true, true, true, true, true, true, true, true, true, true, true, true, true, true, true, true, true, true, true, true, true, true, true, true, false, false, false, false, false, false, false, false]
abbrev ba8_45 : Array Bool := #[true, true, true, true, true, true, true, true, true, true, true, true, true, true, true, true, true, true, true, true, true, true, true, true, true, true, true, true, true, true, true, true, true, true, true, true, true, false, false, false, false, false, false, false]
abbrev ba8_46 : Array Bool := #[true, true, true, true, true, true, true, true, true, true, true, true, true, true, true, true, true, true, true, true, true, true, true, true, true, true, true, true, true, true, true, true, true, true, true, true, true, true, false, false, false, false, false, false]
abbrev ba8_47 : Array Bool := #[true, true, true, true, true, true, true, true, true, true, true, true, true, true, true, true, true, true, true, true, true, true, true, true, true, true, true, true, true, true, true, true, true, true, true, true, true, true, true, false, false, false, false, false]
abbrev ba8_48 : Array Bool := #[true, true, true, true, true, true, true, true, true, true, true, true, true, true, true, true, true, true, true, true, true, true, true, true, true, true, true, true, true, true, true, true, true, true, true, true, true, true, true, true, false, false, false, false]
abbrev ba8_49 : Array Bool := #[true, true, true, true, true, true, true, true, true, true, true, true, true, true, true, true, true, true, true, true, true, true, true, true, true, true, true, true, true, true, true, true, true, true, true, true, true, true, true, true, true, false, false, false]
abbrev ba8_50 : Array Bool := #[true, true, true, true, true, true, true, true, true, true, true, true, true, true, true, true, true, true, true, true, true, true, true, true, true, true, true, true, true, true, true, true, true, true, true, true, true, true, true, true, true, true, false, false]
abbrev ba8_51 : Array Bool := #[true, true, true, true, true, true, true, true, true, true, true, true, true, true, true, true, true, true, true, true, true, true, true, true, true, true, true, true, true, true, true, true, true, true, true, true, true, true, true, true, true, true, true, false]
abbrev ba8_52 : Array Bool := #[true, true, true, true, true, true, true, true, true, true, true, true, true, true, true, true, true, true, true, true, true, true, true, true, true, true, true, true, true, true, true, true, true, true, true, true, true, true, true, true, true, true, true, true]

/-! ### trefoilref22_Wrong: function 72 -/
def trefoilref22_Wrong.l0 : Nat → List (S26) → Int → Int → Int → Int → Int → Int → Int → Int → Int → Option (Int)
 | 0, _, _, _, _, _, _, _, _, _, _ => none
 | k + 1, x2, x7, x8, x9, x10, x686000, x686001, x686002, x686003, x686004 => if x10 < (x2.length : Int) then (if 0 ≤ x10 then (if (((rd_T26 x2 x10).f0).length : Int) = (wrap64 (x7 * x8)) then (if (((rd_T26 x2 x10).f1).length : Int) = (wrap64 (x8 * x9)) then ((trefoilref19_Fits.f k x686001 ((rd_T26 x2 x10).f0)).bind fun t694 => (if t694 = true then ((trefoilref19_Fits.f k x686001 ((rd_T26 x2 x10).f1)).bind fun t696 => (if t696 = true then (trefoilref22_Wrong.l0 k x2 x7 x8 x9 (wrap64 (x10 + 1)) x686000 x686001 x686002 x686003 x686004) else (some 11))) else (some 11))) else (some 11)) else (some 11)) else (none)) else (some 0)
def trefoilref22_Wrong.f (k : Nat) (a0_0 : Int) (a0_1 : Int) (a0_2 : Int) (a0_3 : Int) (a0_4 : Int) (a1 : Int) (l2 : List (S26)) : Option (Int) := (trefoilref22_Check.f k a0_0 a0_1 a0_2 a0_3 a0_4 a1 (l2.length : Int)).bind fun t686 => (if t686 = 0 then ((trefoilref22_Sides.f a0_0 a0_1 a0_2 a0_3 a0_4).bind fun bt688 => (trefoilref22_Wrong.l0 k l2 bt688.1 bt688.2.1 bt688.2.2 0 a0_0 a0_1 a0_2 a0_3 a0_4)) else ((trefoilref22_Check.f k a0_0 a0_1 a0_2 a0_3 a0_4 a1 (l2.length : Int)).bind fun t687 => (some t687)))
def trefoilref22_Wrong.T7 : Bool × List (List Nat × List Nat) := (true, [([], []), ([], []), ([0, 1], [0, 1]), ([2], [2]), ([3], [3]), ([4], [4]), ([], []), ([], []), ([6, 7], [6, 7]), ([5, 8], [5, 8]), ([9], [9]), ([10], [10]), ([10], [10]), ([11, 12, 10], [10, 11, 12]), ([13, 10], [10, 13]), ([14, 10], [10, 14]), ([15, 10], [10, 15]), ([10], [10]), ([10], [10]), ([17, 18, 10], [10, 17, 18]), ([16, 19, 10], [10, 16, 19]), ([10, 20], [10, 20]), ([21, 10], [21]), ([22], [22]), ([23, 22], [22, 23]), ([22], [22]), ([22], [22]), ([25, 26, 22], [22, 25, 26]), ([27, 22], [22, 27]), ([28, 22], [22, 28]), ([24, 29, 22, 22], [22, 24, 29]), ([30, 22], [22, 30]), ([22, 31], [22, 31]), ([32, 30], [32]), ([33], [33]), ([34, 33], [33, 34]), ([33], [33]), ([33], [33]), ([36, 37, 33], [33, 36, 37]), ([38, 33], [33, 38]), ([39, 33], [33, 39]), ([35, 40, 33, 33], [33, 35, 40]), ([41, 33], [33, 41]), ([33, 42], [33, 42])])
def trefoilref22_Wrong.B7 : List Nat := [0, 0, 3, 7, 15, 31, 0, 0, 192, 511, 1023, 2047, 2047, 8191, 16383, 32767, 65535, 2047, 2047, 395263, 1048575, 2097151, 4194303, 8388607, 16777215, 8388607, 8388607, 109051903, 243269631, 511705087, 1073741823, 2147483647, 4294967295, 8589934591, 17179869183, 34359738367, 17179869183, 17179869183, 223338299391, 498216206335, 1047972020223, 2199023255551, 4398046511103, 8796093022207]
theorem trefoilref22_Wrong.tab7 : rtab .any (opsOf Try.f72 7) = trefoilref22_Wrong.T7 := by kernel_rfl
theorem trefoilref22_Wrong.bits7 : waitsOk trefoilref22_Wrong.T7.2 trefoilref22_Wrong.B7 = true := by kernel_rfl
set_option maxHeartbeats 8000000 in
set_option maxRecDepth 100000 in
theorem trefoilref22_Wrong.calls (k : Nat) (a0_0 : Int) (a0_1 : Int) (a0_2 : Int) (a0_3 : Int) (a0_4 : Int) (a1 : Int) (A2 : Option Addr) (c2 : Nat) (l2 : List (S26)) (r : Int) (w : World) (hr2 : Kd.C k26 w A2 l2.length l2) (hc2 : l2.length ≤ c2) (h : trefoilref22_Wrong.f k a0_0 a0_1 a0_2 a0_3 a0_4 a1 l2 = some r) :
  Calls Try.prog 72 #[.agg #[.int .i64 a0_0, .int .i64 a0_1, .int .i64 a0_2, .int .i64 a0_3, .int .i64 a0_4], .int .i64 a1, .slice A2 l2.length c2] w fun e w' => e = .returned (.int .i64 r) ∧ Below w.heap.size w w' := by
 have hu23 := Try.underlying23
 have HR2 := Aside0.mk hr2
 have HC2 := Aside0.mk hc2
 clear hr2 hc2
 have HB := Aside0.mk (Below.refl w.heap.size w)
 have H : ((trefoilref22_Check.f k a0_0 a0_1 a0_2 a0_3 a0_4 a1 (l2.length : Int)).bind fun t686 => (if t686 = 0 then ((trefoilref22_Sides.f a0_0 a0_1 a0_2 a0_3 a0_4).bind fun bt688 => (trefoilref22_Wrong.l0 k l2 bt688.1 bt688.2.1 bt688.2.2 0 a0_0 a0_1 a0_2 a0_3 a0_4)) else ((trefoilref22_Check.f k a0_0 a0_1 a0_2 a0_3 a0_4 a1 (l2.length : Int)).bind fun t687 => (some t687)))) = some r := h
 clear h
 replace H := Option.bind_eq_some_iff.mp H
 obtain ⟨t686, A40, H⟩ := H
 replace H : (if t686 = 0 then ((trefoilref22_Sides.f a0_0 a0_1 a0_2 a0_3 a0_4).bind fun bt688 => (trefoilref22_Wrong.l0 k l2 bt688.1 bt688.2.1 bt688.2.2 0 a0_0 a0_1 a0_2 a0_3 a0_4)) else ((trefoilref22_Check.f k a0_0 a0_1 a0_2 a0_3 a0_4 a1 (l2.length : Int)).bind fun t687 => (some t687))) = some r := H
 have A4 := Aside0.mk A40
 clear A40
 by_cases c5 : t686 = 0
 ·rw [if_pos c5] at H
  have c5b0 : (t686 == 0) = true := beq_iff_eq.mpr c5
  have c5b1 : (t686 != 0) = false := bne_eq_false_iff_eq.mpr c5
  clear c5
  replace H := Option.bind_eq_some_iff.mp H
  obtain ⟨⟨t688, t689, t690⟩, A60, H⟩ := H
  replace H : (trefoilref22_Wrong.l0 k l2 t688 t689 t690 0 a0_0 a0_1 a0_2 a0_3 a0_4) = some r := H
  have A6 := Aside0.mk A60
  clear A60
  have H' := Aside0.mk H
  clear H
  go_enter Try.func72, Try.ntmps72
  go_wp2_with (first | ((with_reducible refine gate_dst (N := 3) rfl ?_); (try (refine gate_guard (by rfl) ?_; dsimp only)); refine box_event ?hg (N := 3) ?hd (cs := #[.int .i64 a0_0, .int .i64 a0_1, .int .i64 a0_2, .int .i64 a0_3, .int .i64 a0_4]) (t := 23) ?hr ?_; (case hd => rfl); (case hg => rfl); (case hr => first | (go_simp; done) | (go_simp; rfl)); intro gb685 hg w7 hbox hb; have n0_ := Aside0.mk (below_step HB.bl hb); have n1_ := Aside0.mk (hbox); have n2_ := Aside0.mk ((zq46 : w.heap.size ≤ gb685)); have n3_ := Aside0.mk ((zq46 : w.heap.size ≤ gb685)); clear HB; have HB := n0_; have BK685 := n1_; have GW685 := n2_; have GE685 := n3_; clear n0_ n1_ n2_ n3_; clear hb hbox hg; obtain ⟨hcz8_0, hcz8_1, hcz8_2, hcz8_3, hcz8_4, hfz8_0, hfz8_1, hfz8_2, hfz8_3, hfz8_4⟩ := cells_5 BK685.out) | ((with_reducible refine gate_callee (f := 81) rfl ?_); refine goesL_ (some 15) rfl rfl Try.func81 (zq47) rfl #[.agg #[.int .i64 a0_0, .int .i64 a0_1, .int .i64 a0_2, .int .i64 a0_3, .int .i64 a0_4], .int .i64 a1, .int .i64 (l2.length : Int)] rfl (zq28) ?_; (with_reducible refine (trefoilref22_Check.calls k a0_0 a0_1 a0_2 a0_3 a0_4 a1 (l2.length : Int) t686 _ A4.out).mono ?_); rintro e w9 ⟨rfl, hb⟩; refine ⟨_, rfl, ?_⟩; replace BK685 := Aside0.mk (BK685.lk hb); replace HB := Aside0.mk (below_step HB.bl hb); (try clear hb); (try clear hb2); (try clear hk); (try clear hi); obtain ⟨hcz10_0, hcz10_1, hcz10_2, hcz10_3, hcz10_4, hfz10_0, hfz10_1, hfz10_2, hfz10_3, hfz10_4⟩ := cells_5 BK685.out) | ((with_reducible refine gate_callee (f := 48) rfl ?_); refine goesL_ (some 24) rfl rfl Try.func48 (zq47) rfl #[.agg #[.int .i64 a0_0, .int .i64 a0_1, .int .i64 a0_2, .int .i64 a0_3, .int .i64 a0_4]] rfl (zq28) ?_; (with_reducible refine (trefoilref22_Sides.calls a0_0 a0_1 a0_2 a0_3 a0_4 t688 t689 t690 _ A6.out).mono ?_); rintro e w11 ⟨rfl, hb⟩; refine ⟨_, rfl, ?_⟩; replace BK685 := Aside0.mk (BK685.lk hb); replace HB := Aside0.mk (below_step HB.bl hb); (try clear hb); (try clear hb2); (try clear hk); (try clear hi)))
  go_loopg [10] k (fun kq v10 w' => ∃ (x10_1 : Int), v10 = .int .i64 x10_1 ∧ Aside0 (trefoilref22_Wrong.l0 kq l2 t688 t689 t690 x10_1 a0_0 a0_1 a0_2 a0_3 a0_4 = some r) ∧ Aside0 (kq ≤ k) ∧ Aside0 (w'.heap[gb685]? = some (.cells #[.int .i64 a0_0, .int .i64 a0_1, .int .i64 a0_2, .int .i64 a0_3, .int .i64 a0_4] 23 (0, 0))) ∧ Aside0 (Below w.heap.size w w'))
  case atStart => exact ⟨(0), (zq40), H', ⟨Nat.le_refl _⟩, ⟨by (with_reducible repeat (first | refine blk_drewN ?_ _ | refine blk_drew ?_ | refine blk_alloc ?_ _)); exact BK685.out⟩, ⟨zq20⟩⟩
  case round =>
   clear H'
   try clear c2
   try clear p2
   try clear c4
   try clear c5
   try clear c5b0
   try clear c5b1
   try clear c7
   try clear c8
   try clear hcz10_0
   try clear hcz10_1
   try clear hcz10_2
   try clear hcz10_3
   try clear hcz10_4
   try clear hcz8_0
   try clear hcz8_1
   try clear hcz8_2
   try clear hcz8_3
   try clear hcz8_4
   try clear hfz10_0
   try clear hfz10_1
   try clear hfz10_2
   try clear hfz10_3
   try clear hfz10_4
   try clear hfz8_0
   try clear hfz8_1
   try clear hfz8_2
   try clear hfz8_3
   try clear hfz8_4
   obtain ⟨x10_1, rfl, HA, HK1, BK685, HB⟩ := hrel
   cases gk with
   | zero => exact absurd HA.out (by simp [trefoilref22_Wrong.l0])
   | succ k1 =>
    have H := HA.out
    clear HA
    simp only [trefoilref22_Wrong.l0] at H
    by_cases c12 : x10_1 < (l2.length : Int)
    ·rw [if_pos c12] at H
     have c12b0 : decide (x10_1 < (l2.length : Int)) = true := decide_eq_true c12
     clear c12
     by_cases c13 : 0 ≤ x10_1
     ·rw [if_pos c13] at H
      have c13b0 : decide (0 ≤ x10_1) = true := decide_eq_true c13
      clear c13
      by_cases c14 : (((rd_T26 l2 x10_1).f0).length : Int) = (wrap64 (t688 * t689))
      ·rw [if_pos c14] at H
       have c14b0 : ((((rd_T26 l2 x10_1).f0).length : Int) == (wrap64 (t688 * t689))) = true := beq_iff_eq.mpr c14
       have c14b1 : ((((rd_T26 l2 x10_1).f0).length : Int) != (wrap64 (t688 * t689))) = false := bne_eq_false_iff_eq.mpr c14
       clear c14
       by_cases c15 : (((rd_T26 l2 x10_1).f1).length : Int) = (wrap64 (t689 * t690))
       ·rw [if_pos c15] at H
        have c15b0 : ((((rd_T26 l2 x10_1).f1).length : Int) == (wrap64 (t689 * t690))) = true := beq_iff_eq.mpr c15
        have c15b1 : ((((rd_T26 l2 x10_1).f1).length : Int) != (wrap64 (t689 * t690))) = false := bne_eq_false_iff_eq.mpr c15
        clear c15
        replace H := Option.bind_eq_some_iff.mp H
        obtain ⟨t694, A160, H⟩ := H
        replace H : (if t694 = true then ((trefoilref19_Fits.f k1 a0_1 ((rd_T26 l2 x10_1).f1)).bind fun t696 => (if t696 = true then (trefoilref22_Wrong.l0 k1 l2 t688 t689 t690 (wrap64 (x10_1 + 1)) a0_0 a0_1 a0_2 a0_3 a0_4) else (some 11))) else (some 11)) = some r := H
        have A16 := Aside0.mk A160
        clear A160
        by_cases c17 : t694 = true
        ·subst c17
         have H1 : ((trefoilref19_Fits.f k1 a0_1 ((rd_T26 l2 x10_1).f1)).bind fun t696 => (if t696 = true then (trefoilref22_Wrong.l0 k1 l2 t688 t689 t690 (wrap64 (x10_1 + 1)) a0_0 a0_1 a0_2 a0_3 a0_4) else (some 11))) = some r := by rw [if_pos rfl] at H; exact H
         clear H
         have H := H1
         clear H1
         replace H := Option.bind_eq_some_iff.mp H
         obtain ⟨t696, A180, H⟩ := H
         replace H : (if t696 = true then (trefoilref22_Wrong.l0 k1 l2 t688 t689 t690 (wrap64 (x10_1 + 1)) a0_0 a0_1 a0_2 a0_3 a0_4) else (some 11)) = some r := H
         have A18 := Aside0.mk A180
         clear A180
         by_cases c19 : t696 = true
         ·subst c19
          have H1 : (trefoilref22_Wrong.l0 k1 l2 t688 t689 t690 (wrap64 (x10_1 + 1)) a0_0 a0_1 a0_2 a0_3 a0_4) = some r := by rw [if_pos rfl] at H; exact H
          clear H
          have H := H1
          clear H1
          have H' := Aside0.mk H
          clear H
          try go_wp2
          have n0_ := Aside0.mk (blk_drew BK685.out)
          have n1_ := Aside0.mk (below_drew1 HB.out)
          clear BK685
          clear HB
          have BK685 := n0_
          have HB := n1_
          clear n0_ n1_
          have p691 : 0 ≤ (x10_1 : Int) := of_decide_eq_true (zq39)
          have q691 : x10_1 < (l2.length : Int) := of_decide_eq_true (zq39)
          obtain ⟨ad691, A691_0, c691_0, A691_1, c691_1, A691_2, c691_2, e691, hx691_0, hx691_1, hx691_2, hl691_0, hi691_0, hl691_1, hi691_1, hl691_2, hi691_2⟩ := at_T26 HR2.out x10_1 p691 q691
          have hw691_2 := hx691_2
          have hw691_1 := hx691_1
          have hw691_0 := hx691_0
          cases e691
          replace hx691_0 := (HB.out.cell (World.block_lt_of_cell? w _ hx691_0)).trans hx691_0
          replace hx691_1 := (HB.out.cell (World.block_lt_of_cell? w _ hx691_1)).trans hx691_1
          replace hx691_2 := (HB.out.cell (World.block_lt_of_cell? w _ hx691_2)).trans hx691_2
          have HR691_0 := Aside0.mk hi691_0
          have HC691_0 := Aside0.mk hl691_0
          clear hi691_0 hl691_0
          have HR691_1 := Aside0.mk hi691_1
          have HC691_1 := Aside0.mk hl691_1
          clear hi691_1 hl691_1
          have HR691_2 := Aside0.mk hi691_2
          have HC691_2 := Aside0.mk hl691_2
          clear hi691_2 hl691_2
          replace p691 := eq_true p691
          replace q691 := eq_true q691
          have p692 : 0 ≤ (x10_1 : Int) := of_decide_eq_true (zq39)
          have q692 : x10_1 < (l2.length : Int) := of_decide_eq_true (zq39)
          obtain ⟨ad692, A692_0, c692_0, A692_1, c692_1, A692_2, c692_2, e692, hx692_0, hx692_1, hx692_2, hl692_0, hi692_0, hl692_1, hi692_1, hl692_2, hi692_2⟩ := at_T26 HR2.out x10_1 p692 q692
          have hw692_2 := hx692_2
          have hw692_1 := hx692_1
          have hw692_0 := hx692_0
          obtain rfl : ad691 = ad692 := (by injection e692)
          replace hx692_0 := (HB.out.cell (World.block_lt_of_cell? w _ hx692_0)).trans hx692_0
          replace hx692_1 := (HB.out.cell (World.block_lt_of_cell? w _ hx692_1)).trans hx692_1
          replace hx692_2 := (HB.out.cell (World.block_lt_of_cell? w _ hx692_2)).trans hx692_2
          have HR692_0 := Aside0.mk hi692_0
          have HC692_0 := Aside0.mk hl692_0
          clear hi692_0 hl692_0
          have HR692_1 := Aside0.mk hi692_1
          have HC692_1 := Aside0.mk hl692_1
          clear hi692_1 hl692_1
          have HR692_2 := Aside0.mk hi692_2
          have HC692_2 := Aside0.mk hl692_2
          clear hi692_2 hl692_2
          replace p692 := eq_true p692
          replace q692 := eq_true q692
          have ea_ := Option.some.inj (hx691_0.symm.trans hx692_0)
          injection ea_ with ea_ en_ ec_
          subst ea_
          subst ec_
          clear en_
          have ea_ := Option.some.inj (hx691_1.symm.trans hx692_1)
          injection ea_ with ea_ en_ ec_
          subst ea_
          subst ec_
          clear en_
          have ea_ := Option.some.inj (hx691_2.symm.trans hx692_2)
          injection ea_ with ea_ en_ ec_
          subst ea_
          subst ec_
          clear en_
          have p693 : 0 ≤ (x10_1 : Int) := of_decide_eq_true (zq39)
          have q693 : x10_1 < (l2.length : Int) := of_decide_eq_true (zq39)
          obtain ⟨ad693, A693_0, c693_0, A693_1, c693_1, A693_2, c693_2, e693, hx693_0, hx693_1, hx693_2, hl693_0, hi693_0, hl693_1, hi693_1, hl693_2, hi693_2⟩ := at_T26 HR2.out x10_1 p693 q693
          have hw693_2 := hx693_2
          have hw693_1 := hx693_1
          have hw693_0 := hx693_0
          obtain rfl : ad691 = ad693 := (by injection e693)
          replace hx693_0 := (HB.out.cell (World.block_lt_of_cell? w _ hx693_0)).trans hx693_0
          replace hx693_1 := (HB.out.cell (World.block_lt_of_cell? w _ hx693_1)).trans hx693_1
          replace hx693_2 := (HB.out.cell (World.block_lt_of_cell? w _ hx693_2)).trans hx693_2
          have HR693_0 := Aside0.mk hi693_0
          have HC693_0 := Aside0.mk hl693_0
          clear hi693_0 hl693_0
          have HR693_1 := Aside0.mk hi693_1
          have HC693_1 := Aside0.mk hl693_1
          clear hi693_1 hl693_1
          have HR693_2 := Aside0.mk hi693_2
          have HC693_2 := Aside0.mk hl693_2
          clear hi693_2 hl693_2
          replace p693 := eq_true p693
          replace q693 := eq_true q693
          have ea_ := Option.some.inj (hx691_0.symm.trans hx693_0)
          injection ea_ with ea_ en_ ec_
          subst ea_
          subst ec_
          clear en_
          have ea_ := Option.some.inj (hx691_1.symm.trans hx693_1)
          injection ea_ with ea_ en_ ec_
          subst ea_
          subst ec_
          clear en_
          have ea_ := Option.some.inj (hx691_2.symm.trans hx693_2)
          injection ea_ with ea_ en_ ec_
          subst ea_
          subst ec_
          clear en_
          have p695 : 0 ≤ (x10_1 : Int) := of_decide_eq_true (zq39)
          have q695 : x10_1 < (l2.length : Int) := of_decide_eq_true (zq39)
          obtain ⟨ad695, A695_0, c695_0, A695_1, c695_1, A695_2, c695_2, e695, hx695_0, hx695_1, hx695_2, hl695_0, hi695_0, hl695_1, hi695_1, hl695_2, hi695_2⟩ := at_T26 HR2.out x10_1 p695 q695
          have hw695_2 := hx695_2
          have hw695_1 := hx695_1
          have hw695_0 := hx695_0
          obtain rfl : ad691 = ad695 := (by injection e695)
          replace hx695_0 := (HB.out.cell (World.block_lt_of_cell? w _ hx695_0)).trans hx695_0
          replace hx695_1 := (HB.out.cell (World.block_lt_of_cell? w _ hx695_1)).trans hx695_1
          replace hx695_2 := (HB.out.cell (World.block_lt_of_cell? w _ hx695_2)).trans hx695_2
          have HR695_0 := Aside0.mk hi695_0
          have HC695_0 := Aside0.mk hl695_0
          clear hi695_0 hl695_0
          have HR695_1 := Aside0.mk hi695_1
          have HC695_1 := Aside0.mk hl695_1
          clear hi695_1 hl695_1
          have HR695_2 := Aside0.mk hi695_2
          have HC695_2 := Aside0.mk hl695_2
          clear hi695_2 hl695_2
          replace p695 := eq_true p695
          replace q695 := eq_true q695
          have ea_ := Option.some.inj (hx691_0.symm.trans hx695_0)
          injection ea_ with ea_ en_ ec_
          subst ea_
          subst ec_
          clear en_
          have ea_ := Option.some.inj (hx691_1.symm.trans hx695_1)
          injection ea_ with ea_ en_ ec_
          subst ea_
          subst ec_
          clear en_
          have ea_ := Option.some.inj (hx691_2.symm.trans hx695_2)
          injection ea_ with ea_ en_ ec_
          subst ea_
          subst ec_
          clear en_
          refine start_ (n := 44) (S := fun w' => w'.cell? ⟨gb685, 0, none⟩ = some (.int .i64 a0_0) ∧ w'.cell? ⟨gb685, 1, none⟩ = some (.int .i64 a0_1) ∧ w'.cell? ⟨gb685, 2, none⟩ = some (.int .i64 a0_2) ∧ w'.cell? ⟨gb685, 3, none⟩ = some (.int .i64 a0_3) ∧ w'.cell? ⟨gb685, 4, none⟩ = some (.int .i64 a0_4) ∧ w'.cell? (ad691.add ((x10_1).toNat * 3)) = some (.slice A691_0 ((rd_T26 l2 x10_1).f0).length c691_0) ∧ w'.cell? ⟨(ad691.add ((x10_1).toNat * 3)).block, (ad691.add ((x10_1).toNat * 3)).off + 1, none⟩ = some (.slice A691_1 ((rd_T26 l2 x10_1).f1).length c691_1) ∧ w'.cell? ⟨(ad691.add ((x10_1).toNat * 3)).block, (ad691.add ((x10_1).toNat * 3)).off + 2, none⟩ = some (.slice A691_2 ((rd_T26 l2 x10_1).f2).length c691_2) ∧ w'.cell? (ad691.add ((x10_1).toNat * 3)) = some (.slice A691_0 ((rd_T26 l2 x10_1).f0).length c691_0) ∧ w'.cell? ⟨(ad691.add ((x10_1).toNat * 3)).block, (ad691.add ((x10_1).toNat * 3)).off + 1, none⟩ = some (.slice A691_1 ((rd_T26 l2 x10_1).f1).length c691_1) ∧ w'.cell? ⟨(ad691.add ((x10_1).toNat * 3)).block, (ad691.add ((x10_1).toNat * 3)).off + 2, none⟩ = some (.slice A691_2 ((rd_T26 l2 x10_1).f2).length c691_2) ∧ w'.cell? (ad691.add ((x10_1).toNat * 3)) = some (.slice A691_0 ((rd_T26 l2 x10_1).f0).length c691_0) ∧ w'.cell? ⟨(ad691.add ((x10_1).toNat * 3)).block, (ad691.add ((x10_1).toNat * 3)).off + 1, none⟩ = some (.slice A691_1 ((rd_T26 l2 x10_1).f1).length c691_1) ∧ w'.cell? ⟨(ad691.add ((x10_1).toNat * 3)).block, (ad691.add ((x10_1).toNat * 3)).off + 2, none⟩ = some (.slice A691_2 ((rd_T26 l2 x10_1).f2).length c691_2) ∧ w'.cell? (ad691.add ((x10_1).toNat * 3)) = some (.slice A691_0 ((rd_T26 l2 x10_1).f0).length c691_0) ∧ w'.cell? ⟨(ad691.add ((x10_1).toNat * 3)).block, (ad691.add ((x10_1).toNat * 3)).off + 1, none⟩ = some (.slice A691_1 ((rd_T26 l2 x10_1).f1).length c691_1) ∧ w'.cell? ⟨(ad691.add ((x10_1).toNat * 3)).block, (ad691.add ((x10_1).toNat * 3)).off + 2, none⟩ = some (.slice A691_2 ((rd_T26 l2 x10_1).f2).length c691_2)) (ds := []) ba8_0 (zq47) rfl rfl ⟨(blk_cell BK685.out 0).trans rfl, (blk_cell BK685.out 1).trans rfl, (blk_cell BK685.out 2).trans rfl, (blk_cell BK685.out 3).trans rfl, (blk_cell BK685.out 4).trans rfl, ((HB.out.cell (World.block_lt_of_cell? w _ hw691_0)).trans hw691_0), ((HB.out.cell (World.block_lt_of_cell? w _ hw691_1)).trans hw691_1), ((HB.out.cell (World.block_lt_of_cell? w _ hw691_2)).trans hw691_2), ((HB.out.cell (World.block_lt_of_cell? w _ hw692_0)).trans hw692_0), ((HB.out.cell (World.block_lt_of_cell? w _ hw692_1)).trans hw692_1), ((HB.out.cell (World.block_lt_of_cell? w _ hw692_2)).trans hw692_2), ((HB.out.cell (World.block_lt_of_cell? w _ hw693_0)).trans hw693_0), ((HB.out.cell (World.block_lt_of_cell? w _ hw693_1)).trans hw693_1), ((HB.out.cell (World.block_lt_of_cell? w _ hw693_2)).trans hw693_2), ((HB.out.cell (World.block_lt_of_cell? w _ hw695_0)).trans hw695_0), ((HB.out.cell (World.block_lt_of_cell? w _ hw695_1)).trans hw695_1), ((HB.out.cell (World.block_lt_of_cell? w _ hw695_2)).trans hw695_2)⟩ (fun hHeld => ?_); refine with_tabW trefoilref22_Wrong.tab7 trefoilref22_Wrong.bits7 (fun HT_ HW_ => ?_)
          generalize wr.drew = w20 at BK685 HB HR691_0 HR691_1 HR691_2 HR692_0 HR692_1 HR692_2 HR693_0 HR693_1 HR693_2 HR695_0 HR695_1 HR695_2 hx691_0 hx691_1 hx691_2 hx692_0 hx692_1 hx692_2 hx693_0 hx693_1 hx693_2 hx695_0 hx695_1 hx695_2 hHeld ⊢
          refine pure_ (i := 0) (N := some 34) (v := ?_) (a' := ?_) ba8_1 rfl rfl (any_of HT_.out (zq47)) (fun _ _ _ h => h) (Or.inl ⟨by rfl, ?_⟩) ?_ ?_; rotate_left; exact zs0; rotate_left; exact zs1
          refine pure_ (i := 1) (N := some 35) (v := ?_) (a' := ?_) ba8_2 rfl rfl (any_of HT_.out (zq47)) (fun _ _ _ h => h) (Or.inl ⟨by rfl, ?_⟩) ?_ ?_; rotate_left; exact zs0; rotate_left; exact zs1
          refine pure_ (i := 2) (N := some 36) (v := ?_) (a' := ?_) ba8_3 rfl rfl (any_of HT_.out (zq47)) (fun _ _ _ h => h) (Or.inl ⟨by rfl, ?_⟩) ?_ ?_; rotate_left; exact zs0; rotate_left; exact zs1
          refine pure_ (i := 3) (N := some 37) (v := ?_) (a' := ?_) ba8_4 rfl rfl (any_of HT_.out (zq47)) (fun _ _ _ h => h) (Or.inl ⟨by rfl, ?_⟩) ?_ ?_; rotate_left; exact zs0; rotate_left; exact zs1
          refine pure_ (i := 6) (N := some 40) (v := ?_) (a' := ?_) ba8_5 rfl rfl (any_of HT_.out (zq47)) (fun _ _ _ h => h) (Or.inl ⟨by rfl, ?_⟩) ?_ ?_; rotate_left; exact zs0; rotate_left; exact zs1
          refine pure_ (i := 7) (N := some 41) (v := ?_) (a' := ?_) ba8_6 rfl rfl (any_of HT_.out (zq47)) (fun _ _ _ h => h) (Or.inl ⟨by rfl, ?_⟩) ?_ ?_; rotate_left; exact zs0; rotate_left; exact zs1
          refine pure_ (i := 8) (N := some 42) (v := ?_) (a' := ?_) ba8_7 rfl rfl (any_of HT_.out (zq47)) (fun _ _ _ h => h) (Or.inl ⟨by rfl, ?_⟩) ?_ ?_; rotate_left; exact zs0; rotate_left; exact zs1
          refine take_ (i := 4) (N := some 38) (v := ?_) (a' := ?_) ba8_8 rfl rfl (take_ofW HT_.out HW_.out (zq47)) (fun _ _ _ h => h) (Or.inl ⟨by rfl, ?_⟩) hHeld ?_ ?_
          rotate_left
          ·rintro w' ⟨s0, s1, s2, s3, s4, s5, s6, s7, s8, s9, s10, s11, s12, s13, s14, s15, s16⟩
           go_simp
           with_reducible rfl
          rotate_left
          exact zs1
          refine pure_ (i := 5) (N := some 39) (v := ?_) (a' := ?_) ba8_9 rfl rfl (any_of HT_.out (zq47)) (fun _ _ _ h => h) (Or.inl ⟨by rfl, ?_⟩) ?_ ?_; rotate_left; exact zs0; rotate_left; exact zs1
          refine pure_ (i := 9) (N := some 43) (v := ?_) (a' := ?_) ba8_10 rfl rfl (any_of HT_.out (zq47)) (fun _ _ _ h => h) (Or.inl ⟨by rfl, ?_⟩) ?_ ?_; rotate_left; exact zs0; rotate_left; exact zs1
          refine pure_ (i := 10) (N := some 44) (v := ?_) (a' := ?_) ba8_11 rfl rfl (any_of HT_.out (zq47)) (fun _ _ _ h => h) (Or.inl ⟨by rfl, ?_⟩) ?_ ?_; rotate_left; exact zs0; rotate_left; exact zs1
          refine pure_ (i := 11) (N := some 45) (v := ?_) (a' := ?_) ba8_12 rfl rfl (any_of HT_.out (zq47)) (fun _ _ _ h => h) (Or.inl ⟨by rfl, ?_⟩) ?_ ?_; rotate_left; exact zs0; rotate_left; exact zs1
          refine pure_ (i := 12) (N := some 46) (v := ?_) (a' := ?_) ba8_13 rfl rfl (any_of HT_.out (zq47)) (fun _ _ _ h => h) (Or.inl ⟨by rfl, ?_⟩) ?_ ?_; rotate_left; exact zs0; rotate_left; exact zs1
          refine pure_ (i := 13) (N := some 47) (v := ?_) (a' := ?_) ba8_14 rfl rfl (any_of HT_.out (zq47)) (fun _ _ _ h => h) (Or.inl ⟨by rfl, ?_⟩) ?_ ?_; rotate_left; exact zs0; rotate_left; exact zs1
          refine pure_ (i := 14) (N := some 48) (v := ?_) (a' := ?_) ba8_15 rfl rfl (any_of HT_.out (zq47)) (fun _ _ _ h => h) (Or.inl ⟨by rfl, ?_⟩) ?_ ?_; rotate_left; exact zs0; rotate_left; exact zs1
          refine pure_ (i := 17) (N := some 51) (v := ?_) (a' := ?_) ba8_16 rfl rfl (any_of HT_.out (zq47)) (fun _ _ _ h => h) (Or.inl ⟨by rfl, ?_⟩) ?_ ?_; rotate_left; exact zs0; rotate_left; exact zs1
          refine pure_ (i := 18) (N := some 52) (v := ?_) (a' := ?_) ba8_17 rfl rfl (any_of HT_.out (zq47)) (fun _ _ _ h => h) (Or.inl ⟨by rfl, ?_⟩) ?_ ?_; rotate_left; exact zs0; rotate_left; exact zs1
          refine pure_ (i := 19) (N := some 53) (v := ?_) (a' := ?_) ba8_18 rfl rfl (any_of HT_.out (zq47)) (fun _ _ _ h => h) (Or.inl ⟨by rfl, ?_⟩) ?_ ?_; rotate_left; exact zs0; rotate_left; exact zs1
          refine take_ (i := 15) (N := some 49) (v := ?_) (a' := ?_) ba8_19 rfl rfl (take_ofW HT_.out HW_.out (zq47)) (fun _ _ _ h => h) (Or.inl ⟨by rfl, ?_⟩) hHeld ?_ ?_
          rotate_left
          ·rintro w' ⟨s0, s1, s2, s3, s4, s5, s6, s7, s8, s9, s10, s11, s12, s13, s14, s15, s16⟩
           go_simp
           with_reducible rfl
          rotate_left
          exact zs1
          refine pure_ (i := 16) (N := some 50) (v := ?_) (a' := ?_) ba8_20 rfl rfl (any_of HT_.out (zq47)) (fun _ _ _ h => h) (Or.inl ⟨by rfl, ?_⟩) ?_ ?_; rotate_left; exact zs0; rotate_left; exact zs1
          refine pure_ (i := 20) (N := some 54) (v := ?_) (a' := ?_) ba8_21 rfl rfl (any_of HT_.out (zq47)) (fun _ _ _ h => h) (Or.inl ⟨by rfl, ?_⟩) ?_ ?_; rotate_left; exact zs0; rotate_left; exact zs1
          refine pure_ (i := 21) (N := some 55) (v := ?_) (a' := ?_) ba8_22 rfl rfl (any_of HT_.out (zq47)) (fun _ _ _ h => h) (Or.inl ⟨by rfl, ?_⟩) ?_ ?_; rotate_left; exact zs0; rotate_left; exact zs1
          refine pure_ (i := 22) (N := some 56) (v := ?_) (a' := ?_) ba8_23 rfl rfl (any_of HT_.out (zq47)) (fun _ _ _ h => h) (Or.inl ⟨by rfl, ?_⟩) ?_ ?_; rotate_left; exact zs0; rotate_left; exact zs1
          refine pure_ (i := 23) (N := some 57) (v := ?_) (a' := ?_) ba8_24 rfl rfl (any_of HT_.out (zq47)) (fun _ _ _ h => h) (Or.inl ⟨by rfl, ?_⟩) ?_ ?_; rotate_left; exact zs0; rotate_left; exact zs1
          refine pure_ (i := 25) (N := some 59) (v := ?_) (a' := ?_) ba8_25 rfl rfl (any_of HT_.out (zq47)) (fun _ _ _ h => h) (Or.inl ⟨by rfl, ?_⟩) ?_ ?_; rotate_left; exact zs0; rotate_left; exact zs1
          refine pure_ (i := 26) (N := some 60) (v := ?_) (a' := ?_) ba8_26 rfl rfl (any_of HT_.out (zq47)) (fun _ _ _ h => h) (Or.inl ⟨by rfl, ?_⟩) ?_ ?_; rotate_left; exact zs0; rotate_left; exact zs1
          refine pure_ (i := 27) (N := some 61) (v := ?_) (a' := ?_) ba8_27 rfl rfl (any_of HT_.out (zq47)) (fun _ _ _ h => h) (Or.inl ⟨by rfl, ?_⟩) ?_ ?_; rotate_left; exact zs0; rotate_left; exact zs1
          refine pure_ (i := 28) (N := some 62) (v := ?_) (a' := ?_) ba8_28 rfl rfl (any_of HT_.out (zq47)) (fun _ _ _ h => h) (Or.inl ⟨by rfl, ?_⟩) ?_ ?_; rotate_left; exact zs0; rotate_left; exact zs1
          refine take_ (i := 24) (N := some 58) (v := ?_) (a' := ?_) ba8_33 rfl rfl (take_ofW HT_.out HW_.out (zq47)) (fun _ _ _ h => h) (Or.inl ⟨by rfl, ?_⟩) hHeld ?_ ?_
          rotate_left
          ·rintro w' ⟨s0, s1, s2, s3, s4, s5, s6, s7, s8, s9, s10, s11, s12, s13, s14, s15, s16⟩
           go_simp
           with_reducible rfl
          rotate_left
          exact zs1
          refine take_ (i := 29) (N := some 63) (v := ?_) (a' := ?_) ba8_34 rfl rfl (take_ofW HT_.out HW_.out (zq47)) (fun _ _ _ h => h) (Or.inl ⟨by rfl, ?_⟩) hHeld ?_ ?_
          rotate_left
          ·rintro w' ⟨s0, s1, s2, s3, s4, s5, s6, s7, s8, s9, s10, s11, s12, s13, s14, s15, s16⟩
           go_simp
           with_reducible rfl
          rotate_left
          exact zs1
          refine one_ (i := 30) (N := some 64) ba8_35 rfl rfl (one_of HT_.out (zq47)) (by decide) (fun K hK => ?_)
          refine goes_ Try.func58 (zq47) rfl #[.int .i64 a0_1, .slice A691_0 ((rd_T26 l2 x10_1).f0).length c691_0] (by rfl) rfl rfl (zq28) ?_
          with_reducible refine (trefoilref19_Fits.calls k1 a0_1 _ _ ((rd_T26 l2 x10_1).f0) true _ ?side1 ?side2 A16.out).mono ?_
          (case side1 => repeat (first | exact (Kd.C_below HR693_0.out HB.out) | (with_reducible refine Kd.C_alloc ?_ _) | (with_reducible refine Kd.C_drewN ?_ _) | (with_reducible refine Kd.C_drew ?_)))
          (case side2 => exact HC693_0.out)
          rintro e w' ⟨rfl, ⟨nd, rfl⟩⟩
          refine ⟨_, rfl, ?_⟩
          refine hK.out _ _ ⟨(blk_cell BK685.out 0).trans rfl, (blk_cell BK685.out 1).trans rfl, (blk_cell BK685.out 2).trans rfl, (blk_cell BK685.out 3).trans rfl, (blk_cell BK685.out 4).trans rfl, ((HB.out.cell (World.block_lt_of_cell? w _ hw691_0)).trans hw691_0), ((HB.out.cell (World.block_lt_of_cell? w _ hw691_1)).trans hw691_1), ((HB.out.cell (World.block_lt_of_cell? w _ hw691_2)).trans hw691_2), ((HB.out.cell (World.block_lt_of_cell? w _ hw692_0)).trans hw692_0), ((HB.out.cell (World.block_lt_of_cell? w _ hw692_1)).trans hw692_1), ((HB.out.cell (World.block_lt_of_cell? w _ hw692_2)).trans hw692_2), ((HB.out.cell (World.block_lt_of_cell? w _ hw693_0)).trans hw693_0), ((HB.out.cell (World.block_lt_of_cell? w _ hw693_1)).trans hw693_1), ((HB.out.cell (World.block_lt_of_cell? w _ hw693_2)).trans hw693_2), ((HB.out.cell (World.block_lt_of_cell? w _ hw695_0)).trans hw695_0), ((HB.out.cell (World.block_lt_of_cell? w _ hw695_1)).trans hw695_1), ((HB.out.cell (World.block_lt_of_cell? w _ hw695_2)).trans hw695_2)⟩ (fun hHeld => ?_)
          clear hK K
          refine norm_ (a' := ?_) ?_ ?_
          rotate_left
          ·show Act.put _ (some 64) _ = _
           simp only [Act.put, List.setIfInBounds_toArray, List.set_cons_zero, List.set_cons_succ, i64_w, i32_w]
           rfl
          refine pure_ (i := 31) (N := some 65) (v := ?_) (a' := ?_) ba8_36 rfl rfl (any_of HT_.out (zq47)) (fun _ _ _ h => h) (Or.inl ⟨by rfl, ?_⟩) ?_ ?_; rotate_left; exact zs0; rotate_left; exact zs1
          refine pure_ (i := 32) (N := some 66) (v := ?_) (a' := ?_) ba8_37 rfl rfl (any_of HT_.out (zq47)) (fun _ _ _ h => h) (Or.inl ⟨by rfl, ?_⟩) ?_ ?_; rotate_left; exact zs0; rotate_left; exact zs1
          refine pure_ (i := 33) (N := some 67) (v := ?_) (a' := ?_) ba8_38 rfl rfl (any_of HT_.out (zq47)) (fun _ _ _ h => h) (Or.inl ⟨by rfl, ?_⟩) ?_ ?_; rotate_left; exact zs0; rotate_left; exact zs1
          refine pure_ (i := 34) (N := some 68) (v := ?_) (a' := ?_) ba8_39 rfl rfl (any_of HT_.out (zq47)) (fun _ _ _ h => h) (Or.inl ⟨by rfl, ?_⟩) ?_ ?_; rotate_left; exact zs0; rotate_left; exact zs1
          refine pure_ (i := 36) (N := some 70) (v := ?_) (a' := ?_) ba8_40 rfl rfl (any_of HT_.out (zq47)) (fun _ _ _ h => h) (Or.inl ⟨by rfl, ?_⟩) ?_ ?_; rotate_left; exact zs0; rotate_left; exact zs1
          refine pure_ (i := 37) (N := some 71) (v := ?_) (a' := ?_) ba8_41 rfl rfl (any_of HT_.out (zq47)) (fun _ _ _ h => h) (Or.inl ⟨by rfl, ?_⟩) ?_ ?_; rotate_left; exact zs0; rotate_left; exact zs1
          refine pure_ (i := 38) (N := some 72) (v := ?_) (a' := ?_) ba8_42 rfl rfl (any_of HT_.out (zq47)) (fun _ _ _ h => h) (Or.inl ⟨by rfl, ?_⟩) ?_ ?_; rotate_left; exact zs0; rotate_left; exact zs1
          refine pure_ (i := 39) (N := some 73) (v := ?_) (a' := ?_) ba8_43 rfl rfl (any_of HT_.out (zq47)) (fun _ _ _ h => h) (Or.inl ⟨by rfl, ?_⟩) ?_ ?_; rotate_left; exact zs0; rotate_left; exact zs1
          refine take_ (i := 35) (N := some 69) (v := ?_) (a' := ?_) ba8_48 rfl rfl (take_ofW HT_.out HW_.out (zq47)) (fun _ _ _ h => h) (Or.inl ⟨by rfl, ?_⟩) hHeld ?_ ?_
          rotate_left
          ·rintro w' ⟨s0, s1, s2, s3, s4, s5, s6, s7, s8, s9, s10, s11, s12, s13, s14, s15, s16⟩
           go_simp
           with_reducible rfl
          rotate_left
          exact zs1
          refine take_ (i := 40) (N := some 74) (v := ?_) (a' := ?_) ba8_49 rfl rfl (take_ofW HT_.out HW_.out (zq47)) (fun _ _ _ h => h) (Or.inl ⟨by rfl, ?_⟩) hHeld ?_ ?_
          rotate_left
          ·rintro w' ⟨s0, s1, s2, s3, s4, s5, s6, s7, s8, s9, s10, s11, s12, s13, s14, s15, s16⟩
           go_simp
           with_reducible rfl
          rotate_left
          exact zs1
          refine one_ (i := 41) (N := some 75) ba8_50 rfl rfl (one_of HT_.out (zq47)) (by decide) (fun K hK => ?_)
          refine goes_ Try.func58 (zq47) rfl #[.int .i64 a0_1, .slice A691_1 ((rd_T26 l2 x10_1).f1).length c691_1] (by rfl) rfl rfl (zq28) ?_
          with_reducible refine (trefoilref19_Fits.calls k1 a0_1 _ _ ((rd_T26 l2 x10_1).f1) true _ ?side1 ?side2 A18.out).mono ?_
          (case side1 => repeat (first | exact (Kd.C_below HR695_1.out HB.bl) | (with_reducible refine Kd.C_alloc ?_ _) | (with_reducible refine Kd.C_drewN ?_ _) | (with_reducible refine Kd.C_drew ?_)))
          (case side2 => exact HC695_1.out)
          rintro e w' ⟨rfl, ⟨nd, rfl⟩⟩
          refine ⟨_, rfl, ?_⟩
          refine hK.out _ _ ⟨(blk_cell BK685.out 0).trans rfl, (blk_cell BK685.out 1).trans rfl, (blk_cell BK685.out 2).trans rfl, (blk_cell BK685.out 3).trans rfl, (blk_cell BK685.out 4).trans rfl, ((HB.out.cell (World.block_lt_of_cell? w _ hw691_0)).trans hw691_0), ((HB.out.cell (World.block_lt_of_cell? w _ hw691_1)).trans hw691_1), ((HB.out.cell (World.block_lt_of_cell? w _ hw691_2)).trans hw691_2), ((HB.out.cell (World.block_lt_of_cell? w _ hw692_0)).trans hw692_0), ((HB.out.cell (World.block_lt_of_cell? w _ hw692_1)).trans hw692_1), ((HB.out.cell (World.block_lt_of_cell? w _ hw692_2)).trans hw692_2), ((HB.out.cell (World.block_lt_of_cell? w _ hw693_0)).trans hw693_0), ((HB.out.cell (World.block_lt_of_cell? w _ hw693_1)).trans hw693_1), ((HB.out.cell (World.block_lt_of_cell? w _ hw693_2)).trans hw693_2), ((HB.out.cell (World.block_lt_of_cell? w _ hw695_0)).trans hw695_0), ((HB.out.cell (World.block_lt_of_cell? w _ hw695_1)).trans hw695_1), ((HB.out.cell (World.block_lt_of_cell? w _ hw695_2)).trans hw695_2)⟩ (fun hHeld => ?_)
          clear hK K
          refine norm_ (a' := ?_) ?_ ?_
          rotate_left
          ·show Act.put _ (some 75) _ = _
           simp only [Act.put, List.setIfInBounds_toArray, List.set_cons_zero, List.set_cons_succ, i64_w, i32_w]
           rfl
          refine pure_ (i := 42) (N := some 76) (v := ?_) (a' := ?_) ba8_51 rfl rfl (any_of HT_.out (zq47)) (fun _ _ _ h => h) (Or.inl ⟨by rfl, ?_⟩) ?_ ?_; rotate_left; exact zs0; rotate_left; exact zs1
          refine pure_ (i := 43) (N := some 77) (v := ?_) (a' := ?_) ba8_52 rfl rfl (any_of HT_.out (zq47)) (fun _ _ _ h => h) (Or.inl ⟨by rfl, ?_⟩) ?_ ?_; rotate_left; exact zs0; rotate_left; exact zs1
          refine done_ (done_of HT_.out (zq47)) ?_
          try go_wp2
          go_roundg k1
          case measure => have := HK1.out; omega
          case rel => exact ⟨(wrap64 (x10_1 + 1)), (zq40), H', ⟨by have := HK1.out; omega⟩, ⟨by (with_reducible repeat (first | refine blk_drewN ?_ _ | refine blk_drew ?_ | refine blk_alloc ?_ _)); exact BK685.out⟩, ⟨zq20⟩⟩
         ·replace c19 := Bool.eq_false_iff.mpr c19
          subst c19
          have H1 : (some 11) = some r := by rw [if_neg (show ¬ (false = true) by decide)] at H; exact H
          clear H
          have H := H1
          clear H1
          obtain rfl := Option.some.inj H
          try go_wp2
          have n0_ := Aside0.mk (blk_drew BK685.out)
          have n1_ := Aside0.mk (below_drew1 HB.out)
          clear BK685
          clear HB
          have BK685 := n0_
          have HB := n1_
          clear n0_ n1_
          have p691 : 0 ≤ (x10_1 : Int) := of_decide_eq_true (zq39)
          have q691 : x10_1 < (l2.length : Int) := of_decide_eq_true (zq39)
          obtain ⟨ad691, A691_0, c691_0, A691_1, c691_1, A691_2, c691_2, e691, hx691_0, hx691_1, hx691_2, hl691_0, hi691_0, hl691_1, hi691_1, hl691_2, hi691_2⟩ := at_T26 HR2.out x10_1 p691 q691
          have hw691_2 := hx691_2
          have hw691_1 := hx691_1
          have hw691_0 := hx691_0
          cases e691
          replace hx691_0 := (HB.out.cell (World.block_lt_of_cell? w _ hx691_0)).trans hx691_0
          replace hx691_1 := (HB.out.cell (World.block_lt_of_cell? w _ hx691_1)).trans hx691_1
          replace hx691_2 := (HB.out.cell (World.block_lt_of_cell? w _ hx691_2)).trans hx691_2
          have HR691_0 := Aside0.mk hi691_0
          have HC691_0 := Aside0.mk hl691_0
          clear hi691_0 hl691_0
          have HR691_1 := Aside0.mk hi691_1
          have HC691_1 := Aside0.mk hl691_1
          clear hi691_1 hl691_1
          have HR691_2 := Aside0.mk hi691_2
          have HC691_2 := Aside0.mk hl691_2
          clear hi691_2 hl691_2
          replace p691 := eq_true p691
          replace q691 := eq_true q691
          have p692 : 0 ≤ (x10_1 : Int) := of_decide_eq_true (zq39)
          have q692 : x10_1 < (l2.length : Int) := of_decide_eq_true (zq39)
          obtain ⟨ad692, A692_0, c692_0, A692_1, c692_1, A692_2, c692_2, e692, hx692_0, hx692_1, hx692_2, hl692_0, hi692_0, hl692_1, hi692_1, hl692_2, hi692_2⟩ := at_T26 HR2.out x10_1 p692 q692
          have hw692_2 := hx692_2
          have hw692_1 := hx692_1
          have hw692_0 := hx692_0
          obtain rfl : ad691 = ad692 := (by injection e692)
          replace hx692_0 := (HB.out.cell (World.block_lt_of_cell? w _ hx692_0)).trans hx692_0
          replace hx692_1 := (HB.out.cell (World.block_lt_of_cell? w _ hx692_1)).trans hx692_1
          replace hx692_2 := (HB.out.cell (World.block_lt_of_cell? w _ hx692_2)).trans hx692_2
          have HR692_0 := Aside0.mk hi692_0
          have HC692_0 := Aside0.mk hl692_0
          clear hi692_0 hl692_0
          have HR692_1 := Aside0.mk hi692_1
          have HC692_1 := Aside0.mk hl692_1
          clear hi692_1 hl692_1
          have HR692_2 := Aside0.mk hi692_2
          have HC692_2 := Aside0.mk hl692_2
          clear hi692_2 hl692_2
          replace p692 := eq_true p692
          replace q692 := eq_true q692
          have ea_ := Option.some.inj (hx691_0.symm.trans hx692_0)
          injection ea_ with ea_ en_ ec_
          subst ea_
          subst ec_
          clear en_
          have ea_ := Option.some.inj (hx691_1.symm.trans hx692_1)
          injection ea_ with ea_ en_ ec_
          subst ea_
          subst ec_
          clear en_
          have ea_ := Option.some.inj (hx691_2.symm.trans hx692_2)
          injection ea_ with ea_ en_ ec_
          subst ea_
          subst ec_
          clear en_
          have p693 : 0 ≤ (x10_1 : Int) := of_decide_eq_true (zq39)
          have q693 : x10_1 < (l2.length : Int) := of_decide_eq_true (zq39)
          obtain ⟨ad693, A693_0, c693_0, A693_1, c693_1, A693_2, c693_2, e693, hx693_0, hx693_1, hx693_2, hl693_0, hi693_0, hl693_1, hi693_1, hl693_2, hi693_2⟩ := at_T26 HR2.out x10_1 p693 q693
          have hw693_2 := hx693_2
          have hw693_1 := hx693_1
          have hw693_0 := hx693_0
          obtain rfl : ad691 = ad693 := (by injection e693)
          replace hx693_0 := (HB.out.cell (World.block_lt_of_cell? w _ hx693_0)).trans hx693_0
          replace hx693_1 := (HB.out.cell (World.block_lt_of_cell? w _ hx693_1)).trans hx693_1
          replace hx693_2 := (HB.out.cell (World.block_lt_of_cell? w _ hx693_2)).trans hx693_2
          have HR693_0 := Aside0.mk hi693_0
          have HC693_0 := Aside0.mk hl693_0
          clear hi693_0 hl693_0
          have HR693_1 := Aside0.mk hi693_1
          have HC693_1 := Aside0.mk hl693_1
          clear hi693_1 hl693_1
          have HR693_2 := Aside0.mk hi693_2
          have HC693_2 := Aside0.mk hl693_2
          clear hi693_2 hl693_2
          replace p693 := eq_true p693
          replace q693 := eq_true q693
          have ea_ := Option.some.inj (hx691_0.symm.trans hx693_0)
          injection ea_ with ea_ en_ ec_
          subst ea_
          subst ec_
          clear en_
          have ea_ := Option.some.inj (hx691_1.symm.trans hx693_1)
          injection ea_ with ea_ en_ ec_
          subst ea_
          subst ec_
          clear en_
          have ea_ := Option.some.inj (hx691_2.symm.trans hx693_2)
          injection ea_ with ea_ en_ ec_
          subst ea_
          subst ec_
          clear en_
          have p695 : 0 ≤ (x10_1 : Int) := of_decide_eq_true (zq39)
          have q695 : x10_1 < (l2.length : Int) := of_decide_eq_true (zq39)
          obtain ⟨ad695, A695_0, c695_0, A695_1, c695_1, A695_2, c695_2, e695, hx695_0, hx695_1, hx695_2, hl695_0, hi695_0, hl695_1, hi695_1, hl695_2, hi695_2⟩ := at_T26 HR2.out x10_1 p695 q695
          have hw695_2 := hx695_2
          have hw695_1 := hx695_1
          have hw695_0 := hx695_0
          obtain rfl : ad691 = ad695 := (by injection e695)
          replace hx695_0 := (HB.out.cell (World.block_lt_of_cell? w _ hx695_0)).trans hx695_0
          replace hx695_1 := (HB.out.cell (World.block_lt_of_cell? w _ hx695_1)).trans hx695_1
          replace hx695_2 := (HB.out.cell (World.block_lt_of_cell? w _ hx695_2)).trans hx695_2
          have HR695_0 := Aside0.mk hi695_0
          have HC695_0 := Aside0.mk hl695_0
          clear hi695_0 hl695_0
          have HR695_1 := Aside0.mk hi695_1
          have HC695_1 := Aside0.mk hl695_1
          clear hi695_1 hl695_1
          have HR695_2 := Aside0.mk hi695_2
          have HC695_2 := Aside0.mk hl695_2
          clear hi695_2 hl695_2
          replace p695 := eq_true p695
          replace q695 := eq_true q695
          have ea_ := Option.some.inj (hx691_0.symm.trans hx695_0)
          injection ea_ with ea_ en_ ec_
          subst ea_
          subst ec_
          clear en_
          have ea_ := Option.some.inj (hx691_1.symm.trans hx695_1)
          injection ea_ with ea_ en_ ec_
          subst ea_
          subst ec_
          clear en_
          have ea_ := Option.some.inj (hx691_2.symm.trans hx695_2)
          injection ea_ with ea_ en_ ec_
          subst ea_
          subst ec_
          clear en_
          refine start_ (n := 44) (S := fun w' => w'.cell? ⟨gb685, 0, none⟩ = some (.int .i64 a0_0) ∧ w'.cell? ⟨gb685, 1, none⟩ = some (.int .i64 a0_1) ∧ w'.cell? ⟨gb685, 2, none⟩ = some (.int .i64 a0_2) ∧ w'.cell? ⟨gb685, 3, none⟩ = some (.int .i64 a0_3) ∧ w'.cell? ⟨gb685, 4, none⟩ = some (.int .i64 a0_4) ∧ w'.cell? (ad691.add ((x10_1).toNat * 3)) = some (.slice A691_0 ((rd_T26 l2 x10_1).f0).length c691_0) ∧ w'.cell? ⟨(ad691.add ((x10_1).toNat * 3)).block, (ad691.add ((x10_1).toNat * 3)).off + 1, none⟩ = some (.slice A691_1 ((rd_T26 l2 x10_1).f1).length c691_1) ∧ w'.cell? ⟨(ad691.add ((x10_1).toNat * 3)).block, (ad691.add ((x10_1).toNat * 3)).off + 2, none⟩ = some (.slice A691_2 ((rd_T26 l2 x10_1).f2).length c691_2) ∧ w'.cell? (ad691.add ((x10_1).toNat * 3)) = some (.slice A691_0 ((rd_T26 l2 x10_1).f0).length c691_0) ∧ w'.cell? ⟨(ad691.add ((x10_1).toNat * 3)).block, (ad691.add ((x10_1).toNat * 3)).off + 1, none⟩ = some (.slice A691_1 ((rd_T26 l2 x10_1).f1).length c691_1) ∧ w'.cell? ⟨(ad691.add ((x10_1).toNat * 3)).block, (ad691.add ((x10_1).toNat * 3)).off + 2, none⟩ = some (.slice A691_2 ((rd_T26 l2 x10_1).f2).length c691_2) ∧ w'.cell? (ad691.add ((x10_1).toNat * 3)) = some (.slice A691_0 ((rd_T26 l2 x10_1).f0).length c691_0) ∧ w'.cell? ⟨(ad691.add ((x10_1).toNat * 3)).block, (ad691.add ((x10_1).toNat * 3)).off + 1, none⟩ = some (.slice A691_1 ((rd_T26 l2 x10_1).f1).length c691_1) ∧ w'.cell? ⟨(ad691.add ((x10_1).toNat * 3)).block, (ad691.add ((x10_1).toNat * 3)).off + 2, none⟩ = some (.slice A691_2 ((rd_T26 l2 x10_1).f2).length c691_2) ∧ w'.cell? (ad691.add ((x10_1).toNat * 3)) = some (.slice A691_0 ((rd_T26 l2 x10_1).f0).length c691_0) ∧ w'.cell? ⟨(ad691.add ((x10_1).toNat * 3)).block, (ad691.add ((x10_1).toNat * 3)).off + 1, none⟩ = some (.slice A691_1 ((rd_T26 l2 x10_1).f1).length c691_1) ∧ w'.cell? ⟨(ad691.add ((x10_1).toNat * 3)).block, (ad691.add ((x10_1).toNat * 3)).off + 2, none⟩ = some (.slice A691_2 ((rd_T26 l2 x10_1).f2).length c691_2)) (ds := []) ba8_0 (zq47) rfl rfl ⟨(blk_cell BK685.out 0).trans rfl, (blk_cell BK685.out 1).trans rfl, (blk_cell BK685.out 2).trans rfl, (blk_cell BK685.out 3).trans rfl, (blk_cell BK685.out 4).trans rfl, ((HB.out.cell (World.block_lt_of_cell? w _ hw691_0)).trans hw691_0), ((HB.out.cell (World.block_lt_of_cell? w _ hw691_1)).trans hw691_1), ((HB.out.cell (World.block_lt_of_cell? w _ hw691_2)).trans hw691_2), ((HB.out.cell (World.block_lt_of_cell? w _ hw692_0)).trans hw692_0), ((HB.out.cell (World.block_lt_of_cell? w _ hw692_1)).trans hw692_1), ((HB.out.cell (World.block_lt_of_cell? w _ hw692_2)).trans hw692_2), ((HB.out.cell (World.block_lt_of_cell? w _ hw693_0)).trans hw693_0), ((HB.out.cell (World.block_lt_of_cell? w _ hw693_1)).trans hw693_1), ((HB.out.cell (World.block_lt_of_cell? w _ hw693_2)).trans hw693_2), ((HB.out.cell (World.block_lt_of_cell? w _ hw695_0)).trans hw695_0), ((HB.out.cell (World.block_lt_of_cell? w _ hw695_1)).trans hw695_1), ((HB.out.cell (World.block_lt_of_cell? w _ hw695_2)).trans hw695_2)⟩ (fun hHeld => ?_); refine with_tabW trefoilref22_Wrong.tab7 trefoilref22_Wrong.bits7 (fun HT_ HW_ => ?_)
          generalize wr.drew = w21 at BK685 HB HR691_0 HR691_1 HR691_2 HR692_0 HR692_1 HR692_2 HR693_0 HR693_1 HR693_2 HR695_0 HR695_1 HR695_2 hx691_0 hx691_1 hx691_2 hx692_0 hx692_1 hx692_2 hx693_0 hx693_1 hx693_2 hx695_0 hx695_1 hx695_2 hHeld ⊢
          refine pure_ (i := 0) (N := some 34) (v := ?_) (a' := ?_) ba8_1 rfl rfl (any_of HT_.out (zq47)) (fun _ _ _ h => h) (Or.inl ⟨by rfl, ?_⟩) ?_ ?_; rotate_left; exact zs0; rotate_left; exact zs1
          refine pure_ (i := 1) (N := some 35) (v := ?_) (a' := ?_) ba8_2 rfl rfl (any_of HT_.out (zq47)) (fun _ _ _ h => h) (Or.inl ⟨by rfl, ?_⟩) ?_ ?_; rotate_left; exact zs0; rotate_left; exact zs1
          refine pure_ (i := 2) (N := some 36) (v := ?_) (a' := ?_) ba8_3 rfl rfl (any_of HT_.out (zq47)) (fun _ _ _ h => h) (Or.inl ⟨by rfl, ?_⟩) ?_ ?_; rotate_left; exact zs0; rotate_left; exact zs1
          refine pure_ (i := 3) (N := some 37) (v := ?_) (a' := ?_) ba8_4 rfl rfl (any_of HT_.out (zq47)) (fun _ _ _ h => h) (Or.inl ⟨by rfl, ?_⟩) ?_ ?_; rotate_left; exact zs0; rotate_left; exact zs1
          refine pure_ (i := 6) (N := some 40) (v := ?_) (a' := ?_) ba8_5 rfl rfl (any_of HT_.out (zq47)) (fun _ _ _ h => h) (Or.inl ⟨by rfl, ?_⟩) ?_ ?_; rotate_left; exact zs0; rotate_left; exact zs1
          refine pure_ (i := 7) (N := some 41) (v := ?_) (a' := ?_) ba8_6 rfl rfl (any_of HT_.out (zq47)) (fun _ _ _ h => h) (Or.inl ⟨by rfl, ?_⟩) ?_ ?_; rotate_left; exact zs0; rotate_left; exact zs1
          refine pure_ (i := 8) (N := some 42) (v := ?_) (a' := ?_) ba8_7 rfl rfl (any_of HT_.out (zq47)) (fun _ _ _ h => h) (Or.inl ⟨by rfl, ?_⟩) ?_ ?_; rotate_left; exact zs0; rotate_left; exact zs1
          refine take_ (i := 4) (N := some 38) (v := ?_) (a' := ?_) ba8_8 rfl rfl (take_ofW HT_.out HW_.out (zq47)) (fun _ _ _ h => h) (Or.inl ⟨by rfl, ?_⟩) hHeld ?_ ?_
          rotate_left
          ·rintro w' ⟨s0, s1, s2, s3, s4, s5, s6, s7, s8, s9, s10, s11, s12, s13, s14, s15, s16⟩
           go_simp
           with_reducible rfl
          rotate_left
          exact zs1
          refine pure_ (i := 5) (N := some 39) (v := ?_) (a' := ?_) ba8_9 rfl rfl (any_of HT_.out (zq47)) (fun _ _ _ h => h) (Or.inl ⟨by rfl, ?_⟩) ?_ ?_; rotate_left; exact zs0; rotate_left; exact zs1
          refine pure_ (i := 9) (N := some 43) (v := ?_) (a' := ?_) ba8_10 rfl rfl (any_of HT_.out (zq47)) (fun _ _ _ h => h) (Or.inl ⟨by rfl, ?_⟩) ?_ ?_; rotate_left; exact zs0; rotate_left; exact zs1
          refine pure_ (i := 10) (N := some 44) (v := ?_) (a' := ?_) ba8_11 rfl rfl (any_of HT_.out (zq47)) (fun _ _ _ h => h) (Or.inl ⟨by rfl, ?_⟩) ?_ ?_; rotate_left; exact zs0; rotate_left; exact zs1
          refine pure_ (i := 11) (N := some 45) (v := ?_) (a' := ?_) ba8_12 rfl rfl (any_of HT_.out (zq47)) (fun _ _ _ h => h) (Or.inl ⟨by rfl, ?_⟩) ?_ ?_; rotate_left; exact zs0; rotate_left; exact zs1
          refine pure_ (i := 12) (N := some 46) (v := ?_) (a' := ?_) ba8_13 rfl rfl (any_of HT_.out (zq47)) (fun _ _ _ h => h) (Or.inl ⟨by rfl, ?_⟩) ?_ ?_; rotate_left; exact zs0; rotate_left; exact zs1
          refine pure_ (i := 13) (N := some 47) (v := ?_) (a' := ?_) ba8_14 rfl rfl (any_of HT_.out (zq47)) (fun _ _ _ h => h) (Or.inl ⟨by rfl, ?_⟩) ?_ ?_; rotate_left; exact zs0; rotate_left; exact zs1
          refine pure_ (i := 14) (N := some 48) (v := ?_) (a' := ?_) ba8_15 rfl rfl (any_of HT_.out (zq47)) (fun _ _ _ h => h) (Or.inl ⟨by rfl, ?_⟩) ?_ ?_; rotate_left; exact zs0; rotate_left; exact zs1
          refine pure_ (i := 17) (N := some 51) (v := ?_) (a' := ?_) ba8_16 rfl rfl (any_of HT_.out (zq47)) (fun _ _ _ h => h) (Or.inl ⟨by rfl, ?_⟩) ?_ ?_; rotate_left; exact zs0; rotate_left; exact zs1
          refine pure_ (i := 18) (N := some 52) (v := ?_) (a' := ?_) ba8_17 rfl rfl (any_of HT_.out (zq47)) (fun _ _ _ h => h) (Or.inl ⟨by rfl, ?_⟩) ?_ ?_; rotate_left; exact zs0; rotate_left; exact zs1
          refine pure_ (i := 19) (N := some 53) (v := ?_) (a' := ?_) ba8_18 rfl rfl (any_of HT_.out (zq47)) (fun _ _ _ h => h) (Or.inl ⟨by rfl, ?_⟩) ?_ ?_; rotate_left; exact zs0; rotate_left; exact zs1
          refine take_ (i := 15) (N := some 49) (v := ?_) (a' := ?_) ba8_19 rfl rfl (take_ofW HT_.out HW_.out (zq47)) (fun _ _ _ h => h) (Or.inl ⟨by rfl, ?_⟩) hHeld ?_ ?_
          rotate_left
          ·rintro w' ⟨s0, s1, s2, s3, s4, s5, s6, s7, s8, s9, s10, s11, s12, s13, s14, s15, s16⟩
           go_simp
           with_reducible rfl
          rotate_left
          exact zs1
          refine pure_ (i := 16) (N := some 50) (v := ?_) (a' := ?_) ba8_20 rfl rfl (any_of HT_.out (zq47)) (fun _ _ _ h => h) (Or.inl ⟨by rfl, ?_⟩) ?_ ?_; rotate_left; exact zs0; rotate_left; exact zs1
          refine pure_ (i := 20) (N := some 54) (v := ?_) (a' := ?_) ba8_21 rfl rfl (any_of HT_.out (zq47)) (fun _ _ _ h => h) (Or.inl ⟨by rfl, ?_⟩) ?_ ?_; rotate_left; exact zs0; rotate_left; exact zs1
          refine pure_ (i := 21) (N := some 55) (v := ?_) (a' := ?_) ba8_22 rfl rfl (any_of HT_.out (zq47)) (fun _ _ _ h => h) (Or.inl ⟨by rfl, ?_⟩) ?_ ?_; rotate_left; exact zs0; rotate_left; exact zs1
          refine pure_ (i := 22) (N := some 56) (v := ?_) (a' := ?_) ba8_23 rfl rfl (any_of HT_.out (zq47)) (fun _ _ _ h => h) (Or.inl ⟨by rfl, ?_⟩) ?_ ?_; rotate_left; exact zs0; rotate_left; exact zs1
          refine pure_ (i := 23) (N := some 57) (v := ?_) (a' := ?_) ba8_24 rfl rfl (any_of HT_.out (zq47)) (fun _ _ _ h => h) (Or.inl ⟨by rfl, ?_⟩) ?_ ?_; rotate_left; exact zs0; rotate_left; exact zs1
          refine pure_ (i := 25) (N := some 59) (v := ?_) (a' := ?_) ba8_25 rfl rfl (any_of HT_.out (zq47)) (fun _ _ _ h => h) (Or.inl ⟨by rfl, ?_⟩) ?_ ?_; rotate_left; exact zs0; rotate_left; exact zs1
          refine pure_ (i := 26) (N := some 60) (v := ?_) (a' := ?_) ba8_26 rfl rfl (any_of HT_.out (zq47)) (fun _ _ _ h => h) (Or.inl ⟨by rfl, ?_⟩) ?_ ?_; rotate_left; exact zs0; rotate_left; exact zs1
          refine pure_ (i := 27) (N := some 61) (v := ?_) (a' := ?_) ba8_27 rfl rfl (any_of HT_.out (zq47)) (fun _ _ _ h => h) (Or.inl ⟨by rfl, ?_⟩) ?_ ?_; rotate_left; exact zs0; rotate_left; exact zs1
          refine pure_ (i := 28) (N := some 62) (v := ?_) (a' := ?_) ba8_28 rfl rfl (any_of HT_.out (zq47)) (fun _ _ _ h => h) (Or.inl ⟨by rfl, ?_⟩) ?_ ?_; rotate_left; exact zs0; rotate_left; exact zs1
          refine take_ (i := 24) (N := some 58) (v := ?_) (a' := ?_) ba8_33 rfl rfl (take_ofW HT_.out HW_.out (zq47)) (fun _ _ _ h => h) (Or.inl ⟨by rfl, ?_⟩) hHeld ?_ ?_
          rotate_left
          ·rintro w' ⟨s0, s1, s2, s3, s4, s5, s6, s7, s8, s9, s10, s11, s12, s13, s14, s15, s16⟩
           go_simp
           with_reducible rfl
          rotate_left
          exact zs1
          refine take_ (i := 29) (N := some 63) (v := ?_) (a' := ?_) ba8_34 rfl rfl (take_ofW HT_.out HW_.out (zq47)) (fun _ _ _ h => h) (Or.inl ⟨by rfl, ?_⟩) hHeld ?_ ?_
          rotate_left
          ·rintro w' ⟨s0, s1, s2, s3, s4, s5, s6, s7, s8, s9, s10, s11, s12, s13, s14, s15, s16⟩
           go_simp
           with_reducible rfl
          rotate_left
          exact zs1
          refine one_ (i := 30) (N := some 64) ba8_35 rfl rfl (one_of HT_.out (zq47)) (by decide) (fun K hK => ?_)
          refine goes_ Try.func58 (zq47) rfl #[.int .i64 a0_1, .slice A691_0 ((rd_T26 l2 x10_1).f0).length c691_0] (by rfl) rfl rfl (zq28) ?_
          with_reducible refine (trefoilref19_Fits.calls k1 a0_1 _ _ ((rd_T26 l2 x10_1).f0) true _ ?side1 ?side2 A16.out).mono ?_
          (case side1 => repeat (first | exact (Kd.C_below HR693_0.out HB.out) | (with_reducible refine Kd.C_alloc ?_ _) | (with_reducible refine Kd.C_drewN ?_ _) | (with_reducible refine Kd.C_drew ?_)))
          (case side2 => exact HC693_0.out)
          rintro e w' ⟨rfl, ⟨nd, rfl⟩⟩
          refine ⟨_, rfl, ?_⟩
          refine hK.out _ _ ⟨(blk_cell BK685.out 0).trans rfl, (blk_cell BK685.out 1).trans rfl, (blk_cell BK685.out 2).trans rfl, (blk_cell BK685.out 3).trans rfl, (blk_cell BK685.out 4).trans rfl, ((HB.out.cell (World.block_lt_of_cell? w _ hw691_0)).trans hw691_0), ((HB.out.cell (World.block_lt_of_cell? w _ hw691_1)).trans hw691_1), ((HB.out.cell (World.block_lt_of_cell? w _ hw691_2)).trans hw691_2), ((HB.out.cell (World.block_lt_of_cell? w _ hw692_0)).trans hw692_0), ((HB.out.cell (World.block_lt_of_cell? w _ hw692_1)).trans hw692_1), ((HB.out.cell (World.block_lt_of_cell? w _ hw692_2)).trans hw692_2), ((HB.out.cell (World.block_lt_of_cell? w _ hw693_0)).trans hw693_0), ((HB.out.cell (World.block_lt_of_cell? w _ hw693_1)).trans hw693_1), ((HB.out.cell (World.block_lt_of_cell? w _ hw693_2)).trans hw693_2), ((HB.out.cell (World.block_lt_of_cell? w _ hw695_0)).trans hw695_0), ((HB.out.cell (World.block_lt_of_cell? w _ hw695_1)).trans hw695_1), ((HB.out.cell (World.block_lt_of_cell? w _ hw695_2)).trans hw695_2)⟩ (fun hHeld => ?_)
          clear hK K
          refine norm_ (a' := ?_) ?_ ?_
          rotate_left
          ·show Act.put _ (some 64) _ = _
           simp only [Act.put, List.setIfInBounds_toArray, List.set_cons_zero, List.set_cons_succ, i64_w, i32_w]
           rfl
          refine pure_ (i := 31) (N := some 65) (v := ?_) (a' := ?_) ba8_36 rfl rfl (any_of HT_.out (zq47)) (fun _ _ _ h => h) (Or.inl ⟨by rfl, ?_⟩) ?_ ?_; rotate_left; exact zs0; rotate_left; exact zs1
          refine pure_ (i := 32) (N := some 66) (v := ?_) (a' := ?_) ba8_37 rfl rfl (any_of HT_.out (zq47)) (fun _ _ _ h => h) (Or.inl ⟨by rfl, ?_⟩) ?_ ?_; rotate_left; exact zs0; rotate_left; exact zs1
          refine pure_ (i := 33) (N := some 67) (v := ?_) (a' := ?_) ba8_38 rfl rfl (any_of HT_.out (zq47)) (fun _ _ _ h => h) (Or.inl ⟨by rfl, ?_⟩) ?_ ?_; rotate_left; exact zs0; rotate_left; exact zs1
          refine pure_ (i := 34) (N := some 68) (v := ?_) (a' := ?_) ba8_39 rfl rfl (any_of HT_.out (zq47)) (fun _ _ _ h => h) (Or.inl ⟨by rfl, ?_⟩) ?_ ?_; rotate_left; exact zs0; rotate_left; exact zs1
          refine pure_ (i := 36) (N := some 70) (v := ?_) (a' := ?_) ba8_40 rfl rfl (any_of HT_.out (zq47)) (fun _ _ _ h => h) (Or.inl ⟨by rfl, ?_⟩) ?_ ?_; rotate_left; exact zs0; rotate_left; exact zs1
          refine pure_ (i := 37) (N := some 71) (v := ?_) (a' := ?_) ba8_41 rfl rfl (any_of HT_.out (zq47)) (fun _ _ _ h => h) (Or.inl ⟨by rfl, ?_⟩) ?_ ?_; rotate_left; exact zs0; rotate_left; exact zs1
          refine pure_ (i := 38) (N := some 72) (v := ?_) (a' := ?_) ba8_42 rfl rfl (any_of HT_.out (zq47)) (fun _ _ _ h => h) (Or.inl ⟨by rfl, ?_⟩) ?_ ?_; rotate_left; exact zs0; rotate_left; exact zs1
          refine pure_ (i := 39) (N := some 73) (v := ?_) (a' := ?_) ba8_43 rfl rfl (any_of HT_.out (zq47)) (fun _ _ _ h => h) (Or.inl ⟨by rfl, ?_⟩) ?_ ?_; rotate_left; exact zs0; rotate_left; exact zs1
          refine take_ (i := 35) (N := some 69) (v := ?_) (a' := ?_) ba8_48 rfl rfl (take_ofW HT_.out HW_.out (zq47)) (fun _ _ _ h => h) (Or.inl ⟨by rfl, ?_⟩) hHeld ?_ ?_
          rotate_left
          ·rintro w' ⟨s0, s1, s2, s3, s4, s5, s6, s7, s8, s9, s10, s11, s12, s13, s14, s15, s16⟩
           go_simp
           with_reducible rfl
          rotate_left
          exact zs1
          refine take_ (i := 40) (N := some 74) (v := ?_) (a' := ?_) ba8_49 rfl rfl (take_ofW HT_.out HW_.out (zq47)) (fun _ _ _ h => h) (Or.inl ⟨by rfl, ?_⟩) hHeld ?_ ?_
          rotate_left
          ·rintro w' ⟨s0, s1, s2, s3, s4, s5, s6, s7, s8, s9, s10, s11, s12, s13, s14, s15, s16⟩
           go_simp
           with_reducible rfl
          rotate_left
          exact zs1
          refine one_ (i := 41) (N := some 75) ba8_50 rfl rfl (one_of HT_.out (zq47)) (by decide) (fun K hK => ?_)
          refine goes_ Try.func58 (zq47) rfl #[.int .i64 a0_1, .slice A691_1 ((rd_T26 l2 x10_1).f1).length c691_1] (by rfl) rfl rfl (zq28) ?_
          with_reducible refine (trefoilref19_Fits.calls k1 a0_1 _ _ ((rd_T26 l2 x10_1).f1) false _ ?side1 ?side2 A18.out).mono ?_
          (case side1 => repeat (first | exact (Kd.C_below HR695_1.out HB.bl) | (with_reducible refine Kd.C_alloc ?_ _) | (with_reducible refine Kd.C_drewN ?_ _) | (with_reducible refine Kd.C_drew ?_)))
          (case side2 => exact HC695_1.out)
          rintro e w' ⟨rfl, ⟨nd, rfl⟩⟩
          refine ⟨_, rfl, ?_⟩
          refine hK.out _ _ ⟨(blk_cell BK685.out 0).trans rfl, (blk_cell BK685.out 1).trans rfl, (blk_cell BK685.out 2).trans rfl, (blk_cell BK685.out 3).trans rfl, (blk_cell BK685.out 4).trans rfl, ((HB.out.cell (World.block_lt_of_cell? w _ hw691_0)).trans hw691_0), ((HB.out.cell (World.block_lt_of_cell? w _ hw691_1)).trans hw691_1), ((HB.out.cell (World.block_lt_of_cell? w _ hw691_2)).trans hw691_2), ((HB.out.cell (World.block_lt_of_cell? w _ hw692_0)).trans hw692_0), ((HB.out.cell (World.block_lt_of_cell? w _ hw692_1)).trans hw692_1), ((HB.out.cell (World.block_lt_of_cell? w _ hw692_2)).trans hw692_2), ((HB.out.cell (World.block_lt_of_cell? w _ hw693_0)).trans hw693_0), ((HB.out.cell (World.block_lt_of_cell? w _ hw693_1)).trans hw693_1), ((HB.out.cell (World.block_lt_of_cell? w _ hw693_2)).trans hw693_2), ((HB.out.cell (World.block_lt_of_cell? w _ hw695_0)).trans hw695_0), ((HB.out.cell (World.block_lt_of_cell? w _ hw695_1)).trans hw695_1), ((HB.out.cell (World.block_lt_of_cell? w _ hw695_2)).trans hw695_2)⟩ (fun hHeld => ?_)
          clear hK K
          refine norm_ (a' := ?_) ?_ ?_
          rotate_left
          ·show Act.put _ (some 75) _ = _
           simp only [Act.put, List.setIfInBounds_toArray, List.set_cons_zero, List.set_cons_succ, i64_w, i32_w]
           rfl
          refine pure_ (i := 42) (N := some 76) (v := ?_) (a' := ?_) ba8_51 rfl rfl (any_of HT_.out (zq47)) (fun _ _ _ h => h) (Or.inl ⟨by rfl, ?_⟩) ?_ ?_; rotate_left; exact zs0; rotate_left; exact zs1
          refine pure_ (i := 43) (N := some 77) (v := ?_) (a' := ?_) ba8_52 rfl rfl (any_of HT_.out (zq47)) (fun _ _ _ h => h) (Or.inl ⟨by rfl, ?_⟩) ?_ ?_; rotate_left; exact zs0; rotate_left; exact zs1
          refine done_ (done_of HT_.out (zq47)) ?_
          try go_wp2
          go_ret
          exact ⟨zq37, zq20⟩
        ·replace c17 := Bool.eq_false_iff.mpr c17
         subst c17
         have H1 : (some 11) = some r := by rw [if_neg (show ¬ (false = true) by decide)] at H; exact H
         clear H
         have H := H1
         clear H1
         obtain rfl := Option.some.inj H
         try go_wp2
         have n0_ := Aside0.mk (blk_drew BK685.out)
         have n1_ := Aside0.mk (below_drew1 HB.out)
         clear BK685
         clear HB
         have BK685 := n0_
         have HB := n1_
         clear n0_ n1_
         have p691 : 0 ≤ (x10_1 : Int) := of_decide_eq_true (zq39)
         have q691 : x10_1 < (l2.length : Int) := of_decide_eq_true (zq39)
         obtain ⟨ad691, A691_0, c691_0, A691_1, c691_1, A691_2, c691_2, e691, hx691_0, hx691_1, hx691_2, hl691_0, hi691_0, hl691_1, hi691_1, hl691_2, hi691_2⟩ := at_T26 HR2.out x10_1 p691 q691
         have hw691_2 := hx691_2
         have hw691_1 := hx691_1
         have hw691_0 := hx691_0
         cases e691
         replace hx691_0 := (HB.out.cell (World.block_lt_of_cell? w _ hx691_0)).trans hx691_0
         replace hx691_1 := (HB.out.cell (World.block_lt_of_cell? w _ hx691_1)).trans hx691_1
         replace hx691_2 := (HB.out.cell (World.block_lt_of_cell? w _ hx691_2)).trans hx691_2
         have HR691_0 := Aside0.mk hi691_0
         have HC691_0 := Aside0.mk hl691_0
         clear hi691_0 hl691_0
         have HR691_1 := Aside0.mk hi691_1
         have HC691_1 := Aside0.mk hl691_1
         clear hi691_1 hl691_1
         have HR691_2 := Aside0.mk hi691_2
         have HC691_2 := Aside0.mk hl691_2
         clear hi691_2 hl691_2
         replace p691 := eq_true p691
         replace q691 := eq_true q691
         have p692 : 0 ≤ (x10_1 : Int) := of_decide_eq_true (zq39)
         have q692 : x10_1 < (l2.length : Int) := of_decide_eq_true (zq39)
         obtain ⟨ad692, A692_0, c692_0, A692_1, c692_1, A692_2, c692_2, e692, hx692_0, hx692_1, hx692_2, hl692_0, hi692_0, hl692_1, hi692_1, hl692_2, hi692_2⟩ := at_T26 HR2.out x10_1 p692 q692
         have hw692_2 := hx692_2
         have hw692_1 := hx692_1
         have hw692_0 := hx692_0
         obtain rfl : ad691 = ad692 := (by injection e692)
         replace hx692_0 := (HB.out.cell (World.block_lt_of_cell? w _ hx692_0)).trans hx692_0
         replace hx692_1 := (HB.out.cell (World.block_lt_of_cell? w _ hx692_1)).trans hx692_1
         replace hx692_2 := (HB.out.cell (World.block_lt_of_cell? w _ hx692_2)).trans hx692_2
         have HR692_0 := Aside0.mk hi692_0
         have HC692_0 := Aside0.mk hl692_0
         clear hi692_0 hl692_0
         have HR692_1 := Aside0.mk hi692_1
         have HC692_1 := Aside0.mk hl692_1
         clear hi692_1 hl692_1
         have HR692_2 := Aside0.mk hi692_2
         have HC692_2 := Aside0.mk hl692_2
         clear hi692_2 hl692_2
         replace p692 := eq_true p692
         replace q692 := eq_true q692
         have ea_ := Option.some.inj (hx691_0.symm.trans hx692_0)
         injection ea_ with ea_ en_ ec_
         subst ea_
         subst ec_
         clear en_
         have ea_ := Option.some.inj (hx691_1.symm.trans hx692_1)
         injection ea_ with ea_ en_ ec_
         subst ea_
         subst ec_
         clear en_
         have ea_ := Option.some.inj (hx691_2.symm.trans hx692_2)
         injection ea_ with ea_ en_ ec_
         subst ea_
         subst ec_
         clear en_
         have p693 : 0 ≤ (x10_1 : Int) := of_decide_eq_true (zq39)
         have q693 : x10_1 < (l2.length : Int) := of_decide_eq_true (zq39)
         obtain ⟨ad693, A693_0, c693_0, A693_1, c693_1, A693_2, c693_2, e693, hx693_0, hx693_1, hx693_2, hl693_0, hi693_0, hl693_1, hi693_1, hl693_2, hi693_2⟩ := at_T26 HR2.out x10_1 p693 q693
         have hw693_2 := hx693_2
         have hw693_1 := hx693_1
         have hw693_0 := hx693_0
         obtain rfl : ad691 = ad693 := (by injection e693)
         replace hx693_0 := (HB.out.cell (World.block_lt_of_cell? w _ hx693_0)).trans hx693_0
         replace hx693_1 := (HB.out.cell (World.block_lt_of_cell? w _ hx693_1)).trans hx693_1
         replace hx693_2 := (HB.out.cell (World.block_lt_of_cell? w _ hx693_2)).trans hx693_2
         have HR693_0 := Aside0.mk hi693_0
         have HC693_0 := Aside0.mk hl693_0
         clear hi693_0 hl693_0
         have HR693_1 := Aside0.mk hi693_1
         have HC693_1 := Aside0.mk hl693_1
         clear hi693_1 hl693_1
         have HR693_2 := Aside0.mk hi693_2
         have HC693_2 := Aside0.mk hl693_2
         clear hi693_2 hl693_2
         replace p693 := eq_true p693
         replace q693 := eq_true q693
         have ea_ := Option.some.inj (hx691_0.symm.trans hx693_0)
         injection ea_ with ea_ en_ ec_
         subst ea_
         subst ec_
         clear en_
         have ea_ := Option.some.inj (hx691_1.symm.trans hx693_1)
         injection ea_ with ea_ en_ ec_
         subst ea_
         subst ec_
         clear en_
         have ea_ := Option.some.inj (hx691_2.symm.trans hx693_2)
         injection ea_ with ea_ en_ ec_
         subst ea_
         subst ec_
         clear en_
         refine start_ (n := 44) (S := fun w' => w'.cell? ⟨gb685, 0, none⟩ = some (.int .i64 a0_0) ∧ w'.cell? ⟨gb685, 1, none⟩ = some (.int .i64 a0_1) ∧ w'.cell? ⟨gb685, 2, none⟩ = some (.int .i64 a0_2) ∧ w'.cell? ⟨gb685, 3, none⟩ = some (.int .i64 a0_3) ∧ w'.cell? ⟨gb685, 4, none⟩ = some (.int .i64 a0_4) ∧ w'.cell? (ad691.add ((x10_1).toNat * 3)) = some (.slice A691_0 ((rd_T26 l2 x10_1).f0).length c691_0) ∧ w'.cell? ⟨(ad691.add ((x10_1).toNat * 3)).block, (ad691.add ((x10_1).toNat * 3)).off + 1, none⟩ = some (.slice A691_1 ((rd_T26 l2 x10_1).f1).length c691_1) ∧ w'.cell? ⟨(ad691.add ((x10_1).toNat * 3)).block, (ad691.add ((x10_1).toNat * 3)).off + 2, none⟩ = some (.slice A691_2 ((rd_T26 l2 x10_1).f2).length c691_2) ∧ w'.cell? (ad691.add ((x10_1).toNat * 3)) = some (.slice A691_0 ((rd_T26 l2 x10_1).f0).length c691_0) ∧ w'.cell? ⟨(ad691.add ((x10_1).toNat * 3)).block, (ad691.add ((x10_1).toNat * 3)).off + 1, none⟩ = some (.slice A691_1 ((rd_T26 l2 x10_1).f1).length c691_1) ∧ w'.cell? ⟨(ad691.add ((x10_1).toNat * 3)).block, (ad691.add ((x10_1).toNat * 3)).off + 2, none⟩ = some (.slice A691_2 ((rd_T26 l2 x10_1).f2).length c691_2) ∧ w'.cell? (ad691.add ((x10_1).toNat * 3)) = some (.slice A691_0 ((rd_T26 l2 x10_1).f0).length c691_0) ∧ w'.cell? ⟨(ad691.add ((x10_1).toNat * 3)).block, (ad691.add ((x10_1).toNat * 3)).off + 1, none⟩ = some (.slice A691_1 ((rd_T26 l2 x10_1).f1).length c691_1) ∧ w'.cell? ⟨(ad691.add ((x10_1).toNat * 3)).block, (ad691.add ((x10_1).toNat * 3)).off + 2, none⟩ = some (.slice A691_2 ((rd_T26 l2 x10_1).f2).length c691_2)) (ds := []) ba8_0 (zq47) rfl rfl ⟨(blk_cell BK685.out 0).trans rfl, (blk_cell BK685.out 1).trans rfl, (blk_cell BK685.out 2).trans rfl, (blk_cell BK685.out 3).trans rfl, (blk_cell BK685.out 4).trans rfl, ((HB.out.cell (World.block_lt_of_cell? w _ hw691_0)).trans hw691_0), ((HB.out.cell (World.block_lt_of_cell? w _ hw691_1)).trans hw691_1), ((HB.out.cell (World.block_lt_of_cell? w _ hw691_2)).trans hw691_2), ((HB.out.cell (World.block_lt_of_cell? w _ hw692_0)).trans hw692_0), ((HB.out.cell (World.block_lt_of_cell? w _ hw692_1)).trans hw692_1), ((HB.out.cell (World.block_lt_of_cell? w _ hw692_2)).trans hw692_2), ((HB.out.cell (World.block_lt_of_cell? w _ hw693_0)).trans hw693_0), ((HB.out.cell (World.block_lt_of_cell? w _ hw693_1)).trans hw693_1), ((HB.out.cell (World.block_lt_of_cell? w _ hw693_2)).trans hw693_2)⟩ (fun hHeld => ?_); refine with_tabW trefoilref22_Wrong.tab7 trefoilref22_Wrong.bits7 (fun HT_ HW_ => ?_)
         generalize wr.drew = w22 at BK685 HB HR691_0 HR691_1 HR691_2 HR692_0 HR692_1 HR692_2 HR693_0 HR693_1 HR693_2 hx691_0 hx691_1 hx691_2 hx692_0 hx692_1 hx692_2 hx693_0 hx693_1 hx693_2 hHeld ⊢
         refine pure_ (i := 0) (N := some 34) (v := ?_) (a' := ?_) ba8_1 rfl rfl (any_of HT_.out (zq47)) (fun _ _ _ h => h) (Or.inl ⟨by rfl, ?_⟩) ?_ ?_; rotate_left; exact zs0; rotate_left; exact zs1
         refine pure_ (i := 1) (N := some 35) (v := ?_) (a' := ?_) ba8_2 rfl rfl (any_of HT_.out (zq47)) (fun _ _ _ h => h) (Or.inl ⟨by rfl, ?_⟩) ?_ ?_; rotate_left; exact zs0; rotate_left; exact zs1
         refine pure_ (i := 2) (N := some 36) (v := ?_) (a' := ?_) ba8_3 rfl rfl (any_of HT_.out (zq47)) (fun _ _ _ h => h) (Or.inl ⟨by rfl, ?_⟩) ?_ ?_; rotate_left; exact zs0; rotate_left; exact zs1
         refine pure_ (i := 3) (N := some 37) (v := ?_) (a' := ?_) ba8_4 rfl rfl (any_of HT_.out (zq47)) (fun _ _ _ h => h) (Or.inl ⟨by rfl, ?_⟩) ?_ ?_; rotate_left; exact zs0; rotate_left; exact zs1
         refine pure_ (i := 6) (N := some 40) (v := ?_) (a' := ?_) ba8_5 rfl rfl (any_of HT_.out (zq47)) (fun _ _ _ h => h) (Or.inl ⟨by rfl, ?_⟩) ?_ ?_; rotate_left; exact zs0; rotate_left; exact zs1
         refine pure_ (i := 7) (N := some 41) (v := ?_) (a' := ?_) ba8_6 rfl rfl (any_of HT_.out (zq47)) (fun _ _ _ h => h) (Or.inl ⟨by rfl, ?_⟩) ?_ ?_; rotate_left; exact zs0; rotate_left; exact zs1
         refine pure_ (i := 8) (N := some 42) (v := ?_) (a' := ?_) ba8_7 rfl rfl (any_of HT_.out (zq47)) (fun _ _ _ h => h) (Or.inl ⟨by rfl, ?_⟩) ?_ ?_; rotate_left; exact zs0; rotate_left; exact zs1
         refine take_ (i := 4) (N := some 38) (v := ?_) (a' := ?_) ba8_8 rfl rfl (take_ofW HT_.out HW_.out (zq47)) (fun _ _ _ h => h) (Or.inl ⟨by rfl, ?_⟩) hHeld ?_ ?_
         rotate_left
         ·rintro w' ⟨s0, s1, s2, s3, s4, s5, s6, s7, s8, s9, s10, s11, s12, s13⟩
          go_simp
          with_reducible rfl
         rotate_left
         exact zs1
         refine pure_ (i := 5) (N := some 39) (v := ?_) (a' := ?_) ba8_9 rfl rfl (any_of HT_.out (zq47)) (fun _ _ _ h => h) (Or.inl ⟨by rfl, ?_⟩) ?_ ?_; rotate_left; exact zs0; rotate_left; exact zs1
         refine pure_ (i := 9) (N := some 43) (v := ?_) (a' := ?_) ba8_10 rfl rfl (any_of HT_.out (zq47)) (fun _ _ _ h => h) (Or.inl ⟨by rfl, ?_⟩) ?_ ?_; rotate_left; exact zs0; rotate_left; exact zs1
         refine pure_ (i := 10) (N := some 44) (v := ?_) (a' := ?_) ba8_11 rfl rfl (any_of HT_.out (zq47)) (fun _ _ _ h => h) (Or.inl ⟨by rfl, ?_⟩) ?_ ?_; rotate_left; exact zs0; rotate_left; exact zs1
         refine pure_ (i := 11) (N := some 45) (v := ?_) (a' := ?_) ba8_12 rfl rfl (any_of HT_.out (zq47)) (fun _ _ _ h => h) (Or.inl ⟨by rfl, ?_⟩) ?_ ?_; rotate_left; exact zs0; rotate_left; exact zs1
         refine pure_ (i := 12) (N := some 46) (v := ?_) (a' := ?_) ba8_13 rfl rfl (any_of HT_.out (zq47)) (fun _ _ _ h => h) (Or.inl ⟨by rfl, ?_⟩) ?_ ?_; rotate_left; exact zs0; rotate_left; exact zs1
         refine pure_ (i := 13) (N := some 47) (v := ?_) (a' := ?_) ba8_14 rfl rfl (any_of HT_.out (zq47)) (fun _ _ _ h => h) (Or.inl ⟨by rfl, ?_⟩) ?_ ?_; rotate_left; exact zs0; rotate_left; exact zs1
         refine pure_ (i := 14) (N := some 48) (v := ?_) (a' := ?_) ba8_15 rfl rfl (any_of HT_.out (zq47)) (fun _ _ _ h => h) (Or.inl ⟨by rfl, ?_⟩) ?_ ?_; rotate_left; exact zs0; rotate_left; exact zs1
         refine pure_ (i := 17) (N := some 51) (v := ?_) (a' := ?_) ba8_16 rfl rfl (any_of HT_.out (zq47)) (fun _ _ _ h => h) (Or.inl ⟨by rfl, ?_⟩) ?_ ?_; rotate_left; exact zs0; rotate_left; exact zs1
         refine pure_ (i := 18) (N := some 52) (v := ?_) (a' := ?_) ba8_17 rfl rfl (any_of HT_.out (zq47)) (fun _ _ _ h => h) (Or.inl ⟨by rfl, ?_⟩) ?_ ?_; rotate_left; exact zs0; rotate_left; exact zs1
         refine pure_ (i := 19) (N := some 53) (v := ?_) (a' := ?_) ba8_18 rfl rfl (any_of HT_.out (zq47)) (fun _ _ _ h => h) (Or.inl ⟨by rfl, ?_⟩) ?_ ?_; rotate_left; exact zs0; rotate_left; exact zs1
         refine take_ (i := 15) (N := some 49) (v := ?_) (a' := ?_) ba8_19 rfl rfl (take_ofW HT_.out HW_.out (zq47)) (fun _ _ _ h => h) (Or.inl ⟨by rfl, ?_⟩) hHeld ?_ ?_
         rotate_left
         ·rintro w' ⟨s0, s1, s2, s3, s4, s5, s6, s7, s8, s9, s10, s11, s12, s13⟩
          go_simp
          with_reducible rfl
         rotate_left
         exact zs1
         refine pure_ (i := 16) (N := some 50) (v := ?_) (a' := ?_) ba8_20 rfl rfl (any_of HT_.out (zq47)) (fun _ _ _ h => h) (Or.inl ⟨by rfl, ?_⟩) ?_ ?_; rotate_left; exact zs0; rotate_left; exact zs1
         refine pure_ (i := 20) (N := some 54) (v := ?_) (a' := ?_) ba8_21 rfl rfl (any_of HT_.out (zq47)) (fun _ _ _ h => h) (Or.inl ⟨by rfl, ?_⟩) ?_ ?_; rotate_left; exact zs0; rotate_left; exact zs1
         refine pure_ (i := 21) (N := some 55) (v := ?_) (a' := ?_) ba8_22 rfl rfl (any_of HT_.out (zq47)) (fun _ _ _ h => h) (Or.inl ⟨by rfl, ?_⟩) ?_ ?_; rotate_left; exact zs0; rotate_left; exact zs1
         refine pure_ (i := 22) (N := some 56) (v := ?_) (a' := ?_) ba8_23 rfl rfl (any_of HT_.out (zq47)) (fun _ _ _ h => h) (Or.inl ⟨by rfl, ?_⟩) ?_ ?_; rotate_left; exact zs0; rotate_left; exact zs1
         refine pure_ (i := 23) (N := some 57) (v := ?_) (a' := ?_) ba8_24 rfl rfl (any_of HT_.out (zq47)) (fun _ _ _ h => h) (Or.inl ⟨by rfl, ?_⟩) ?_ ?_; rotate_left; exact zs0; rotate_left; exact zs1
         refine pure_ (i := 25) (N := some 59) (v := ?_) (a' := ?_) ba8_25 rfl rfl (any_of HT_.out (zq47)) (fun _ _ _ h => h) (Or.inl ⟨by rfl, ?_⟩) ?_ ?_; rotate_left; exact zs0; rotate_left; exact zs1
         refine pure_ (i := 26) (N := some 60) (v := ?_) (a' := ?_) ba8_26 rfl rfl (any_of HT_.out (zq47)) (fun _ _ _ h => h) (Or.inl ⟨by rfl, ?_⟩) ?_ ?_; rotate_left; exact zs0; rotate_left; exact zs1
         refine pure_ (i := 27) (N := some 61) (v := ?_) (a' := ?_) ba8_27 rfl rfl (any_of HT_.out (zq47)) (fun _ _ _ h => h) (Or.inl ⟨by rfl, ?_⟩) ?_ ?_; rotate_left; exact zs0; rotate_left; exact zs1
         refine pure_ (i := 28) (N := some 62) (v := ?_) (a' := ?_) ba8_28 rfl rfl (any_of HT_.out (zq47)) (fun _ _ _ h => h) (Or.inl ⟨by rfl, ?_⟩) ?_ ?_; rotate_left; exact zs0; rotate_left; exact zs1
         refine take_ (i := 24) (N := some 58) (v := ?_) (a' := ?_) ba8_33 rfl rfl (take_ofW HT_.out HW_.out (zq47)) (fun _ _ _ h => h) (Or.inl ⟨by rfl, ?_⟩) hHeld ?_ ?_
         rotate_left
         ·rintro w' ⟨s0, s1, s2, s3, s4, s5, s6, s7, s8, s9, s10, s11, s12, s13⟩
          go_simp
          with_reducible rfl
         rotate_left
         exact zs1
         refine take_ (i := 29) (N := some 63) (v := ?_) (a' := ?_) ba8_34 rfl rfl (take_ofW HT_.out HW_.out (zq47)) (fun _ _ _ h => h) (Or.inl ⟨by rfl, ?_⟩) hHeld ?_ ?_
         rotate_left
         ·rintro w' ⟨s0, s1, s2, s3, s4, s5, s6, s7, s8, s9, s10, s11, s12, s13⟩
          go_simp
          with_reducible rfl
         rotate_left
         exact zs1
         refine one_ (i := 30) (N := some 64) ba8_35 rfl rfl (one_of HT_.out (zq47)) (by decide) (fun K hK => ?_)
         refine goes_ Try.func58 (zq47) rfl #[.int .i64 a0_1, .slice A691_0 ((rd_T26 l2 x10_1).f0).length c691_0] (by rfl) rfl rfl (zq28) ?_
         with_reducible refine (trefoilref19_Fits.calls k1 a0_1 _ _ ((rd_T26 l2 x10_1).f0) false _ ?side1 ?side2 A16.out).mono ?_
         (case side1 => repeat (first | exact (Kd.C_below HR693_0.out HB.out) | (with_reducible refine Kd.C_alloc ?_ _) | (with_reducible refine Kd.C_drewN ?_ _) | (with_reducible refine Kd.C_drew ?_)))
         (case side2 => exact HC693_0.out)
         rintro e w' ⟨rfl, ⟨nd, rfl⟩⟩
         refine ⟨_, rfl, ?_⟩
         refine hK.out _ _ ⟨(blk_cell BK685.out 0).trans rfl, (blk_cell BK685.out 1).trans rfl, (blk_cell BK685.out 2).trans rfl, (blk_cell BK685.out 3).trans rfl, (blk_cell BK685.out 4).trans rfl, ((HB.out.cell (World.block_lt_of_cell? w _ hw691_0)).trans hw691_0), ((HB.out.cell (World.block_lt_of_cell? w _ hw691_1)).trans hw691_1), ((HB.out.cell (World.block_lt_of_cell? w _ hw691_2)).trans hw691_2), ((HB.out.cell (World.block_lt_of_cell? w _ hw692_0)).trans hw692_0), ((HB.out.cell (World.block_lt_of_cell? w _ hw692_1)).trans hw692_1), ((HB.out.cell (World.block_lt_of_cell? w _ hw692_2)).trans hw692_2), ((HB.out.cell (World.block_lt_of_cell? w _ hw693_0)).trans hw693_0), ((HB.out.cell (World.block_lt_of_cell? w _ hw693_1)).trans hw693_1), ((HB.out.cell (World.block_lt_of_cell? w _ hw693_2)).trans hw693_2)⟩ (fun hHeld => ?_)
         clear hK K
         refine norm_ (a' := ?_) ?_ ?_
         rotate_left
         ·show Act.put _ (some 64) _ = _
          simp only [Act.put, List.setIfInBounds_toArray, List.set_cons_zero, List.set_cons_succ, i64_w, i32_w]
          rfl
         refine pure_ (i := 31) (N := some 65) (v := ?_) (a' := ?_) ba8_36 rfl rfl (any_of HT_.out (zq47)) (fun _ _ _ h => h) (Or.inl ⟨by rfl, ?_⟩) ?_ ?_; rotate_left; exact zs0; rotate_left; exact zs1
         refine pure_ (i := 32) (N := some 66) (v := ?_) (a' := ?_) ba8_37 rfl rfl (any_of HT_.out (zq47)) (fun _ _ _ h => h) (Or.inl ⟨by rfl, ?_⟩) ?_ ?_; rotate_left; exact zs0; rotate_left; exact zs1
         refine pure_ (i := 33) (N := some 67) (v := ?_) (a' := ?_) ba8_38 rfl rfl (any_of HT_.out (zq47)) (fun _ _ _ h => h) (Or.inl ⟨by rfl, ?_⟩) ?_ ?_; rotate_left; exact zs0; rotate_left; exact zs1
         refine pure_ (i := 34) (N := some 68) (v := undef) (a' := ?_) ba8_39 rfl rfl (any_of HT_.out (zq47)) (fun _ _ _ h => h) (Or.inr ⟨by rfl, rfl⟩) ?_ ?_
         rotate_left
         exact zs1
         refine pure_ (i := 35) (N := some 69) (v := undef) (a' := ?_) ba8_44 rfl rfl (any_of HT_.out (zq47)) (fun _ _ _ h => h) (Or.inr ⟨by rfl, rfl⟩) ?_ ?_
         rotate_left
         exact zs1
         refine pure_ (i := 36) (N := some 70) (v := undef) (a' := ?_) ba8_45 rfl rfl (any_of HT_.out (zq47)) (fun _ _ _ h => h) (Or.inr ⟨by rfl, rfl⟩) ?_ ?_
         rotate_left
         exact zs1
         refine pure_ (i := 37) (N := some 71) (v := undef) (a' := ?_) ba8_46 rfl rfl (any_of HT_.out (zq47)) (fun _ _ _ h => h) (Or.inr ⟨by rfl, rfl⟩) ?_ ?_
         rotate_left
         exact zs1
         refine pure_ (i := 38) (N := some 72) (v := undef) (a' := ?_) ba8_47 rfl rfl (any_of HT_.out (zq47)) (fun _ _ _ h => h) (Or.inr ⟨by rfl, rfl⟩) ?_ ?_
         rotate_left
         exact zs1
         refine pure_ (i := 39) (N := some 73) (v := undef) (a' := ?_) ba8_48 rfl rfl (any_of HT_.out (zq47)) (fun _ _ _ h => h) (Or.inr ⟨by rfl, rfl⟩) ?_ ?_
         rotate_left
         exact zs1
         refine pure_ (i := 40) (N := some 74) (v := undef) (a' := ?_) ba8_49 rfl rfl (any_of HT_.out (zq47)) (fun _ _ _ h => h) (Or.inr ⟨by rfl, rfl⟩) ?_ ?_
         rotate_left
         exact zs1
         refine pure_ (i := 41) (N := some 75) (v := undef) (a' := ?_) ba8_50 rfl rfl (any_of HT_.out (zq47)) (fun _ _ _ h => h) (Or.inr ⟨by rfl, rfl⟩) ?_ ?_
         rotate_left
         exact zs1
         refine pure_ (i := 42) (N := some 76) (v := undef) (a' := ?_) ba8_51 rfl rfl (any_of HT_.out (zq47)) (fun _ _ _ h => h) (Or.inr ⟨by rfl, rfl⟩) ?_ ?_
         rotate_left
         exact zs1
         refine pure_ (i := 43) (N := some 77) (v := ?_) (a' := ?_) ba8_52 rfl rfl (any_of HT_.out (zq47)) (fun _ _ _ h => h) (Or.inl ⟨by rfl, ?_⟩) ?_ ?_; rotate_left; exact zs0; rotate_left; exact zs1
         refine done_ (done_of HT_.out (zq47)) ?_
         try go_wp2
         go_ret
         exact ⟨zq37, zq20⟩
       ·rw [if_neg c15] at H
        have c15b0 : ((((rd_T26 l2 x10_1).f1).length : Int) == (wrap64 (t689 * t690))) = false := beq_eq_false_iff_ne.mpr c15
        have c15b1 : ((((rd_T26 l2 x10_1).f1).length : Int) != (wrap64 (t689 * t690))) = true := bne_iff_ne.mpr c15
        obtain rfl := Option.some.inj H
        try go_wp2
        have n0_ := Aside0.mk (blk_drew BK685.out)
        have n1_ := Aside0.mk (below_drew1 HB.out)
        clear BK685
        clear HB
        have BK685 := n0_
        have HB := n1_
        clear n0_ n1_
        have p691 : 0 ≤ (x10_1 : Int) := of_decide_eq_true (zq39)
        have q691 : x10_1 < (l2.length : Int) := of_decide_eq_true (zq39)
        obtain ⟨ad691, A691_0, c691_0, A691_1, c691_1, A691_2, c691_2, e691, hx691_0, hx691_1, hx691_2, hl691_0, hi691_0, hl691_1, hi691_1, hl691_2, hi691_2⟩ := at_T26 HR2.out x10_1 p691 q691
        have hw691_2 := hx691_2
        have hw691_1 := hx691_1
        have hw691_0 := hx691_0
        cases e691
        replace hx691_0 := (HB.out.cell (World.block_lt_of_cell? w _ hx691_0)).trans hx691_0
        replace hx691_1 := (HB.out.cell (World.block_lt_of_cell? w _ hx691_1)).trans hx691_1
        replace hx691_2 := (HB.out.cell (World.block_lt_of_cell? w _ hx691_2)).trans hx691_2
        have HR691_0 := Aside0.mk hi691_0
        have HC691_0 := Aside0.mk hl691_0
        clear hi691_0 hl691_0
        have HR691_1 := Aside0.mk hi691_1
        have HC691_1 := Aside0.mk hl691_1
        clear hi691_1 hl691_1
        have HR691_2 := Aside0.mk hi691_2
        have HC691_2 := Aside0.mk hl691_2
        clear hi691_2 hl691_2
        replace p691 := eq_true p691
        replace q691 := eq_true q691
        have p692 : 0 ≤ (x10_1 : Int) := of_decide_eq_true (zq39)
        have q692 : x10_1 < (l2.length : Int) := of_decide_eq_true (zq39)
        obtain ⟨ad692, A692_0, c692_0, A692_1, c692_1, A692_2, c692_2, e692, hx692_0, hx692_1, hx692_2, hl692_0, hi692_0, hl692_1, hi692_1, hl692_2, hi692_2⟩ := at_T26 HR2.out x10_1 p692 q692
        have hw692_2 := hx692_2
        have hw692_1 := hx692_1
        have hw692_0 := hx692_0
        obtain rfl : ad691 = ad692 := (by injection e692)
        replace hx692_0 := (HB.out.cell (World.block_lt_of_cell? w _ hx692_0)).trans hx692_0
        replace hx692_1 := (HB.out.cell (World.block_lt_of_cell? w _ hx692_1)).trans hx692_1
        replace hx692_2 := (HB.out.cell (World.block_lt_of_cell? w _ hx692_2)).trans hx692_2
        have HR692_0 := Aside0.mk hi692_0
        have HC692_0 := Aside0.mk hl692_0
        clear hi692_0 hl692_0
        have HR692_1 := Aside0.mk hi692_1
        have HC692_1 := Aside0.mk hl692_1
        clear hi692_1 hl692_1
        have HR692_2 := Aside0.mk hi692_2
        have HC692_2 := Aside0.mk hl692_2
        clear hi692_2 hl692_2
        replace p692 := eq_true p692
        replace q692 := eq_true q692
        have ea_ := Option.some.inj (hx691_0.symm.trans hx692_0)
        injection ea_ with ea_ en_ ec_
        subst ea_
        subst ec_
        clear en_
        have ea_ := Option.some.inj (hx691_1.symm.trans hx692_1)
        injection ea_ with ea_ en_ ec_
        subst ea_
        subst ec_
        clear en_
        have ea_ := Option.some.inj (hx691_2.symm.trans hx692_2)
        injection ea_ with ea_ en_ ec_
        subst ea_
        subst ec_
        clear en_
        refine start_ (n := 44) (S := fun w' => w'.cell? (ad691.add ((x10_1).toNat * 3)) = some (.slice A691_0 ((rd_T26 l2 x10_1).f0).length c691_0) ∧ w'.cell? ⟨(ad691.add ((x10_1).toNat * 3)).block, (ad691.add ((x10_1).toNat * 3)).off + 1, none⟩ = some (.slice A691_1 ((rd_T26 l2 x10_1).f1).length c691_1) ∧ w'.cell? ⟨(ad691.add ((x10_1).toNat * 3)).block, (ad691.add ((x10_1).toNat * 3)).off + 2, none⟩ = some (.slice A691_2 ((rd_T26 l2 x10_1).f2).length c691_2) ∧ w'.cell? (ad691.add ((x10_1).toNat * 3)) = some (.slice A691_0 ((rd_T26 l2 x10_1).f0).length c691_0) ∧ w'.cell? ⟨(ad691.add ((x10_1).toNat * 3)).block, (ad691.add ((x10_1).toNat * 3)).off + 1, none⟩ = some (.slice A691_1 ((rd_T26 l2 x10_1).f1).length c691_1) ∧ w'.cell? ⟨(ad691.add ((x10_1).toNat * 3)).block, (ad691.add ((x10_1).toNat * 3)).off + 2, none⟩ = some (.slice A691_2 ((rd_T26 l2 x10_1).f2).length c691_2)) (ds := []) ba8_0 (zq47) rfl rfl ⟨((HB.out.cell (World.block_lt_of_cell? w _ hw691_0)).trans hw691_0), ((HB.out.cell (World.block_lt_of_cell? w _ hw691_1)).trans hw691_1), ((HB.out.cell (World.block_lt_of_cell? w _ hw691_2)).trans hw691_2), ((HB.out.cell (World.block_lt_of_cell? w _ hw692_0)).trans hw692_0), ((HB.out.cell (World.block_lt_of_cell? w _ hw692_1)).trans hw692_1), ((HB.out.cell (World.block_lt_of_cell? w _ hw692_2)).trans hw692_2)⟩ (fun hHeld => ?_); refine with_tabW trefoilref22_Wrong.tab7 trefoilref22_Wrong.bits7 (fun HT_ HW_ => ?_)
        generalize wr.drew = w23 at BK685 HB HR691_0 HR691_1 HR691_2 HR692_0 HR692_1 HR692_2 hx691_0 hx691_1 hx691_2 hx692_0 hx692_1 hx692_2 hHeld ⊢
        refine pure_ (i := 0) (N := some 34) (v := ?_) (a' := ?_) ba8_1 rfl rfl (any_of HT_.out (zq47)) (fun _ _ _ h => h) (Or.inl ⟨by rfl, ?_⟩) ?_ ?_; rotate_left; exact zs0; rotate_left; exact zs1
        refine pure_ (i := 1) (N := some 35) (v := ?_) (a' := ?_) ba8_2 rfl rfl (any_of HT_.out (zq47)) (fun _ _ _ h => h) (Or.inl ⟨by rfl, ?_⟩) ?_ ?_; rotate_left; exact zs0; rotate_left; exact zs1
        refine pure_ (i := 2) (N := some 36) (v := ?_) (a' := ?_) ba8_3 rfl rfl (any_of HT_.out (zq47)) (fun _ _ _ h => h) (Or.inl ⟨by rfl, ?_⟩) ?_ ?_; rotate_left; exact zs0; rotate_left; exact zs1
        refine pure_ (i := 3) (N := some 37) (v := ?_) (a' := ?_) ba8_4 rfl rfl (any_of HT_.out (zq47)) (fun _ _ _ h => h) (Or.inl ⟨by rfl, ?_⟩) ?_ ?_; rotate_left; exact zs0; rotate_left; exact zs1
        refine pure_ (i := 6) (N := some 40) (v := ?_) (a' := ?_) ba8_5 rfl rfl (any_of HT_.out (zq47)) (fun _ _ _ h => h) (Or.inl ⟨by rfl, ?_⟩) ?_ ?_; rotate_left; exact zs0; rotate_left; exact zs1
        refine pure_ (i := 7) (N := some 41) (v := ?_) (a' := ?_) ba8_6 rfl rfl (any_of HT_.out (zq47)) (fun _ _ _ h => h) (Or.inl ⟨by rfl, ?_⟩) ?_ ?_; rotate_left; exact zs0; rotate_left; exact zs1
        refine pure_ (i := 8) (N := some 42) (v := ?_) (a' := ?_) ba8_7 rfl rfl (any_of HT_.out (zq47)) (fun _ _ _ h => h) (Or.inl ⟨by rfl, ?_⟩) ?_ ?_; rotate_left; exact zs0; rotate_left; exact zs1
        refine take_ (i := 4) (N := some 38) (v := ?_) (a' := ?_) ba8_8 rfl rfl (take_ofW HT_.out HW_.out (zq47)) (fun _ _ _ h => h) (Or.inl ⟨by rfl, ?_⟩) hHeld ?_ ?_
        rotate_left
        ·rintro w' ⟨s0, s1, s2, s3, s4, s5⟩
         go_simp
         with_reducible rfl
        rotate_left
        exact zs1
        refine pure_ (i := 5) (N := some 39) (v := ?_) (a' := ?_) ba8_9 rfl rfl (any_of HT_.out (zq47)) (fun _ _ _ h => h) (Or.inl ⟨by rfl, ?_⟩) ?_ ?_; rotate_left; exact zs0; rotate_left; exact zs1
        refine pure_ (i := 9) (N := some 43) (v := ?_) (a' := ?_) ba8_10 rfl rfl (any_of HT_.out (zq47)) (fun _ _ _ h => h) (Or.inl ⟨by rfl, ?_⟩) ?_ ?_; rotate_left; exact zs0; rotate_left; exact zs1
        refine pure_ (i := 10) (N := some 44) (v := ?_) (a' := ?_) ba8_11 rfl rfl (any_of HT_.out (zq47)) (fun _ _ _ h => h) (Or.inl ⟨by rfl, ?_⟩) ?_ ?_; rotate_left; exact zs0; rotate_left; exact zs1
        refine pure_ (i := 11) (N := some 45) (v := ?_) (a' := ?_) ba8_12 rfl rfl (any_of HT_.out (zq47)) (fun _ _ _ h => h) (Or.inl ⟨by rfl, ?_⟩) ?_ ?_; rotate_left; exact zs0; rotate_left; exact zs1
        refine pure_ (i := 12) (N := some 46) (v := ?_) (a' := ?_) ba8_13 rfl rfl (any_of HT_.out (zq47)) (fun _ _ _ h => h) (Or.inl ⟨by rfl, ?_⟩) ?_ ?_; rotate_left; exact zs0; rotate_left; exact zs1
        refine pure_ (i := 13) (N := some 47) (v := ?_) (a' := ?_) ba8_14 rfl rfl (any_of HT_.out (zq47)) (fun _ _ _ h => h) (Or.inl ⟨by rfl, ?_⟩) ?_ ?_; rotate_left; exact zs0; rotate_left; exact zs1
        refine pure_ (i := 14) (N := some 48) (v := ?_) (a' := ?_) ba8_15 rfl rfl (any_of HT_.out (zq47)) (fun _ _ _ h => h) (Or.inl ⟨by rfl, ?_⟩) ?_ ?_; rotate_left; exact zs0; rotate_left; exact zs1
        refine pure_ (i := 17) (N := some 51) (v := ?_) (a' := ?_) ba8_16 rfl rfl (any_of HT_.out (zq47)) (fun _ _ _ h => h) (Or.inl ⟨by rfl, ?_⟩) ?_ ?_; rotate_left; exact zs0; rotate_left; exact zs1
        refine pure_ (i := 18) (N := some 52) (v := ?_) (a' := ?_) ba8_17 rfl rfl (any_of HT_.out (zq47)) (fun _ _ _ h => h) (Or.inl ⟨by rfl, ?_⟩) ?_ ?_; rotate_left; exact zs0; rotate_left; exact zs1
        refine pure_ (i := 19) (N := some 53) (v := ?_) (a' := ?_) ba8_18 rfl rfl (any_of HT_.out (zq47)) (fun _ _ _ h => h) (Or.inl ⟨by rfl, ?_⟩) ?_ ?_; rotate_left; exact zs0; rotate_left; exact zs1
        refine take_ (i := 15) (N := some 49) (v := ?_) (a' := ?_) ba8_19 rfl rfl (take_ofW HT_.out HW_.out (zq47)) (fun _ _ _ h => h) (Or.inl ⟨by rfl, ?_⟩) hHeld ?_ ?_
        rotate_left
        ·rintro w' ⟨s0, s1, s2, s3, s4, s5⟩
         go_simp
         with_reducible rfl
        rotate_left
        exact zs1
        refine pure_ (i := 16) (N := some 50) (v := ?_) (a' := ?_) ba8_20 rfl rfl (any_of HT_.out (zq47)) (fun _ _ _ h => h) (Or.inl ⟨by rfl, ?_⟩) ?_ ?_; rotate_left; exact zs0; rotate_left; exact zs1
        refine pure_ (i := 20) (N := some 54) (v := ?_) (a' := ?_) ba8_21 rfl rfl (any_of HT_.out (zq47)) (fun _ _ _ h => h) (Or.inl ⟨by rfl, ?_⟩) ?_ ?_; rotate_left; exact zs0; rotate_left; exact zs1
        refine pure_ (i := 21) (N := some 55) (v := ?_) (a' := ?_) ba8_22 rfl rfl (any_of HT_.out (zq47)) (fun _ _ _ h => h) (Or.inl ⟨by rfl, ?_⟩) ?_ ?_; rotate_left; exact zs0; rotate_left; exact zs1
        refine pure_ (i := 22) (N := some 56) (v := ?_) (a' := ?_) ba8_23 rfl rfl (any_of HT_.out (zq47)) (fun _ _ _ h => h) (Or.inl ⟨by rfl, ?_⟩) ?_ ?_; rotate_left; exact zs0; rotate_left; exact zs1
        refine pure_ (i := 23) (N := some 57) (v := undef) (a' := ?_) ba8_24 rfl rfl (any_of HT_.out (zq47)) (fun _ _ _ h => h) (Or.inr ⟨by rfl, rfl⟩) ?_ ?_
        rotate_left
        exact zs1
        refine pure_ (i := 24) (N := some 58) (v := undef) (a' := ?_) ba8_29 rfl rfl (any_of HT_.out (zq47)) (fun _ _ _ h => h) (Or.inr ⟨by rfl, rfl⟩) ?_ ?_
        rotate_left
        exact zs1
        refine pure_ (i := 25) (N := some 59) (v := undef) (a' := ?_) ba8_30 rfl rfl (any_of HT_.out (zq47)) (fun _ _ _ h => h) (Or.inr ⟨by rfl, rfl⟩) ?_ ?_
        rotate_left
        exact zs1
        refine pure_ (i := 26) (N := some 60) (v := undef) (a' := ?_) ba8_31 rfl rfl (any_of HT_.out (zq47)) (fun _ _ _ h => h) (Or.inr ⟨by rfl, rfl⟩) ?_ ?_
        rotate_left
        exact zs1
        refine pure_ (i := 27) (N := some 61) (v := undef) (a' := ?_) ba8_32 rfl rfl (any_of HT_.out (zq47)) (fun _ _ _ h => h) (Or.inr ⟨by rfl, rfl⟩) ?_ ?_
        rotate_left
        exact zs1
        refine pure_ (i := 28) (N := some 62) (v := undef) (a' := ?_) ba8_33 rfl rfl (any_of HT_.out (zq47)) (fun _ _ _ h => h) (Or.inr ⟨by rfl, rfl⟩) ?_ ?_
        rotate_left
        exact zs1
        refine pure_ (i := 29) (N := some 63) (v := undef) (a' := ?_) ba8_34 rfl rfl (any_of HT_.out (zq47)) (fun _ _ _ h => h) (Or.inr ⟨by rfl, rfl⟩) ?_ ?_
        rotate_left
        exact zs1
        refine pure_ (i := 30) (N := some 64) (v := undef) (a' := ?_) ba8_35 rfl rfl (any_of HT_.out (zq47)) (fun _ _ _ h => h) (Or.inr ⟨by rfl, rfl⟩) ?_ ?_
        rotate_left
        exact zs1
        refine pure_ (i := 31) (N := some 65) (v := undef) (a' := ?_) ba8_36 rfl rfl (any_of HT_.out (zq47)) (fun _ _ _ h => h) (Or.inr ⟨by rfl, rfl⟩) ?_ ?_
        rotate_left
        exact zs1
        refine pure_ (i := 32) (N := some 66) (v := ?_) (a' := ?_) ba8_37 rfl rfl (any_of HT_.out (zq47)) (fun _ _ _ h => h) (Or.inl ⟨by rfl, ?_⟩) ?_ ?_; rotate_left; exact zs0; rotate_left; exact zs1
        refine pure_ (i := 33) (N := some 67) (v := ?_) (a' := ?_) ba8_38 rfl rfl (any_of HT_.out (zq47)) (fun _ _ _ h => h) (Or.inl ⟨by rfl, ?_⟩) ?_ ?_; rotate_left; exact zs0; rotate_left; exact zs1
        refine pure_ (i := 34) (N := some 68) (v := undef) (a' := ?_) ba8_39 rfl rfl (any_of HT_.out (zq47)) (fun _ _ _ h => h) (Or.inr ⟨by rfl, rfl⟩) ?_ ?_
        rotate_left
        exact zs1
        refine pure_ (i := 35) (N := some 69) (v := undef) (a' := ?_) ba8_44 rfl rfl (any_of HT_.out (zq47)) (fun _ _ _ h => h) (Or.inr ⟨by rfl, rfl⟩) ?_ ?_
        rotate_left
        exact zs1
        refine pure_ (i := 36) (N := some 70) (v := undef) (a' := ?_) ba8_45 rfl rfl (any_of HT_.out (zq47)) (fun _ _ _ h => h) (Or.inr ⟨by rfl, rfl⟩) ?_ ?_
        rotate_left
        exact zs1
        refine pure_ (i := 37) (N := some 71) (v := undef) (a' := ?_) ba8_46 rfl rfl (any_of HT_.out (zq47)) (fun _ _ _ h => h) (Or.inr ⟨by rfl, rfl⟩) ?_ ?_
        rotate_left
        exact zs1
        refine pure_ (i := 38) (N := some 72) (v := undef) (a' := ?_) ba8_47 rfl rfl (any_of HT_.out (zq47)) (fun _ _ _ h => h) (Or.inr ⟨by rfl, rfl⟩) ?_ ?_
        rotate_left
        exact zs1
        refine pure_ (i := 39) (N := some 73) (v := undef) (a' := ?_) ba8_48 rfl rfl (any_of HT_.out (zq47)) (fun _ _ _ h => h) (Or.inr ⟨by rfl, rfl⟩) ?_ ?_
        rotate_left
        exact zs1
        refine pure_ (i := 40) (N := some 74) (v := undef) (a' := ?_) ba8_49 rfl rfl (any_of HT_.out (zq47)) (fun _ _ _ h => h) (Or.inr ⟨by rfl, rfl⟩) ?_ ?_
        rotate_left
        exact zs1
        refine pure_ (i := 41) (N := some 75) (v := undef) (a' := ?_) ba8_50 rfl rfl (any_of HT_.out (zq47)) (fun _ _ _ h => h) (Or.inr ⟨by rfl, rfl⟩) ?_ ?_
        rotate_left
        exact zs1
        refine pure_ (i := 42) (N := some 76) (v := undef) (a' := ?_) ba8_51 rfl rfl (any_of HT_.out (zq47)) (fun _ _ _ h => h) (Or.inr ⟨by rfl, rfl⟩) ?_ ?_
        rotate_left
        exact zs1
        refine pure_ (i := 43) (N := some 77) (v := ?_) (a' := ?_) ba8_52 rfl rfl (any_of HT_.out (zq47)) (fun _ _ _ h => h) (Or.inl ⟨by rfl, ?_⟩) ?_ ?_; rotate_left; exact zs0; rotate_left; exact zs1
        refine done_ (done_of HT_.out (zq47)) ?_
        try go_wp2
        go_ret
        exact ⟨zq37, zq20⟩
      ·rw [if_neg c14] at H
       have c14b0 : ((((rd_T26 l2 x10_1).f0).length : Int) == (wrap64 (t688 * t689))) = false := beq_eq_false_iff_ne.mpr c14
       have c14b1 : ((((rd_T26 l2 x10_1).f0).length : Int) != (wrap64 (t688 * t689))) = true := bne_iff_ne.mpr c14
       obtain rfl := Option.some.inj H
       try go_wp2
       have n0_ := Aside0.mk (blk_drew BK685.out)
       have n1_ := Aside0.mk (below_drew1 HB.out)
       clear BK685
       clear HB
       have BK685 := n0_
       have HB := n1_
       clear n0_ n1_
       have p691 : 0 ≤ (x10_1 : Int) := of_decide_eq_true (zq39)
       have q691 : x10_1 < (l2.length : Int) := of_decide_eq_true (zq39)
       obtain ⟨ad691, A691_0, c691_0, A691_1, c691_1, A691_2, c691_2, e691, hx691_0, hx691_1, hx691_2, hl691_0, hi691_0, hl691_1, hi691_1, hl691_2, hi691_2⟩ := at_T26 HR2.out x10_1 p691 q691
       have hw691_2 := hx691_2
       have hw691_1 := hx691_1
       have hw691_0 := hx691_0
       cases e691
       replace hx691_0 := (HB.out.cell (World.block_lt_of_cell? w _ hx691_0)).trans hx691_0
       replace hx691_1 := (HB.out.cell (World.block_lt_of_cell? w _ hx691_1)).trans hx691_1
       replace hx691_2 := (HB.out.cell (World.block_lt_of_cell? w _ hx691_2)).trans hx691_2
       have HR691_0 := Aside0.mk hi691_0
       have HC691_0 := Aside0.mk hl691_0
       clear hi691_0 hl691_0
       have HR691_1 := Aside0.mk hi691_1
       have HC691_1 := Aside0.mk hl691_1
       clear hi691_1 hl691_1
       have HR691_2 := Aside0.mk hi691_2
       have HC691_2 := Aside0.mk hl691_2
       clear hi691_2 hl691_2
       replace p691 := eq_true p691
       replace q691 := eq_true q691
       refine start_ (n := 44) (S := fun w' => w'.cell? (ad691.add ((x10_1).toNat * 3)) = some (.slice A691_0 ((rd_T26 l2 x10_1).f0).length c691_0) ∧ w'.cell? ⟨(ad691.add ((x10_1).toNat * 3)).block, (ad691.add ((x10_1).toNat * 3)).off + 1, none⟩ = some (.slice A691_1 ((rd_T26 l2 x10_1).f1).length c691_1) ∧ w'.cell? ⟨(ad691.add ((x10_1).toNat * 3)).block, (ad691.add ((x10_1).toNat * 3)).off + 2, none⟩ = some (.slice A691_2 ((rd_T26 l2 x10_1).f2).length c691_2)) (ds := []) ba8_0 (zq47) rfl rfl ⟨((HB.out.cell (World.block_lt_of_cell? w _ hw691_0)).trans hw691_0), ((HB.out.cell (World.block_lt_of_cell? w _ hw691_1)).trans hw691_1), ((HB.out.cell (World.block_lt_of_cell? w _ hw691_2)).trans hw691_2)⟩ (fun hHeld => ?_); refine with_tabW trefoilref22_Wrong.tab7 trefoilref22_Wrong.bits7 (fun HT_ HW_ => ?_)
       generalize wr.drew = w24 at BK685 HB HR691_0 HR691_1 HR691_2 hx691_0 hx691_1 hx691_2 hHeld ⊢
       refine pure_ (i := 0) (N := some 34) (v := ?_) (a' := ?_) ba8_1 rfl rfl (any_of HT_.out (zq47)) (fun _ _ _ h => h) (Or.inl ⟨by rfl, ?_⟩) ?_ ?_; rotate_left; exact zs0; rotate_left; exact zs1
       refine pure_ (i := 1) (N := some 35) (v := ?_) (a' := ?_) ba8_2 rfl rfl (any_of HT_.out (zq47)) (fun _ _ _ h => h) (Or.inl ⟨by rfl, ?_⟩) ?_ ?_; rotate_left; exact zs0; rotate_left; exact zs1
       refine pure_ (i := 2) (N := some 36) (v := ?_) (a' := ?_) ba8_3 rfl rfl (any_of HT_.out (zq47)) (fun _ _ _ h => h) (Or.inl ⟨by rfl, ?_⟩) ?_ ?_; rotate_left; exact zs0; rotate_left; exact zs1
       refine pure_ (i := 3) (N := some 37) (v := ?_) (a' := ?_) ba8_4 rfl rfl (any_of HT_.out (zq47)) (fun _ _ _ h => h) (Or.inl ⟨by rfl, ?_⟩) ?_ ?_; rotate_left; exact zs0; rotate_left; exact zs1
       refine pure_ (i := 6) (N := some 40) (v := ?_) (a' := ?_) ba8_5 rfl rfl (any_of HT_.out (zq47)) (fun _ _ _ h => h) (Or.inl ⟨by rfl, ?_⟩) ?_ ?_; rotate_left; exact zs0; rotate_left; exact zs1
       refine pure_ (i := 7) (N := some 41) (v := ?_) (a' := ?_) ba8_6 rfl rfl (any_of HT_.out (zq47)) (fun _ _ _ h => h) (Or.inl ⟨by rfl, ?_⟩) ?_ ?_; rotate_left; exact zs0; rotate_left; exact zs1
       refine pure_ (i := 8) (N := some 42) (v := ?_) (a' := ?_) ba8_7 rfl rfl (any_of HT_.out (zq47)) (fun _ _ _ h => h) (Or.inl ⟨by rfl, ?_⟩) ?_ ?_; rotate_left; exact zs0; rotate_left; exact zs1
       refine take_ (i := 4) (N := some 38) (v := ?_) (a' := ?_) ba8_8 rfl rfl (take_ofW HT_.out HW_.out (zq47)) (fun _ _ _ h => h) (Or.inl ⟨by rfl, ?_⟩) hHeld ?_ ?_
       rotate_left
       ·rintro w' ⟨s0, s1, s2⟩
        go_simp
        with_reducible rfl
       rotate_left
       exact zs1
       refine pure_ (i := 5) (N := some 39) (v := ?_) (a' := ?_) ba8_9 rfl rfl (any_of HT_.out (zq47)) (fun _ _ _ h => h) (Or.inl ⟨by rfl, ?_⟩) ?_ ?_; rotate_left; exact zs0; rotate_left; exact zs1
       refine pure_ (i := 9) (N := some 43) (v := ?_) (a' := ?_) ba8_10 rfl rfl (any_of HT_.out (zq47)) (fun _ _ _ h => h) (Or.inl ⟨by rfl, ?_⟩) ?_ ?_; rotate_left; exact zs0; rotate_left; exact zs1
       refine pure_ (i := 10) (N := some 44) (v := ?_) (a' := ?_) ba8_11 rfl rfl (any_of HT_.out (zq47)) (fun _ _ _ h => h) (Or.inl ⟨by rfl, ?_⟩) ?_ ?_; rotate_left; exact zs0; rotate_left; exact zs1
       refine pure_ (i := 11) (N := some 45) (v := undef) (a' := ?_) ba8_12 rfl rfl (any_of HT_.out (zq47)) (fun _ _ _ h => h) (Or.inr ⟨by rfl, rfl⟩) ?_ ?_
       rotate_left
       exact zs1
       refine pure_ (i := 12) (N := some 46) (v := undef) (a' := ?_) ba8_13 rfl rfl (any_of HT_.out (zq47)) (fun _ _ _ h => h) (Or.inr ⟨by rfl, rfl⟩) ?_ ?_
       rotate_left
       exact zs1
       refine pure_ (i := 13) (N := some 47) (v := undef) (a' := ?_) ba8_14 rfl rfl (any_of HT_.out (zq47)) (fun _ _ _ h => h) (Or.inr ⟨by rfl, rfl⟩) ?_ ?_
       rotate_left
       exact zs1
       refine pure_ (i := 14) (N := some 48) (v := undef) (a' := ?_) ba8_15 rfl rfl (any_of HT_.out (zq47)) (fun _ _ _ h => h) (Or.inr ⟨by rfl, rfl⟩) ?_ ?_
       rotate_left
       exact zs1
       refine pure_ (i := 15) (N := some 49) (v := undef) (a' := ?_) #[true, true, true, true, true, true, true, true, true, true, true, true, true, true, true, true, false, false, false, false, false, false, false, false, false, false, false, false, false, false, false, false, false, false, false, false, false, false, false, false, false, false, false, false] rfl rfl (any_of HT_.out (zq47)) (fun _ _ _ h => h) (Or.inr ⟨by rfl, rfl⟩) ?_ ?_
       rotate_left
       exact zs1
       refine pure_ (i := 16) (N := some 50) (v := undef) (a' := ?_) #[true, true, true, true, true, true, true, true, true, true, true, true, true, true, true, true, true, false, false, false, false, false, false, false, false, false, false, false, false, false, false, false, false, false, false, false, false, false, false, false, false, false, false, false] rfl rfl (any_of HT_.out (zq47)) (fun _ _ _ h => h) (Or.inr ⟨by rfl, rfl⟩) ?_ ?_
       rotate_left
       exact zs1
       refine pure_ (i := 17) (N := some 51) (v := undef) (a' := ?_) #[true, true, true, true, true, true, true, true, true, true, true, true, true, true, true, true, true, true, false, false, false, false, false, false, false, false, false, false, false, false, false, false, false, false, false, false, false, false, false, false, false, false, false, false] rfl rfl (any_of HT_.out (zq47)) (fun _ _ _ h => h) (Or.inr ⟨by rfl, rfl⟩) ?_ ?_
       rotate_left
       exact zs1
       refine pure_ (i := 18) (N := some 52) (v := undef) (a' := ?_) #[true, true, true, true, true, true, true, true, true, true, true, true, true, true, true, true, true, true, true, false, false, false, false, false, false, false, false, false, false, false, false, false, false, false, false, false, false, false, false, false, false, false, false, false] rfl rfl (any_of HT_.out (zq47)) (fun _ _ _ h => h) (Or.inr ⟨by rfl, rfl⟩) ?_ ?_
       rotate_left
       exact zs1
       refine pure_ (i := 19) (N := some 53) (v := undef) (a' := ?_) ba8_20 rfl rfl (any_of HT_.out (zq47)) (fun _ _ _ h => h) (Or.inr ⟨by rfl, rfl⟩) ?_ ?_
       rotate_left
       exact zs1
       refine pure_ (i := 20) (N := some 54) (v := undef) (a' := ?_) ba8_21 rfl rfl (any_of HT_.out (zq47)) (fun _ _ _ h => h) (Or.inr ⟨by rfl, rfl⟩) ?_ ?_
       rotate_left
       exact zs1
       refine pure_ (i := 21) (N := some 55) (v := ?_) (a' := ?_) ba8_22 rfl rfl (any_of HT_.out (zq47)) (fun _ _ _ h => h) (Or.inl ⟨by rfl, ?_⟩) ?_ ?_; rotate_left; exact zs0; rotate_left; exact zs1
       refine pure_ (i := 22) (N := some 56) (v := ?_) (a' := ?_) ba8_23 rfl rfl (any_of HT_.out (zq47)) (fun _ _ _ h => h) (Or.inl ⟨by rfl, ?_⟩) ?_ ?_; rotate_left; exact zs0; rotate_left; exact zs1
       refine pure_ (i := 23) (N := some 57) (v := undef) (a' := ?_) ba8_24 rfl rfl (any_of HT_.out (zq47)) (fun _ _ _ h => h) (Or.inr ⟨by rfl, rfl⟩) ?_ ?_
       rotate_left
       exact zs1
       refine pure_ (i := 24) (N := some 58) (v := undef) (a' := ?_) ba8_29 rfl rfl (any_of HT_.out (zq47)) (fun _ _ _ h => h) (Or.inr ⟨by rfl, rfl⟩) ?_ ?_
       rotate_left
       exact zs1
       refine pure_ (i := 25) (N := some 59) (v := undef) (a' := ?_) ba8_30 rfl rfl (any_of HT_.out (zq47)) (fun _ _ _ h => h) (Or.inr ⟨by rfl, rfl⟩) ?_ ?_
       rotate_left
       exact zs1
       refine pure_ (i := 26) (N := some 60) (v := undef) (a' := ?_) ba8_31 rfl rfl (any_of HT_.out (zq47)) (fun _ _ _ h => h) (Or.inr ⟨by rfl, rfl⟩) ?_ ?_
       rotate_left
       exact zs1
       refine pure_ (i := 27) (N := some 61) (v := undef) (a' := ?_) ba8_32 rfl rfl (any_of HT_.out (zq47)) (fun _ _ _ h => h) (Or.inr ⟨by rfl, rfl⟩) ?_ ?_
       rotate_left
       exact zs1
       refine pure_ (i := 28) (N := some 62) (v := undef) (a' := ?_) ba8_33 rfl rfl (any_of HT_.out (zq47)) (fun _ _ _ h => h) (Or.inr ⟨by rfl, rfl⟩) ?_ ?_
       rotate_left
       exact zs1
       refine pure_ (i := 29) (N := some 63) (v := undef) (a' := ?_) ba8_34 rfl rfl (any_of HT_.out (zq47)) (fun _ _ _ h => h) (Or.inr ⟨by rfl, rfl⟩) ?_ ?_
       rotate_left
       exact zs1
       refine pure_ (i := 30) (N := some 64) (v := undef) (a' := ?_) ba8_35 rfl rfl (any_of HT_.out (zq47)) (fun _ _ _ h => h) (Or.inr ⟨by rfl, rfl⟩) ?_ ?_
       rotate_left
       exact zs1
       refine pure_ (i := 31) (N := some 65) (v := undef) (a' := ?_) ba8_36 rfl rfl (any_of HT_.out (zq47)) (fun _ _ _ h => h) (Or.inr ⟨by rfl, rfl⟩) ?_ ?_
       rotate_left
       exact zs1
       refine pure_ (i := 32) (N := some 66) (v := ?_) (a' := ?_) ba8_37 rfl rfl (any_of HT_.out (zq47)) (fun _ _ _ h => h) (Or.inl ⟨by rfl, ?_⟩) ?_ ?_; rotate_left; exact zs0; rotate_left; exact zs1
       refine pure_ (i := 33) (N := some 67) (v := ?_) (a' := ?_) ba8_38 rfl rfl (any_of HT_.out (zq47)) (fun _ _ _ h => h) (Or.inl ⟨by rfl, ?_⟩) ?_ ?_; rotate_left; exact zs0; rotate_left; exact zs1
       refine pure_ (i := 34) (N := some 68) (v := undef) (a' := ?_) ba8_39 rfl rfl (any_of HT_.out (zq47)) (fun _ _ _ h => h) (Or.inr ⟨by rfl, rfl⟩) ?_ ?_
       rotate_left
       exact zs1
       refine pure_ (i := 35) (N := some 69) (v := undef) (a' := ?_) ba8_44 rfl rfl (any_of HT_.out (zq47)) (fun _ _ _ h => h) (Or.inr ⟨by rfl, rfl⟩) ?_ ?_
       rotate_left
       exact zs1
       refine pure_ (i := 36) (N := some 70) (v := undef) (a' := ?_) ba8_45 rfl rfl (any_of HT_.out (zq47)) (fun _ _ _ h => h) (Or.inr ⟨by rfl, rfl⟩) ?_ ?_
       rotate_left
       exact zs1
       refine pure_ (i := 37) (N := some 71) (v := undef) (a' := ?_) ba8_46 rfl rfl (any_of HT_.out (zq47)) (fun _ _ _ h => h) (Or.inr ⟨by rfl, rfl⟩) ?_ ?_
       rotate_left
       exact zs1
       refine pure_ (i := 38) (N := some 72) (v := undef) (a' := ?_) ba8_47 rfl rfl (any_of HT_.out (zq47)) (fun _ _ _ h => h) (Or.inr ⟨by rfl, rfl⟩) ?_ ?_
       rotate_left
       exact zs1
       refine pure_ (i := 39) (N := some 73) (v := undef) (a' := ?_) ba8_48 rfl rfl (any_of HT_.out (zq47)) (fun _ _ _ h => h) (Or.inr ⟨by rfl, rfl⟩) ?_ ?_
       rotate_left
       exact zs1
       refine pure_ (i := 40) (N := some 74) (v := undef) (a' := ?_) ba8_49 rfl rfl (any_of HT_.out (zq47)) (fun _ _ _ h => h) (Or.inr ⟨by rfl, rfl⟩) ?_ ?_
       rotate_left
       exact zs1
       refine pure_ (i := 41) (N := some 75) (v := undef) (a' := ?_) ba8_50 rfl rfl (any_of HT_.out (zq47)) (fun _ _ _ h => h) (Or.inr ⟨by rfl, rfl⟩) ?_ ?_
       rotate_left
       exact zs1
       refine pure_ (i := 42) (N := some 76) (v := undef) (a' := ?_) ba8_51 rfl rfl (any_of HT_.out (zq47)) (fun _ _ _ h => h) (Or.inr ⟨by rfl, rfl⟩) ?_ ?_
       rotate_left
       exact zs1
       refine pure_ (i := 43) (N := some 77) (v := ?_) (a' := ?_) ba8_52 rfl rfl (any_of HT_.out (zq47)) (fun _ _ _ h => h) (Or.inl ⟨by rfl, ?_⟩) ?_ ?_; rotate_left; exact zs0; rotate_left; exact zs1
       refine done_ (done_of HT_.out (zq47)) ?_
       try go_wp2
       go_ret
       exact ⟨zq37, zq20⟩
     ·rw [if_neg c13] at H
      exact absurd H (by simp)
    ·rw [if_neg c12] at H
     have c12b0 : decide (x10_1 < (l2.length : Int)) = false := decide_eq_false c12
     clear c12
     obtain rfl := Option.some.inj H
     go_wp2
     go_ret
     exact ⟨zq37, zq20⟩
 ·rw [if_neg c5] at H
  have c5b0 : (t686 == 0) = false := beq_eq_false_iff_ne.mpr c5
  have c5b1 : (t686 != 0) = true := bne_iff_ne.mpr c5
  replace H := Option.bind_eq_some_iff.mp H
  obtain ⟨t687, A250, H⟩ := H
  replace H : (some t687) = some r := H
  have A25 := Aside0.mk A250
  clear A250
  obtain rfl := Option.some.inj H
  go_enter Try.func72, Try.ntmps72
  go_wp2_with (first | ((with_reducible refine gate_dst (N := 3) rfl ?_); (try (refine gate_guard (by rfl) ?_; dsimp only)); refine box_event ?hg (N := 3) ?hd (cs := #[.int .i64 a0_0, .int .i64 a0_1, .int .i64 a0_2, .int .i64 a0_3, .int .i64 a0_4]) (t := 23) ?hr ?_; (case hd => rfl); (case hg => rfl); (case hr => first | (go_simp; done) | (go_simp; rfl)); intro gb685 hg w26 hbox hb; have n0_ := Aside0.mk (below_step HB.bl hb); have n1_ := Aside0.mk (hbox); have n2_ := Aside0.mk ((zq46 : w.heap.size ≤ gb685)); have n3_ := Aside0.mk ((zq46 : w.heap.size ≤ gb685)); clear HB; have HB := n0_; have BK685 := n1_; have GW685 := n2_; have GE685 := n3_; clear n0_ n1_ n2_ n3_; clear hb hbox hg; obtain ⟨hcz27_0, hcz27_1, hcz27_2, hcz27_3, hcz27_4, hfz27_0, hfz27_1, hfz27_2, hfz27_3, hfz27_4⟩ := cells_5 BK685.out) | ((with_reducible refine gate_callee (f := 81) rfl ?_); refine goesL_ (some 15) rfl rfl Try.func81 (zq47) rfl #[.agg #[.int .i64 a0_0, .int .i64 a0_1, .int .i64 a0_2, .int .i64 a0_3, .int .i64 a0_4], .int .i64 a1, .int .i64 (l2.length : Int)] rfl (zq28) ?_; (with_reducible refine (trefoilref22_Check.calls k a0_0 a0_1 a0_2 a0_3 a0_4 a1 (l2.length : Int) t686 _ A4.out).mono ?_); rintro e w28 ⟨rfl, hb⟩; refine ⟨_, rfl, ?_⟩; replace BK685 := Aside0.mk (BK685.lk hb); replace HB := Aside0.mk (below_step HB.bl hb); (try clear hb); (try clear hb2); (try clear hk); (try clear hi); obtain ⟨hcz29_0, hcz29_1, hcz29_2, hcz29_3, hcz29_4, hfz29_0, hfz29_1, hfz29_2, hfz29_3, hfz29_4⟩ := cells_5 BK685.out) | ((with_reducible refine gate_callee (f := 81) rfl ?_); refine goesL_ (some 21) rfl rfl Try.func81 (zq47) rfl #[.agg #[.int .i64 a0_0, .int .i64 a0_1, .int .i64 a0_2, .int .i64 a0_3, .int .i64 a0_4], .int .i64 a1, .int .i64 (l2.length : Int)] rfl (zq28) ?_; (with_reducible refine (trefoilref22_Check.calls k a0_0 a0_1 a0_2 a0_3 a0_4 a1 (l2.length : Int) t687 _ A25.out).mono ?_); rintro e w30 ⟨rfl, hb⟩; refine ⟨_, rfl, ?_⟩; replace BK685 := Aside0.mk (BK685.lk hb); replace HB := Aside0.mk (below_step HB.bl hb); (try clear hb); (try clear hb2); (try clear hk); (try clear hi)))
  go_ret
  exact ⟨zq37, zq20⟩
end Go.Proofs.Ytcmaidpoolcelaa.P
