/- Functions of the program as plain Lean functions, and proofs that the machine's calls do what these do: written by a program of this workplace (wip/tools/pp.py). -/
import Derived.ChangeAlike
import Derived.Deep.RegionWith
import Derived.IntWalk
import Derived.Lib.Hide
import Derived.RegionTactic
import Derived.Test.YtcmaidpoolcelaaMcPx0
import Derived.WalkSpells
import Derived.Test.YtcmaidpoolcelaaMcK1
import Derived.Test.YtcmaidpoolcelaaMcK2
import Derived.Test.YtcmaidpoolcelaaMcK3
import Derived.Test.YtcmaidpoolcelaaMcSh
namespace Go.Proofs.Ytcmaidpoolcelaa.P
open Go.RowKit Go.Proofs.YtcmaidpoolcelaaW.PrintWords Go.Proofs.YtcmaidpoolcelaaW.PrintLast Go.Proofs.YtcmaidpoolcelaaW.PrintMore
attribute [local go_sem] max2_int min2_int max_two min_two max_three min_three max_four min_four   -- for this text's walks alone
set_option linter.unusedVariables false
set_option linter.unusedSimpArgs false

abbrev ba4_0 : Array Bool := #[false, false, false, false, false, false, false, false, false, false, false, false, false, false, false, false, false, false, false, false, false, false, false, false, false]
abbrev ba4_1 : Array Bool := #[true, false, false, false, false, false, false, false, false, false, false, false, false, false, false, false, false, false, false, false, false, false, false, false, false]
abbrev ba4_2 : Array Bool := #[true, false, true, false, false, false, false, false, false, false, false, false, false, false, false, false, false, false, false, false, false, false, false, false, false]
abbrev ba4_3 : Array Bool := #[true, false, true, true, false, false, false, false, false, false, false, false, false, false, false, false, false, false, false, false, false, false, false, false, false]
abbrev ba4_4 : Array Bool := #[true, false, true, true, true, false, false, false, false, false, false, false, false, false, false, false, false, false, false, false, false, false, false, false, false]
abbrev ba4_5 : Array Bool := #[true, false, true, true, true, true, false, false, false, false, false, false, false, false, false, false, false, false, false, false, false, false, false, false, false]
abbrev ba4_6 : Array Bool := #[true, false, true, true, true, true, false, true, false, false, false, false, false, false, false, false, false, false, false, false, false, false, false, false, false]
abbrev ba4_7 : Array Bool := #[true, false, true, true, true, true, false, true, false, true, false, false, false, false, false, false, false, false, false, false, false, false, false, false, false]
abbrev ba4_8 : Array Bool := #[true, false, true, true, true, true, false, true, false, true, false, false, true, false, false, false, false, false, false, false, false, false, false, false, false]
abbrev ba4_9 : Array Bool := #[true, false, true, true, true, true, false, true, false, true, false, false, true, false, true, false, false, false, false, false, false, false, false, false, false]
abbrev ba4_10 : Array Bool := #[true, false, true, true, true, true, false, true, false, true, false, false, true, false, true, false, true, false, false, false, false, false, false, false, false]
abbrev ba4_11 : Array Bool := #[true, true, true, true, true, true, false, true, false, true, false, false, true, false, true, false, true, false, false, false, false, false, false, false, false]
abbrev ba4_12 : Array Bool := #[true, true, true, true, true, true, true, true, false, true, false, false, true, false, true, false, true, false, false, false, false, false, false, false, false]
abbrev ba4_13 : Array Bool := #[true, true, true, true, true, true, true, true, true, true, false, false, true, false, true, false, true, false, false, false, false, false, false, false, false]
abbrev ba4_14 : Array Bool := #[true, true, true, true, true, true, true, true, true, true, true, false, true, false, true, false, true, false, false, false, false, false, false, false, false]
abbrev ba4_15 : Array Bool := #[true, true, true, true, true, true, true, true, true, true, true, false, true, true, true, false, true, false, false, false, false, false, false, false, false]
abbrev ba4_16 : Array Bool := #[true, true, true, true, true, true, true, true, true, true, true, false, true, true, true, true, true, false, false, false, false, false, false, false, false]
abbrev ba4_17 : Array Bool := #[true, true, true, true, true, true, true, true, true, true, true, false, true, true, true, true, true, true, false, false, false, false, false, false, false]
abbrev ba4_18 : Array Bool := #[true, true, true, true, true, true, true, true, true, true, true, true, true, true, true, true, true, true, false, false, false, false, false, false, false]
abbrev ba4_19 : Array Bool := #[true, true, true, true, true, true, true, true, true, true, true, true, true, true, true, true, true, true, true, false, false, false, false, false, false]
abbrev ba4_20 : Array Bool := #[true, true, true, true, true, true, true, true, true, true, true, true, true, true, true, true, true, true, true, true, false, false, false, false, false]
abbrev ba4_21 : Array Bool := #[true, true, true, true, true, true, true, true, true, true, true, true, true, true, true, true, true, true, true, true, true, false, false, false, false]
abbrev ba4_22 : Array Bool := #[true, true, true, true, true, true, true, true, true, true, true, true, true, true, true, true, true, true, true, true, true, true, false, false, false]
abbrev ba4_23 : Array Bool := #[true, true, true, true, true, true, true, true, true, true, true, true, true, true, true, true, true, true, true, true, true, true, true, false, false]
abbrev ba4_24 : Array Bool := #[true, true, true, true, true, true, true, true, true, true, true, true, true, true, true, true, true, true, true, true, true, true, true, true, false]
abbrev ba4_25 : Array Bool := #[true, true, true, true, true, true, true, true, true, true, true, true, true, true, true, true, true, true, true, true, true, true, true, true, true]

/-! ### trefoilref22_Right: function 20 -/
def trefoilref22_Right.j0 : Nat → Bool → Int → Int → Int → Int → Int → List Int → List Int → List Int → List Int → List Int → List Int → Option (Bool)
 | 0, _, _, _, _, _, _, _, _, _, _, _, _ => none
 | k + 1, x29, x290000, x290001, x290002, x290003, x290004, x291000, x291001, x291002, x292000, x292001, x292002 => if x29 = true then (some false) else ((trefoilref22_Sides.f x290000 x290001 x290002 x290003 x290004).bind fun bt294 => ((trefoilref22_Sum.f k x290001 x291000 x292000).bind fun t297 => ((trefoilref22_Sum.f k x290001 x291001 x292001).bind fun t300 => ((trefoilref03_MatMul.f k x290001 bt294.1 bt294.2.1 bt294.2.2 t297 t300).bind fun bt303 => ((trefoilref19_Fits.f k x290001 bt303.1).bind fun t307 => (if t307 = true then ((trefoilref22_Sum.f k x290001 x291002 x292002).bind fun t308 => ((trefoilref22_equal.f k bt303.1 t308).bind fun t311 => (some t311))) else (some false)))))))
def trefoilref22_Right.f (k : Nat) (a0_0 : Int) (a0_1 : Int) (a0_2 : Int) (a0_3 : Int) (a0_4 : Int) (a1 : Int) (l2_0 : List Int) (l2_1 : List Int) (l2_2 : List Int) (l3_0 : List Int) (l3_1 : List Int) (l3_2 : List Int) : Option (Bool) := if a0_0 = a1 then ((trefoilref09_Fits.f k a0_0 a0_1 a0_2 a0_3 a0_4 l2_0 l2_1 l2_2).bind fun t292 => (if t292 = true then ((trefoilref09_Fits.f k a0_0 a0_1 a0_2 a0_3 a0_4 l3_0 l3_1 l3_2).bind fun t293 => (trefoilref22_Right.j0 k (!t293) a0_0 a0_1 a0_2 a0_3 a0_4 l2_0 l2_1 l2_2 l3_0 l3_1 l3_2)) else (trefoilref22_Right.j0 k true a0_0 a0_1 a0_2 a0_3 a0_4 l2_0 l2_1 l2_2 l3_0 l3_1 l3_2))) else (trefoilref22_Right.j0 k true a0_0 a0_1 a0_2 a0_3 a0_4 l2_0 l2_1 l2_2 l3_0 l3_1 l3_2)
def trefoilref22_Right.T4 : Bool × List (List Nat × List Nat) := (true, [([], []), ([0], [0]), ([], []), ([], []), ([], []), ([], []), ([5], [5]), ([], []), ([7], [7]), ([], []), ([9], [9]), ([6, 8, 10], [6, 8, 10]), ([], []), ([12], [12]), ([], []), ([14], [14]), ([], []), ([16], [16]), ([13, 15, 17, 11], [13, 15, 17]), ([1, 2, 3, 4, 11, 18, 18], [1, 2, 3, 4, 11, 18]), ([19], [19]), ([20], [20]), ([20], [20]), ([21, 19, 0, 1, 2, 3, 4, 5, 6, 7, 8, 9, 10, 11, 12, 13, 14, 15, 16, 17, 18, 19, 20, 21], [21]), ([22, 23, 0, 1, 2, 3, 4, 5, 6, 7, 8, 9, 10, 11, 12, 13, 14, 15, 16, 17, 18, 19, 20, 21, 22, 23], [22])])
def trefoilref22_Right.B4 : List Nat := [0, 1, 0, 0, 0, 0, 32, 0, 128, 0, 512, 2016, 0, 4096, 0, 16384, 0, 65536, 262112, 524287, 1048575, 2097151, 2097151, 4194303, 16777215]
theorem trefoilref22_Right.tab4 : rtab .any (opsOf Try.f20 4) = trefoilref22_Right.T4 := by kernel_rfl
theorem trefoilref22_Right.bits4 : waitsOk trefoilref22_Right.T4.2 trefoilref22_Right.B4 = true := by kernel_rfl
set_option maxHeartbeats 8000000 in
set_option maxRecDepth 100000 in
theorem trefoilref22_Right.calls (k : Nat) (a0_0 : Int) (a0_1 : Int) (a0_2 : Int) (a0_3 : Int) (a0_4 : Int) (a1 : Int) (A2_0 : Option Addr) (c2_0 : Nat) (l2_0 : List Int) (A2_1 : Option Addr) (c2_1 : Nat) (l2_1 : List Int) (A2_2 : Option Addr) (c2_2 : Nat) (l2_2 : List Int) (A3_0 : Option Addr) (c3_0 : Nat) (l3_0 : List Int) (A3_1 : Option Addr) (c3_1 : Nat) (l3_1 : List Int) (A3_2 : Option Addr) (c3_2 : Nat) (l3_2 : List Int) (r : Bool) (w : World) (hr2_0 : Kd.C (Kd.int .u64) w A2_0 l2_0.length l2_0) (hc2_0 : l2_0.length ≤ c2_0) (hr2_1 : Kd.C (Kd.int .u64) w A2_1 l2_1.length l2_1) (hc2_1 : l2_1.length ≤ c2_1) (hr2_2 : Kd.C (Kd.int .u64) w A2_2 l2_2.length l2_2) (hc2_2 : l2_2.length ≤ c2_2) (hr3_0 : Kd.C (Kd.int .u64) w A3_0 l3_0.length l3_0) (hc3_0 : l3_0.length ≤ c3_0) (hr3_1 : Kd.C (Kd.int .u64) w A3_1 l3_1.length l3_1) (hc3_1 : l3_1.length ≤ c3_1) (hr3_2 : Kd.C (Kd.int .u64) w A3_2 l3_2.length l3_2) (hc3_2 : l3_2.length ≤ c3_2) (h : trefoilref22_Right.f k a0_0 a0_1 a0_2 a0_3 a0_4 a1 l2_0 l2_1 l2_2 l3_0 l3_1 l3_2 = some r) :
  Calls Try.prog 20 #[.agg #[.int .i64 a0_0, .int .i64 a0_1, .int .i64 a0_2, .int .i64 a0_3, .int .i64 a0_4], .int .i64 a1, .agg #[.slice A2_0 l2_0.length c2_0, .slice A2_1 l2_1.length c2_1, .slice A2_2 l2_2.length c2_2], .agg #[.slice A3_0 l3_0.length c3_0, .slice A3_1 l3_1.length c3_1, .slice A3_2 l3_2.length c3_2]] w fun e w' => e = .returned (.bool r) ∧ Below w.heap.size w w' := by
 have hu23 := Try.underlying23
 have hu26 := Try.underlying26
 have HR2_0 := Aside0.mk hr2_0
 have HC2_0 := Aside0.mk hc2_0
 clear hr2_0 hc2_0
 have HR2_1 := Aside0.mk hr2_1
 have HC2_1 := Aside0.mk hc2_1
 clear hr2_1 hc2_1
 have HR2_2 := Aside0.mk hr2_2
 have HC2_2 := Aside0.mk hc2_2
 clear hr2_2 hc2_2
 have HR3_0 := Aside0.mk hr3_0
 have HC3_0 := Aside0.mk hc3_0
 clear hr3_0 hc3_0
 have HR3_1 := Aside0.mk hr3_1
 have HC3_1 := Aside0.mk hc3_1
 clear hr3_1 hc3_1
 have HR3_2 := Aside0.mk hr3_2
 have HC3_2 := Aside0.mk hc3_2
 clear hr3_2 hc3_2
 have HB := Aside0.mk (Below.refl w.heap.size w)
 have H : (if a0_0 = a1 then ((trefoilref09_Fits.f k a0_0 a0_1 a0_2 a0_3 a0_4 l2_0 l2_1 l2_2).bind fun t292 => (if t292 = true then ((trefoilref09_Fits.f k a0_0 a0_1 a0_2 a0_3 a0_4 l3_0 l3_1 l3_2).bind fun t293 => (trefoilref22_Right.j0 k (!t293) a0_0 a0_1 a0_2 a0_3 a0_4 l2_0 l2_1 l2_2 l3_0 l3_1 l3_2)) else (trefoilref22_Right.j0 k true a0_0 a0_1 a0_2 a0_3 a0_4 l2_0 l2_1 l2_2 l3_0 l3_1 l3_2))) else (trefoilref22_Right.j0 k true a0_0 a0_1 a0_2 a0_3 a0_4 l2_0 l2_1 l2_2 l3_0 l3_1 l3_2)) = some r := h
 clear h
 have HC5 := Aside0.mk H
 clear H
 go_enter Try.func20, Try.ntmps20
 go_upto_region 1 with (first | ((with_reducible refine gate_dst (N := 4) rfl ?_); refine box_event ?hg (N := 4) ?hd (cs := #[.int .i64 a0_0, .int .i64 a0_1, .int .i64 a0_2, .int .i64 a0_3, .int .i64 a0_4]) (t := 23) ?hr ?_; (case hd => rfl); (case hg => rfl); (case hr => first | (go_simp; done) | (go_simp; rfl)); intro gb289 hg w6 hbox hb; have n0_ := Aside0.mk (below_step HB.bl hb); have n1_ := Aside0.mk (hbox); have n2_ := Aside0.mk ((zq54 : w.heap.size ≤ gb289)); have n3_ := Aside0.mk ((zq54 : w.heap.size ≤ gb289)); clear HB; have HB := n0_; have BK289 := n1_; have GW289 := n2_; have GE289 := n3_; clear n0_ n1_ n2_ n3_; clear hb hbox hg) | ((with_reducible refine gate_dst (N := 6) rfl ?_); refine box_event ?hg (N := 6) ?hd (cs := #[.slice A2_0 l2_0.length c2_0, .slice A2_1 l2_1.length c2_1, .slice A2_2 l2_2.length c2_2]) (t := 26) ?hr ?_; (case hd => rfl); (case hg => rfl); (case hr => first | (go_simp; done) | (go_simp; rfl)); intro gb290 hg w7 hbox hb; have n0_ := Aside0.mk (BK289.lk hb); have n1_ := Aside0.mk (below_step HB.bl hb); have n2_ := Aside0.mk (hbox); have n3_ := Aside0.mk ((zq54 : w.heap.size ≤ gb290)); have n4_ := Aside0.mk ((zq54 : w.heap.size ≤ gb290)); have n5_ := Aside0.mk ((by rw [hg]; exact Nat.ne_of_lt (blk_lt BK289.ld) : gb289 ≠ gb290)); have n6_ := Aside0.mk ((by rw [hg]; exact Nat.ne_of_gt (blk_lt BK289.ld) : gb290 ≠ gb289)); clear BK289; clear HB; have BK289 := n0_; have HB := n1_; have BK290 := n2_; have GW290 := n3_; have GE290 := n4_; have NB289_290 := n5_; have NB290_289 := n6_; clear n0_ n1_ n2_ n3_ n4_ n5_ n6_; clear hb hbox hg) | ((with_reducible refine gate_dst (N := 7) rfl ?_); refine box_event ?hg (N := 7) ?hd (cs := #[.slice A3_0 l3_0.length c3_0, .slice A3_1 l3_1.length c3_1, .slice A3_2 l3_2.length c3_2]) (t := 26) ?hr ?_; (case hd => rfl); (case hg => rfl); (case hr => first | (go_simp; done) | (go_simp; rfl)); intro gb291 hg w8 hbox hb; have n0_ := Aside0.mk (BK289.lk hb); have n1_ := Aside0.mk (BK290.lk hb); have n2_ := Aside0.mk (below_step HB.bl hb); have n3_ := Aside0.mk (hbox); have n4_ := Aside0.mk ((zq54 : w.heap.size ≤ gb291)); have n5_ := Aside0.mk ((zq54 : w.heap.size ≤ gb291)); have n6_ := Aside0.mk ((by rw [hg]; exact Nat.ne_of_lt (blk_lt BK289.ld) : gb289 ≠ gb291)); have n7_ := Aside0.mk ((by rw [hg]; exact Nat.ne_of_gt (blk_lt BK289.ld) : gb291 ≠ gb289)); have n8_ := Aside0.mk ((by rw [hg]; exact Nat.ne_of_lt (blk_lt BK290.ld) : gb290 ≠ gb291)); have n9_ := Aside0.mk ((by rw [hg]; exact Nat.ne_of_gt (blk_lt BK290.ld) : gb291 ≠ gb290)); clear BK289; clear BK290; clear HB; have BK289 := n0_; have BK290 := n1_; have HB := n2_; have BK291 := n3_; have GW291 := n4_; have GE291 := n5_; have NB289_291 := n6_; have NB291_289 := n7_; have NB290_291 := n8_; have NB291_290 := n9_; clear n0_ n1_ n2_ n3_ n4_ n5_ n6_ n7_ n8_ n9_; clear hb hbox hg))
 (try simp only [Act.put, List.setIfInBounds_toArray, List.set_cons_zero, List.set_cons_succ])
 go_cut [29] (fun v29 wc => ∃ (kq : Nat) (x29_4 : Bool), v29 = .bool x29_4 ∧ Aside0 (trefoilref22_Right.j0 kq x29_4 a0_0 a0_1 a0_2 a0_3 a0_4 l2_0 l2_1 l2_2 l3_0 l3_1 l3_2 = some r) ∧ Aside0 (kq ≤ k) ∧ Aside0 (wc.heap[gb289]? = some (.cells #[.int .i64 a0_0, .int .i64 a0_1, .int .i64 a0_2, .int .i64 a0_3, .int .i64 a0_4] 23 (0, 0))) ∧ Aside0 (wc.heap[gb290]? = some (.cells #[(.slice A2_0 l2_0.length c2_0), (.slice A2_1 l2_1.length c2_1), (.slice A2_2 l2_2.length c2_2)] 26 (0, 0))) ∧ Aside0 (wc.heap[gb291]? = some (.cells #[(.slice A3_0 l3_0.length c3_0), (.slice A3_1 l3_1.length c3_1), (.slice A3_2 l3_2.length c3_2)] 26 (0, 0))) ∧ Aside0 (Below w.heap.size w wc))
 case first =>
  have H := HC5.out
  clear HC5
  by_cases c9 : a0_0 = a1
  ·rw [if_pos c9] at H
   have c9b0 : (a0_0 == a1) = true := beq_iff_eq.mpr c9
   have c9b1 : (a0_0 != a1) = false := bne_eq_false_iff_eq.mpr c9
   clear c9
   (first | rw [c9b0] | (simp only [i64_w, i32_w]; rw [c9b0]) | skip)
   replace H := Option.bind_eq_some_iff.mp H
   obtain ⟨t292, A100, H⟩ := H
   replace H : (if t292 = true then ((trefoilref09_Fits.f k a0_0 a0_1 a0_2 a0_3 a0_4 l3_0 l3_1 l3_2).bind fun t293 => (trefoilref22_Right.j0 k (!t293) a0_0 a0_1 a0_2 a0_3 a0_4 l2_0 l2_1 l2_2 l3_0 l3_1 l3_2)) else (trefoilref22_Right.j0 k true a0_0 a0_1 a0_2 a0_3 a0_4 l2_0 l2_1 l2_2 l3_0 l3_1 l3_2)) = some r := H
   have A10 := Aside0.mk A100
   clear A100
   by_cases c11 : t292 = true
   ·subst c11
    have H1 : ((trefoilref09_Fits.f k a0_0 a0_1 a0_2 a0_3 a0_4 l3_0 l3_1 l3_2).bind fun t293 => (trefoilref22_Right.j0 k (!t293) a0_0 a0_1 a0_2 a0_3 a0_4 l2_0 l2_1 l2_2 l3_0 l3_1 l3_2)) = some r := by rw [if_pos rfl] at H; exact H
    clear H
    have H := H1
    clear H1
    replace H := Option.bind_eq_some_iff.mp H
    obtain ⟨t293, A120, H⟩ := H
    replace H : (trefoilref22_Right.j0 k (!t293) a0_0 a0_1 a0_2 a0_3 a0_4 l2_0 l2_1 l2_2 l3_0 l3_1 l3_2) = some r := H
    have A12 := Aside0.mk A120
    clear A120
    have H' := Aside0.mk H
    clear H
    have hnb13 := NB289_290.out
    have hnc13 := NB290_289.out
    have hnb14 := NB289_291.out
    have hnc14 := NB291_289.out
    obtain ⟨hcz15_0, hcz15_1, hcz15_2, hcz15_3, hcz15_4, hfz15_0, hfz15_1, hfz15_2, hfz15_3, hfz15_4⟩ := cells_5 BK289.out
    have hnb16 := NB290_291.out
    have hnc16 := NB291_290.out
    obtain ⟨hcz17_0, hcz17_1, hcz17_2, hfz17_0, hfz17_1, hfz17_2⟩ := cells_3 BK290.out
    go_wp2_with (first | (go_at_call 50; (with_reducible refine (trefoilref09_Fits.calls k a0_0 a0_1 a0_2 a0_3 a0_4 (fun k_ => k_ < w.heap.size) _ _ l2_0 (fun k_ => k_ < w.heap.size) _ _ l2_1 (fun k_ => k_ < w.heap.size) _ _ l2_2 true _ ?side1 ?side2 ?side3 A10.out).mono ?_); (case side1 => exact Kd.V_mk HC2_0.out (Kd.F_below (Kd.C_F (Kd.heap_int .u64) HR2_0.out) HB.bl)); (case side2 => exact Kd.V_mk HC2_1.out (Kd.F_below (Kd.C_F (Kd.heap_int .u64) HR2_1.out) HB.bl)); (case side3 => exact Kd.V_mk HC2_2.out (Kd.F_below (Kd.C_F (Kd.heap_int .u64) HR2_2.out) HB.bl)); rintro e w18 ⟨rfl, hb⟩; replace BK289 := Aside0.mk (BK289.lk hb); replace BK290 := Aside0.mk (BK290.lk hb); replace BK291 := Aside0.mk (BK291.lk hb); replace HB := Aside0.mk (below_step HB.bl hb); (try clear hb); (try clear hb2); (try clear hk); (try clear hi); obtain ⟨hcz19_0, hcz19_1, hcz19_2, hcz19_3, hcz19_4, hfz19_0, hfz19_1, hfz19_2, hfz19_3, hfz19_4⟩ := cells_5 BK289.out; obtain ⟨hcz20_0, hcz20_1, hcz20_2, hfz20_0, hfz20_1, hfz20_2⟩ := cells_3 BK291.out) | (go_at_call 50; (with_reducible refine (trefoilref09_Fits.calls k a0_0 a0_1 a0_2 a0_3 a0_4 (fun k_ => k_ < w.heap.size) _ _ l3_0 (fun k_ => k_ < w.heap.size) _ _ l3_1 (fun k_ => k_ < w.heap.size) _ _ l3_2 t293 _ ?side1 ?side2 ?side3 A12.out).mono ?_); (case side1 => exact Kd.V_mk HC3_0.out (Kd.F_below (Kd.C_F (Kd.heap_int .u64) HR3_0.out) HB.bl)); (case side2 => exact Kd.V_mk HC3_1.out (Kd.F_below (Kd.C_F (Kd.heap_int .u64) HR3_1.out) HB.bl)); (case side3 => exact Kd.V_mk HC3_2.out (Kd.F_below (Kd.C_F (Kd.heap_int .u64) HR3_2.out) HB.bl)); rintro e w21 ⟨rfl, hb⟩; replace BK289 := Aside0.mk (BK289.lk hb); replace BK290 := Aside0.mk (BK290.lk hb); replace BK291 := Aside0.mk (BK291.lk hb); replace HB := Aside0.mk (below_step HB.bl hb); (try clear hb); (try clear hb2); (try clear hk); (try clear hi)))
    go_meet
    case rel => exact ⟨_, (!t293), (zq52), H', ⟨zq53⟩, ⟨by (with_reducible repeat (first | refine blk_drewN ?_ _ | refine blk_drew ?_ | refine blk_alloc ?_ _)); exact BK289.out⟩, ⟨by (with_reducible repeat (first | refine blk_drewN ?_ _ | refine blk_drew ?_ | refine blk_alloc ?_ _)); exact BK290.out⟩, ⟨by (with_reducible repeat (first | refine blk_drewN ?_ _ | refine blk_drew ?_ | refine blk_alloc ?_ _)); exact BK291.out⟩, ⟨zq9⟩⟩
   ·replace c11 := Bool.eq_false_iff.mpr c11
    subst c11
    have H1 : (trefoilref22_Right.j0 k true a0_0 a0_1 a0_2 a0_3 a0_4 l2_0 l2_1 l2_2 l3_0 l3_1 l3_2) = some r := by rw [if_neg (show ¬ (false = true) by decide)] at H; exact H
    clear H
    have H := H1
    clear H1
    have H' := Aside0.mk H
    clear H
    have hnb22 := NB289_290.out
    have hnc22 := NB290_289.out
    have hnb23 := NB289_291.out
    have hnc23 := NB291_289.out
    obtain ⟨hcz24_0, hcz24_1, hcz24_2, hcz24_3, hcz24_4, hfz24_0, hfz24_1, hfz24_2, hfz24_3, hfz24_4⟩ := cells_5 BK289.out
    have hnb25 := NB290_291.out
    have hnc25 := NB291_290.out
    obtain ⟨hcz26_0, hcz26_1, hcz26_2, hfz26_0, hfz26_1, hfz26_2⟩ := cells_3 BK290.out
    go_wp2_with (first | (go_at_call 50; (with_reducible refine (trefoilref09_Fits.calls k a0_0 a0_1 a0_2 a0_3 a0_4 (fun k_ => k_ < w.heap.size) _ _ l2_0 (fun k_ => k_ < w.heap.size) _ _ l2_1 (fun k_ => k_ < w.heap.size) _ _ l2_2 false _ ?side1 ?side2 ?side3 A10.out).mono ?_); (case side1 => exact Kd.V_mk HC2_0.out (Kd.F_below (Kd.C_F (Kd.heap_int .u64) HR2_0.out) HB.bl)); (case side2 => exact Kd.V_mk HC2_1.out (Kd.F_below (Kd.C_F (Kd.heap_int .u64) HR2_1.out) HB.bl)); (case side3 => exact Kd.V_mk HC2_2.out (Kd.F_below (Kd.C_F (Kd.heap_int .u64) HR2_2.out) HB.bl)); rintro e w27 ⟨rfl, hb⟩; replace BK289 := Aside0.mk (BK289.lk hb); replace BK290 := Aside0.mk (BK290.lk hb); replace BK291 := Aside0.mk (BK291.lk hb); replace HB := Aside0.mk (below_step HB.bl hb); (try clear hb); (try clear hb2); (try clear hk); (try clear hi)))
    go_meet
    case rel => exact ⟨_, (true), (zq52), H', ⟨zq53⟩, ⟨by (with_reducible repeat (first | refine blk_drewN ?_ _ | refine blk_drew ?_ | refine blk_alloc ?_ _)); exact BK289.out⟩, ⟨by (with_reducible repeat (first | refine blk_drewN ?_ _ | refine blk_drew ?_ | refine blk_alloc ?_ _)); exact BK290.out⟩, ⟨by (with_reducible repeat (first | refine blk_drewN ?_ _ | refine blk_drew ?_ | refine blk_alloc ?_ _)); exact BK291.out⟩, ⟨zq9⟩⟩
  ·rw [if_neg c9] at H
   have c9b0 : (a0_0 == a1) = false := beq_eq_false_iff_ne.mpr c9
   have c9b1 : (a0_0 != a1) = true := bne_iff_ne.mpr c9
   (first | rw [c9b0] | (simp only [i64_w, i32_w]; rw [c9b0]) | skip)
   have H' := Aside0.mk H
   clear H
   have hnb28 := NB289_290.out
   have hnc28 := NB290_289.out
   have hnb29 := NB289_291.out
   have hnc29 := NB291_289.out
   obtain ⟨hcz30_0, hcz30_1, hcz30_2, hcz30_3, hcz30_4, hfz30_0, hfz30_1, hfz30_2, hfz30_3, hfz30_4⟩ := cells_5 BK289.out
   go_wp2
   go_meet
   case rel => exact ⟨_, (true), (zq52), H', ⟨zq53⟩, ⟨by (with_reducible repeat (first | refine blk_drewN ?_ _ | refine blk_drew ?_ | refine blk_alloc ?_ _)); exact BK289.out⟩, ⟨by (with_reducible repeat (first | refine blk_drewN ?_ _ | refine blk_drew ?_ | refine blk_alloc ?_ _)); exact BK290.out⟩, ⟨by (with_reducible repeat (first | refine blk_drewN ?_ _ | refine blk_drew ?_ | refine blk_alloc ?_ _)); exact BK291.out⟩, ⟨zq9⟩⟩
 case rest =>
  clear HC5
  try clear c1
  try clear c2
  try clear p2
  try clear c3
  try clear c9
  try clear c9b0
  try clear c9b1
  try clear c11
  try clear c13
  try clear c14
  try clear c16
  try clear c20
  try clear c22
  try clear c23
  try clear c25
  try clear c28
  try clear c29
  try clear hcz15_0
  try clear hcz15_1
  try clear hcz15_2
  try clear hcz15_3
  try clear hcz15_4
  try clear hcz17_0
  try clear hcz17_1
  try clear hcz17_2
  try clear hcz19_0
  try clear hcz19_1
  try clear hcz19_2
  try clear hcz19_3
  try clear hcz19_4
  try clear hcz20_0
  try clear hcz20_1
  try clear hcz20_2
  try clear hcz24_0
  try clear hcz24_1
  try clear hcz24_2
  try clear hcz24_3
  try clear hcz24_4
  try clear hcz26_0
  try clear hcz26_1
  try clear hcz26_2
  try clear hcz30_0
  try clear hcz30_1
  try clear hcz30_2
  try clear hcz30_3
  try clear hcz30_4
  try clear hfz15_0
  try clear hfz15_1
  try clear hfz15_2
  try clear hfz15_3
  try clear hfz15_4
  try clear hfz17_0
  try clear hfz17_1
  try clear hfz17_2
  try clear hfz19_0
  try clear hfz19_1
  try clear hfz19_2
  try clear hfz19_3
  try clear hfz19_4
  try clear hfz20_0
  try clear hfz20_1
  try clear hfz20_2
  try clear hfz24_0
  try clear hfz24_1
  try clear hfz24_2
  try clear hfz24_3
  try clear hfz24_4
  try clear hfz26_0
  try clear hfz26_1
  try clear hfz26_2
  try clear hfz30_0
  try clear hfz30_1
  try clear hfz30_2
  try clear hfz30_3
  try clear hfz30_4
  obtain ⟨kq, x29_4, rfl, HA, HJ4, BK289, BK290, BK291, HB⟩ := hcut
  cases kq with
  | zero => exact absurd HA.out (by simp [trefoilref22_Right.j0])
  | succ kj4 =>
   have H := HA.out
   clear HA
   simp only [trefoilref22_Right.j0] at H
   by_cases c31 : x29_4 = true
   ·subst c31
    have H1 : (some false) = some r := by rw [if_pos rfl] at H; exact H
    clear H
    have H := H1
    clear H1
    obtain rfl := Option.some.inj H
    go_wp2
    go_ret
    exact ⟨zq49, zq9⟩
   ·replace c31 := Bool.eq_false_iff.mpr c31
    subst c31
    have H1 : ((trefoilref22_Sides.f a0_0 a0_1 a0_2 a0_3 a0_4).bind fun bt294 => ((trefoilref22_Sum.f kj4 a0_1 l2_0 l3_0).bind fun t297 => ((trefoilref22_Sum.f kj4 a0_1 l2_1 l3_1).bind fun t300 => ((trefoilref03_MatMul.f kj4 a0_1 bt294.1 bt294.2.1 bt294.2.2 t297 t300).bind fun bt303 => ((trefoilref19_Fits.f kj4 a0_1 bt303.1).bind fun t307 => (if t307 = true then ((trefoilref22_Sum.f kj4 a0_1 l2_2 l3_2).bind fun t308 => ((trefoilref22_equal.f kj4 bt303.1 t308).bind fun t311 => (some t311))) else (some false))))))) = some r := by rw [if_neg (show ¬ (false = true) by decide)] at H; exact H
    clear H
    have H := H1
    clear H1
    replace H := Option.bind_eq_some_iff.mp H
    obtain ⟨⟨t294, t295, t296⟩, A320, H⟩ := H
    replace H : ((trefoilref22_Sum.f kj4 a0_1 l2_0 l3_0).bind fun t297 => ((trefoilref22_Sum.f kj4 a0_1 l2_1 l3_1).bind fun t300 => ((trefoilref03_MatMul.f kj4 a0_1 t294 t295 t296 t297 t300).bind fun bt303 => ((trefoilref19_Fits.f kj4 a0_1 bt303.1).bind fun t307 => (if t307 = true then ((trefoilref22_Sum.f kj4 a0_1 l2_2 l3_2).bind fun t308 => ((trefoilref22_equal.f kj4 bt303.1 t308).bind fun t311 => (some t311))) else (some false)))))) = some r := H
    have A32 := Aside0.mk A320
    clear A320
    replace H := Option.bind_eq_some_iff.mp H
    obtain ⟨t297, A330, H⟩ := H
    replace H : ((trefoilref22_Sum.f kj4 a0_1 l2_1 l3_1).bind fun t300 => ((trefoilref03_MatMul.f kj4 a0_1 t294 t295 t296 t297 t300).bind fun bt303 => ((trefoilref19_Fits.f kj4 a0_1 bt303.1).bind fun t307 => (if t307 = true then ((trefoilref22_Sum.f kj4 a0_1 l2_2 l3_2).bind fun t308 => ((trefoilref22_equal.f kj4 bt303.1 t308).bind fun t311 => (some t311))) else (some false))))) = some r := H
    have A33 := Aside0.mk A330
    clear A330
    replace H := Option.bind_eq_some_iff.mp H
    obtain ⟨t300, A340, H⟩ := H
    replace H : ((trefoilref03_MatMul.f kj4 a0_1 t294 t295 t296 t297 t300).bind fun bt303 => ((trefoilref19_Fits.f kj4 a0_1 bt303.1).bind fun t307 => (if t307 = true then ((trefoilref22_Sum.f kj4 a0_1 l2_2 l3_2).bind fun t308 => ((trefoilref22_equal.f kj4 bt303.1 t308).bind fun t311 => (some t311))) else (some false)))) = some r := H
    have A34 := Aside0.mk A340
    clear A340
    replace H := Option.bind_eq_some_iff.mp H
    obtain ⟨⟨t303, t304⟩, A350, H⟩ := H
    replace H : ((trefoilref19_Fits.f kj4 a0_1 t303).bind fun t307 => (if t307 = true then ((trefoilref22_Sum.f kj4 a0_1 l2_2 l3_2).bind fun t308 => ((trefoilref22_equal.f kj4 t303 t308).bind fun t311 => (some t311))) else (some false))) = some r := H
    have A35 := Aside0.mk A350
    clear A350
    replace H := Option.bind_eq_some_iff.mp H
    obtain ⟨t307, A360, H⟩ := H
    replace H : (if t307 = true then ((trefoilref22_Sum.f kj4 a0_1 l2_2 l3_2).bind fun t308 => ((trefoilref22_equal.f kj4 t303 t308).bind fun t311 => (some t311))) else (some false)) = some r := H
    have A36 := Aside0.mk A360
    clear A360
    by_cases c37 : t307 = true
    ·subst c37
     have H1 : ((trefoilref22_Sum.f kj4 a0_1 l2_2 l3_2).bind fun t308 => ((trefoilref22_equal.f kj4 t303 t308).bind fun t311 => (some t311))) = some r := by rw [if_pos rfl] at H; exact H
     clear H
     have H := H1
     clear H1
     replace H := Option.bind_eq_some_iff.mp H
     obtain ⟨t308, A380, H⟩ := H
     replace H : ((trefoilref22_equal.f kj4 t303 t308).bind fun t311 => (some t311)) = some r := H
     have A38 := Aside0.mk A380
     clear A380
     replace H := Option.bind_eq_some_iff.mp H
     obtain ⟨t311, A390, H⟩ := H
     replace H : (some t311) = some r := H
     have A39 := Aside0.mk A390
     clear A390
     obtain rfl := Option.some.inj H
     have hnb40 := NB289_290.out
     have hnc40 := NB290_289.out
     have hnb41 := NB289_291.out
     have hnc41 := NB291_289.out
     obtain ⟨hcz42_0, hcz42_1, hcz42_2, hcz42_3, hcz42_4, hfz42_0, hfz42_1, hfz42_2, hfz42_3, hfz42_4⟩ := cells_5 BK289.out
     try go_wp2_with (first | ((with_reducible refine gate_callee (f := 48) rfl ?_); refine goesL_ (some 32) rfl rfl Try.func48 (zq56) rfl #[.agg #[.int .i64 a0_0, .int .i64 a0_1, .int .i64 a0_2, .int .i64 a0_3, .int .i64 a0_4]] rfl (zq33) ?_; (with_reducible refine (trefoilref22_Sides.calls a0_0 a0_1 a0_2 a0_3 a0_4 t294 t295 t296 _ A32.out).mono ?_); rintro e w43 ⟨rfl, hb⟩; refine ⟨_, rfl, ?_⟩; replace BK289 := Aside0.mk (BK289.lk hb); replace BK290 := Aside0.mk (BK290.lk hb); replace BK291 := Aside0.mk (BK291.lk hb); replace HB := Aside0.mk (below_step HB.bl hb); (try clear hb); (try clear hb2); (try clear hk); (try clear hi)))
     have n0_ := Aside0.mk (blk_drew BK289.out)
     have n1_ := Aside0.mk (blk_drew BK290.out)
     have n2_ := Aside0.mk (blk_drew BK291.out)
     have n3_ := Aside0.mk (below_drew1 HB.out)
     clear BK289
     clear BK290
     clear BK291
     clear HB
     have BK289 := n0_
     have BK290 := n1_
     have BK291 := n2_
     have HB := n3_
     clear n0_ n1_ n2_ n3_
     refine start_ (n := 25) (S := fun w' => w'.cell? ⟨gb289, 0, none⟩ = some (.int .i64 a0_0) ∧ w'.cell? ⟨gb289, 1, none⟩ = some (.int .i64 a0_1) ∧ w'.cell? ⟨gb289, 2, none⟩ = some (.int .i64 a0_2) ∧ w'.cell? ⟨gb289, 3, none⟩ = some (.int .i64 a0_3) ∧ w'.cell? ⟨gb289, 4, none⟩ = some (.int .i64 a0_4) ∧ w'.cell? ⟨gb290, 0, none⟩ = some (.slice A2_0 l2_0.length c2_0) ∧ w'.cell? ⟨gb290, 1, none⟩ = some (.slice A2_1 l2_1.length c2_1) ∧ w'.cell? ⟨gb290, 2, none⟩ = some (.slice A2_2 l2_2.length c2_2) ∧ w'.cell? ⟨gb291, 0, none⟩ = some (.slice A3_0 l3_0.length c3_0) ∧ w'.cell? ⟨gb291, 1, none⟩ = some (.slice A3_1 l3_1.length c3_1) ∧ w'.cell? ⟨gb291, 2, none⟩ = some (.slice A3_2 l3_2.length c3_2)) (ds := []) ba4_0 (zq56) rfl rfl ⟨(blk_cell BK289.out 0).trans rfl, (blk_cell BK289.out 1).trans rfl, (blk_cell BK289.out 2).trans rfl, (blk_cell BK289.out 3).trans rfl, (blk_cell BK289.out 4).trans rfl, (blk_cell BK290.out 0).trans rfl, (blk_cell BK290.out 1).trans rfl, (blk_cell BK290.out 2).trans rfl, (blk_cell BK291.out 0).trans rfl, (blk_cell BK291.out 1).trans rfl, (blk_cell BK291.out 2).trans rfl⟩ (fun hHeld => ?_); refine with_tabW trefoilref22_Right.tab4 trefoilref22_Right.bits4 (fun HT_ HW_ => ?_)
     generalize w43.drew = w44 at BK289 BK290 BK291 HB hHeld ⊢
     refine pure_ (i := 0) (N := some 37) (v := ?_) (a' := ?_) ba4_1 rfl rfl (any_of HT_.out (zq56)) (fun _ _ _ h => h) (Or.inl ⟨by rfl, ?_⟩) ?_ ?_; rotate_left; exact zs0; rotate_left; exact zs1
     refine pure_ (i := 2) (N := some 39) (v := ?_) (a' := ?_) ba4_2 rfl rfl (any_of HT_.out (zq56)) (fun _ _ _ h => h) (Or.inl ⟨by rfl, ?_⟩) ?_ ?_; rotate_left; exact zs0; rotate_left; exact zs1
     refine pure_ (i := 3) (N := some 40) (v := ?_) (a' := ?_) ba4_3 rfl rfl (any_of HT_.out (zq56)) (fun _ _ _ h => h) (Or.inl ⟨by rfl, ?_⟩) ?_ ?_; rotate_left; exact zs0; rotate_left; exact zs1
     refine pure_ (i := 4) (N := some 41) (v := ?_) (a' := ?_) ba4_4 rfl rfl (any_of HT_.out (zq56)) (fun _ _ _ h => h) (Or.inl ⟨by rfl, ?_⟩) ?_ ?_; rotate_left; exact zs0; rotate_left; exact zs1
     refine pure_ (i := 5) (N := some 42) (v := ?_) (a' := ?_) ba4_5 rfl rfl (any_of HT_.out (zq56)) (fun _ _ _ h => h) (Or.inl ⟨by rfl, ?_⟩) ?_ ?_; rotate_left; exact zs0; rotate_left; exact zs1
     refine pure_ (i := 7) (N := some 44) (v := ?_) (a' := ?_) ba4_6 rfl rfl (any_of HT_.out (zq56)) (fun _ _ _ h => h) (Or.inl ⟨by rfl, ?_⟩) ?_ ?_; rotate_left; exact zs0; rotate_left; exact zs1
     refine pure_ (i := 9) (N := some 46) (v := ?_) (a' := ?_) ba4_7 rfl rfl (any_of HT_.out (zq56)) (fun _ _ _ h => h) (Or.inl ⟨by rfl, ?_⟩) ?_ ?_; rotate_left; exact zs0; rotate_left; exact zs1
     refine pure_ (i := 12) (N := some 49) (v := ?_) (a' := ?_) ba4_8 rfl rfl (any_of HT_.out (zq56)) (fun _ _ _ h => h) (Or.inl ⟨by rfl, ?_⟩) ?_ ?_; rotate_left; exact zs0; rotate_left; exact zs1
     refine pure_ (i := 14) (N := some 51) (v := ?_) (a' := ?_) ba4_9 rfl rfl (any_of HT_.out (zq56)) (fun _ _ _ h => h) (Or.inl ⟨by rfl, ?_⟩) ?_ ?_; rotate_left; exact zs0; rotate_left; exact zs1
     refine pure_ (i := 16) (N := some 53) (v := ?_) (a' := ?_) ba4_10 rfl rfl (any_of HT_.out (zq56)) (fun _ _ _ h => h) (Or.inl ⟨by rfl, ?_⟩) ?_ ?_; rotate_left; exact zs0; rotate_left; exact zs1
     refine take_ (i := 1) (N := some 38) (v := ?_) (a' := ?_) ba4_11 rfl rfl (take_ofW HT_.out HW_.out (zq56)) (fun _ _ _ h => h) (Or.inl ⟨by rfl, ?_⟩) hHeld ?_ ?_
     rotate_left
     ·rintro w' ⟨s0, s1, s2, s3, s4, s5, s6, s7, s8, s9, s10⟩
      go_simp
      with_reducible rfl
     rotate_left
     exact zs1
     refine take_ (i := 6) (N := some 43) (v := ?_) (a' := ?_) ba4_12 rfl rfl (take_ofW HT_.out HW_.out (zq56)) (fun _ _ _ h => h) (Or.inl ⟨by rfl, ?_⟩) hHeld ?_ ?_
     rotate_left
     ·rintro w' ⟨s0, s1, s2, s3, s4, s5, s6, s7, s8, s9, s10⟩
      go_simp
      with_reducible rfl
     rotate_left
     exact zs1
     refine take_ (i := 8) (N := some 45) (v := ?_) (a' := ?_) ba4_13 rfl rfl (take_ofW HT_.out HW_.out (zq56)) (fun _ _ _ h => h) (Or.inl ⟨by rfl, ?_⟩) hHeld ?_ ?_
     rotate_left
     ·rintro w' ⟨s0, s1, s2, s3, s4, s5, s6, s7, s8, s9, s10⟩
      go_simp
      with_reducible rfl
     rotate_left
     exact zs1
     refine take_ (i := 10) (N := some 47) (v := ?_) (a' := ?_) ba4_14 rfl rfl (take_ofW HT_.out HW_.out (zq56)) (fun _ _ _ h => h) (Or.inl ⟨by rfl, ?_⟩) hHeld ?_ ?_
     rotate_left
     ·rintro w' ⟨s0, s1, s2, s3, s4, s5, s6, s7, s8, s9, s10⟩
      go_simp
      with_reducible rfl
     rotate_left
     exact zs1
     refine take_ (i := 13) (N := some 50) (v := ?_) (a' := ?_) ba4_15 rfl rfl (take_ofW HT_.out HW_.out (zq56)) (fun _ _ _ h => h) (Or.inl ⟨by rfl, ?_⟩) hHeld ?_ ?_
     rotate_left
     ·rintro w' ⟨s0, s1, s2, s3, s4, s5, s6, s7, s8, s9, s10⟩
      go_simp
      with_reducible rfl
     rotate_left
     exact zs1
     refine take_ (i := 15) (N := some 52) (v := ?_) (a' := ?_) ba4_16 rfl rfl (take_ofW HT_.out HW_.out (zq56)) (fun _ _ _ h => h) (Or.inl ⟨by rfl, ?_⟩) hHeld ?_ ?_
     rotate_left
     ·rintro w' ⟨s0, s1, s2, s3, s4, s5, s6, s7, s8, s9, s10⟩
      go_simp
      with_reducible rfl
     rotate_left
     exact zs1
     refine take_ (i := 17) (N := some 54) (v := ?_) (a' := ?_) ba4_17 rfl rfl (take_ofW HT_.out HW_.out (zq56)) (fun _ _ _ h => h) (Or.inl ⟨by rfl, ?_⟩) hHeld ?_ ?_
     rotate_left
     ·rintro w' ⟨s0, s1, s2, s3, s4, s5, s6, s7, s8, s9, s10⟩
      go_simp
      with_reducible rfl
     rotate_left
     exact zs1
     refine one_ (i := 11) (N := some 48) ba4_18 rfl rfl (one_of HT_.out (zq56)) (by decide) (fun K hK => ?_)
     refine goes_ Try.func57 (zq56) rfl #[.int .i64 a0_1, .slice A2_0 l2_0.length c2_0, .slice A3_0 l3_0.length c3_0] (by rfl) rfl rfl (zq33) ?_
     with_reducible refine (trefoilref22_Sum.calls kj4 a0_1 _ _ l2_0 _ _ l3_0 t297 _ ?side1 ?side2 ?side3 ?side4 A33.out).mono ?_
     (case side1 => repeat (first | exact (Kd.C_below HR2_0.out HB.out) | (with_reducible refine Kd.C_alloc ?_ _) | (with_reducible refine Kd.C_drewN ?_ _) | (with_reducible refine Kd.C_drew ?_)))
     (case side2 => exact HC2_0.out)
     (case side3 => repeat (first | exact (Kd.C_below HR3_0.out HB.out) | (with_reducible refine Kd.C_alloc ?_ _) | (with_reducible refine Kd.C_drewN ?_ _) | (with_reducible refine Kd.C_drew ?_)))
     (case side4 => exact HC3_0.out)
     rintro e w45 ⟨v298, rfl, ho0, hb⟩
     refine ⟨_, rfl, ?_⟩
     have n0_ := Aside0.mk (Kd.R_lower ho0 (below_size HB.bl))
     have n1_ := Aside0.mk (BK289.lk hb)
     have n2_ := Aside0.mk (BK290.lk hb)
     have n3_ := Aside0.mk (BK291.lk hb)
     have n4_ := Aside0.mk (below_step HB.bl hb)
     clear BK289
     clear BK290
     clear BK291
     clear HB
     have HO299 := n0_
     have BK289 := n1_
     have BK290 := n2_
     have BK291 := n3_
     have HB := n4_
     clear n0_ n1_ n2_ n3_ n4_
     (try clear hb)
     (try clear hb2)
     (try clear hk)
     (try clear hi)
     (try clear ho0)
     refine hK.out _ _ ⟨(blk_cell BK289.out 0).trans rfl, (blk_cell BK289.out 1).trans rfl, (blk_cell BK289.out 2).trans rfl, (blk_cell BK289.out 3).trans rfl, (blk_cell BK289.out 4).trans rfl, (blk_cell BK290.out 0).trans rfl, (blk_cell BK290.out 1).trans rfl, (blk_cell BK290.out 2).trans rfl, (blk_cell BK291.out 0).trans rfl, (blk_cell BK291.out 1).trans rfl, (blk_cell BK291.out 2).trans rfl⟩ (fun hHeld => ?_)
     clear hK K
     refine norm_ (a' := ?_) ?_ ?_
     rotate_left
     ·show Act.put _ (some 48) _ = _
      simp only [Act.put, List.setIfInBounds_toArray, List.set_cons_zero, List.set_cons_succ, i64_w, i32_w]
      rfl
     refine one_ (i := 18) (N := some 55) ba4_19 rfl rfl (one_of HT_.out (zq56)) (by decide) (fun K hK => ?_)
     refine goes_ Try.func57 (zq56) rfl #[.int .i64 a0_1, .slice A2_1 l2_1.length c2_1, .slice A3_1 l3_1.length c3_1] (by rfl) rfl rfl (zq33) ?_
     with_reducible refine (trefoilref22_Sum.calls kj4 a0_1 _ _ l2_1 _ _ l3_1 t300 _ ?side1 ?side2 ?side3 ?side4 A34.out).mono ?_
     (case side1 => repeat (first | exact (Kd.C_below HR2_1.out HB.out) | (with_reducible refine Kd.C_alloc ?_ _) | (with_reducible refine Kd.C_drewN ?_ _) | (with_reducible refine Kd.C_drew ?_)))
     (case side2 => exact HC2_1.out)
     (case side3 => repeat (first | exact (Kd.C_below HR3_1.out HB.out) | (with_reducible refine Kd.C_alloc ?_ _) | (with_reducible refine Kd.C_drewN ?_ _) | (with_reducible refine Kd.C_drew ?_)))
     (case side4 => exact HC3_1.out)
     rintro e w46 ⟨v301, rfl, ho0, hb⟩
     refine ⟨_, rfl, ?_⟩
     have n0_ := Aside0.mk (Kd.R_elder' HO299.r (Kd.R_base ho0) hb)
     have n1_ := Aside0.mk (Kd.R_lower (Kd.R_new' ho0 (Kd.R_lt HO299.r)) (below_size HB.bl))
     have n2_ := Aside0.mk (BK289.lk hb)
     have n3_ := Aside0.mk (BK290.lk hb)
     have n4_ := Aside0.mk (BK291.lk hb)
     have n5_ := Aside0.mk (below_step HB.bl hb)
     clear HO299
     clear BK289
     clear BK290
     clear BK291
     clear HB
     have HO299 := n0_
     have HO302 := n1_
     have BK289 := n2_
     have BK290 := n3_
     have BK291 := n4_
     have HB := n5_
     clear n0_ n1_ n2_ n3_ n4_ n5_
     (try clear hb)
     (try clear hb2)
     (try clear hk)
     (try clear hi)
     (try clear ho0)
     obtain ⟨Ao47, co47, eo47⟩ := Kd.R_slice HO299.out
     (first | subst eo47 | (injection eo47 with f1_ f2_ f3_; have f4_ := f1_.symm; have f5_ := f3_.symm; clear f1_ f2_ f3_; subst f4_; subst f5_))
     obtain ⟨Ao48, co48, eo48⟩ := Kd.R_slice HO302.out
     (first | subst eo48 | (injection eo48 with f1_ f2_ f3_; have f4_ := f1_.symm; have f5_ := f3_.symm; clear f1_ f2_ f3_; subst f4_; subst f5_))
     refine hK.out _ _ ⟨(blk_cell BK289.out 0).trans rfl, (blk_cell BK289.out 1).trans rfl, (blk_cell BK289.out 2).trans rfl, (blk_cell BK289.out 3).trans rfl, (blk_cell BK289.out 4).trans rfl, (blk_cell BK290.out 0).trans rfl, (blk_cell BK290.out 1).trans rfl, (blk_cell BK290.out 2).trans rfl, (blk_cell BK291.out 0).trans rfl, (blk_cell BK291.out 1).trans rfl, (blk_cell BK291.out 2).trans rfl⟩ (fun hHeld => ?_)
     clear hK K
     refine norm_ (a' := ?_) ?_ ?_
     rotate_left
     ·show Act.put _ (some 55) _ = _
      simp only [Act.put, List.setIfInBounds_toArray, List.set_cons_zero, List.set_cons_succ, i64_w, i32_w]
      rfl
     refine one_ (i := 19) (N := some 56) ba4_20 rfl rfl (one_of HT_.out (zq56)) (by decide) (fun K hK => ?_)
     refine goes_ Try.func56 (zq56) rfl #[.int .i64 a0_1, .int .i64 t294, .int .i64 t295, .int .i64 t296, .slice Ao47 t297.length co47, .slice Ao48 t300.length co48] (by rfl) rfl rfl (zq33) ?_
     with_reducible refine (trefoilref03_MatMul.calls kj4 a0_1 t294 t295 t296 _ _ t297 _ _ t300 t303 t304 _ ?side1 ?side2 ?side3 ?side4 A35.out).mono ?_
     (case side1 => repeat (first | exact (Kd.R_reads' HO299.out).2.2 | (with_reducible refine Kd.C_alloc ?_ _) | (with_reducible refine Kd.C_drewN ?_ _) | (with_reducible refine Kd.C_drew ?_)))
     (case side2 => exact (Kd.R_reads' HO299.out).2.1)
     (case side3 => repeat (first | exact (Kd.R_reads' HO302.out).2.2 | (with_reducible refine Kd.C_alloc ?_ _) | (with_reducible refine Kd.C_drewN ?_ _) | (with_reducible refine Kd.C_drew ?_)))
     (case side4 => exact (Kd.R_reads' HO302.out).2.1)
     rintro e w49 ⟨v305, rfl, ho0, hb⟩
     refine ⟨_, rfl, ?_⟩
     have n0_ := Aside0.mk (Kd.R_elder' HO299.r (Kd.R_base ho0) hb)
     have n1_ := Aside0.mk (Kd.R_elder' HO302.r (Kd.R_base ho0) hb)
     have n2_ := Aside0.mk (Kd.R_lower (Kd.R_new' (Kd.R_new' ho0 (Kd.R_lt HO299.r)) (Kd.R_lt HO302.r)) (below_size HB.bl))
     have n3_ := Aside0.mk (BK289.lk hb)
     have n4_ := Aside0.mk (BK290.lk hb)
     have n5_ := Aside0.mk (BK291.lk hb)
     have n6_ := Aside0.mk (below_step HB.bl hb)
     clear HO299
     clear HO302
     clear BK289
     clear BK290
     clear BK291
     clear HB
     have HO299 := n0_
     have HO302 := n1_
     have HO306 := n2_
     have BK289 := n3_
     have BK290 := n4_
     have BK291 := n5_
     have HB := n6_
     clear n0_ n1_ n2_ n3_ n4_ n5_ n6_
     (try clear hb)
     (try clear hb2)
     (try clear hk)
     (try clear hi)
     (try clear ho0)
     refine hK.out _ _ ⟨(blk_cell BK289.out 0).trans rfl, (blk_cell BK289.out 1).trans rfl, (blk_cell BK289.out 2).trans rfl, (blk_cell BK289.out 3).trans rfl, (blk_cell BK289.out 4).trans rfl, (blk_cell BK290.out 0).trans rfl, (blk_cell BK290.out 1).trans rfl, (blk_cell BK290.out 2).trans rfl, (blk_cell BK291.out 0).trans rfl, (blk_cell BK291.out 1).trans rfl, (blk_cell BK291.out 2).trans rfl⟩ (fun hHeld => ?_)
     clear hK K
     refine norm_ (a' := ?_) ?_ ?_
     rotate_left
     ·show Act.put _ (some 56) _ = _
      simp only [Act.put, List.setIfInBounds_toArray, List.set_cons_zero, List.set_cons_succ, i64_w, i32_w]
      rfl
     refine pure_ (i := 20) (N := some 36) (v := ?_) (a' := ?_) ba4_21 rfl rfl (any_of HT_.out (zq56)) (fun _ _ _ h => h) (Or.inl ⟨by rfl, ?_⟩) ?_ ?_; rotate_left; exact zs0; rotate_left; exact zs1
     refine pure_ (i := 21) (N := some 57) (v := ?_) (a' := ?_) ba4_22 rfl rfl (any_of HT_.out (zq56)) (fun _ _ _ h => h) (Or.inl ⟨by rfl, ?_⟩) ?_ ?_; rotate_left; exact zs0; rotate_left; exact zs1
     refine pure_ (i := 22) (N := some 58) (v := ?_) (a' := ?_) ba4_23 rfl rfl (any_of HT_.out (zq56)) (fun _ _ _ h => h) (Or.inl ⟨by rfl, ?_⟩) ?_ ?_; rotate_left; exact zs0; rotate_left; exact zs1
     refine pure_ (i := 23) (N := some 12) (v := ?_) (a' := ?_) ba4_24 rfl rfl (any_of HT_.out (zq56)) (fun _ _ _ h => h) (Or.inl ⟨by rfl, ?_⟩) ?_ ?_; rotate_left; exact zs0; rotate_left; exact zs1
     refine pure_ (i := 24) (N := some 13) (v := ?_) (a' := ?_) ba4_25 rfl rfl (any_of HT_.out (zq56)) (fun _ _ _ h => h) (Or.inl ⟨by rfl, ?_⟩) ?_ ?_; rotate_left; exact zs0; rotate_left; exact zs1
     refine done_ (done_of HT_.out (zq56)) ?_
     obtain ⟨hcz50_0, hcz50_1, hcz50_2, hcz50_3, hcz50_4, hfz50_0, hfz50_1, hfz50_2, hfz50_3, hfz50_4⟩ := cells_5 BK289.out
     obtain ⟨Ao51, co51, eo51⟩ := Kd.R_slice HO306.out
     subst eo51
     try go_wp2_with (first | ((with_reducible refine gate_callee (f := 58) rfl ?_); refine goesL_ (some 62) rfl rfl Try.func58 (zq56) rfl #[.int .i64 a0_1, .slice Ao51 t303.length co51] rfl (zq33) ?_; (with_reducible refine (trefoilref19_Fits.calls kj4 a0_1 _ _ t303 true _ ?side1 ?side2 A36.out).mono ?_); (case side1 => repeat (first | exact (Kd.R_reads' HO306.out).2.2 | (with_reducible refine Kd.C_alloc ?_ _) | (with_reducible refine Kd.C_drewN ?_ _) | (with_reducible refine Kd.C_drew ?_))); (case side2 => exact (Kd.R_reads' HO306.out).2.1); rintro e w' ⟨rfl, ⟨nd, rfl⟩⟩; refine ⟨_, rfl, ?_⟩; have hnb52 := NB290_291.out; have hnc52 := NB291_290.out; obtain ⟨hcz53_0, hcz53_1, hcz53_2, hfz53_0, hfz53_1, hfz53_2⟩ := cells_3 BK290.out; obtain ⟨hcz54_0, hcz54_1, hcz54_2, hfz54_0, hfz54_1, hfz54_2⟩ := cells_3 BK291.out) | (go_at_call 57; (with_reducible refine (trefoilref22_Sum.calls kj4 a0_1 _ _ l2_2 _ _ l3_2 t308 _ ?side1 ?side2 ?side3 ?side4 A38.out).mono ?_); (case side1 => repeat (first | exact (Kd.C_below HR2_2.out HB.bl) | (with_reducible refine Kd.C_alloc ?_ _) | (with_reducible refine Kd.C_drewN ?_ _) | (with_reducible refine Kd.C_drew ?_))); (case side2 => exact HC2_2.out); (case side3 => repeat (first | exact (Kd.C_below HR3_2.out HB.bl) | (with_reducible refine Kd.C_alloc ?_ _) | (with_reducible refine Kd.C_drewN ?_ _) | (with_reducible refine Kd.C_drew ?_))); (case side4 => exact HC3_2.out); rintro e w55 ⟨v309, rfl, ho0, hb⟩; have n0_ := Aside0.mk (Kd.R_elder' HO299.r (Kd.R_base ho0) hb); have n1_ := Aside0.mk (Kd.R_elder' HO302.r (Kd.R_base ho0) hb); have n2_ := Aside0.mk (Kd.R_elder' HO306.r (Kd.R_base ho0) hb); have n3_ := Aside0.mk (Kd.R_lower (Kd.R_new' (Kd.R_new' (Kd.R_new' ho0 (Kd.R_lt HO299.r)) (Kd.R_lt HO302.r)) (Kd.R_lt HO306.r)) (below_size HB.bl)); have n4_ := Aside0.mk (BK289.lk hb); have n5_ := Aside0.mk (BK290.lk hb); have n6_ := Aside0.mk (BK291.lk hb); have n7_ := Aside0.mk (below_step HB.bl hb); clear HO299; clear HO302; clear HO306; clear BK289; clear BK290; clear BK291; clear HB; have HO299 := n0_; have HO302 := n1_; have HO306 := n2_; have HO310 := n3_; have BK289 := n4_; have BK290 := n5_; have BK291 := n6_; have HB := n7_; clear n0_ n1_ n2_ n3_ n4_ n5_ n6_ n7_; (try clear hb); (try clear hb2); (try clear hk); (try clear hi); (try clear ho0); obtain ⟨Ao56, co56, eo56⟩ := Kd.R_slice HO310.out; subst eo56) | (go_at_call 59; (with_reducible refine (trefoilref22_equal.calls kj4 _ _ t303 _ _ t308 t311 _ ?side1 ?side2 ?side3 ?side4 A39.out).mono ?_); (case side1 => repeat (first | exact (Kd.R_reads' HO306.out).2.2 | (with_reducible refine Kd.C_alloc ?_ _) | (with_reducible refine Kd.C_drewN ?_ _) | (with_reducible refine Kd.C_drew ?_))); (case side2 => exact (Kd.R_reads' HO306.out).2.1); (case side3 => repeat (first | exact (Kd.R_reads' HO310.out).2.2 | (with_reducible refine Kd.C_alloc ?_ _) | (with_reducible refine Kd.C_drewN ?_ _) | (with_reducible refine Kd.C_drew ?_))); (case side4 => exact (Kd.R_reads' HO310.out).2.1); rintro e w' ⟨rfl, ⟨nd, rfl⟩⟩))
     go_ret
     exact ⟨zq49, zq9⟩
    ·replace c37 := Bool.eq_false_iff.mpr c37
     subst c37
     have H1 : (some false) = some r := by rw [if_neg (show ¬ (false = true) by decide)] at H; exact H
     clear H
     have H := H1
     clear H1
     obtain rfl := Option.some.inj H
     have hnb57 := NB289_290.out
     have hnc57 := NB290_289.out
     have hnb58 := NB289_291.out
     have hnc58 := NB291_289.out
     obtain ⟨hcz59_0, hcz59_1, hcz59_2, hcz59_3, hcz59_4, hfz59_0, hfz59_1, hfz59_2, hfz59_3, hfz59_4⟩ := cells_5 BK289.out
     try go_wp2_with (first | ((with_reducible refine gate_callee (f := 48) rfl ?_); refine goesL_ (some 32) rfl rfl Try.func48 (zq56) rfl #[.agg #[.int .i64 a0_0, .int .i64 a0_1, .int .i64 a0_2, .int .i64 a0_3, .int .i64 a0_4]] rfl (zq33) ?_; (with_reducible refine (trefoilref22_Sides.calls a0_0 a0_1 a0_2 a0_3 a0_4 t294 t295 t296 _ A32.out).mono ?_); rintro e w60 ⟨rfl, hb⟩; refine ⟨_, rfl, ?_⟩; replace BK289 := Aside0.mk (BK289.lk hb); replace BK290 := Aside0.mk (BK290.lk hb); replace BK291 := Aside0.mk (BK291.lk hb); replace HB := Aside0.mk (below_step HB.bl hb); (try clear hb); (try clear hb2); (try clear hk); (try clear hi)))
     have n0_ := Aside0.mk (blk_drew BK289.out)
     have n1_ := Aside0.mk (blk_drew BK290.out)
     have n2_ := Aside0.mk (blk_drew BK291.out)
     have n3_ := Aside0.mk (below_drew1 HB.out)
     clear BK289
     clear BK290
     clear BK291
     clear HB
     have BK289 := n0_
     have BK290 := n1_
     have BK291 := n2_
     have HB := n3_
     clear n0_ n1_ n2_ n3_
     refine start_ (n := 25) (S := fun w' => w'.cell? ⟨gb289, 0, none⟩ = some (.int .i64 a0_0) ∧ w'.cell? ⟨gb289, 1, none⟩ = some (.int .i64 a0_1) ∧ w'.cell? ⟨gb289, 2, none⟩ = some (.int .i64 a0_2) ∧ w'.cell? ⟨gb289, 3, none⟩ = some (.int .i64 a0_3) ∧ w'.cell? ⟨gb289, 4, none⟩ = some (.int .i64 a0_4) ∧ w'.cell? ⟨gb290, 0, none⟩ = some (.slice A2_0 l2_0.length c2_0) ∧ w'.cell? ⟨gb290, 1, none⟩ = some (.slice A2_1 l2_1.length c2_1) ∧ w'.cell? ⟨gb290, 2, none⟩ = some (.slice A2_2 l2_2.length c2_2) ∧ w'.cell? ⟨gb291, 0, none⟩ = some (.slice A3_0 l3_0.length c3_0) ∧ w'.cell? ⟨gb291, 1, none⟩ = some (.slice A3_1 l3_1.length c3_1) ∧ w'.cell? ⟨gb291, 2, none⟩ = some (.slice A3_2 l3_2.length c3_2)) (ds := []) ba4_0 (zq56) rfl rfl ⟨(blk_cell BK289.out 0).trans rfl, (blk_cell BK289.out 1).trans rfl, (blk_cell BK289.out 2).trans rfl, (blk_cell BK289.out 3).trans rfl, (blk_cell BK289.out 4).trans rfl, (blk_cell BK290.out 0).trans rfl, (blk_cell BK290.out 1).trans rfl, (blk_cell BK290.out 2).trans rfl, (blk_cell BK291.out 0).trans rfl, (blk_cell BK291.out 1).trans rfl, (blk_cell BK291.out 2).trans rfl⟩ (fun hHeld => ?_); refine with_tabW trefoilref22_Right.tab4 trefoilref22_Right.bits4 (fun HT_ HW_ => ?_)
     generalize w60.drew = w61 at BK289 BK290 BK291 HB hHeld ⊢
     refine pure_ (i := 0) (N := some 37) (v := ?_) (a' := ?_) ba4_1 rfl rfl (any_of HT_.out (zq56)) (fun _ _ _ h => h) (Or.inl ⟨by rfl, ?_⟩) ?_ ?_; rotate_left; exact zs0; rotate_left; exact zs1
     refine pure_ (i := 2) (N := some 39) (v := ?_) (a' := ?_) ba4_2 rfl rfl (any_of HT_.out (zq56)) (fun _ _ _ h => h) (Or.inl ⟨by rfl, ?_⟩) ?_ ?_; rotate_left; exact zs0; rotate_left; exact zs1
     refine pure_ (i := 3) (N := some 40) (v := ?_) (a' := ?_) ba4_3 rfl rfl (any_of HT_.out (zq56)) (fun _ _ _ h => h) (Or.inl ⟨by rfl, ?_⟩) ?_ ?_; rotate_left; exact zs0; rotate_left; exact zs1
     refine pure_ (i := 4) (N := some 41) (v := ?_) (a' := ?_) ba4_4 rfl rfl (any_of HT_.out (zq56)) (fun _ _ _ h => h) (Or.inl ⟨by rfl, ?_⟩) ?_ ?_; rotate_left; exact zs0; rotate_left; exact zs1
     refine pure_ (i := 5) (N := some 42) (v := ?_) (a' := ?_) ba4_5 rfl rfl (any_of HT_.out (zq56)) (fun _ _ _ h => h) (Or.inl ⟨by rfl, ?_⟩) ?_ ?_; rotate_left; exact zs0; rotate_left; exact zs1
     refine pure_ (i := 7) (N := some 44) (v := ?_) (a' := ?_) ba4_6 rfl rfl (any_of HT_.out (zq56)) (fun _ _ _ h => h) (Or.inl ⟨by rfl, ?_⟩) ?_ ?_; rotate_left; exact zs0; rotate_left; exact zs1
     refine pure_ (i := 9) (N := some 46) (v := ?_) (a' := ?_) ba4_7 rfl rfl (any_of HT_.out (zq56)) (fun _ _ _ h => h) (Or.inl ⟨by rfl, ?_⟩) ?_ ?_; rotate_left; exact zs0; rotate_left; exact zs1
     refine pure_ (i := 12) (N := some 49) (v := ?_) (a' := ?_) ba4_8 rfl rfl (any_of HT_.out (zq56)) (fun _ _ _ h => h) (Or.inl ⟨by rfl, ?_⟩) ?_ ?_; rotate_left; exact zs0; rotate_left; exact zs1
     refine pure_ (i := 14) (N := some 51) (v := ?_) (a' := ?_) ba4_9 rfl rfl (any_of HT_.out (zq56)) (fun _ _ _ h => h) (Or.inl ⟨by rfl, ?_⟩) ?_ ?_; rotate_left; exact zs0; rotate_left; exact zs1
     refine pure_ (i := 16) (N := some 53) (v := ?_) (a' := ?_) ba4_10 rfl rfl (any_of HT_.out (zq56)) (fun _ _ _ h => h) (Or.inl ⟨by rfl, ?_⟩) ?_ ?_; rotate_left; exact zs0; rotate_left; exact zs1
     refine take_ (i := 1) (N := some 38) (v := ?_) (a' := ?_) ba4_11 rfl rfl (take_ofW HT_.out HW_.out (zq56)) (fun _ _ _ h => h) (Or.inl ⟨by rfl, ?_⟩) hHeld ?_ ?_
     rotate_left
     ·rintro w' ⟨s0, s1, s2, s3, s4, s5, s6, s7, s8, s9, s10⟩
      go_simp
      with_reducible rfl
     rotate_left
     exact zs1
     refine take_ (i := 6) (N := some 43) (v := ?_) (a' := ?_) ba4_12 rfl rfl (take_ofW HT_.out HW_.out (zq56)) (fun _ _ _ h => h) (Or.inl ⟨by rfl, ?_⟩) hHeld ?_ ?_
     rotate_left
     ·rintro w' ⟨s0, s1, s2, s3, s4, s5, s6, s7, s8, s9, s10⟩
      go_simp
      with_reducible rfl
     rotate_left
     exact zs1
     refine take_ (i := 8) (N := some 45) (v := ?_) (a' := ?_) ba4_13 rfl rfl (take_ofW HT_.out HW_.out (zq56)) (fun _ _ _ h => h) (Or.inl ⟨by rfl, ?_⟩) hHeld ?_ ?_
     rotate_left
     ·rintro w' ⟨s0, s1, s2, s3, s4, s5, s6, s7, s8, s9, s10⟩
      go_simp
      with_reducible rfl
     rotate_left
     exact zs1
     refine take_ (i := 10) (N := some 47) (v := ?_) (a' := ?_) ba4_14 rfl rfl (take_ofW HT_.out HW_.out (zq56)) (fun _ _ _ h => h) (Or.inl ⟨by rfl, ?_⟩) hHeld ?_ ?_
     rotate_left
     ·rintro w' ⟨s0, s1, s2, s3, s4, s5, s6, s7, s8, s9, s10⟩
      go_simp
      with_reducible rfl
     rotate_left
     exact zs1
     refine take_ (i := 13) (N := some 50) (v := ?_) (a' := ?_) ba4_15 rfl rfl (take_ofW HT_.out HW_.out (zq56)) (fun _ _ _ h => h) (Or.inl ⟨by rfl, ?_⟩) hHeld ?_ ?_
     rotate_left
     ·rintro w' ⟨s0, s1, s2, s3, s4, s5, s6, s7, s8, s9, s10⟩
      go_simp
      with_reducible rfl
     rotate_left
     exact zs1
     refine take_ (i := 15) (N := some 52) (v := ?_) (a' := ?_) ba4_16 rfl rfl (take_ofW HT_.out HW_.out (zq56)) (fun _ _ _ h => h) (Or.inl ⟨by rfl, ?_⟩) hHeld ?_ ?_
     rotate_left
     ·rintro w' ⟨s0, s1, s2, s3, s4, s5, s6, s7, s8, s9, s10⟩
      go_simp
      with_reducible rfl
     rotate_left
     exact zs1
     refine take_ (i := 17) (N := some 54) (v := ?_) (a' := ?_) ba4_17 rfl rfl (take_ofW HT_.out HW_.out (zq56)) (fun _ _ _ h => h) (Or.inl ⟨by rfl, ?_⟩) hHeld ?_ ?_
     rotate_left
     ·rintro w' ⟨s0, s1, s2, s3, s4, s5, s6, s7, s8, s9, s10⟩
      go_simp
      with_reducible rfl
     rotate_left
     exact zs1
     refine one_ (i := 11) (N := some 48) ba4_18 rfl rfl (one_of HT_.out (zq56)) (by decide) (fun K hK => ?_)
     refine goes_ Try.func57 (zq56) rfl #[.int .i64 a0_1, .slice A2_0 l2_0.length c2_0, .slice A3_0 l3_0.length c3_0] (by rfl) rfl rfl (zq33) ?_
     with_reducible refine (trefoilref22_Sum.calls kj4 a0_1 _ _ l2_0 _ _ l3_0 t297 _ ?side1 ?side2 ?side3 ?side4 A33.out).mono ?_
     (case side1 => repeat (first | exact (Kd.C_below HR2_0.out HB.out) | (with_reducible refine Kd.C_alloc ?_ _) | (with_reducible refine Kd.C_drewN ?_ _) | (with_reducible refine Kd.C_drew ?_)))
     (case side2 => exact HC2_0.out)
     (case side3 => repeat (first | exact (Kd.C_below HR3_0.out HB.out) | (with_reducible refine Kd.C_alloc ?_ _) | (with_reducible refine Kd.C_drewN ?_ _) | (with_reducible refine Kd.C_drew ?_)))
     (case side4 => exact HC3_0.out)
     rintro e w62 ⟨v298, rfl, ho0, hb⟩
     refine ⟨_, rfl, ?_⟩
     have n0_ := Aside0.mk (Kd.R_lower ho0 (below_size HB.bl))
     have n1_ := Aside0.mk (BK289.lk hb)
     have n2_ := Aside0.mk (BK290.lk hb)
     have n3_ := Aside0.mk (BK291.lk hb)
     have n4_ := Aside0.mk (below_step HB.bl hb)
     clear BK289
     clear BK290
     clear BK291
     clear HB
     have HO299 := n0_
     have BK289 := n1_
     have BK290 := n2_
     have BK291 := n3_
     have HB := n4_
     clear n0_ n1_ n2_ n3_ n4_
     (try clear hb)
     (try clear hb2)
     (try clear hk)
     (try clear hi)
     (try clear ho0)
     refine hK.out _ _ ⟨(blk_cell BK289.out 0).trans rfl, (blk_cell BK289.out 1).trans rfl, (blk_cell BK289.out 2).trans rfl, (blk_cell BK289.out 3).trans rfl, (blk_cell BK289.out 4).trans rfl, (blk_cell BK290.out 0).trans rfl, (blk_cell BK290.out 1).trans rfl, (blk_cell BK290.out 2).trans rfl, (blk_cell BK291.out 0).trans rfl, (blk_cell BK291.out 1).trans rfl, (blk_cell BK291.out 2).trans rfl⟩ (fun hHeld => ?_)
     clear hK K
     refine norm_ (a' := ?_) ?_ ?_
     rotate_left
     ·show Act.put _ (some 48) _ = _
      simp only [Act.put, List.setIfInBounds_toArray, List.set_cons_zero, List.set_cons_succ, i64_w, i32_w]
      rfl
     refine one_ (i := 18) (N := some 55) ba4_19 rfl rfl (one_of HT_.out (zq56)) (by decide) (fun K hK => ?_)
     refine goes_ Try.func57 (zq56) rfl #[.int .i64 a0_1, .slice A2_1 l2_1.length c2_1, .slice A3_1 l3_1.length c3_1] (by rfl) rfl rfl (zq33) ?_
     with_reducible refine (trefoilref22_Sum.calls kj4 a0_1 _ _ l2_1 _ _ l3_1 t300 _ ?side1 ?side2 ?side3 ?side4 A34.out).mono ?_
     (case side1 => repeat (first | exact (Kd.C_below HR2_1.out HB.out) | (with_reducible refine Kd.C_alloc ?_ _) | (with_reducible refine Kd.C_drewN ?_ _) | (with_reducible refine Kd.C_drew ?_)))
     (case side2 => exact HC2_1.out)
     (case side3 => repeat (first | exact (Kd.C_below HR3_1.out HB.out) | (with_reducible refine Kd.C_alloc ?_ _) | (with_reducible refine Kd.C_drewN ?_ _) | (with_reducible refine Kd.C_drew ?_)))
     (case side4 => exact HC3_1.out)
     rintro e w63 ⟨v301, rfl, ho0, hb⟩
     refine ⟨_, rfl, ?_⟩
     have n0_ := Aside0.mk (Kd.R_elder' HO299.r (Kd.R_base ho0) hb)
     have n1_ := Aside0.mk (Kd.R_lower (Kd.R_new' ho0 (Kd.R_lt HO299.r)) (below_size HB.bl))
     have n2_ := Aside0.mk (BK289.lk hb)
     have n3_ := Aside0.mk (BK290.lk hb)
     have n4_ := Aside0.mk (BK291.lk hb)
     have n5_ := Aside0.mk (below_step HB.bl hb)
     clear HO299
     clear BK289
     clear BK290
     clear BK291
     clear HB
     have HO299 := n0_
     have HO302 := n1_
     have BK289 := n2_
     have BK290 := n3_
     have BK291 := n4_
     have HB := n5_
     clear n0_ n1_ n2_ n3_ n4_ n5_
     (try clear hb)
     (try clear hb2)
     (try clear hk)
     (try clear hi)
     (try clear ho0)
     obtain ⟨Ao64, co64, eo64⟩ := Kd.R_slice HO299.out
     (first | subst eo64 | (injection eo64 with f1_ f2_ f3_; have f4_ := f1_.symm; have f5_ := f3_.symm; clear f1_ f2_ f3_; subst f4_; subst f5_))
     obtain ⟨Ao65, co65, eo65⟩ := Kd.R_slice HO302.out
     (first | subst eo65 | (injection eo65 with f1_ f2_ f3_; have f4_ := f1_.symm; have f5_ := f3_.symm; clear f1_ f2_ f3_; subst f4_; subst f5_))
     refine hK.out _ _ ⟨(blk_cell BK289.out 0).trans rfl, (blk_cell BK289.out 1).trans rfl, (blk_cell BK289.out 2).trans rfl, (blk_cell BK289.out 3).trans rfl, (blk_cell BK289.out 4).trans rfl, (blk_cell BK290.out 0).trans rfl, (blk_cell BK290.out 1).trans rfl, (blk_cell BK290.out 2).trans rfl, (blk_cell BK291.out 0).trans rfl, (blk_cell BK291.out 1).trans rfl, (blk_cell BK291.out 2).trans rfl⟩ (fun hHeld => ?_)
     clear hK K
     refine norm_ (a' := ?_) ?_ ?_
     rotate_left
     ·show Act.put _ (some 55) _ = _
      simp only [Act.put, List.setIfInBounds_toArray, List.set_cons_zero, List.set_cons_succ, i64_w, i32_w]
      rfl
     refine one_ (i := 19) (N := some 56) ba4_20 rfl rfl (one_of HT_.out (zq56)) (by decide) (fun K hK => ?_)
     refine goes_ Try.func56 (zq56) rfl #[.int .i64 a0_1, .int .i64 t294, .int .i64 t295, .int .i64 t296, .slice Ao64 t297.length co64, .slice Ao65 t300.length co65] (by rfl) rfl rfl (zq33) ?_
     with_reducible refine (trefoilref03_MatMul.calls kj4 a0_1 t294 t295 t296 _ _ t297 _ _ t300 t303 t304 _ ?side1 ?side2 ?side3 ?side4 A35.out).mono ?_
     (case side1 => repeat (first | exact (Kd.R_reads' HO299.out).2.2 | (with_reducible refine Kd.C_alloc ?_ _) | (with_reducible refine Kd.C_drewN ?_ _) | (with_reducible refine Kd.C_drew ?_)))
     (case side2 => exact (Kd.R_reads' HO299.out).2.1)
     (case side3 => repeat (first | exact (Kd.R_reads' HO302.out).2.2 | (with_reducible refine Kd.C_alloc ?_ _) | (with_reducible refine Kd.C_drewN ?_ _) | (with_reducible refine Kd.C_drew ?_)))
     (case side4 => exact (Kd.R_reads' HO302.out).2.1)
     rintro e w66 ⟨v305, rfl, ho0, hb⟩
     refine ⟨_, rfl, ?_⟩
     have n0_ := Aside0.mk (Kd.R_elder' HO299.r (Kd.R_base ho0) hb)
     have n1_ := Aside0.mk (Kd.R_elder' HO302.r (Kd.R_base ho0) hb)
     have n2_ := Aside0.mk (Kd.R_lower (Kd.R_new' (Kd.R_new' ho0 (Kd.R_lt HO299.r)) (Kd.R_lt HO302.r)) (below_size HB.bl))
     have n3_ := Aside0.mk (BK289.lk hb)
     have n4_ := Aside0.mk (BK290.lk hb)
     have n5_ := Aside0.mk (BK291.lk hb)
     have n6_ := Aside0.mk (below_step HB.bl hb)
     clear HO299
     clear HO302
     clear BK289
     clear BK290
     clear BK291
     clear HB
     have HO299 := n0_
     have HO302 := n1_
     have HO306 := n2_
     have BK289 := n3_
     have BK290 := n4_
     have BK291 := n5_
     have HB := n6_
     clear n0_ n1_ n2_ n3_ n4_ n5_ n6_
     (try clear hb)
     (try clear hb2)
     (try clear hk)
     (try clear hi)
     (try clear ho0)
     refine hK.out _ _ ⟨(blk_cell BK289.out 0).trans rfl, (blk_cell BK289.out 1).trans rfl, (blk_cell BK289.out 2).trans rfl, (blk_cell BK289.out 3).trans rfl, (blk_cell BK289.out 4).trans rfl, (blk_cell BK290.out 0).trans rfl, (blk_cell BK290.out 1).trans rfl, (blk_cell BK290.out 2).trans rfl, (blk_cell BK291.out 0).trans rfl, (blk_cell BK291.out 1).trans rfl, (blk_cell BK291.out 2).trans rfl⟩ (fun hHeld => ?_)
     clear hK K
     refine norm_ (a' := ?_) ?_ ?_
     rotate_left
     ·show Act.put _ (some 56) _ = _
      simp only [Act.put, List.setIfInBounds_toArray, List.set_cons_zero, List.set_cons_succ, i64_w, i32_w]
      rfl
     refine pure_ (i := 20) (N := some 36) (v := ?_) (a' := ?_) ba4_21 rfl rfl (any_of HT_.out (zq56)) (fun _ _ _ h => h) (Or.inl ⟨by rfl, ?_⟩) ?_ ?_; rotate_left; exact zs0; rotate_left; exact zs1
     refine pure_ (i := 21) (N := some 57) (v := ?_) (a' := ?_) ba4_22 rfl rfl (any_of HT_.out (zq56)) (fun _ _ _ h => h) (Or.inl ⟨by rfl, ?_⟩) ?_ ?_; rotate_left; exact zs0; rotate_left; exact zs1
     refine pure_ (i := 22) (N := some 58) (v := ?_) (a' := ?_) ba4_23 rfl rfl (any_of HT_.out (zq56)) (fun _ _ _ h => h) (Or.inl ⟨by rfl, ?_⟩) ?_ ?_; rotate_left; exact zs0; rotate_left; exact zs1
     refine pure_ (i := 23) (N := some 12) (v := ?_) (a' := ?_) ba4_24 rfl rfl (any_of HT_.out (zq56)) (fun _ _ _ h => h) (Or.inl ⟨by rfl, ?_⟩) ?_ ?_; rotate_left; exact zs0; rotate_left; exact zs1
     refine pure_ (i := 24) (N := some 13) (v := ?_) (a' := ?_) ba4_25 rfl rfl (any_of HT_.out (zq56)) (fun _ _ _ h => h) (Or.inl ⟨by rfl, ?_⟩) ?_ ?_; rotate_left; exact zs0; rotate_left; exact zs1
     refine done_ (done_of HT_.out (zq56)) ?_
     obtain ⟨hcz67_0, hcz67_1, hcz67_2, hcz67_3, hcz67_4, hfz67_0, hfz67_1, hfz67_2, hfz67_3, hfz67_4⟩ := cells_5 BK289.out
     obtain ⟨Ao68, co68, eo68⟩ := Kd.R_slice HO306.out
     subst eo68
     try go_wp2_with (first | ((with_reducible refine gate_callee (f := 58) rfl ?_); refine goesL_ (some 62) rfl rfl Try.func58 (zq56) rfl #[.int .i64 a0_1, .slice Ao68 t303.length co68] rfl (zq33) ?_; (with_reducible refine (trefoilref19_Fits.calls kj4 a0_1 _ _ t303 false _ ?side1 ?side2 A36.out).mono ?_); (case side1 => repeat (first | exact (Kd.R_reads' HO306.out).2.2 | (with_reducible refine Kd.C_alloc ?_ _) | (with_reducible refine Kd.C_drewN ?_ _) | (with_reducible refine Kd.C_drew ?_))); (case side2 => exact (Kd.R_reads' HO306.out).2.1); rintro e w' ⟨rfl, ⟨nd, rfl⟩⟩; refine ⟨_, rfl, ?_⟩))
     go_ret
     exact ⟨zq49, zq9⟩

/-! ### ring_AddAll: function 60 -/
set_option maxHeartbeats 400000 in
theorem ring_AddAll_1.calls (x y lw r : Int) (g : Nat) (w : World) (h : w.cell? ⟨g, 0, none⟩ = some (.int .i64 lw)) (hf : ring_Add.f lw x y = some r) :
    Calls Try.prog 95 #[.int .u64 x, .int .u64 y, .pointer (some ⟨g, 0, none⟩)] w fun e w' => e = .returned (.int .u64 r) ∧ Drawn0 w w' := by
  have HF := Lib.hid hf
  clear hf
  go_enter Try.func95, Try.ntmps95
  go_wp2_with (go_at_call 54; refine (ring_Add.calls lw x y r _ HF.out).mono ?_; rintro e w' ⟨rfl, ⟨n', rfl⟩⟩)
  go_ret
  exact ⟨rfl, zq50⟩

/-- pairs, place by place -/
def adds (lw : Int) : List Int → List Int → Option (List Int)
  | x :: xs, y :: ys => (ring_Add.f lw x y).bind fun z => (adds lw xs ys).map (z :: ·)
  | _, _ => some []

theorem ring_Add_some (lw x y : Int) : ∃ r, ring_Add.f lw x y = some r := by
  unfold ring_Add.f ring_mask.f ring_Mask.f
  by_cases h1 : lw < 1
  · rw [if_pos h1]; exact ⟨_, rfl⟩
  · rw [if_neg h1]
    by_cases h2 : lw > 64
    · rw [if_pos h2]; exact ⟨_, rfl⟩
    · rw [if_neg h2]
      have e1 : wrap64 (64 - lw) = 64 - lw := by unfold wrap64; omega
      have e2 : IntKind.u64.wrap (64 - lw) = 64 - lw := IntWalk.u64_in _ ⟨by omega, by omega⟩
      rw [e1, e2, if_pos (by omega)]; exact ⟨_, rfl⟩

def addOf (lw x y : Int) : Int := (ring_Add.f lw x y).getD 0
theorem addOf_eq (lw x y : Int) : ring_Add.f lw x y = some (addOf lw x y) := by
  obtain ⟨r, h⟩ := ring_Add_some lw x y
  rw [addOf, h]; rfl
def addsTo (lw : Int) (a b : List Int) (n k : Nat) : List Int := (List.range n).map fun j => if j < k then addOf lw (rd a j) (rd b j) else 0

theorem addsTo_len (lw : Int) (a b : List Int) (n k : Nat) : (addsTo lw a b n k).length = n := by simp [addsTo]
theorem addsTo_set (lw : Int) (a b : List Int) (n k : Nat) (hk : k < n) : (addsTo lw a b n k).set k (addOf lw (rd a k) (rd b k)) = addsTo lw a b n (k + 1) := by
  apply List.ext_getElem
  · simp [addsTo]
  · intro j h1 h2
    rw [List.getElem_set]
    simp only [addsTo, List.getElem_map, List.getElem_range]
    by_cases e : k = j
    · subst e; rw [if_pos rfl, if_pos (by omega)]
    · rw [if_neg e]
      by_cases e2 : j < k
      · rw [if_pos e2, if_pos (by omega)]
      · rw [if_neg e2, if_neg (by omega)]
set_option maxHeartbeats 400000 in
set_option maxRecDepth 100000 in
theorem pairs_Add.calls (lw : Int) (g : Nat) (A1 : Option Addr) (c1 : Nat) (l1 : List Int) (A2 : Option Addr) (c2 : Nat) (l2 : List Int) (w : World) (h : w.cell? ⟨g, 0, none⟩ = some (.int .i64 lw))
    (hr1 : Kd.C (Kd.int .u64) w A1 l1.length l1) (hr2 : Kd.C (Kd.int .u64) w A2 l2.length l2) (hl : l1.length = l2.length) (hs : l1.length ≤ 35184372088832) :
    Calls Try.prog 94 #[.slice A1 l1.length c1, .slice A2 l2.length c2, .func (.func 95) #[] #[.pointer (some ⟨g, 0, none⟩)]] w fun e w' => ∃ v, e = .returned (.tuple #[v, .int .i64 0]) ∧ Kd.R (Kd.int .u64) 35 w' w.heap.size (fun _ => True) v (addsTo lw l1 l2 l1.length l1.length) ∧ Below w.heap.size w w' := by
  have hm := Kd.C_max hr1
  have HL := Lib.hid hl
  have hne : (l1.length != l2.length) = false := by rw [bne_eq_false_iff_eq]; exact hl
  clear hl
  have h0 : List.replicate (l1.length : Int).toNat 0 = addsTo lw l1 l2 l1.length 0 := by
    simp [addsTo, List.map_const']
  have hmk : (l1.length : Int).toNat * 8 ≤ 281474976710656 := by omega
  go_enter Try.func94, Try.ntmps94
  go_wp2_with (first | ((with_reducible refine gate_dst (N := 17) rfl ?_); refine Kd.R_make (Kd.int .u64) _ 35 rfl (N := 17) rfl 24 _ _ rfl (l1.length : Int) rfl rfl Try.underlying24 (.int .u64 0) 8 info35 rfl (by decide) (by omega) 0 (ok := fun _ => True) (okp := fun _ => True) rfl (fun _ hk => hk) trivial (by omega) hmk (Below.refl _ _) (Nat.le_refl _) ?_; intro v8 w6 ho7 hb hg_ hnew_; clear hg_ hnew_; rw [h0] at ho7; obtain ⟨AA, cc, ev, hcc, _⟩ := Kd.R_reads ho7; rw [addsTo_len] at ev; subst ev; have HO := Aside0.mk ho7; have HB := Aside0.mk hb; clear ho7 hcc hb))
  go_loopw [9, 20] (fun _ i wr => ∃ k : Nat, k ≤ l1.length ∧ i = .int .i64 k ∧ Aside0 (Kd.R (Kd.int .u64) 35 wr w.heap.size (fun _ => True) (.slice AA l1.length cc) (addsTo lw l1 l2 l1.length k)) ∧ Aside0 (Below w.heap.size w wr)) (fun _ i _ => l1.length - (intOf i).toNat)
  case atStart => exact ⟨0, Nat.zero_le _, rfl, HO, HB⟩
  case round =>
    clear HO HB
    obtain ⟨k, hk, rfl, HO, HB⟩ := hrel
    by_cases hlt : k < l1.length
    · have hlt2 : k < l2.length := by have := HL.out; omega
      obtain ⟨ad1, rfl, hcell1⟩ := Kd.at_int hr1 (k : Int) (by omega) (by omega)
      obtain ⟨ad2, rfl, hcell2⟩ := Kd.at_int hr2 (k : Int) (by omega) (by omega)
      rw [Int.toNat_natCast] at hcell1 hcell2
      replace hcell1 := (HB.out.cell (World.block_lt_of_cell? w _ hcell1)).trans hcell1
      replace hcell2 := (HB.out.cell (World.block_lt_of_cell? w _ hcell2)).trans hcell2
      have hg : wr.cell? ⟨g, 0, none⟩ = some (.int .i64 lw) := (HB.out.cell (World.block_lt_of_cell? w _ h)).trans h
      obtain ⟨go, co, eo, gb, gl, cl, hgo⟩ := Kd.R_form HO.out (by rw [addsTo_len]; omega)
      rw [addsTo_len] at eo
      cases eo
      have HP : ∀ n, Kd.R (Kd.int .u64) 35 ((wr.drewN n).setCell ⟨go, k, none⟩ (.int .u64 (addOf lw (rd l1 k) (rd l2 k)))) w.heap.size (fun _ => True) (.slice (some ⟨go, 0, none⟩) l1.length cc) (addsTo lw l1 l2 l1.length (k + 1)) := by
        intro n
        have := (Kd.R_putg (Kd.R_drewN HO.out n) (k : Int) (addOf lw (rd l1 k) (rd l2 k))).1
        rw [Int.toNat_natCast, addsTo_set _ _ _ _ _ hlt] at this
        exact this
      have HP := Lib.hid HP
      obtain ⟨hx, hf⟩ := Kd.R_celln 0 HO.out (k : Int) (by omega) (by omega)
      rw [Int.toNat_natCast] at hx hf
      have HF := Lib.hid (addOf_eq lw (rd l1 k) (rd l2 k))
      have GB := Aside0.mk gb
      clear gb gl hgo cl
      go_wp2_with fail
      go_region_with (go_at_call 95; refine (ring_AddAll_1.calls _ _ lw _ g _ (by first | exact hg | simpa using hg) HF.out).mono ?_; rintro e w' ⟨rfl, ⟨n', rfl⟩⟩)
      all_goals go_wp2
      all_goals go_roundw
      all_goals first
        | (case rel => exact ⟨k + 1, by omega, by go_num, ⟨HP.out _⟩, ⟨below_set (pw_below_drewN HB.out _) GB.out⟩⟩)
        | (case measure => simp [intOf]; omega)
    · have hkl : k = l1.length := by omega
      clear hk
      subst hkl
      go_wp2
      go_ret2
      exact ⟨_, rfl, HO.out, HB.out⟩

set_option maxHeartbeats 400000 in
set_option maxRecDepth 100000 in
theorem pairs_Add_off.calls (g : Nat) (A1 : Option Addr) (c1 n1 : Nat) (A2 : Option Addr) (c2 n2 : Nat) (w : World) (hl : ¬ n1 = n2) :
    Calls Try.prog 94 #[.slice A1 n1 c1, .slice A2 n2 c2, .func (.func 95) #[] #[.pointer (some ⟨g, 0, none⟩)]] w fun e w' => e = .returned (.tuple #[.slice none 0 0, .int .i64 11]) ∧ w = w' := by
  have hne : (n1 != n2) = true := by rw [bne_iff_ne]; exact hl
  have HL := Lib.hid hl
  clear hl
  go_enter Try.func94, Try.ntmps94
  go_wp2
  go_ret2
  exact ⟨rfl, rfl⟩

def ring_AddAll.f (a0 : Int) (l1 l2 : List Int) : Option (List Int × Int) :=
  if (l1.length : Int) = (l2.length : Int) then (if l1.length ≤ 35184372088832 then some (addsTo a0 l1 l2 l1.length l1.length, 0) else none) else some ([], 11)

set_option maxHeartbeats 400000 in
theorem ring_AddAll.calls (a0 : Int) (A1 : Option Addr) (c1 : Nat) (l1 : List Int) (A2 : Option Addr) (c2 : Nat) (l2 : List Int) (r1 : List Int) (r2 : Int) (w : World) (hr1 : Kd.C (Kd.int .u64) w A1 l1.length l1) (hc1 : l1.length ≤ c1) (hr2 : Kd.C (Kd.int .u64) w A2 l2.length l2) (hc2 : l2.length ≤ c2) (h : ring_AddAll.f a0 l1 l2 = some (r1, r2)) :
    Calls Try.prog 60 #[.int .i64 a0, .slice A1 l1.length c1, .slice A2 l2.length c2] w fun e w' => ∃ v0_ : Value, e = .returned (.tuple #[v0_, .int .i64 r2]) ∧ Kd.R (Kd.int .u64) 35 w' w.heap.size (fun _ => True) v0_ r1 ∧ Below w.heap.size w w' := by
  unfold ring_AddAll.f at h
  have HB := Aside0.mk (Below.refl w.heap.size w)
  by_cases hl : (l1.length : Int) = (l2.length : Int)
  · rw [if_pos hl] at h
    by_cases hs : l1.length ≤ 35184372088832
    · rw [if_pos hs] at h
      obtain ⟨rfl, rfl⟩ := Prod.mk.inj (Option.some.inj h)
      have HL := Lib.hid hl
      clear hl h
      go_enter Try.func60, Try.ntmps60
      go_wp2_with (go_at_call 94; refine (pairs_Add.calls a0 w.heap.size A1 c1 l1 A2 c2 l2 _ ?hcell ?hr1 ?hr2 ?hl hs).mono ?_; (case hcell => go_simp); (case hr1 => exact Kd.C_alloc hr1 _); (case hr2 => exact Kd.C_alloc hr2 _); (case hl => have := HL.out; omega); rintro e w' ⟨v, rfl, ho, hb⟩; have HO1 := Aside0.mk ho; have HB1 := Aside0.mk hb; clear ho hb)
      go_ret2
      exact ⟨_, rfl, Kd.R_lower HO1.out (by simp), below_step (below_alloc HB.out _) HB1.out⟩
    · rw [if_neg hs] at h; cases h
  · rw [if_neg hl] at h
    obtain ⟨rfl, rfl⟩ := Prod.mk.inj (Option.some.inj h)
    have HL := Lib.hid hl
    clear hl h
    go_enter Try.func60, Try.ntmps60
    go_wp2_with (go_at_call 94; refine (pairs_Add_off.calls _ _ _ _ _ _ _ _ ?hl).mono ?_; (case hl => have := HL.out; omega); rintro e w' ⟨rfl, rfl⟩)
    go_ret2
    exact ⟨_, rfl, Kd.R_nil _ _ _ _ _, by repeat (first | exact HB.out | apply below_alloc | apply pw_below_drewN | apply below_drew)⟩

/-! ### ring_sized: function 96 -/
def ring_sized.f (a0 : Int) (a1 : Int) : Option (Bool) := if a0 ≥ 1 then (if a0 ≤ 6 then (if a1 ≥ 1 then (some (decide (a1 ≤ 6))) else (some false)) else (some false)) else (some false)
set_option maxHeartbeats 8000000 in
set_option maxRecDepth 100000 in
theorem ring_sized.calls (a0 : Int) (a1 : Int) (r : Bool) (w : World) (h : ring_sized.f a0 a1 = some r) :
  Calls Try.prog 96 #[.int .i64 a0, .int .i64 a1] w fun e w' => e = .returned (.bool r) ∧ Drawn0 w w' := by
 have H : (if a0 ≥ 1 then (if a0 ≤ 6 then (if a1 ≥ 1 then (some (decide (a1 ≤ 6))) else (some false)) else (some false)) else (some false)) = some r := h
 clear h
 by_cases c3 : a0 ≥ 1
 ·rw [if_pos c3] at H
  have c3b0 : decide (1 ≤ a0) = true := decide_eq_true c3
  clear c3
  by_cases c4 : a0 ≤ 6
  ·rw [if_pos c4] at H
   have c4b0 : decide (a0 ≤ 6) = true := decide_eq_true c4
   clear c4
   by_cases c5 : a1 ≥ 1
   ·rw [if_pos c5] at H
    have c5b0 : decide (1 ≤ a1) = true := decide_eq_true c5
    clear c5
    obtain rfl := Option.some.inj H
    go_enter Try.func96, Try.ntmps96
    go_wp2
    go_ret
    exact ⟨zq52, zq50⟩
   ·rw [if_neg c5] at H
    have c5b0 : decide (1 ≤ a1) = false := decide_eq_false c5
    clear c5
    obtain rfl := Option.some.inj H
    go_enter Try.func96, Try.ntmps96
    go_wp2
    go_ret
    exact ⟨zq52, zq50⟩
  ·rw [if_neg c4] at H
   have c4b0 : decide (a0 ≤ 6) = false := decide_eq_false c4
   clear c4
   obtain rfl := Option.some.inj H
   go_enter Try.func96, Try.ntmps96
   go_wp2
   go_ret
   exact ⟨zq52, zq50⟩
 ·rw [if_neg c3] at H
  have c3b0 : decide (1 ≤ a0) = false := decide_eq_false c3
  clear c3
  obtain rfl := Option.some.inj H
  go_enter Try.func96, Try.ntmps96
  go_wp2
  go_ret
  exact ⟨zq52, zq50⟩

/-! ### ring_Fit: function 97 -/
def ring_Fit.f (a0 : Int) (a1 : Int) : Option (Int) := (ring_mask.f a0).bind fun t318 => (some (Go.bits .and .u64 a1 t318))
set_option maxHeartbeats 8000000 in
set_option maxRecDepth 100000 in
theorem ring_Fit.calls (a0 : Int) (a1 : Int) (r : Int) (w : World) (h : ring_Fit.f a0 a1 = some r) :
  Calls Try.prog 97 #[.int .i64 a0, .int .u64 a1] w fun e w' => e = .returned (.int .u64 r) ∧ Drawn0 w w' := by
 have H : ((ring_mask.f a0).bind fun t318 => (some (Go.bits .and .u64 a1 t318))) = some r := h
 clear h
 replace H := Option.bind_eq_some_iff.mp H
 obtain ⟨t318, A30, H⟩ := H
 replace H : (some (Go.bits .and .u64 a1 t318)) = some r := H
 have A3 := Aside0.mk A30
 clear A30
 obtain rfl := Option.some.inj H
 go_enter Try.func97, Try.ntmps97
 go_wp2_with (first | ((with_reducible refine gate_callee (f := 90) rfl ?_); refine goesL_ (some 7) rfl rfl Try.func90 (zq56) rfl #[.int .i64 a0] rfl (zq33) ?_; (with_reducible refine (ring_mask.calls a0 t318 _ A3.out).mono ?_); rintro e w' ⟨rfl, ⟨nd, rfl⟩⟩; refine ⟨_, rfl, ?_⟩))
 go_ret
 exact ⟨zq52, zq50⟩
end Go.Proofs.Ytcmaidpoolcelaa.P
