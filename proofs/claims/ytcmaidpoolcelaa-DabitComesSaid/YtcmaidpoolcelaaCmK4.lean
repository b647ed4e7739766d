/- Functions of the program as plain Lean functions, and proofs that the machine's calls do what these do: written by a program of this workplace (wip/tools/pp.py). -/
import Derived.ChangeAlike
import Derived.Deep.RegionWith
import Derived.IntWalk
import Derived.Lib.Hide
import Derived.RegionTactic
import Derived.Test.YtcmaidpoolcelaaCmPx0
import Derived.WalkSpells
import Derived.Test.YtcmaidpoolcelaaCmK0
import Derived.Test.YtcmaidpoolcelaaCmK1
import Derived.Test.YtcmaidpoolcelaaCmK2
import Derived.Test.YtcmaidpoolcelaaCmK3
import Derived.Test.YtcmaidpoolcelaaCmSh
namespace Go.Proofs.Ytcmaidpoolcelaa.P
open Go.RowKit Go.Proofs.YtcmaidpoolcelaaW.PrintWords Go.Proofs.YtcmaidpoolcelaaW.PrintLast Go.Proofs.YtcmaidpoolcelaaW.PrintMore
attribute [local go_sem] max2_int min2_int max_two min_two max_three min_three max_four min_four   -- for this text's walks alone
set_option linter.unusedVariables false
set_option linter.unusedSimpArgs false

/-! ### trefoilref25_Right: function 16 -/
def trefoilref25_Right.j0 : Nat → Bool → Int → Int → Int → Int → Int → List Int → List Int → List Int → List Int → List Int → List Int → Option (Bool)
 | 0, _, _, _, _, _, _, _, _, _, _, _, _ => none
 | k + 1, x22, x199000, x199001, x199002, x199003, x199004, x200000, x200001, x200002, x201000, x201001, x201002 => if x22 = true then (some false) else (if 0 < (x200000.length : Int) then (if 0 < (x201000.length : Int) then (if (rd x200000 0) = (rd x201000 0) then (if 0 < (x200001.length : Int) then (if 0 < (x201001.length : Int) then ((trefoilref03_Add.f k x199001 (rd x200001 0) (rd x201001 0)).bind fun t207 => (some (t207 == 0))) else (none)) else (none)) else (if 0 < (x200001.length : Int) then (if 0 < (x201001.length : Int) then ((trefoilref03_Add.f k x199001 (rd x200001 0) (rd x201001 0)).bind fun t210 => (some (t210 == 1))) else (none)) else (none))) else (none)) else (none))
def trefoilref25_Right.f (k : Nat) (a0_0 : Int) (a0_1 : Int) (a0_2 : Int) (a0_3 : Int) (a0_4 : Int) (l1_0 : List Int) (l1_1 : List Int) (l1_2 : List Int) (l2_0 : List Int) (l2_1 : List Int) (l2_2 : List Int) : Option (Bool) := if a0_0 = 4 then ((trefoilref09_Fits.f k a0_0 a0_1 a0_2 a0_3 a0_4 l1_0 l1_1 l1_2).bind fun t201 => (if t201 = true then ((trefoilref09_Fits.f k a0_0 a0_1 a0_2 a0_3 a0_4 l2_0 l2_1 l2_2).bind fun t202 => (trefoilref25_Right.j0 k (!t202) a0_0 a0_1 a0_2 a0_3 a0_4 l1_0 l1_1 l1_2 l2_0 l2_1 l2_2)) else (trefoilref25_Right.j0 k true a0_0 a0_1 a0_2 a0_3 a0_4 l1_0 l1_1 l1_2 l2_0 l2_1 l2_2))) else (trefoilref25_Right.j0 k true a0_0 a0_1 a0_2 a0_3 a0_4 l1_0 l1_1 l1_2 l2_0 l2_1 l2_2)
set_option maxHeartbeats 8000000 in
set_option maxRecDepth 100000 in
theorem trefoilref25_Right.calls (k : Nat) (a0_0 : Int) (a0_1 : Int) (a0_2 : Int) (a0_3 : Int) (a0_4 : Int) (A1_0 : Option Addr) (c1_0 : Nat) (l1_0 : List Int) (A1_1 : Option Addr) (c1_1 : Nat) (l1_1 : List Int) (A1_2 : Option Addr) (c1_2 : Nat) (l1_2 : List Int) (A2_0 : Option Addr) (c2_0 : Nat) (l2_0 : List Int) (A2_1 : Option Addr) (c2_1 : Nat) (l2_1 : List Int) (A2_2 : Option Addr) (c2_2 : Nat) (l2_2 : List Int) (r : Bool) (w : World) (hr1_0 : Kd.C (Kd.int .u64) w A1_0 l1_0.length l1_0) (hc1_0 : l1_0.length ≤ c1_0) (hr1_1 : Kd.C (Kd.int .u64) w A1_1 l1_1.length l1_1) (hc1_1 : l1_1.length ≤ c1_1) (hr1_2 : Kd.C (Kd.int .u64) w A1_2 l1_2.length l1_2) (hc1_2 : l1_2.length ≤ c1_2) (hr2_0 : Kd.C (Kd.int .u64) w A2_0 l2_0.length l2_0) (hc2_0 : l2_0.length ≤ c2_0) (hr2_1 : Kd.C (Kd.int .u64) w A2_1 l2_1.length l2_1) (hc2_1 : l2_1.length ≤ c2_1) (hr2_2 : Kd.C (Kd.int .u64) w A2_2 l2_2.length l2_2) (hc2_2 : l2_2.length ≤ c2_2) (h : trefoilref25_Right.f k a0_0 a0_1 a0_2 a0_3 a0_4 l1_0 l1_1 l1_2 l2_0 l2_1 l2_2 = some r) :
  Calls Try.prog 16 #[.agg #[.int .i64 a0_0, .int .i64 a0_1, .int .i64 a0_2, .int .i64 a0_3, .int .i64 a0_4], .agg #[.slice A1_0 l1_0.length c1_0, .slice A1_1 l1_1.length c1_1, .slice A1_2 l1_2.length c1_2], .agg #[.slice A2_0 l2_0.length c2_0, .slice A2_1 l2_1.length c2_1, .slice A2_2 l2_2.length c2_2]] w fun e w' => e = .returned (.bool r) ∧ Below w.heap.size w w' := by
 have hu23 := Try.underlying23
 have hu26 := Try.underlying26
 have HR1_0 := Aside0.mk hr1_0
 have HC1_0 := Aside0.mk hc1_0
 clear hr1_0 hc1_0
 have HR1_1 := Aside0.mk hr1_1
 have HC1_1 := Aside0.mk hc1_1
 clear hr1_1 hc1_1
 have HR1_2 := Aside0.mk hr1_2
 have HC1_2 := Aside0.mk hc1_2
 clear hr1_2 hc1_2
 have HR2_0 := Aside0.mk hr2_0
 have HC2_0 := Aside0.mk hc2_0
 clear hr2_0 hc2_0
 have HR2_1 := Aside0.mk hr2_1
 have HC2_1 := Aside0.mk hc2_1
 clear hr2_1 hc2_1
 have HR2_2 := Aside0.mk hr2_2
 have HC2_2 := Aside0.mk hc2_2
 clear hr2_2 hc2_2
 have HB := Aside0.mk (Below.refl w.heap.size w)
 have H : (if a0_0 = 4 then ((trefoilref09_Fits.f k a0_0 a0_1 a0_2 a0_3 a0_4 l1_0 l1_1 l1_2).bind fun t201 => (if t201 = true then ((trefoilref09_Fits.f k a0_0 a0_1 a0_2 a0_3 a0_4 l2_0 l2_1 l2_2).bind fun t202 => (trefoilref25_Right.j0 k (!t202) a0_0 a0_1 a0_2 a0_3 a0_4 l1_0 l1_1 l1_2 l2_0 l2_1 l2_2)) else (trefoilref25_Right.j0 k true a0_0 a0_1 a0_2 a0_3 a0_4 l1_0 l1_1 l1_2 l2_0 l2_1 l2_2))) else (trefoilref25_Right.j0 k true a0_0 a0_1 a0_2 a0_3 a0_4 l1_0 l1_1 l1_2 l2_0 l2_1 l2_2)) = some r := h
 clear h
 have HC4 := Aside0.mk H
 clear H
 go_enter Try.func16, Try.ntmps16
 go_upto_region 1 with (first | ((with_reducible refine gate_dst (N := 3) rfl ?_); refine box_event ?hg (N := 3) ?hd (cs := #[.int .i64 a0_0, .int .i64 a0_1, .int .i64 a0_2, .int .i64 a0_3, .int .i64 a0_4]) (t := 23) ?hr ?_; (case hd => rfl); (case hg => rfl); (case hr => first | (go_simp; done) | (go_simp; rfl)); intro gb198 hg w5 hbox hb; have n0_ := Aside0.mk (below_step HB.bl hb); have n1_ := Aside0.mk (hbox); have n2_ := Aside0.mk ((zq41 : w.heap.size ≤ gb198)); have n3_ := Aside0.mk ((zq41 : w.heap.size ≤ gb198)); clear HB; have HB := n0_; have BK198 := n1_; have GW198 := n2_; have GE198 := n3_; clear n0_ n1_ n2_ n3_; clear hb hbox hg) | ((with_reducible refine gate_dst (N := 4) rfl ?_); refine box_event ?hg (N := 4) ?hd (cs := #[.slice A1_0 l1_0.length c1_0, .slice A1_1 l1_1.length c1_1, .slice A1_2 l1_2.length c1_2]) (t := 26) ?hr ?_; (case hd => rfl); (case hg => rfl); (case hr => first | (go_simp; done) | (go_simp; rfl)); intro gb199 hg w6 hbox hb; have n0_ := Aside0.mk (BK198.lk hb); have n1_ := Aside0.mk (below_step HB.bl hb); have n2_ := Aside0.mk (hbox); have n3_ := Aside0.mk ((zq41 : w.heap.size ≤ gb199)); have n4_ := Aside0.mk ((zq41 : w.heap.size ≤ gb199)); have n5_ := Aside0.mk ((by rw [hg]; exact Nat.ne_of_lt (blk_lt BK198.ld) : gb198 ≠ gb199)); have n6_ := Aside0.mk ((by rw [hg]; exact Nat.ne_of_gt (blk_lt BK198.ld) : gb199 ≠ gb198)); clear BK198; clear HB; have BK198 := n0_; have HB := n1_; have BK199 := n2_; have GW199 := n3_; have GE199 := n4_; have NB198_199 := n5_; have NB199_198 := n6_; clear n0_ n1_ n2_ n3_ n4_ n5_ n6_; clear hb hbox hg) | ((with_reducible refine gate_dst (N := 5) rfl ?_); refine box_event ?hg (N := 5) ?hd (cs := #[.slice A2_0 l2_0.length c2_0, .slice A2_1 l2_1.length c2_1, .slice A2_2 l2_2.length c2_2]) (t := 26) ?hr ?_; (case hd => rfl); (case hg => rfl); (case hr => first | (go_simp; done) | (go_simp; rfl)); intro gb200 hg w7 hbox hb; have n0_ := Aside0.mk (BK198.lk hb); have n1_ := Aside0.mk (BK199.lk hb); have n2_ := Aside0.mk (below_step HB.bl hb); have n3_ := Aside0.mk (hbox); have n4_ := Aside0.mk ((zq41 : w.heap.size ≤ gb200)); have n5_ := Aside0.mk ((zq41 : w.heap.size ≤ gb200)); have n6_ := Aside0.mk ((by rw [hg]; exact Nat.ne_of_lt (blk_lt BK198.ld) : gb198 ≠ gb200)); have n7_ := Aside0.mk ((by rw [hg]; exact Nat.ne_of_gt (blk_lt BK198.ld) : gb200 ≠ gb198)); have n8_ := Aside0.mk ((by rw [hg]; exact Nat.ne_of_lt (blk_lt BK199.ld) : gb199 ≠ gb200)); have n9_ := Aside0.mk ((by rw [hg]; exact Nat.ne_of_gt (blk_lt BK199.ld) : gb200 ≠ gb199)); clear BK198; clear BK199; clear HB; have BK198 := n0_; have BK199 := n1_; have HB := n2_; have BK200 := n3_; have GW200 := n4_; have GE200 := n5_; have NB198_200 := n6_; have NB200_198 := n7_; have NB199_200 := n8_; have NB200_199 := n9_; clear n0_ n1_ n2_ n3_ n4_ n5_ n6_ n7_ n8_ n9_; clear hb hbox hg))
 repeat (go_quiet (first | ((with_reducible refine gate_dst (N := 3) rfl ?_); refine box_event ?hg (N := 3) ?hd (cs := #[.int .i64 a0_0, .int .i64 a0_1, .int .i64 a0_2, .int .i64 a0_3, .int .i64 a0_4]) (t := 23) ?hr ?_; (case hd => rfl); (case hg => rfl); (case hr => first | (go_simp; done) | (go_simp; rfl)); intro gb198 hg w5 hbox hb; have n0_ := Aside0.mk (below_step HB.bl hb); have n1_ := Aside0.mk (hbox); have n2_ := Aside0.mk ((zq41 : w.heap.size ≤ gb198)); have n3_ := Aside0.mk ((zq41 : w.heap.size ≤ gb198)); clear HB; have HB := n0_; have BK198 := n1_; have GW198 := n2_; have GE198 := n3_; clear n0_ n1_ n2_ n3_; clear hb hbox hg) | ((with_reducible refine gate_dst (N := 4) rfl ?_); refine box_event ?hg (N := 4) ?hd (cs := #[.slice A1_0 l1_0.length c1_0, .slice A1_1 l1_1.length c1_1, .slice A1_2 l1_2.length c1_2]) (t := 26) ?hr ?_; (case hd => rfl); (case hg => rfl); (case hr => first | (go_simp; done) | (go_simp; rfl)); intro gb199 hg w6 hbox hb; have n0_ := Aside0.mk (BK198.lk hb); have n1_ := Aside0.mk (below_step HB.bl hb); have n2_ := Aside0.mk (hbox); have n3_ := Aside0.mk ((zq41 : w.heap.size ≤ gb199)); have n4_ := Aside0.mk ((zq41 : w.heap.size ≤ gb199)); have n5_ := Aside0.mk ((by rw [hg]; exact Nat.ne_of_lt (blk_lt BK198.ld) : gb198 ≠ gb199)); have n6_ := Aside0.mk ((by rw [hg]; exact Nat.ne_of_gt (blk_lt BK198.ld) : gb199 ≠ gb198)); clear BK198; clear HB; have BK198 := n0_; have HB := n1_; have BK199 := n2_; have GW199 := n3_; have GE199 := n4_; have NB198_199 := n5_; have NB199_198 := n6_; clear n0_ n1_ n2_ n3_ n4_ n5_ n6_; clear hb hbox hg) | ((with_reducible refine gate_dst (N := 5) rfl ?_); refine box_event ?hg (N := 5) ?hd (cs := #[.slice A2_0 l2_0.length c2_0, .slice A2_1 l2_1.length c2_1, .slice A2_2 l2_2.length c2_2]) (t := 26) ?hr ?_; (case hd => rfl); (case hg => rfl); (case hr => first | (go_simp; done) | (go_simp; rfl)); intro gb200 hg w7 hbox hb; have n0_ := Aside0.mk (BK198.lk hb); have n1_ := Aside0.mk (BK199.lk hb); have n2_ := Aside0.mk (below_step HB.bl hb); have n3_ := Aside0.mk (hbox); have n4_ := Aside0.mk ((zq41 : w.heap.size ≤ gb200)); have n5_ := Aside0.mk ((zq41 : w.heap.size ≤ gb200)); have n6_ := Aside0.mk ((by rw [hg]; exact Nat.ne_of_lt (blk_lt BK198.ld) : gb198 ≠ gb200)); have n7_ := Aside0.mk ((by rw [hg]; exact Nat.ne_of_gt (blk_lt BK198.ld) : gb200 ≠ gb198)); have n8_ := Aside0.mk ((by rw [hg]; exact Nat.ne_of_lt (blk_lt BK199.ld) : gb199 ≠ gb200)); have n9_ := Aside0.mk ((by rw [hg]; exact Nat.ne_of_gt (blk_lt BK199.ld) : gb200 ≠ gb199)); clear BK198; clear BK199; clear HB; have BK198 := n0_; have BK199 := n1_; have HB := n2_; have BK200 := n3_; have GW200 := n4_; have GE200 := n5_; have NB198_200 := n6_; have NB200_198 := n7_; have NB199_200 := n8_; have NB200_199 := n9_; clear n0_ n1_ n2_ n3_ n4_ n5_ n6_ n7_ n8_ n9_; clear hb hbox hg)); go_upto_region 1 with (first | ((with_reducible refine gate_dst (N := 3) rfl ?_); refine box_event ?hg (N := 3) ?hd (cs := #[.int .i64 a0_0, .int .i64 a0_1, .int .i64 a0_2, .int .i64 a0_3, .int .i64 a0_4]) (t := 23) ?hr ?_; (case hd => rfl); (case hg => rfl); (case hr => first | (go_simp; done) | (go_simp; rfl)); intro gb198 hg w5 hbox hb; have n0_ := Aside0.mk (below_step HB.bl hb); have n1_ := Aside0.mk (hbox); have n2_ := Aside0.mk ((zq41 : w.heap.size ≤ gb198)); have n3_ := Aside0.mk ((zq41 : w.heap.size ≤ gb198)); clear HB; have HB := n0_; have BK198 := n1_; have GW198 := n2_; have GE198 := n3_; clear n0_ n1_ n2_ n3_; clear hb hbox hg) | ((with_reducible refine gate_dst (N := 4) rfl ?_); refine box_event ?hg (N := 4) ?hd (cs := #[.slice A1_0 l1_0.length c1_0, .slice A1_1 l1_1.length c1_1, .slice A1_2 l1_2.length c1_2]) (t := 26) ?hr ?_; (case hd => rfl); (case hg => rfl); (case hr => first | (go_simp; done) | (go_simp; rfl)); intro gb199 hg w6 hbox hb; have n0_ := Aside0.mk (BK198.lk hb); have n1_ := Aside0.mk (below_step HB.bl hb); have n2_ := Aside0.mk (hbox); have n3_ := Aside0.mk ((zq41 : w.heap.size ≤ gb199)); have n4_ := Aside0.mk ((zq41 : w.heap.size ≤ gb199)); have n5_ := Aside0.mk ((by rw [hg]; exact Nat.ne_of_lt (blk_lt BK198.ld) : gb198 ≠ gb199)); have n6_ := Aside0.mk ((by rw [hg]; exact Nat.ne_of_gt (blk_lt BK198.ld) : gb199 ≠ gb198)); clear BK198; clear HB; have BK198 := n0_; have HB := n1_; have BK199 := n2_; have GW199 := n3_; have GE199 := n4_; have NB198_199 := n5_; have NB199_198 := n6_; clear n0_ n1_ n2_ n3_ n4_ n5_ n6_; clear hb hbox hg) | ((with_reducible refine gate_dst (N := 5) rfl ?_); refine box_event ?hg (N := 5) ?hd (cs := #[.slice A2_0 l2_0.length c2_0, .slice A2_1 l2_1.length c2_1, .slice A2_2 l2_2.length c2_2]) (t := 26) ?hr ?_; (case hd => rfl); (case hg => rfl); (case hr => first | (go_simp; done) | (go_simp; rfl)); intro gb200 hg w7 hbox hb; have n0_ := Aside0.mk (BK198.lk hb); have n1_ := Aside0.mk (BK199.lk hb); have n2_ := Aside0.mk (below_step HB.bl hb); have n3_ := Aside0.mk (hbox); have n4_ := Aside0.mk ((zq41 : w.heap.size ≤ gb200)); have n5_ := Aside0.mk ((zq41 : w.heap.size ≤ gb200)); have n6_ := Aside0.mk ((by rw [hg]; exact Nat.ne_of_lt (blk_lt BK198.ld) : gb198 ≠ gb200)); have n7_ := Aside0.mk ((by rw [hg]; exact Nat.ne_of_gt (blk_lt BK198.ld) : gb200 ≠ gb198)); have n8_ := Aside0.mk ((by rw [hg]; exact Nat.ne_of_lt (blk_lt BK199.ld) : gb199 ≠ gb200)); have n9_ := Aside0.mk ((by rw [hg]; exact Nat.ne_of_gt (blk_lt BK199.ld) : gb200 ≠ gb199)); clear BK198; clear BK199; clear HB; have BK198 := n0_; have BK199 := n1_; have HB := n2_; have BK200 := n3_; have GW200 := n4_; have GE200 := n5_; have NB198_200 := n6_; have NB200_198 := n7_; have NB199_200 := n8_; have NB200_199 := n9_; clear n0_ n1_ n2_ n3_ n4_ n5_ n6_ n7_ n8_ n9_; clear hb hbox hg)))
 (try simp only [Act.put, List.setIfInBounds_toArray, List.set_cons_zero, List.set_cons_succ])
 go_cut [22] (fun v22 wc => ∃ (kq : Nat) (x22_3 : Bool), v22 = .bool x22_3 ∧ Aside0 (trefoilref25_Right.j0 kq x22_3 a0_0 a0_1 a0_2 a0_3 a0_4 l1_0 l1_1 l1_2 l2_0 l2_1 l2_2 = some r) ∧ Aside0 (kq ≤ k) ∧ Aside0 (wc.heap[gb198]? = some (.cells #[.int .i64 a0_0, .int .i64 a0_1, .int .i64 a0_2, .int .i64 a0_3, .int .i64 a0_4] 23 (0, 0))) ∧ Aside0 (wc.heap[gb199]? = some (.cells #[(.slice A1_0 l1_0.length c1_0), (.slice A1_1 l1_1.length c1_1), (.slice A1_2 l1_2.length c1_2)] 26 (0, 0))) ∧ Aside0 (wc.heap[gb200]? = some (.cells #[(.slice A2_0 l2_0.length c2_0), (.slice A2_1 l2_1.length c2_1), (.slice A2_2 l2_2.length c2_2)] 26 (0, 0))) ∧ Aside0 (Below w.heap.size w wc))
 case first =>
  have H := HC4.out
  clear HC4
  by_cases c8 : a0_0 = 4
  ·rw [if_pos c8] at H
   have c8b0 : (a0_0 == 4) = true := beq_iff_eq.mpr c8
   have c8b1 : (a0_0 != 4) = false := bne_eq_false_iff_eq.mpr c8
   clear c8
   (first | rw [c8b0] | (simp only [i64_w, i32_w]; rw [c8b0]) | skip)
   replace H := Option.bind_eq_some_iff.mp H
   obtain ⟨t201, A90, H⟩ := H
   replace H : (if t201 = true then ((trefoilref09_Fits.f k a0_0 a0_1 a0_2 a0_3 a0_4 l2_0 l2_1 l2_2).bind fun t202 => (trefoilref25_Right.j0 k (!t202) a0_0 a0_1 a0_2 a0_3 a0_4 l1_0 l1_1 l1_2 l2_0 l2_1 l2_2)) else (trefoilref25_Right.j0 k true a0_0 a0_1 a0_2 a0_3 a0_4 l1_0 l1_1 l1_2 l2_0 l2_1 l2_2)) = some r := H
   have A9 := Aside0.mk A90
   clear A90
   by_cases c10 : t201 = true
   ·subst c10
    have H1 : ((trefoilref09_Fits.f k a0_0 a0_1 a0_2 a0_3 a0_4 l2_0 l2_1 l2_2).bind fun t202 => (trefoilref25_Right.j0 k (!t202) a0_0 a0_1 a0_2 a0_3 a0_4 l1_0 l1_1 l1_2 l2_0 l2_1 l2_2)) = some r := by rw [if_pos rfl] at H; exact H
    clear H
    have H := H1
    clear H1
    replace H := Option.bind_eq_some_iff.mp H
    obtain ⟨t202, A110, H⟩ := H
    replace H : (trefoilref25_Right.j0 k (!t202) a0_0 a0_1 a0_2 a0_3 a0_4 l1_0 l1_1 l1_2 l2_0 l2_1 l2_2) = some r := H
    have A11 := Aside0.mk A110
    clear A110
    have H' := Aside0.mk H
    clear H
    have hnb12 := NB198_199.out
    have hnc12 := NB199_198.out
    have hnb13 := NB198_200.out
    have hnc13 := NB200_198.out
    obtain ⟨hcz14_0, hcz14_1, hcz14_2, hcz14_3, hcz14_4, hfz14_0, hfz14_1, hfz14_2, hfz14_3, hfz14_4⟩ := cells_5 BK198.out
    have hnb15 := NB199_200.out
    have hnc15 := NB200_199.out
    obtain ⟨hcz16_0, hcz16_1, hcz16_2, hfz16_0, hfz16_1, hfz16_2⟩ := cells_3 BK199.out
    go_wp2_with (first | (go_at_call 50; (with_reducible refine (trefoilref09_Fits.calls k a0_0 a0_1 a0_2 a0_3 a0_4 (fun k_ => k_ < w.heap.size) _ _ l1_0 (fun k_ => k_ < w.heap.size) _ _ l1_1 (fun k_ => k_ < w.heap.size) _ _ l1_2 true _ ?side1 ?side2 ?side3 A9.out).mono ?_); (case side1 => exact Kd.V_mk HC1_0.out (Kd.F_below (Kd.C_F (Kd.heap_int .u64) HR1_0.out) HB.bl)); (case side2 => exact Kd.V_mk HC1_1.out (Kd.F_below (Kd.C_F (Kd.heap_int .u64) HR1_1.out) HB.bl)); (case side3 => exact Kd.V_mk HC1_2.out (Kd.F_below (Kd.C_F (Kd.heap_int .u64) HR1_2.out) HB.bl)); rintro e w17 ⟨rfl, hb⟩; replace BK198 := Aside0.mk (BK198.lk hb); replace BK199 := Aside0.mk (BK199.lk hb); replace BK200 := Aside0.mk (BK200.lk hb); replace HB := Aside0.mk (below_step HB.bl hb); (try clear hb); (try clear hb2); (try clear hk); (try clear hi); obtain ⟨hcz18_0, hcz18_1, hcz18_2, hcz18_3, hcz18_4, hfz18_0, hfz18_1, hfz18_2, hfz18_3, hfz18_4⟩ := cells_5 BK198.out; obtain ⟨hcz19_0, hcz19_1, hcz19_2, hfz19_0, hfz19_1, hfz19_2⟩ := cells_3 BK200.out) | (go_at_call 50; (with_reducible refine (trefoilref09_Fits.calls k a0_0 a0_1 a0_2 a0_3 a0_4 (fun k_ => k_ < w.heap.size) _ _ l2_0 (fun k_ => k_ < w.heap.size) _ _ l2_1 (fun k_ => k_ < w.heap.size) _ _ l2_2 t202 _ ?side1 ?side2 ?side3 A11.out).mono ?_); (case side1 => exact Kd.V_mk HC2_0.out (Kd.F_below (Kd.C_F (Kd.heap_int .u64) HR2_0.out) HB.bl)); (case side2 => exact Kd.V_mk HC2_1.out (Kd.F_below (Kd.C_F (Kd.heap_int .u64) HR2_1.out) HB.bl)); (case side3 => exact Kd.V_mk HC2_2.out (Kd.F_below (Kd.C_F (Kd.heap_int .u64) HR2_2.out) HB.bl)); rintro e w20 ⟨rfl, hb⟩; replace BK198 := Aside0.mk (BK198.lk hb); replace BK199 := Aside0.mk (BK199.lk hb); replace BK200 := Aside0.mk (BK200.lk hb); replace HB := Aside0.mk (below_step HB.bl hb); (try clear hb); (try clear hb2); (try clear hk); (try clear hi)))
    repeat (go_quiet (first | (go_at_call 50; (with_reducible refine (trefoilref09_Fits.calls k a0_0 a0_1 a0_2 a0_3 a0_4 (fun k_ => k_ < w.heap.size) _ _ l1_0 (fun k_ => k_ < w.heap.size) _ _ l1_1 (fun k_ => k_ < w.heap.size) _ _ l1_2 true _ ?side1 ?side2 ?side3 A9.out).mono ?_); (case side1 => exact Kd.V_mk HC1_0.out (Kd.F_below (Kd.C_F (Kd.heap_int .u64) HR1_0.out) HB.bl)); (case side2 => exact Kd.V_mk HC1_1.out (Kd.F_below (Kd.C_F (Kd.heap_int .u64) HR1_1.out) HB.bl)); (case side3 => exact Kd.V_mk HC1_2.out (Kd.F_below (Kd.C_F (Kd.heap_int .u64) HR1_2.out) HB.bl)); rintro e w17 ⟨rfl, hb⟩; replace BK198 := Aside0.mk (BK198.lk hb); replace BK199 := Aside0.mk (BK199.lk hb); replace BK200 := Aside0.mk (BK200.lk hb); replace HB := Aside0.mk (below_step HB.bl hb); (try clear hb); (try clear hb2); (try clear hk); (try clear hi); obtain ⟨hcz18_0, hcz18_1, hcz18_2, hcz18_3, hcz18_4, hfz18_0, hfz18_1, hfz18_2, hfz18_3, hfz18_4⟩ := cells_5 BK198.out; obtain ⟨hcz19_0, hcz19_1, hcz19_2, hfz19_0, hfz19_1, hfz19_2⟩ := cells_3 BK200.out) | (go_at_call 50; (with_reducible refine (trefoilref09_Fits.calls k a0_0 a0_1 a0_2 a0_3 a0_4 (fun k_ => k_ < w.heap.size) _ _ l2_0 (fun k_ => k_ < w.heap.size) _ _ l2_1 (fun k_ => k_ < w.heap.size) _ _ l2_2 t202 _ ?side1 ?side2 ?side3 A11.out).mono ?_); (case side1 => exact Kd.V_mk HC2_0.out (Kd.F_below (Kd.C_F (Kd.heap_int .u64) HR2_0.out) HB.bl)); (case side2 => exact Kd.V_mk HC2_1.out (Kd.F_below (Kd.C_F (Kd.heap_int .u64) HR2_1.out) HB.bl)); (case side3 => exact Kd.V_mk HC2_2.out (Kd.F_below (Kd.C_F (Kd.heap_int .u64) HR2_2.out) HB.bl)); rintro e w20 ⟨rfl, hb⟩; replace BK198 := Aside0.mk (BK198.lk hb); replace BK199 := Aside0.mk (BK199.lk hb); replace BK200 := Aside0.mk (BK200.lk hb); replace HB := Aside0.mk (below_step HB.bl hb); (try clear hb); (try clear hb2); (try clear hk); (try clear hi))); try go_wp2_with (first | (go_at_call 50; (with_reducible refine (trefoilref09_Fits.calls k a0_0 a0_1 a0_2 a0_3 a0_4 (fun k_ => k_ < w.heap.size) _ _ l1_0 (fun k_ => k_ < w.heap.size) _ _ l1_1 (fun k_ => k_ < w.heap.size) _ _ l1_2 true _ ?side1 ?side2 ?side3 A9.out).mono ?_); (case side1 => exact Kd.V_mk HC1_0.out (Kd.F_below (Kd.C_F (Kd.heap_int .u64) HR1_0.out) HB.bl)); (case side2 => exact Kd.V_mk HC1_1.out (Kd.F_below (Kd.C_F (Kd.heap_int .u64) HR1_1.out) HB.bl)); (case side3 => exact Kd.V_mk HC1_2.out (Kd.F_below (Kd.C_F (Kd.heap_int .u64) HR1_2.out) HB.bl)); rintro e w17 ⟨rfl, hb⟩; replace BK198 := Aside0.mk (BK198.lk hb); replace BK199 := Aside0.mk (BK199.lk hb); replace BK200 := Aside0.mk (BK200.lk hb); replace HB := Aside0.mk (below_step HB.bl hb); (try clear hb); (try clear hb2); (try clear hk); (try clear hi); obtain ⟨hcz18_0, hcz18_1, hcz18_2, hcz18_3, hcz18_4, hfz18_0, hfz18_1, hfz18_2, hfz18_3, hfz18_4⟩ := cells_5 BK198.out; obtain ⟨hcz19_0, hcz19_1, hcz19_2, hfz19_0, hfz19_1, hfz19_2⟩ := cells_3 BK200.out) | (go_at_call 50; (with_reducible refine (trefoilref09_Fits.calls k a0_0 a0_1 a0_2 a0_3 a0_4 (fun k_ => k_ < w.heap.size) _ _ l2_0 (fun k_ => k_ < w.heap.size) _ _ l2_1 (fun k_ => k_ < w.heap.size) _ _ l2_2 t202 _ ?side1 ?side2 ?side3 A11.out).mono ?_); (case side1 => exact Kd.V_mk HC2_0.out (Kd.F_below (Kd.C_F (Kd.heap_int .u64) HR2_0.out) HB.bl)); (case side2 => exact Kd.V_mk HC2_1.out (Kd.F_below (Kd.C_F (Kd.heap_int .u64) HR2_1.out) HB.bl)); (case side3 => exact Kd.V_mk HC2_2.out (Kd.F_below (Kd.C_F (Kd.heap_int .u64) HR2_2.out) HB.bl)); rintro e w20 ⟨rfl, hb⟩; replace BK198 := Aside0.mk (BK198.lk hb); replace BK199 := Aside0.mk (BK199.lk hb); replace BK200 := Aside0.mk (BK200.lk hb); replace HB := Aside0.mk (below_step HB.bl hb); (try clear hb); (try clear hb2); (try clear hk); (try clear hi))))
    go_meet
    case rel => exact ⟨_, (!t202), (zq35), H', ⟨zq40⟩, ⟨by (with_reducible repeat (first | refine blk_drewN ?_ _ | refine blk_drew ?_ | refine blk_alloc ?_ _)); exact BK198.out⟩, ⟨by (with_reducible repeat (first | refine blk_drewN ?_ _ | refine blk_drew ?_ | refine blk_alloc ?_ _)); exact BK199.out⟩, ⟨by (with_reducible repeat (first | refine blk_drewN ?_ _ | refine blk_drew ?_ | refine blk_alloc ?_ _)); exact BK200.out⟩, ⟨zq3⟩⟩
   ·replace c10 := Bool.eq_false_iff.mpr c10
    subst c10
    have H1 : (trefoilref25_Right.j0 k true a0_0 a0_1 a0_2 a0_3 a0_4 l1_0 l1_1 l1_2 l2_0 l2_1 l2_2) = some r := by rw [if_neg (show ¬ (false = true) by decide)] at H; exact H
    clear H
    have H := H1
    clear H1
    have H' := Aside0.mk H
    clear H
    have hnb21 := NB198_199.out
    have hnc21 := NB199_198.out
    have hnb22 := NB198_200.out
    have hnc22 := NB200_198.out
    obtain ⟨hcz23_0, hcz23_1, hcz23_2, hcz23_3, hcz23_4, hfz23_0, hfz23_1, hfz23_2, hfz23_3, hfz23_4⟩ := cells_5 BK198.out
    have hnb24 := NB199_200.out
    have hnc24 := NB200_199.out
    obtain ⟨hcz25_0, hcz25_1, hcz25_2, hfz25_0, hfz25_1, hfz25_2⟩ := cells_3 BK199.out
    go_wp2_with (first | (go_at_call 50; (with_reducible refine (trefoilref09_Fits.calls k a0_0 a0_1 a0_2 a0_3 a0_4 (fun k_ => k_ < w.heap.size) _ _ l1_0 (fun k_ => k_ < w.heap.size) _ _ l1_1 (fun k_ => k_ < w.heap.size) _ _ l1_2 false _ ?side1 ?side2 ?side3 A9.out).mono ?_); (case side1 => exact Kd.V_mk HC1_0.out (Kd.F_below (Kd.C_F (Kd.heap_int .u64) HR1_0.out) HB.bl)); (case side2 => exact Kd.V_mk HC1_1.out (Kd.F_below (Kd.C_F (Kd.heap_int .u64) HR1_1.out) HB.bl)); (case side3 => exact Kd.V_mk HC1_2.out (Kd.F_below (Kd.C_F (Kd.heap_int .u64) HR1_2.out) HB.bl)); rintro e w26 ⟨rfl, hb⟩; replace BK198 := Aside0.mk (BK198.lk hb); replace BK199 := Aside0.mk (BK199.lk hb); replace BK200 := Aside0.mk (BK200.lk hb); replace HB := Aside0.mk (below_step HB.bl hb); (try clear hb); (try clear hb2); (try clear hk); (try clear hi)))
    repeat (go_quiet (first | (go_at_call 50; (with_reducible refine (trefoilref09_Fits.calls k a0_0 a0_1 a0_2 a0_3 a0_4 (fun k_ => k_ < w.heap.size) _ _ l1_0 (fun k_ => k_ < w.heap.size) _ _ l1_1 (fun k_ => k_ < w.heap.size) _ _ l1_2 false _ ?side1 ?side2 ?side3 A9.out).mono ?_); (case side1 => exact Kd.V_mk HC1_0.out (Kd.F_below (Kd.C_F (Kd.heap_int .u64) HR1_0.out) HB.bl)); (case side2 => exact Kd.V_mk HC1_1.out (Kd.F_below (Kd.C_F (Kd.heap_int .u64) HR1_1.out) HB.bl)); (case side3 => exact Kd.V_mk HC1_2.out (Kd.F_below (Kd.C_F (Kd.heap_int .u64) HR1_2.out) HB.bl)); rintro e w26 ⟨rfl, hb⟩; replace BK198 := Aside0.mk (BK198.lk hb); replace BK199 := Aside0.mk (BK199.lk hb); replace BK200 := Aside0.mk (BK200.lk hb); replace HB := Aside0.mk (below_step HB.bl hb); (try clear hb); (try clear hb2); (try clear hk); (try clear hi))); try go_wp2_with (first | (go_at_call 50; (with_reducible refine (trefoilref09_Fits.calls k a0_0 a0_1 a0_2 a0_3 a0_4 (fun k_ => k_ < w.heap.size) _ _ l1_0 (fun k_ => k_ < w.heap.size) _ _ l1_1 (fun k_ => k_ < w.heap.size) _ _ l1_2 false _ ?side1 ?side2 ?side3 A9.out).mono ?_); (case side1 => exact Kd.V_mk HC1_0.out (Kd.F_below (Kd.C_F (Kd.heap_int .u64) HR1_0.out) HB.bl)); (case side2 => exact Kd.V_mk HC1_1.out (Kd.F_below (Kd.C_F (Kd.heap_int .u64) HR1_1.out) HB.bl)); (case side3 => exact Kd.V_mk HC1_2.out (Kd.F_below (Kd.C_F (Kd.heap_int .u64) HR1_2.out) HB.bl)); rintro e w26 ⟨rfl, hb⟩; replace BK198 := Aside0.mk (BK198.lk hb); replace BK199 := Aside0.mk (BK199.lk hb); replace BK200 := Aside0.mk (BK200.lk hb); replace HB := Aside0.mk (below_step HB.bl hb); (try clear hb); (try clear hb2); (try clear hk); (try clear hi))))
    go_meet
    case rel => exact ⟨_, (true), (zq35), H', ⟨zq40⟩, ⟨by (with_reducible repeat (first | refine blk_drewN ?_ _ | refine blk_drew ?_ | refine blk_alloc ?_ _)); exact BK198.out⟩, ⟨by (with_reducible repeat (first | refine blk_drewN ?_ _ | refine blk_drew ?_ | refine blk_alloc ?_ _)); exact BK199.out⟩, ⟨by (with_reducible repeat (first | refine blk_drewN ?_ _ | refine blk_drew ?_ | refine blk_alloc ?_ _)); exact BK200.out⟩, ⟨zq3⟩⟩
  ·rw [if_neg c8] at H
   have c8b0 : (a0_0 == 4) = false := beq_eq_false_iff_ne.mpr c8
   have c8b1 : (a0_0 != 4) = true := bne_iff_ne.mpr c8
   (first | rw [c8b0] | (simp only [i64_w, i32_w]; rw [c8b0]) | skip)
   have H' := Aside0.mk H
   clear H
   have hnb27 := NB198_199.out
   have hnc27 := NB199_198.out
   have hnb28 := NB198_200.out
   have hnc28 := NB200_198.out
   obtain ⟨hcz29_0, hcz29_1, hcz29_2, hcz29_3, hcz29_4, hfz29_0, hfz29_1, hfz29_2, hfz29_3, hfz29_4⟩ := cells_5 BK198.out
   go_wp2
   repeat (go_quiet (fail); try go_wp2)
   go_meet
   case rel => exact ⟨_, (true), (zq35), H', ⟨zq40⟩, ⟨by (with_reducible repeat (first | refine blk_drewN ?_ _ | refine blk_drew ?_ | refine blk_alloc ?_ _)); exact BK198.out⟩, ⟨by (with_reducible repeat (first | refine blk_drewN ?_ _ | refine blk_drew ?_ | refine blk_alloc ?_ _)); exact BK199.out⟩, ⟨by (with_reducible repeat (first | refine blk_drewN ?_ _ | refine blk_drew ?_ | refine blk_alloc ?_ _)); exact BK200.out⟩, ⟨zq3⟩⟩
 case rest =>
  clear HC4
  try clear c1
  try clear c2
  try clear p2
  try clear c8
  try clear c8b0
  try clear c8b1
  try clear c10
  try clear c12
  try clear c13
  try clear c15
  try clear c16
  try clear c21
  try clear c22
  try clear c24
  try clear c27
  try clear c28
  try clear hcz14_0
  try clear hcz14_1
  try clear hcz14_2
  try clear hcz14_3
  try clear hcz14_4
  try clear hcz16_0
  try clear hcz16_1
  try clear hcz16_2
  try clear hcz18_0
  try clear hcz18_1
  try clear hcz18_2
  try clear hcz18_3
  try clear hcz18_4
  try clear hcz19_0
  try clear hcz19_1
  try clear hcz19_2
  try clear hcz23_0
  try clear hcz23_1
  try clear hcz23_2
  try clear hcz23_3
  try clear hcz23_4
  try clear hcz25_0
  try clear hcz25_1
  try clear hcz25_2
  try clear hcz29_0
  try clear hcz29_1
  try clear hcz29_2
  try clear hcz29_3
  try clear hcz29_4
  try clear hfz14_0
  try clear hfz14_1
  try clear hfz14_2
  try clear hfz14_3
  try clear hfz14_4
  try clear hfz16_0
  try clear hfz16_1
  try clear hfz16_2
  try clear hfz18_0
  try clear hfz18_1
  try clear hfz18_2
  try clear hfz18_3
  try clear hfz18_4
  try clear hfz19_0
  try clear hfz19_1
  try clear hfz19_2
  try clear hfz23_0
  try clear hfz23_1
  try clear hfz23_2
  try clear hfz23_3
  try clear hfz23_4
  try clear hfz25_0
  try clear hfz25_1
  try clear hfz25_2
  try clear hfz29_0
  try clear hfz29_1
  try clear hfz29_2
  try clear hfz29_3
  try clear hfz29_4
  obtain ⟨kq, x22_3, rfl, HA, HJ3, BK198, BK199, BK200, HB⟩ := hcut
  cases kq with
  | zero => exact absurd HA.out (by simp [trefoilref25_Right.j0])
  | succ kj3 =>
   have H := HA.out
   clear HA
   simp only [trefoilref25_Right.j0] at H
   by_cases c30 : x22_3 = true
   ·subst c30
    have H1 : (some false) = some r := by rw [if_pos rfl] at H; exact H
    clear H
    have H := H1
    clear H1
    obtain rfl := Option.some.inj H
    go_wp2
    repeat (go_quiet (fail); try go_wp2)
    go_ret
    exact ⟨zq30, zq3⟩
   ·replace c30 := Bool.eq_false_iff.mpr c30
    subst c30
    have H1 : (if 0 < (l1_0.length : Int) then (if 0 < (l2_0.length : Int) then (if (rd l1_0 0) = (rd l2_0 0) then (if 0 < (l1_1.length : Int) then (if 0 < (l2_1.length : Int) then ((trefoilref03_Add.f kj3 a0_1 (rd l1_1 0) (rd l2_1 0)).bind fun t207 => (some (t207 == 0))) else (none)) else (none)) else (if 0 < (l1_1.length : Int) then (if 0 < (l2_1.length : Int) then ((trefoilref03_Add.f kj3 a0_1 (rd l1_1 0) (rd l2_1 0)).bind fun t210 => (some (t210 == 1))) else (none)) else (none))) else (none)) else (none)) = some r := by rw [if_neg (show ¬ (false = true) by decide)] at H; exact H
    clear H
    have H := H1
    clear H1
    by_cases c31 : 0 < (l1_0.length : Int)
    ·rw [if_pos c31] at H
     have c31b0 : decide (0 < (l1_0.length : Int)) = true := decide_eq_true c31
     have c31b1 : decide (0 < l1_0.length) = true := decide_eq_true (by omega)
     clear c31
     by_cases c32 : 0 < (l2_0.length : Int)
     ·rw [if_pos c32] at H
      have c32b0 : decide (0 < (l2_0.length : Int)) = true := decide_eq_true c32
      have c32b1 : decide (0 < l2_0.length) = true := decide_eq_true (by omega)
      clear c32
      by_cases c33 : (rd l1_0 0) = (rd l2_0 0)
      ·rw [if_pos c33] at H
       have c33b0 : ((rd l1_0 0) == (rd l2_0 0)) = true := beq_iff_eq.mpr c33
       have c33b1 : ((rd l1_0 0) != (rd l2_0 0)) = false := bne_eq_false_iff_eq.mpr c33
       clear c33
       by_cases c34 : 0 < (l1_1.length : Int)
       ·rw [if_pos c34] at H
        have c34b0 : decide (0 < (l1_1.length : Int)) = true := decide_eq_true c34
        have c34b1 : decide (0 < l1_1.length) = true := decide_eq_true (by omega)
        clear c34
        by_cases c35 : 0 < (l2_1.length : Int)
        ·rw [if_pos c35] at H
         have c35b0 : decide (0 < (l2_1.length : Int)) = true := decide_eq_true c35
         have c35b1 : decide (0 < l2_1.length) = true := decide_eq_true (by omega)
         clear c35
         replace H := Option.bind_eq_some_iff.mp H
         obtain ⟨t207, A360, H⟩ := H
         replace H : (some (t207 == 0)) = some r := H
         have A36 := Aside0.mk A360
         clear A360
         obtain rfl := Option.some.inj H
         have hnb37 := NB199_198.out
         have hnc37 := NB198_199.out
         have hnb38 := NB199_200.out
         have hnc38 := NB200_199.out
         obtain ⟨hcz39_0, hcz39_1, hcz39_2, hfz39_0, hfz39_1, hfz39_2⟩ := cells_3 BK199.out
         have p203 : 0 ≤ (0 : Int) := (by omega)
         have q203 : 0 < (l1_0.length : Int) := of_decide_eq_true (zq34)
         obtain ⟨ad203, e203, hx203_0⟩ := Kd.at_int HR1_0.out 0 p203 q203
         cases e203
         have qi203 : (0 < l1_0.length) = True := eq_true (by omega)
         (try rw [show ((0 : Int)).toNat = 0 from rfl] at hx203_0)
         (try rw [Addr.add_zero'] at hx203_0)
         replace hx203_0 := (HB.out.cell (World.block_lt_of_cell? w _ hx203_0)).trans hx203_0
         replace p203 := eq_true p203
         replace q203 := eq_true q203
         have hnb40 := NB200_198.out
         have hnc40 := NB198_200.out
         obtain ⟨hcz41_0, hcz41_1, hcz41_2, hfz41_0, hfz41_1, hfz41_2⟩ := cells_3 BK200.out
         have p204 : 0 ≤ (0 : Int) := (by omega)
         have q204 : 0 < (l2_0.length : Int) := of_decide_eq_true (zq34)
         obtain ⟨ad204, e204, hx204_0⟩ := Kd.at_int HR2_0.out 0 p204 q204
         cases e204
         have qi204 : (0 < l2_0.length) = True := eq_true (by omega)
         (try rw [show ((0 : Int)).toNat = 0 from rfl] at hx204_0)
         (try rw [Addr.add_zero'] at hx204_0)
         replace hx204_0 := (HB.out.cell (World.block_lt_of_cell? w _ hx204_0)).trans hx204_0
         replace p204 := eq_true p204
         replace q204 := eq_true q204
         obtain ⟨hcz42_0, hcz42_1, hcz42_2, hcz42_3, hcz42_4, hfz42_0, hfz42_1, hfz42_2, hfz42_3, hfz42_4⟩ := cells_5 BK198.out
         have p205 : 0 ≤ (0 : Int) := (by omega)
         have q205 : 0 < (l1_1.length : Int) := of_decide_eq_true (zq34)
         obtain ⟨ad205, e205, hx205_0⟩ := Kd.at_int HR1_1.out 0 p205 q205
         cases e205
         have qi205 : (0 < l1_1.length) = True := eq_true (by omega)
         (try rw [show ((0 : Int)).toNat = 0 from rfl] at hx205_0)
         (try rw [Addr.add_zero'] at hx205_0)
         replace hx205_0 := (HB.out.cell (World.block_lt_of_cell? w _ hx205_0)).trans hx205_0
         replace p205 := eq_true p205
         replace q205 := eq_true q205
         have p206 : 0 ≤ (0 : Int) := (by omega)
         have q206 : 0 < (l2_1.length : Int) := of_decide_eq_true (zq34)
         obtain ⟨ad206, e206, hx206_0⟩ := Kd.at_int HR2_1.out 0 p206 q206
         cases e206
         have qi206 : (0 < l2_1.length) = True := eq_true (by omega)
         (try rw [show ((0 : Int)).toNat = 0 from rfl] at hx206_0)
         (try rw [Addr.add_zero'] at hx206_0)
         replace hx206_0 := (HB.out.cell (World.block_lt_of_cell? w _ hx206_0)).trans hx206_0
         replace p206 := eq_true p206
         replace q206 := eq_true q206
         go_wp2_with (first | (go_at_call 29; (with_reducible refine (trefoilref03_Add.calls kj3 a0_1 (rd l1_1 0) (rd l2_1 0) t207 _ A36.out).mono ?_); rintro e w' ⟨rfl, ⟨nd, rfl⟩⟩; (try first | exact ⟨rfl, _, World.drewN_drewN _ _ _⟩ | exact ⟨rfl, _, Eq.trans (World.drewN_drewN _ _ _) (congrArg (World.drewN _) (Nat.add_assoc _ _ _))⟩)))
         repeat (go_quiet (first | (go_at_call 29; (with_reducible refine (trefoilref03_Add.calls kj3 a0_1 (rd l1_1 0) (rd l2_1 0) t207 _ A36.out).mono ?_); rintro e w' ⟨rfl, ⟨nd, rfl⟩⟩; (try first | exact ⟨rfl, _, World.drewN_drewN _ _ _⟩ | exact ⟨rfl, _, Eq.trans (World.drewN_drewN _ _ _) (congrArg (World.drewN _) (Nat.add_assoc _ _ _))⟩))); try go_wp2_with (first | (go_at_call 29; (with_reducible refine (trefoilref03_Add.calls kj3 a0_1 (rd l1_1 0) (rd l2_1 0) t207 _ A36.out).mono ?_); rintro e w' ⟨rfl, ⟨nd, rfl⟩⟩; (try first | exact ⟨rfl, _, World.drewN_drewN _ _ _⟩ | exact ⟨rfl, _, Eq.trans (World.drewN_drewN _ _ _) (congrArg (World.drewN _) (Nat.add_assoc _ _ _))⟩))))
         go_ret
         exact ⟨zq30, zq3⟩
        ·rw [if_neg c35] at H
         exact absurd H (by simp)
       ·rw [if_neg c34] at H
        exact absurd H (by simp)
      ·rw [if_neg c33] at H
       have c33b0 : ((rd l1_0 0) == (rd l2_0 0)) = false := beq_eq_false_iff_ne.mpr c33
       have c33b1 : ((rd l1_0 0) != (rd l2_0 0)) = true := bne_iff_ne.mpr c33
       by_cases c43 : 0 < (l1_1.length : Int)
       ·rw [if_pos c43] at H
        have c43b0 : decide (0 < (l1_1.length : Int)) = true := decide_eq_true c43
        have c43b1 : decide (0 < l1_1.length) = true := decide_eq_true (by omega)
        clear c43
        by_cases c44 : 0 < (l2_1.length : Int)
        ·rw [if_pos c44] at H
         have c44b0 : decide (0 < (l2_1.length : Int)) = true := decide_eq_true c44
         have c44b1 : decide (0 < l2_1.length) = true := decide_eq_true (by omega)
         clear c44
         replace H := Option.bind_eq_some_iff.mp H
         obtain ⟨t210, A450, H⟩ := H
         replace H : (some (t210 == 1)) = some r := H
         have A45 := Aside0.mk A450
         clear A450
         obtain rfl := Option.some.inj H
         have hnb46 := NB199_198.out
         have hnc46 := NB198_199.out
         have hnb47 := NB199_200.out
         have hnc47 := NB200_199.out
         obtain ⟨hcz48_0, hcz48_1, hcz48_2, hfz48_0, hfz48_1, hfz48_2⟩ := cells_3 BK199.out
         have p203 : 0 ≤ (0 : Int) := (by omega)
         have q203 : 0 < (l1_0.length : Int) := of_decide_eq_true (zq34)
         obtain ⟨ad203, e203, hx203_0⟩ := Kd.at_int HR1_0.out 0 p203 q203
         cases e203
         have qi203 : (0 < l1_0.length) = True := eq_true (by omega)
         (try rw [show ((0 : Int)).toNat = 0 from rfl] at hx203_0)
         (try rw [Addr.add_zero'] at hx203_0)
         replace hx203_0 := (HB.out.cell (World.block_lt_of_cell? w _ hx203_0)).trans hx203_0
         replace p203 := eq_true p203
         replace q203 := eq_true q203
         have hnb49 := NB200_198.out
         have hnc49 := NB198_200.out
         obtain ⟨hcz50_0, hcz50_1, hcz50_2, hfz50_0, hfz50_1, hfz50_2⟩ := cells_3 BK200.out
         have p204 : 0 ≤ (0 : Int) := (by omega)
         have q204 : 0 < (l2_0.length : Int) := of_decide_eq_true (zq34)
         obtain ⟨ad204, e204, hx204_0⟩ := Kd.at_int HR2_0.out 0 p204 q204
         cases e204
         have qi204 : (0 < l2_0.length) = True := eq_true (by omega)
         (try rw [show ((0 : Int)).toNat = 0 from rfl] at hx204_0)
         (try rw [Addr.add_zero'] at hx204_0)
         replace hx204_0 := (HB.out.cell (World.block_lt_of_cell? w _ hx204_0)).trans hx204_0
         replace p204 := eq_true p204
         replace q204 := eq_true q204
         obtain ⟨hcz51_0, hcz51_1, hcz51_2, hcz51_3, hcz51_4, hfz51_0, hfz51_1, hfz51_2, hfz51_3, hfz51_4⟩ := cells_5 BK198.out
         have p208 : 0 ≤ (0 : Int) := (by omega)
         have q208 : 0 < (l1_1.length : Int) := of_decide_eq_true (zq34)
         obtain ⟨ad208, e208, hx208_0⟩ := Kd.at_int HR1_1.out 0 p208 q208
         cases e208
         have qi208 : (0 < l1_1.length) = True := eq_true (by omega)
         (try rw [show ((0 : Int)).toNat = 0 from rfl] at hx208_0)
         (try rw [Addr.add_zero'] at hx208_0)
         replace hx208_0 := (HB.out.cell (World.block_lt_of_cell? w _ hx208_0)).trans hx208_0
         replace p208 := eq_true p208
         replace q208 := eq_true q208
         have p209 : 0 ≤ (0 : Int) := (by omega)
         have q209 : 0 < (l2_1.length : Int) := of_decide_eq_true (zq34)
         obtain ⟨ad209, e209, hx209_0⟩ := Kd.at_int HR2_1.out 0 p209 q209
         cases e209
         have qi209 : (0 < l2_1.length) = True := eq_true (by omega)
         (try rw [show ((0 : Int)).toNat = 0 from rfl] at hx209_0)
         (try rw [Addr.add_zero'] at hx209_0)
         replace hx209_0 := (HB.out.cell (World.block_lt_of_cell? w _ hx209_0)).trans hx209_0
         replace p209 := eq_true p209
         replace q209 := eq_true q209
         go_wp2_with (first | (go_at_call 29; (with_reducible refine (trefoilref03_Add.calls kj3 a0_1 (rd l1_1 0) (rd l2_1 0) t210 _ A45.out).mono ?_); rintro e w' ⟨rfl, ⟨nd, rfl⟩⟩; (try first | exact ⟨rfl, _, World.drewN_drewN _ _ _⟩ | exact ⟨rfl, _, Eq.trans (World.drewN_drewN _ _ _) (congrArg (World.drewN _) (Nat.add_assoc _ _ _))⟩)))
         repeat (go_quiet (first | (go_at_call 29; (with_reducible refine (trefoilref03_Add.calls kj3 a0_1 (rd l1_1 0) (rd l2_1 0) t210 _ A45.out).mono ?_); rintro e w' ⟨rfl, ⟨nd, rfl⟩⟩; (try first | exact ⟨rfl, _, World.drewN_drewN _ _ _⟩ | exact ⟨rfl, _, Eq.trans (World.drewN_drewN _ _ _) (congrArg (World.drewN _) (Nat.add_assoc _ _ _))⟩))); try go_wp2_with (first | (go_at_call 29; (with_reducible refine (trefoilref03_Add.calls kj3 a0_1 (rd l1_1 0) (rd l2_1 0) t210 _ A45.out).mono ?_); rintro e w' ⟨rfl, ⟨nd, rfl⟩⟩; (try first | exact ⟨rfl, _, World.drewN_drewN _ _ _⟩ | exact ⟨rfl, _, Eq.trans (World.drewN_drewN _ _ _) (congrArg (World.drewN _) (Nat.add_assoc _ _ _))⟩))))
         go_ret
         exact ⟨zq30, zq3⟩
        ·rw [if_neg c44] at H
         exact absurd H (by simp)
       ·rw [if_neg c43] at H
        exact absurd H (by simp)
     ·rw [if_neg c32] at H
      exact absurd H (by simp)
    ·rw [if_neg c31] at H
     exact absurd H (by simp)

/-! ### ring_Mul: function 55 -/
def ring_Mul.f (a0 : Int) (a1 : Int) (a2 : Int) : Option (Int) := (ring_mask.f a0).bind fun t221 => (some (Go.bits .and .u64 (IntKind.u64.wrap (a1 * a2)) t221))
set_option maxHeartbeats 8000000 in
set_option maxRecDepth 100000 in
theorem ring_Mul.calls (a0 : Int) (a1 : Int) (a2 : Int) (r : Int) (w : World) (h : ring_Mul.f a0 a1 a2 = some r) :
  Calls Try.prog 55 #[.int .i64 a0, .int .u64 a1, .int .u64 a2] w fun e w' => e = .returned (.int .u64 r) ∧ Drawn0 w w' := by
 have H : ((ring_mask.f a0).bind fun t221 => (some (Go.bits .and .u64 (IntKind.u64.wrap (a1 * a2)) t221))) = some r := h
 clear h
 replace H := Option.bind_eq_some_iff.mp H
 obtain ⟨t221, A40, H⟩ := H
 replace H : (some (Go.bits .and .u64 (IntKind.u64.wrap (a1 * a2)) t221)) = some r := H
 have A4 := Aside0.mk A40
 clear A40
 obtain rfl := Option.some.inj H
 go_enter Try.func55, Try.ntmps55
 go_wp2_with (first | ((with_reducible refine gate_callee (f := 90) rfl ?_); refine goesL_ (some 11) rfl rfl Try.func90 (zq42) rfl #[.int .i64 a0] rfl (zq21) ?_; (with_reducible refine (ring_mask.calls a0 t221 _ A4.out).mono ?_); rintro e w' ⟨rfl, ⟨nd, rfl⟩⟩; refine ⟨_, rfl, ?_⟩))
 go_ret
 exact ⟨zq35, zq33⟩

/-! ### trefoilref22_Sum: function 57 -/
def trefoilref22_Sum.l0 : Nat → Int → List Int → List Int → List Int → Int → Option (List Int)
 | 0, _, _, _, _, _ => none
 | k + 1, x0, x1, x2, x7, x8 => if x8 < (x1.length : Int) then (if x8 < (x2.length : Int) then (if 0 ≤ x8 then ((trefoilref03_Add.f k x0 (rd x1 x8) (rd x2 x8)).bind fun t280 => (if x7.length < 17592186044416 then (trefoilref22_Sum.l0 k x0 x1 x2 (x7 ++ [t280]) (wrap64 (x8 + 1))) else (none))) else (none)) else (some x7)) else (some x7)
def trefoilref22_Sum.f (k : Nat) (a0 : Int) (l1 : List Int) (l2 : List Int) : Option (List Int) := trefoilref22_Sum.l0 k a0 l1 l2 ([] : List Int) 0
def trefoilref22_Sum.T5 : Bool × List (List Nat × List Nat) := (true, [([], []), ([], []), ([], []), ([], []), ([2, 3], [2, 3]), ([4], [4]), ([], []), ([], []), ([6, 7], [6, 7]), ([8], [8]), ([1, 5, 9], [1, 5, 9]), ([10], [10]), ([0, 11, 10], [0, 11]), ([12, 12, 0, 1, 2, 3, 4, 5, 6, 7, 8, 9, 10, 11, 12], [0, 12])])
def trefoilref22_Sum.B5 : List Nat := [0, 0, 0, 0, 12, 28, 0, 0, 192, 448, 1022, 2046, 4095, 8191]
theorem trefoilref22_Sum.tab5 : rtab .any (opsOf Try.f57 5) = trefoilref22_Sum.T5 := by kernel_rfl
theorem trefoilref22_Sum.bits5 : waitsOk trefoilref22_Sum.T5.2 trefoilref22_Sum.B5 = true := by kernel_rfl
set_option maxHeartbeats 8000000 in
set_option maxRecDepth 100000 in
theorem trefoilref22_Sum.calls (k : Nat) (a0 : Int) (A1 : Option Addr) (c1 : Nat) (l1 : List Int) (A2 : Option Addr) (c2 : Nat) (l2 : List Int) (r : List Int) (w : World) (hr1 : Kd.C (Kd.int .u64) w A1 l1.length l1) (hc1 : l1.length ≤ c1) (hr2 : Kd.C (Kd.int .u64) w A2 l2.length l2) (hc2 : l2.length ≤ c2) (h : trefoilref22_Sum.f k a0 l1 l2 = some r) :
  Calls Try.prog 57 #[.int .i64 a0, .slice A1 l1.length c1, .slice A2 l2.length c2] w fun e w' => ∃ v0_ : Value, e = .returned (v0_) ∧ Kd.R (Kd.int .u64) 35 w' w.heap.size (fun _ => True) v0_ r ∧ Below w.heap.size w w' := by
 have HR1 := Aside0.mk hr1
 have HC1 := Aside0.mk hc1
 clear hr1 hc1
 have HR2 := Aside0.mk hr2
 have HC2 := Aside0.mk hc2
 clear hr2 hc2
 have HB := Aside0.mk (Below.refl w.heap.size w)
 have H : (trefoilref22_Sum.l0 k a0 l1 l2 ([] : List Int) 0) = some r := h
 clear h
 have H' := Aside0.mk H
 clear H
 go_enter Try.func57, Try.ntmps57
 go_wp2
 go_loopg [7, 8] k (fun kq v7 v8 w' => ∃ (x7_1 : List Int) (x8_1 : Int), v8 = .int .i64 x8_1 ∧ Aside0 (trefoilref22_Sum.l0 kq a0 l1 l2 x7_1 x8_1 = some r) ∧ Aside0 (kq ≤ k) ∧ Aside0 (Kd.R (Kd.int .u64) 35 w' w.heap.size (fun _ => True) v7 x7_1) ∧ Aside0 (Below w.heap.size w w'))
 case atStart => exact ⟨(([] : List Int)), (0), (zq35), H', ⟨Nat.le_refl _⟩, ⟨zq20⟩, ⟨HB.bl⟩⟩
 case round =>
  clear H'
  try clear c1
  try clear c2
  try clear p2
  obtain ⟨x7_1, x8_1, rfl, HA, HK1, HO_7, HB⟩ := hrel
  cases gk with
  | zero => exact absurd HA.out (by simp [trefoilref22_Sum.l0])
  | succ k1 =>
   have H := HA.out
   clear HA
   simp only [trefoilref22_Sum.l0] at H
   by_cases c4 : x8_1 < (l1.length : Int)
   ·rw [if_pos c4] at H
    have c4b0 : decide (x8_1 < (l1.length : Int)) = true := decide_eq_true c4
    clear c4
    by_cases c5 : x8_1 < (l2.length : Int)
    ·rw [if_pos c5] at H
     have c5b0 : decide (x8_1 < (l2.length : Int)) = true := decide_eq_true c5
     clear c5
     by_cases c6 : 0 ≤ x8_1
     ·rw [if_pos c6] at H
      have c6b0 : decide (0 ≤ x8_1) = true := decide_eq_true c6
      clear c6
      replace H := Option.bind_eq_some_iff.mp H
      obtain ⟨t280, A70, H⟩ := H
      replace H : (if x7_1.length < 17592186044416 then (trefoilref22_Sum.l0 k1 a0 l1 l2 (x7_1 ++ [t280]) (wrap64 (x8_1 + 1))) else (none)) = some r := H
      have A7 := Aside0.mk A70
      clear A70
      by_cases c8 : x7_1.length < 17592186044416
      ·rw [if_pos c8] at H
       have LMc8 := Aside0.mk c8
       clear c8
       obtain ⟨y281, hy281⟩ : ∃ y_ : List Int, y_ = (x7_1 ++ [t280]) := ⟨_, rfl⟩
       replace H : (trefoilref22_Sum.l0 k1 a0 l1 l2 y281 (wrap64 (x8_1 + 1))) = some r := by first | (rw [hy281]; with_reducible exact H) | (have H2_ := (Option.bind_some _ _).symm.trans H; rw [hy281]; with_reducible exact H2_) | (have H2_ := (Option.bind_some _ _).symm.trans H; with_reducible exact H2_) | with_reducible exact H | (rw [hy281]; exact H) | exact H
       have Ny281 := Aside0.mk hy281
       clear hy281
       have H' := Aside0.mk H
       clear H
       try go_wp2
       have n0_ := Aside0.mk (Kd.R_drew HO_7.out)
       have n1_ := Aside0.mk (below_drew1 HB.out)
       clear HO_7
       clear HB
       have HO_7 := n0_
       have HB := n1_
       clear n0_ n1_
       have p278 : 0 ≤ (x8_1 : Int) := of_decide_eq_true (zq34)
       have q278 : x8_1 < (l1.length : Int) := of_decide_eq_true (zq34)
       obtain ⟨ad278, e278, hx278_0⟩ := Kd.at_int HR1.out x8_1 p278 q278
       have hw278_0 := hx278_0
       cases e278
       replace hx278_0 := (HB.out.cell (World.block_lt_of_cell? w _ hx278_0)).trans hx278_0
       replace p278 := eq_true p278
       replace q278 := eq_true q278
       have p279 : 0 ≤ (x8_1 : Int) := of_decide_eq_true (zq34)
       have q279 : x8_1 < (l2.length : Int) := of_decide_eq_true (zq34)
       obtain ⟨ad279, e279, hx279_0⟩ := Kd.at_int HR2.out x8_1 p279 q279
       have hw279_0 := hx279_0
       cases e279
       replace hx279_0 := (HB.out.cell (World.block_lt_of_cell? w _ hx279_0)).trans hx279_0
       replace p279 := eq_true p279
       replace q279 := eq_true q279
       refine start_ (n := 14) (S := fun w' => w'.cell? (ad278.add (x8_1).toNat) = some (.int .u64 (rd l1 x8_1)) ∧ w'.cell? (ad279.add (x8_1).toNat) = some (.int .u64 (rd l2 x8_1))) (ds := []) #[false, false, false, false, false, false, false, false, false, false, false, false, false, false] (zq42) rfl rfl ⟨((HB.out.cell (World.block_lt_of_cell? w _ hw278_0)).trans hw278_0), ((HB.out.cell (World.block_lt_of_cell? w _ hw279_0)).trans hw279_0)⟩ (fun hHeld => ?_); refine with_tabW trefoilref22_Sum.tab5 trefoilref22_Sum.bits5 (fun HT_ HW_ => ?_)
       generalize wr.drew = w9 at HO_7 HB hx278_0 hx279_0 hHeld ⊢
       refine pure_ (i := 0) (N := some 21) (v := ?_) (a' := ?_) #[true, false, false, false, false, false, false, false, false, false, false, false, false, false] rfl rfl (any_of HT_.out (zq42)) (fun _ _ _ h => h) (Or.inl ⟨by rfl, ?_⟩) ?_ ?_; rotate_left; exact zs0; rotate_left; exact zs1
       refine pure_ (i := 1) (N := some 22) (v := ?_) (a' := ?_) #[true, true, false, false, false, false, false, false, false, false, false, false, false, false] rfl rfl (any_of HT_.out (zq42)) (fun _ _ _ h => h) (Or.inl ⟨by rfl, ?_⟩) ?_ ?_; rotate_left; exact zs0; rotate_left; exact zs1
       refine pure_ (i := 2) (N := some 23) (v := ?_) (a' := ?_) #[true, true, true, false, false, false, false, false, false, false, false, false, false, false] rfl rfl (any_of HT_.out (zq42)) (fun _ _ _ h => h) (Or.inl ⟨by rfl, ?_⟩) ?_ ?_; rotate_left; exact zs0; rotate_left; exact zs1
       refine pure_ (i := 3) (N := some 24) (v := ?_) (a' := ?_) #[true, true, true, true, false, false, false, false, false, false, false, false, false, false] rfl rfl (any_of HT_.out (zq42)) (fun _ _ _ h => h) (Or.inl ⟨by rfl, ?_⟩) ?_ ?_; rotate_left; exact zs0; rotate_left; exact zs1
       refine pure_ (i := 4) (N := some 25) (v := ?_) (a' := ?_) #[true, true, true, true, true, false, false, false, false, false, false, false, false, false] rfl rfl (any_of HT_.out (zq42)) (fun _ _ _ h => h) (Or.inl ⟨by rfl, ?_⟩) ?_ ?_; rotate_left; exact zs0; rotate_left; exact zs1
       refine pure_ (i := 6) (N := some 27) (v := ?_) (a' := ?_) #[true, true, true, true, true, false, true, false, false, false, false, false, false, false] rfl rfl (any_of HT_.out (zq42)) (fun _ _ _ h => h) (Or.inl ⟨by rfl, ?_⟩) ?_ ?_; rotate_left; exact zs0; rotate_left; exact zs1
       refine pure_ (i := 7) (N := some 28) (v := ?_) (a' := ?_) #[true, true, true, true, true, false, true, true, false, false, false, false, false, false] rfl rfl (any_of HT_.out (zq42)) (fun _ _ _ h => h) (Or.inl ⟨by rfl, ?_⟩) ?_ ?_; rotate_left; exact zs0; rotate_left; exact zs1
       refine pure_ (i := 8) (N := some 29) (v := ?_) (a' := ?_) #[true, true, true, true, true, false, true, true, true, false, false, false, false, false] rfl rfl (any_of HT_.out (zq42)) (fun _ _ _ h => h) (Or.inl ⟨by rfl, ?_⟩) ?_ ?_; rotate_left; exact zs0; rotate_left; exact zs1
       refine take_ (i := 5) (N := some 26) (v := ?_) (a' := ?_) #[true, true, true, true, true, true, true, true, true, false, false, false, false, false] rfl rfl (take_ofW HT_.out HW_.out (zq42)) (fun _ _ _ h => h) (Or.inl ⟨by rfl, ?_⟩) hHeld ?_ ?_
       rotate_left
       ·rintro w' ⟨s0, s1⟩
        go_simp
        with_reducible rfl
       rotate_left
       exact zs1
       refine take_ (i := 9) (N := some 30) (v := ?_) (a' := ?_) #[true, true, true, true, true, true, true, true, true, true, false, false, false, false] rfl rfl (take_ofW HT_.out HW_.out (zq42)) (fun _ _ _ h => h) (Or.inl ⟨by rfl, ?_⟩) hHeld ?_ ?_
       rotate_left
       ·rintro w' ⟨s0, s1⟩
        go_simp
        with_reducible rfl
       rotate_left
       exact zs1
       refine one_ (i := 10) (N := some 31) #[true, true, true, true, true, true, true, true, true, true, true, false, false, false] rfl rfl (one_of HT_.out (zq42)) (by decide) (fun K hK => ?_)
       refine goes_ Try.func29 (zq42) rfl #[.int .i64 a0, .int .u64 (rd l1 x8_1), .int .u64 (rd l2 x8_1)] (by rfl) rfl rfl (zq21) ?_
       with_reducible refine (trefoilref03_Add.calls k1 a0 (rd l1 x8_1) (rd l2 x8_1) t280 _ A7.out).mono ?_
       rintro e w' ⟨rfl, ⟨nd, rfl⟩⟩
       refine ⟨_, rfl, ?_⟩
       refine hK.out _ _ ⟨((HB.out.cell (World.block_lt_of_cell? w _ hw278_0)).trans hw278_0), ((HB.out.cell (World.block_lt_of_cell? w _ hw279_0)).trans hw279_0)⟩ (fun hHeld => ?_)
       clear hK K
       refine norm_ (a' := ?_) ?_ ?_
       rotate_left
       ·show Act.put _ (some 31) _ = _
        simp only [Act.put, List.setIfInBounds_toArray, List.set_cons_zero, List.set_cons_succ, i64_w, i32_w]
        rfl
       refine one_ (i := 11) (N := some 32) #[true, true, true, true, true, true, true, true, true, true, true, true, false, false] rfl rfl (one_of HT_.out (zq42)) (by decide) (fun K hK => ?_)
       refine value_ (w1 := ?_) (v := ?_) (by rfl) rfl ?_ ?_
       rotate_left 2
       ·go_simp
        constructor
        ·rfl
        ·rfl
       refine hK.out _ _ ⟨(World.cell?_alloc_lt _ _ _ (World.block_lt_of_cell? _ _ (((HB.out.cell (World.block_lt_of_cell? w _ hw278_0)).trans hw278_0)))).trans (((HB.out.cell (World.block_lt_of_cell? w _ hw278_0)).trans hw278_0)), (World.cell?_alloc_lt _ _ _ (World.block_lt_of_cell? _ _ (((HB.out.cell (World.block_lt_of_cell? w _ hw279_0)).trans hw279_0)))).trans (((HB.out.cell (World.block_lt_of_cell? w _ hw279_0)).trans hw279_0))⟩ (fun hHeld => ?_)
       clear hK K
       refine norm_ (a' := ?_) ?_ ?_
       rotate_left
       ·show Act.put _ (some 32) _ = _
        simp only [Act.put, List.setIfInBounds_toArray, List.set_cons_zero, List.set_cons_succ, i64_w, i32_w]
        rfl
       refine one_ (i := 12) (N := some 33) #[true, true, true, true, true, true, true, true, true, true, true, true, true, false] rfl rfl (one_of HT_.out (zq42)) (by decide) (fun K hK => ?_)
       refine Kd.R_append_step (Kd.int .u64) (w0 := w) w.heap.size (by rfl) (.tmp 21) (.tmp 32) 24 35 (.int .u64 0) 8 rfl Try.underlying24 info35 rfl (by decide) (by omega) u7 x7_1 t280 [.int .u64 t280] (fun _ => True) (fun _ => False) rfl rfl ?aP (fun _ hk => hk.elim) ?aF ?aO ?aB ?aS ?aL ?_
       (case aP => exact rfl)
       (case aB => exact HB.bl)
       (case aF => exact (fun _ _ => trivial))
       (case aO => exact HO_7.r)
       (case aS => exact (below_size HB.bl))
       (case aL => have := LMc8.out; omega)
       intro v282 w10 ho hb hg hat
       rw [← Ny281.out] at ho
       have n0_ := Aside0.mk (hb)
       have n1_ := Aside0.mk (ho)
       clear HB
       clear HO_7
       have HB := n0_
       have HO283 := n1_
       clear n0_ n1_
       clear ho hb hg hat
       refine hK.out _ _ ⟨((HB.out.cell (World.block_lt_of_cell? w _ hw278_0)).trans hw278_0), ((HB.out.cell (World.block_lt_of_cell? w _ hw279_0)).trans hw279_0)⟩ (fun hHeld => ?_)
       clear hK K
       refine norm_ (a' := ?_) ?_ ?_
       rotate_left
       ·show Act.put _ (some 33) _ = _
        simp only [Act.put, List.setIfInBounds_toArray, List.set_cons_zero, List.set_cons_succ, i64_w, i32_w]
        rfl
       refine pure_ (i := 13) (N := some 7) (v := ?_) (a' := ?_) #[true, true, true, true, true, true, true, true, true, true, true, true, true, true] rfl rfl (any_of HT_.out (zq42)) (fun _ _ _ h => h) (Or.inl ⟨by rfl, ?_⟩) ?_ ?_; rotate_left; exact zs0; rotate_left; exact zs1
       refine done_ (done_of HT_.out (zq42)) ?_
       try go_wp2
       go_roundg k1
       case measure => have := HK1.out; omega
       case rel => exact ⟨(y281), (wrap64 (x8_1 + 1)), (zq35), H', ⟨by have := HK1.out; omega⟩, ⟨HO283.r⟩, ⟨HB.bl⟩⟩
      ·rw [if_neg c8] at H
       exact absurd H (by simp)
     ·rw [if_neg c6] at H
      exact absurd H (by simp)
    ·rw [if_neg c5] at H
     have c5b0 : decide (x8_1 < (l2.length : Int)) = false := decide_eq_false c5
     clear c5
     obtain rfl := Option.some.inj H
     go_wp2
     go_ret
     exact ⟨_, zq30, HO_7.r, HB.bl⟩
   ·rw [if_neg c4] at H
    have c4b0 : decide (x8_1 < (l1.length : Int)) = false := decide_eq_false c4
    clear c4
    obtain rfl := Option.some.inj H
    go_wp2
    go_ret
    exact ⟨_, zq30, HO_7.r, HB.bl⟩

/-! ### trefoilref03_Fit: function 26 -/
def trefoilref03_Fit.l0 : Nat → Int → Int → Int → Int → Option (Int)
 | 0, _, _, _, _ => none
 | k + 1, x0, x1, x5, x6 => if x6 < 64 then (if x6 < x0 then (if 0 ≤ (IntKind.u64.wrap (x6)) then (trefoilref03_Fit.l0 k x0 x1 (Go.bits .or .u64 x5 (Go.bits .and .u64 x1 (shl .u64 1 (IntKind.u64.wrap (x6))))) (wrap64 (x6 + 1))) else (none)) else (some x5)) else (some x5)
def trefoilref03_Fit.f (k : Nat) (a0 : Int) (a1 : Int) : Option (Int) := trefoilref03_Fit.l0 k a0 a1 0 0
set_option maxHeartbeats 8000000 in
set_option maxRecDepth 100000 in
theorem trefoilref03_Fit.calls (k : Nat) (a0 : Int) (a1 : Int) (r : Int) (w : World) (h : trefoilref03_Fit.f k a0 a1 = some r) :
  Calls Try.prog 26 #[.int .i64 a0, .int .u64 a1] w fun e w' => e = .returned (.int .u64 r) ∧ Drawn0 w w' := by
 have H : (trefoilref03_Fit.l0 k a0 a1 0 0) = some r := h
 clear h
 have H' := Aside0.mk H
 clear H
 go_enter Try.func26, Try.ntmps26
 go_wp2
 go_loopg [5, 6] k (fun kq v5 v6 w' => ∃ (x5_1 : Int) (x6_1 : Int), v5 = .int .u64 x5_1 ∧ v6 = .int .i64 x6_1 ∧ Aside0 (trefoilref03_Fit.l0 kq a0 a1 x5_1 x6_1 = some r) ∧ Aside0 (kq ≤ k) ∧ Drawn0 w w')
 case atStart => exact ⟨(0), (0), (zq35), (zq35), H', ⟨Nat.le_refl _⟩, zq33⟩
 case round =>
  clear H'
  try clear c2
  try clear p2
  obtain ⟨x5_1, x6_1, rfl, rfl, HA, HK1, ⟨m1, rfl⟩⟩ := hrel
  cases gk with
  | zero => exact absurd HA.out (by simp [trefoilref03_Fit.l0])
  | succ k1 =>
   have H := HA.out
   clear HA
   simp only [trefoilref03_Fit.l0] at H
   by_cases c3 : x6_1 < 64
   ·rw [if_pos c3] at H
    have c3b0 : decide (x6_1 < 64) = true := decide_eq_true c3
    clear c3
    by_cases c4 : x6_1 < a0
    ·rw [if_pos c4] at H
     have c4b0 : decide (x6_1 < a0) = true := decide_eq_true c4
     clear c4
     obtain ⟨ji5, hji5⟩ : ∃ j_ : Int, (IntKind.u64.wrap (x6_1)) = j_ := ⟨_, rfl⟩
     replace H : (if 0 ≤ (ji5) then (trefoilref03_Fit.l0 k1 a0 a1 (Go.bits .or .u64 x5_1 (Go.bits .and .u64 a1 (shl .u64 1 (ji5)))) (wrap64 (x6_1 + 1))) else (none)) = some r := by first | (rw [hji5] at H; exact H) | (simp only [hji5] at H ⊢; exact H)
     by_cases c6 : 0 ≤ (ji5)
     ·rw [if_pos c6] at H
      have c6b0 := eq_true c6
      have c6b1 : decide (0 ≤ (ji5)) = true := decide_eq_true c6
      clear c6
      obtain ⟨ji7, hji7⟩ : ∃ j_ : Int, (shl .u64 1 (ji5)) = j_ := ⟨_, rfl⟩
      replace H : (trefoilref03_Fit.l0 k1 a0 a1 (Go.bits .or .u64 x5_1 (Go.bits .and .u64 a1 (ji7))) (wrap64 (x6_1 + 1))) = some r := by first | (rw [hji7] at H; exact H) | (simp only [hji7] at H ⊢; exact H)
      have hji7_ : (IntKind.u64.wrap (1 * 2 ^ min (ji5).toNat 64)) = ji7 := hji7
      have hji7z : (ji5) ≤ 64 → (IntKind.u64.wrap (1 * 2 ^ (ji5).toNat)) = ji7 := shl_small hji7
      have hji7u : (IntKind.u64.wrap (2 ^ min (ji5).toNat 64)) = ji7 := by have h_ := hji7_; rw [Int.one_mul] at h_; exact h_
      have hji7v : (ji5) ≤ 64 → (IntKind.u64.wrap (2 ^ (ji5).toNat)) = ji7 := fun hle_ => by have h_ := hji7z hle_; rw [Int.one_mul] at h_; exact h_
      have H' := Aside0.mk H
      clear H
      go_wp2
      go_roundg k1
      case measure => have := HK1.out; omega
      case rel => exact ⟨(Go.bits .or .u64 x5_1 (Go.bits .and .u64 a1 (ji7))), (wrap64 (x6_1 + 1)), (by first | rfl | (simp; done) | (simp only [← hji7] <;> (first | rfl | simp)) | (simp [*]; done)), (zq35), H', ⟨by have := HK1.out; omega⟩, zq33⟩
     ·rw [if_neg c6] at H
      exact absurd H (by simp)
    ·rw [if_neg c4] at H
     have c4b0 : decide (x6_1 < a0) = false := decide_eq_false c4
     clear c4
     obtain rfl := Option.some.inj H
     go_wp2
     go_ret
     exact ⟨zq35, zq33⟩
   ·rw [if_neg c3] at H
    have c3b0 : decide (x6_1 < 64) = false := decide_eq_false c3
    clear c3
    obtain rfl := Option.some.inj H
    go_wp2
    go_ret
    exact ⟨zq35, zq33⟩

/-! ### ring_AddAll: function 60 -/
set_option maxHeartbeats 400000 in
theorem ring_AddAll_1.calls (x y lw r : Int) (g : Nat) (w : World) (h : w.cell? ⟨g, 0, none⟩ = some (.int .i64 lw)) (hf : ring_Add.f lw x y = some r) :
    Calls Try.prog 95 #[.int .u64 x, .int .u64 y, .pointer (some ⟨g, 0, none⟩)] w fun e w' => e = .returned (.int .u64 r) ∧ Drawn0 w w' := by
  have HF := Lib.hid hf
  clear hf
  go_enter Try.func95, Try.ntmps95
  go_wp2_with (go_at_call 54; refine (ring_Add.calls lw x y r _ HF.out).mono ?_; rintro e w' ⟨rfl, ⟨n', rfl⟩⟩)
  go_ret
  exact ⟨rfl, zq33⟩

/-- pairs, place by place -/
def adds (lw : Int) : List Int → List Int → Option (List Int)
  | x :: xs, y :: ys => (ring_Add.f lw x y).bind fun z => (adds lw xs ys).map (z :: ·)
  | _, _ => some []

theorem ring_Add_some (lw x y : Int) : ∃ r, ring_Add.f lw x y = some r := by
  unfold ring_Add.f ring_mask.f ring_Mask.f
  by_cases h1 : lw < 1
  · rw [if_pos h1]; exact ⟨_, rfl⟩
  · rw [if_neg h1]
    by_cases h2 : lw > 64
    · rw [if_pos h2]; exact ⟨_, rfl⟩
    · rw [if_neg h2]
      have e1 : wrap64 (64 - lw) = 64 - lw := by unfold wrap64; omega
      have e2 : IntKind.u64.wrap (64 - lw) = 64 - lw := IntWalk.u64_in _ ⟨by omega, by omega⟩
      rw [e1, e2, if_pos (by omega)]; exact ⟨_, rfl⟩

def addOf (lw x y : Int) : Int := (ring_Add.f lw x y).getD 0
theorem addOf_eq (lw x y : Int) : ring_Add.f lw x y = some (addOf lw x y) := by
  obtain ⟨r, h⟩ := ring_Add_some lw x y
  rw [addOf, h]; rfl
def addsTo (lw : Int) (a b : List Int) (n k : Nat) : List Int := (List.range n).map fun j => if j < k then addOf lw (rd a j) (rd b j) else 0

theorem addsTo_len (lw : Int) (a b : List Int) (n k : Nat) : (addsTo lw a b n k).length = n := by simp [addsTo]
theorem addsTo_set (lw : Int) (a b : List Int) (n k : Nat) (hk : k < n) : (addsTo lw a b n k).set k (addOf lw (rd a k) (rd b k)) = addsTo lw a b n (k + 1) := by
  apply List.ext_getElem
  · simp [addsTo]
  · intro j h1 h2
    rw [List.getElem_set]
    simp only [addsTo, List.getElem_map, List.getElem_range]
    by_cases e : k = j
    · subst e; rw [if_pos rfl, if_pos (by omega)]
    · rw [if_neg e]
      by_cases e2 : j < k
      · rw [if_pos e2, if_pos (by omega)]
      · rw [if_neg e2, if_neg (by omega)]
set_option maxHeartbeats 400000 in
set_option maxRecDepth 100000 in
theorem pairs_Add.calls (lw : Int) (g : Nat) (A1 : Option Addr) (c1 : Nat) (l1 : List Int) (A2 : Option Addr) (c2 : Nat) (l2 : List Int) (w : World) (h : w.cell? ⟨g, 0, none⟩ = some (.int .i64 lw))
    (hr1 : Kd.C (Kd.int .u64) w A1 l1.length l1) (hr2 : Kd.C (Kd.int .u64) w A2 l2.length l2) (hl : l1.length = l2.length) (hs : l1.length ≤ 35184372088832) :
    Calls Try.prog 94 #[.slice A1 l1.length c1, .slice A2 l2.length c2, .func (.func 95) #[] #[.pointer (some ⟨g, 0, none⟩)]] w fun e w' => ∃ v, e = .returned (.tuple #[v, .int .i64 0]) ∧ Kd.R (Kd.int .u64) 35 w' w.heap.size (fun _ => True) v (addsTo lw l1 l2 l1.length l1.length) ∧ Below w.heap.size w w' := by
  have hm := Kd.C_max hr1
  have HL := Lib.hid hl
  have hne : (l1.length != l2.length) = false := by rw [bne_eq_false_iff_eq]; exact hl
  clear hl
  have h0 : List.replicate (l1.length : Int).toNat 0 = addsTo lw l1 l2 l1.length 0 := by
    simp [addsTo, List.map_const']
  have hmk : (l1.length : Int).toNat * 8 ≤ 281474976710656 := by omega
  go_enter Try.func94, Try.ntmps94
  go_wp2_with (first | ((with_reducible refine gate_dst (N := 17) rfl ?_); refine Kd.R_make (Kd.int .u64) _ 35 rfl (N := 17) rfl 24 _ _ rfl (l1.length : Int) rfl rfl Try.underlying24 (.int .u64 0) 8 info35 rfl (by decide) (by omega) 0 (ok := fun _ => True) (okp := fun _ => True) rfl (fun _ hk => hk) trivial (by omega) hmk (Below.refl _ _) (Nat.le_refl _) ?_; intro v8 w6 ho7 hb hg_ hnew_; clear hg_ hnew_; rw [h0] at ho7; obtain ⟨AA, cc, ev, hcc, _⟩ := Kd.R_reads ho7; rw [addsTo_len] at ev; subst ev; have HO := Aside0.mk ho7; have HB := Aside0.mk hb; clear ho7 hcc hb))
  go_loopw [9, 20] (fun _ i wr => ∃ k : Nat, k ≤ l1.length ∧ i = .int .i64 k ∧ Aside0 (Kd.R (Kd.int .u64) 35 wr w.heap.size (fun _ => True) (.slice AA l1.length cc) (addsTo lw l1 l2 l1.length k)) ∧ Aside0 (Below w.heap.size w wr)) (fun _ i _ => l1.length - (intOf i).toNat)
  case atStart => exact ⟨0, Nat.zero_le _, rfl, HO, HB⟩
  case round =>
    clear HO HB
    obtain ⟨k, hk, rfl, HO, HB⟩ := hrel
    by_cases hlt : k < l1.length
    · have hlt2 : k < l2.length := by have := HL.out; omega
      obtain ⟨ad1, rfl, hcell1⟩ := Kd.at_int hr1 (k : Int) (by omega) (by omega)
      obtain ⟨ad2, rfl, hcell2⟩ := Kd.at_int hr2 (k : Int) (by omega) (by omega)
      rw [Int.toNat_natCast] at hcell1 hcell2
      replace hcell1 := (HB.out.cell (World.block_lt_of_cell? w _ hcell1)).trans hcell1
      replace hcell2 := (HB.out.cell (World.block_lt_of_cell? w _ hcell2)).trans hcell2
      have hg : wr.cell? ⟨g, 0, none⟩ = some (.int .i64 lw) := (HB.out.cell (World.block_lt_of_cell? w _ h)).trans h
      obtain ⟨go, co, eo, gb, gl, cl, hgo⟩ := Kd.R_form HO.out (by rw [addsTo_len]; omega)
      rw [addsTo_len] at eo
      cases eo
      have HP : ∀ n, Kd.R (Kd.int .u64) 35 ((wr.drewN n).setCell ⟨go, k, none⟩ (.int .u64 (addOf lw (rd l1 k) (rd l2 k)))) w.heap.size (fun _ => True) (.slice (some ⟨go, 0, none⟩) l1.length cc) (addsTo lw l1 l2 l1.length (k + 1)) := by
        intro n
        have := (Kd.R_putg (Kd.R_drewN HO.out n) (k : Int) (addOf lw (rd l1 k) (rd l2 k))).1
        rw [Int.toNat_natCast, addsTo_set _ _ _ _ _ hlt] at this
        exact this
      have HP := Lib.hid HP
      obtain ⟨hx, hf⟩ := Kd.R_celln 0 HO.out (k : Int) (by omega) (by omega)
      rw [Int.toNat_natCast] at hx hf
      have HF := Lib.hid (addOf_eq lw (rd l1 k) (rd l2 k))
      have GB := Aside0.mk gb
      clear gb gl hgo cl
      go_wp2_with fail
      go_region_with (go_at_call 95; refine (ring_AddAll_1.calls _ _ lw _ g _ (by first | exact hg | simpa using hg) HF.out).mono ?_; rintro e w' ⟨rfl, ⟨n', rfl⟩⟩)
      all_goals go_wp2
      all_goals go_roundw
      all_goals first
        | (case rel => exact ⟨k + 1, by omega, by go_num, ⟨HP.out _⟩, ⟨below_set (pw_below_drewN HB.out _) GB.out⟩⟩)
        | (case measure => simp [intOf]; omega)
    · have hkl : k = l1.length := by omega
      clear hk
      subst hkl
      go_wp2
      go_ret2
      exact ⟨_, rfl, HO.out, HB.out⟩

set_option maxHeartbeats 400000 in
set_option maxRecDepth 100000 in
theorem pairs_Add_off.calls (g : Nat) (A1 : Option Addr) (c1 n1 : Nat) (A2 : Option Addr) (c2 n2 : Nat) (w : World) (hl : ¬ n1 = n2) :
    Calls Try.prog 94 #[.slice A1 n1 c1, .slice A2 n2 c2, .func (.func 95) #[] #[.pointer (some ⟨g, 0, none⟩)]] w fun e w' => e = .returned (.tuple #[.slice none 0 0, .int .i64 11]) ∧ w = w' := by
  have hne : (n1 != n2) = true := by rw [bne_iff_ne]; exact hl
  have HL := Lib.hid hl
  clear hl
  go_enter Try.func94, Try.ntmps94
  go_wp2
  go_ret2
  exact ⟨rfl, rfl⟩

def ring_AddAll.f (a0 : Int) (l1 l2 : List Int) : Option (List Int × Int) :=
  if (l1.length : Int) = (l2.length : Int) then (if l1.length ≤ 35184372088832 then some (addsTo a0 l1 l2 l1.length l1.length, 0) else none) else some ([], 11)

set_option maxHeartbeats 400000 in
theorem ring_AddAll.calls (a0 : Int) (A1 : Option Addr) (c1 : Nat) (l1 : List Int) (A2 : Option Addr) (c2 : Nat) (l2 : List Int) (r1 : List Int) (r2 : Int) (w : World) (hr1 : Kd.C (Kd.int .u64) w A1 l1.length l1) (hc1 : l1.length ≤ c1) (hr2 : Kd.C (Kd.int .u64) w A2 l2.length l2) (hc2 : l2.length ≤ c2) (h : ring_AddAll.f a0 l1 l2 = some (r1, r2)) :
    Calls Try.prog 60 #[.int .i64 a0, .slice A1 l1.length c1, .slice A2 l2.length c2] w fun e w' => ∃ v0_ : Value, e = .returned (.tuple #[v0_, .int .i64 r2]) ∧ Kd.R (Kd.int .u64) 35 w' w.heap.size (fun _ => True) v0_ r1 ∧ Below w.heap.size w w' := by
  unfold ring_AddAll.f at h
  have HB := Aside0.mk (Below.refl w.heap.size w)
  by_cases hl : (l1.length : Int) = (l2.length : Int)
  · rw [if_pos hl] at h
    by_cases hs : l1.length ≤ 35184372088832
    · rw [if_pos hs] at h
      obtain ⟨rfl, rfl⟩ := Prod.mk.inj (Option.some.inj h)
      have HL := Lib.hid hl
      clear hl h
      go_enter Try.func60, Try.ntmps60
      go_wp2_with (go_at_call 94; refine (pairs_Add.calls a0 w.heap.size A1 c1 l1 A2 c2 l2 _ ?hcell ?hr1 ?hr2 ?hl hs).mono ?_; (case hcell => go_simp); (case hr1 => exact Kd.C_alloc hr1 _); (case hr2 => exact Kd.C_alloc hr2 _); (case hl => have := HL.out; omega); rintro e w' ⟨v, rfl, ho, hb⟩; have HO1 := Aside0.mk ho; have HB1 := Aside0.mk hb; clear ho hb)
      go_ret2
      exact ⟨_, rfl, Kd.R_lower HO1.out (by simp), below_step (below_alloc HB.out _) HB1.out⟩
    · rw [if_neg hs] at h; cases h
  · rw [if_neg hl] at h
    obtain ⟨rfl, rfl⟩ := Prod.mk.inj (Option.some.inj h)
    have HL := Lib.hid hl
    clear hl h
    go_enter Try.func60, Try.ntmps60
    go_wp2_with (go_at_call 94; refine (pairs_Add_off.calls _ _ _ _ _ _ _ _ ?hl).mono ?_; (case hl => have := HL.out; omega); rintro e w' ⟨rfl, rfl⟩)
    go_ret2
    exact ⟨_, rfl, Kd.R_nil _ _ _ _ _, by repeat (first | exact HB.out | apply below_alloc | apply pw_below_drewN | apply below_drew)⟩

/-! ### ring_sized: function 96 -/
def ring_sized.f (a0 : Int) (a1 : Int) : Option (Bool) := if a0 ≥ 1 then (if a0 ≤ 6 then (if a1 ≥ 1 then (some (decide (a1 ≤ 6))) else (some false)) else (some false)) else (some false)
set_option maxHeartbeats 8000000 in
set_option maxRecDepth 100000 in
theorem ring_sized.calls (a0 : Int) (a1 : Int) (r : Bool) (w : World) (h : ring_sized.f a0 a1 = some r) :
  Calls Try.prog 96 #[.int .i64 a0, .int .i64 a1] w fun e w' => e = .returned (.bool r) ∧ Drawn0 w w' := by
 have H : (if a0 ≥ 1 then (if a0 ≤ 6 then (if a1 ≥ 1 then (some (decide (a1 ≤ 6))) else (some false)) else (some false)) else (some false)) = some r := h
 clear h
 by_cases c3 : a0 ≥ 1
 ·rw [if_pos c3] at H
  have c3b0 : decide (1 ≤ a0) = true := decide_eq_true c3
  clear c3
  by_cases c4 : a0 ≤ 6
  ·rw [if_pos c4] at H
   have c4b0 : decide (a0 ≤ 6) = true := decide_eq_true c4
   clear c4
   by_cases c5 : a1 ≥ 1
   ·rw [if_pos c5] at H
    have c5b0 : decide (1 ≤ a1) = true := decide_eq_true c5
    clear c5
    obtain rfl := Option.some.inj H
    go_enter Try.func96, Try.ntmps96
    go_wp2
    go_ret
    exact ⟨zq35, zq33⟩
   ·rw [if_neg c5] at H
    have c5b0 : decide (1 ≤ a1) = false := decide_eq_false c5
    clear c5
    obtain rfl := Option.some.inj H
    go_enter Try.func96, Try.ntmps96
    go_wp2
    go_ret
    exact ⟨zq35, zq33⟩
  ·rw [if_neg c4] at H
   have c4b0 : decide (a0 ≤ 6) = false := decide_eq_false c4
   clear c4
   obtain rfl := Option.some.inj H
   go_enter Try.func96, Try.ntmps96
   go_wp2
   go_ret
   exact ⟨zq35, zq33⟩
 ·rw [if_neg c3] at H
  have c3b0 : decide (1 ≤ a0) = false := decide_eq_false c3
  clear c3
  obtain rfl := Option.some.inj H
  go_enter Try.func96, Try.ntmps96
  go_wp2
  go_ret
  exact ⟨zq35, zq33⟩

/-! ### ring_Fit: function 97 -/
def ring_Fit.f (a0 : Int) (a1 : Int) : Option (Int) := (ring_mask.f a0).bind fun t318 => (some (Go.bits .and .u64 a1 t318))
set_option maxHeartbeats 8000000 in
set_option maxRecDepth 100000 in
theorem ring_Fit.calls (a0 : Int) (a1 : Int) (r : Int) (w : World) (h : ring_Fit.f a0 a1 = some r) :
  Calls Try.prog 97 #[.int .i64 a0, .int .u64 a1] w fun e w' => e = .returned (.int .u64 r) ∧ Drawn0 w w' := by
 have H : ((ring_mask.f a0).bind fun t318 => (some (Go.bits .and .u64 a1 t318))) = some r := h
 clear h
 replace H := Option.bind_eq_some_iff.mp H
 obtain ⟨t318, A30, H⟩ := H
 replace H : (some (Go.bits .and .u64 a1 t318)) = some r := H
 have A3 := Aside0.mk A30
 clear A30
 obtain rfl := Option.some.inj H
 go_enter Try.func97, Try.ntmps97
 go_wp2_with (first | ((with_reducible refine gate_callee (f := 90) rfl ?_); refine goesL_ (some 7) rfl rfl Try.func90 (zq42) rfl #[.int .i64 a0] rfl (zq21) ?_; (with_reducible refine (ring_mask.calls a0 t318 _ A3.out).mono ?_); rintro e w' ⟨rfl, ⟨nd, rfl⟩⟩; refine ⟨_, rfl, ?_⟩))
 go_ret
 exact ⟨zq35, zq33⟩
end Go.Proofs.Ytcmaidpoolcelaa.P
