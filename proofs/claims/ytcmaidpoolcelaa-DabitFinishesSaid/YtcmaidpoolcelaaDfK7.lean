/- Functions of the program as plain Lean functions, and proofs that the machine's calls do what these do: written by a program of this workplace (wip/tools/pp.py). -/
import Derived.Test.YtcmaidpoolcelaaDfPx0
import Derived.Test.YtcmaidpoolcelaaDfK1
import Derived.Test.YtcmaidpoolcelaaDfK3
import Derived.Test.YtcmaidpoolcelaaDfK4
import Derived.Test.YtcmaidpoolcelaaDfK5
import Derived.Test.YtcmaidpoolcelaaDfK6
namespace Go.Proofs.Ytcmaidpoolcelaa.P
open Go.RowKit Go.Proofs.YtcmaidpoolcelaaW.PrintWords Go.Proofs.YtcmaidpoolcelaaW.PrintLast Go.Proofs.YtcmaidpoolcelaaW.PrintMore
attribute [local go_sem] max2_int min2_int max_two min_two max_three min_three max_four min_four   -- for this text's walks alone
set_option linter.unusedVariables false
set_option linter.unusedSimpArgs false

/-! ### trefoillaw25_DabitFinishes: function 7 -/
mutual
def trefoillaw25_DabitFinishes.j0 : Nat → List (S26) → List Int → Bool → Int → Int → Int → Int → Int → Option (Bool)
 | 0, _, _, _, _, _, _, _, _ => none
 | k + 1, x1, x2, x25, x572000, x572001, x572002, x572003, x572004 => if x25 = true then ((trefoillaw25_awake.f k).bind fun t572 => (some t572)) else ((dabit_Choices.f k x572000 x572001 x572002 x572003 x572004 x1).bind fun bt573 => ((dabit_Spread.f k x572000 x572001 x572002 x572003 x572004 x1).bind fun bt579 => ((trefoilref25_Own.f k x572000 x572001 x572002 x572003 x572004 x1).bind fun bt583 => ((dabit_Finish.f k x572000 x572001 x572002 x572003 x572004 x1 x2).bind fun bt587 => ((trefoilref25_Finish.f k x572000 x572001 x572002 x572003 x572004 x1 x2).bind fun bt591 => (if bt573.2.2 = bt583.2 then (if bt579.2 = bt583.2 then ((trefoilref02_Nums.f k bt579.1 bt583.1).bind fun t595 => (if t595 = true then ((bits_Vec_Len.f bt573.1 bt573.2.1).bind fun t596 => (trefoillaw25_DabitFinishes.j1 k bt583.1 bt587.1 bt587.2 bt591.1 bt591.2 (t596 != (bt583.1.length : Int)) bt573.1 bt573.2.1)) else (trefoillaw25_DabitFinishes.j1 k bt583.1 bt587.1 bt587.2 bt591.1 bt591.2 true bt573.1 bt573.2.1))) else (trefoillaw25_DabitFinishes.j1 k bt583.1 bt587.1 bt587.2 bt591.1 bt591.2 true bt573.1 bt573.2.1)) else (trefoillaw25_DabitFinishes.j1 k bt583.1 bt587.1 bt587.2 bt591.1 bt591.2 true bt573.1 bt573.2.1)))))))
def trefoillaw25_DabitFinishes.j1 : Nat → List Int → List (S26) → Int → List (S26) → Int → Bool → Int → List Int → Option (Bool)
 | 0, _, _, _, _, _, _, _, _ => none
 | k + 1, x11, x13, x14, x15, x16, x79, x579000, x579001 => if x79 = true then (some false) else (trefoillaw25_DabitFinishes.l0 k x11 x13 x14 x15 x16 0 x579000 x579001)
def trefoillaw25_DabitFinishes.l0 : Nat → List Int → List (S26) → Int → List (S26) → Int → Int → Int → List Int → Option (Bool)
 | 0, _, _, _, _, _, _, _, _ => none
 | k + 1, x11, x13, x14, x15, x16, x17, x579000, x579001 => if x17 < (x11.length : Int) then ((bits_Vec_Get.f x579000 x579001 x17).bind fun t597 => (if 0 ≤ x17 then (if (t597 != ((rd x11 x17) == 1)) = true then (some false) else (trefoillaw25_DabitFinishes.l0 k x11 x13 x14 x15 x16 (wrap64 (x17 + 1)) x579000 x579001)) else (none))) else ((trefoilref22_Shares.f k x13 x15).bind fun t599 => (if t599 = true then (if x14 = x16 then ((trefoillaw25_awake.f k).bind fun t600 => (some t600)) else (some false)) else (some false)))
end
def trefoillaw25_DabitFinishes.f (k : Nat) (a0_0 : Int) (a0_1 : Int) (a0_2 : Int) (a0_3 : Int) (a0_4 : Int) (l1 : List (S26)) (l2 : List Int) : Option (Bool) := if (l1.length : Int) > 40 then (trefoillaw25_DabitFinishes.j0 k l1 l2 true a0_0 a0_1 a0_2 a0_3 a0_4) else (trefoillaw25_DabitFinishes.j0 k l1 l2 (decide ((l2.length : Int) > 60)) a0_0 a0_1 a0_2 a0_3 a0_4)
theorem trefoillaw25_DabitFinishes.mono_l : ∀ k, (∀ y0 y1 y2 y3 y4 y5 y6 y7, LeO (trefoillaw25_DabitFinishes.j0 k y0 y1 y2 y3 y4 y5 y6 y7) (trefoillaw25_DabitFinishes.j0 (k + 1) y0 y1 y2 y3 y4 y5 y6 y7)) ∧ (∀ y0 y1 y2 y3 y4 y5 y6 y7, LeO (trefoillaw25_DabitFinishes.j1 k y0 y1 y2 y3 y4 y5 y6 y7) (trefoillaw25_DabitFinishes.j1 (k + 1) y0 y1 y2 y3 y4 y5 y6 y7)) ∧ (∀ y0 y1 y2 y3 y4 y5 y6 y7, LeO (trefoillaw25_DabitFinishes.l0 k y0 y1 y2 y3 y4 y5 y6 y7) (trefoillaw25_DabitFinishes.l0 (k + 1) y0 y1 y2 y3 y4 y5 y6 y7))
 | 0 => ⟨fun _ _ _ _ _ _ _ _ r h => by simp [trefoillaw25_DabitFinishes.j0] at h, fun _ _ _ _ _ _ _ _ r h => by simp [trefoillaw25_DabitFinishes.j1] at h, fun _ _ _ _ _ _ _ _ r h => by simp [trefoillaw25_DabitFinishes.l0] at h⟩
 | k + 1 => by
  obtain ⟨ih0, ih1, ih2⟩ := trefoillaw25_DabitFinishes.mono_l k
  refine ⟨?_, ?_, ?_⟩
  ·intro y0 y1 y2 y3 y4 y5 y6 y7
   unfold trefoillaw25_DabitFinishes.j0
   repeat' first
   | (with_reducible exact ih0 _ _ _ _ _ _ _ _)
   | (with_reducible exact ih1 _ _ _ _ _ _ _ _)
   | (with_reducible exact ih2 _ _ _ _ _ _ _ _)
   | (with_reducible exact dabit_Choices.mono _ _ _ _ _ _ _)
   | (with_reducible exact dabit_Finish.mono _ _ _ _ _ _ _ _)
   | (with_reducible exact dabit_Spread.mono _ _ _ _ _ _ _)
   | (with_reducible exact trefoillaw25_awake.mono _)
   | (with_reducible exact trefoilref02_Nums.mono _ _ _)
   | (with_reducible exact trefoilref22_Shares.mono _ _ _)
   | (with_reducible exact trefoilref25_Finish.mono _ _ _ _ _ _ _ _)
   | (with_reducible exact trefoilref25_Own.mono _ _ _ _ _ _ _)
   | (with_reducible exact LeO.refl _)
   | (with_reducible exact LeO.none _)
   | (with_reducible refine LeO.ite ?_ ?_)
   | (with_reducible refine LeO.bind ?_ (fun _ => ?_))
   | exact ih0 _ _ _ _ _ _ _ _
   | exact ih1 _ _ _ _ _ _ _ _
   | exact ih2 _ _ _ _ _ _ _ _
   | exact dabit_Choices.mono _ _ _ _ _ _ _
   | exact dabit_Finish.mono _ _ _ _ _ _ _ _
   | exact dabit_Spread.mono _ _ _ _ _ _ _
   | exact trefoillaw25_awake.mono _
   | exact trefoilref02_Nums.mono _ _ _
   | exact trefoilref22_Shares.mono _ _ _
   | exact trefoilref25_Finish.mono _ _ _ _ _ _ _ _
   | exact trefoilref25_Own.mono _ _ _ _ _ _ _
   | exact LeO.none _
   | refine LeO.ite ?_ ?_
   | refine LeO.bind ?_ (fun _ => ?_)
  ·intro y0 y1 y2 y3 y4 y5 y6 y7
   unfold trefoillaw25_DabitFinishes.j1
   repeat' first
   | (with_reducible exact ih0 _ _ _ _ _ _ _ _)
   | (with_reducible exact ih1 _ _ _ _ _ _ _ _)
   | (with_reducible exact ih2 _ _ _ _ _ _ _ _)
   | (with_reducible exact dabit_Choices.mono _ _ _ _ _ _ _)
   | (with_reducible exact dabit_Finish.mono _ _ _ _ _ _ _ _)
   | (with_reducible exact dabit_Spread.mono _ _ _ _ _ _ _)
   | (with_reducible exact trefoillaw25_awake.mono _)
   | (with_reducible exact trefoilref02_Nums.mono _ _ _)
   | (with_reducible exact trefoilref22_Shares.mono _ _ _)
   | (with_reducible exact trefoilref25_Finish.mono _ _ _ _ _ _ _ _)
   | (with_reducible exact trefoilref25_Own.mono _ _ _ _ _ _ _)
   | (with_reducible exact LeO.refl _)
   | (with_reducible exact LeO.none _)
   | (with_reducible refine LeO.ite ?_ ?_)
   | (with_reducible refine LeO.bind ?_ (fun _ => ?_))
   | exact ih0 _ _ _ _ _ _ _ _
   | exact ih1 _ _ _ _ _ _ _ _
   | exact ih2 _ _ _ _ _ _ _ _
   | exact dabit_Choices.mono _ _ _ _ _ _ _
   | exact dabit_Finish.mono _ _ _ _ _ _ _ _
   | exact dabit_Spread.mono _ _ _ _ _ _ _
   | exact trefoillaw25_awake.mono _
   | exact trefoilref02_Nums.mono _ _ _
   | exact trefoilref22_Shares.mono _ _ _
   | exact trefoilref25_Finish.mono _ _ _ _ _ _ _ _
   | exact trefoilref25_Own.mono _ _ _ _ _ _ _
   | exact LeO.none _
   | refine LeO.ite ?_ ?_
   | refine LeO.bind ?_ (fun _ => ?_)
  ·intro y0 y1 y2 y3 y4 y5 y6 y7
   unfold trefoillaw25_DabitFinishes.l0
   repeat' first
   | (with_reducible exact ih0 _ _ _ _ _ _ _ _)
   | (with_reducible exact ih1 _ _ _ _ _ _ _ _)
   | (with_reducible exact ih2 _ _ _ _ _ _ _ _)
   | (with_reducible exact dabit_Choices.mono _ _ _ _ _ _ _)
   | (with_reducible exact dabit_Finish.mono _ _ _ _ _ _ _ _)
   | (with_reducible exact dabit_Spread.mono _ _ _ _ _ _ _)
   | (with_reducible exact trefoillaw25_awake.mono _)
   | (with_reducible exact trefoilref02_Nums.mono _ _ _)
   | (with_reducible exact trefoilref22_Shares.mono _ _ _)
   | (with_reducible exact trefoilref25_Finish.mono _ _ _ _ _ _ _ _)
   | (with_reducible exact trefoilref25_Own.mono _ _ _ _ _ _ _)
   | (with_reducible exact LeO.refl _)
   | (with_reducible exact LeO.none _)
   | (with_reducible refine LeO.ite ?_ ?_)
   | (with_reducible refine LeO.bind ?_ (fun _ => ?_))
   | exact ih0 _ _ _ _ _ _ _ _
   | exact ih1 _ _ _ _ _ _ _ _
   | exact ih2 _ _ _ _ _ _ _ _
   | exact dabit_Choices.mono _ _ _ _ _ _ _
   | exact dabit_Finish.mono _ _ _ _ _ _ _ _
   | exact dabit_Spread.mono _ _ _ _ _ _ _
   | exact trefoillaw25_awake.mono _
   | exact trefoilref02_Nums.mono _ _ _
   | exact trefoilref22_Shares.mono _ _ _
   | exact trefoilref25_Finish.mono _ _ _ _ _ _ _ _
   | exact trefoilref25_Own.mono _ _ _ _ _ _ _
   | exact LeO.none _
   | refine LeO.ite ?_ ?_
   | refine LeO.bind ?_ (fun _ => ?_)
theorem trefoillaw25_DabitFinishes.mono : ∀ a0 a1 a2 a3 a4 a5 a6 k, LeO (trefoillaw25_DabitFinishes.f k a0 a1 a2 a3 a4 a5 a6) (trefoillaw25_DabitFinishes.f (k + 1) a0 a1 a2 a3 a4 a5 a6) := by
 intro a0 a1 a2 a3 a4 a5 a6 k
 obtain ⟨ih0, ih1, ih2⟩ := trefoillaw25_DabitFinishes.mono_l k
 unfold trefoillaw25_DabitFinishes.f
 repeat' first
   | (with_reducible exact ih0 _ _ _ _ _ _ _ _)
   | (with_reducible exact ih1 _ _ _ _ _ _ _ _)
   | (with_reducible exact ih2 _ _ _ _ _ _ _ _)
   | (with_reducible exact dabit_Choices.mono _ _ _ _ _ _ _)
   | (with_reducible exact dabit_Finish.mono _ _ _ _ _ _ _ _)
   | (with_reducible exact dabit_Spread.mono _ _ _ _ _ _ _)
   | (with_reducible exact trefoillaw25_awake.mono _)
   | (with_reducible exact trefoilref02_Nums.mono _ _ _)
   | (with_reducible exact trefoilref22_Shares.mono _ _ _)
   | (with_reducible exact trefoilref25_Finish.mono _ _ _ _ _ _ _ _)
   | (with_reducible exact trefoilref25_Own.mono _ _ _ _ _ _ _)
   | (with_reducible exact LeO.refl _)
   | (with_reducible exact LeO.none _)
   | (with_reducible refine LeO.ite ?_ ?_)
   | (with_reducible refine LeO.bind ?_ (fun _ => ?_))
   | exact ih0 _ _ _ _ _ _ _ _
   | exact ih1 _ _ _ _ _ _ _ _
   | exact ih2 _ _ _ _ _ _ _ _
   | exact dabit_Choices.mono _ _ _ _ _ _ _
   | exact dabit_Finish.mono _ _ _ _ _ _ _ _
   | exact dabit_Spread.mono _ _ _ _ _ _ _
   | exact trefoillaw25_awake.mono _
   | exact trefoilref02_Nums.mono _ _ _
   | exact trefoilref22_Shares.mono _ _ _
   | exact trefoilref25_Finish.mono _ _ _ _ _ _ _ _
   | exact trefoilref25_Own.mono _ _ _ _ _ _ _
   | exact LeO.none _
   | refine LeO.ite ?_ ?_
   | refine LeO.bind ?_ (fun _ => ?_)
def trefoillaw25_DabitFinishes.T13 : Bool × List (List Nat × List Nat) := (true, [([], []), ([], []), ([0, 1], [0, 1]), ([], []), ([], []), ([3, 4], [3, 4]), ([5], [5]), ([6], [6]), ([2, 7], [2, 7])])
def trefoillaw25_DabitFinishes.B13 : List Nat := [0, 0, 3, 0, 0, 24, 56, 120, 255]
theorem trefoillaw25_DabitFinishes.tab13 : rtab .any (opsOf Try.f7 13) = trefoillaw25_DabitFinishes.T13 := by kernel_rfl
theorem trefoillaw25_DabitFinishes.bits13 : waitsOk trefoillaw25_DabitFinishes.T13.2 trefoillaw25_DabitFinishes.B13 = true := by kernel_rfl
set_option maxHeartbeats 8000000 in
set_option maxRecDepth 100000 in
theorem trefoillaw25_DabitFinishes.calls (k : Nat) (a0_0 : Int) (a0_1 : Int) (a0_2 : Int) (a0_3 : Int) (a0_4 : Int) (A1 : Option Addr) (c1 : Nat) (l1 : List (S26)) (A2 : Option Addr) (c2 : Nat) (l2 : List Int) (r : Bool) (w : World) (hr1 : Kd.C k26 w A1 l1.length l1) (hc1 : l1.length ≤ c1) (hr2 : Kd.C (Kd.int .u64) w A2 l2.length l2) (hc2 : l2.length ≤ c2) (h : trefoillaw25_DabitFinishes.f k a0_0 a0_1 a0_2 a0_3 a0_4 l1 l2 = some r) :
  Calls Try.prog 7 #[.agg #[.int .i64 a0_0, .int .i64 a0_1, .int .i64 a0_2, .int .i64 a0_3, .int .i64 a0_4], .slice A1 l1.length c1, .slice A2 l2.length c2] w fun e w' => e = .returned (.bool r) ∧ Below w.heap.size w w' := by
 have hu23 := Try.underlying23
 have hu43 := Try.underlying43
 have HR1 := Aside0.mk hr1
 have HC1 := Aside0.mk hc1
 clear hr1 hc1
 have HR2 := Aside0.mk hr2
 have HC2 := Aside0.mk hc2
 clear hr2 hc2
 have HB := Aside0.mk (Below.refl w.heap.size w)
 have H : (if (l1.length : Int) > 40 then (trefoillaw25_DabitFinishes.j0 k l1 l2 true a0_0 a0_1 a0_2 a0_3 a0_4) else (trefoillaw25_DabitFinishes.j0 k l1 l2 (decide ((l2.length : Int) > 60)) a0_0 a0_1 a0_2 a0_3 a0_4)) = some r := h
 clear h
 have HC4 := Aside0.mk H
 clear H
 go_enter Try.func7, Try.ntmps7
 go_upto_region 1 with (first | ((with_reducible refine gate_dst (N := 3) rfl ?_); (try (refine gate_guard (by rfl) ?_; dsimp only)); refine box_event ?hg (N := 3) ?hd (cs := #[.int .i64 a0_0, .int .i64 a0_1, .int .i64 a0_2, .int .i64 a0_3, .int .i64 a0_4]) (t := 23) ?hr ?_; (case hd => rfl); (case hg => rfl); (case hr => first | (go_simp; done) | (go_simp; rfl)); intro gb571 hg w5 hbox hb; have n0_ := Aside0.mk (below_step HB.bl hb); have n1_ := Aside0.mk (hbox); have n2_ := Aside0.mk ((by rw [hg]; exact (below_size HB.bl) : w.heap.size ≤ gb571)); have n3_ := Aside0.mk ((by rw [hg]; exact (below_size HB.bl) : w.heap.size ≤ gb571)); clear HB; have HB := n0_; have BK571 := n1_; have GW571 := n2_; have GE571 := n3_; clear n0_ n1_ n2_ n3_; clear hb hbox hg))
 (try simp only [Act.put, List.setIfInBounds_toArray, List.set_cons_zero, List.set_cons_succ])
 go_cut [25] (fun v25 wc => ∃ (kq : Nat) (x25_3 : Bool), v25 = .bool x25_3 ∧ Aside0 (trefoillaw25_DabitFinishes.j0 kq l1 l2 x25_3 a0_0 a0_1 a0_2 a0_3 a0_4 = some r) ∧ Aside0 (kq ≤ k) ∧ Aside0 (wc.heap[gb571]? = some (.cells #[.int .i64 a0_0, .int .i64 a0_1, .int .i64 a0_2, .int .i64 a0_3, .int .i64 a0_4] 23 (0, 0))) ∧ Aside0 (Below w.heap.size w wc))
 case first =>
  have H := HC4.out
  clear HC4
  by_cases c6 : (l1.length : Int) > 40
  ·rw [if_pos c6] at H
   have c6b0 : decide (40 < (l1.length : Int)) = true := decide_eq_true c6
   have c6b1 : decide (40 < l1.length) = true := decide_eq_true (by omega)
   clear c6
   (first | rw [c6b0] | (simp only [i64_w, i32_w]; rw [c6b0]) | skip)
   have H' := Aside0.mk H
   clear H
   go_wp2
   go_meet
   case rel => exact ⟨_, (true), (by first | rfl | (simp; done) | (simp [*]; done)), H', ⟨by first | omega | exact Nat.le_refl _⟩, ⟨by (with_reducible repeat (first | refine blk_drewN ?_ _ | refine blk_drew ?_ | refine blk_alloc ?_ _)); exact BK571.out⟩, ⟨by repeat (first | (with_reducible first | exact HB.out | apply below_alloc | apply pw_below_drewN | apply below_drew1 | refine below_set ?_ GE571.out) | exact HB.out)⟩⟩
  ·rw [if_neg c6] at H
   have c6b0 : decide (40 < (l1.length : Int)) = false := decide_eq_false c6
   have c6b1 : decide (40 < l1.length) = false := decide_eq_false (by omega)
   clear c6
   (first | rw [c6b0] | (simp only [i64_w, i32_w]; rw [c6b0]) | skip)
   have H' := Aside0.mk H
   clear H
   go_wp2
   go_meet
   case rel => exact ⟨_, (decide ((l2.length : Int) > 60)), (by first | rfl | (simp; done) | (simp [*]; done)), H', ⟨by first | omega | exact Nat.le_refl _⟩, ⟨by (with_reducible repeat (first | refine blk_drewN ?_ _ | refine blk_drew ?_ | refine blk_alloc ?_ _)); exact BK571.out⟩, ⟨by repeat (first | (with_reducible first | exact HB.out | apply below_alloc | apply pw_below_drewN | apply below_drew1 | refine below_set ?_ GE571.out) | exact HB.out)⟩⟩
 case rest =>
  clear HC4
  try clear c1
  try clear c2
  try clear p2
  try clear c6
  try clear c6b0
  try clear c6b1
  obtain ⟨kq, x25_3, rfl, HA, HJ3, BK571, HB⟩ := hcut
  cases kq with
  | zero => exact absurd HA.out (by simp [trefoillaw25_DabitFinishes.j0])
  | succ kj3 =>
   have H := HA.out
   clear HA
   simp only [trefoillaw25_DabitFinishes.j0] at H
   by_cases c7 : x25_3 = true
   ·subst c7
    have H1 : ((trefoillaw25_awake.f kj3).bind fun t572 => (some t572)) = some r := by rw [if_pos rfl] at H; exact H
    clear H
    have H := H1
    clear H1
    replace H := Option.bind_eq_some_iff.mp H
    obtain ⟨t572, A80, H⟩ := H
    replace H : (some t572) = some r := H
    have A8 := Aside0.mk A80
    clear A80
    obtain rfl := Option.some.inj H
    go_wp2_with (first | ((with_reducible refine gate_callee (f := 14) rfl ?_); refine goesL_ (some 26) rfl rfl Try.func14 (by kernel_rfl) rfl #[] rfl (by (try simp only [List.map_toArray, List.map_cons, List.map_nil]); first | done | rfl | (simp only [List.length_drop, List.length_take]; rfl)) ?_; (with_reducible refine (trefoillaw25_awake.calls kj3  t572 _ A8.out).mono ?_); rintro e w9 ⟨rfl, hb⟩; refine ⟨_, rfl, ?_⟩; replace BK571 := Aside0.mk (BK571.lk hb); replace HB := Aside0.mk (below_step (by repeat (first | (with_reducible first | exact HB.out | apply below_alloc | apply pw_below_drewN | apply below_drew1 | refine below_set ?_ GE571.out) | exact HB.out)) hb); (try clear hb); (try clear hb2); (try clear hk); (try clear hi)))
    go_ret
    exact ⟨by first | rfl | (simp [errW_none, errW_some] <;> rfl) | (simp [*, errW_none, errW_some] <;> rfl), by repeat (first | (with_reducible first | exact HB.out | apply below_alloc | apply pw_below_drewN | apply below_drew1 | refine below_set ?_ GE571.out) | exact HB.out)⟩
   ·replace c7 := Bool.eq_false_iff.mpr c7
    subst c7
    have H1 : ((dabit_Choices.f kj3 a0_0 a0_1 a0_2 a0_3 a0_4 l1).bind fun bt573 => ((dabit_Spread.f kj3 a0_0 a0_1 a0_2 a0_3 a0_4 l1).bind fun bt579 => ((trefoilref25_Own.f kj3 a0_0 a0_1 a0_2 a0_3 a0_4 l1).bind fun bt583 => ((dabit_Finish.f kj3 a0_0 a0_1 a0_2 a0_3 a0_4 l1 l2).bind fun bt587 => ((trefoilref25_Finish.f kj3 a0_0 a0_1 a0_2 a0_3 a0_4 l1 l2).bind fun bt591 => (if bt573.2.2 = bt583.2 then (if bt579.2 = bt583.2 then ((trefoilref02_Nums.f kj3 bt579.1 bt583.1).bind fun t595 => (if t595 = true then ((bits_Vec_Len.f bt573.1 bt573.2.1).bind fun t596 => (trefoillaw25_DabitFinishes.j1 kj3 bt583.1 bt587.1 bt587.2 bt591.1 bt591.2 (t596 != (bt583.1.length : Int)) bt573.1 bt573.2.1)) else (trefoillaw25_DabitFinishes.j1 kj3 bt583.1 bt587.1 bt587.2 bt591.1 bt591.2 true bt573.1 bt573.2.1))) else (trefoillaw25_DabitFinishes.j1 kj3 bt583.1 bt587.1 bt587.2 bt591.1 bt591.2 true bt573.1 bt573.2.1)) else (trefoillaw25_DabitFinishes.j1 kj3 bt583.1 bt587.1 bt587.2 bt591.1 bt591.2 true bt573.1 bt573.2.1))))))) = some r := by rw [if_neg (show ¬ (false = true) by decide)] at H; exact H
    clear H
    have H := H1
    clear H1
    replace H := Option.bind_eq_some_iff.mp H
    obtain ⟨⟨t573, t574, t577⟩, A100, H⟩ := H
    replace H : ((dabit_Spread.f kj3 a0_0 a0_1 a0_2 a0_3 a0_4 l1).bind fun bt579 => ((trefoilref25_Own.f kj3 a0_0 a0_1 a0_2 a0_3 a0_4 l1).bind fun bt583 => ((dabit_Finish.f kj3 a0_0 a0_1 a0_2 a0_3 a0_4 l1 l2).bind fun bt587 => ((trefoilref25_Finish.f kj3 a0_0 a0_1 a0_2 a0_3 a0_4 l1 l2).bind fun bt591 => (if t577 = bt583.2 then (if bt579.2 = bt583.2 then ((trefoilref02_Nums.f kj3 bt579.1 bt583.1).bind fun t595 => (if t595 = true then ((bits_Vec_Len.f t573 t574).bind fun t596 => (trefoillaw25_DabitFinishes.j1 kj3 bt583.1 bt587.1 bt587.2 bt591.1 bt591.2 (t596 != (bt583.1.length : Int)) t573 t574)) else (trefoillaw25_DabitFinishes.j1 kj3 bt583.1 bt587.1 bt587.2 bt591.1 bt591.2 true t573 t574))) else (trefoillaw25_DabitFinishes.j1 kj3 bt583.1 bt587.1 bt587.2 bt591.1 bt591.2 true t573 t574)) else (trefoillaw25_DabitFinishes.j1 kj3 bt583.1 bt587.1 bt587.2 bt591.1 bt591.2 true t573 t574)))))) = some r := H
    have A10 := Aside0.mk A100
    clear A100
    replace H := Option.bind_eq_some_iff.mp H
    obtain ⟨⟨t579, t582⟩, A110, H⟩ := H
    replace H : ((trefoilref25_Own.f kj3 a0_0 a0_1 a0_2 a0_3 a0_4 l1).bind fun bt583 => ((dabit_Finish.f kj3 a0_0 a0_1 a0_2 a0_3 a0_4 l1 l2).bind fun bt587 => ((trefoilref25_Finish.f kj3 a0_0 a0_1 a0_2 a0_3 a0_4 l1 l2).bind fun bt591 => (if t577 = bt583.2 then (if t582 = bt583.2 then ((trefoilref02_Nums.f kj3 t579 bt583.1).bind fun t595 => (if t595 = true then ((bits_Vec_Len.f t573 t574).bind fun t596 => (trefoillaw25_DabitFinishes.j1 kj3 bt583.1 bt587.1 bt587.2 bt591.1 bt591.2 (t596 != (bt583.1.length : Int)) t573 t574)) else (trefoillaw25_DabitFinishes.j1 kj3 bt583.1 bt587.1 bt587.2 bt591.1 bt591.2 true t573 t574))) else (trefoillaw25_DabitFinishes.j1 kj3 bt583.1 bt587.1 bt587.2 bt591.1 bt591.2 true t573 t574)) else (trefoillaw25_DabitFinishes.j1 kj3 bt583.1 bt587.1 bt587.2 bt591.1 bt591.2 true t573 t574))))) = some r := H
    have A11 := Aside0.mk A110
    clear A110
    replace H := Option.bind_eq_some_iff.mp H
    obtain ⟨⟨t583, t586⟩, A120, H⟩ := H
    replace H : ((dabit_Finish.f kj3 a0_0 a0_1 a0_2 a0_3 a0_4 l1 l2).bind fun bt587 => ((trefoilref25_Finish.f kj3 a0_0 a0_1 a0_2 a0_3 a0_4 l1 l2).bind fun bt591 => (if t577 = t586 then (if t582 = t586 then ((trefoilref02_Nums.f kj3 t579 t583).bind fun t595 => (if t595 = true then ((bits_Vec_Len.f t573 t574).bind fun t596 => (trefoillaw25_DabitFinishes.j1 kj3 t583 bt587.1 bt587.2 bt591.1 bt591.2 (t596 != (t583.length : Int)) t573 t574)) else (trefoillaw25_DabitFinishes.j1 kj3 t583 bt587.1 bt587.2 bt591.1 bt591.2 true t573 t574))) else (trefoillaw25_DabitFinishes.j1 kj3 t583 bt587.1 bt587.2 bt591.1 bt591.2 true t573 t574)) else (trefoillaw25_DabitFinishes.j1 kj3 t583 bt587.1 bt587.2 bt591.1 bt591.2 true t573 t574)))) = some r := H
    have A12 := Aside0.mk A120
    clear A120
    replace H := Option.bind_eq_some_iff.mp H
    obtain ⟨⟨t587, t590⟩, A130, H⟩ := H
    replace H : ((trefoilref25_Finish.f kj3 a0_0 a0_1 a0_2 a0_3 a0_4 l1 l2).bind fun bt591 => (if t577 = t586 then (if t582 = t586 then ((trefoilref02_Nums.f kj3 t579 t583).bind fun t595 => (if t595 = true then ((bits_Vec_Len.f t573 t574).bind fun t596 => (trefoillaw25_DabitFinishes.j1 kj3 t583 t587 t590 bt591.1 bt591.2 (t596 != (t583.length : Int)) t573 t574)) else (trefoillaw25_DabitFinishes.j1 kj3 t583 t587 t590 bt591.1 bt591.2 true t573 t574))) else (trefoillaw25_DabitFinishes.j1 kj3 t583 t587 t590 bt591.1 bt591.2 true t573 t574)) else (trefoillaw25_DabitFinishes.j1 kj3 t583 t587 t590 bt591.1 bt591.2 true t573 t574))) = some r := H
    have A13 := Aside0.mk A130
    clear A130
    replace H := Option.bind_eq_some_iff.mp H
    obtain ⟨⟨t591, t594⟩, A140, H⟩ := H
    replace H : (if t577 = t586 then (if t582 = t586 then ((trefoilref02_Nums.f kj3 t579 t583).bind fun t595 => (if t595 = true then ((bits_Vec_Len.f t573 t574).bind fun t596 => (trefoillaw25_DabitFinishes.j1 kj3 t583 t587 t590 t591 t594 (t596 != (t583.length : Int)) t573 t574)) else (trefoillaw25_DabitFinishes.j1 kj3 t583 t587 t590 t591 t594 true t573 t574))) else (trefoillaw25_DabitFinishes.j1 kj3 t583 t587 t590 t591 t594 true t573 t574)) else (trefoillaw25_DabitFinishes.j1 kj3 t583 t587 t590 t591 t594 true t573 t574)) = some r := H
    have A14 := Aside0.mk A140
    clear A140
    have HC15 := Aside0.mk H
    clear H
    obtain ⟨hcz16_0, hcz16_1, hcz16_2, hcz16_3, hcz16_4, hfz16_0, hfz16_1, hfz16_2, hfz16_3, hfz16_4⟩ := cells_5 BK571.out
    go_upto_region 8 with (first | ((with_reducible refine gate_callee (f := 30) rfl ?_); refine goesL_ (some 30) rfl rfl Try.func30 (by kernel_rfl) rfl #[.agg #[.int .i64 a0_0, .int .i64 a0_1, .int .i64 a0_2, .int .i64 a0_3, .int .i64 a0_4], .slice A1 l1.length c1] rfl (by (try simp only [List.map_toArray, List.map_cons, List.map_nil]); first | done | rfl | (simp only [List.length_drop, List.length_take]; rfl)) ?_; (with_reducible refine (dabit_Choices.calls kj3 a0_0 a0_1 a0_2 a0_3 a0_4 _ _ l1 t573 t574 t577 _ ?side1 ?side2 A10.out).mono ?_); (case side1 => repeat (first | exact (Kd.C_below HR1.out HB.out) | (with_reducible refine Kd.C_alloc ?_ _) | (with_reducible refine Kd.C_drewN ?_ _) | (with_reducible refine Kd.C_drew ?_))); (case side2 => exact HC1.out); rintro e w17 ⟨v575, rfl, ho0, hb⟩; refine ⟨_, rfl, ?_⟩; have HO576 := Aside0.mk (Kd.R_lower ho0 (below_size (by repeat (first | (with_reducible first | exact HB.out | apply below_alloc | apply pw_below_drewN | apply below_drew1 | refine below_set ?_ GE571.out) | exact HB.out)))); replace BK571 := Aside0.mk (BK571.lk hb); replace HB := Aside0.mk (below_step (by repeat (first | (with_reducible first | exact HB.out | apply below_alloc | apply pw_below_drewN | apply below_drew1 | refine below_set ?_ GE571.out) | exact HB.out)) hb); (try clear hb); (try clear hb2); (try clear hk); (try clear hi); (try clear ho0)) | ((with_reducible refine gate_dst (N := 7) rfl ?_); (try (refine gate_guard (by rfl) ?_; dsimp only)); refine box_event ?hg (N := 7) ?hd (cs := #[.int .i64 0, .slice none 0 0]) (t := 43) ?hr ?_; (case hd => rfl); (case hg => rfl); (case hr => first | (go_simp; done) | (go_simp; rfl)); intro gb578 hg w18 hbox hb; have n0_ := Aside0.mk (Kd.R_below HO576.r hb); have n1_ := Aside0.mk (BK571.lk hb); have n2_ := Aside0.mk (below_step (by repeat (first | (with_reducible first | exact HB.out | apply below_alloc | apply pw_below_drewN | apply below_drew1 | refine below_set ?_ GE571.out) | exact HB.out)) hb); have n3_ := Aside0.mk (hbox); have n4_ := Aside0.mk ((by rw [hg]; exact (below_size (by repeat (first | (with_reducible first | exact HB.out | apply below_alloc | apply pw_below_drewN | apply below_drew1 | refine below_set ?_ GE571.out) | exact HB.out))) : w.heap.size ≤ gb578)); have n5_ := Aside0.mk ((by rw [hg]; exact (below_size (by repeat (first | (with_reducible first | exact HB.out | apply below_alloc | apply pw_below_drewN | apply below_drew1 | refine below_set ?_ GE571.out) | exact HB.out))) : w.heap.size ≤ gb578)); have n6_ := Aside0.mk ((by rw [hg]; exact Nat.ne_of_lt (blk_lt BK571.ld) : gb571 ≠ gb578)); have n7_ := Aside0.mk ((by rw [hg]; exact Nat.ne_of_gt (blk_lt BK571.ld) : gb578 ≠ gb571)); clear HO576; clear BK571; clear HB; have HO576 := n0_; have BK571 := n1_; have HB := n2_; have BK578 := n3_; have GW578 := n4_; have GE578 := n5_; have NB571_578 := n6_; have NB578_571 := n7_; clear n0_ n1_ n2_ n3_ n4_ n5_ n6_ n7_; clear hb hbox hg; have hnb19 := NB578_571.out; have hnc19 := NB571_578.out; obtain ⟨hcz20_0, hcz20_1, hfz20_0, hfz20_1⟩ := cells_2 BK578.out; obtain ⟨Ao21, co21, eo21⟩ := Kd.R_slice HO576.out; subst eo21; obtain ⟨hcz22_0, hcz22_1, hcz22_2, hcz22_3, hcz22_4, hfz22_0, hfz22_1, hfz22_2, hfz22_3, hfz22_4⟩ := cells_5 BK571.out) | ((with_reducible refine gate_callee (f := 31) rfl ?_); refine goesL_ (some 36) rfl rfl Try.func31 (by kernel_rfl) rfl #[.agg #[.int .i64 a0_0, .int .i64 a0_1, .int .i64 a0_2, .int .i64 a0_3, .int .i64 a0_4], .slice A1 l1.length c1] rfl (by (try simp only [List.map_toArray, List.map_cons, List.map_nil]); first | done | rfl | (simp only [List.length_drop, List.length_take]; rfl)) ?_; (with_reducible refine (dabit_Spread.calls kj3 a0_0 a0_1 a0_2 a0_3 a0_4 _ _ l1 t579 t582 _ ?side1 ?side2 A11.out).mono ?_); (case side1 => exact Kd.C_below HR1.out (by repeat (first | (with_reducible first | exact HB.out | apply below_alloc | apply pw_below_drewN | apply below_drew1 | refine below_set ?_ GE571.out | refine below_set ?_ GE578.out) | exact HB.out))); (case side2 => exact HC1.out); rintro e w23 ⟨v580, rfl, ho0, hb⟩; refine ⟨_, rfl, ?_⟩; have n0_ := Aside0.mk (Kd.R_elder' (by (with_reducible repeat (first | apply Kd.R_alloc | apply Kd.R_drewN | apply Kd.R_drew)); exact (Kd.R_mono (Kd.R_far (p := ⟨gb578, 1, none⟩) (Kd.R_far (p := ⟨gb578, 0, none⟩) (Kd.R_types HO576.out BK578.out (by decide)) (fun _ hk => hk.2) (.int .i64 t573)) (fun _ hk => hk.2) (.slice Ao21 t574.length co21)) (fun _ h_ => h_.1))) (Kd.R_base ho0) hb); have n1_ := Aside0.mk (Kd.R_lower (Kd.R_new' ho0 (Kd.R_lt (by (with_reducible repeat (first | apply Kd.R_alloc | apply Kd.R_drewN | apply Kd.R_drew)); exact (Kd.R_mono (Kd.R_far (p := ⟨gb578, 1, none⟩) (Kd.R_far (p := ⟨gb578, 0, none⟩) (Kd.R_types HO576.out BK578.out (by decide)) (fun _ hk => hk.2) (.int .i64 t573)) (fun _ hk => hk.2) (.slice Ao21 t574.length co21)) (fun _ h_ => h_.1))))) (below_size (by repeat (first | (with_reducible first | exact HB.out | apply below_alloc | apply pw_below_drewN | apply below_drew1 | refine below_set ?_ GE571.out | refine below_set ?_ GE578.out) | exact HB.out)))); have n2_ := Aside0.mk (blk_below (g := gb571) (o := .cells #[.int .i64 a0_0, .int .i64 a0_1, .int .i64 a0_2, .int .i64 a0_3, .int .i64 a0_4] 23 (0, 0)) (by (with_reducible repeat (first | refine blk_drewN ?_ _ | refine blk_drew ?_ | refine blk_alloc ?_ _)); refine blk_far ?_ NB571_578.out _; (with_reducible repeat (first | refine blk_drewN ?_ _ | refine blk_drew ?_ | refine blk_alloc ?_ _)); refine blk_far ?_ NB571_578.out _; (with_reducible repeat (first | refine blk_drewN ?_ _ | refine blk_drew ?_ | refine blk_alloc ?_ _)); exact BK571.out) hb); have n3_ := Aside0.mk (blk_below (g := gb578) (o := .cells #[.int .i64 t573, .slice Ao21 t574.length co21] 43 (0, 0)) (by (with_reducible repeat (first | refine blk_drewN ?_ _ | refine blk_drew ?_ | refine blk_alloc ?_ _)); refine blk_put (cs := #[.int .i64 t573, .slice none 0 0]) ?_ 1 _ rfl; (with_reducible repeat (first | refine blk_drewN ?_ _ | refine blk_drew ?_ | refine blk_alloc ?_ _)); refine blk_put (cs := #[.int .i64 0, .slice none 0 0]) ?_ 0 _ rfl; (with_reducible repeat (first | refine blk_drewN ?_ _ | refine blk_drew ?_ | refine blk_alloc ?_ _)); exact BK578.out) hb); have n4_ := Aside0.mk (below_step (by repeat (first | (with_reducible first | exact HB.out | apply below_alloc | apply pw_below_drewN | apply below_drew1 | refine below_set ?_ GE571.out | refine below_set ?_ GE578.out) | exact HB.out)) hb); clear HO576; clear BK571; clear BK578; clear HB; have HO576 := n0_; have HO581 := n1_; have BK571 := n2_; have BK578 := n3_; have HB := n4_; clear n0_ n1_ n2_ n3_ n4_; (try clear hb); (try clear hb2); (try clear hk); (try clear hi); (try clear ho0); obtain ⟨hcz24_0, hcz24_1, hcz24_2, hcz24_3, hcz24_4, hfz24_0, hfz24_1, hfz24_2, hfz24_3, hfz24_4⟩ := cells_5 BK571.out) | ((with_reducible refine gate_callee (f := 32) rfl ?_); refine goesL_ (some 42) rfl rfl Try.func32 (by kernel_rfl) rfl #[.agg #[.int .i64 a0_0, .int .i64 a0_1, .int .i64 a0_2, .int .i64 a0_3, .int .i64 a0_4], .slice A1 l1.length c1] rfl (by (try simp only [List.map_toArray, List.map_cons, List.map_nil]); first | done | rfl | (simp only [List.length_drop, List.length_take]; rfl)) ?_; (with_reducible refine (trefoilref25_Own.calls kj3 a0_0 a0_1 a0_2 a0_3 a0_4 _ _ l1 t583 t586 _ ?side1 ?side2 A12.out).mono ?_); (case side1 => repeat (first | exact (Kd.C_below HR1.out HB.out) | (with_reducible refine Kd.C_alloc ?_ _) | (with_reducible refine Kd.C_drewN ?_ _) | (with_reducible refine Kd.C_drew ?_))); (case side2 => exact HC1.out); rintro e w25 ⟨v584, rfl, ho0, hb⟩; refine ⟨_, rfl, ?_⟩; have n0_ := Aside0.mk (Kd.R_elder' HO576.r (Kd.R_base ho0) hb); have n1_ := Aside0.mk (Kd.R_elder' HO581.r (Kd.R_base ho0) hb); have n2_ := Aside0.mk (Kd.R_lower (Kd.R_new' (Kd.R_new' ho0 (Kd.R_lt HO576.r)) (Kd.R_lt HO581.r)) (below_size (by repeat (first | (with_reducible first | exact HB.out | apply below_alloc | apply pw_below_drewN | apply below_drew1 | refine below_set ?_ GE571.out | refine below_set ?_ GE578.out) | exact HB.out)))); have n3_ := Aside0.mk (BK571.lk hb); have n4_ := Aside0.mk (BK578.lk hb); have n5_ := Aside0.mk (below_step (by repeat (first | (with_reducible first | exact HB.out | apply below_alloc | apply pw_below_drewN | apply below_drew1 | refine below_set ?_ GE571.out | refine below_set ?_ GE578.out) | exact HB.out)) hb); clear HO576; clear HO581; clear BK571; clear BK578; clear HB; have HO576 := n0_; have HO581 := n1_; have HO585 := n2_; have BK571 := n3_; have BK578 := n4_; have HB := n5_; clear n0_ n1_ n2_ n3_ n4_ n5_; (try clear hb); (try clear hb2); (try clear hk); (try clear hi); (try clear ho0); obtain ⟨hcz26_0, hcz26_1, hcz26_2, hcz26_3, hcz26_4, hfz26_0, hfz26_1, hfz26_2, hfz26_3, hfz26_4⟩ := cells_5 BK571.out) | ((with_reducible refine gate_callee (f := 28) rfl ?_); refine goesL_ (some 49) rfl rfl Try.func28 (by kernel_rfl) rfl #[.agg #[.int .i64 a0_0, .int .i64 a0_1, .int .i64 a0_2, .int .i64 a0_3, .int .i64 a0_4], .slice A1 l1.length c1, .slice A2 l2.length c2] rfl (by (try simp only [List.map_toArray, List.map_cons, List.map_nil]); first | done | rfl | (simp only [List.length_drop, List.length_take]; rfl)) ?_; (with_reducible refine (dabit_Finish.calls kj3 a0_0 a0_1 a0_2 a0_3 a0_4 _ _ l1 _ _ l2 t587 t590 _ ?side1 ?side2 ?side3 ?side4 A13.out).mono ?_); (case side1 => repeat (first | exact (Kd.C_below HR1.out HB.out) | (with_reducible refine Kd.C_alloc ?_ _) | (with_reducible refine Kd.C_drewN ?_ _) | (with_reducible refine Kd.C_drew ?_))); (case side2 => exact HC1.out); (case side3 => repeat (first | exact (Kd.C_below HR2.out HB.out) | (with_reducible refine Kd.C_alloc ?_ _) | (with_reducible refine Kd.C_drewN ?_ _) | (with_reducible refine Kd.C_drew ?_))); (case side4 => exact HC2.out); rintro e w27 ⟨v588, rfl, ho0, hb⟩; refine ⟨_, rfl, ?_⟩; have n0_ := Aside0.mk (Kd.R_below HO576.r hb); have n1_ := Aside0.mk (Kd.R_below HO581.r hb); have n2_ := Aside0.mk (Kd.R_below HO585.r hb); have n3_ := Aside0.mk (Kd.S_lower (Kd.S_new' (Kd.S_new' (Kd.S_new' ho0 (Kd.R_lt HO576.r)) (Kd.R_lt HO581.r)) (Kd.R_lt HO585.r)) (below_size (by repeat (first | (with_reducible first | exact HB.out | apply below_alloc | apply pw_below_drewN | apply below_drew1 | refine below_set ?_ GE571.out | refine below_set ?_ GE578.out) | exact HB.out)))); have n4_ := Aside0.mk (BK571.lk hb); have n5_ := Aside0.mk (BK578.lk hb); have n6_ := Aside0.mk (below_step (by repeat (first | (with_reducible first | exact HB.out | apply below_alloc | apply pw_below_drewN | apply below_drew1 | refine below_set ?_ GE571.out | refine below_set ?_ GE578.out) | exact HB.out)) hb); clear HO576; clear HO581; clear HO585; clear BK571; clear BK578; clear HB; have HO576 := n0_; have HO581 := n1_; have HO585 := n2_; have HO589 := n3_; have BK571 := n4_; have BK578 := n5_; have HB := n6_; clear n0_ n1_ n2_ n3_ n4_ n5_ n6_; (try clear hb); (try clear hb2); (try clear hk); (try clear hi); (try clear ho0); obtain ⟨hcz28_0, hcz28_1, hcz28_2, hcz28_3, hcz28_4, hfz28_0, hfz28_1, hfz28_2, hfz28_3, hfz28_4⟩ := cells_5 BK571.out) | ((with_reducible refine gate_callee (f := 33) rfl ?_); refine goesL_ (some 56) rfl rfl Try.func33 (by kernel_rfl) rfl #[.agg #[.int .i64 a0_0, .int .i64 a0_1, .int .i64 a0_2, .int .i64 a0_3, .int .i64 a0_4], .slice A1 l1.length c1, .slice A2 l2.length c2] rfl (by (try simp only [List.map_toArray, List.map_cons, List.map_nil]); first | done | rfl | (simp only [List.length_drop, List.length_take]; rfl)) ?_; (with_reducible refine (trefoilref25_Finish.calls kj3 a0_0 a0_1 a0_2 a0_3 a0_4 _ _ l1 _ _ l2 t591 t594 _ ?side1 ?side2 ?side3 ?side4 A14.out).mono ?_); (case side1 => repeat (first | exact (Kd.C_below HR1.out HB.out) | (with_reducible refine Kd.C_alloc ?_ _) | (with_reducible refine Kd.C_drewN ?_ _) | (with_reducible refine Kd.C_drew ?_))); (case side2 => exact HC1.out); (case side3 => repeat (first | exact (Kd.C_below HR2.out HB.out) | (with_reducible refine Kd.C_alloc ?_ _) | (with_reducible refine Kd.C_drewN ?_ _) | (with_reducible refine Kd.C_drew ?_))); (case side4 => exact HC2.out); rintro e w29 ⟨v592, rfl, ho0, hb⟩; refine ⟨_, rfl, ?_⟩; have n0_ := Aside0.mk (Kd.R_below HO576.r hb); have n1_ := Aside0.mk (Kd.R_below HO581.r hb); have n2_ := Aside0.mk (Kd.R_below HO585.r hb); have n3_ := Aside0.mk (Kd.S_elder' HO589.s (Kd.S_base ho0) hb); have n4_ := Aside0.mk (Kd.S_lower (Kd.S_new' (Kd.S_new' (Kd.S_new' (Kd.S_new' ho0 (Kd.R_lt HO576.r)) (Kd.R_lt HO581.r)) (Kd.R_lt HO585.r)) (Kd.S_lt HO589.s)) (below_size (by repeat (first | (with_reducible first | exact HB.out | apply below_alloc | apply pw_below_drewN | apply below_drew1 | refine below_set ?_ GE571.out | refine below_set ?_ GE578.out) | exact HB.out)))); have n5_ := Aside0.mk (BK571.lk hb); have n6_ := Aside0.mk (BK578.lk hb); have n7_ := Aside0.mk (below_step (by repeat (first | (with_reducible first | exact HB.out | apply below_alloc | apply pw_below_drewN | apply below_drew1 | refine below_set ?_ GE571.out | refine below_set ?_ GE578.out) | exact HB.out)) hb); clear HO576; clear HO581; clear HO585; clear HO589; clear BK571; clear BK578; clear HB; have HO576 := n0_; have HO581 := n1_; have HO585 := n2_; have HO589 := n3_; have HO593 := n4_; have BK571 := n5_; have BK578 := n6_; have HB := n7_; clear n0_ n1_ n2_ n3_ n4_ n5_ n6_ n7_; (try clear hb); (try clear hb2); (try clear hk); (try clear hi); (try clear ho0)))
    (try simp only [Act.put, List.setIfInBounds_toArray, List.set_cons_zero, List.set_cons_succ])
    go_cut [79] (fun v79 wc => ∃ (kq : Nat) (x79_14 : Bool), v79 = .bool x79_14 ∧ Aside0 (trefoillaw25_DabitFinishes.j1 kq t583 t587 t590 t591 t594 x79_14 t573 t574 = some r) ∧ Aside0 (kq ≤ kj3) ∧ Aside0 (Kd.R (Kd.int .u64) 35 wc w.heap.size (fun k_ => some k_ ≠ ((.slice Ao21 t574.length co21) : Value).ownBlock) v584 t583) ∧ Aside0 (Kd.S k26 26 wc w.heap.size (fun k_ => some k_ ≠ (v584 : Value).ownBlock ∧ some k_ ≠ (v592 : Value).ownBlock ∧ some k_ ≠ ((.slice Ao21 t574.length co21) : Value).ownBlock) v588 t587) ∧ Aside0 (Kd.S k26 26 wc w.heap.size (fun k_ => some k_ ≠ (v584 : Value).ownBlock ∧ some k_ ≠ (v588 : Value).ownBlock ∧ some k_ ≠ ((.slice Ao21 t574.length co21) : Value).ownBlock) v592 t591) ∧ Aside0 (Kd.R (Kd.int .u64) 35 wc w.heap.size (fun k_ => some k_ ≠ (v584 : Value).ownBlock) (.slice Ao21 t574.length co21) t574) ∧ Aside0 (wc.heap[gb571]? = some (.cells #[.int .i64 a0_0, .int .i64 a0_1, .int .i64 a0_2, .int .i64 a0_3, .int .i64 a0_4] 23 (0, 0))) ∧ Aside0 (wc.heap[gb578]? = some (.cells #[.int .i64 t573, (.slice Ao21 t574.length co21)] 43 (0, 0))) ∧ Aside0 (Below w.heap.size w wc))
    case first =>
     have H := HC15.out
     clear HC15
     by_cases c30 : t577 = t586
     ·rw [if_pos c30] at H
      have c30b0 : (t577 == t586) = true := beq_iff_eq.mpr c30
      have c30b1 : (t577 != t586) = false := bne_eq_false_iff_eq.mpr c30
      clear c30
      (first | rw [c30b0] | (simp only [i64_w, i32_w]; rw [c30b0]) | skip)
      by_cases c31 : t582 = t586
      ·rw [if_pos c31] at H
       have c31b0 : (t582 == t586) = true := beq_iff_eq.mpr c31
       have c31b1 : (t582 != t586) = false := bne_eq_false_iff_eq.mpr c31
       clear c31
       replace H := Option.bind_eq_some_iff.mp H
       obtain ⟨t595, A320, H⟩ := H
       replace H : (if t595 = true then ((bits_Vec_Len.f t573 t574).bind fun t596 => (trefoillaw25_DabitFinishes.j1 kj3 t583 t587 t590 t591 t594 (t596 != (t583.length : Int)) t573 t574)) else (trefoillaw25_DabitFinishes.j1 kj3 t583 t587 t590 t591 t594 true t573 t574)) = some r := H
       have A32 := Aside0.mk A320
       clear A320
       by_cases c33 : t595 = true
       ·subst c33
        have H1 : ((bits_Vec_Len.f t573 t574).bind fun t596 => (trefoillaw25_DabitFinishes.j1 kj3 t583 t587 t590 t591 t594 (t596 != (t583.length : Int)) t573 t574)) = some r := by rw [if_pos rfl] at H; exact H
        clear H
        have H := H1
        clear H1
        replace H := Option.bind_eq_some_iff.mp H
        obtain ⟨t596, A340, H⟩ := H
        replace H : (trefoillaw25_DabitFinishes.j1 kj3 t583 t587 t590 t591 t594 (t596 != (t583.length : Int)) t573 t574) = some r := H
        have A34 := Aside0.mk A340
        clear A340
        have H' := Aside0.mk H
        clear H
        obtain ⟨Ao35, co35, eo35⟩ := Kd.R_slice HO581.out
        subst eo35
        obtain ⟨Ao36, co36, eo36⟩ := Kd.R_slice HO585.out
        subst eo36
        go_wp2_with (first | (go_at_call 34; (with_reducible refine (trefoilref02_Nums.calls kj3 _ _ t579 _ _ t583 true _ ?side1 ?side2 ?side3 ?side4 A32.out).mono ?_); (case side1 => repeat (first | exact (Kd.R_reads' HO581.out).2.2 | (with_reducible refine Kd.C_alloc ?_ _) | (with_reducible refine Kd.C_drewN ?_ _) | (with_reducible refine Kd.C_drew ?_))); (case side2 => exact (Kd.R_reads' HO581.out).2.1); (case side3 => repeat (first | exact (Kd.R_reads' HO585.out).2.2 | (with_reducible refine Kd.C_alloc ?_ _) | (with_reducible refine Kd.C_drewN ?_ _) | (with_reducible refine Kd.C_drew ?_))); (case side4 => exact (Kd.R_reads' HO585.out).2.1); rintro e w' ⟨rfl, ⟨nd, rfl⟩⟩; have hnb37 := NB578_571.out; have hnc37 := NB571_578.out; obtain ⟨hcz38_0, hcz38_1, hfz38_0, hfz38_1⟩ := cells_2 BK578.out) | (go_at_call 35; (with_reducible refine (bits_Vec_Len.calls t573 _ _ t574 t596 _ ?side1 ?side2 A34.out).mono ?_); (case side1 => repeat (first | exact (Kd.R_reads' HO576.out).2.2 | (with_reducible refine Kd.C_alloc ?_ _) | (with_reducible refine Kd.C_drewN ?_ _) | (with_reducible refine Kd.C_drew ?_))); (case side2 => exact (Kd.R_reads' HO576.out).2.1); rintro e w39 ⟨rfl, hb⟩; replace HO576 := Aside0.mk (Kd.R_below HO576.r hb); replace HO581 := Aside0.mk (Kd.R_below HO581.r hb); replace HO585 := Aside0.mk (Kd.R_below HO585.r hb); replace HO589 := Aside0.mk (Kd.S_below HO589.s hb); replace HO593 := Aside0.mk (Kd.S_below HO593.s hb); replace BK571 := Aside0.mk (BK571.lk hb); replace BK578 := Aside0.mk (BK578.lk hb); replace HB := Aside0.mk (below_step (by repeat (first | (with_reducible first | exact HB.out | apply below_alloc | apply pw_below_drewN | apply below_drew1 | refine below_set ?_ GE571.out | refine below_set ?_ GE578.out) | exact HB.out)) hb); (try clear hb); (try clear hb2); (try clear hk); (try clear hi)))
        go_meet
        case rel => exact ⟨_, ((t596 != (t583.length : Int))), (by first | rfl | (simp; done) | (simp [*]; done)), H', ⟨by have := HJ3.out; first | omega | exact Nat.le_refl _⟩, ⟨by (with_reducible repeat (first | apply Kd.R_alloc | apply Kd.R_drewN | apply Kd.R_drew)); exact Kd.R_mono HO585.out (fun _ hk => hk.1.2)⟩, ⟨by (with_reducible repeat (first | apply Kd.S_alloc | apply Kd.S_drewN | apply Kd.S_drew)); exact Kd.S_mono HO589.out (fun _ hk => ⟨hk.1.2, ⟨hk.2, hk.1.1.1.2⟩⟩)⟩, ⟨by (with_reducible repeat (first | apply Kd.S_alloc | apply Kd.S_drewN | apply Kd.S_drew)); exact Kd.S_mono HO593.out (fun _ hk => ⟨hk.1.2, ⟨hk.2, hk.1.1.1.2⟩⟩)⟩, ⟨by (with_reducible repeat (first | apply Kd.R_alloc | apply Kd.R_drewN | apply Kd.R_drew)); exact Kd.R_mono HO576.out (fun _ hk => hk.2)⟩, ⟨by (with_reducible repeat (first | refine blk_drewN ?_ _ | refine blk_drew ?_ | refine blk_alloc ?_ _)); exact BK571.out⟩, ⟨by (with_reducible repeat (first | refine blk_drewN ?_ _ | refine blk_drew ?_ | refine blk_alloc ?_ _)); exact BK578.out⟩, ⟨by repeat (first | (with_reducible first | exact HB.out | apply below_alloc | apply pw_below_drewN | apply below_drew1 | refine below_set ?_ GE571.out | refine below_set ?_ GE578.out) | exact HB.out)⟩⟩
       ·replace c33 := Bool.eq_false_iff.mpr c33
        subst c33
        have H1 : (trefoillaw25_DabitFinishes.j1 kj3 t583 t587 t590 t591 t594 true t573 t574) = some r := by rw [if_neg (show ¬ (false = true) by decide)] at H; exact H
        clear H
        have H := H1
        clear H1
        have H' := Aside0.mk H
        clear H
        obtain ⟨Ao40, co40, eo40⟩ := Kd.R_slice HO581.out
        subst eo40
        obtain ⟨Ao41, co41, eo41⟩ := Kd.R_slice HO585.out
        subst eo41
        go_wp2_with (first | (go_at_call 34; (with_reducible refine (trefoilref02_Nums.calls kj3 _ _ t579 _ _ t583 false _ ?side1 ?side2 ?side3 ?side4 A32.out).mono ?_); (case side1 => repeat (first | exact (Kd.R_reads' HO581.out).2.2 | (with_reducible refine Kd.C_alloc ?_ _) | (with_reducible refine Kd.C_drewN ?_ _) | (with_reducible refine Kd.C_drew ?_))); (case side2 => exact (Kd.R_reads' HO581.out).2.1); (case side3 => repeat (first | exact (Kd.R_reads' HO585.out).2.2 | (with_reducible refine Kd.C_alloc ?_ _) | (with_reducible refine Kd.C_drewN ?_ _) | (with_reducible refine Kd.C_drew ?_))); (case side4 => exact (Kd.R_reads' HO585.out).2.1); rintro e w' ⟨rfl, ⟨nd, rfl⟩⟩))
        go_meet
        case rel => exact ⟨_, (true), (by first | rfl | (simp; done) | (simp [*]; done)), H', ⟨by have := HJ3.out; first | omega | exact Nat.le_refl _⟩, ⟨by (with_reducible repeat (first | apply Kd.R_alloc | apply Kd.R_drewN | apply Kd.R_drew)); exact Kd.R_mono HO585.out (fun _ hk => hk.1.2)⟩, ⟨by (with_reducible repeat (first | apply Kd.S_alloc | apply Kd.S_drewN | apply Kd.S_drew)); exact Kd.S_mono HO589.out (fun _ hk => ⟨hk.1.2, ⟨hk.2, hk.1.1.1.2⟩⟩)⟩, ⟨by (with_reducible repeat (first | apply Kd.S_alloc | apply Kd.S_drewN | apply Kd.S_drew)); exact Kd.S_mono HO593.out (fun _ hk => ⟨hk.1.2, ⟨hk.2, hk.1.1.1.2⟩⟩)⟩, ⟨by (with_reducible repeat (first | apply Kd.R_alloc | apply Kd.R_drewN | apply Kd.R_drew)); exact Kd.R_mono HO576.out (fun _ hk => hk.2)⟩, ⟨by (with_reducible repeat (first | refine blk_drewN ?_ _ | refine blk_drew ?_ | refine blk_alloc ?_ _)); exact BK571.out⟩, ⟨by (with_reducible repeat (first | refine blk_drewN ?_ _ | refine blk_drew ?_ | refine blk_alloc ?_ _)); exact BK578.out⟩, ⟨by repeat (first | (with_reducible first | exact HB.out | apply below_alloc | apply pw_below_drewN | apply below_drew1 | refine below_set ?_ GE571.out | refine below_set ?_ GE578.out) | exact HB.out)⟩⟩
      ·rw [if_neg c31] at H
       have c31b0 : (t582 == t586) = false := beq_eq_false_iff_ne.mpr c31
       have c31b1 : (t582 != t586) = true := bne_iff_ne.mpr c31
       have H' := Aside0.mk H
       clear H
       go_wp2
       go_meet
       case rel => exact ⟨_, (true), (by first | rfl | (simp; done) | (simp [*]; done)), H', ⟨by have := HJ3.out; first | omega | exact Nat.le_refl _⟩, ⟨by (with_reducible repeat (first | apply Kd.R_alloc | apply Kd.R_drewN | apply Kd.R_drew)); exact Kd.R_mono HO585.out (fun _ hk => hk.1.2)⟩, ⟨by (with_reducible repeat (first | apply Kd.S_alloc | apply Kd.S_drewN | apply Kd.S_drew)); exact Kd.S_mono HO589.out (fun _ hk => ⟨hk.1.2, ⟨hk.2, hk.1.1.1.2⟩⟩)⟩, ⟨by (with_reducible repeat (first | apply Kd.S_alloc | apply Kd.S_drewN | apply Kd.S_drew)); exact Kd.S_mono HO593.out (fun _ hk => ⟨hk.1.2, ⟨hk.2, hk.1.1.1.2⟩⟩)⟩, ⟨by (with_reducible repeat (first | apply Kd.R_alloc | apply Kd.R_drewN | apply Kd.R_drew)); exact Kd.R_mono HO576.out (fun _ hk => hk.2)⟩, ⟨by (with_reducible repeat (first | refine blk_drewN ?_ _ | refine blk_drew ?_ | refine blk_alloc ?_ _)); exact BK571.out⟩, ⟨by (with_reducible repeat (first | refine blk_drewN ?_ _ | refine blk_drew ?_ | refine blk_alloc ?_ _)); exact BK578.out⟩, ⟨by repeat (first | (with_reducible first | exact HB.out | apply below_alloc | apply pw_below_drewN | apply below_drew1 | refine below_set ?_ GE571.out | refine below_set ?_ GE578.out) | exact HB.out)⟩⟩
     ·rw [if_neg c30] at H
      have c30b0 : (t577 == t586) = false := beq_eq_false_iff_ne.mpr c30
      have c30b1 : (t577 != t586) = true := bne_iff_ne.mpr c30
      (first | rw [c30b0] | (simp only [i64_w, i32_w]; rw [c30b0]) | skip)
      have H' := Aside0.mk H
      clear H
      go_wp2
      go_meet
      case rel => exact ⟨_, (true), (by first | rfl | (simp; done) | (simp [*]; done)), H', ⟨by have := HJ3.out; first | omega | exact Nat.le_refl _⟩, ⟨by (with_reducible repeat (first | apply Kd.R_alloc | apply Kd.R_drewN | apply Kd.R_drew)); exact Kd.R_mono HO585.out (fun _ hk => hk.1.2)⟩, ⟨by (with_reducible repeat (first | apply Kd.S_alloc | apply Kd.S_drewN | apply Kd.S_drew)); exact Kd.S_mono HO589.out (fun _ hk => ⟨hk.1.2, ⟨hk.2, hk.1.1.1.2⟩⟩)⟩, ⟨by (with_reducible repeat (first | apply Kd.S_alloc | apply Kd.S_drewN | apply Kd.S_drew)); exact Kd.S_mono HO593.out (fun _ hk => ⟨hk.1.2, ⟨hk.2, hk.1.1.1.2⟩⟩)⟩, ⟨by (with_reducible repeat (first | apply Kd.R_alloc | apply Kd.R_drewN | apply Kd.R_drew)); exact Kd.R_mono HO576.out (fun _ hk => hk.2)⟩, ⟨by (with_reducible repeat (first | refine blk_drewN ?_ _ | refine blk_drew ?_ | refine blk_alloc ?_ _)); exact BK571.out⟩, ⟨by (with_reducible repeat (first | refine blk_drewN ?_ _ | refine blk_drew ?_ | refine blk_alloc ?_ _)); exact BK578.out⟩, ⟨by repeat (first | (with_reducible first | exact HB.out | apply below_alloc | apply pw_below_drewN | apply below_drew1 | refine below_set ?_ GE571.out | refine below_set ?_ GE578.out) | exact HB.out)⟩⟩
    case rest =>
     clear HC15
     try clear c1
     try clear c2
     try clear p2
     try clear c3
     try clear c6
     try clear c6b0
     try clear c6b1
     try clear c7
     try clear c14
     try clear c19
     try clear c28
     try clear c30
     try clear c30b0
     try clear c30b1
     try clear c31
     try clear c31b0
     try clear c31b1
     try clear c32
     try clear c33
     try clear c37
     try clear hcz16_0
     try clear hcz16_1
     try clear hcz16_2
     try clear hcz16_3
     try clear hcz16_4
     try clear hcz20_0
     try clear hcz20_1
     try clear hcz22_0
     try clear hcz22_1
     try clear hcz22_2
     try clear hcz22_3
     try clear hcz22_4
     try clear hcz24_0
     try clear hcz24_1
     try clear hcz24_2
     try clear hcz24_3
     try clear hcz24_4
     try clear hcz26_0
     try clear hcz26_1
     try clear hcz26_2
     try clear hcz26_3
     try clear hcz26_4
     try clear hcz28_0
     try clear hcz28_1
     try clear hcz28_2
     try clear hcz28_3
     try clear hcz28_4
     try clear hcz38_0
     try clear hcz38_1
     try clear hfz16_0
     try clear hfz16_1
     try clear hfz16_2
     try clear hfz16_3
     try clear hfz16_4
     try clear hfz20_0
     try clear hfz20_1
     try clear hfz22_0
     try clear hfz22_1
     try clear hfz22_2
     try clear hfz22_3
     try clear hfz22_4
     try clear hfz24_0
     try clear hfz24_1
     try clear hfz24_2
     try clear hfz24_3
     try clear hfz24_4
     try clear hfz26_0
     try clear hfz26_1
     try clear hfz26_2
     try clear hfz26_3
     try clear hfz26_4
     try clear hfz28_0
     try clear hfz28_1
     try clear hfz28_2
     try clear hfz28_3
     try clear hfz28_4
     try clear hfz38_0
     try clear hfz38_1
     try clear p2
     obtain ⟨kq, x79_14, rfl, HA, HJ14, HO_11, HO_13, HO_15, HO_579001, BK571, BK578, HB⟩ := hcut
     cases kq with
     | zero => exact absurd HA.out (by simp [trefoillaw25_DabitFinishes.j1])
     | succ kj14 =>
      have H := HA.out
      clear HA
      simp only [trefoillaw25_DabitFinishes.j1] at H
      by_cases c42 : x79_14 = true
      ·subst c42
       have H1 : (some false) = some r := by rw [if_pos rfl] at H; exact H
       clear H
       have H := H1
       clear H1
       obtain rfl := Option.some.inj H
       go_wp2
       go_ret
       exact ⟨by first | rfl | (simp [errW_none, errW_some] <;> rfl) | (simp [*, errW_none, errW_some] <;> rfl), by repeat (first | (with_reducible first | exact HB.out | apply below_alloc | apply pw_below_drewN | apply below_drew1 | refine below_set ?_ GE571.out | refine below_set ?_ GE578.out) | exact HB.out)⟩
      ·replace c42 := Bool.eq_false_iff.mpr c42
       subst c42
       have H1 : (trefoillaw25_DabitFinishes.l0 kj14 t583 t587 t590 t591 t594 0 t573 t574) = some r := by rw [if_neg (show ¬ (false = true) by decide)] at H; exact H
       clear H
       have H := H1
       clear H1
       have H' := Aside0.mk H
       clear H
       go_wp2
       go_loopg [17] kj14 (fun kq v17 w' => ∃ (x17_3 : Int), v17 = .int .i64 x17_3 ∧ Aside0 (trefoillaw25_DabitFinishes.l0 kq t583 t587 t590 t591 t594 x17_3 t573 t574 = some r) ∧ Aside0 (kq ≤ kj14) ∧ Aside0 (Kd.R (Kd.int .u64) 35 w' w.heap.size (fun k_ => some k_ ≠ ((.slice Ao21 t574.length co21) : Value).ownBlock) v584 t583) ∧ Aside0 (Kd.S k26 26 w' w.heap.size (fun k_ => some k_ ≠ (v584 : Value).ownBlock ∧ some k_ ≠ (v592 : Value).ownBlock ∧ some k_ ≠ ((.slice Ao21 t574.length co21) : Value).ownBlock) v588 t587) ∧ Aside0 (Kd.S k26 26 w' w.heap.size (fun k_ => some k_ ≠ (v584 : Value).ownBlock ∧ some k_ ≠ (v588 : Value).ownBlock ∧ some k_ ≠ ((.slice Ao21 t574.length co21) : Value).ownBlock) v592 t591) ∧ Aside0 (Kd.R (Kd.int .u64) 35 w' w.heap.size (fun k_ => some k_ ≠ (v584 : Value).ownBlock) (.slice Ao21 t574.length co21) t574) ∧ Aside0 (w'.heap[gb571]? = some (.cells #[.int .i64 a0_0, .int .i64 a0_1, .int .i64 a0_2, .int .i64 a0_3, .int .i64 a0_4] 23 (0, 0))) ∧ Aside0 (w'.heap[gb578]? = some (.cells #[.int .i64 t573, (.slice Ao21 t574.length co21)] 43 (0, 0))) ∧ Aside0 (Below w.heap.size w w'))
       case atStart => exact ⟨(0), (by first | rfl | (simp; done) | (simp [*]; done)), H', ⟨Nat.le_refl _⟩, ⟨HO_11.r⟩, ⟨HO_13.s⟩, ⟨HO_15.s⟩, ⟨HO_579001.r⟩, ⟨by (with_reducible repeat (first | refine blk_drewN ?_ _ | refine blk_drew ?_ | refine blk_alloc ?_ _)); exact BK571.out⟩, ⟨by (with_reducible repeat (first | refine blk_drewN ?_ _ | refine blk_drew ?_ | refine blk_alloc ?_ _)); exact BK578.out⟩, ⟨by repeat (first | (with_reducible first | exact HB.out | apply below_alloc | apply pw_below_drewN | apply below_drew1 | refine below_set ?_ GE571.out | refine below_set ?_ GE578.out) | exact HB.out)⟩⟩
       case round =>
        clear H'
        try clear c1
        try clear c2
        try clear p2
        try clear c3
        try clear c4
        try clear c6
        try clear c6b0
        try clear c6b1
        try clear c7
        try clear c14
        try clear c19
        try clear c28
        try clear c30
        try clear c30b0
        try clear c30b1
        try clear c31
        try clear c31b0
        try clear c31b1
        try clear c32
        try clear c33
        try clear c37
        try clear c42
        try clear hcz16_0
        try clear hcz16_1
        try clear hcz16_2
        try clear hcz16_3
        try clear hcz16_4
        try clear hcz20_0
        try clear hcz20_1
        try clear hcz22_0
        try clear hcz22_1
        try clear hcz22_2
        try clear hcz22_3
        try clear hcz22_4
        try clear hcz24_0
        try clear hcz24_1
        try clear hcz24_2
        try clear hcz24_3
        try clear hcz24_4
        try clear hcz26_0
        try clear hcz26_1
        try clear hcz26_2
        try clear hcz26_3
        try clear hcz26_4
        try clear hcz28_0
        try clear hcz28_1
        try clear hcz28_2
        try clear hcz28_3
        try clear hcz28_4
        try clear hcz38_0
        try clear hcz38_1
        try clear hfz16_0
        try clear hfz16_1
        try clear hfz16_2
        try clear hfz16_3
        try clear hfz16_4
        try clear hfz20_0
        try clear hfz20_1
        try clear hfz22_0
        try clear hfz22_1
        try clear hfz22_2
        try clear hfz22_3
        try clear hfz22_4
        try clear hfz24_0
        try clear hfz24_1
        try clear hfz24_2
        try clear hfz24_3
        try clear hfz24_4
        try clear hfz26_0
        try clear hfz26_1
        try clear hfz26_2
        try clear hfz26_3
        try clear hfz26_4
        try clear hfz28_0
        try clear hfz28_1
        try clear hfz28_2
        try clear hfz28_3
        try clear hfz28_4
        try clear hfz38_0
        try clear hfz38_1
        try clear p2
        obtain ⟨x17_3, rfl, HA, HK3, HO_11, HO_13, HO_15, HO_579001, BK571, BK578, HB⟩ := hrel
        cases gk with
        | zero => exact absurd HA.out (by simp [trefoillaw25_DabitFinishes.l0])
        | succ k3 =>
         have H := HA.out
         clear HA
         simp only [trefoillaw25_DabitFinishes.l0] at H
         by_cases c43 : x17_3 < (t583.length : Int)
         ·rw [if_pos c43] at H
          have c43b0 : decide (x17_3 < (t583.length : Int)) = true := decide_eq_true c43
          clear c43
          replace H := Option.bind_eq_some_iff.mp H
          obtain ⟨t597, A440, H⟩ := H
          replace H : (if 0 ≤ x17_3 then (if (t597 != ((rd t583 x17_3) == 1)) = true then (some false) else (trefoillaw25_DabitFinishes.l0 k3 t583 t587 t590 t591 t594 (wrap64 (x17_3 + 1)) t573 t574)) else (none)) = some r := H
          have A44 := Aside0.mk A440
          clear A440
          by_cases c45 : 0 ≤ x17_3
          ·rw [if_pos c45] at H
           have c45b0 : decide (0 ≤ x17_3) = true := decide_eq_true c45
           clear c45
           by_cases c46 : (t597 != ((rd t583 x17_3) == 1)) = true
           ·rw [if_pos c46] at H
            have c46b0 : (t597 != ((rd t583 x17_3) == 1)) = true := c46
            (try (have c46b1 : decide (t597 = ((rd t583 x17_3) == 1)) = false := by simpa using c46))
            (try (have c46b2 : (t597 == ((rd t583 x17_3) == 1)) = false := by simpa using c46))
            (try (have c46b3 : ¬ (t597 = ((rd t583 x17_3) == 1)) := by simpa using c46))
            clear c46
            obtain rfl := Option.some.inj H
            obtain ⟨Ao47, co47, eo47⟩ := Kd.R_slice HO_11.out
            subst eo47
            try go_wp2
            have n0_ := Aside0.mk (Kd.R_drew HO_11.out)
            have n1_ := Aside0.mk (Kd.S_drew HO_13.out)
            have n2_ := Aside0.mk (Kd.S_drew HO_15.out)
            have n3_ := Aside0.mk (Kd.R_drew HO_579001.out)
            have n4_ := Aside0.mk (blk_drew BK571.out)
            have n5_ := Aside0.mk (blk_drew BK578.out)
            have n6_ := Aside0.mk (below_drew1 HB.out)
            clear HO_11
            clear HO_13
            clear HO_15
            clear HO_579001
            clear BK571
            clear BK578
            clear HB
            have HO_11 := n0_
            have HO_13 := n1_
            have HO_15 := n2_
            have HO_579001 := n3_
            have BK571 := n4_
            have BK578 := n5_
            have HB := n6_
            clear n0_ n1_ n2_ n3_ n4_ n5_ n6_
            have p598 : 0 ≤ (x17_3 : Int) := of_decide_eq_true (by first | (with_reducible assumption) | assumption)
            have q598 : x17_3 < (t583.length : Int) := of_decide_eq_true (by first | (with_reducible assumption) | assumption)
            obtain ⟨ad598, e598, hx598_0⟩ := Kd.at_int (Kd.R_reads' HO_11.out).2.2 x17_3 p598 q598
            cases e598
            replace p598 := eq_true p598
            replace q598 := eq_true q598
            refine start_ (n := 9) (S := fun w' => w'.cell? ⟨gb578, 0, none⟩ = some (.int .i64 t573) ∧ w'.cell? ⟨gb578, 1, none⟩ = some (.slice Ao21 t574.length co21) ∧ w'.cell? (ad598.add (x17_3).toNat) = some (.int .u64 (rd t583 x17_3))) (ds := []) #[false, false, false, false, false, false, false, false, false] (by kernel_rfl) rfl rfl ⟨(blk_cell BK578.out 0).trans rfl, (blk_cell BK578.out 1).trans rfl, hx598_0⟩ (fun hHeld => ?_); refine with_tabW trefoillaw25_DabitFinishes.tab13 trefoillaw25_DabitFinishes.bits13 (fun HT_ HW_ => ?_)
            generalize wr.drew = w48 at HO_11 HO_13 HO_15 HO_579001 BK571 BK578 HB hx598_0 hHeld ⊢
            refine pure_ (i := 1) (N := some 87) (v := ?_) (a' := ?_) #[false, true, false, false, false, false, false, false, false] rfl rfl (any_of HT_.out (by kernel_rfl)) (fun _ _ _ h => h) (Or.inl ⟨by rfl, ?_⟩) ?_ ?_
            rotate_left
            ·intro w'
             go_simp
             with_reducible rfl
            rotate_left
            ·simp only [Act.put, List.setIfInBounds_toArray, List.set_cons_zero, List.set_cons_succ, i64_w, i32_w]
             rfl
            refine pure_ (i := 3) (N := some 89) (v := ?_) (a' := ?_) #[false, true, false, true, false, false, false, false, false] rfl rfl (any_of HT_.out (by kernel_rfl)) (fun _ _ _ h => h) (Or.inl ⟨by rfl, ?_⟩) ?_ ?_
            rotate_left
            ·intro w'
             go_simp
             with_reducible rfl
            rotate_left
            ·simp only [Act.put, List.setIfInBounds_toArray, List.set_cons_zero, List.set_cons_succ, i64_w, i32_w]
             rfl
            refine pure_ (i := 4) (N := some 90) (v := ?_) (a' := ?_) #[false, true, false, true, true, false, false, false, false] rfl rfl (any_of HT_.out (by kernel_rfl)) (fun _ _ _ h => h) (Or.inl ⟨by rfl, ?_⟩) ?_ ?_
            rotate_left
            ·intro w'
             go_simp
             with_reducible rfl
            rotate_left
            ·simp only [Act.put, List.setIfInBounds_toArray, List.set_cons_zero, List.set_cons_succ, i64_w, i32_w]
             rfl
            refine pure_ (i := 5) (N := some 91) (v := ?_) (a' := ?_) #[false, true, false, true, true, true, false, false, false] rfl rfl (any_of HT_.out (by kernel_rfl)) (fun _ _ _ h => h) (Or.inl ⟨by rfl, ?_⟩) ?_ ?_
            rotate_left
            ·intro w'
             go_simp
             with_reducible rfl
            rotate_left
            ·simp only [Act.put, List.setIfInBounds_toArray, List.set_cons_zero, List.set_cons_succ, i64_w, i32_w]
             rfl
            refine take_ (i := 0) (N := some 86) (v := ?_) (a' := ?_) #[true, true, false, true, true, true, false, false, false] rfl rfl (take_ofW HT_.out HW_.out (by kernel_rfl)) (fun _ _ _ h => h) (Or.inl ⟨by rfl, ?_⟩) hHeld ?_ ?_
            rotate_left
            ·rintro w' ⟨s0, s1, s2⟩
             go_simp
             with_reducible rfl
            rotate_left
            ·simp only [Act.put, List.setIfInBounds_toArray, List.set_cons_zero, List.set_cons_succ, i64_w, i32_w]
             rfl
            refine take_ (i := 6) (N := some 92) (v := ?_) (a' := ?_) #[true, true, false, true, true, true, true, false, false] rfl rfl (take_ofW HT_.out HW_.out (by kernel_rfl)) (fun _ _ _ h => h) (Or.inl ⟨by rfl, ?_⟩) hHeld ?_ ?_
            rotate_left
            ·rintro w' ⟨s0, s1, s2⟩
             go_simp
             with_reducible rfl
            rotate_left
            ·simp only [Act.put, List.setIfInBounds_toArray, List.set_cons_zero, List.set_cons_succ, i64_w, i32_w]
             rfl
            refine pure_ (i := 7) (N := some 93) (v := ?_) (a' := ?_) #[true, true, false, true, true, true, true, true, false] rfl rfl (any_of HT_.out (by kernel_rfl)) (fun _ _ _ h => h) (Or.inl ⟨by rfl, ?_⟩) ?_ ?_
            rotate_left
            ·intro w'
             go_simp
             with_reducible rfl
            rotate_left
            ·simp only [Act.put, List.setIfInBounds_toArray, List.set_cons_zero, List.set_cons_succ, i64_w, i32_w]
             rfl
            refine one_ (i := 2) (N := some 88) #[true, true, true, true, true, true, true, true, false] rfl rfl (one_of HT_.out (by kernel_rfl)) (by decide) (fun K hK => ?_)
            refine goes_ Try.func36 (by kernel_rfl) rfl #[.agg #[.int .i64 t573, .slice Ao21 t574.length co21], .int .i64 x17_3] (by rfl) rfl rfl (by (try simp only [List.map_toArray, List.map_cons, List.map_nil]); first | done | rfl | (simp only [List.length_drop, List.length_take]; rfl)) ?_
            with_reducible refine (bits_Vec_Get.calls t573 _ _ t574 x17_3 t597 _ ?side1 ?side2 A44.out).mono ?_
            (case side1 => repeat (first | exact (Kd.R_reads' HO_579001.out).2.2 | (with_reducible refine Kd.C_alloc ?_ _) | (with_reducible refine Kd.C_drewN ?_ _) | (with_reducible refine Kd.C_drew ?_)))
            (case side2 => exact (Kd.R_reads' HO_579001.out).2.1)
            rintro e w49 ⟨rfl, hb⟩
            have HS2_ := (hb.cell (World.block_lt_of_cell? _ _ (hHeld.2.2))).trans (hHeld.2.2)
            refine ⟨_, rfl, ?_⟩
            have n0_ := Aside0.mk (Kd.R_below HO_11.r hb)
            have n1_ := Aside0.mk (Kd.S_below HO_13.s hb)
            have n2_ := Aside0.mk (Kd.S_below HO_15.s hb)
            have n3_ := Aside0.mk (Kd.R_below HO_579001.r hb)
            have n4_ := Aside0.mk (BK571.lk hb)
            have n5_ := Aside0.mk (BK578.lk hb)
            have n6_ := Aside0.mk (below_step (by repeat (first | (with_reducible first | exact HB.out | apply below_alloc | apply pw_below_drewN | apply below_drew1 | refine below_set ?_ GE571.out | refine below_set ?_ GE578.out) | exact HB.out)) hb)
            clear HO_11
            clear HO_13
            clear HO_15
            clear HO_579001
            clear BK571
            clear BK578
            clear HB
            have HO_11 := n0_
            have HO_13 := n1_
            have HO_15 := n2_
            have HO_579001 := n3_
            have BK571 := n4_
            have BK578 := n5_
            have HB := n6_
            clear n0_ n1_ n2_ n3_ n4_ n5_ n6_
            (try clear hb)
            (try clear hb2)
            (try clear hk)
            (try clear hi)
            refine hK.out _ _ ⟨(blk_cell BK578.out 0).trans rfl, (blk_cell BK578.out 1).trans rfl, HS2_⟩ (fun hHeld => ?_)
            clear hK K
            refine norm_ (a' := ?_) ?_ ?_
            rotate_left
            ·show Act.put _ (some 88) _ = _
             simp only [Act.put, List.setIfInBounds_toArray, List.set_cons_zero, List.set_cons_succ, i64_w, i32_w]
             rfl
            refine pure_ (i := 8) (N := some 94) (v := ?_) (a' := ?_) #[true, true, true, true, true, true, true, true, true] rfl rfl (any_of HT_.out (by kernel_rfl)) (fun _ _ _ h => h) (Or.inl ⟨by rfl, ?_⟩) ?_ ?_
            rotate_left
            ·intro w'
             go_simp
             with_reducible rfl
            rotate_left
            ·simp only [Act.put, List.setIfInBounds_toArray, List.set_cons_zero, List.set_cons_succ, i64_w, i32_w]
             rfl
            refine done_ (done_of HT_.out (by kernel_rfl)) ?_
            try go_wp2
            go_ret
            exact ⟨by first | rfl | (simp [errW_none, errW_some] <;> rfl) | (simp [*, errW_none, errW_some] <;> rfl), by repeat (first | (with_reducible first | exact HB.out | apply below_alloc | apply pw_below_drewN | apply below_drew1 | refine below_set ?_ GE571.out | refine below_set ?_ GE578.out) | exact HB.out)⟩
           ·rw [if_neg c46] at H
            have c46b0 : (t597 != ((rd t583 x17_3) == 1)) = false := by simpa using c46
            (try (have c46b1 : decide (t597 = ((rd t583 x17_3) == 1)) = true := by simpa using c46))
            (try (have c46b2 : (t597 == ((rd t583 x17_3) == 1)) = true := by simpa using c46))
            clear c46
            have H' := Aside0.mk H
            clear H
            obtain ⟨Ao50, co50, eo50⟩ := Kd.R_slice HO_11.out
            subst eo50
            try go_wp2
            have n0_ := Aside0.mk (Kd.R_drew HO_11.out)
            have n1_ := Aside0.mk (Kd.S_drew HO_13.out)
            have n2_ := Aside0.mk (Kd.S_drew HO_15.out)
            have n3_ := Aside0.mk (Kd.R_drew HO_579001.out)
            have n4_ := Aside0.mk (blk_drew BK571.out)
            have n5_ := Aside0.mk (blk_drew BK578.out)
            have n6_ := Aside0.mk (below_drew1 HB.out)
            clear HO_11
            clear HO_13
            clear HO_15
            clear HO_579001
            clear BK571
            clear BK578
            clear HB
            have HO_11 := n0_
            have HO_13 := n1_
            have HO_15 := n2_
            have HO_579001 := n3_
            have BK571 := n4_
            have BK578 := n5_
            have HB := n6_
            clear n0_ n1_ n2_ n3_ n4_ n5_ n6_
            have p598 : 0 ≤ (x17_3 : Int) := of_decide_eq_true (by first | (with_reducible assumption) | assumption)
            have q598 : x17_3 < (t583.length : Int) := of_decide_eq_true (by first | (with_reducible assumption) | assumption)
            obtain ⟨ad598, e598, hx598_0⟩ := Kd.at_int (Kd.R_reads' HO_11.out).2.2 x17_3 p598 q598
            cases e598
            replace p598 := eq_true p598
            replace q598 := eq_true q598
            refine start_ (n := 9) (S := fun w' => w'.cell? ⟨gb578, 0, none⟩ = some (.int .i64 t573) ∧ w'.cell? ⟨gb578, 1, none⟩ = some (.slice Ao21 t574.length co21) ∧ w'.cell? (ad598.add (x17_3).toNat) = some (.int .u64 (rd t583 x17_3))) (ds := []) #[false, false, false, false, false, false, false, false, false] (by kernel_rfl) rfl rfl ⟨(blk_cell BK578.out 0).trans rfl, (blk_cell BK578.out 1).trans rfl, hx598_0⟩ (fun hHeld => ?_); refine with_tabW trefoillaw25_DabitFinishes.tab13 trefoillaw25_DabitFinishes.bits13 (fun HT_ HW_ => ?_)
            generalize wr.drew = w51 at HO_11 HO_13 HO_15 HO_579001 BK571 BK578 HB hx598_0 hHeld ⊢
            refine pure_ (i := 1) (N := some 87) (v := ?_) (a' := ?_) #[false, true, false, false, false, false, false, false, false] rfl rfl (any_of HT_.out (by kernel_rfl)) (fun _ _ _ h => h) (Or.inl ⟨by rfl, ?_⟩) ?_ ?_
            rotate_left
            ·intro w'
             go_simp
             with_reducible rfl
            rotate_left
            ·simp only [Act.put, List.setIfInBounds_toArray, List.set_cons_zero, List.set_cons_succ, i64_w, i32_w]
             rfl
            refine pure_ (i := 3) (N := some 89) (v := ?_) (a' := ?_) #[false, true, false, true, false, false, false, false, false] rfl rfl (any_of HT_.out (by kernel_rfl)) (fun _ _ _ h => h) (Or.inl ⟨by rfl, ?_⟩) ?_ ?_
            rotate_left
            ·intro w'
             go_simp
             with_reducible rfl
            rotate_left
            ·simp only [Act.put, List.setIfInBounds_toArray, List.set_cons_zero, List.set_cons_succ, i64_w, i32_w]
             rfl
            refine pure_ (i := 4) (N := some 90) (v := ?_) (a' := ?_) #[false, true, false, true, true, false, false, false, false] rfl rfl (any_of HT_.out (by kernel_rfl)) (fun _ _ _ h => h) (Or.inl ⟨by rfl, ?_⟩) ?_ ?_
            rotate_left
            ·intro w'
             go_simp
             with_reducible rfl
            rotate_left
            ·simp only [Act.put, List.setIfInBounds_toArray, List.set_cons_zero, List.set_cons_succ, i64_w, i32_w]
             rfl
            refine pure_ (i := 5) (N := some 91) (v := ?_) (a' := ?_) #[false, true, false, true, true, true, false, false, false] rfl rfl (any_of HT_.out (by kernel_rfl)) (fun _ _ _ h => h) (Or.inl ⟨by rfl, ?_⟩) ?_ ?_
            rotate_left
            ·intro w'
             go_simp
             with_reducible rfl
            rotate_left
            ·simp only [Act.put, List.setIfInBounds_toArray, List.set_cons_zero, List.set_cons_succ, i64_w, i32_w]
             rfl
            refine take_ (i := 0) (N := some 86) (v := ?_) (a' := ?_) #[true, true, false, true, true, true, false, false, false] rfl rfl (take_ofW HT_.out HW_.out (by kernel_rfl)) (fun _ _ _ h => h) (Or.inl ⟨by rfl, ?_⟩) hHeld ?_ ?_
            rotate_left
            ·rintro w' ⟨s0, s1, s2⟩
             go_simp
             with_reducible rfl
            rotate_left
            ·simp only [Act.put, List.setIfInBounds_toArray, List.set_cons_zero, List.set_cons_succ, i64_w, i32_w]
             rfl
            refine take_ (i := 6) (N := some 92) (v := ?_) (a' := ?_) #[true, true, false, true, true, true, true, false, false] rfl rfl (take_ofW HT_.out HW_.out (by kernel_rfl)) (fun _ _ _ h => h) (Or.inl ⟨by rfl, ?_⟩) hHeld ?_ ?_
            rotate_left
            ·rintro w' ⟨s0, s1, s2⟩
             go_simp
             with_reducible rfl
            rotate_left
            ·simp only [Act.put, List.setIfInBounds_toArray, List.set_cons_zero, List.set_cons_succ, i64_w, i32_w]
             rfl
            refine pure_ (i := 7) (N := some 93) (v := ?_) (a' := ?_) #[true, true, false, true, true, true, true, true, false] rfl rfl (any_of HT_.out (by kernel_rfl)) (fun _ _ _ h => h) (Or.inl ⟨by rfl, ?_⟩) ?_ ?_
            rotate_left
            ·intro w'
             go_simp
             with_reducible rfl
            rotate_left
            ·simp only [Act.put, List.setIfInBounds_toArray, List.set_cons_zero, List.set_cons_succ, i64_w, i32_w]
             rfl
            refine one_ (i := 2) (N := some 88) #[true, true, true, true, true, true, true, true, false] rfl rfl (one_of HT_.out (by kernel_rfl)) (by decide) (fun K hK => ?_)
            refine goes_ Try.func36 (by kernel_rfl) rfl #[.agg #[.int .i64 t573, .slice Ao21 t574.length co21], .int .i64 x17_3] (by rfl) rfl rfl (by (try simp only [List.map_toArray, List.map_cons, List.map_nil]); first | done | rfl | (simp only [List.length_drop, List.length_take]; rfl)) ?_
            with_reducible refine (bits_Vec_Get.calls t573 _ _ t574 x17_3 t597 _ ?side1 ?side2 A44.out).mono ?_
            (case side1 => repeat (first | exact (Kd.R_reads' HO_579001.out).2.2 | (with_reducible refine Kd.C_alloc ?_ _) | (with_reducible refine Kd.C_drewN ?_ _) | (with_reducible refine Kd.C_drew ?_)))
            (case side2 => exact (Kd.R_reads' HO_579001.out).2.1)
            rintro e w52 ⟨rfl, hb⟩
            have HS2_ := (hb.cell (World.block_lt_of_cell? _ _ (hHeld.2.2))).trans (hHeld.2.2)
            refine ⟨_, rfl, ?_⟩
            have n0_ := Aside0.mk (Kd.R_below HO_11.r hb)
            have n1_ := Aside0.mk (Kd.S_below HO_13.s hb)
            have n2_ := Aside0.mk (Kd.S_below HO_15.s hb)
            have n3_ := Aside0.mk (Kd.R_below HO_579001.r hb)
            have n4_ := Aside0.mk (BK571.lk hb)
            have n5_ := Aside0.mk (BK578.lk hb)
            have n6_ := Aside0.mk (below_step (by repeat (first | (with_reducible first | exact HB.out | apply below_alloc | apply pw_below_drewN | apply below_drew1 | refine below_set ?_ GE571.out | refine below_set ?_ GE578.out) | exact HB.out)) hb)
            clear HO_11
            clear HO_13
            clear HO_15
            clear HO_579001
            clear BK571
            clear BK578
            clear HB
            have HO_11 := n0_
            have HO_13 := n1_
            have HO_15 := n2_
            have HO_579001 := n3_
            have BK571 := n4_
            have BK578 := n5_
            have HB := n6_
            clear n0_ n1_ n2_ n3_ n4_ n5_ n6_
            (try clear hb)
            (try clear hb2)
            (try clear hk)
            (try clear hi)
            refine hK.out _ _ ⟨(blk_cell BK578.out 0).trans rfl, (blk_cell BK578.out 1).trans rfl, HS2_⟩ (fun hHeld => ?_)
            clear hK K
            refine norm_ (a' := ?_) ?_ ?_
            rotate_left
            ·show Act.put _ (some 88) _ = _
             simp only [Act.put, List.setIfInBounds_toArray, List.set_cons_zero, List.set_cons_succ, i64_w, i32_w]
             rfl
            refine pure_ (i := 8) (N := some 94) (v := ?_) (a' := ?_) #[true, true, true, true, true, true, true, true, true] rfl rfl (any_of HT_.out (by kernel_rfl)) (fun _ _ _ h => h) (Or.inl ⟨by rfl, ?_⟩) ?_ ?_
            rotate_left
            ·intro w'
             go_simp
             with_reducible rfl
            rotate_left
            ·simp only [Act.put, List.setIfInBounds_toArray, List.set_cons_zero, List.set_cons_succ, i64_w, i32_w]
             rfl
            refine done_ (done_of HT_.out (by kernel_rfl)) ?_
            try go_wp2
            go_roundg k3
            case measure => have := HJ3.out; have := HJ14.out; have := HK3.out; omega
            case rel => exact ⟨(wrap64 (x17_3 + 1)), (by first | rfl | (simp; done) | (simp [*]; done)), H', ⟨by have := HJ3.out; have := HJ14.out; have := HK3.out; omega⟩, ⟨HO_11.r⟩, ⟨HO_13.s⟩, ⟨HO_15.s⟩, ⟨HO_579001.r⟩, ⟨by (with_reducible repeat (first | refine blk_drewN ?_ _ | refine blk_drew ?_ | refine blk_alloc ?_ _)); exact BK571.out⟩, ⟨by (with_reducible repeat (first | refine blk_drewN ?_ _ | refine blk_drew ?_ | refine blk_alloc ?_ _)); exact BK578.out⟩, ⟨by repeat (first | (with_reducible first | exact HB.out | apply below_alloc | apply pw_below_drewN | apply below_drew1 | refine below_set ?_ GE571.out | refine below_set ?_ GE578.out) | exact HB.out)⟩⟩
          ·rw [if_neg c45] at H
           exact absurd H (by simp)
         ·rw [if_neg c43] at H
          have c43b0 : decide (x17_3 < (t583.length : Int)) = false := decide_eq_false c43
          clear c43
          replace H := Option.bind_eq_some_iff.mp H
          obtain ⟨t599, A530, H⟩ := H
          replace H : (if t599 = true then (if t590 = t594 then ((trefoillaw25_awake.f k3).bind fun t600 => (some t600)) else (some false)) else (some false)) = some r := H
          have A53 := Aside0.mk A530
          clear A530
          by_cases c54 : t599 = true
          ·subst c54
           have H1 : (if t590 = t594 then ((trefoillaw25_awake.f k3).bind fun t600 => (some t600)) else (some false)) = some r := by rw [if_pos rfl] at H; exact H
           clear H
           have H := H1
           clear H1
           by_cases c55 : t590 = t594
           ·rw [if_pos c55] at H
            have c55b0 : (t590 == t594) = true := beq_iff_eq.mpr c55
            have c55b1 : (t590 != t594) = false := bne_eq_false_iff_eq.mpr c55
            clear c55
            replace H := Option.bind_eq_some_iff.mp H
            obtain ⟨t600, A560, H⟩ := H
            replace H : (some t600) = some r := H
            have A56 := Aside0.mk A560
            clear A560
            obtain rfl := Option.some.inj H
            obtain ⟨Ao57, co57, eo57⟩ := Kd.R_slice HO_11.out
            subst eo57
            obtain ⟨Ao58, co58, eo58⟩ := Kd.S_slice HO_13.out
            subst eo58
            obtain ⟨Ao59, co59, eo59⟩ := Kd.S_slice HO_15.out
            subst eo59
            go_wp2_with (first | ((with_reducible refine gate_callee (f := 37) rfl ?_); refine goesL_ (some 97) rfl rfl Try.func37 (by kernel_rfl) rfl #[.slice Ao58 t587.length co58, .slice Ao59 t591.length co59] rfl (by (try simp only [List.map_toArray, List.map_cons, List.map_nil]); first | done | rfl | (simp only [List.length_drop, List.length_take]; rfl)) ?_; (with_reducible refine (trefoilref22_Shares.calls k3 _ _ t587 _ _ t591 true _ ?side1 ?side2 ?side3 ?side4 A53.out).mono ?_); (case side1 => repeat (first | exact (Kd.S_reads' HO_13.out).2.2 | (with_reducible refine Kd.C_alloc ?_ _) | (with_reducible refine Kd.C_drewN ?_ _) | (with_reducible refine Kd.C_drew ?_))); (case side2 => exact (Kd.S_reads' HO_13.out).2.1); (case side3 => repeat (first | exact (Kd.S_reads' HO_15.out).2.2 | (with_reducible refine Kd.C_alloc ?_ _) | (with_reducible refine Kd.C_drewN ?_ _) | (with_reducible refine Kd.C_drew ?_))); (case side4 => exact (Kd.S_reads' HO_15.out).2.1); rintro e w60 ⟨rfl, hb⟩; refine ⟨_, rfl, ?_⟩; replace HO_11 := Aside0.mk (Kd.R_below HO_11.r hb); replace HO_13 := Aside0.mk (Kd.S_below HO_13.s hb); replace HO_15 := Aside0.mk (Kd.S_below HO_15.s hb); replace HO_579001 := Aside0.mk (Kd.R_below HO_579001.r hb); replace BK571 := Aside0.mk (BK571.lk hb); replace BK578 := Aside0.mk (BK578.lk hb); replace HB := Aside0.mk (below_step (by repeat (first | (with_reducible first | exact HB.out | apply below_alloc | apply pw_below_drewN | apply below_drew1 | refine below_set ?_ GE571.out | refine below_set ?_ GE578.out) | exact HB.out)) hb); (try clear hb); (try clear hb2); (try clear hk); (try clear hi)) | (go_at_call 14; (with_reducible refine (trefoillaw25_awake.calls k3  t600 _ A56.out).mono ?_); rintro e w61 ⟨rfl, hb⟩; replace HO_11 := Aside0.mk (Kd.R_below HO_11.r hb); replace HO_13 := Aside0.mk (Kd.S_below HO_13.s hb); replace HO_15 := Aside0.mk (Kd.S_below HO_15.s hb); replace HO_579001 := Aside0.mk (Kd.R_below HO_579001.r hb); replace BK571 := Aside0.mk (BK571.lk hb); replace BK578 := Aside0.mk (BK578.lk hb); replace HB := Aside0.mk (below_step (by repeat (first | (with_reducible first | exact HB.out | apply below_alloc | apply pw_below_drewN | apply below_drew1 | refine below_set ?_ GE571.out | refine below_set ?_ GE578.out) | exact HB.out)) hb); (try clear hb); (try clear hb2); (try clear hk); (try clear hi)))
            go_ret
            exact ⟨by first | rfl | (simp [errW_none, errW_some] <;> rfl) | (simp [*, errW_none, errW_some] <;> rfl), by repeat (first | (with_reducible first | exact HB.out | apply below_alloc | apply pw_below_drewN | apply below_drew1 | refine below_set ?_ GE571.out | refine below_set ?_ GE578.out) | exact HB.out)⟩
           ·rw [if_neg c55] at H
            have c55b0 : (t590 == t594) = false := beq_eq_false_iff_ne.mpr c55
            have c55b1 : (t590 != t594) = true := bne_iff_ne.mpr c55
            obtain rfl := Option.some.inj H
            obtain ⟨Ao62, co62, eo62⟩ := Kd.R_slice HO_11.out
            subst eo62
            obtain ⟨Ao63, co63, eo63⟩ := Kd.S_slice HO_13.out
            subst eo63
            obtain ⟨Ao64, co64, eo64⟩ := Kd.S_slice HO_15.out
            subst eo64
            go_wp2_with (first | ((with_reducible refine gate_callee (f := 37) rfl ?_); refine goesL_ (some 97) rfl rfl Try.func37 (by kernel_rfl) rfl #[.slice Ao63 t587.length co63, .slice Ao64 t591.length co64] rfl (by (try simp only [List.map_toArray, List.map_cons, List.map_nil]); first | done | rfl | (simp only [List.length_drop, List.length_take]; rfl)) ?_; (with_reducible refine (trefoilref22_Shares.calls k3 _ _ t587 _ _ t591 true _ ?side1 ?side2 ?side3 ?side4 A53.out).mono ?_); (case side1 => repeat (first | exact (Kd.S_reads' HO_13.out).2.2 | (with_reducible refine Kd.C_alloc ?_ _) | (with_reducible refine Kd.C_drewN ?_ _) | (with_reducible refine Kd.C_drew ?_))); (case side2 => exact (Kd.S_reads' HO_13.out).2.1); (case side3 => repeat (first | exact (Kd.S_reads' HO_15.out).2.2 | (with_reducible refine Kd.C_alloc ?_ _) | (with_reducible refine Kd.C_drewN ?_ _) | (with_reducible refine Kd.C_drew ?_))); (case side4 => exact (Kd.S_reads' HO_15.out).2.1); rintro e w65 ⟨rfl, hb⟩; refine ⟨_, rfl, ?_⟩; replace HO_11 := Aside0.mk (Kd.R_below HO_11.r hb); replace HO_13 := Aside0.mk (Kd.S_below HO_13.s hb); replace HO_15 := Aside0.mk (Kd.S_below HO_15.s hb); replace HO_579001 := Aside0.mk (Kd.R_below HO_579001.r hb); replace BK571 := Aside0.mk (BK571.lk hb); replace BK578 := Aside0.mk (BK578.lk hb); replace HB := Aside0.mk (below_step (by repeat (first | (with_reducible first | exact HB.out | apply below_alloc | apply pw_below_drewN | apply below_drew1 | refine below_set ?_ GE571.out | refine below_set ?_ GE578.out) | exact HB.out)) hb); (try clear hb); (try clear hb2); (try clear hk); (try clear hi)))
            go_ret
            exact ⟨by first | rfl | (simp [errW_none, errW_some] <;> rfl) | (simp [*, errW_none, errW_some] <;> rfl), by repeat (first | (with_reducible first | exact HB.out | apply below_alloc | apply pw_below_drewN | apply below_drew1 | refine below_set ?_ GE571.out | refine below_set ?_ GE578.out) | exact HB.out)⟩
          ·replace c54 := Bool.eq_false_iff.mpr c54
           subst c54
           have H1 : (some false) = some r := by rw [if_neg (show ¬ (false = true) by decide)] at H; exact H
           clear H
           have H := H1
           clear H1
           obtain rfl := Option.some.inj H
           obtain ⟨Ao66, co66, eo66⟩ := Kd.R_slice HO_11.out
           subst eo66
           obtain ⟨Ao67, co67, eo67⟩ := Kd.S_slice HO_13.out
           subst eo67
           obtain ⟨Ao68, co68, eo68⟩ := Kd.S_slice HO_15.out
           subst eo68
           go_wp2_with (first | ((with_reducible refine gate_callee (f := 37) rfl ?_); refine goesL_ (some 97) rfl rfl Try.func37 (by kernel_rfl) rfl #[.slice Ao67 t587.length co67, .slice Ao68 t591.length co68] rfl (by (try simp only [List.map_toArray, List.map_cons, List.map_nil]); first | done | rfl | (simp only [List.length_drop, List.length_take]; rfl)) ?_; (with_reducible refine (trefoilref22_Shares.calls k3 _ _ t587 _ _ t591 false _ ?side1 ?side2 ?side3 ?side4 A53.out).mono ?_); (case side1 => repeat (first | exact (Kd.S_reads' HO_13.out).2.2 | (with_reducible refine Kd.C_alloc ?_ _) | (with_reducible refine Kd.C_drewN ?_ _) | (with_reducible refine Kd.C_drew ?_))); (case side2 => exact (Kd.S_reads' HO_13.out).2.1); (case side3 => repeat (first | exact (Kd.S_reads' HO_15.out).2.2 | (with_reducible refine Kd.C_alloc ?_ _) | (with_reducible refine Kd.C_drewN ?_ _) | (with_reducible refine Kd.C_drew ?_))); (case side4 => exact (Kd.S_reads' HO_15.out).2.1); rintro e w69 ⟨rfl, hb⟩; refine ⟨_, rfl, ?_⟩; replace HO_11 := Aside0.mk (Kd.R_below HO_11.r hb); replace HO_13 := Aside0.mk (Kd.S_below HO_13.s hb); replace HO_15 := Aside0.mk (Kd.S_below HO_15.s hb); replace HO_579001 := Aside0.mk (Kd.R_below HO_579001.r hb); replace BK571 := Aside0.mk (BK571.lk hb); replace BK578 := Aside0.mk (BK578.lk hb); replace HB := Aside0.mk (below_step (by repeat (first | (with_reducible first | exact HB.out | apply below_alloc | apply pw_below_drewN | apply below_drew1 | refine below_set ?_ GE571.out | refine below_set ?_ GE578.out) | exact HB.out)) hb); (try clear hb); (try clear hb2); (try clear hk); (try clear hi)))
           go_ret
           exact ⟨by first | rfl | (simp [errW_none, errW_some] <;> rfl) | (simp [*, errW_none, errW_some] <;> rfl), by repeat (first | (with_reducible first | exact HB.out | apply below_alloc | apply pw_below_drewN | apply below_drew1 | refine below_set ?_ GE571.out | refine below_set ?_ GE578.out) | exact HB.out)⟩
end Go.Proofs.Ytcmaidpoolcelaa.P
