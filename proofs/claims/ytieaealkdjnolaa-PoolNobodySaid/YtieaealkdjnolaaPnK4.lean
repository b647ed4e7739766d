/- Functions of the program as plain Lean functions, and proofs that the machine's calls do what these do: written by a program of this workplace (wip/tools/pp.py). -/
import Derived.Test.YtieaealkdjnolaaPnPx0
namespace Go.Proofs.Ytieaealkdjnolaa.P
open Go.RowKit Go.Proofs.YtieaealkdjnolaaW.PrintWords Go.Proofs.YtieaealkdjnolaaW.PrintLast Go.Proofs.YtieaealkdjnolaaW.PrintMore
attribute [local go_sem] max2_int min2_int max_two min_two max_three min_three max_four min_four   -- for this text's walks alone
set_option linter.unusedVariables false
set_option linter.unusedSimpArgs false

/-! ### trefoillaw32_small: function 17 -/
mutual
def trefoillaw32_small.l0 : Nat → Int → Int → Int → Int → Int → Int → Int → List (S32) → Int → Int → Option (Bool)
 | 0, _, _, _, _, _, _, _, _, _, _ => none
 | k + 1, x3, x145000, x145001, x145002, x145003, x145004, x145005, x145006, x145007, x145008 => if x3 < (x145006.length : Int) then (trefoillaw32_small.j1 k x3 (decide (x3 ≤ 70)) x145000 x145001 x145002 x145003 x145004 x145005 x145006 x145007 x145008) else (trefoillaw32_small.j1 k x3 false x145000 x145001 x145002 x145003 x145004 x145005 x145006 x145007 x145008)
def trefoillaw32_small.j1 : Nat → Int → Bool → Int → Int → Int → Int → Int → Int → List (S32) → Int → Int → Option (Bool)
 | 0, _, _, _, _, _, _, _, _, _, _, _ => none
 | k + 1, x3, x12, x145000, x145001, x145002, x145003, x145004, x145005, x145006, x145007, x145008 => if x12 = true then (if 0 ≤ x3 then (if x3 < (x145006.length : Int) then (if (((rd_T32 x145006 x3).f0).length : Int) > 60 then (some false) else (if (((rd_T32 x145006 x3).f1).length : Int) > 60 then (some false) else (if (((rd_T32 x145006 x3).f2).length : Int) > 60 then (some false) else (trefoillaw32_small.l0 k (wrap64 (x3 + 1)) x145000 x145001 x145002 x145003 x145004 x145005 x145006 x145007 x145008)))) else (none)) else (none)) else (some (decide ((x145006.length : Int) ≤ 70)))
end
def trefoillaw32_small.f (k : Nat) (a0_0 : Int) (a0_1 : Int) (a0_2 : Int) (a0_3 : Int) (a0_4 : Int) (a0_5 : Int) (l0_6 : List (S32)) (a0_7 : Int) (a0_8 : Int) : Option (Bool) := trefoillaw32_small.l0 k 0 a0_0 a0_1 a0_2 a0_3 a0_4 a0_5 l0_6 a0_7 a0_8
theorem trefoillaw32_small.mono_l : ∀ k, (∀ y0 y1 y2 y3 y4 y5 y6 y7 y8 y9, LeO (trefoillaw32_small.l0 k y0 y1 y2 y3 y4 y5 y6 y7 y8 y9) (trefoillaw32_small.l0 (k + 1) y0 y1 y2 y3 y4 y5 y6 y7 y8 y9)) ∧ (∀ y0 y1 y2 y3 y4 y5 y6 y7 y8 y9 y10, LeO (trefoillaw32_small.j1 k y0 y1 y2 y3 y4 y5 y6 y7 y8 y9 y10) (trefoillaw32_small.j1 (k + 1) y0 y1 y2 y3 y4 y5 y6 y7 y8 y9 y10))
 | 0 => ⟨fun _ _ _ _ _ _ _ _ _ _ r h => by simp [trefoillaw32_small.l0] at h, fun _ _ _ _ _ _ _ _ _ _ _ r h => by simp [trefoillaw32_small.j1] at h⟩
 | k + 1 => by
  obtain ⟨ih0, ih1⟩ := trefoillaw32_small.mono_l k
  refine ⟨?_, ?_⟩
  ·intro y0 y1 y2 y3 y4 y5 y6 y7 y8 y9
   unfold trefoillaw32_small.l0
   repeat' first
   | (with_reducible exact ih0 _ _ _ _ _ _ _ _ _ _)
   | (with_reducible exact ih1 _ _ _ _ _ _ _ _ _ _ _)
   | (with_reducible exact LeO.refl _)
   | (with_reducible exact LeO.none _)
   | (with_reducible refine LeO.ite ?_ ?_)
   | (with_reducible refine LeO.bind ?_ (fun _ => ?_))
   | exact ih0 _ _ _ _ _ _ _ _ _ _
   | exact ih1 _ _ _ _ _ _ _ _ _ _ _
   | exact LeO.none _
   | refine LeO.ite ?_ ?_
   | refine LeO.bind ?_ (fun _ => ?_)
  ·intro y0 y1 y2 y3 y4 y5 y6 y7 y8 y9 y10
   unfold trefoillaw32_small.j1
   repeat' first
   | (with_reducible exact ih0 _ _ _ _ _ _ _ _ _ _)
   | (with_reducible exact ih1 _ _ _ _ _ _ _ _ _ _ _)
   | (with_reducible exact LeO.refl _)
   | (with_reducible exact LeO.none _)
   | (with_reducible refine LeO.ite ?_ ?_)
   | (with_reducible refine LeO.bind ?_ (fun _ => ?_))
   | exact ih0 _ _ _ _ _ _ _ _ _ _
   | exact ih1 _ _ _ _ _ _ _ _ _ _ _
   | exact LeO.none _
   | refine LeO.ite ?_ ?_
   | refine LeO.bind ?_ (fun _ => ?_)
theorem trefoillaw32_small.mono : ∀ a0 a1 a2 a3 a4 a5 a6 a7 a8 k, LeO (trefoillaw32_small.f k a0 a1 a2 a3 a4 a5 a6 a7 a8) (trefoillaw32_small.f (k + 1) a0 a1 a2 a3 a4 a5 a6 a7 a8) := by
 intro a0 a1 a2 a3 a4 a5 a6 a7 a8 k
 obtain ⟨ih0, ih1⟩ := trefoillaw32_small.mono_l k
 unfold trefoillaw32_small.f
 repeat' first
   | (with_reducible exact ih0 _ _ _ _ _ _ _ _ _ _)
   | (with_reducible exact ih1 _ _ _ _ _ _ _ _ _ _ _)
   | (with_reducible exact LeO.refl _)
   | (with_reducible exact LeO.none _)
   | (with_reducible refine LeO.ite ?_ ?_)
   | (with_reducible refine LeO.bind ?_ (fun _ => ?_))
   | exact ih0 _ _ _ _ _ _ _ _ _ _
   | exact ih1 _ _ _ _ _ _ _ _ _ _ _
   | exact LeO.none _
   | refine LeO.ite ?_ ?_
   | refine LeO.bind ?_ (fun _ => ?_)
set_option maxHeartbeats 8000000 in
set_option maxRecDepth 100000 in
theorem trefoillaw32_small.calls (k : Nat) (a0_0 : Int) (a0_1 : Int) (a0_2 : Int) (a0_3 : Int) (a0_4 : Int) (a0_5 : Int) (A0_6 : Option Addr) (c0_6 : Nat) (l0_6 : List (S32)) (a0_7 : Int) (a0_8 : Int) (r : Bool) (w : World) (hr0_6 : Kd.C k32 w A0_6 l0_6.length l0_6) (hc0_6 : l0_6.length ≤ c0_6) (h : trefoillaw32_small.f k a0_0 a0_1 a0_2 a0_3 a0_4 a0_5 l0_6 a0_7 a0_8 = some r) :
  Calls Try.prog 17 #[.agg #[.int .i64 a0_0, .int .i64 a0_1, .int .i64 a0_2, .int .i64 a0_3, .int .i64 a0_4, .int .i64 a0_5, .slice A0_6 l0_6.length c0_6, .int .i64 a0_7, .int .i64 a0_8]] w fun e w' => e = .returned (.bool r) ∧ Below w.heap.size w w' := by
 have hu39 := Try.underlying39
 have HR0_6 := Aside0.mk hr0_6
 have HC0_6 := Aside0.mk hc0_6
 clear hr0_6 hc0_6
 have HB := Aside0.mk (Below.refl w.heap.size w)
 have H : (trefoillaw32_small.l0 k 0 a0_0 a0_1 a0_2 a0_3 a0_4 a0_5 l0_6 a0_7 a0_8) = some r := h
 clear h
 have H' := Aside0.mk H
 clear H
 go_enter Try.func17, Try.ntmps17
 go_wp2_with (first | ((with_reducible refine gate_dst (N := 1) rfl ?_); (try (refine gate_guard (by rfl) ?_; dsimp only)); refine box_event ?hg (N := 1) ?hd (cs := #[.int .i64 a0_0, .int .i64 a0_1, .int .i64 a0_2, .int .i64 a0_3, .int .i64 a0_4, .int .i64 a0_5, .slice A0_6 l0_6.length c0_6, .int .i64 a0_7, .int .i64 a0_8]) (t := 39) ?hr ?_; (case hd => rfl); (case hg => rfl); (case hr => first | (go_simp; done) | (go_simp; rfl)); intro gb144 hg w2 hbox hb; have n0_ := Aside0.mk (below_step HB.bl hb); have n1_ := Aside0.mk (hbox); have n2_ := Aside0.mk ((by rw [hg]; exact (below_size HB.bl) : w.heap.size ≤ gb144)); have n3_ := Aside0.mk ((by rw [hg]; exact (below_size HB.bl) : w.heap.size ≤ gb144)); clear HB; have HB := n0_; have BK144 := n1_; have GW144 := n2_; have GE144 := n3_; clear n0_ n1_ n2_ n3_; clear hb hbox hg))
 go_loopg [3] k (fun kq v3 w' => ∃ (x3_1 : Int), v3 = .int .i64 x3_1 ∧ Aside0 (trefoillaw32_small.l0 kq x3_1 a0_0 a0_1 a0_2 a0_3 a0_4 a0_5 l0_6 a0_7 a0_8 = some r) ∧ Aside0 (kq ≤ k) ∧ Aside0 (w'.heap[gb144]? = some (.cells #[.int .i64 a0_0, .int .i64 a0_1, .int .i64 a0_2, .int .i64 a0_3, .int .i64 a0_4, .int .i64 a0_5, (.slice A0_6 l0_6.length c0_6), .int .i64 a0_7, .int .i64 a0_8] 39 (0, 0))) ∧ Aside0 (Below w.heap.size w w'))
 case atStart => exact ⟨(0), (by first | rfl | (simp; done) | (simp [*]; done)), H', ⟨Nat.le_refl _⟩, ⟨by (with_reducible repeat (first | refine blk_drewN ?_ _ | refine blk_drew ?_ | refine blk_alloc ?_ _)); exact BK144.out⟩, ⟨by repeat (first | (with_reducible first | exact HB.out | apply below_alloc | apply pw_below_drewN | apply below_drew1 | refine below_set ?_ GE144.out) | exact HB.out)⟩⟩
 case round =>
  clear H'
  try clear c1
  try clear p2
  obtain ⟨x3_1, rfl, HA, HK1, BK144, HB⟩ := hrel
  cases gk with
  | zero => exact absurd HA.out (by simp [trefoillaw32_small.l0])
  | succ k1 =>
   have H := HA.out
   clear HA
   simp only [trefoillaw32_small.l0] at H
   have HC3 := Aside0.mk H
   clear H
   go_upto_region 2 with (fail)
   go_cut [12] (fun v12 wc => ∃ (kq : Nat) (x12_2 : Bool), v12 = .bool x12_2 ∧ Aside0 (trefoillaw32_small.j1 kq x3_1 x12_2 a0_0 a0_1 a0_2 a0_3 a0_4 a0_5 l0_6 a0_7 a0_8 = some r) ∧ Aside0 (kq ≤ k1) ∧ Aside0 (wc.heap[gb144]? = some (.cells #[.int .i64 a0_0, .int .i64 a0_1, .int .i64 a0_2, .int .i64 a0_3, .int .i64 a0_4, .int .i64 a0_5, (.slice A0_6 l0_6.length c0_6), .int .i64 a0_7, .int .i64 a0_8] 39 (0, 0))) ∧ Aside0 (Below w.heap.size w wc))
   case first =>
    have H := HC3.out
    clear HC3
    by_cases c4 : x3_1 < (l0_6.length : Int)
    ·rw [if_pos c4] at H
     have c4b0 : decide (x3_1 < (l0_6.length : Int)) = true := decide_eq_true c4
     clear c4
     (first | rw [c4b0] | (simp only [i64_w, i32_w]; rw [c4b0]) | skip)
     have H' := Aside0.mk H
     clear H
     obtain ⟨hcz5_0, hcz5_1, hcz5_2, hcz5_3, hcz5_4, hcz5_5, hcz5_6, hcz5_7, hcz5_8, hfz5_0, hfz5_1, hfz5_2, hfz5_3, hfz5_4, hfz5_5, hfz5_6, hfz5_7, hfz5_8⟩ := cells_9 BK144.out
     go_wp2
     go_meet
     case rel => exact ⟨_, (decide (x3_1 ≤ 70)), (by first | rfl | (simp; done) | (simp [*]; done)), H', ⟨by have := HK1.out; first | omega | exact Nat.le_refl _⟩, ⟨by (with_reducible repeat (first | refine blk_drewN ?_ _ | refine blk_drew ?_ | refine blk_alloc ?_ _)); exact BK144.out⟩, ⟨by repeat (first | (with_reducible first | exact HB.out | apply below_alloc | apply pw_below_drewN | apply below_drew1 | refine below_set ?_ GE144.out) | exact HB.out)⟩⟩
    ·rw [if_neg c4] at H
     have c4b0 : decide (x3_1 < (l0_6.length : Int)) = false := decide_eq_false c4
     clear c4
     (first | rw [c4b0] | (simp only [i64_w, i32_w]; rw [c4b0]) | skip)
     have H' := Aside0.mk H
     clear H
     obtain ⟨hcz6_0, hcz6_1, hcz6_2, hcz6_3, hcz6_4, hcz6_5, hcz6_6, hcz6_7, hcz6_8, hfz6_0, hfz6_1, hfz6_2, hfz6_3, hfz6_4, hfz6_5, hfz6_6, hfz6_7, hfz6_8⟩ := cells_9 BK144.out
     go_wp2
     go_meet
     case rel => exact ⟨_, (false), (by first | rfl | (simp; done) | (simp [*]; done)), H', ⟨by have := HK1.out; first | omega | exact Nat.le_refl _⟩, ⟨by (with_reducible repeat (first | refine blk_drewN ?_ _ | refine blk_drew ?_ | refine blk_alloc ?_ _)); exact BK144.out⟩, ⟨by repeat (first | (with_reducible first | exact HB.out | apply below_alloc | apply pw_below_drewN | apply below_drew1 | refine below_set ?_ GE144.out) | exact HB.out)⟩⟩
   case rest =>
    clear HC3
    try clear c1
    try clear p2
    try clear c4
    try clear c4b0
    try clear hcz5_0
    try clear hcz5_1
    try clear hcz5_2
    try clear hcz5_3
    try clear hcz5_4
    try clear hcz5_5
    try clear hcz5_6
    try clear hcz5_7
    try clear hcz5_8
    try clear hcz6_0
    try clear hcz6_1
    try clear hcz6_2
    try clear hcz6_3
    try clear hcz6_4
    try clear hcz6_5
    try clear hcz6_6
    try clear hcz6_7
    try clear hcz6_8
    try clear hfz5_0
    try clear hfz5_1
    try clear hfz5_2
    try clear hfz5_3
    try clear hfz5_4
    try clear hfz5_5
    try clear hfz5_6
    try clear hfz5_7
    try clear hfz5_8
    try clear hfz6_0
    try clear hfz6_1
    try clear hfz6_2
    try clear hfz6_3
    try clear hfz6_4
    try clear hfz6_5
    try clear hfz6_6
    try clear hfz6_7
    try clear hfz6_8
    try clear p2
    obtain ⟨kq, x12_2, rfl, HA, HJ2, BK144, HB⟩ := hcut
    cases kq with
    | zero => exact absurd HA.out (by simp [trefoillaw32_small.j1])
    | succ kj2 =>
     have H := HA.out
     clear HA
     simp only [trefoillaw32_small.j1] at H
     by_cases c7 : x12_2 = true
     ·subst c7
      have H1 : (if 0 ≤ x3_1 then (if x3_1 < (l0_6.length : Int) then (if (((rd_T32 l0_6 x3_1).f0).length : Int) > 60 then (some false) else (if (((rd_T32 l0_6 x3_1).f1).length : Int) > 60 then (some false) else (if (((rd_T32 l0_6 x3_1).f2).length : Int) > 60 then (some false) else (trefoillaw32_small.l0 kj2 (wrap64 (x3_1 + 1)) a0_0 a0_1 a0_2 a0_3 a0_4 a0_5 l0_6 a0_7 a0_8)))) else (none)) else (none)) = some r := by rw [if_pos rfl] at H; exact H
      clear H
      have H := H1
      clear H1
      by_cases c8 : 0 ≤ x3_1
      ·rw [if_pos c8] at H
       have c8b0 : decide (0 ≤ x3_1) = true := decide_eq_true c8
       clear c8
       by_cases c9 : x3_1 < (l0_6.length : Int)
       ·rw [if_pos c9] at H
        have c9b0 : decide (x3_1 < (l0_6.length : Int)) = true := decide_eq_true c9
        clear c9
        by_cases c10 : (((rd_T32 l0_6 x3_1).f0).length : Int) > 60
        ·rw [if_pos c10] at H
         have c10b0 : decide (60 < (((rd_T32 l0_6 x3_1).f0).length : Int)) = true := decide_eq_true c10
         have c10b1 : decide (60 < ((rd_T32 l0_6 x3_1).f0).length) = true := decide_eq_true (by omega)
         clear c10
         obtain rfl := Option.some.inj H
         obtain ⟨hcz11_0, hcz11_1, hcz11_2, hcz11_3, hcz11_4, hcz11_5, hcz11_6, hcz11_7, hcz11_8, hfz11_0, hfz11_1, hfz11_2, hfz11_3, hfz11_4, hfz11_5, hfz11_6, hfz11_7, hfz11_8⟩ := cells_9 BK144.out
         have p145 : 0 ≤ (x3_1 : Int) := of_decide_eq_true (by first | (with_reducible assumption) | assumption)
         have q145 : x3_1 < (l0_6.length : Int) := of_decide_eq_true (by first | (with_reducible assumption) | assumption)
         obtain ⟨ad145, A145_0, c145_0, A145_1, c145_1, A145_2, c145_2, e145, hx145_0, hx145_1, hx145_2, hl145_0, hi145_0, hl145_1, hi145_1, hl145_2, hi145_2⟩ := at_T32 HR0_6.out x3_1 p145 q145
         cases e145
         replace hx145_0 := (HB.out.cell (World.block_lt_of_cell? w _ hx145_0)).trans hx145_0
         replace hx145_1 := (HB.out.cell (World.block_lt_of_cell? w _ hx145_1)).trans hx145_1
         replace hx145_2 := (HB.out.cell (World.block_lt_of_cell? w _ hx145_2)).trans hx145_2
         have HR145_0 := Aside0.mk hi145_0
         have HC145_0 := Aside0.mk hl145_0
         clear hi145_0 hl145_0
         have HR145_1 := Aside0.mk hi145_1
         have HC145_1 := Aside0.mk hl145_1
         clear hi145_1 hl145_1
         have HR145_2 := Aside0.mk hi145_2
         have HC145_2 := Aside0.mk hl145_2
         clear hi145_2 hl145_2
         replace p145 := eq_true p145
         replace q145 := eq_true q145
         go_wp2
         go_ret
         exact ⟨by first | rfl | (simp [errW_none, errW_some] <;> rfl) | (simp [*, errW_none, errW_some] <;> rfl), by repeat (first | (with_reducible first | exact HB.out | apply below_alloc | apply pw_below_drewN | apply below_drew1 | refine below_set ?_ GE144.out) | exact HB.out)⟩
        ·rw [if_neg c10] at H
         have c10b0 : decide (60 < (((rd_T32 l0_6 x3_1).f0).length : Int)) = false := decide_eq_false c10
         have c10b1 : decide (60 < ((rd_T32 l0_6 x3_1).f0).length) = false := decide_eq_false (by omega)
         clear c10
         by_cases c12 : (((rd_T32 l0_6 x3_1).f1).length : Int) > 60
         ·rw [if_pos c12] at H
          have c12b0 : decide (60 < (((rd_T32 l0_6 x3_1).f1).length : Int)) = true := decide_eq_true c12
          have c12b1 : decide (60 < ((rd_T32 l0_6 x3_1).f1).length) = true := decide_eq_true (by omega)
          clear c12
          obtain rfl := Option.some.inj H
          obtain ⟨hcz13_0, hcz13_1, hcz13_2, hcz13_3, hcz13_4, hcz13_5, hcz13_6, hcz13_7, hcz13_8, hfz13_0, hfz13_1, hfz13_2, hfz13_3, hfz13_4, hfz13_5, hfz13_6, hfz13_7, hfz13_8⟩ := cells_9 BK144.out
          have p145 : 0 ≤ (x3_1 : Int) := of_decide_eq_true (by first | (with_reducible assumption) | assumption)
          have q145 : x3_1 < (l0_6.length : Int) := of_decide_eq_true (by first | (with_reducible assumption) | assumption)
          obtain ⟨ad145, A145_0, c145_0, A145_1, c145_1, A145_2, c145_2, e145, hx145_0, hx145_1, hx145_2, hl145_0, hi145_0, hl145_1, hi145_1, hl145_2, hi145_2⟩ := at_T32 HR0_6.out x3_1 p145 q145
          cases e145
          replace hx145_0 := (HB.out.cell (World.block_lt_of_cell? w _ hx145_0)).trans hx145_0
          replace hx145_1 := (HB.out.cell (World.block_lt_of_cell? w _ hx145_1)).trans hx145_1
          replace hx145_2 := (HB.out.cell (World.block_lt_of_cell? w _ hx145_2)).trans hx145_2
          have HR145_0 := Aside0.mk hi145_0
          have HC145_0 := Aside0.mk hl145_0
          clear hi145_0 hl145_0
          have HR145_1 := Aside0.mk hi145_1
          have HC145_1 := Aside0.mk hl145_1
          clear hi145_1 hl145_1
          have HR145_2 := Aside0.mk hi145_2
          have HC145_2 := Aside0.mk hl145_2
          clear hi145_2 hl145_2
          replace p145 := eq_true p145
          replace q145 := eq_true q145
          have p146 : 0 ≤ (x3_1 : Int) := of_decide_eq_true (by first | (with_reducible assumption) | assumption)
          have q146 : x3_1 < (l0_6.length : Int) := of_decide_eq_true (by first | (with_reducible assumption) | assumption)
          obtain ⟨ad146, A146_0, c146_0, A146_1, c146_1, A146_2, c146_2, e146, hx146_0, hx146_1, hx146_2, hl146_0, hi146_0, hl146_1, hi146_1, hl146_2, hi146_2⟩ := at_T32 HR0_6.out x3_1 p146 q146
          obtain rfl : ad145 = ad146 := (by injection e146)
          replace hx146_0 := (HB.out.cell (World.block_lt_of_cell? w _ hx146_0)).trans hx146_0
          replace hx146_1 := (HB.out.cell (World.block_lt_of_cell? w _ hx146_1)).trans hx146_1
          replace hx146_2 := (HB.out.cell (World.block_lt_of_cell? w _ hx146_2)).trans hx146_2
          have HR146_0 := Aside0.mk hi146_0
          have HC146_0 := Aside0.mk hl146_0
          clear hi146_0 hl146_0
          have HR146_1 := Aside0.mk hi146_1
          have HC146_1 := Aside0.mk hl146_1
          clear hi146_1 hl146_1
          have HR146_2 := Aside0.mk hi146_2
          have HC146_2 := Aside0.mk hl146_2
          clear hi146_2 hl146_2
          replace p146 := eq_true p146
          replace q146 := eq_true q146
          have ea_ := Option.some.inj (hx145_0.symm.trans hx146_0)
          injection ea_ with ea_ en_ ec_
          subst ea_
          subst ec_
          clear en_
          have ea_ := Option.some.inj (hx145_1.symm.trans hx146_1)
          injection ea_ with ea_ en_ ec_
          subst ea_
          subst ec_
          clear en_
          have ea_ := Option.some.inj (hx145_2.symm.trans hx146_2)
          injection ea_ with ea_ en_ ec_
          subst ea_
          subst ec_
          clear en_
          go_wp2
          go_ret
          exact ⟨by first | rfl | (simp [errW_none, errW_some] <;> rfl) | (simp [*, errW_none, errW_some] <;> rfl), by repeat (first | (with_reducible first | exact HB.out | apply below_alloc | apply pw_below_drewN | apply below_drew1 | refine below_set ?_ GE144.out) | exact HB.out)⟩
         ·rw [if_neg c12] at H
          have c12b0 : decide (60 < (((rd_T32 l0_6 x3_1).f1).length : Int)) = false := decide_eq_false c12
          have c12b1 : decide (60 < ((rd_T32 l0_6 x3_1).f1).length) = false := decide_eq_false (by omega)
          clear c12
          by_cases c14 : (((rd_T32 l0_6 x3_1).f2).length : Int) > 60
          ·rw [if_pos c14] at H
           have c14b0 : decide (60 < (((rd_T32 l0_6 x3_1).f2).length : Int)) = true := decide_eq_true c14
           have c14b1 : decide (60 < ((rd_T32 l0_6 x3_1).f2).length) = true := decide_eq_true (by omega)
           clear c14
           obtain rfl := Option.some.inj H
           obtain ⟨hcz15_0, hcz15_1, hcz15_2, hcz15_3, hcz15_4, hcz15_5, hcz15_6, hcz15_7, hcz15_8, hfz15_0, hfz15_1, hfz15_2, hfz15_3, hfz15_4, hfz15_5, hfz15_6, hfz15_7, hfz15_8⟩ := cells_9 BK144.out
           have p145 : 0 ≤ (x3_1 : Int) := of_decide_eq_true (by first | (with_reducible assumption) | assumption)
           have q145 : x3_1 < (l0_6.length : Int) := of_decide_eq_true (by first | (with_reducible assumption) | assumption)
           obtain ⟨ad145, A145_0, c145_0, A145_1, c145_1, A145_2, c145_2, e145, hx145_0, hx145_1, hx145_2, hl145_0, hi145_0, hl145_1, hi145_1, hl145_2, hi145_2⟩ := at_T32 HR0_6.out x3_1 p145 q145
           cases e145
           replace hx145_0 := (HB.out.cell (World.block_lt_of_cell? w _ hx145_0)).trans hx145_0
           replace hx145_1 := (HB.out.cell (World.block_lt_of_cell? w _ hx145_1)).trans hx145_1
           replace hx145_2 := (HB.out.cell (World.block_lt_of_cell? w _ hx145_2)).trans hx145_2
           have HR145_0 := Aside0.mk hi145_0
           have HC145_0 := Aside0.mk hl145_0
           clear hi145_0 hl145_0
           have HR145_1 := Aside0.mk hi145_1
           have HC145_1 := Aside0.mk hl145_1
           clear hi145_1 hl145_1
           have HR145_2 := Aside0.mk hi145_2
           have HC145_2 := Aside0.mk hl145_2
           clear hi145_2 hl145_2
           replace p145 := eq_true p145
           replace q145 := eq_true q145
           have p146 : 0 ≤ (x3_1 : Int) := of_decide_eq_true (by first | (with_reducible assumption) | assumption)
           have q146 : x3_1 < (l0_6.length : Int) := of_decide_eq_true (by first | (with_reducible assumption) | assumption)
           obtain ⟨ad146, A146_0, c146_0, A146_1, c146_1, A146_2, c146_2, e146, hx146_0, hx146_1, hx146_2, hl146_0, hi146_0, hl146_1, hi146_1, hl146_2, hi146_2⟩ := at_T32 HR0_6.out x3_1 p146 q146
           obtain rfl : ad145 = ad146 := (by injection e146)
           replace hx146_0 := (HB.out.cell (World.block_lt_of_cell? w _ hx146_0)).trans hx146_0
           replace hx146_1 := (HB.out.cell (World.block_lt_of_cell? w _ hx146_1)).trans hx146_1
           replace hx146_2 := (HB.out.cell (World.block_lt_of_cell? w _ hx146_2)).trans hx146_2
           have HR146_0 := Aside0.mk hi146_0
           have HC146_0 := Aside0.mk hl146_0
           clear hi146_0 hl146_0
           have HR146_1 := Aside0.mk hi146_1
           have HC146_1 := Aside0.mk hl146_1
           clear hi146_1 hl146_1
           have HR146_2 := Aside0.mk hi146_2
           have HC146_2 := Aside0.mk hl146_2
           clear hi146_2 hl146_2
           replace p146 := eq_true p146
           replace q146 := eq_true q146
           have ea_ := Option.some.inj (hx145_0.symm.trans hx146_0)
           injection ea_ with ea_ en_ ec_
           subst ea_
           subst ec_
           clear en_
           have ea_ := Option.some.inj (hx145_1.symm.trans hx146_1)
           injection ea_ with ea_ en_ ec_
           subst ea_
           subst ec_
           clear en_
           have ea_ := Option.some.inj (hx145_2.symm.trans hx146_2)
           injection ea_ with ea_ en_ ec_
           subst ea_
           subst ec_
           clear en_
           have p147 : 0 ≤ (x3_1 : Int) := of_decide_eq_true (by first | (with_reducible assumption) | assumption)
           have q147 : x3_1 < (l0_6.length : Int) := of_decide_eq_true (by first | (with_reducible assumption) | assumption)
           obtain ⟨ad147, A147_0, c147_0, A147_1, c147_1, A147_2, c147_2, e147, hx147_0, hx147_1, hx147_2, hl147_0, hi147_0, hl147_1, hi147_1, hl147_2, hi147_2⟩ := at_T32 HR0_6.out x3_1 p147 q147
           obtain rfl : ad145 = ad147 := (by injection e147)
           replace hx147_0 := (HB.out.cell (World.block_lt_of_cell? w _ hx147_0)).trans hx147_0
           replace hx147_1 := (HB.out.cell (World.block_lt_of_cell? w _ hx147_1)).trans hx147_1
           replace hx147_2 := (HB.out.cell (World.block_lt_of_cell? w _ hx147_2)).trans hx147_2
           have HR147_0 := Aside0.mk hi147_0
           have HC147_0 := Aside0.mk hl147_0
           clear hi147_0 hl147_0
           have HR147_1 := Aside0.mk hi147_1
           have HC147_1 := Aside0.mk hl147_1
           clear hi147_1 hl147_1
           have HR147_2 := Aside0.mk hi147_2
           have HC147_2 := Aside0.mk hl147_2
           clear hi147_2 hl147_2
           replace p147 := eq_true p147
           replace q147 := eq_true q147
           have ea_ := Option.some.inj (hx145_0.symm.trans hx147_0)
           injection ea_ with ea_ en_ ec_
           subst ea_
           subst ec_
           clear en_
           have ea_ := Option.some.inj (hx145_1.symm.trans hx147_1)
           injection ea_ with ea_ en_ ec_
           subst ea_
           subst ec_
           clear en_
           have ea_ := Option.some.inj (hx145_2.symm.trans hx147_2)
           injection ea_ with ea_ en_ ec_
           subst ea_
           subst ec_
           clear en_
           go_wp2
           go_ret
           exact ⟨by first | rfl | (simp [errW_none, errW_some] <;> rfl) | (simp [*, errW_none, errW_some] <;> rfl), by repeat (first | (with_reducible first | exact HB.out | apply below_alloc | apply pw_below_drewN | apply below_drew1 | refine below_set ?_ GE144.out) | exact HB.out)⟩
          ·rw [if_neg c14] at H
           have c14b0 : decide (60 < (((rd_T32 l0_6 x3_1).f2).length : Int)) = false := decide_eq_false c14
           have c14b1 : decide (60 < ((rd_T32 l0_6 x3_1).f2).length) = false := decide_eq_false (by omega)
           clear c14
           have H' := Aside0.mk H
           clear H
           obtain ⟨hcz16_0, hcz16_1, hcz16_2, hcz16_3, hcz16_4, hcz16_5, hcz16_6, hcz16_7, hcz16_8, hfz16_0, hfz16_1, hfz16_2, hfz16_3, hfz16_4, hfz16_5, hfz16_6, hfz16_7, hfz16_8⟩ := cells_9 BK144.out
           have p145 : 0 ≤ (x3_1 : Int) := of_decide_eq_true (by first | (with_reducible assumption) | assumption)
           have q145 : x3_1 < (l0_6.length : Int) := of_decide_eq_true (by first | (with_reducible assumption) | assumption)
           obtain ⟨ad145, A145_0, c145_0, A145_1, c145_1, A145_2, c145_2, e145, hx145_0, hx145_1, hx145_2, hl145_0, hi145_0, hl145_1, hi145_1, hl145_2, hi145_2⟩ := at_T32 HR0_6.out x3_1 p145 q145
           cases e145
           replace hx145_0 := (HB.out.cell (World.block_lt_of_cell? w _ hx145_0)).trans hx145_0
           replace hx145_1 := (HB.out.cell (World.block_lt_of_cell? w _ hx145_1)).trans hx145_1
           replace hx145_2 := (HB.out.cell (World.block_lt_of_cell? w _ hx145_2)).trans hx145_2
           have HR145_0 := Aside0.mk hi145_0
           have HC145_0 := Aside0.mk hl145_0
           clear hi145_0 hl145_0
           have HR145_1 := Aside0.mk hi145_1
           have HC145_1 := Aside0.mk hl145_1
           clear hi145_1 hl145_1
           have HR145_2 := Aside0.mk hi145_2
           have HC145_2 := Aside0.mk hl145_2
           clear hi145_2 hl145_2
           replace p145 := eq_true p145
           replace q145 := eq_true q145
           have p146 : 0 ≤ (x3_1 : Int) := of_decide_eq_true (by first | (with_reducible assumption) | assumption)
           have q146 : x3_1 < (l0_6.length : Int) := of_decide_eq_true (by first | (with_reducible assumption) | assumption)
           obtain ⟨ad146, A146_0, c146_0, A146_1, c146_1, A146_2, c146_2, e146, hx146_0, hx146_1, hx146_2, hl146_0, hi146_0, hl146_1, hi146_1, hl146_2, hi146_2⟩ := at_T32 HR0_6.out x3_1 p146 q146
           obtain rfl : ad145 = ad146 := (by injection e146)
           replace hx146_0 := (HB.out.cell (World.block_lt_of_cell? w _ hx146_0)).trans hx146_0
           replace hx146_1 := (HB.out.cell (World.block_lt_of_cell? w _ hx146_1)).trans hx146_1
           replace hx146_2 := (HB.out.cell (World.block_lt_of_cell? w _ hx146_2)).trans hx146_2
           have HR146_0 := Aside0.mk hi146_0
           have HC146_0 := Aside0.mk hl146_0
           clear hi146_0 hl146_0
           have HR146_1 := Aside0.mk hi146_1
           have HC146_1 := Aside0.mk hl146_1
           clear hi146_1 hl146_1
           have HR146_2 := Aside0.mk hi146_2
           have HC146_2 := Aside0.mk hl146_2
           clear hi146_2 hl146_2
           replace p146 := eq_true p146
           replace q146 := eq_true q146
           have ea_ := Option.some.inj (hx145_0.symm.trans hx146_0)
           injection ea_ with ea_ en_ ec_
           subst ea_
           subst ec_
           clear en_
           have ea_ := Option.some.inj (hx145_1.symm.trans hx146_1)
           injection ea_ with ea_ en_ ec_
           subst ea_
           subst ec_
           clear en_
           have ea_ := Option.some.inj (hx145_2.symm.trans hx146_2)
           injection ea_ with ea_ en_ ec_
           subst ea_
           subst ec_
           clear en_
           have p147 : 0 ≤ (x3_1 : Int) := of_decide_eq_true (by first | (with_reducible assumption) | assumption)
           have q147 : x3_1 < (l0_6.length : Int) := of_decide_eq_true (by first | (with_reducible assumption) | assumption)
           obtain ⟨ad147, A147_0, c147_0, A147_1, c147_1, A147_2, c147_2, e147, hx147_0, hx147_1, hx147_2, hl147_0, hi147_0, hl147_1, hi147_1, hl147_2, hi147_2⟩ := at_T32 HR0_6.out x3_1 p147 q147
           obtain rfl : ad145 = ad147 := (by injection e147)
           replace hx147_0 := (HB.out.cell (World.block_lt_of_cell? w _ hx147_0)).trans hx147_0
           replace hx147_1 := (HB.out.cell (World.block_lt_of_cell? w _ hx147_1)).trans hx147_1
           replace hx147_2 := (HB.out.cell (World.block_lt_of_cell? w _ hx147_2)).trans hx147_2
           have HR147_0 := Aside0.mk hi147_0
           have HC147_0 := Aside0.mk hl147_0
           clear hi147_0 hl147_0
           have HR147_1 := Aside0.mk hi147_1
           have HC147_1 := Aside0.mk hl147_1
           clear hi147_1 hl147_1
           have HR147_2 := Aside0.mk hi147_2
           have HC147_2 := Aside0.mk hl147_2
           clear hi147_2 hl147_2
           replace p147 := eq_true p147
           replace q147 := eq_true q147
           have ea_ := Option.some.inj (hx145_0.symm.trans hx147_0)
           injection ea_ with ea_ en_ ec_
           subst ea_
           subst ec_
           clear en_
           have ea_ := Option.some.inj (hx145_1.symm.trans hx147_1)
           injection ea_ with ea_ en_ ec_
           subst ea_
           subst ec_
           clear en_
           have ea_ := Option.some.inj (hx145_2.symm.trans hx147_2)
           injection ea_ with ea_ en_ ec_
           subst ea_
           subst ec_
           clear en_
           go_wp2
           go_roundg kj2
           case measure => have := HK1.out; have := HJ2.out; omega
           case rel => exact ⟨(wrap64 (x3_1 + 1)), (by first | rfl | (simp; done) | (simp [*]; done)), H', ⟨by have := HK1.out; have := HJ2.out; omega⟩, ⟨by (with_reducible repeat (first | refine blk_drewN ?_ _ | refine blk_drew ?_ | refine blk_alloc ?_ _)); exact BK144.out⟩, ⟨by repeat (first | (with_reducible first | exact HB.out | apply below_alloc | apply pw_below_drewN | apply below_drew1 | refine below_set ?_ GE144.out) | exact HB.out)⟩⟩
       ·rw [if_neg c9] at H
        exact absurd H (by simp)
      ·rw [if_neg c8] at H
       exact absurd H (by simp)
     ·replace c7 := Bool.eq_false_iff.mpr c7
      subst c7
      have H1 : (some (decide ((l0_6.length : Int) ≤ 70))) = some r := by rw [if_neg (show ¬ (false = true) by decide)] at H; exact H
      clear H
      have H := H1
      clear H1
      obtain rfl := Option.some.inj H
      obtain ⟨hcz17_0, hcz17_1, hcz17_2, hcz17_3, hcz17_4, hcz17_5, hcz17_6, hcz17_7, hcz17_8, hfz17_0, hfz17_1, hfz17_2, hfz17_3, hfz17_4, hfz17_5, hfz17_6, hfz17_7, hfz17_8⟩ := cells_9 BK144.out
      go_wp2
      go_ret
      exact ⟨by first | rfl | (simp [errW_none, errW_some] <;> rfl) | (simp [*, errW_none, errW_some] <;> rfl), by repeat (first | (with_reducible first | exact HB.out | apply below_alloc | apply pw_below_drewN | apply below_drew1 | refine below_set ?_ GE144.out) | exact HB.out)⟩
end Go.Proofs.Ytieaealkdjnolaa.P
