/- Functions of the program as plain Lean functions, and proofs that the machine's calls do what these do: written by a program of this workplace (wip/tools/pp.py). -/
import Derived.ChangeAlike
import Derived.Deep.RegionWith
import Derived.IntWalk
import Derived.Lib.Hide
import Derived.RegionTactic
import Derived.Test.YtcmaidpoolcelaaMfPx0
import Derived.WalkSpells
import Derived.Test.YtcmaidpoolcelaaMfK0
import Derived.Test.YtcmaidpoolcelaaMfK1
import Derived.Test.YtcmaidpoolcelaaMfK2
import Derived.Test.YtcmaidpoolcelaaMfSh
namespace Go.Proofs.Ytcmaidpoolcelaa.P
open Go.RowKit Go.Proofs.YtcmaidpoolcelaaW.PrintWords Go.Proofs.YtcmaidpoolcelaaW.PrintLast Go.Proofs.YtcmaidpoolcelaaW.PrintMore
attribute [local go_sem] max2_int min2_int max_two min_two max_three min_three max_four min_four   -- for this text's walks alone
set_option linter.unusedVariables false
set_option linter.unusedSimpArgs false

/-! ### trefoilref22_Sides: function 48 -/
def trefoilref22_Sides.f (a0_0 : Int) (a0_1 : Int) (a0_2 : Int) (a0_3 : Int) (a0_4 : Int) : Option (Int × Int × Int) := if a0_0 = 2 then (some (a0_2, a0_3, a0_4)) else (some (1, 1, 1))
set_option maxHeartbeats 8000000 in
set_option maxRecDepth 100000 in
theorem trefoilref22_Sides.calls (a0_0 : Int) (a0_1 : Int) (a0_2 : Int) (a0_3 : Int) (a0_4 : Int) (r1 : Int) (r2 : Int) (r3 : Int) (w : World) (h : trefoilref22_Sides.f a0_0 a0_1 a0_2 a0_3 a0_4 = some (r1, r2, r3)) :
  Calls Try.prog 48 #[.agg #[.int .i64 a0_0, .int .i64 a0_1, .int .i64 a0_2, .int .i64 a0_3, .int .i64 a0_4]] w fun e w' => e = .returned (.tuple #[.int .i64 r1, .int .i64 r2, .int .i64 r3]) ∧ Below w.heap.size w w' := by
 have hu23 := Try.underlying23
 have HB := Aside0.mk (Below.refl w.heap.size w)
 have H : (if a0_0 = 2 then (some (a0_2, a0_3, a0_4)) else (some (1, 1, 1))) = some (r1, r2, r3) := h
 clear h
 by_cases c2 : a0_0 = 2
 ·rw [if_pos c2] at H
  have c2b0 : (a0_0 == 2) = true := beq_iff_eq.mpr c2
  have c2b1 : (a0_0 != 2) = false := bne_eq_false_iff_eq.mpr c2
  clear c2
  simp only [Option.some.injEq, Prod.mk.injEq] at H
  obtain ⟨rfl, rfl, rfl⟩ := H
  go_enter Try.func48, Try.ntmps48
  go_wp2_with (first | ((with_reducible refine gate_dst (N := 1) rfl ?_); refine box_event ?hg (N := 1) ?hd (cs := #[.int .i64 a0_0, .int .i64 a0_1, .int .i64 a0_2, .int .i64 a0_3, .int .i64 a0_4]) (t := 23) ?hr ?_; (case hd => rfl); (case hg => rfl); (case hr => first | (go_simp; done) | (go_simp; rfl)); intro gb257 hg w3 hbox hb; have n0_ := Aside0.mk (below_step HB.bl hb); have n1_ := Aside0.mk (hbox); have n2_ := Aside0.mk ((zq46 : w.heap.size ≤ gb257)); have n3_ := Aside0.mk ((zq46 : w.heap.size ≤ gb257)); clear HB; have HB := n0_; have BK257 := n1_; have GW257 := n2_; have GE257 := n3_; clear n0_ n1_ n2_ n3_; clear hb hbox hg; obtain ⟨hcz4_0, hcz4_1, hcz4_2, hcz4_3, hcz4_4, hfz4_0, hfz4_1, hfz4_2, hfz4_3, hfz4_4⟩ := cells_5 BK257.out))
  repeat (go_quiet (first | ((with_reducible refine gate_dst (N := 1) rfl ?_); refine box_event ?hg (N := 1) ?hd (cs := #[.int .i64 a0_0, .int .i64 a0_1, .int .i64 a0_2, .int .i64 a0_3, .int .i64 a0_4]) (t := 23) ?hr ?_; (case hd => rfl); (case hg => rfl); (case hr => first | (go_simp; done) | (go_simp; rfl)); intro gb257 hg w3 hbox hb; have n0_ := Aside0.mk (below_step HB.bl hb); have n1_ := Aside0.mk (hbox); have n2_ := Aside0.mk ((zq46 : w.heap.size ≤ gb257)); have n3_ := Aside0.mk ((zq46 : w.heap.size ≤ gb257)); clear HB; have HB := n0_; have BK257 := n1_; have GW257 := n2_; have GE257 := n3_; clear n0_ n1_ n2_ n3_; clear hb hbox hg; obtain ⟨hcz4_0, hcz4_1, hcz4_2, hcz4_3, hcz4_4, hfz4_0, hfz4_1, hfz4_2, hfz4_3, hfz4_4⟩ := cells_5 BK257.out)); try go_wp2_with (first | ((with_reducible refine gate_dst (N := 1) rfl ?_); refine box_event ?hg (N := 1) ?hd (cs := #[.int .i64 a0_0, .int .i64 a0_1, .int .i64 a0_2, .int .i64 a0_3, .int .i64 a0_4]) (t := 23) ?hr ?_; (case hd => rfl); (case hg => rfl); (case hr => first | (go_simp; done) | (go_simp; rfl)); intro gb257 hg w3 hbox hb; have n0_ := Aside0.mk (below_step HB.bl hb); have n1_ := Aside0.mk (hbox); have n2_ := Aside0.mk ((zq46 : w.heap.size ≤ gb257)); have n3_ := Aside0.mk ((zq46 : w.heap.size ≤ gb257)); clear HB; have HB := n0_; have BK257 := n1_; have GW257 := n2_; have GE257 := n3_; clear n0_ n1_ n2_ n3_; clear hb hbox hg; obtain ⟨hcz4_0, hcz4_1, hcz4_2, hcz4_3, hcz4_4, hfz4_0, hfz4_1, hfz4_2, hfz4_3, hfz4_4⟩ := cells_5 BK257.out)))
  go_ret3
  exact ⟨zq37, by repeat (first | (with_reducible first | exact HB.out | apply below_alloc | apply pw_below_drewN | apply below_drew1 | refine below_set ?_ GE257.out) | exact HB.out)⟩
 ·rw [if_neg c2] at H
  have c2b0 : (a0_0 == 2) = false := beq_eq_false_iff_ne.mpr c2
  have c2b1 : (a0_0 != 2) = true := bne_iff_ne.mpr c2
  simp only [Option.some.injEq, Prod.mk.injEq] at H
  obtain ⟨rfl, rfl, rfl⟩ := H
  go_enter Try.func48, Try.ntmps48
  go_wp2_with (first | ((with_reducible refine gate_dst (N := 1) rfl ?_); refine box_event ?hg (N := 1) ?hd (cs := #[.int .i64 a0_0, .int .i64 a0_1, .int .i64 a0_2, .int .i64 a0_3, .int .i64 a0_4]) (t := 23) ?hr ?_; (case hd => rfl); (case hg => rfl); (case hr => first | (go_simp; done) | (go_simp; rfl)); intro gb257 hg w5 hbox hb; have n0_ := Aside0.mk (below_step HB.bl hb); have n1_ := Aside0.mk (hbox); have n2_ := Aside0.mk ((zq46 : w.heap.size ≤ gb257)); have n3_ := Aside0.mk ((zq46 : w.heap.size ≤ gb257)); clear HB; have HB := n0_; have BK257 := n1_; have GW257 := n2_; have GE257 := n3_; clear n0_ n1_ n2_ n3_; clear hb hbox hg; obtain ⟨hcz6_0, hcz6_1, hcz6_2, hcz6_3, hcz6_4, hfz6_0, hfz6_1, hfz6_2, hfz6_3, hfz6_4⟩ := cells_5 BK257.out))
  repeat (go_quiet (first | ((with_reducible refine gate_dst (N := 1) rfl ?_); refine box_event ?hg (N := 1) ?hd (cs := #[.int .i64 a0_0, .int .i64 a0_1, .int .i64 a0_2, .int .i64 a0_3, .int .i64 a0_4]) (t := 23) ?hr ?_; (case hd => rfl); (case hg => rfl); (case hr => first | (go_simp; done) | (go_simp; rfl)); intro gb257 hg w5 hbox hb; have n0_ := Aside0.mk (below_step HB.bl hb); have n1_ := Aside0.mk (hbox); have n2_ := Aside0.mk ((zq46 : w.heap.size ≤ gb257)); have n3_ := Aside0.mk ((zq46 : w.heap.size ≤ gb257)); clear HB; have HB := n0_; have BK257 := n1_; have GW257 := n2_; have GE257 := n3_; clear n0_ n1_ n2_ n3_; clear hb hbox hg; obtain ⟨hcz6_0, hcz6_1, hcz6_2, hcz6_3, hcz6_4, hfz6_0, hfz6_1, hfz6_2, hfz6_3, hfz6_4⟩ := cells_5 BK257.out)); try go_wp2_with (first | ((with_reducible refine gate_dst (N := 1) rfl ?_); refine box_event ?hg (N := 1) ?hd (cs := #[.int .i64 a0_0, .int .i64 a0_1, .int .i64 a0_2, .int .i64 a0_3, .int .i64 a0_4]) (t := 23) ?hr ?_; (case hd => rfl); (case hg => rfl); (case hr => first | (go_simp; done) | (go_simp; rfl)); intro gb257 hg w5 hbox hb; have n0_ := Aside0.mk (below_step HB.bl hb); have n1_ := Aside0.mk (hbox); have n2_ := Aside0.mk ((zq46 : w.heap.size ≤ gb257)); have n3_ := Aside0.mk ((zq46 : w.heap.size ≤ gb257)); clear HB; have HB := n0_; have BK257 := n1_; have GW257 := n2_; have GE257 := n3_; clear n0_ n1_ n2_ n3_; clear hb hbox hg; obtain ⟨hcz6_0, hcz6_1, hcz6_2, hcz6_3, hcz6_4, hfz6_0, hfz6_1, hfz6_2, hfz6_3, hfz6_4⟩ := cells_5 BK257.out)))
  go_ret3
  exact ⟨zq37, by repeat (first | (with_reducible first | exact HB.out | apply below_alloc | apply pw_below_drewN | apply below_drew1 | refine below_set ?_ GE257.out) | exact HB.out)⟩

/-! ### trefoilref03_Good: function 91 -/
def trefoilref03_Good.f (a0 : Int) : Option (Bool) := if a0 ≥ 1 then (some (decide (a0 ≤ 64))) else (some false)
set_option maxHeartbeats 8000000 in
set_option maxRecDepth 100000 in
theorem trefoilref03_Good.calls (a0 : Int) (r : Bool) (w : World) (h : trefoilref03_Good.f a0 = some r) :
  Calls Try.prog 91 #[.int .i64 a0] w fun e w' => e = .returned (.bool r) ∧ Drawn0 w w' := by
 have H : (if a0 ≥ 1 then (some (decide (a0 ≤ 64))) else (some false)) = some r := h
 clear h
 by_cases c2 : a0 ≥ 1
 ·rw [if_pos c2] at H
  have c2b0 : decide (1 ≤ a0) = true := decide_eq_true c2
  clear c2
  obtain rfl := Option.some.inj H
  go_enter Try.func91, Try.ntmps91
  go_wp2
  go_ret
  exact ⟨zq40, zq38⟩
 ·rw [if_neg c2] at H
  have c2b0 : decide (1 ≤ a0) = false := decide_eq_false c2
  clear c2
  obtain rfl := Option.some.inj H
  go_enter Try.func91, Try.ntmps91
  go_wp2
  go_ret
  exact ⟨zq40, zq38⟩

/-! ### trefoilref03_Sized: function 92 -/
def trefoilref03_Sized.f (a0 : Int) (a1 : Int) : Option (Bool) := if a0 ≥ 1 then (if a0 ≤ 6 then (if a1 ≥ 1 then (some (decide (a1 ≤ 6))) else (some false)) else (some false)) else (some false)
set_option maxHeartbeats 8000000 in
set_option maxRecDepth 100000 in
theorem trefoilref03_Sized.calls (a0 : Int) (a1 : Int) (r : Bool) (w : World) (h : trefoilref03_Sized.f a0 a1 = some r) :
  Calls Try.prog 92 #[.int .i64 a0, .int .i64 a1] w fun e w' => e = .returned (.bool r) ∧ Drawn0 w w' := by
 have H : (if a0 ≥ 1 then (if a0 ≤ 6 then (if a1 ≥ 1 then (some (decide (a1 ≤ 6))) else (some false)) else (some false)) else (some false)) = some r := h
 clear h
 by_cases c3 : a0 ≥ 1
 ·rw [if_pos c3] at H
  have c3b0 : decide (1 ≤ a0) = true := decide_eq_true c3
  clear c3
  by_cases c4 : a0 ≤ 6
  ·rw [if_pos c4] at H
   have c4b0 : decide (a0 ≤ 6) = true := decide_eq_true c4
   clear c4
   by_cases c5 : a1 ≥ 1
   ·rw [if_pos c5] at H
    have c5b0 : decide (1 ≤ a1) = true := decide_eq_true c5
    clear c5
    obtain rfl := Option.some.inj H
    go_enter Try.func92, Try.ntmps92
    go_wp2
    go_ret
    exact ⟨zq40, zq38⟩
   ·rw [if_neg c5] at H
    have c5b0 : decide (1 ≤ a1) = false := decide_eq_false c5
    clear c5
    obtain rfl := Option.some.inj H
    go_enter Try.func92, Try.ntmps92
    go_wp2
    go_ret
    exact ⟨zq40, zq38⟩
  ·rw [if_neg c4] at H
   have c4b0 : decide (a0 ≤ 6) = false := decide_eq_false c4
   clear c4
   obtain rfl := Option.some.inj H
   go_enter Try.func92, Try.ntmps92
   go_wp2
   go_ret
   exact ⟨zq40, zq38⟩
 ·rw [if_neg c3] at H
  have c3b0 : decide (1 ≤ a0) = false := decide_eq_false c3
  clear c3
  obtain rfl := Option.some.inj H
  go_enter Try.func92, Try.ntmps92
  go_wp2
  go_ret
  exact ⟨zq40, zq38⟩

/-! ### trefoilref03_Mul: function 74 -/
mutual
def trefoilref03_Mul.l0 : Nat → Int → Int → Int → Int → Int → Option (Int)
 | 0, _, _, _, _, _ => none
 | k + 1, x0, x1, x2, x7, x8 => if x8 < 64 then (trefoilref03_Mul.j1 k x0 x1 x2 x7 x8 (decide (x8 < x0))) else (trefoilref03_Mul.j1 k x0 x1 x2 x7 x8 false)
def trefoilref03_Mul.j1 : Nat → Int → Int → Int → Int → Int → Bool → Option (Int)
 | 0, _, _, _, _, _, _ => none
 | k + 1, x0, x1, x2, x7, x8, x15 => if x15 = true then (if 0 ≤ (IntKind.u64.wrap (x8)) then (if (Int.tmod (shr .u64 x2 (IntKind.u64.wrap (x8))) 2) = 1 then ((trefoilref03_Add.f k x0 x7 x1).bind fun t258 => ((trefoilref03_Add.f k 64 x1 x1).bind fun t259 => (trefoilref03_Mul.l0 k x0 t259 x2 t258 (wrap64 (x8 + 1))))) else ((trefoilref03_Add.f k 64 x1 x1).bind fun t260 => (trefoilref03_Mul.l0 k x0 t260 x2 x7 (wrap64 (x8 + 1))))) else (none)) else (some x7)
end
def trefoilref03_Mul.f (k : Nat) (a0 : Int) (a1 : Int) (a2 : Int) : Option (Int) := trefoilref03_Mul.l0 k a0 a1 a2 0 0
set_option maxHeartbeats 8000000 in
set_option maxRecDepth 100000 in
theorem trefoilref03_Mul.calls (k : Nat) (a0 : Int) (a1 : Int) (a2 : Int) (r : Int) (w : World) (h : trefoilref03_Mul.f k a0 a1 a2 = some r) :
  Calls Try.prog 74 #[.int .i64 a0, .int .u64 a1, .int .u64 a2] w fun e w' => e = .returned (.int .u64 r) ∧ Drawn0 w w' := by
 have H : (trefoilref03_Mul.l0 k a0 a1 a2 0 0) = some r := h
 clear h
 have H' := Aside0.mk H
 clear H
 go_enter Try.func74, Try.ntmps74
 go_wp2
 go_loopg [1, 7, 8] k (fun kq v1 v7 v8 w' => ∃ (x1_1 : Int) (x7_1 : Int) (x8_1 : Int), v1 = .int .u64 x1_1 ∧ v7 = .int .u64 x7_1 ∧ v8 = .int .i64 x8_1 ∧ Aside0 (trefoilref03_Mul.l0 kq a0 x1_1 a2 x7_1 x8_1 = some r) ∧ Aside0 (kq ≤ k) ∧ Drawn0 w w')
 case atStart => exact ⟨(a1), (0), (0), (zq40), (zq40), (zq40), H', ⟨Nat.le_refl _⟩, zq38⟩
 case round =>
  clear H'
  try clear p2
  obtain ⟨x1_1, x7_1, x8_1, rfl, rfl, rfl, HA, HK1, ⟨m1, rfl⟩⟩ := hrel
  cases gk with
  | zero => exact absurd HA.out (by simp [trefoilref03_Mul.l0])
  | succ k1 =>
   have H := HA.out
   clear HA
   simp only [trefoilref03_Mul.l0] at H
   have HC4 := Aside0.mk H
   clear H
   go_upto_region 3 with (fail)
   go_cut [15] (fun v15 wc => ∃ (kq : Nat) (x15_3 : Bool), v15 = .bool x15_3 ∧ Aside0 (trefoilref03_Mul.j1 kq a0 x1_1 a2 x7_1 x8_1 x15_3 = some r) ∧ Aside0 (kq ≤ k1) ∧ Drawn0 w wc)
   case first =>
    have H := HC4.out
    clear HC4
    by_cases c5 : x8_1 < 64
    ·rw [if_pos c5] at H
     have c5b0 : decide (x8_1 < 64) = true := decide_eq_true c5
     clear c5
     (first | rw [c5b0] | (simp only [i64_w, i32_w]; rw [c5b0]) | skip)
     have H' := Aside0.mk H
     clear H
     go_wp2
     go_meet
     case rel => exact ⟨_, (decide (x8_1 < a0)), (zq40), H', ⟨by have := HK1.out; first | omega | exact Nat.le_refl _⟩, zq38⟩
    ·rw [if_neg c5] at H
     have c5b0 : decide (x8_1 < 64) = false := decide_eq_false c5
     clear c5
     (first | rw [c5b0] | (simp only [i64_w, i32_w]; rw [c5b0]) | skip)
     have H' := Aside0.mk H
     clear H
     go_wp2
     go_meet
     case rel => exact ⟨_, (false), (zq40), H', ⟨by have := HK1.out; first | omega | exact Nat.le_refl _⟩, zq38⟩
   case rest =>
    clear HC4
    try clear p2
    try clear c5
    try clear c5b0
    try clear p2
    obtain ⟨kq, x15_3, rfl, HA, HJ3, ⟨mc3, rfl⟩⟩ := hcut
    cases kq with
    | zero => exact absurd HA.out (by simp [trefoilref03_Mul.j1])
    | succ kj3 =>
     have H := HA.out
     clear HA
     simp only [trefoilref03_Mul.j1] at H
     by_cases c6 : x15_3 = true
     ·subst c6
      have H1 : (if 0 ≤ (IntKind.u64.wrap (x8_1)) then (if (Int.tmod (shr .u64 a2 (IntKind.u64.wrap (x8_1))) 2) = 1 then ((trefoilref03_Add.f kj3 a0 x7_1 x1_1).bind fun t258 => ((trefoilref03_Add.f kj3 64 x1_1 x1_1).bind fun t259 => (trefoilref03_Mul.l0 kj3 a0 t259 a2 t258 (wrap64 (x8_1 + 1))))) else ((trefoilref03_Add.f kj3 64 x1_1 x1_1).bind fun t260 => (trefoilref03_Mul.l0 kj3 a0 t260 a2 x7_1 (wrap64 (x8_1 + 1))))) else (none)) = some r := by rw [if_pos rfl] at H; exact H
      clear H
      have H := H1
      clear H1
      obtain ⟨ji7, hji7⟩ : ∃ j_ : Int, (IntKind.u64.wrap (x8_1)) = j_ := ⟨_, rfl⟩
      replace H : (if 0 ≤ (ji7) then (if (Int.tmod (shr .u64 a2 (ji7)) 2) = 1 then ((trefoilref03_Add.f kj3 a0 x7_1 x1_1).bind fun t258 => ((trefoilref03_Add.f kj3 64 x1_1 x1_1).bind fun t259 => (trefoilref03_Mul.l0 kj3 a0 t259 a2 t258 (wrap64 (x8_1 + 1))))) else ((trefoilref03_Add.f kj3 64 x1_1 x1_1).bind fun t260 => (trefoilref03_Mul.l0 kj3 a0 t260 a2 x7_1 (wrap64 (x8_1 + 1))))) else (none)) = some r := by first | (rw [hji7] at H; exact H) | (simp only [hji7] at H ⊢; exact H)
      by_cases c8 : 0 ≤ (ji7)
      ·rw [if_pos c8] at H
       have c8b0 := eq_true c8
       have c8b1 : decide (0 ≤ (ji7)) = true := decide_eq_true c8
       clear c8
       obtain ⟨ji9, hji9⟩ : ∃ j_ : Int, (shr .u64 a2 (ji7)) = j_ := ⟨_, rfl⟩
       replace H : (if (Int.tmod (ji9) 2) = 1 then ((trefoilref03_Add.f kj3 a0 x7_1 x1_1).bind fun t258 => ((trefoilref03_Add.f kj3 64 x1_1 x1_1).bind fun t259 => (trefoilref03_Mul.l0 kj3 a0 t259 a2 t258 (wrap64 (x8_1 + 1))))) else ((trefoilref03_Add.f kj3 64 x1_1 x1_1).bind fun t260 => (trefoilref03_Mul.l0 kj3 a0 t260 a2 x7_1 (wrap64 (x8_1 + 1))))) = some r := by first | (rw [hji9] at H; exact H) | (simp only [hji9] at H ⊢; exact H)
       have hji9_ : (a2 / 2 ^ min (ji7).toNat 64) = ji9 := hji9
       have hji9z : (ji7) ≤ 64 → (a2 / 2 ^ (ji7).toNat) = ji9 := shr_small hji9
       by_cases c10 : (Int.tmod (ji9) 2) = 1
       ·rw [if_pos c10] at H
        have c10b0 : ((Int.tmod (ji9) 2) == 1) = true := beq_iff_eq.mpr c10
        have c10b1 : ((Int.tmod (ji9) 2) != 1) = false := bne_eq_false_iff_eq.mpr c10
        clear c10
        replace H := Option.bind_eq_some_iff.mp H
        obtain ⟨t258, A110, H⟩ := H
        replace H : ((trefoilref03_Add.f kj3 64 x1_1 x1_1).bind fun t259 => (trefoilref03_Mul.l0 kj3 a0 t259 a2 t258 (wrap64 (x8_1 + 1)))) = some r := H
        have A11 := Aside0.mk A110
        clear A110
        replace H := Option.bind_eq_some_iff.mp H
        obtain ⟨t259, A120, H⟩ := H
        replace H : (trefoilref03_Mul.l0 kj3 a0 t259 a2 t258 (wrap64 (x8_1 + 1))) = some r := H
        have A12 := Aside0.mk A120
        clear A120
        have H' := Aside0.mk H
        clear H
        go_wp2_with (first | ((with_reducible refine gate_callee (f := 29) rfl ?_); refine goesL_ (some 27) rfl rfl Try.func29 (zq47) rfl #[.int .i64 a0, .int .u64 x7_1, .int .u64 x1_1] rfl (zq28) ?_; (with_reducible refine (trefoilref03_Add.calls kj3 a0 x7_1 x1_1 t258 _ A11.out).mono ?_); rintro e w' ⟨rfl, ⟨nd, rfl⟩⟩; refine ⟨_, rfl, ?_⟩) | ((with_reducible refine gate_callee (f := 29) rfl ?_); refine goesL_ (some 30) rfl rfl Try.func29 (zq47) rfl #[.int .i64 64, .int .u64 x1_1, .int .u64 x1_1] rfl (zq28) ?_; (with_reducible refine (trefoilref03_Add.calls kj3 64 x1_1 x1_1 t259 _ A12.out).mono ?_); rintro e w' ⟨rfl, ⟨nd, rfl⟩⟩; refine ⟨_, rfl, ?_⟩))
        go_roundg kj3
        case measure => have := HK1.out; have := HJ3.out; omega
        case rel => exact ⟨(t259), (t258), (wrap64 (x8_1 + 1)), (zq40), (zq40), (zq40), H', ⟨by have := HK1.out; have := HJ3.out; omega⟩, zq38⟩
       ·rw [if_neg c10] at H
        have c10b0 : ((Int.tmod (ji9) 2) == 1) = false := beq_eq_false_iff_ne.mpr c10
        have c10b1 : ((Int.tmod (ji9) 2) != 1) = true := bne_iff_ne.mpr c10
        replace H := Option.bind_eq_some_iff.mp H
        obtain ⟨t260, A130, H⟩ := H
        replace H : (trefoilref03_Mul.l0 kj3 a0 t260 a2 x7_1 (wrap64 (x8_1 + 1))) = some r := H
        have A13 := Aside0.mk A130
        clear A130
        have H' := Aside0.mk H
        clear H
        go_wp2_with (first | ((with_reducible refine gate_callee (f := 29) rfl ?_); refine goesL_ (some 30) rfl rfl Try.func29 (zq47) rfl #[.int .i64 64, .int .u64 x1_1, .int .u64 x1_1] rfl (zq28) ?_; (with_reducible refine (trefoilref03_Add.calls kj3 64 x1_1 x1_1 t260 _ A13.out).mono ?_); rintro e w' ⟨rfl, ⟨nd, rfl⟩⟩; refine ⟨_, rfl, ?_⟩))
        go_roundg kj3
        case measure => have := HK1.out; have := HJ3.out; omega
        case rel => exact ⟨(t260), (x7_1), (wrap64 (x8_1 + 1)), (zq40), (zq40), (zq40), H', ⟨by have := HK1.out; have := HJ3.out; omega⟩, zq38⟩
      ·rw [if_neg c8] at H
       exact absurd H (by simp)
     ·replace c6 := Bool.eq_false_iff.mpr c6
      subst c6
      have H1 : (some x7_1) = some r := by rw [if_neg (show ¬ (false = true) by decide)] at H; exact H
      clear H
      have H := H1
      clear H1
      obtain rfl := Option.some.inj H
      go_wp2
      go_ret
      exact ⟨zq40, zq38⟩

/-! ### trefoilref22_Sum: function 57 -/
def trefoilref22_Sum.l0 : Nat → Int → List Int → List Int → List Int → Int → Option (List Int)
 | 0, _, _, _, _, _ => none
 | k + 1, x0, x1, x2, x7, x8 => if x8 < (x1.length : Int) then (if x8 < (x2.length : Int) then (if 0 ≤ x8 then ((trefoilref03_Add.f k x0 (rd x1 x8) (rd x2 x8)).bind fun t280 => (if x7.length < 17592186044416 then (trefoilref22_Sum.l0 k x0 x1 x2 (x7 ++ [t280]) (wrap64 (x8 + 1))) else (none))) else (none)) else (some x7)) else (some x7)
def trefoilref22_Sum.f (k : Nat) (a0 : Int) (l1 : List Int) (l2 : List Int) : Option (List Int) := trefoilref22_Sum.l0 k a0 l1 l2 ([] : List Int) 0
def trefoilref22_Sum.T5 : Bool × List (List Nat × List Nat) := (true, [([], []), ([], []), ([], []), ([], []), ([2, 3], [2, 3]), ([4], [4]), ([], []), ([], []), ([6, 7], [6, 7]), ([8], [8]), ([1, 5, 9], [1, 5, 9]), ([10], [10]), ([0, 11, 10], [0, 11]), ([12, 12, 0, 1, 2, 3, 4, 5, 6, 7, 8, 9, 10, 11, 12], [0, 12])])
def trefoilref22_Sum.B5 : List Nat := [0, 0, 0, 0, 12, 28, 0, 0, 192, 448, 1022, 2046, 4095, 8191]
theorem trefoilref22_Sum.tab5 : rtab .any (opsOf Try.f57 5) = trefoilref22_Sum.T5 := by kernel_rfl
theorem trefoilref22_Sum.bits5 : waitsOk trefoilref22_Sum.T5.2 trefoilref22_Sum.B5 = true := by kernel_rfl
set_option maxHeartbeats 8000000 in
set_option maxRecDepth 100000 in
theorem trefoilref22_Sum.calls (k : Nat) (a0 : Int) (A1 : Option Addr) (c1 : Nat) (l1 : List Int) (A2 : Option Addr) (c2 : Nat) (l2 : List Int) (r : List Int) (w : World) (hr1 : Kd.C (Kd.int .u64) w A1 l1.length l1) (hc1 : l1.length ≤ c1) (hr2 : Kd.C (Kd.int .u64) w A2 l2.length l2) (hc2 : l2.length ≤ c2) (h : trefoilref22_Sum.f k a0 l1 l2 = some r) :
  Calls Try.prog 57 #[.int .i64 a0, .slice A1 l1.length c1, .slice A2 l2.length c2] w fun e w' => ∃ v0_ : Value, e = .returned (v0_) ∧ Kd.R (Kd.int .u64) 35 w' w.heap.size (fun _ => True) v0_ r ∧ Below w.heap.size w w' := by
 have HR1 := Aside0.mk hr1
 have HC1 := Aside0.mk hc1
 clear hr1 hc1
 have HR2 := Aside0.mk hr2
 have HC2 := Aside0.mk hc2
 clear hr2 hc2
 have HB := Aside0.mk (Below.refl w.heap.size w)
 have H : (trefoilref22_Sum.l0 k a0 l1 l2 ([] : List Int) 0) = some r := h
 clear h
 have H' := Aside0.mk H
 clear H
 go_enter Try.func57, Try.ntmps57
 go_wp2
 go_loopg [7, 8] k (fun kq v7 v8 w' => ∃ (x7_1 : List Int) (x8_1 : Int), v8 = .int .i64 x8_1 ∧ Aside0 (trefoilref22_Sum.l0 kq a0 l1 l2 x7_1 x8_1 = some r) ∧ Aside0 (kq ≤ k) ∧ Aside0 (Kd.R (Kd.int .u64) 35 w' w.heap.size (fun _ => True) v7 x7_1) ∧ Aside0 (Below w.heap.size w w'))
 case atStart => exact ⟨(([] : List Int)), (0), (zq40), H', ⟨Nat.le_refl _⟩, ⟨zq26⟩, ⟨HB.bl⟩⟩
 case round =>
  clear H'
  try clear c1
  try clear c2
  try clear p2
  obtain ⟨x7_1, x8_1, rfl, HA, HK1, HO_7, HB⟩ := hrel
  cases gk with
  | zero => exact absurd HA.out (by simp [trefoilref22_Sum.l0])
  | succ k1 =>
   have H := HA.out
   clear HA
   simp only [trefoilref22_Sum.l0] at H
   by_cases c4 : x8_1 < (l1.length : Int)
   ·rw [if_pos c4] at H
    have c4b0 : decide (x8_1 < (l1.length : Int)) = true := decide_eq_true c4
    clear c4
    by_cases c5 : x8_1 < (l2.length : Int)
    ·rw [if_pos c5] at H
     have c5b0 : decide (x8_1 < (l2.length : Int)) = true := decide_eq_true c5
     clear c5
     by_cases c6 : 0 ≤ x8_1
     ·rw [if_pos c6] at H
      have c6b0 : decide (0 ≤ x8_1) = true := decide_eq_true c6
      clear c6
      replace H := Option.bind_eq_some_iff.mp H
      obtain ⟨t280, A70, H⟩ := H
      replace H : (if x7_1.length < 17592186044416 then (trefoilref22_Sum.l0 k1 a0 l1 l2 (x7_1 ++ [t280]) (wrap64 (x8_1 + 1))) else (none)) = some r := H
      have A7 := Aside0.mk A70
      clear A70
      by_cases c8 : x7_1.length < 17592186044416
      ·rw [if_pos c8] at H
       have LMc8 := Aside0.mk c8
       clear c8
       obtain ⟨y281, hy281⟩ : ∃ y_ : List Int, y_ = (x7_1 ++ [t280]) := ⟨_, rfl⟩
       replace H : (trefoilref22_Sum.l0 k1 a0 l1 l2 y281 (wrap64 (x8_1 + 1))) = some r := by first | (rw [hy281]; with_reducible exact H) | (have H2_ := (Option.bind_some _ _).symm.trans H; rw [hy281]; with_reducible exact H2_) | (have H2_ := (Option.bind_some _ _).symm.trans H; with_reducible exact H2_) | with_reducible exact H | (rw [hy281]; exact H) | exact H
       have Ny281 := Aside0.mk hy281
       clear hy281
       have H' := Aside0.mk H
       clear H
       try go_wp2
       have n0_ := Aside0.mk (Kd.R_drew HO_7.out)
       have n1_ := Aside0.mk (below_drew1 HB.out)
       clear HO_7
       clear HB
       have HO_7 := n0_
       have HB := n1_
       clear n0_ n1_
       have p278 : 0 ≤ (x8_1 : Int) := of_decide_eq_true (zq39)
       have q278 : x8_1 < (l1.length : Int) := of_decide_eq_true (zq39)
       obtain ⟨ad278, e278, hx278_0⟩ := Kd.at_int HR1.out x8_1 p278 q278
       have hw278_0 := hx278_0
       cases e278
       replace hx278_0 := (HB.out.cell (World.block_lt_of_cell? w _ hx278_0)).trans hx278_0
       replace p278 := eq_true p278
       replace q278 := eq_true q278
       have p279 : 0 ≤ (x8_1 : Int) := of_decide_eq_true (zq39)
       have q279 : x8_1 < (l2.length : Int) := of_decide_eq_true (zq39)
       obtain ⟨ad279, e279, hx279_0⟩ := Kd.at_int HR2.out x8_1 p279 q279
       have hw279_0 := hx279_0
       cases e279
       replace hx279_0 := (HB.out.cell (World.block_lt_of_cell? w _ hx279_0)).trans hx279_0
       replace p279 := eq_true p279
       replace q279 := eq_true q279
       refine start_ (n := 14) (S := fun w' => w'.cell? (ad278.add (x8_1).toNat) = some (.int .u64 (rd l1 x8_1)) ∧ w'.cell? (ad279.add (x8_1).toNat) = some (.int .u64 (rd l2 x8_1))) (ds := []) #[false, false, false, false, false, false, false, false, false, false, false, false, false, false] (zq47) rfl rfl ⟨((HB.out.cell (World.block_lt_of_cell? w _ hw278_0)).trans hw278_0), ((HB.out.cell (World.block_lt_of_cell? w _ hw279_0)).trans hw279_0)⟩ (fun hHeld => ?_); refine with_tabW trefoilref22_Sum.tab5 trefoilref22_Sum.bits5 (fun HT_ HW_ => ?_)
       generalize wr.drew = w9 at HO_7 HB hx278_0 hx279_0 hHeld ⊢
       refine pure_ (i := 0) (N := some 21) (v := ?_) (a' := ?_) #[true, false, false, false, false, false, false, false, false, false, false, false, false, false] rfl rfl (any_of HT_.out (zq47)) (fun _ _ _ h => h) (Or.inl ⟨by rfl, ?_⟩) ?_ ?_; rotate_left; exact zs0; rotate_left; exact zs1
       refine pure_ (i := 1) (N := some 22) (v := ?_) (a' := ?_) #[true, true, false, false, false, false, false, false, false, false, false, false, false, false] rfl rfl (any_of HT_.out (zq47)) (fun _ _ _ h => h) (Or.inl ⟨by rfl, ?_⟩) ?_ ?_; rotate_left; exact zs0; rotate_left; exact zs1
       refine pure_ (i := 2) (N := some 23) (v := ?_) (a' := ?_) #[true, true, true, false, false, false, false, false, false, false, false, false, false, false] rfl rfl (any_of HT_.out (zq47)) (fun _ _ _ h => h) (Or.inl ⟨by rfl, ?_⟩) ?_ ?_; rotate_left; exact zs0; rotate_left; exact zs1
       refine pure_ (i := 3) (N := some 24) (v := ?_) (a' := ?_) #[true, true, true, true, false, false, false, false, false, false, false, false, false, false] rfl rfl (any_of HT_.out (zq47)) (fun _ _ _ h => h) (Or.inl ⟨by rfl, ?_⟩) ?_ ?_; rotate_left; exact zs0; rotate_left; exact zs1
       refine pure_ (i := 4) (N := some 25) (v := ?_) (a' := ?_) #[true, true, true, true, true, false, false, false, false, false, false, false, false, false] rfl rfl (any_of HT_.out (zq47)) (fun _ _ _ h => h) (Or.inl ⟨by rfl, ?_⟩) ?_ ?_; rotate_left; exact zs0; rotate_left; exact zs1
       refine pure_ (i := 6) (N := some 27) (v := ?_) (a' := ?_) #[true, true, true, true, true, false, true, false, false, false, false, false, false, false] rfl rfl (any_of HT_.out (zq47)) (fun _ _ _ h => h) (Or.inl ⟨by rfl, ?_⟩) ?_ ?_; rotate_left; exact zs0; rotate_left; exact zs1
       refine pure_ (i := 7) (N := some 28) (v := ?_) (a' := ?_) #[true, true, true, true, true, false, true, true, false, false, false, false, false, false] rfl rfl (any_of HT_.out (zq47)) (fun _ _ _ h => h) (Or.inl ⟨by rfl, ?_⟩) ?_ ?_; rotate_left; exact zs0; rotate_left; exact zs1
       refine pure_ (i := 8) (N := some 29) (v := ?_) (a' := ?_) #[true, true, true, true, true, false, true, true, true, false, false, false, false, false] rfl rfl (any_of HT_.out (zq47)) (fun _ _ _ h => h) (Or.inl ⟨by rfl, ?_⟩) ?_ ?_; rotate_left; exact zs0; rotate_left; exact zs1
       refine take_ (i := 5) (N := some 26) (v := ?_) (a' := ?_) #[true, true, true, true, true, true, true, true, true, false, false, false, false, false] rfl rfl (take_ofW HT_.out HW_.out (zq47)) (fun _ _ _ h => h) (Or.inl ⟨by rfl, ?_⟩) hHeld ?_ ?_
       rotate_left
       ·rintro w' ⟨s0, s1⟩
        go_simp
        with_reducible rfl
       rotate_left
       exact zs1
       refine take_ (i := 9) (N := some 30) (v := ?_) (a' := ?_) #[true, true, true, true, true, true, true, true, true, true, false, false, false, false] rfl rfl (take_ofW HT_.out HW_.out (zq47)) (fun _ _ _ h => h) (Or.inl ⟨by rfl, ?_⟩) hHeld ?_ ?_
       rotate_left
       ·rintro w' ⟨s0, s1⟩
        go_simp
        with_reducible rfl
       rotate_left
       exact zs1
       refine one_ (i := 10) (N := some 31) #[true, true, true, true, true, true, true, true, true, true, true, false, false, false] rfl rfl (one_of HT_.out (zq47)) (by decide) (fun K hK => ?_)
       refine goes_ Try.func29 (zq47) rfl #[.int .i64 a0, .int .u64 (rd l1 x8_1), .int .u64 (rd l2 x8_1)] (by rfl) rfl rfl (zq28) ?_
       with_reducible refine (trefoilref03_Add.calls k1 a0 (rd l1 x8_1) (rd l2 x8_1) t280 _ A7.out).mono ?_
       rintro e w' ⟨rfl, ⟨nd, rfl⟩⟩
       refine ⟨_, rfl, ?_⟩
       refine hK.out _ _ ⟨((HB.out.cell (World.block_lt_of_cell? w _ hw278_0)).trans hw278_0), ((HB.out.cell (World.block_lt_of_cell? w _ hw279_0)).trans hw279_0)⟩ (fun hHeld => ?_)
       clear hK K
       refine norm_ (a' := ?_) ?_ ?_
       rotate_left
       ·show Act.put _ (some 31) _ = _
        simp only [Act.put, List.setIfInBounds_toArray, List.set_cons_zero, List.set_cons_succ, i64_w, i32_w]
        rfl
       refine one_ (i := 11) (N := some 32) #[true, true, true, true, true, true, true, true, true, true, true, true, false, false] rfl rfl (one_of HT_.out (zq47)) (by decide) (fun K hK => ?_)
       refine value_ (w1 := ?_) (v := ?_) (by rfl) rfl ?_ ?_
       rotate_left 2
       ·go_simp
        constructor
        ·rfl
        ·rfl
       refine hK.out _ _ ⟨(World.cell?_alloc_lt _ _ _ (World.block_lt_of_cell? _ _ (((HB.out.cell (World.block_lt_of_cell? w _ hw278_0)).trans hw278_0)))).trans (((HB.out.cell (World.block_lt_of_cell? w _ hw278_0)).trans hw278_0)), (World.cell?_alloc_lt _ _ _ (World.block_lt_of_cell? _ _ (((HB.out.cell (World.block_lt_of_cell? w _ hw279_0)).trans hw279_0)))).trans (((HB.out.cell (World.block_lt_of_cell? w _ hw279_0)).trans hw279_0))⟩ (fun hHeld => ?_)
       clear hK K
       refine norm_ (a' := ?_) ?_ ?_
       rotate_left
       ·show Act.put _ (some 32) _ = _
        simp only [Act.put, List.setIfInBounds_toArray, List.set_cons_zero, List.set_cons_succ, i64_w, i32_w]
        rfl
       refine one_ (i := 12) (N := some 33) #[true, true, true, true, true, true, true, true, true, true, true, true, true, false] rfl rfl (one_of HT_.out (zq47)) (by decide) (fun K hK => ?_)
       refine Kd.R_append_step (Kd.int .u64) (w0 := w) w.heap.size (by rfl) (.tmp 21) (.tmp 32) 24 35 (.int .u64 0) 8 rfl Try.underlying24 info35 rfl (by decide) (by omega) u7 x7_1 t280 [.int .u64 t280] (fun _ => True) (fun _ => False) rfl rfl ?aP (fun _ hk => hk.elim) ?aF ?aO ?aB ?aS ?aL ?_
       (case aP => exact rfl)
       (case aB => exact HB.bl)
       (case aF => exact (fun _ _ => trivial))
       (case aO => exact HO_7.r)
       (case aS => exact (below_size HB.bl))
       (case aL => have := LMc8.out; omega)
       intro v282 w10 ho hb hg hat
       rw [← Ny281.out] at ho
       have n0_ := Aside0.mk (hb)
       have n1_ := Aside0.mk (ho)
       clear HB
       clear HO_7
       have HB := n0_
       have HO283 := n1_
       clear n0_ n1_
       clear ho hb hg hat
       refine hK.out _ _ ⟨((HB.out.cell (World.block_lt_of_cell? w _ hw278_0)).trans hw278_0), ((HB.out.cell (World.block_lt_of_cell? w _ hw279_0)).trans hw279_0)⟩ (fun hHeld => ?_)
       clear hK K
       refine norm_ (a' := ?_) ?_ ?_
       rotate_left
       ·show Act.put _ (some 33) _ = _
        simp only [Act.put, List.setIfInBounds_toArray, List.set_cons_zero, List.set_cons_succ, i64_w, i32_w]
        rfl
       refine pure_ (i := 13) (N := some 7) (v := ?_) (a' := ?_) #[true, true, true, true, true, true, true, true, true, true, true, true, true, true] rfl rfl (any_of HT_.out (zq47)) (fun _ _ _ h => h) (Or.inl ⟨by rfl, ?_⟩) ?_ ?_; rotate_left; exact zs0; rotate_left; exact zs1
       refine done_ (done_of HT_.out (zq47)) ?_
       try go_wp2
       go_roundg k1
       case measure => have := HK1.out; omega
       case rel => exact ⟨(y281), (wrap64 (x8_1 + 1)), (zq40), H', ⟨by have := HK1.out; omega⟩, ⟨HO283.r⟩, ⟨HB.bl⟩⟩
      ·rw [if_neg c8] at H
       exact absurd H (by simp)
     ·rw [if_neg c6] at H
      exact absurd H (by simp)
    ·rw [if_neg c5] at H
     have c5b0 : decide (x8_1 < (l2.length : Int)) = false := decide_eq_false c5
     clear c5
     obtain rfl := Option.some.inj H
     go_wp2
     go_ret
     exact ⟨_, zq37, HO_7.r, HB.bl⟩
   ·rw [if_neg c4] at H
    have c4b0 : decide (x8_1 < (l1.length : Int)) = false := decide_eq_false c4
    clear c4
    obtain rfl := Option.some.inj H
    go_wp2
    go_ret
    exact ⟨_, zq37, HO_7.r, HB.bl⟩

/-! ### trefoilref03_Fit: function 26 -/
def trefoilref03_Fit.l0 : Nat → Int → Int → Int → Int → Option (Int)
 | 0, _, _, _, _ => none
 | k + 1, x0, x1, x5, x6 => if x6 < 64 then (if x6 < x0 then (if 0 ≤ (IntKind.u64.wrap (x6)) then (trefoilref03_Fit.l0 k x0 x1 (Go.bits .or .u64 x5 (Go.bits .and .u64 x1 (shl .u64 1 (IntKind.u64.wrap (x6))))) (wrap64 (x6 + 1))) else (none)) else (some x5)) else (some x5)
def trefoilref03_Fit.f (k : Nat) (a0 : Int) (a1 : Int) : Option (Int) := trefoilref03_Fit.l0 k a0 a1 0 0
set_option maxHeartbeats 8000000 in
set_option maxRecDepth 100000 in
theorem trefoilref03_Fit.calls (k : Nat) (a0 : Int) (a1 : Int) (r : Int) (w : World) (h : trefoilref03_Fit.f k a0 a1 = some r) :
  Calls Try.prog 26 #[.int .i64 a0, .int .u64 a1] w fun e w' => e = .returned (.int .u64 r) ∧ Drawn0 w w' := by
 have H : (trefoilref03_Fit.l0 k a0 a1 0 0) = some r := h
 clear h
 have H' := Aside0.mk H
 clear H
 go_enter Try.func26, Try.ntmps26
 go_wp2
 go_loopg [5, 6] k (fun kq v5 v6 w' => ∃ (x5_1 : Int) (x6_1 : Int), v5 = .int .u64 x5_1 ∧ v6 = .int .i64 x6_1 ∧ Aside0 (trefoilref03_Fit.l0 kq a0 a1 x5_1 x6_1 = some r) ∧ Aside0 (kq ≤ k) ∧ Drawn0 w w')
 case atStart => exact ⟨(0), (0), (zq40), (zq40), H', ⟨Nat.le_refl _⟩, zq38⟩
 case round =>
  clear H'
  try clear c2
  try clear p2
  obtain ⟨x5_1, x6_1, rfl, rfl, HA, HK1, ⟨m1, rfl⟩⟩ := hrel
  cases gk with
  | zero => exact absurd HA.out (by simp [trefoilref03_Fit.l0])
  | succ k1 =>
   have H := HA.out
   clear HA
   simp only [trefoilref03_Fit.l0] at H
   by_cases c3 : x6_1 < 64
   ·rw [if_pos c3] at H
    have c3b0 : decide (x6_1 < 64) = true := decide_eq_true c3
    clear c3
    by_cases c4 : x6_1 < a0
    ·rw [if_pos c4] at H
     have c4b0 : decide (x6_1 < a0) = true := decide_eq_true c4
     clear c4
     obtain ⟨ji5, hji5⟩ : ∃ j_ : Int, (IntKind.u64.wrap (x6_1)) = j_ := ⟨_, rfl⟩
     replace H : (if 0 ≤ (ji5) then (trefoilref03_Fit.l0 k1 a0 a1 (Go.bits .or .u64 x5_1 (Go.bits .and .u64 a1 (shl .u64 1 (ji5)))) (wrap64 (x6_1 + 1))) else (none)) = some r := by first | (rw [hji5] at H; exact H) | (simp only [hji5] at H ⊢; exact H)
     by_cases c6 : 0 ≤ (ji5)
     ·rw [if_pos c6] at H
      have c6b0 := eq_true c6
      have c6b1 : decide (0 ≤ (ji5)) = true := decide_eq_true c6
      clear c6
      obtain ⟨ji7, hji7⟩ : ∃ j_ : Int, (shl .u64 1 (ji5)) = j_ := ⟨_, rfl⟩
      replace H : (trefoilref03_Fit.l0 k1 a0 a1 (Go.bits .or .u64 x5_1 (Go.bits .and .u64 a1 (ji7))) (wrap64 (x6_1 + 1))) = some r := by first | (rw [hji7] at H; exact H) | (simp only [hji7] at H ⊢; exact H)
      have hji7_ : (IntKind.u64.wrap (1 * 2 ^ min (ji5).toNat 64)) = ji7 := hji7
      have hji7z : (ji5) ≤ 64 → (IntKind.u64.wrap (1 * 2 ^ (ji5).toNat)) = ji7 := shl_small hji7
      have hji7u : (IntKind.u64.wrap (2 ^ min (ji5).toNat 64)) = ji7 := by have h_ := hji7_; rw [Int.one_mul] at h_; exact h_
      have hji7v : (ji5) ≤ 64 → (IntKind.u64.wrap (2 ^ (ji5).toNat)) = ji7 := fun hle_ => by have h_ := hji7z hle_; rw [Int.one_mul] at h_; exact h_
      have H' := Aside0.mk H
      clear H
      go_wp2
      go_roundg k1
      case measure => have := HK1.out; omega
      case rel => exact ⟨(Go.bits .or .u64 x5_1 (Go.bits .and .u64 a1 (ji7))), (wrap64 (x6_1 + 1)), (by first | rfl | (simp; done) | (simp only [← hji7] <;> (first | rfl | simp)) | (simp [*]; done)), (zq40), H', ⟨by have := HK1.out; omega⟩, zq38⟩
     ·rw [if_neg c6] at H
      exact absurd H (by simp)
    ·rw [if_neg c4] at H
     have c4b0 : decide (x6_1 < a0) = false := decide_eq_false c4
     clear c4
     obtain rfl := Option.some.inj H
     go_wp2
     go_ret
     exact ⟨zq40, zq38⟩
   ·rw [if_neg c3] at H
    have c3b0 : decide (x6_1 < 64) = false := decide_eq_false c3
    clear c3
    obtain rfl := Option.some.inj H
    go_wp2
    go_ret
    exact ⟨zq40, zq38⟩

/-! ### trefoilref19_Fits: function 58 -/
def trefoilref19_Fits.l0 : Nat → Int → List Int → Int → Option (Bool)
 | 0, _, _, _ => none
 | k + 1, x0, x1, x5 => if x5 < (x1.length : Int) then (if 0 ≤ x5 then ((trefoilref03_Fit.f k x0 (rd x1 x5)).bind fun t285 => (if t285 = (rd x1 x5) then (trefoilref19_Fits.l0 k x0 x1 (wrap64 (x5 + 1))) else (some false))) else (none)) else (some true)
def trefoilref19_Fits.f (k : Nat) (a0 : Int) (l1 : List Int) : Option (Bool) := trefoilref19_Fits.l0 k a0 l1 0
set_option maxHeartbeats 8000000 in
set_option maxRecDepth 100000 in
theorem trefoilref19_Fits.calls (k : Nat) (a0 : Int) (A1 : Option Addr) (c1 : Nat) (l1 : List Int) (r : Bool) (w : World) (hr1 : Kd.C (Kd.int .u64) w A1 l1.length l1) (hc1 : l1.length ≤ c1) (h : trefoilref19_Fits.f k a0 l1 = some r) :
  Calls Try.prog 58 #[.int .i64 a0, .slice A1 l1.length c1] w fun e w' => e = .returned (.bool r) ∧ Drawn0 w w' := by
 have HR1 := Aside0.mk hr1
 have HC1 := Aside0.mk hc1
 clear hr1 hc1
 have H : (trefoilref19_Fits.l0 k a0 l1 0) = some r := h
 clear h
 have H' := Aside0.mk H
 clear H
 go_enter Try.func58, Try.ntmps58
 go_wp2
 repeat (go_quiet (fail); try go_wp2)
 go_loopg [5] k (fun kq v5 w' => ∃ (x5_1 : Int), v5 = .int .i64 x5_1 ∧ Aside0 (trefoilref19_Fits.l0 kq a0 l1 x5_1 = some r) ∧ Aside0 (kq ≤ k) ∧ Drawn0 w w')
 case atStart => exact ⟨(0), (zq40), H', ⟨Nat.le_refl _⟩, zq38⟩
 case round =>
  clear H'
  try clear c1
  try clear p2
  obtain ⟨x5_1, rfl, HA, HK1, ⟨m1, rfl⟩⟩ := hrel
  cases gk with
  | zero => exact absurd HA.out (by simp [trefoilref19_Fits.l0])
  | succ k1 =>
   have H := HA.out
   clear HA
   simp only [trefoilref19_Fits.l0] at H
   by_cases c3 : x5_1 < (l1.length : Int)
   ·rw [if_pos c3] at H
    have c3b0 : decide (x5_1 < (l1.length : Int)) = true := decide_eq_true c3
    clear c3
    by_cases c4 : 0 ≤ x5_1
    ·rw [if_pos c4] at H
     have c4b0 : decide (0 ≤ x5_1) = true := decide_eq_true c4
     clear c4
     replace H := Option.bind_eq_some_iff.mp H
     obtain ⟨t285, A50, H⟩ := H
     replace H : (if t285 = (rd l1 x5_1) then (trefoilref19_Fits.l0 k1 a0 l1 (wrap64 (x5_1 + 1))) else (some false)) = some r := H
     have A5 := Aside0.mk A50
     clear A50
     by_cases c6 : t285 = (rd l1 x5_1)
     ·rw [if_pos c6] at H
      have c6b0 : (t285 == (rd l1 x5_1)) = true := beq_iff_eq.mpr c6
      have c6b1 : (t285 != (rd l1 x5_1)) = false := bne_eq_false_iff_eq.mpr c6
      clear c6
      have H' := Aside0.mk H
      clear H
      have p284 : 0 ≤ (x5_1 : Int) := of_decide_eq_true (zq39)
      have q284 : x5_1 < (l1.length : Int) := of_decide_eq_true (zq39)
      obtain ⟨ad284, e284, hx284_0⟩ := Kd.at_int HR1.out x5_1 p284 q284
      cases e284
      replace p284 := eq_true p284
      replace q284 := eq_true q284
      go_wp2_with (first | (go_at_call 26; (with_reducible refine (trefoilref03_Fit.calls k1 a0 (rd l1 x5_1) t285 _ A5.out).mono ?_); rintro e w' ⟨rfl, ⟨nd, rfl⟩⟩; (try first | exact ⟨rfl, _, World.drewN_drewN _ _ _⟩ | exact ⟨rfl, _, Eq.trans (World.drewN_drewN _ _ _) (congrArg (World.drewN _) (Nat.add_assoc _ _ _))⟩); have p286 : 0 ≤ (x5_1 : Int) := of_decide_eq_true (zq39); have q286 : x5_1 < (l1.length : Int) := of_decide_eq_true (zq39); obtain ⟨ad286, e286, hx286_0⟩ := Kd.at_int HR1.out x5_1 p286 q286; obtain rfl : ad284 = ad286 := (by injection e286); replace p286 := eq_true p286; replace q286 := eq_true q286))
      repeat (go_quiet (first | (go_at_call 26; (with_reducible refine (trefoilref03_Fit.calls k1 a0 (rd l1 x5_1) t285 _ A5.out).mono ?_); rintro e w' ⟨rfl, ⟨nd, rfl⟩⟩; (try first | exact ⟨rfl, _, World.drewN_drewN _ _ _⟩ | exact ⟨rfl, _, Eq.trans (World.drewN_drewN _ _ _) (congrArg (World.drewN _) (Nat.add_assoc _ _ _))⟩); have p286 : 0 ≤ (x5_1 : Int) := of_decide_eq_true (zq39); have q286 : x5_1 < (l1.length : Int) := of_decide_eq_true (zq39); obtain ⟨ad286, e286, hx286_0⟩ := Kd.at_int HR1.out x5_1 p286 q286; obtain rfl : ad284 = ad286 := (by injection e286); replace p286 := eq_true p286; replace q286 := eq_true q286)); try go_wp2_with (first | (go_at_call 26; (with_reducible refine (trefoilref03_Fit.calls k1 a0 (rd l1 x5_1) t285 _ A5.out).mono ?_); rintro e w' ⟨rfl, ⟨nd, rfl⟩⟩; (try first | exact ⟨rfl, _, World.drewN_drewN _ _ _⟩ | exact ⟨rfl, _, Eq.trans (World.drewN_drewN _ _ _) (congrArg (World.drewN _) (Nat.add_assoc _ _ _))⟩); have p286 : 0 ≤ (x5_1 : Int) := of_decide_eq_true (zq39); have q286 : x5_1 < (l1.length : Int) := of_decide_eq_true (zq39); obtain ⟨ad286, e286, hx286_0⟩ := Kd.at_int HR1.out x5_1 p286 q286; obtain rfl : ad284 = ad286 := (by injection e286); replace p286 := eq_true p286; replace q286 := eq_true q286)))
      go_roundg k1
      case measure => have := HK1.out; omega
      case rel => exact ⟨(wrap64 (x5_1 + 1)), (zq40), H', ⟨by have := HK1.out; omega⟩, zq38⟩
     ·rw [if_neg c6] at H
      have c6b0 : (t285 == (rd l1 x5_1)) = false := beq_eq_false_iff_ne.mpr c6
      have c6b1 : (t285 != (rd l1 x5_1)) = true := bne_iff_ne.mpr c6
      obtain rfl := Option.some.inj H
      have p284 : 0 ≤ (x5_1 : Int) := of_decide_eq_true (zq39)
      have q284 : x5_1 < (l1.length : Int) := of_decide_eq_true (zq39)
      obtain ⟨ad284, e284, hx284_0⟩ := Kd.at_int HR1.out x5_1 p284 q284
      cases e284
      replace p284 := eq_true p284
      replace q284 := eq_true q284
      go_wp2_with (first | (go_at_call 26; (with_reducible refine (trefoilref03_Fit.calls k1 a0 (rd l1 x5_1) t285 _ A5.out).mono ?_); rintro e w' ⟨rfl, ⟨nd, rfl⟩⟩; (try first | exact ⟨rfl, _, World.drewN_drewN _ _ _⟩ | exact ⟨rfl, _, Eq.trans (World.drewN_drewN _ _ _) (congrArg (World.drewN _) (Nat.add_assoc _ _ _))⟩); have p286 : 0 ≤ (x5_1 : Int) := of_decide_eq_true (zq39); have q286 : x5_1 < (l1.length : Int) := of_decide_eq_true (zq39); obtain ⟨ad286, e286, hx286_0⟩ := Kd.at_int HR1.out x5_1 p286 q286; obtain rfl : ad284 = ad286 := (by injection e286); replace p286 := eq_true p286; replace q286 := eq_true q286))
      repeat (go_quiet (first | (go_at_call 26; (with_reducible refine (trefoilref03_Fit.calls k1 a0 (rd l1 x5_1) t285 _ A5.out).mono ?_); rintro e w' ⟨rfl, ⟨nd, rfl⟩⟩; (try first | exact ⟨rfl, _, World.drewN_drewN _ _ _⟩ | exact ⟨rfl, _, Eq.trans (World.drewN_drewN _ _ _) (congrArg (World.drewN _) (Nat.add_assoc _ _ _))⟩); have p286 : 0 ≤ (x5_1 : Int) := of_decide_eq_true (zq39); have q286 : x5_1 < (l1.length : Int) := of_decide_eq_true (zq39); obtain ⟨ad286, e286, hx286_0⟩ := Kd.at_int HR1.out x5_1 p286 q286; obtain rfl : ad284 = ad286 := (by injection e286); replace p286 := eq_true p286; replace q286 := eq_true q286)); try go_wp2_with (first | (go_at_call 26; (with_reducible refine (trefoilref03_Fit.calls k1 a0 (rd l1 x5_1) t285 _ A5.out).mono ?_); rintro e w' ⟨rfl, ⟨nd, rfl⟩⟩; (try first | exact ⟨rfl, _, World.drewN_drewN _ _ _⟩ | exact ⟨rfl, _, Eq.trans (World.drewN_drewN _ _ _) (congrArg (World.drewN _) (Nat.add_assoc _ _ _))⟩); have p286 : 0 ≤ (x5_1 : Int) := of_decide_eq_true (zq39); have q286 : x5_1 < (l1.length : Int) := of_decide_eq_true (zq39); obtain ⟨ad286, e286, hx286_0⟩ := Kd.at_int HR1.out x5_1 p286 q286; obtain rfl : ad284 = ad286 := (by injection e286); replace p286 := eq_true p286; replace q286 := eq_true q286)))
      go_ret
      exact ⟨zq40, zq38⟩
    ·rw [if_neg c4] at H
     exact absurd H (by simp)
   ·rw [if_neg c3] at H
    have c3b0 : decide (x5_1 < (l1.length : Int)) = false := decide_eq_false c3
    clear c3
    obtain rfl := Option.some.inj H
    go_wp2
    repeat (go_quiet (fail); try go_wp2)
    go_ret
    exact ⟨zq40, zq38⟩

/-! ### trefoilref22_equal: function 59 -/
def trefoilref22_equal.l0 : Nat → List Int → List Int → Int → Option (Bool)
 | 0, _, _, _ => none
 | k + 1, x0, x1, x5 => if x5 < (x0.length : Int) then (if 0 ≤ x5 then (if x5 < (x1.length : Int) then (if (rd x0 x5) = (rd x1 x5) then (trefoilref22_equal.l0 k x0 x1 (wrap64 (x5 + 1))) else (some false)) else (none)) else (none)) else (some true)
def trefoilref22_equal.f (k : Nat) (l0 : List Int) (l1 : List Int) : Option (Bool) := if (l0.length : Int) = (l1.length : Int) then (trefoilref22_equal.l0 k l0 l1 0) else (some false)
set_option maxHeartbeats 8000000 in
set_option maxRecDepth 100000 in
theorem trefoilref22_equal.calls (k : Nat) (A0 : Option Addr) (c0 : Nat) (l0 : List Int) (A1 : Option Addr) (c1 : Nat) (l1 : List Int) (r : Bool) (w : World) (hr0 : Kd.C (Kd.int .u64) w A0 l0.length l0) (hc0 : l0.length ≤ c0) (hr1 : Kd.C (Kd.int .u64) w A1 l1.length l1) (hc1 : l1.length ≤ c1) (h : trefoilref22_equal.f k l0 l1 = some r) :
  Calls Try.prog 59 #[.slice A0 l0.length c0, .slice A1 l1.length c1] w fun e w' => e = .returned (.bool r) ∧ Drawn0 w w' := by
 have HR0 := Aside0.mk hr0
 have HC0 := Aside0.mk hc0
 clear hr0 hc0
 have HR1 := Aside0.mk hr1
 have HC1 := Aside0.mk hc1
 clear hr1 hc1
 have H : (if (l0.length : Int) = (l1.length : Int) then (trefoilref22_equal.l0 k l0 l1 0) else (some false)) = some r := h
 clear h
 by_cases c3 : (l0.length : Int) = (l1.length : Int)
 ·rw [if_pos c3] at H
  have c3b0 : ((l0.length : Int) == (l1.length : Int)) = true := beq_iff_eq.mpr c3
  have c3b1 : ((l0.length : Int) != (l1.length : Int)) = false := bne_eq_false_iff_eq.mpr c3
  have c3b2 : (l0.length == l1.length) = true := by first | simpa using c3 | (simp at c3 ⊢; omega)
  clear c3
  have H' := Aside0.mk H
  clear H
  go_enter Try.func59, Try.ntmps59
  go_wp2
  repeat (go_quiet (fail); try go_wp2)
  go_loopg [5] k (fun kq v5 w' => ∃ (x5_1 : Int), v5 = .int .i64 x5_1 ∧ Aside0 (trefoilref22_equal.l0 kq l0 l1 x5_1 = some r) ∧ Aside0 (kq ≤ k) ∧ Drawn0 w w')
  case atStart => exact ⟨(0), (zq40), H', ⟨Nat.le_refl _⟩, zq38⟩
  case round =>
   clear H'
   try clear c1
   try clear p2
   try clear c3
   try clear c3b0
   try clear c3b1
   try clear c3b2
   obtain ⟨x5_1, rfl, HA, HK1, ⟨m1, rfl⟩⟩ := hrel
   cases gk with
   | zero => exact absurd HA.out (by simp [trefoilref22_equal.l0])
   | succ k1 =>
    have H := HA.out
    clear HA
    simp only [trefoilref22_equal.l0] at H
    by_cases c4 : x5_1 < (l0.length : Int)
    ·rw [if_pos c4] at H
     have c4b0 : decide (x5_1 < (l0.length : Int)) = true := decide_eq_true c4
     clear c4
     by_cases c5 : 0 ≤ x5_1
     ·rw [if_pos c5] at H
      have c5b0 : decide (0 ≤ x5_1) = true := decide_eq_true c5
      clear c5
      by_cases c6 : x5_1 < (l1.length : Int)
      ·rw [if_pos c6] at H
       have c6b0 : decide (x5_1 < (l1.length : Int)) = true := decide_eq_true c6
       clear c6
       by_cases c7 : (rd l0 x5_1) = (rd l1 x5_1)
       ·rw [if_pos c7] at H
        have c7b0 : ((rd l0 x5_1) == (rd l1 x5_1)) = true := beq_iff_eq.mpr c7
        have c7b1 : ((rd l0 x5_1) != (rd l1 x5_1)) = false := bne_eq_false_iff_eq.mpr c7
        clear c7
        have H' := Aside0.mk H
        clear H
        have p287 : 0 ≤ (x5_1 : Int) := of_decide_eq_true (zq39)
        have q287 : x5_1 < (l0.length : Int) := of_decide_eq_true (zq39)
        obtain ⟨ad287, e287, hx287_0⟩ := Kd.at_int HR0.out x5_1 p287 q287
        cases e287
        replace p287 := eq_true p287
        replace q287 := eq_true q287
        have p288 : 0 ≤ (x5_1 : Int) := of_decide_eq_true (zq39)
        have q288 : x5_1 < (l1.length : Int) := of_decide_eq_true (zq39)
        obtain ⟨ad288, e288, hx288_0⟩ := Kd.at_int HR1.out x5_1 p288 q288
        cases e288
        replace p288 := eq_true p288
        replace q288 := eq_true q288
        go_wp2
        repeat (go_quiet (fail); try go_wp2)
        go_roundg k1
        case measure => have := HK1.out; omega
        case rel => exact ⟨(wrap64 (x5_1 + 1)), (zq40), H', ⟨by have := HK1.out; omega⟩, zq38⟩
       ·rw [if_neg c7] at H
        have c7b0 : ((rd l0 x5_1) == (rd l1 x5_1)) = false := beq_eq_false_iff_ne.mpr c7
        have c7b1 : ((rd l0 x5_1) != (rd l1 x5_1)) = true := bne_iff_ne.mpr c7
        obtain rfl := Option.some.inj H
        have p287 : 0 ≤ (x5_1 : Int) := of_decide_eq_true (zq39)
        have q287 : x5_1 < (l0.length : Int) := of_decide_eq_true (zq39)
        obtain ⟨ad287, e287, hx287_0⟩ := Kd.at_int HR0.out x5_1 p287 q287
        cases e287
        replace p287 := eq_true p287
        replace q287 := eq_true q287
        have p288 : 0 ≤ (x5_1 : Int) := of_decide_eq_true (zq39)
        have q288 : x5_1 < (l1.length : Int) := of_decide_eq_true (zq39)
        obtain ⟨ad288, e288, hx288_0⟩ := Kd.at_int HR1.out x5_1 p288 q288
        cases e288
        replace p288 := eq_true p288
        replace q288 := eq_true q288
        go_wp2
        repeat (go_quiet (fail); try go_wp2)
        go_ret
        exact ⟨zq40, zq38⟩
      ·rw [if_neg c6] at H
       exact absurd H (by simp)
     ·rw [if_neg c5] at H
      exact absurd H (by simp)
    ·rw [if_neg c4] at H
     have c4b0 : decide (x5_1 < (l0.length : Int)) = false := decide_eq_false c4
     clear c4
     obtain rfl := Option.some.inj H
     go_wp2
     repeat (go_quiet (fail); try go_wp2)
     go_ret
     exact ⟨zq40, zq38⟩
 ·rw [if_neg c3] at H
  have c3b0 : ((l0.length : Int) == (l1.length : Int)) = false := beq_eq_false_iff_ne.mpr c3
  have c3b1 : ((l0.length : Int) != (l1.length : Int)) = true := bne_iff_ne.mpr c3
  have c3b2 : (l0.length == l1.length) = false := by first | simpa using c3 | (simp at c3 ⊢; omega)
  obtain rfl := Option.some.inj H
  go_enter Try.func59, Try.ntmps59
  go_wp2
  repeat (go_quiet (fail); try go_wp2)
  go_ret
  exact ⟨zq40, zq38⟩

/-! ### trefoillaw23_small: function 21 -/
mutual
def trefoillaw23_small.l0 : Nat → List (S26) → Int → Option (Bool)
 | 0, _, _ => none
 | k + 1, x0, x3 => if x3 < (x0.length : Int) then (trefoillaw23_small.j1 k x0 x3 (decide (x3 ≤ 30))) else (trefoillaw23_small.j1 k x0 x3 false)
def trefoillaw23_small.j1 : Nat → List (S26) → Int → Bool → Option (Bool)
 | 0, _, _, _ => none
 | k + 1, x0, x3, x11 => if x11 = true then (if 0 ≤ x3 then (if x3 < (x0.length : Int) then (if (((rd_T26 x0 x3).f0).length : Int) > 60 then (some false) else (if (((rd_T26 x0 x3).f1).length : Int) > 60 then (some false) else (if (((rd_T26 x0 x3).f2).length : Int) > 60 then (some false) else (trefoillaw23_small.l0 k x0 (wrap64 (x3 + 1)))))) else (none)) else (none)) else (some (decide ((x0.length : Int) ≤ 30)))
end
def trefoillaw23_small.f (k : Nat) (l0 : List (S26)) : Option (Bool) := trefoillaw23_small.l0 k l0 0
set_option maxHeartbeats 8000000 in
set_option maxRecDepth 100000 in
theorem trefoillaw23_small.calls (k : Nat) (A0 : Option Addr) (c0 : Nat) (l0 : List (S26)) (r : Bool) (w : World) (hr0 : Kd.C k26 w A0 l0.length l0) (hc0 : l0.length ≤ c0) (h : trefoillaw23_small.f k l0 = some r) :
  Calls Try.prog 21 #[.slice A0 l0.length c0] w fun e w' => e = .returned (.bool r) ∧ Drawn0 w w' := by
 have HR0 := Aside0.mk hr0
 have HC0 := Aside0.mk hc0
 clear hr0 hc0
 have H : (trefoillaw23_small.l0 k l0 0) = some r := h
 clear h
 have H' := Aside0.mk H
 clear H
 go_enter Try.func21, Try.ntmps21
 go_wp2
 go_loopg [3] k (fun kq v3 w' => ∃ (x3_1 : Int), v3 = .int .i64 x3_1 ∧ Aside0 (trefoillaw23_small.l0 kq l0 x3_1 = some r) ∧ Aside0 (kq ≤ k) ∧ Drawn0 w w')
 case atStart => exact ⟨(0), (zq40), H', ⟨Nat.le_refl _⟩, zq38⟩
 case round =>
  clear H'
  obtain ⟨x3_1, rfl, HA, HK1, ⟨m1, rfl⟩⟩ := hrel
  cases gk with
  | zero => exact absurd HA.out (by simp [trefoillaw23_small.l0])
  | succ k1 =>
   have H := HA.out
   clear HA
   simp only [trefoillaw23_small.l0] at H
   have HC2 := Aside0.mk H
   clear H
   go_upto_region 2 with (fail)
   go_cut [11] (fun v11 wc => ∃ (kq : Nat) (x11_1 : Bool), v11 = .bool x11_1 ∧ Aside0 (trefoillaw23_small.j1 kq l0 x3_1 x11_1 = some r) ∧ Aside0 (kq ≤ k1) ∧ Drawn0 w wc)
   case first =>
    have H := HC2.out
    clear HC2
    by_cases c3 : x3_1 < (l0.length : Int)
    ·rw [if_pos c3] at H
     have c3b0 : decide (x3_1 < (l0.length : Int)) = true := decide_eq_true c3
     clear c3
     (first | rw [c3b0] | (simp only [i64_w, i32_w]; rw [c3b0]) | skip)
     have H' := Aside0.mk H
     clear H
     go_wp2
     go_meet
     case rel => exact ⟨_, (decide (x3_1 ≤ 30)), (zq40), H', ⟨by have := HK1.out; first | omega | exact Nat.le_refl _⟩, zq38⟩
    ·rw [if_neg c3] at H
     have c3b0 : decide (x3_1 < (l0.length : Int)) = false := decide_eq_false c3
     clear c3
     (first | rw [c3b0] | (simp only [i64_w, i32_w]; rw [c3b0]) | skip)
     have H' := Aside0.mk H
     clear H
     go_wp2
     go_meet
     case rel => exact ⟨_, (false), (zq40), H', ⟨by have := HK1.out; first | omega | exact Nat.le_refl _⟩, zq38⟩
   case rest =>
    clear HC2
    try clear c2
    try clear p2
    try clear c3
    try clear c3b0
    obtain ⟨kq, x11_1, rfl, HA, HJ1, ⟨mc1, rfl⟩⟩ := hcut
    cases kq with
    | zero => exact absurd HA.out (by simp [trefoillaw23_small.j1])
    | succ kj1 =>
     have H := HA.out
     clear HA
     simp only [trefoillaw23_small.j1] at H
     by_cases c4 : x11_1 = true
     ·subst c4
      have H1 : (if 0 ≤ x3_1 then (if x3_1 < (l0.length : Int) then (if (((rd_T26 l0 x3_1).f0).length : Int) > 60 then (some false) else (if (((rd_T26 l0 x3_1).f1).length : Int) > 60 then (some false) else (if (((rd_T26 l0 x3_1).f2).length : Int) > 60 then (some false) else (trefoillaw23_small.l0 kj1 l0 (wrap64 (x3_1 + 1)))))) else (none)) else (none)) = some r := by rw [if_pos rfl] at H; exact H
      clear H
      have H := H1
      clear H1
      by_cases c5 : 0 ≤ x3_1
      ·rw [if_pos c5] at H
       have c5b0 : decide (0 ≤ x3_1) = true := decide_eq_true c5
       clear c5
       by_cases c6 : x3_1 < (l0.length : Int)
       ·rw [if_pos c6] at H
        have c6b0 : decide (x3_1 < (l0.length : Int)) = true := decide_eq_true c6
        clear c6
        by_cases c7 : (((rd_T26 l0 x3_1).f0).length : Int) > 60
        ·rw [if_pos c7] at H
         have c7b0 : decide (60 < (((rd_T26 l0 x3_1).f0).length : Int)) = true := decide_eq_true c7
         have c7b1 : decide (60 < ((rd_T26 l0 x3_1).f0).length) = true := decide_eq_true (by omega)
         clear c7
         obtain rfl := Option.some.inj H
         have p315 : 0 ≤ (x3_1 : Int) := of_decide_eq_true (zq39)
         have q315 : x3_1 < (l0.length : Int) := of_decide_eq_true (zq39)
         obtain ⟨ad315, A315_0, c315_0, A315_1, c315_1, A315_2, c315_2, e315, hx315_0, hx315_1, hx315_2, hl315_0, hi315_0, hl315_1, hi315_1, hl315_2, hi315_2⟩ := at_T26 HR0.out x3_1 p315 q315
         cases e315
         have HR315_0 := Aside0.mk hi315_0
         have HC315_0 := Aside0.mk hl315_0
         clear hi315_0 hl315_0
         have HR315_1 := Aside0.mk hi315_1
         have HC315_1 := Aside0.mk hl315_1
         clear hi315_1 hl315_1
         have HR315_2 := Aside0.mk hi315_2
         have HC315_2 := Aside0.mk hl315_2
         clear hi315_2 hl315_2
         replace p315 := eq_true p315
         replace q315 := eq_true q315
         go_wp2
         go_ret
         exact ⟨zq40, zq38⟩
        ·rw [if_neg c7] at H
         have c7b0 : decide (60 < (((rd_T26 l0 x3_1).f0).length : Int)) = false := decide_eq_false c7
         have c7b1 : decide (60 < ((rd_T26 l0 x3_1).f0).length) = false := decide_eq_false (by omega)
         clear c7
         by_cases c8 : (((rd_T26 l0 x3_1).f1).length : Int) > 60
         ·rw [if_pos c8] at H
          have c8b0 : decide (60 < (((rd_T26 l0 x3_1).f1).length : Int)) = true := decide_eq_true c8
          have c8b1 : decide (60 < ((rd_T26 l0 x3_1).f1).length) = true := decide_eq_true (by omega)
          clear c8
          obtain rfl := Option.some.inj H
          have p315 : 0 ≤ (x3_1 : Int) := of_decide_eq_true (zq39)
          have q315 : x3_1 < (l0.length : Int) := of_decide_eq_true (zq39)
          obtain ⟨ad315, A315_0, c315_0, A315_1, c315_1, A315_2, c315_2, e315, hx315_0, hx315_1, hx315_2, hl315_0, hi315_0, hl315_1, hi315_1, hl315_2, hi315_2⟩ := at_T26 HR0.out x3_1 p315 q315
          cases e315
          have HR315_0 := Aside0.mk hi315_0
          have HC315_0 := Aside0.mk hl315_0
          clear hi315_0 hl315_0
          have HR315_1 := Aside0.mk hi315_1
          have HC315_1 := Aside0.mk hl315_1
          clear hi315_1 hl315_1
          have HR315_2 := Aside0.mk hi315_2
          have HC315_2 := Aside0.mk hl315_2
          clear hi315_2 hl315_2
          replace p315 := eq_true p315
          replace q315 := eq_true q315
          have p316 : 0 ≤ (x3_1 : Int) := of_decide_eq_true (zq39)
          have q316 : x3_1 < (l0.length : Int) := of_decide_eq_true (zq39)
          obtain ⟨ad316, A316_0, c316_0, A316_1, c316_1, A316_2, c316_2, e316, hx316_0, hx316_1, hx316_2, hl316_0, hi316_0, hl316_1, hi316_1, hl316_2, hi316_2⟩ := at_T26 HR0.out x3_1 p316 q316
          obtain rfl : ad315 = ad316 := (by injection e316)
          have HR316_0 := Aside0.mk hi316_0
          have HC316_0 := Aside0.mk hl316_0
          clear hi316_0 hl316_0
          have HR316_1 := Aside0.mk hi316_1
          have HC316_1 := Aside0.mk hl316_1
          clear hi316_1 hl316_1
          have HR316_2 := Aside0.mk hi316_2
          have HC316_2 := Aside0.mk hl316_2
          clear hi316_2 hl316_2
          replace p316 := eq_true p316
          replace q316 := eq_true q316
          have ea_ := Option.some.inj (hx315_0.symm.trans hx316_0)
          injection ea_ with ea_ en_ ec_
          subst ea_
          subst ec_
          clear en_
          have ea_ := Option.some.inj (hx315_1.symm.trans hx316_1)
          injection ea_ with ea_ en_ ec_
          subst ea_
          subst ec_
          clear en_
          have ea_ := Option.some.inj (hx315_2.symm.trans hx316_2)
          injection ea_ with ea_ en_ ec_
          subst ea_
          subst ec_
          clear en_
          go_wp2
          go_ret
          exact ⟨zq40, zq38⟩
         ·rw [if_neg c8] at H
          have c8b0 : decide (60 < (((rd_T26 l0 x3_1).f1).length : Int)) = false := decide_eq_false c8
          have c8b1 : decide (60 < ((rd_T26 l0 x3_1).f1).length) = false := decide_eq_false (by omega)
          clear c8
          by_cases c9 : (((rd_T26 l0 x3_1).f2).length : Int) > 60
          ·rw [if_pos c9] at H
           have c9b0 : decide (60 < (((rd_T26 l0 x3_1).f2).length : Int)) = true := decide_eq_true c9
           have c9b1 : decide (60 < ((rd_T26 l0 x3_1).f2).length) = true := decide_eq_true (by omega)
           clear c9
           obtain rfl := Option.some.inj H
           have p315 : 0 ≤ (x3_1 : Int) := of_decide_eq_true (zq39)
           have q315 : x3_1 < (l0.length : Int) := of_decide_eq_true (zq39)
           obtain ⟨ad315, A315_0, c315_0, A315_1, c315_1, A315_2, c315_2, e315, hx315_0, hx315_1, hx315_2, hl315_0, hi315_0, hl315_1, hi315_1, hl315_2, hi315_2⟩ := at_T26 HR0.out x3_1 p315 q315
           cases e315
           have HR315_0 := Aside0.mk hi315_0
           have HC315_0 := Aside0.mk hl315_0
           clear hi315_0 hl315_0
           have HR315_1 := Aside0.mk hi315_1
           have HC315_1 := Aside0.mk hl315_1
           clear hi315_1 hl315_1
           have HR315_2 := Aside0.mk hi315_2
           have HC315_2 := Aside0.mk hl315_2
           clear hi315_2 hl315_2
           replace p315 := eq_true p315
           replace q315 := eq_true q315
           have p316 : 0 ≤ (x3_1 : Int) := of_decide_eq_true (zq39)
           have q316 : x3_1 < (l0.length : Int) := of_decide_eq_true (zq39)
           obtain ⟨ad316, A316_0, c316_0, A316_1, c316_1, A316_2, c316_2, e316, hx316_0, hx316_1, hx316_2, hl316_0, hi316_0, hl316_1, hi316_1, hl316_2, hi316_2⟩ := at_T26 HR0.out x3_1 p316 q316
           obtain rfl : ad315 = ad316 := (by injection e316)
           have HR316_0 := Aside0.mk hi316_0
           have HC316_0 := Aside0.mk hl316_0
           clear hi316_0 hl316_0
           have HR316_1 := Aside0.mk hi316_1
           have HC316_1 := Aside0.mk hl316_1
           clear hi316_1 hl316_1
           have HR316_2 := Aside0.mk hi316_2
           have HC316_2 := Aside0.mk hl316_2
           clear hi316_2 hl316_2
           replace p316 := eq_true p316
           replace q316 := eq_true q316
           have ea_ := Option.some.inj (hx315_0.symm.trans hx316_0)
           injection ea_ with ea_ en_ ec_
           subst ea_
           subst ec_
           clear en_
           have ea_ := Option.some.inj (hx315_1.symm.trans hx316_1)
           injection ea_ with ea_ en_ ec_
           subst ea_
           subst ec_
           clear en_
           have ea_ := Option.some.inj (hx315_2.symm.trans hx316_2)
           injection ea_ with ea_ en_ ec_
           subst ea_
           subst ec_
           clear en_
           have p317 : 0 ≤ (x3_1 : Int) := of_decide_eq_true (zq39)
           have q317 : x3_1 < (l0.length : Int) := of_decide_eq_true (zq39)
           obtain ⟨ad317, A317_0, c317_0, A317_1, c317_1, A317_2, c317_2, e317, hx317_0, hx317_1, hx317_2, hl317_0, hi317_0, hl317_1, hi317_1, hl317_2, hi317_2⟩ := at_T26 HR0.out x3_1 p317 q317
           obtain rfl : ad315 = ad317 := (by injection e317)
           have HR317_0 := Aside0.mk hi317_0
           have HC317_0 := Aside0.mk hl317_0
           clear hi317_0 hl317_0
           have HR317_1 := Aside0.mk hi317_1
           have HC317_1 := Aside0.mk hl317_1
           clear hi317_1 hl317_1
           have HR317_2 := Aside0.mk hi317_2
           have HC317_2 := Aside0.mk hl317_2
           clear hi317_2 hl317_2
           replace p317 := eq_true p317
           replace q317 := eq_true q317
           have ea_ := Option.some.inj (hx315_0.symm.trans hx317_0)
           injection ea_ with ea_ en_ ec_
           subst ea_
           subst ec_
           clear en_
           have ea_ := Option.some.inj (hx315_1.symm.trans hx317_1)
           injection ea_ with ea_ en_ ec_
           subst ea_
           subst ec_
           clear en_
           have ea_ := Option.some.inj (hx315_2.symm.trans hx317_2)
           injection ea_ with ea_ en_ ec_
           subst ea_
           subst ec_
           clear en_
           go_wp2
           go_ret
           exact ⟨zq40, zq38⟩
          ·rw [if_neg c9] at H
           have c9b0 : decide (60 < (((rd_T26 l0 x3_1).f2).length : Int)) = false := decide_eq_false c9
           have c9b1 : decide (60 < ((rd_T26 l0 x3_1).f2).length) = false := decide_eq_false (by omega)
           clear c9
           have H' := Aside0.mk H
           clear H
           have p315 : 0 ≤ (x3_1 : Int) := of_decide_eq_true (zq39)
           have q315 : x3_1 < (l0.length : Int) := of_decide_eq_true (zq39)
           obtain ⟨ad315, A315_0, c315_0, A315_1, c315_1, A315_2, c315_2, e315, hx315_0, hx315_1, hx315_2, hl315_0, hi315_0, hl315_1, hi315_1, hl315_2, hi315_2⟩ := at_T26 HR0.out x3_1 p315 q315
           cases e315
           have HR315_0 := Aside0.mk hi315_0
           have HC315_0 := Aside0.mk hl315_0
           clear hi315_0 hl315_0
           have HR315_1 := Aside0.mk hi315_1
           have HC315_1 := Aside0.mk hl315_1
           clear hi315_1 hl315_1
           have HR315_2 := Aside0.mk hi315_2
           have HC315_2 := Aside0.mk hl315_2
           clear hi315_2 hl315_2
           replace p315 := eq_true p315
           replace q315 := eq_true q315
           have p316 : 0 ≤ (x3_1 : Int) := of_decide_eq_true (zq39)
           have q316 : x3_1 < (l0.length : Int) := of_decide_eq_true (zq39)
           obtain ⟨ad316, A316_0, c316_0, A316_1, c316_1, A316_2, c316_2, e316, hx316_0, hx316_1, hx316_2, hl316_0, hi316_0, hl316_1, hi316_1, hl316_2, hi316_2⟩ := at_T26 HR0.out x3_1 p316 q316
           obtain rfl : ad315 = ad316 := (by injection e316)
           have HR316_0 := Aside0.mk hi316_0
           have HC316_0 := Aside0.mk hl316_0
           clear hi316_0 hl316_0
           have HR316_1 := Aside0.mk hi316_1
           have HC316_1 := Aside0.mk hl316_1
           clear hi316_1 hl316_1
           have HR316_2 := Aside0.mk hi316_2
           have HC316_2 := Aside0.mk hl316_2
           clear hi316_2 hl316_2
           replace p316 := eq_true p316
           replace q316 := eq_true q316
           have ea_ := Option.some.inj (hx315_0.symm.trans hx316_0)
           injection ea_ with ea_ en_ ec_
           subst ea_
           subst ec_
           clear en_
           have ea_ := Option.some.inj (hx315_1.symm.trans hx316_1)
           injection ea_ with ea_ en_ ec_
           subst ea_
           subst ec_
           clear en_
           have ea_ := Option.some.inj (hx315_2.symm.trans hx316_2)
           injection ea_ with ea_ en_ ec_
           subst ea_
           subst ec_
           clear en_
           have p317 : 0 ≤ (x3_1 : Int) := of_decide_eq_true (zq39)
           have q317 : x3_1 < (l0.length : Int) := of_decide_eq_true (zq39)
           obtain ⟨ad317, A317_0, c317_0, A317_1, c317_1, A317_2, c317_2, e317, hx317_0, hx317_1, hx317_2, hl317_0, hi317_0, hl317_1, hi317_1, hl317_2, hi317_2⟩ := at_T26 HR0.out x3_1 p317 q317
           obtain rfl : ad315 = ad317 := (by injection e317)
           have HR317_0 := Aside0.mk hi317_0
           have HC317_0 := Aside0.mk hl317_0
           clear hi317_0 hl317_0
           have HR317_1 := Aside0.mk hi317_1
           have HC317_1 := Aside0.mk hl317_1
           clear hi317_1 hl317_1
           have HR317_2 := Aside0.mk hi317_2
           have HC317_2 := Aside0.mk hl317_2
           clear hi317_2 hl317_2
           replace p317 := eq_true p317
           replace q317 := eq_true q317
           have ea_ := Option.some.inj (hx315_0.symm.trans hx317_0)
           injection ea_ with ea_ en_ ec_
           subst ea_
           subst ec_
           clear en_
           have ea_ := Option.some.inj (hx315_1.symm.trans hx317_1)
           injection ea_ with ea_ en_ ec_
           subst ea_
           subst ec_
           clear en_
           have ea_ := Option.some.inj (hx315_2.symm.trans hx317_2)
           injection ea_ with ea_ en_ ec_
           subst ea_
           subst ec_
           clear en_
           go_wp2
           go_roundg kj1
           case measure => have := HK1.out; have := HJ1.out; omega
           case rel => exact ⟨(wrap64 (x3_1 + 1)), (zq40), H', ⟨by have := HK1.out; have := HJ1.out; omega⟩, zq38⟩
       ·rw [if_neg c6] at H
        exact absurd H (by simp)
      ·rw [if_neg c5] at H
       exact absurd H (by simp)
     ·replace c4 := Bool.eq_false_iff.mpr c4
      subst c4
      have H1 : (some (decide ((l0.length : Int) ≤ 30))) = some r := by rw [if_neg (show ¬ (false = true) by decide)] at H; exact H
      clear H
      have H := H1
      clear H1
      obtain rfl := Option.some.inj H
      go_wp2
      go_ret
      exact ⟨zq40, zq38⟩

/-! ### ring_AddAll: function 60 -/
set_option maxHeartbeats 400000 in
theorem ring_AddAll_1.calls (x y lw r : Int) (g : Nat) (w : World) (h : w.cell? ⟨g, 0, none⟩ = some (.int .i64 lw)) (hf : ring_Add.f lw x y = some r) :
    Calls Try.prog 95 #[.int .u64 x, .int .u64 y, .pointer (some ⟨g, 0, none⟩)] w fun e w' => e = .returned (.int .u64 r) ∧ Drawn0 w w' := by
  have HF := Lib.hid hf
  clear hf
  go_enter Try.func95, Try.ntmps95
  go_wp2_with (go_at_call 54; refine (ring_Add.calls lw x y r _ HF.out).mono ?_; rintro e w' ⟨rfl, ⟨n', rfl⟩⟩)
  go_ret
  exact ⟨rfl, zq38⟩

/-- pairs, place by place -/
def adds (lw : Int) : List Int → List Int → Option (List Int)
  | x :: xs, y :: ys => (ring_Add.f lw x y).bind fun z => (adds lw xs ys).map (z :: ·)
  | _, _ => some []

theorem ring_Add_some (lw x y : Int) : ∃ r, ring_Add.f lw x y = some r := by
  unfold ring_Add.f ring_mask.f ring_Mask.f
  by_cases h1 : lw < 1
  · rw [if_pos h1]; exact ⟨_, rfl⟩
  · rw [if_neg h1]
    by_cases h2 : lw > 64
    · rw [if_pos h2]; exact ⟨_, rfl⟩
    · rw [if_neg h2]
      have e1 : wrap64 (64 - lw) = 64 - lw := by unfold wrap64; omega
      have e2 : IntKind.u64.wrap (64 - lw) = 64 - lw := IntWalk.u64_in _ ⟨by omega, by omega⟩
      rw [e1, e2, if_pos (by omega)]; exact ⟨_, rfl⟩

def addOf (lw x y : Int) : Int := (ring_Add.f lw x y).getD 0
theorem addOf_eq (lw x y : Int) : ring_Add.f lw x y = some (addOf lw x y) := by
  obtain ⟨r, h⟩ := ring_Add_some lw x y
  rw [addOf, h]; rfl
def addsTo (lw : Int) (a b : List Int) (n k : Nat) : List Int := (List.range n).map fun j => if j < k then addOf lw (rd a j) (rd b j) else 0

theorem addsTo_len (lw : Int) (a b : List Int) (n k : Nat) : (addsTo lw a b n k).length = n := by simp [addsTo]
theorem addsTo_set (lw : Int) (a b : List Int) (n k : Nat) (hk : k < n) : (addsTo lw a b n k).set k (addOf lw (rd a k) (rd b k)) = addsTo lw a b n (k + 1) := by
  apply List.ext_getElem
  · simp [addsTo]
  · intro j h1 h2
    rw [List.getElem_set]
    simp only [addsTo, List.getElem_map, List.getElem_range]
    by_cases e : k = j
    · subst e; rw [if_pos rfl, if_pos (by omega)]
    · rw [if_neg e]
      by_cases e2 : j < k
      · rw [if_pos e2, if_pos (by omega)]
      · rw [if_neg e2, if_neg (by omega)]
set_option maxHeartbeats 400000 in
set_option maxRecDepth 100000 in
theorem pairs_Add.calls (lw : Int) (g : Nat) (A1 : Option Addr) (c1 : Nat) (l1 : List Int) (A2 : Option Addr) (c2 : Nat) (l2 : List Int) (w : World) (h : w.cell? ⟨g, 0, none⟩ = some (.int .i64 lw))
    (hr1 : Kd.C (Kd.int .u64) w A1 l1.length l1) (hr2 : Kd.C (Kd.int .u64) w A2 l2.length l2) (hl : l1.length = l2.length) (hs : l1.length ≤ 35184372088832) :
    Calls Try.prog 94 #[.slice A1 l1.length c1, .slice A2 l2.length c2, .func (.func 95) #[] #[.pointer (some ⟨g, 0, none⟩)]] w fun e w' => ∃ v, e = .returned (.tuple #[v, .int .i64 0]) ∧ Kd.R (Kd.int .u64) 35 w' w.heap.size (fun _ => True) v (addsTo lw l1 l2 l1.length l1.length) ∧ Below w.heap.size w w' := by
  have hm := Kd.C_max hr1
  have HL := Lib.hid hl
  have hne : (l1.length != l2.length) = false := by rw [bne_eq_false_iff_eq]; exact hl
  clear hl
  have h0 : List.replicate (l1.length : Int).toNat 0 = addsTo lw l1 l2 l1.length 0 := by
    simp [addsTo, List.map_const']
  have hmk : (l1.length : Int).toNat * 8 ≤ 281474976710656 := by omega
  go_enter Try.func94, Try.ntmps94
  go_wp2_with (first | ((with_reducible refine gate_dst (N := 17) rfl ?_); refine Kd.R_make (Kd.int .u64) _ 35 rfl (N := 17) rfl 24 _ _ rfl (l1.length : Int) rfl rfl Try.underlying24 (.int .u64 0) 8 info35 rfl (by decide) (by omega) 0 (ok := fun _ => True) (okp := fun _ => True) rfl (fun _ hk => hk) trivial (by omega) hmk (Below.refl _ _) (Nat.le_refl _) ?_; intro v8 w6 ho7 hb hg_ hnew_; clear hg_ hnew_; rw [h0] at ho7; obtain ⟨AA, cc, ev, hcc, _⟩ := Kd.R_reads ho7; rw [addsTo_len] at ev; subst ev; have HO := Aside0.mk ho7; have HB := Aside0.mk hb; clear ho7 hcc hb))
  go_loopw [9, 20] (fun _ i wr => ∃ k : Nat, k ≤ l1.length ∧ i = .int .i64 k ∧ Aside0 (Kd.R (Kd.int .u64) 35 wr w.heap.size (fun _ => True) (.slice AA l1.length cc) (addsTo lw l1 l2 l1.length k)) ∧ Aside0 (Below w.heap.size w wr)) (fun _ i _ => l1.length - (intOf i).toNat)
  case atStart => exact ⟨0, Nat.zero_le _, rfl, HO, HB⟩
  case round =>
    clear HO HB
    obtain ⟨k, hk, rfl, HO, HB⟩ := hrel
    by_cases hlt : k < l1.length
    · have hlt2 : k < l2.length := by have := HL.out; omega
      obtain ⟨ad1, rfl, hcell1⟩ := Kd.at_int hr1 (k : Int) (by omega) (by omega)
      obtain ⟨ad2, rfl, hcell2⟩ := Kd.at_int hr2 (k : Int) (by omega) (by omega)
      rw [Int.toNat_natCast] at hcell1 hcell2
      replace hcell1 := (HB.out.cell (World.block_lt_of_cell? w _ hcell1)).trans hcell1
      replace hcell2 := (HB.out.cell (World.block_lt_of_cell? w _ hcell2)).trans hcell2
      have hg : wr.cell? ⟨g, 0, none⟩ = some (.int .i64 lw) := (HB.out.cell (World.block_lt_of_cell? w _ h)).trans h
      obtain ⟨go, co, eo, gb, gl, cl, hgo⟩ := Kd.R_form HO.out (by rw [addsTo_len]; omega)
      rw [addsTo_len] at eo
      cases eo
      have HP : ∀ n, Kd.R (Kd.int .u64) 35 ((wr.drewN n).setCell ⟨go, k, none⟩ (.int .u64 (addOf lw (rd l1 k) (rd l2 k)))) w.heap.size (fun _ => True) (.slice (some ⟨go, 0, none⟩) l1.length cc) (addsTo lw l1 l2 l1.length (k + 1)) := by
        intro n
        have := (Kd.R_putg (Kd.R_drewN HO.out n) (k : Int) (addOf lw (rd l1 k) (rd l2 k))).1
        rw [Int.toNat_natCast, addsTo_set _ _ _ _ _ hlt] at this
        exact this
      have HP := Lib.hid HP
      obtain ⟨hx, hf⟩ := Kd.R_celln 0 HO.out (k : Int) (by omega) (by omega)
      rw [Int.toNat_natCast] at hx hf
      have HF := Lib.hid (addOf_eq lw (rd l1 k) (rd l2 k))
      have GB := Aside0.mk gb
      clear gb gl hgo cl
      go_wp2_with fail
      go_region_with (go_at_call 95; refine (ring_AddAll_1.calls _ _ lw _ g _ (by first | exact hg | simpa using hg) HF.out).mono ?_; rintro e w' ⟨rfl, ⟨n', rfl⟩⟩)
      all_goals go_wp2
      all_goals go_roundw
      all_goals first
        | (case rel => exact ⟨k + 1, by omega, by go_num, ⟨HP.out _⟩, ⟨below_set (pw_below_drewN HB.out _) GB.out⟩⟩)
        | (case measure => simp [intOf]; omega)
    · have hkl : k = l1.length := by omega
      clear hk
      subst hkl
      go_wp2
      go_ret2
      exact ⟨_, rfl, HO.out, HB.out⟩

set_option maxHeartbeats 400000 in
set_option maxRecDepth 100000 in
theorem pairs_Add_off.calls (g : Nat) (A1 : Option Addr) (c1 n1 : Nat) (A2 : Option Addr) (c2 n2 : Nat) (w : World) (hl : ¬ n1 = n2) :
    Calls Try.prog 94 #[.slice A1 n1 c1, .slice A2 n2 c2, .func (.func 95) #[] #[.pointer (some ⟨g, 0, none⟩)]] w fun e w' => e = .returned (.tuple #[.slice none 0 0, .int .i64 11]) ∧ w = w' := by
  have hne : (n1 != n2) = true := by rw [bne_iff_ne]; exact hl
  have HL := Lib.hid hl
  clear hl
  go_enter Try.func94, Try.ntmps94
  go_wp2
  go_ret2
  exact ⟨rfl, rfl⟩

def ring_AddAll.f (a0 : Int) (l1 l2 : List Int) : Option (List Int × Int) :=
  if (l1.length : Int) = (l2.length : Int) then (if l1.length ≤ 35184372088832 then some (addsTo a0 l1 l2 l1.length l1.length, 0) else none) else some ([], 11)

set_option maxHeartbeats 400000 in
theorem ring_AddAll.calls (a0 : Int) (A1 : Option Addr) (c1 : Nat) (l1 : List Int) (A2 : Option Addr) (c2 : Nat) (l2 : List Int) (r1 : List Int) (r2 : Int) (w : World) (hr1 : Kd.C (Kd.int .u64) w A1 l1.length l1) (hc1 : l1.length ≤ c1) (hr2 : Kd.C (Kd.int .u64) w A2 l2.length l2) (hc2 : l2.length ≤ c2) (h : ring_AddAll.f a0 l1 l2 = some (r1, r2)) :
    Calls Try.prog 60 #[.int .i64 a0, .slice A1 l1.length c1, .slice A2 l2.length c2] w fun e w' => ∃ v0_ : Value, e = .returned (.tuple #[v0_, .int .i64 r2]) ∧ Kd.R (Kd.int .u64) 35 w' w.heap.size (fun _ => True) v0_ r1 ∧ Below w.heap.size w w' := by
  unfold ring_AddAll.f at h
  have HB := Aside0.mk (Below.refl w.heap.size w)
  by_cases hl : (l1.length : Int) = (l2.length : Int)
  · rw [if_pos hl] at h
    by_cases hs : l1.length ≤ 35184372088832
    · rw [if_pos hs] at h
      obtain ⟨rfl, rfl⟩ := Prod.mk.inj (Option.some.inj h)
      have HL := Lib.hid hl
      clear hl h
      go_enter Try.func60, Try.ntmps60
      go_wp2_with (go_at_call 94; refine (pairs_Add.calls a0 w.heap.size A1 c1 l1 A2 c2 l2 _ ?hcell ?hr1 ?hr2 ?hl hs).mono ?_; (case hcell => go_simp); (case hr1 => exact Kd.C_alloc hr1 _); (case hr2 => exact Kd.C_alloc hr2 _); (case hl => have := HL.out; omega); rintro e w' ⟨v, rfl, ho, hb⟩; have HO1 := Aside0.mk ho; have HB1 := Aside0.mk hb; clear ho hb)
      go_ret2
      exact ⟨_, rfl, Kd.R_lower HO1.out (by simp), below_step (below_alloc HB.out _) HB1.out⟩
    · rw [if_neg hs] at h; cases h
  · rw [if_neg hl] at h
    obtain ⟨rfl, rfl⟩ := Prod.mk.inj (Option.some.inj h)
    have HL := Lib.hid hl
    clear hl h
    go_enter Try.func60, Try.ntmps60
    go_wp2_with (go_at_call 94; refine (pairs_Add_off.calls _ _ _ _ _ _ _ _ ?hl).mono ?_; (case hl => have := HL.out; omega); rintro e w' ⟨rfl, rfl⟩)
    go_ret2
    exact ⟨_, rfl, Kd.R_nil _ _ _ _ _, by repeat (first | exact HB.out | apply below_alloc | apply pw_below_drewN | apply below_drew)⟩

/-! ### ring_sized: function 96 -/
def ring_sized.f (a0 : Int) (a1 : Int) : Option (Bool) := if a0 ≥ 1 then (if a0 ≤ 6 then (if a1 ≥ 1 then (some (decide (a1 ≤ 6))) else (some false)) else (some false)) else (some false)
set_option maxHeartbeats 8000000 in
set_option maxRecDepth 100000 in
theorem ring_sized.calls (a0 : Int) (a1 : Int) (r : Bool) (w : World) (h : ring_sized.f a0 a1 = some r) :
  Calls Try.prog 96 #[.int .i64 a0, .int .i64 a1] w fun e w' => e = .returned (.bool r) ∧ Drawn0 w w' := by
 have H : (if a0 ≥ 1 then (if a0 ≤ 6 then (if a1 ≥ 1 then (some (decide (a1 ≤ 6))) else (some false)) else (some false)) else (some false)) = some r := h
 clear h
 by_cases c3 : a0 ≥ 1
 ·rw [if_pos c3] at H
  have c3b0 : decide (1 ≤ a0) = true := decide_eq_true c3
  clear c3
  by_cases c4 : a0 ≤ 6
  ·rw [if_pos c4] at H
   have c4b0 : decide (a0 ≤ 6) = true := decide_eq_true c4
   clear c4
   by_cases c5 : a1 ≥ 1
   ·rw [if_pos c5] at H
    have c5b0 : decide (1 ≤ a1) = true := decide_eq_true c5
    clear c5
    obtain rfl := Option.some.inj H
    go_enter Try.func96, Try.ntmps96
    go_wp2
    go_ret
    exact ⟨zq40, zq38⟩
   ·rw [if_neg c5] at H
    have c5b0 : decide (1 ≤ a1) = false := decide_eq_false c5
    clear c5
    obtain rfl := Option.some.inj H
    go_enter Try.func96, Try.ntmps96
    go_wp2
    go_ret
    exact ⟨zq40, zq38⟩
  ·rw [if_neg c4] at H
   have c4b0 : decide (a0 ≤ 6) = false := decide_eq_false c4
   clear c4
   obtain rfl := Option.some.inj H
   go_enter Try.func96, Try.ntmps96
   go_wp2
   go_ret
   exact ⟨zq40, zq38⟩
 ·rw [if_neg c3] at H
  have c3b0 : decide (1 ≤ a0) = false := decide_eq_false c3
  clear c3
  obtain rfl := Option.some.inj H
  go_enter Try.func96, Try.ntmps96
  go_wp2
  go_ret
  exact ⟨zq40, zq38⟩

/-! ### ring_Fit: function 97 -/
def ring_Fit.f (a0 : Int) (a1 : Int) : Option (Int) := (ring_mask.f a0).bind fun t318 => (some (Go.bits .and .u64 a1 t318))
set_option maxHeartbeats 8000000 in
set_option maxRecDepth 100000 in
theorem ring_Fit.calls (a0 : Int) (a1 : Int) (r : Int) (w : World) (h : ring_Fit.f a0 a1 = some r) :
  Calls Try.prog 97 #[.int .i64 a0, .int .u64 a1] w fun e w' => e = .returned (.int .u64 r) ∧ Drawn0 w w' := by
 have H : ((ring_mask.f a0).bind fun t318 => (some (Go.bits .and .u64 a1 t318))) = some r := h
 clear h
 replace H := Option.bind_eq_some_iff.mp H
 obtain ⟨t318, A30, H⟩ := H
 replace H : (some (Go.bits .and .u64 a1 t318)) = some r := H
 have A3 := Aside0.mk A30
 clear A30
 obtain rfl := Option.some.inj H
 go_enter Try.func97, Try.ntmps97
 go_wp2_with (first | ((with_reducible refine gate_callee (f := 90) rfl ?_); refine goesL_ (some 7) rfl rfl Try.func90 (zq47) rfl #[.int .i64 a0] rfl (zq28) ?_; (with_reducible refine (ring_mask.calls a0 t318 _ A3.out).mono ?_); rintro e w' ⟨rfl, ⟨nd, rfl⟩⟩; refine ⟨_, rfl, ?_⟩))
 go_ret
 exact ⟨zq40, zq38⟩
end Go.Proofs.Ytcmaidpoolcelaa.P
