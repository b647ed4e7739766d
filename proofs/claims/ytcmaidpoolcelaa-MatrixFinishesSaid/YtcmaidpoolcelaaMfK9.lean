/- Functions of the program as plain Lean functions, and proofs that the machine's calls do what these do: written by a program of this workplace (wip/tools/pp.py). -/
import Derived.Test.YtcmaidpoolcelaaMfPx0
import Derived.Test.YtcmaidpoolcelaaMfK0
import Derived.Test.YtcmaidpoolcelaaMfK1
import Derived.Test.YtcmaidpoolcelaaMfK3
import Derived.Test.YtcmaidpoolcelaaMfSh
namespace Go.Proofs.Ytcmaidpoolcelaa.P
open Go.RowKit Go.Proofs.YtcmaidpoolcelaaW.PrintWords Go.Proofs.YtcmaidpoolcelaaW.PrintLast Go.Proofs.YtcmaidpoolcelaaW.PrintMore
attribute [local go_sem] max2_int min2_int max_two min_two max_three min_three max_four min_four   -- for this text's walks alone
set_option linter.unusedVariables false
set_option linter.unusedSimpArgs false

/-! ### trefoilref21_Wrong: function 106 -/
def trefoilref21_Wrong.f (a0 : Int) (a1 : Int) : Option (Bool) := if a0 < 1 then (some true) else (if a0 > 64 then (some true) else (if a1 < 1 then (some true) else (some (decide (a1 > 6)))))
set_option maxHeartbeats 8000000 in
set_option maxRecDepth 100000 in
theorem trefoilref21_Wrong.calls (a0 : Int) (a1 : Int) (r : Bool) (w : World) (h : trefoilref21_Wrong.f a0 a1 = some r) :
  Calls Try.prog 106 #[.int .i64 a0, .int .i64 a1] w fun e w' => e = .returned (.bool r) ∧ Drawn0 w w' := by
 have H : (if a0 < 1 then (some true) else (if a0 > 64 then (some true) else (if a1 < 1 then (some true) else (some (decide (a1 > 6)))))) = some r := h
 clear h
 by_cases c3 : a0 < 1
 ·rw [if_pos c3] at H
  have c3b0 : decide (a0 < 1) = true := decide_eq_true c3
  clear c3
  obtain rfl := Option.some.inj H
  go_enter Try.func106, Try.ntmps106
  go_wp2
  go_ret
  exact ⟨zq40, zq38⟩
 ·rw [if_neg c3] at H
  have c3b0 : decide (a0 < 1) = false := decide_eq_false c3
  clear c3
  by_cases c4 : a0 > 64
  ·rw [if_pos c4] at H
   have c4b0 : decide (64 < a0) = true := decide_eq_true c4
   clear c4
   obtain rfl := Option.some.inj H
   go_enter Try.func106, Try.ntmps106
   go_wp2
   go_ret
   exact ⟨zq40, zq38⟩
  ·rw [if_neg c4] at H
   have c4b0 : decide (64 < a0) = false := decide_eq_false c4
   clear c4
   by_cases c5 : a1 < 1
   ·rw [if_pos c5] at H
    have c5b0 : decide (a1 < 1) = true := decide_eq_true c5
    clear c5
    obtain rfl := Option.some.inj H
    go_enter Try.func106, Try.ntmps106
    go_wp2
    go_ret
    exact ⟨zq40, zq38⟩
   ·rw [if_neg c5] at H
    have c5b0 : decide (a1 < 1) = false := decide_eq_false c5
    clear c5
    obtain rfl := Option.some.inj H
    go_enter Try.func106, Try.ntmps106
    go_wp2
    go_ret
    exact ⟨zq40, zq38⟩

/-! ### trefoilref21_Fold: function 73 -/
mutual
def trefoilref21_Fold.j0 : Nat → Int → Int → List Int → Bool → Option (List Int × Int)
 | 0, _, _, _, _ => none
 | k + 1, x0, x1, x2, x30 => if x30 = true then (some (([] : List Int), 11)) else (trefoilref21_Fold.l0 k x0 x1 x2 ([] : List Int) 0)
def trefoilref21_Fold.l0 : Nat → Int → Int → List Int → List Int → Int → Option (List Int × Int)
 | 0, _, _, _, _, _ => none
 | k + 1, x0, x1, x2, x8, x9 => if (wrap64 (x0 * x1)) = 0 then (none) else (if x9 < (wrap64 ((x2.length : Int) / (wrap64 (x0 * x1)))) then (trefoilref21_Fold.l1 k x0 x1 x2 x8 x9 0) else (some (x8, 0)))
def trefoilref21_Fold.l1 : Nat → Int → Int → List Int → List Int → Int → Int → Option (List Int × Int)
 | 0, _, _, _, _, _, _ => none
 | k + 1, x0, x1, x2, x8, x9, x10 => if x10 < x1 then (trefoilref21_Fold.l2 k x0 x1 x2 x8 x9 x10 0 0) else (trefoilref21_Fold.l0 k x0 x1 x2 x8 (wrap64 (x9 + 1)))
def trefoilref21_Fold.l2 : Nat → Int → Int → List Int → List Int → Int → Int → Int → Int → Option (List Int × Int)
 | 0, _, _, _, _, _, _, _, _ => none
 | k + 1, x0, x1, x2, x8, x9, x10, x11, x12 => if x12 < x0 then (if 0 ≤ (wrap64 ((wrap64 ((wrap64 ((wrap64 (x9 * x0)) + x12)) * x1)) + x10)) then (if (wrap64 ((wrap64 ((wrap64 ((wrap64 (x9 * x0)) + x12)) * x1)) + x10)) < (x2.length : Int) then ((trefoilref03_Add.f k x0 x11 (rd x2 (wrap64 ((wrap64 ((wrap64 ((wrap64 (x9 * x0)) + x12)) * x1)) + x10)))).bind fun t700 => (trefoilref21_Fold.l2 k x0 x1 x2 x8 x9 x10 t700 (wrap64 (x12 + 1)))) else (none)) else (none)) else (if x8.length < 17592186044416 then (trefoilref21_Fold.l1 k x0 x1 x2 (x8 ++ [x11]) x9 (wrap64 (x10 + 1))) else (none))
end
def trefoilref21_Fold.f (k : Nat) (a0 : Int) (a1 : Int) (l2 : List Int) : Option (List Int × Int) := (trefoilref21_Wrong.f a0 a1).bind fun t697 => (if t697 = true then (trefoilref21_Fold.j0 k a0 a1 l2 true) else (if (wrap64 (a0 * a1)) = 0 then (none) else (if ((l2.length : Int) % (wrap64 (a0 * a1))) = 0 then ((trefoilref19_Fits.f k a0 l2).bind fun t698 => (trefoilref21_Fold.j0 k a0 a1 l2 (!t698))) else (trefoilref21_Fold.j0 k a0 a1 l2 true))))
set_option maxHeartbeats 8000000 in
set_option maxRecDepth 100000 in
theorem trefoilref21_Fold.calls (k : Nat) (a0 : Int) (a1 : Int) (A2 : Option Addr) (c2 : Nat) (l2 : List Int) (r1 : List Int) (r2 : Int) (w : World) (hr2 : Kd.C (Kd.int .u64) w A2 l2.length l2) (hc2 : l2.length ≤ c2) (h : trefoilref21_Fold.f k a0 a1 l2 = some (r1, r2)) :
  Calls Try.prog 73 #[.int .i64 a0, .int .i64 a1, .slice A2 l2.length c2] w fun e w' => ∃ v0_ : Value, e = .returned (.tuple #[v0_, .int .i64 r2]) ∧ Kd.R (Kd.int .u64) 35 w' w.heap.size (fun _ => True) v0_ r1 ∧ Below w.heap.size w w' := by
 have HR2 := Aside0.mk hr2
 have HC2 := Aside0.mk hc2
 clear hr2 hc2
 have HB := Aside0.mk (Below.refl w.heap.size w)
 have H : ((trefoilref21_Wrong.f a0 a1).bind fun t697 => (if t697 = true then (trefoilref21_Fold.j0 k a0 a1 l2 true) else (if (wrap64 (a0 * a1)) = 0 then (none) else (if ((l2.length : Int) % (wrap64 (a0 * a1))) = 0 then ((trefoilref19_Fits.f k a0 l2).bind fun t698 => (trefoilref21_Fold.j0 k a0 a1 l2 (!t698))) else (trefoilref21_Fold.j0 k a0 a1 l2 true))))) = some (r1, r2) := h
 clear h
 have HC4 := Aside0.mk H
 clear H
 go_enter Try.func73, Try.ntmps73
 go_upto_region 1 with (fail)
 go_cut [30] (fun v30 wc => ∃ (kq : Nat) (x30_3 : Bool), v30 = .bool x30_3 ∧ Aside0 (trefoilref21_Fold.j0 kq a0 a1 l2 x30_3 = some (r1, r2)) ∧ Aside0 (kq ≤ k) ∧ Aside0 (Below w.heap.size w wc))
 case first =>
  have H := HC4.out
  clear HC4
  replace H := Option.bind_eq_some_iff.mp H
  obtain ⟨t697, A50, H⟩ := H
  replace H : (if t697 = true then (trefoilref21_Fold.j0 k a0 a1 l2 true) else (if (wrap64 (a0 * a1)) = 0 then (none) else (if ((l2.length : Int) % (wrap64 (a0 * a1))) = 0 then ((trefoilref19_Fits.f k a0 l2).bind fun t698 => (trefoilref21_Fold.j0 k a0 a1 l2 (!t698))) else (trefoilref21_Fold.j0 k a0 a1 l2 true)))) = some (r1, r2) := H
  have A5 := Aside0.mk A50
  clear A50
  by_cases c6 : t697 = true
  ·subst c6
   have H1 : (trefoilref21_Fold.j0 k a0 a1 l2 true) = some (r1, r2) := by rw [if_pos rfl] at H; exact H
   clear H
   have H := H1
   clear H1
   have H' := Aside0.mk H
   clear H
   go_wp2_with (first | ((with_reducible refine gate_callee (f := 106) rfl ?_); refine goesL_ (some 15) rfl rfl Try.func106 (zq47) rfl #[.int .i64 a0, .int .i64 a1] rfl (zq28) ?_; (with_reducible refine (trefoilref21_Wrong.calls a0 a1 true _ A5.out).mono ?_); rintro e w' ⟨rfl, ⟨nd, rfl⟩⟩; refine ⟨_, rfl, ?_⟩))
   go_meet
   case rel => exact ⟨_, (true), (zq40), H', ⟨zq45⟩, ⟨HB.bl⟩⟩
  ·replace c6 := Bool.eq_false_iff.mpr c6
   subst c6
   have H1 : (if (wrap64 (a0 * a1)) = 0 then (none) else (if ((l2.length : Int) % (wrap64 (a0 * a1))) = 0 then ((trefoilref19_Fits.f k a0 l2).bind fun t698 => (trefoilref21_Fold.j0 k a0 a1 l2 (!t698))) else (trefoilref21_Fold.j0 k a0 a1 l2 true))) = some (r1, r2) := by rw [if_neg (show ¬ (false = true) by decide)] at H; exact H
   clear H
   have H := H1
   clear H1
   by_cases c7 : (wrap64 (a0 * a1)) = 0
   ·rw [if_pos c7] at H
    exact absurd H (by simp)
   ·rw [if_neg c7] at H
    have c7b0 : ((wrap64 (a0 * a1)) == 0) = false := beq_eq_false_iff_ne.mpr c7
    have c7b1 : ((wrap64 (a0 * a1)) != 0) = true := bne_iff_ne.mpr c7
    (first | rw [c7b0] | (simp only [i64_w, i32_w]; rw [c7b0]) | skip)
    by_cases c8 : ((l2.length : Int) % (wrap64 (a0 * a1))) = 0
    ·rw [if_pos c8] at H
     have c8b0 : (((l2.length : Int) % (wrap64 (a0 * a1))) == 0) = true := beq_iff_eq.mpr c8
     have c8b1 : (((l2.length : Int) % (wrap64 (a0 * a1))) != 0) = false := bne_eq_false_iff_eq.mpr c8
     clear c8
     replace H := Option.bind_eq_some_iff.mp H
     obtain ⟨t698, A90, H⟩ := H
     replace H : (trefoilref21_Fold.j0 k a0 a1 l2 (!t698)) = some (r1, r2) := H
     have A9 := Aside0.mk A90
     clear A90
     have H' := Aside0.mk H
     clear H
     go_wp2_with (first | ((with_reducible refine gate_callee (f := 106) rfl ?_); refine goesL_ (some 15) rfl rfl Try.func106 (zq47) rfl #[.int .i64 a0, .int .i64 a1] rfl (zq28) ?_; (with_reducible refine (trefoilref21_Wrong.calls a0 a1 false _ A5.out).mono ?_); rintro e w' ⟨rfl, ⟨nd, rfl⟩⟩; refine ⟨_, rfl, ?_⟩) | (go_at_call 58; (with_reducible refine (trefoilref19_Fits.calls k a0 _ _ l2 t698 _ ?side1 ?side2 A9.out).mono ?_); (case side1 => repeat (first | exact (Kd.C_below HR2.out HB.bl) | (with_reducible refine Kd.C_alloc ?_ _) | (with_reducible refine Kd.C_drewN ?_ _) | (with_reducible refine Kd.C_drew ?_))); (case side2 => exact HC2.out); rintro e w' ⟨rfl, ⟨nd, rfl⟩⟩))
     go_meet
     case rel => exact ⟨_, (!t698), (zq40), H', ⟨zq45⟩, ⟨HB.bl⟩⟩
    ·rw [if_neg c8] at H
     have c8b0 : (((l2.length : Int) % (wrap64 (a0 * a1))) == 0) = false := beq_eq_false_iff_ne.mpr c8
     have c8b1 : (((l2.length : Int) % (wrap64 (a0 * a1))) != 0) = true := bne_iff_ne.mpr c8
     have H' := Aside0.mk H
     clear H
     go_wp2_with (first | ((with_reducible refine gate_callee (f := 106) rfl ?_); refine goesL_ (some 15) rfl rfl Try.func106 (zq47) rfl #[.int .i64 a0, .int .i64 a1] rfl (zq28) ?_; (with_reducible refine (trefoilref21_Wrong.calls a0 a1 false _ A5.out).mono ?_); rintro e w' ⟨rfl, ⟨nd, rfl⟩⟩; refine ⟨_, rfl, ?_⟩))
     go_meet
     case rel => exact ⟨_, (true), (zq40), H', ⟨zq45⟩, ⟨HB.bl⟩⟩
 case rest =>
  clear HC4
  try clear c1
  try clear c2
  try clear p2
  try clear c6
  try clear p6
  try clear c7
  try clear c7b0
  try clear c7b1
  try clear c8
  try clear c8b0
  try clear c8b1
  obtain ⟨kq, x30_3, rfl, HA, HJ3, HB⟩ := hcut
  cases kq with
  | zero => exact absurd HA.out (by simp [trefoilref21_Fold.j0])
  | succ kj3 =>
   have H := HA.out
   clear HA
   simp only [trefoilref21_Fold.j0] at H
   by_cases c10 : x30_3 = true
   ·subst c10
    have H1 : (some (([] : List Int), 11)) = some (r1, r2) := by rw [if_pos rfl] at H; exact H
    clear H
    have H := H1
    clear H1
    simp only [Option.some.injEq, Prod.mk.injEq] at H
    obtain ⟨rfl, rfl⟩ := H
    go_wp2
    go_ret2
    exact ⟨_, zq37, zq26, HB.bl⟩
   ·replace c10 := Bool.eq_false_iff.mpr c10
    subst c10
    have H1 : (trefoilref21_Fold.l0 kj3 a0 a1 l2 ([] : List Int) 0) = some (r1, r2) := by rw [if_neg (show ¬ (false = true) by decide)] at H; exact H
    clear H
    have H := H1
    clear H1
    have H' := Aside0.mk H
    clear H
    go_wp2
    go_loopg [8, 9] kj3 (fun kq v8 v9 w' => ∃ (x8_2 : List Int) (x9_2 : Int), v9 = .int .i64 x9_2 ∧ Aside0 (trefoilref21_Fold.l0 kq a0 a1 l2 x8_2 x9_2 = some (r1, r2)) ∧ Aside0 (kq ≤ kj3) ∧ Aside0 (Kd.R (Kd.int .u64) 35 w' w.heap.size (fun _ => True) v8 x8_2) ∧ Aside0 (Below w.heap.size w w'))
    case atStart => exact ⟨(([] : List Int)), (0), (zq40), H', ⟨Nat.le_refl _⟩, ⟨zq26⟩, ⟨HB.bl⟩⟩
    case round =>
     clear H'
     try clear c1
     try clear c2
     try clear p2
     try clear c6
     try clear p6
     try clear c7
     try clear c7b0
     try clear c7b1
     try clear c8
     try clear c8b0
     try clear c8b1
     try clear c10
     try clear p2
     try clear p6
     obtain ⟨x8_2, x9_2, rfl, HA, HK2, HO_8, HB⟩ := hrel
     cases gk with
     | zero => exact absurd HA.out (by simp [trefoilref21_Fold.l0])
     | succ k2 =>
      have H := HA.out
      clear HA
      simp only [trefoilref21_Fold.l0] at H
      by_cases c11 : (wrap64 (a0 * a1)) = 0
      ·rw [if_pos c11] at H
       exact absurd H (by simp)
      ·rw [if_neg c11] at H
       have c11b0 : ((wrap64 (a0 * a1)) == 0) = false := beq_eq_false_iff_ne.mpr c11
       have c11b1 : ((wrap64 (a0 * a1)) != 0) = true := bne_iff_ne.mpr c11
       by_cases c12 : x9_2 < (wrap64 ((l2.length : Int) / (wrap64 (a0 * a1))))
       ·rw [if_pos c12] at H
        have c12b0 : decide (x9_2 < (wrap64 ((l2.length : Int) / (wrap64 (a0 * a1))))) = true := decide_eq_true c12
        clear c12
        have H' := Aside0.mk H
        clear H
        go_wp2
        go_loopg [8, 10] k2 (fun kq v8 v10 w' => ∃ (x8_3 : List Int) (x10_3 : Int), v10 = .int .i64 x10_3 ∧ Aside0 (trefoilref21_Fold.l1 kq a0 a1 l2 x8_3 x9_2 x10_3 = some (r1, r2)) ∧ Aside0 (kq ≤ k2) ∧ Aside0 (Kd.R (Kd.int .u64) 35 w' w.heap.size (fun _ => True) v8 x8_3) ∧ Aside0 (Below w.heap.size w w'))
        case atStart => exact ⟨(x8_2), (0), (zq40), H', ⟨Nat.le_refl _⟩, ⟨HO_8.r⟩, ⟨HB.bl⟩⟩
        case round =>
         clear H'
         try clear c1
         try clear c2
         try clear p2
         try clear c6
         try clear p6
         try clear c7
         try clear c7b0
         try clear c7b1
         try clear c8
         try clear c8b0
         try clear c8b1
         try clear c10
         try clear c11
         try clear c11b0
         try clear c11b1
         try clear c12
         try clear c12b0
         try clear p2
         try clear p6
         obtain ⟨x8_3, x10_3, rfl, HA, HK3, HO_8, HB⟩ := hrel
         cases gk with
         | zero => exact absurd HA.out (by simp [trefoilref21_Fold.l1])
         | succ k3 =>
          have H := HA.out
          clear HA
          simp only [trefoilref21_Fold.l1] at H
          by_cases c13 : x10_3 < a1
          ·rw [if_pos c13] at H
           have c13b0 : decide (x10_3 < a1) = true := decide_eq_true c13
           clear c13
           have H' := Aside0.mk H
           clear H
           go_wp2
           go_loopg [11, 12] k3 (fun kq v11 v12 w' => ∃ (x11_4 : Int) (x12_4 : Int), v11 = .int .u64 x11_4 ∧ v12 = .int .i64 x12_4 ∧ Aside0 (trefoilref21_Fold.l2 kq a0 a1 l2 x8_3 x9_2 x10_3 x11_4 x12_4 = some (r1, r2)) ∧ Aside0 (kq ≤ k3) ∧ Aside0 (Kd.R (Kd.int .u64) 35 w' w.heap.size (fun _ => True) u8 x8_3) ∧ Aside0 (Below w.heap.size w w'))
           case atStart => exact ⟨(0), (0), (zq40), (zq40), H', ⟨Nat.le_refl _⟩, ⟨HO_8.r⟩, ⟨HB.bl⟩⟩
           case round =>
            clear H'
            try clear c1
            try clear c2
            try clear p2
            try clear c6
            try clear p6
            try clear c7
            try clear c7b0
            try clear c7b1
            try clear c8
            try clear c8b0
            try clear c8b1
            try clear c10
            try clear c11
            try clear c11b0
            try clear c11b1
            try clear c12
            try clear c12b0
            try clear c13
            try clear c13b0
            try clear p2
            try clear p6
            obtain ⟨x11_4, x12_4, rfl, rfl, HA, HK4, HO_8, HB⟩ := hrel
            cases gk with
            | zero => exact absurd HA.out (by simp [trefoilref21_Fold.l2])
            | succ k4 =>
             have H := HA.out
             clear HA
             simp only [trefoilref21_Fold.l2] at H
             by_cases c14 : x12_4 < a0
             ·rw [if_pos c14] at H
              have c14b0 : decide (x12_4 < a0) = true := decide_eq_true c14
              clear c14
              obtain ⟨ji15, hji15⟩ : ∃ j_ : Int, (wrap64 ((wrap64 ((wrap64 ((wrap64 (x9_2 * a0)) + x12_4)) * a1)) + x10_3)) = j_ := ⟨_, rfl⟩
              replace H : (if 0 ≤ (ji15) then (if (ji15) < (l2.length : Int) then ((trefoilref03_Add.f k4 a0 x11_4 (rd l2 (ji15))).bind fun t700 => (trefoilref21_Fold.l2 k4 a0 a1 l2 x8_3 x9_2 x10_3 t700 (wrap64 (x12_4 + 1)))) else (none)) else (none)) = some (r1, r2) := by first | (rw [hji15] at H; exact H) | (simp only [hji15] at H ⊢; exact H)
              have hji15w : (IntKind.i64.wrap ((wrap64 ((wrap64 ((wrap64 (x9_2 * a0)) + x12_4)) * a1)) + x10_3)) = ji15 := (i64_w _).trans hji15
              by_cases c16 : 0 ≤ (ji15)
              ·rw [if_pos c16] at H
               have c16b0 : decide (0 ≤ (ji15)) = true := decide_eq_true c16
               clear c16
               by_cases c17 : (ji15) < (l2.length : Int)
               ·rw [if_pos c17] at H
                have c17b0 : decide ((ji15) < (l2.length : Int)) = true := decide_eq_true c17
                clear c17
                replace H := Option.bind_eq_some_iff.mp H
                obtain ⟨t700, A180, H⟩ := H
                replace H : (trefoilref21_Fold.l2 k4 a0 a1 l2 x8_3 x9_2 x10_3 t700 (wrap64 (x12_4 + 1))) = some (r1, r2) := H
                have A18 := Aside0.mk A180
                clear A180
                have H' := Aside0.mk H
                clear H
                have p699 : 0 ≤ ((ji15) : Int) := of_decide_eq_true (zq39)
                have q699 : (ji15) < (l2.length : Int) := of_decide_eq_true (zq39)
                obtain ⟨ad699, e699, hx699_0⟩ := Kd.at_int HR2.out (ji15) p699 q699
                cases e699
                replace hx699_0 := (HB.out.cell (World.block_lt_of_cell? w _ hx699_0)).trans hx699_0
                replace p699 := eq_true p699
                replace q699 := eq_true q699
                go_wp2_with (first | ((with_reducible refine gate_callee (f := 29) rfl ?_); refine goesL_ (some 65) rfl rfl Try.func29 (zq47) rfl #[.int .i64 a0, .int .u64 x11_4, .int .u64 (rd l2 (ji15))] rfl (by (try simp only [List.map_toArray, List.map_cons, List.map_nil]); first | done | (simp only [hji15]; rfl) | rfl | (simp only [List.length_drop, List.length_take]; rfl)) ?_; (with_reducible refine (trefoilref03_Add.calls k4 a0 x11_4 (rd l2 (ji15)) t700 _ A18.out).mono ?_); rintro e w' ⟨rfl, ⟨nd, rfl⟩⟩; refine ⟨_, rfl, ?_⟩))
                go_roundg k4
                case measure => have := HJ3.out; have := HK2.out; have := HK3.out; have := HK4.out; omega
                case rel => exact ⟨(t700), (wrap64 (x12_4 + 1)), (zq40), (zq40), H', ⟨by have := HJ3.out; have := HK2.out; have := HK3.out; have := HK4.out; omega⟩, ⟨HO_8.r⟩, ⟨HB.bl⟩⟩
               ·rw [if_neg c17] at H
                exact absurd H (by simp)
              ·rw [if_neg c16] at H
               exact absurd H (by simp)
             ·rw [if_neg c14] at H
              have c14b0 : decide (x12_4 < a0) = false := decide_eq_false c14
              clear c14
              by_cases c19 : x8_3.length < 17592186044416
              ·rw [if_pos c19] at H
               have LMc19 := Aside0.mk c19
               clear c19
               obtain ⟨y701, hy701⟩ : ∃ y_ : List Int, y_ = (x8_3 ++ [x11_4]) := ⟨_, rfl⟩
               replace H : (trefoilref21_Fold.l1 k4 a0 a1 l2 y701 x9_2 (wrap64 (x10_3 + 1))) = some (r1, r2) := by first | (rw [hy701]; with_reducible exact H) | (have H2_ := (Option.bind_some _ _).symm.trans H; rw [hy701]; with_reducible exact H2_) | (have H2_ := (Option.bind_some _ _).symm.trans H; with_reducible exact H2_) | with_reducible exact H | (rw [hy701]; exact H) | exact H
               have Ny701 := Aside0.mk hy701
               clear hy701
               have H' := Aside0.mk H
               clear H
               go_wp2_with (first | ((with_reducible refine gate_builtin (b := .append) (xs := #[.tmp 66, .tmp 68]) rfl ?_); (try (refine gate_guard (by rfl) ?_; dsimp only)); at_builtin; refine Kd.R_append (Kd.int .u64) (w0 := w) w.heap.size rfl (.tmp 66) (.tmp 68) 24 35 (.int .u64 0) 8 rfl Try.underlying24 info35 rfl (by decide) (by omega) u8 x8_3 x11_4 [.int .u64 x11_4] (fun _ => True) (fun _ => False) rfl rfl ?aP (fun _ hk => hk.elim) ?aF ?aO ?aB ?aS ?aL ?_; (case aP => exact rfl); (case aB => exact HB.bl); (case aF => exact (fun _ _ => trivial)); (case aO => exact HO_8.r); (case aS => exact (below_size HB.bl)); (case aL => have := LMc19.out; omega); intro v702 w20 ho hb hg hat; rw [← Ny701.out] at ho; replace HB := Aside0.mk (hb); have HO703 := Aside0.mk (ho); clear HO_8; clear ho hb hg hat))
               go_roundg k4
               case measure => have := HJ3.out; have := HK2.out; have := HK3.out; have := HK4.out; omega
               case rel => exact ⟨(y701), (wrap64 (x10_3 + 1)), (zq40), H', ⟨by have := HJ3.out; have := HK2.out; have := HK3.out; have := HK4.out; omega⟩, ⟨HO703.r⟩, ⟨HB.bl⟩⟩
              ·rw [if_neg c19] at H
               exact absurd H (by simp)
          ·rw [if_neg c13] at H
           have c13b0 : decide (x10_3 < a1) = false := decide_eq_false c13
           clear c13
           have H' := Aside0.mk H
           clear H
           go_wp2
           go_roundg k3
           case measure => have := HJ3.out; have := HK2.out; have := HK3.out; omega
           case rel => exact ⟨(x8_3), (wrap64 (x9_2 + 1)), (zq40), H', ⟨by have := HJ3.out; have := HK2.out; have := HK3.out; omega⟩, ⟨HO_8.r⟩, ⟨HB.bl⟩⟩
       ·rw [if_neg c12] at H
        have c12b0 : decide (x9_2 < (wrap64 ((l2.length : Int) / (wrap64 (a0 * a1))))) = false := decide_eq_false c12
        clear c12
        simp only [Option.some.injEq, Prod.mk.injEq] at H
        obtain ⟨rfl, rfl⟩ := H
        go_wp2
        go_ret2
        exact ⟨_, zq37, HO_8.r, HB.bl⟩
end Go.Proofs.Ytcmaidpoolcelaa.P
