/- Functions of the program as plain Lean functions, and proofs that the machine's calls do what these do: written by a program of this workplace (wip/tools/pp.py). -/
import Derived.Test.YtcmaidpoolcelaaMcPx0
import Derived.Test.YtcmaidpoolcelaaMcK1
import Derived.Test.YtcmaidpoolcelaaMcK2
import Derived.Test.YtcmaidpoolcelaaMcSh
namespace Go.Proofs.Ytcmaidpoolcelaa.P
open Go.RowKit Go.Proofs.YtcmaidpoolcelaaW.PrintWords Go.Proofs.YtcmaidpoolcelaaW.PrintLast Go.Proofs.YtcmaidpoolcelaaW.PrintMore
attribute [local go_sem] max2_int min2_int max_two min_two max_three min_three max_four min_four   -- for this text's walks alone
set_option linter.unusedVariables false
set_option linter.unusedSimpArgs false

/-! ### trefoilref03_Sized: function 92 -/
def trefoilref03_Sized.f (a0 : Int) (a1 : Int) : Option (Bool) := if a0 ≥ 1 then (if a0 ≤ 6 then (if a1 ≥ 1 then (some (decide (a1 ≤ 6))) else (some false)) else (some false)) else (some false)
set_option maxHeartbeats 8000000 in
set_option maxRecDepth 100000 in
theorem trefoilref03_Sized.calls (a0 : Int) (a1 : Int) (r : Bool) (w : World) (h : trefoilref03_Sized.f a0 a1 = some r) :
  Calls Try.prog 92 #[.int .i64 a0, .int .i64 a1] w fun e w' => e = .returned (.bool r) ∧ Drawn0 w w' := by
 have H : (if a0 ≥ 1 then (if a0 ≤ 6 then (if a1 ≥ 1 then (some (decide (a1 ≤ 6))) else (some false)) else (some false)) else (some false)) = some r := h
 clear h
 by_cases c3 : a0 ≥ 1
 ·rw [if_pos c3] at H
  have c3b0 : decide (1 ≤ a0) = true := decide_eq_true c3
  clear c3
  by_cases c4 : a0 ≤ 6
  ·rw [if_pos c4] at H
   have c4b0 : decide (a0 ≤ 6) = true := decide_eq_true c4
   clear c4
   by_cases c5 : a1 ≥ 1
   ·rw [if_pos c5] at H
    have c5b0 : decide (1 ≤ a1) = true := decide_eq_true c5
    clear c5
    obtain rfl := Option.some.inj H
    go_enter Try.func92, Try.ntmps92
    go_wp2
    go_ret
    exact ⟨zq52, zq50⟩
   ·rw [if_neg c5] at H
    have c5b0 : decide (1 ≤ a1) = false := decide_eq_false c5
    clear c5
    obtain rfl := Option.some.inj H
    go_enter Try.func92, Try.ntmps92
    go_wp2
    go_ret
    exact ⟨zq52, zq50⟩
  ·rw [if_neg c4] at H
   have c4b0 : decide (a0 ≤ 6) = false := decide_eq_false c4
   clear c4
   obtain rfl := Option.some.inj H
   go_enter Try.func92, Try.ntmps92
   go_wp2
   go_ret
   exact ⟨zq52, zq50⟩
 ·rw [if_neg c3] at H
  have c3b0 : decide (1 ≤ a0) = false := decide_eq_false c3
  clear c3
  obtain rfl := Option.some.inj H
  go_enter Try.func92, Try.ntmps92
  go_wp2
  go_ret
  exact ⟨zq52, zq50⟩

/-! ### trefoilref03_Mul: function 74 -/
mutual
def trefoilref03_Mul.l0 : Nat → Int → Int → Int → Int → Int → Option (Int)
 | 0, _, _, _, _, _ => none
 | k + 1, x0, x1, x2, x7, x8 => if x8 < 64 then (trefoilref03_Mul.j1 k x0 x1 x2 x7 x8 (decide (x8 < x0))) else (trefoilref03_Mul.j1 k x0 x1 x2 x7 x8 false)
def trefoilref03_Mul.j1 : Nat → Int → Int → Int → Int → Int → Bool → Option (Int)
 | 0, _, _, _, _, _, _ => none
 | k + 1, x0, x1, x2, x7, x8, x15 => if x15 = true then (if 0 ≤ (IntKind.u64.wrap (x8)) then (if (Int.tmod (shr .u64 x2 (IntKind.u64.wrap (x8))) 2) = 1 then ((trefoilref03_Add.f k x0 x7 x1).bind fun t258 => ((trefoilref03_Add.f k 64 x1 x1).bind fun t259 => (trefoilref03_Mul.l0 k x0 t259 x2 t258 (wrap64 (x8 + 1))))) else ((trefoilref03_Add.f k 64 x1 x1).bind fun t260 => (trefoilref03_Mul.l0 k x0 t260 x2 x7 (wrap64 (x8 + 1))))) else (none)) else (some x7)
end
def trefoilref03_Mul.f (k : Nat) (a0 : Int) (a1 : Int) (a2 : Int) : Option (Int) := trefoilref03_Mul.l0 k a0 a1 a2 0 0
set_option maxHeartbeats 8000000 in
set_option maxRecDepth 100000 in
theorem trefoilref03_Mul.calls (k : Nat) (a0 : Int) (a1 : Int) (a2 : Int) (r : Int) (w : World) (h : trefoilref03_Mul.f k a0 a1 a2 = some r) :
  Calls Try.prog 74 #[.int .i64 a0, .int .u64 a1, .int .u64 a2] w fun e w' => e = .returned (.int .u64 r) ∧ Drawn0 w w' := by
 have H : (trefoilref03_Mul.l0 k a0 a1 a2 0 0) = some r := h
 clear h
 have H' := Aside0.mk H
 clear H
 go_enter Try.func74, Try.ntmps74
 go_wp2
 go_loopg [1, 7, 8] k (fun kq v1 v7 v8 w' => ∃ (x1_1 : Int) (x7_1 : Int) (x8_1 : Int), v1 = .int .u64 x1_1 ∧ v7 = .int .u64 x7_1 ∧ v8 = .int .i64 x8_1 ∧ Aside0 (trefoilref03_Mul.l0 kq a0 x1_1 a2 x7_1 x8_1 = some r) ∧ Aside0 (kq ≤ k) ∧ Drawn0 w w')
 case atStart => exact ⟨(a1), (0), (0), (zq52), (zq52), (zq52), H', ⟨Nat.le_refl _⟩, zq50⟩
 case round =>
  clear H'
  try clear p2
  obtain ⟨x1_1, x7_1, x8_1, rfl, rfl, rfl, HA, HK1, ⟨m1, rfl⟩⟩ := hrel
  cases gk with
  | zero => exact absurd HA.out (by simp [trefoilref03_Mul.l0])
  | succ k1 =>
   have H := HA.out
   clear HA
   simp only [trefoilref03_Mul.l0] at H
   have HC4 := Aside0.mk H
   clear H
   go_upto_region 3 with (fail)
   go_cut [15] (fun v15 wc => ∃ (kq : Nat) (x15_3 : Bool), v15 = .bool x15_3 ∧ Aside0 (trefoilref03_Mul.j1 kq a0 x1_1 a2 x7_1 x8_1 x15_3 = some r) ∧ Aside0 (kq ≤ k1) ∧ Drawn0 w wc)
   case first =>
    have H := HC4.out
    clear HC4
    by_cases c5 : x8_1 < 64
    ·rw [if_pos c5] at H
     have c5b0 : decide (x8_1 < 64) = true := decide_eq_true c5
     clear c5
     (first | rw [c5b0] | (simp only [i64_w, i32_w]; rw [c5b0]) | skip)
     have H' := Aside0.mk H
     clear H
     go_wp2
     go_meet
     case rel => exact ⟨_, (decide (x8_1 < a0)), (zq52), H', ⟨by have := HK1.out; first | omega | exact Nat.le_refl _⟩, zq50⟩
    ·rw [if_neg c5] at H
     have c5b0 : decide (x8_1 < 64) = false := decide_eq_false c5
     clear c5
     (first | rw [c5b0] | (simp only [i64_w, i32_w]; rw [c5b0]) | skip)
     have H' := Aside0.mk H
     clear H
     go_wp2
     go_meet
     case rel => exact ⟨_, (false), (zq52), H', ⟨by have := HK1.out; first | omega | exact Nat.le_refl _⟩, zq50⟩
   case rest =>
    clear HC4
    try clear p2
    try clear c5
    try clear c5b0
    try clear p2
    obtain ⟨kq, x15_3, rfl, HA, HJ3, ⟨mc3, rfl⟩⟩ := hcut
    cases kq with
    | zero => exact absurd HA.out (by simp [trefoilref03_Mul.j1])
    | succ kj3 =>
     have H := HA.out
     clear HA
     simp only [trefoilref03_Mul.j1] at H
     by_cases c6 : x15_3 = true
     ·subst c6
      have H1 : (if 0 ≤ (IntKind.u64.wrap (x8_1)) then (if (Int.tmod (shr .u64 a2 (IntKind.u64.wrap (x8_1))) 2) = 1 then ((trefoilref03_Add.f kj3 a0 x7_1 x1_1).bind fun t258 => ((trefoilref03_Add.f kj3 64 x1_1 x1_1).bind fun t259 => (trefoilref03_Mul.l0 kj3 a0 t259 a2 t258 (wrap64 (x8_1 + 1))))) else ((trefoilref03_Add.f kj3 64 x1_1 x1_1).bind fun t260 => (trefoilref03_Mul.l0 kj3 a0 t260 a2 x7_1 (wrap64 (x8_1 + 1))))) else (none)) = some r := by rw [if_pos rfl] at H; exact H
      clear H
      have H := H1
      clear H1
      obtain ⟨ji7, hji7⟩ : ∃ j_ : Int, (IntKind.u64.wrap (x8_1)) = j_ := ⟨_, rfl⟩
      replace H : (if 0 ≤ (ji7) then (if (Int.tmod (shr .u64 a2 (ji7)) 2) = 1 then ((trefoilref03_Add.f kj3 a0 x7_1 x1_1).bind fun t258 => ((trefoilref03_Add.f kj3 64 x1_1 x1_1).bind fun t259 => (trefoilref03_Mul.l0 kj3 a0 t259 a2 t258 (wrap64 (x8_1 + 1))))) else ((trefoilref03_Add.f kj3 64 x1_1 x1_1).bind fun t260 => (trefoilref03_Mul.l0 kj3 a0 t260 a2 x7_1 (wrap64 (x8_1 + 1))))) else (none)) = some r := by first | (rw [hji7] at H; exact H) | (simp only [hji7] at H ⊢; exact H)
      by_cases c8 : 0 ≤ (ji7)
      ·rw [if_pos c8] at H
       have c8b0 := eq_true c8
       have c8b1 : decide (0 ≤ (ji7)) = true := decide_eq_true c8
       clear c8
       obtain ⟨ji9, hji9⟩ : ∃ j_ : Int, (shr .u64 a2 (ji7)) = j_ := ⟨_, rfl⟩
       replace H : (if (Int.tmod (ji9) 2) = 1 then ((trefoilref03_Add.f kj3 a0 x7_1 x1_1).bind fun t258 => ((trefoilref03_Add.f kj3 64 x1_1 x1_1).bind fun t259 => (trefoilref03_Mul.l0 kj3 a0 t259 a2 t258 (wrap64 (x8_1 + 1))))) else ((trefoilref03_Add.f kj3 64 x1_1 x1_1).bind fun t260 => (trefoilref03_Mul.l0 kj3 a0 t260 a2 x7_1 (wrap64 (x8_1 + 1))))) = some r := by first | (rw [hji9] at H; exact H) | (simp only [hji9] at H ⊢; exact H)
       have hji9_ : (a2 / 2 ^ min (ji7).toNat 64) = ji9 := hji9
       have hji9z : (ji7) ≤ 64 → (a2 / 2 ^ (ji7).toNat) = ji9 := shr_small hji9
       by_cases c10 : (Int.tmod (ji9) 2) = 1
       ·rw [if_pos c10] at H
        have c10b0 : ((Int.tmod (ji9) 2) == 1) = true := beq_iff_eq.mpr c10
        have c10b1 : ((Int.tmod (ji9) 2) != 1) = false := bne_eq_false_iff_eq.mpr c10
        clear c10
        replace H := Option.bind_eq_some_iff.mp H
        obtain ⟨t258, A110, H⟩ := H
        replace H : ((trefoilref03_Add.f kj3 64 x1_1 x1_1).bind fun t259 => (trefoilref03_Mul.l0 kj3 a0 t259 a2 t258 (wrap64 (x8_1 + 1)))) = some r := H
        have A11 := Aside0.mk A110
        clear A110
        replace H := Option.bind_eq_some_iff.mp H
        obtain ⟨t259, A120, H⟩ := H
        replace H : (trefoilref03_Mul.l0 kj3 a0 t259 a2 t258 (wrap64 (x8_1 + 1))) = some r := H
        have A12 := Aside0.mk A120
        clear A120
        have H' := Aside0.mk H
        clear H
        go_wp2_with (first | ((with_reducible refine gate_callee (f := 29) rfl ?_); refine goesL_ (some 27) rfl rfl Try.func29 (zq56) rfl #[.int .i64 a0, .int .u64 x7_1, .int .u64 x1_1] rfl (zq33) ?_; (with_reducible refine (trefoilref03_Add.calls kj3 a0 x7_1 x1_1 t258 _ A11.out).mono ?_); rintro e w' ⟨rfl, ⟨nd, rfl⟩⟩; refine ⟨_, rfl, ?_⟩) | ((with_reducible refine gate_callee (f := 29) rfl ?_); refine goesL_ (some 30) rfl rfl Try.func29 (zq56) rfl #[.int .i64 64, .int .u64 x1_1, .int .u64 x1_1] rfl (zq33) ?_; (with_reducible refine (trefoilref03_Add.calls kj3 64 x1_1 x1_1 t259 _ A12.out).mono ?_); rintro e w' ⟨rfl, ⟨nd, rfl⟩⟩; refine ⟨_, rfl, ?_⟩))
        go_roundg kj3
        case measure => have := HK1.out; have := HJ3.out; omega
        case rel => exact ⟨(t259), (t258), (wrap64 (x8_1 + 1)), (zq52), (zq52), (zq52), H', ⟨by have := HK1.out; have := HJ3.out; omega⟩, zq50⟩
       ·rw [if_neg c10] at H
        have c10b0 : ((Int.tmod (ji9) 2) == 1) = false := beq_eq_false_iff_ne.mpr c10
        have c10b1 : ((Int.tmod (ji9) 2) != 1) = true := bne_iff_ne.mpr c10
        replace H := Option.bind_eq_some_iff.mp H
        obtain ⟨t260, A130, H⟩ := H
        replace H : (trefoilref03_Mul.l0 kj3 a0 t260 a2 x7_1 (wrap64 (x8_1 + 1))) = some r := H
        have A13 := Aside0.mk A130
        clear A130
        have H' := Aside0.mk H
        clear H
        go_wp2_with (first | ((with_reducible refine gate_callee (f := 29) rfl ?_); refine goesL_ (some 30) rfl rfl Try.func29 (zq56) rfl #[.int .i64 64, .int .u64 x1_1, .int .u64 x1_1] rfl (zq33) ?_; (with_reducible refine (trefoilref03_Add.calls kj3 64 x1_1 x1_1 t260 _ A13.out).mono ?_); rintro e w' ⟨rfl, ⟨nd, rfl⟩⟩; refine ⟨_, rfl, ?_⟩))
        go_roundg kj3
        case measure => have := HK1.out; have := HJ3.out; omega
        case rel => exact ⟨(t260), (x7_1), (wrap64 (x8_1 + 1)), (zq52), (zq52), (zq52), H', ⟨by have := HK1.out; have := HJ3.out; omega⟩, zq50⟩
      ·rw [if_neg c8] at H
       exact absurd H (by simp)
     ·replace c6 := Bool.eq_false_iff.mpr c6
      subst c6
      have H1 : (some x7_1) = some r := by rw [if_neg (show ¬ (false = true) by decide)] at H; exact H
      clear H
      have H := H1
      clear H1
      obtain rfl := Option.some.inj H
      go_wp2
      go_ret
      exact ⟨zq52, zq50⟩

/-! ### trefoilref03_Dot: function 93 -/
def trefoilref03_Dot.l0 : Nat → Int → List Int → List Int → Int → Int → Option (Int × Int)
 | 0, _, _, _, _, _ => none
 | k + 1, x0, x1, x2, x8, x9 => if x9 < (x1.length : Int) then (if 0 ≤ x9 then (if x9 < (x2.length : Int) then ((trefoilref03_Mul.f k x0 (rd x1 x9) (rd x2 x9)).bind fun t263 => ((trefoilref03_Add.f k x0 x8 t263).bind fun t264 => (trefoilref03_Dot.l0 k x0 x1 x2 t264 (wrap64 (x9 + 1))))) else (none)) else (none)) else (some (x8, 0))
def trefoilref03_Dot.f (k : Nat) (a0 : Int) (l1 : List Int) (l2 : List Int) : Option (Int × Int) := if (l1.length : Int) = (l2.length : Int) then (trefoilref03_Dot.l0 k a0 l1 l2 0 0) else (some (0, 11))
set_option maxHeartbeats 8000000 in
set_option maxRecDepth 100000 in
theorem trefoilref03_Dot.calls (k : Nat) (a0 : Int) (A1 : Option Addr) (c1 : Nat) (l1 : List Int) (A2 : Option Addr) (c2 : Nat) (l2 : List Int) (r1 : Int) (r2 : Int) (w : World) (hr1 : Kd.C (Kd.int .u64) w A1 l1.length l1) (hc1 : l1.length ≤ c1) (hr2 : Kd.C (Kd.int .u64) w A2 l2.length l2) (hc2 : l2.length ≤ c2) (h : trefoilref03_Dot.f k a0 l1 l2 = some (r1, r2)) :
  Calls Try.prog 93 #[.int .i64 a0, .slice A1 l1.length c1, .slice A2 l2.length c2] w fun e w' => e = .returned (.tuple #[.int .u64 r1, .int .i64 r2]) ∧ Drawn0 w w' := by
 have HR1 := Aside0.mk hr1
 have HC1 := Aside0.mk hc1
 clear hr1 hc1
 have HR2 := Aside0.mk hr2
 have HC2 := Aside0.mk hc2
 clear hr2 hc2
 have H : (if (l1.length : Int) = (l2.length : Int) then (trefoilref03_Dot.l0 k a0 l1 l2 0 0) else (some (0, 11))) = some (r1, r2) := h
 clear h
 by_cases c4 : (l1.length : Int) = (l2.length : Int)
 ·rw [if_pos c4] at H
  have c4b0 : ((l1.length : Int) == (l2.length : Int)) = true := beq_iff_eq.mpr c4
  have c4b1 : ((l1.length : Int) != (l2.length : Int)) = false := bne_eq_false_iff_eq.mpr c4
  have c4b2 : (l1.length == l2.length) = true := by first | simpa using c4 | (simp at c4 ⊢; omega)
  clear c4
  have H' := Aside0.mk H
  clear H
  go_enter Try.func93, Try.ntmps93
  go_wp2
  repeat (go_quiet (fail); try go_wp2)
  go_loopg [8, 9] k (fun kq v8 v9 w' => ∃ (x8_1 : Int) (x9_1 : Int), v8 = .int .u64 x8_1 ∧ v9 = .int .i64 x9_1 ∧ Aside0 (trefoilref03_Dot.l0 kq a0 l1 l2 x8_1 x9_1 = some (r1, r2)) ∧ Aside0 (kq ≤ k) ∧ Drawn0 w w')
  case atStart => exact ⟨(0), (0), (zq52), (zq52), H', ⟨Nat.le_refl _⟩, zq50⟩
  case round =>
   clear H'
   try clear c1
   try clear c2
   try clear p2
   try clear c4
   try clear c4b0
   try clear c4b1
   try clear c4b2
   obtain ⟨x8_1, x9_1, rfl, rfl, HA, HK1, ⟨m1, rfl⟩⟩ := hrel
   cases gk with
   | zero => exact absurd HA.out (by simp [trefoilref03_Dot.l0])
   | succ k1 =>
    have H := HA.out
    clear HA
    simp only [trefoilref03_Dot.l0] at H
    by_cases c5 : x9_1 < (l1.length : Int)
    ·rw [if_pos c5] at H
     have c5b0 : decide (x9_1 < (l1.length : Int)) = true := decide_eq_true c5
     clear c5
     by_cases c6 : 0 ≤ x9_1
     ·rw [if_pos c6] at H
      have c6b0 : decide (0 ≤ x9_1) = true := decide_eq_true c6
      clear c6
      by_cases c7 : x9_1 < (l2.length : Int)
      ·rw [if_pos c7] at H
       have c7b0 : decide (x9_1 < (l2.length : Int)) = true := decide_eq_true c7
       clear c7
       replace H := Option.bind_eq_some_iff.mp H
       obtain ⟨t263, A80, H⟩ := H
       replace H : ((trefoilref03_Add.f k1 a0 x8_1 t263).bind fun t264 => (trefoilref03_Dot.l0 k1 a0 l1 l2 t264 (wrap64 (x9_1 + 1)))) = some (r1, r2) := H
       have A8 := Aside0.mk A80
       clear A80
       replace H := Option.bind_eq_some_iff.mp H
       obtain ⟨t264, A90, H⟩ := H
       replace H : (trefoilref03_Dot.l0 k1 a0 l1 l2 t264 (wrap64 (x9_1 + 1))) = some (r1, r2) := H
       have A9 := Aside0.mk A90
       clear A90
       have H' := Aside0.mk H
       clear H
       have p261 : 0 ≤ (x9_1 : Int) := of_decide_eq_true (zq51)
       have q261 : x9_1 < (l1.length : Int) := of_decide_eq_true (zq51)
       obtain ⟨ad261, e261, hx261_0⟩ := Kd.at_int HR1.out x9_1 p261 q261
       cases e261
       replace p261 := eq_true p261
       replace q261 := eq_true q261
       have p262 : 0 ≤ (x9_1 : Int) := of_decide_eq_true (zq51)
       have q262 : x9_1 < (l2.length : Int) := of_decide_eq_true (zq51)
       obtain ⟨ad262, e262, hx262_0⟩ := Kd.at_int HR2.out x9_1 p262 q262
       cases e262
       replace p262 := eq_true p262
       replace q262 := eq_true q262
       go_wp2_with (first | (go_at_call 74; (with_reducible refine (trefoilref03_Mul.calls k1 a0 (rd l1 x9_1) (rd l2 x9_1) t263 _ A8.out).mono ?_); rintro e w' ⟨rfl, ⟨nd, rfl⟩⟩; (try first | exact ⟨rfl, _, World.drewN_drewN _ _ _⟩ | exact ⟨rfl, _, Eq.trans (World.drewN_drewN _ _ _) (congrArg (World.drewN _) (Nat.add_assoc _ _ _))⟩)) | (go_at_call 29; (with_reducible refine (trefoilref03_Add.calls k1 a0 x8_1 t263 t264 _ A9.out).mono ?_); rintro e w' ⟨rfl, ⟨nd, rfl⟩⟩; (try first | exact ⟨rfl, _, World.drewN_drewN _ _ _⟩ | exact ⟨rfl, _, Eq.trans (World.drewN_drewN _ _ _) (congrArg (World.drewN _) (Nat.add_assoc _ _ _))⟩)))
       repeat (go_quiet (first | (go_at_call 74; (with_reducible refine (trefoilref03_Mul.calls k1 a0 (rd l1 x9_1) (rd l2 x9_1) t263 _ A8.out).mono ?_); rintro e w' ⟨rfl, ⟨nd, rfl⟩⟩; (try first | exact ⟨rfl, _, World.drewN_drewN _ _ _⟩ | exact ⟨rfl, _, Eq.trans (World.drewN_drewN _ _ _) (congrArg (World.drewN _) (Nat.add_assoc _ _ _))⟩)) | (go_at_call 29; (with_reducible refine (trefoilref03_Add.calls k1 a0 x8_1 t263 t264 _ A9.out).mono ?_); rintro e w' ⟨rfl, ⟨nd, rfl⟩⟩; (try first | exact ⟨rfl, _, World.drewN_drewN _ _ _⟩ | exact ⟨rfl, _, Eq.trans (World.drewN_drewN _ _ _) (congrArg (World.drewN _) (Nat.add_assoc _ _ _))⟩))); try go_wp2_with (first | (go_at_call 74; (with_reducible refine (trefoilref03_Mul.calls k1 a0 (rd l1 x9_1) (rd l2 x9_1) t263 _ A8.out).mono ?_); rintro e w' ⟨rfl, ⟨nd, rfl⟩⟩; (try first | exact ⟨rfl, _, World.drewN_drewN _ _ _⟩ | exact ⟨rfl, _, Eq.trans (World.drewN_drewN _ _ _) (congrArg (World.drewN _) (Nat.add_assoc _ _ _))⟩)) | (go_at_call 29; (with_reducible refine (trefoilref03_Add.calls k1 a0 x8_1 t263 t264 _ A9.out).mono ?_); rintro e w' ⟨rfl, ⟨nd, rfl⟩⟩; (try first | exact ⟨rfl, _, World.drewN_drewN _ _ _⟩ | exact ⟨rfl, _, Eq.trans (World.drewN_drewN _ _ _) (congrArg (World.drewN _) (Nat.add_assoc _ _ _))⟩))))
       go_roundg k1
       case measure => have := HK1.out; omega
       case rel => exact ⟨(t264), (wrap64 (x9_1 + 1)), (zq52), (zq52), H', ⟨zq55⟩, zq50⟩
      ·rw [if_neg c7] at H
       exact absurd H (by simp)
     ·rw [if_neg c6] at H
      exact absurd H (by simp)
    ·rw [if_neg c5] at H
     have c5b0 : decide (x9_1 < (l1.length : Int)) = false := decide_eq_false c5
     clear c5
     simp only [Option.some.injEq, Prod.mk.injEq] at H
     obtain ⟨rfl, rfl⟩ := H
     go_wp2
     repeat (go_quiet (fail); try go_wp2)
     go_ret2
     exact ⟨zq52, zq50⟩
 ·rw [if_neg c4] at H
  have c4b0 : ((l1.length : Int) == (l2.length : Int)) = false := beq_eq_false_iff_ne.mpr c4
  have c4b1 : ((l1.length : Int) != (l2.length : Int)) = true := bne_iff_ne.mpr c4
  have c4b2 : (l1.length == l2.length) = false := by first | simpa using c4 | (simp at c4 ⊢; omega)
  simp only [Option.some.injEq, Prod.mk.injEq] at H
  obtain ⟨rfl, rfl⟩ := H
  go_enter Try.func93, Try.ntmps93
  go_wp2
  repeat (go_quiet (fail); try go_wp2)
  go_ret2
  exact ⟨zq52, zq50⟩

/-! ### trefoilref03_MatMul: function 56 -/
mutual
def trefoilref03_MatMul.j0 : Nat → Int → Int → Int → Int → List Int → List Int → Bool → Option (List Int × Int)
 | 0, _, _, _, _, _, _, _ => none
 | k + 1, x0, x1, x2, x3, x4, x5, x51 => if x51 = true then (some (([] : List Int), 11)) else (trefoilref03_MatMul.l0 k x0 x1 x2 x3 x4 x5 ([] : List Int) 0)
def trefoilref03_MatMul.l0 : Nat → Int → Int → Int → Int → List Int → List Int → List Int → Int → Option (List Int × Int)
 | 0, _, _, _, _, _, _, _, _ => none
 | k + 1, x0, x1, x2, x3, x4, x5, x14, x15 => if x15 < x1 then (trefoilref03_MatMul.l1 k x0 x1 x2 x3 x4 x5 x14 x15 0) else (some (x14, 0))
def trefoilref03_MatMul.l1 : Nat → Int → Int → Int → Int → List Int → List Int → List Int → Int → Int → Option (List Int × Int)
 | 0, _, _, _, _, _, _, _, _, _ => none
 | k + 1, x0, x1, x2, x3, x4, x5, x14, x15, x16 => if x16 < x3 then (trefoilref03_MatMul.l2 k x0 x1 x2 x3 x4 x5 x14 x15 x16 ([] : List Int) 0) else (trefoilref03_MatMul.l0 k x0 x1 x2 x3 x4 x5 x14 (wrap64 (x15 + 1)))
def trefoilref03_MatMul.l2 : Nat → Int → Int → Int → Int → List Int → List Int → List Int → Int → Int → List Int → Int → Option (List Int × Int)
 | 0, _, _, _, _, _, _, _, _, _, _, _ => none
 | k + 1, x0, x1, x2, x3, x4, x5, x14, x15, x16, x17, x18 => if x18 < x2 then (if 0 ≤ (wrap64 ((wrap64 (x18 * x3)) + x16)) then (if (wrap64 ((wrap64 (x18 * x3)) + x16)) < (x5.length : Int) then (if x17.length < 17592186044416 then (trefoilref03_MatMul.l2 k x0 x1 x2 x3 x4 x5 x14 x15 x16 (x17 ++ [rd x5 (wrap64 ((wrap64 (x18 * x3)) + x16))]) (wrap64 (x18 + 1))) else (none)) else (none)) else (none)) else (if 0 ≤ (wrap64 (x15 * x2)) then (if (wrap64 (x15 * x2)) ≤ (wrap64 ((wrap64 (x15 * x2)) + x2)) then (if (wrap64 ((wrap64 (x15 * x2)) + x2)) ≤ (x4.length : Int) then ((trefoilref03_Dot.f k x0 ((x4.take ((wrap64 ((wrap64 (x15 * x2)) + x2)) : Int).toNat).drop ((wrap64 (x15 * x2)) : Int).toNat) x17).bind fun bt273 => (if x14.length < 17592186044416 then (trefoilref03_MatMul.l1 k x0 x1 x2 x3 x4 x5 (x14 ++ [bt273.1]) x15 (wrap64 (x16 + 1))) else (none))) else (none)) else (none)) else (none))
end
def trefoilref03_MatMul.f (k : Nat) (a0 : Int) (a1 : Int) (a2 : Int) (a3 : Int) (l4 : List Int) (l5 : List Int) : Option (List Int × Int) := (trefoilref03_Good.f a0).bind fun t265 => (if t265 = true then ((trefoilref03_Sized.f a1 a2).bind fun t266 => (if t266 = true then ((trefoilref03_Sized.f a2 a3).bind fun t267 => (if t267 = true then (if (l4.length : Int) = (wrap64 (a1 * a2)) then (trefoilref03_MatMul.j0 k a0 a1 a2 a3 l4 l5 ((l5.length : Int) != (wrap64 (a2 * a3)))) else (trefoilref03_MatMul.j0 k a0 a1 a2 a3 l4 l5 true)) else (trefoilref03_MatMul.j0 k a0 a1 a2 a3 l4 l5 true))) else (trefoilref03_MatMul.j0 k a0 a1 a2 a3 l4 l5 true))) else (trefoilref03_MatMul.j0 k a0 a1 a2 a3 l4 l5 true))
set_option maxHeartbeats 8000000 in
set_option maxRecDepth 100000 in
theorem trefoilref03_MatMul.calls (k : Nat) (a0 : Int) (a1 : Int) (a2 : Int) (a3 : Int) (A4 : Option Addr) (c4 : Nat) (l4 : List Int) (A5 : Option Addr) (c5 : Nat) (l5 : List Int) (r1 : List Int) (r2 : Int) (w : World) (hr4 : Kd.C (Kd.int .u64) w A4 l4.length l4) (hc4 : l4.length ≤ c4) (hr5 : Kd.C (Kd.int .u64) w A5 l5.length l5) (hc5 : l5.length ≤ c5) (h : trefoilref03_MatMul.f k a0 a1 a2 a3 l4 l5 = some (r1, r2)) :
  Calls Try.prog 56 #[.int .i64 a0, .int .i64 a1, .int .i64 a2, .int .i64 a3, .slice A4 l4.length c4, .slice A5 l5.length c5] w fun e w' => ∃ v0_ : Value, e = .returned (.tuple #[v0_, .int .i64 r2]) ∧ Kd.R (Kd.int .u64) 35 w' w.heap.size (fun _ => True) v0_ r1 ∧ Below w.heap.size w w' := by
 have HR4 := Aside0.mk hr4
 have HC4 := Aside0.mk hc4
 clear hr4 hc4
 have HR5 := Aside0.mk hr5
 have HC5 := Aside0.mk hc5
 clear hr5 hc5
 have HB := Aside0.mk (Below.refl w.heap.size w)
 have H : ((trefoilref03_Good.f a0).bind fun t265 => (if t265 = true then ((trefoilref03_Sized.f a1 a2).bind fun t266 => (if t266 = true then ((trefoilref03_Sized.f a2 a3).bind fun t267 => (if t267 = true then (if (l4.length : Int) = (wrap64 (a1 * a2)) then (trefoilref03_MatMul.j0 k a0 a1 a2 a3 l4 l5 ((l5.length : Int) != (wrap64 (a2 * a3)))) else (trefoilref03_MatMul.j0 k a0 a1 a2 a3 l4 l5 true)) else (trefoilref03_MatMul.j0 k a0 a1 a2 a3 l4 l5 true))) else (trefoilref03_MatMul.j0 k a0 a1 a2 a3 l4 l5 true))) else (trefoilref03_MatMul.j0 k a0 a1 a2 a3 l4 l5 true))) = some (r1, r2) := h
 clear h
 have HC7 := Aside0.mk H
 clear H
 go_enter Try.func56, Try.ntmps56
 go_upto_region 1 with (fail)
 go_cut [51] (fun v51 wc => ∃ (kq : Nat) (x51_6 : Bool), v51 = .bool x51_6 ∧ Aside0 (trefoilref03_MatMul.j0 kq a0 a1 a2 a3 l4 l5 x51_6 = some (r1, r2)) ∧ Aside0 (kq ≤ k) ∧ Aside0 (Below w.heap.size w wc))
 case first =>
  have H := HC7.out
  clear HC7
  replace H := Option.bind_eq_some_iff.mp H
  obtain ⟨t265, A80, H⟩ := H
  replace H : (if t265 = true then ((trefoilref03_Sized.f a1 a2).bind fun t266 => (if t266 = true then ((trefoilref03_Sized.f a2 a3).bind fun t267 => (if t267 = true then (if (l4.length : Int) = (wrap64 (a1 * a2)) then (trefoilref03_MatMul.j0 k a0 a1 a2 a3 l4 l5 ((l5.length : Int) != (wrap64 (a2 * a3)))) else (trefoilref03_MatMul.j0 k a0 a1 a2 a3 l4 l5 true)) else (trefoilref03_MatMul.j0 k a0 a1 a2 a3 l4 l5 true))) else (trefoilref03_MatMul.j0 k a0 a1 a2 a3 l4 l5 true))) else (trefoilref03_MatMul.j0 k a0 a1 a2 a3 l4 l5 true)) = some (r1, r2) := H
  have A8 := Aside0.mk A80
  clear A80
  by_cases c9 : t265 = true
  ·subst c9
   have H1 : ((trefoilref03_Sized.f a1 a2).bind fun t266 => (if t266 = true then ((trefoilref03_Sized.f a2 a3).bind fun t267 => (if t267 = true then (if (l4.length : Int) = (wrap64 (a1 * a2)) then (trefoilref03_MatMul.j0 k a0 a1 a2 a3 l4 l5 ((l5.length : Int) != (wrap64 (a2 * a3)))) else (trefoilref03_MatMul.j0 k a0 a1 a2 a3 l4 l5 true)) else (trefoilref03_MatMul.j0 k a0 a1 a2 a3 l4 l5 true))) else (trefoilref03_MatMul.j0 k a0 a1 a2 a3 l4 l5 true))) = some (r1, r2) := by rw [if_pos rfl] at H; exact H
   clear H
   have H := H1
   clear H1
   replace H := Option.bind_eq_some_iff.mp H
   obtain ⟨t266, A100, H⟩ := H
   replace H : (if t266 = true then ((trefoilref03_Sized.f a2 a3).bind fun t267 => (if t267 = true then (if (l4.length : Int) = (wrap64 (a1 * a2)) then (trefoilref03_MatMul.j0 k a0 a1 a2 a3 l4 l5 ((l5.length : Int) != (wrap64 (a2 * a3)))) else (trefoilref03_MatMul.j0 k a0 a1 a2 a3 l4 l5 true)) else (trefoilref03_MatMul.j0 k a0 a1 a2 a3 l4 l5 true))) else (trefoilref03_MatMul.j0 k a0 a1 a2 a3 l4 l5 true)) = some (r1, r2) := H
   have A10 := Aside0.mk A100
   clear A100
   by_cases c11 : t266 = true
   ·subst c11
    have H1 : ((trefoilref03_Sized.f a2 a3).bind fun t267 => (if t267 = true then (if (l4.length : Int) = (wrap64 (a1 * a2)) then (trefoilref03_MatMul.j0 k a0 a1 a2 a3 l4 l5 ((l5.length : Int) != (wrap64 (a2 * a3)))) else (trefoilref03_MatMul.j0 k a0 a1 a2 a3 l4 l5 true)) else (trefoilref03_MatMul.j0 k a0 a1 a2 a3 l4 l5 true))) = some (r1, r2) := by rw [if_pos rfl] at H; exact H
    clear H
    have H := H1
    clear H1
    replace H := Option.bind_eq_some_iff.mp H
    obtain ⟨t267, A120, H⟩ := H
    replace H : (if t267 = true then (if (l4.length : Int) = (wrap64 (a1 * a2)) then (trefoilref03_MatMul.j0 k a0 a1 a2 a3 l4 l5 ((l5.length : Int) != (wrap64 (a2 * a3)))) else (trefoilref03_MatMul.j0 k a0 a1 a2 a3 l4 l5 true)) else (trefoilref03_MatMul.j0 k a0 a1 a2 a3 l4 l5 true)) = some (r1, r2) := H
    have A12 := Aside0.mk A120
    clear A120
    by_cases c13 : t267 = true
    ·subst c13
     have H1 : (if (l4.length : Int) = (wrap64 (a1 * a2)) then (trefoilref03_MatMul.j0 k a0 a1 a2 a3 l4 l5 ((l5.length : Int) != (wrap64 (a2 * a3)))) else (trefoilref03_MatMul.j0 k a0 a1 a2 a3 l4 l5 true)) = some (r1, r2) := by rw [if_pos rfl] at H; exact H
     clear H
     have H := H1
     clear H1
     by_cases c14 : (l4.length : Int) = (wrap64 (a1 * a2))
     ·rw [if_pos c14] at H
      have c14b0 : ((l4.length : Int) == (wrap64 (a1 * a2))) = true := beq_iff_eq.mpr c14
      have c14b1 : ((l4.length : Int) != (wrap64 (a1 * a2))) = false := bne_eq_false_iff_eq.mpr c14
      clear c14
      (first | rw [c14b0] | (simp only [i64_w, i32_w]; rw [c14b0]) | skip)
      have H' := Aside0.mk H
      clear H
      go_wp2_with (first | ((with_reducible refine gate_callee (f := 91) rfl ?_); refine goesL_ (some 22) rfl rfl Try.func91 (zq56) rfl #[.int .i64 a0] rfl (zq33) ?_; (with_reducible refine (trefoilref03_Good.calls a0 true _ A8.out).mono ?_); rintro e w' ⟨rfl, ⟨nd, rfl⟩⟩; refine ⟨_, rfl, ?_⟩) | (go_at_call 92; (with_reducible refine (trefoilref03_Sized.calls a1 a2 true _ A10.out).mono ?_); rintro e w' ⟨rfl, ⟨nd, rfl⟩⟩) | (go_at_call 92; (with_reducible refine (trefoilref03_Sized.calls a2 a3 true _ A12.out).mono ?_); rintro e w' ⟨rfl, ⟨nd, rfl⟩⟩))
      go_meet
      case rel => exact ⟨_, (((l5.length : Int) != (wrap64 (a2 * a3)))), (zq52), H', ⟨zq53⟩, ⟨HB.bl⟩⟩
     ·rw [if_neg c14] at H
      have c14b0 : ((l4.length : Int) == (wrap64 (a1 * a2))) = false := beq_eq_false_iff_ne.mpr c14
      have c14b1 : ((l4.length : Int) != (wrap64 (a1 * a2))) = true := bne_iff_ne.mpr c14
      (first | rw [c14b0] | (simp only [i64_w, i32_w]; rw [c14b0]) | skip)
      have H' := Aside0.mk H
      clear H
      go_wp2_with (first | ((with_reducible refine gate_callee (f := 91) rfl ?_); refine goesL_ (some 22) rfl rfl Try.func91 (zq56) rfl #[.int .i64 a0] rfl (zq33) ?_; (with_reducible refine (trefoilref03_Good.calls a0 true _ A8.out).mono ?_); rintro e w' ⟨rfl, ⟨nd, rfl⟩⟩; refine ⟨_, rfl, ?_⟩) | (go_at_call 92; (with_reducible refine (trefoilref03_Sized.calls a1 a2 true _ A10.out).mono ?_); rintro e w' ⟨rfl, ⟨nd, rfl⟩⟩) | (go_at_call 92; (with_reducible refine (trefoilref03_Sized.calls a2 a3 true _ A12.out).mono ?_); rintro e w' ⟨rfl, ⟨nd, rfl⟩⟩))
      go_meet
      case rel => exact ⟨_, (true), (zq52), H', ⟨zq53⟩, ⟨HB.bl⟩⟩
    ·replace c13 := Bool.eq_false_iff.mpr c13
     subst c13
     have H1 : (trefoilref03_MatMul.j0 k a0 a1 a2 a3 l4 l5 true) = some (r1, r2) := by rw [if_neg (show ¬ (false = true) by decide)] at H; exact H
     clear H
     have H := H1
     clear H1
     have H' := Aside0.mk H
     clear H
     go_wp2_with (first | ((with_reducible refine gate_callee (f := 91) rfl ?_); refine goesL_ (some 22) rfl rfl Try.func91 (zq56) rfl #[.int .i64 a0] rfl (zq33) ?_; (with_reducible refine (trefoilref03_Good.calls a0 true _ A8.out).mono ?_); rintro e w' ⟨rfl, ⟨nd, rfl⟩⟩; refine ⟨_, rfl, ?_⟩) | (go_at_call 92; (with_reducible refine (trefoilref03_Sized.calls a1 a2 true _ A10.out).mono ?_); rintro e w' ⟨rfl, ⟨nd, rfl⟩⟩) | (go_at_call 92; (with_reducible refine (trefoilref03_Sized.calls a2 a3 false _ A12.out).mono ?_); rintro e w' ⟨rfl, ⟨nd, rfl⟩⟩))
     go_meet
     case rel => exact ⟨_, (true), (zq52), H', ⟨zq53⟩, ⟨HB.bl⟩⟩
   ·replace c11 := Bool.eq_false_iff.mpr c11
    subst c11
    have H1 : (trefoilref03_MatMul.j0 k a0 a1 a2 a3 l4 l5 true) = some (r1, r2) := by rw [if_neg (show ¬ (false = true) by decide)] at H; exact H
    clear H
    have H := H1
    clear H1
    have H' := Aside0.mk H
    clear H
    go_wp2_with (first | ((with_reducible refine gate_callee (f := 91) rfl ?_); refine goesL_ (some 22) rfl rfl Try.func91 (zq56) rfl #[.int .i64 a0] rfl (zq33) ?_; (with_reducible refine (trefoilref03_Good.calls a0 true _ A8.out).mono ?_); rintro e w' ⟨rfl, ⟨nd, rfl⟩⟩; refine ⟨_, rfl, ?_⟩) | (go_at_call 92; (with_reducible refine (trefoilref03_Sized.calls a1 a2 false _ A10.out).mono ?_); rintro e w' ⟨rfl, ⟨nd, rfl⟩⟩))
    go_meet
    case rel => exact ⟨_, (true), (zq52), H', ⟨zq53⟩, ⟨HB.bl⟩⟩
  ·replace c9 := Bool.eq_false_iff.mpr c9
   subst c9
   have H1 : (trefoilref03_MatMul.j0 k a0 a1 a2 a3 l4 l5 true) = some (r1, r2) := by rw [if_neg (show ¬ (false = true) by decide)] at H; exact H
   clear H
   have H := H1
   clear H1
   have H' := Aside0.mk H
   clear H
   go_wp2_with (first | ((with_reducible refine gate_callee (f := 91) rfl ?_); refine goesL_ (some 22) rfl rfl Try.func91 (zq56) rfl #[.int .i64 a0] rfl (zq33) ?_; (with_reducible refine (trefoilref03_Good.calls a0 false _ A8.out).mono ?_); rintro e w' ⟨rfl, ⟨nd, rfl⟩⟩; refine ⟨_, rfl, ?_⟩))
   go_meet
   case rel => exact ⟨_, (true), (zq52), H', ⟨zq53⟩, ⟨HB.bl⟩⟩
 case rest =>
  clear HC7
  try clear c1
  try clear p2
  try clear c4
  try clear c5
  try clear p6
  try clear c9
  try clear c11
  try clear c13
  try clear c14
  try clear c14b0
  try clear c14b1
  obtain ⟨kq, x51_6, rfl, HA, HJ6, HB⟩ := hcut
  cases kq with
  | zero => exact absurd HA.out (by simp [trefoilref03_MatMul.j0])
  | succ kj6 =>
   have H := HA.out
   clear HA
   simp only [trefoilref03_MatMul.j0] at H
   by_cases c15 : x51_6 = true
   ·subst c15
    have H1 : (some (([] : List Int), 11)) = some (r1, r2) := by rw [if_pos rfl] at H; exact H
    clear H
    have H := H1
    clear H1
    simp only [Option.some.injEq, Prod.mk.injEq] at H
    obtain ⟨rfl, rfl⟩ := H
    go_wp2
    go_ret2
    exact ⟨_, zq49, zq32, HB.bl⟩
   ·replace c15 := Bool.eq_false_iff.mpr c15
    subst c15
    have H1 : (trefoilref03_MatMul.l0 kj6 a0 a1 a2 a3 l4 l5 ([] : List Int) 0) = some (r1, r2) := by rw [if_neg (show ¬ (false = true) by decide)] at H; exact H
    clear H
    have H := H1
    clear H1
    have H' := Aside0.mk H
    clear H
    go_wp2
    go_loopg [14, 15] kj6 (fun kq v14 v15 w' => ∃ (x14_2 : List Int) (x15_2 : Int), v15 = .int .i64 x15_2 ∧ Aside0 (trefoilref03_MatMul.l0 kq a0 a1 a2 a3 l4 l5 x14_2 x15_2 = some (r1, r2)) ∧ Aside0 (kq ≤ kj6) ∧ Aside0 (Kd.R (Kd.int .u64) 35 w' w.heap.size (fun _ => True) v14 x14_2) ∧ Aside0 (Below w.heap.size w w'))
    case atStart => exact ⟨(([] : List Int)), (0), (zq52), H', ⟨Nat.le_refl _⟩, ⟨zq32⟩, ⟨HB.bl⟩⟩
    case round =>
     clear H'
     try clear c1
     try clear p2
     try clear c4
     try clear c5
     try clear p6
     try clear c9
     try clear c11
     try clear c13
     try clear c14
     try clear c14b0
     try clear c14b1
     try clear c15
     try clear p2
     try clear p6
     obtain ⟨x14_2, x15_2, rfl, HA, HK2, HO_14, HB⟩ := hrel
     cases gk with
     | zero => exact absurd HA.out (by simp [trefoilref03_MatMul.l0])
     | succ k2 =>
      have H := HA.out
      clear HA
      simp only [trefoilref03_MatMul.l0] at H
      by_cases c16 : x15_2 < a1
      ·rw [if_pos c16] at H
       have c16b0 : decide (x15_2 < a1) = true := decide_eq_true c16
       clear c16
       have H' := Aside0.mk H
       clear H
       go_wp2
       go_loopg [14, 16] k2 (fun kq v14 v16 w' => ∃ (x14_3 : List Int) (x16_3 : Int), v16 = .int .i64 x16_3 ∧ Aside0 (trefoilref03_MatMul.l1 kq a0 a1 a2 a3 l4 l5 x14_3 x15_2 x16_3 = some (r1, r2)) ∧ Aside0 (kq ≤ k2) ∧ Aside0 (Kd.R (Kd.int .u64) 35 w' w.heap.size (fun _ => True) v14 x14_3) ∧ Aside0 (Below w.heap.size w w'))
       case atStart => exact ⟨(x14_2), (0), (zq52), H', ⟨Nat.le_refl _⟩, ⟨HO_14.r⟩, ⟨HB.bl⟩⟩
       case round =>
        clear H'
        try clear c1
        try clear p2
        try clear c4
        try clear c5
        try clear p6
        try clear c9
        try clear c11
        try clear c13
        try clear c14
        try clear c14b0
        try clear c14b1
        try clear c15
        try clear c16
        try clear c16b0
        try clear p2
        try clear p6
        obtain ⟨x14_3, x16_3, rfl, HA, HK3, HO_14, HB⟩ := hrel
        cases gk with
        | zero => exact absurd HA.out (by simp [trefoilref03_MatMul.l1])
        | succ k3 =>
         have H := HA.out
         clear HA
         simp only [trefoilref03_MatMul.l1] at H
         by_cases c17 : x16_3 < a3
         ·rw [if_pos c17] at H
          have c17b0 : decide (x16_3 < a3) = true := decide_eq_true c17
          clear c17
          have H' := Aside0.mk H
          clear H
          go_wp2
          go_loopg [17, 18] k3 (fun kq v17 v18 w' => ∃ (x17_4 : List Int) (x18_4 : Int), v18 = .int .i64 x18_4 ∧ Aside0 (trefoilref03_MatMul.l2 kq a0 a1 a2 a3 l4 l5 x14_3 x15_2 x16_3 x17_4 x18_4 = some (r1, r2)) ∧ Aside0 (kq ≤ k3) ∧ Aside0 (Kd.R (Kd.int .u64) 35 w' w.heap.size (fun k_ => some k_ ≠ (v17 : Value).ownBlock) u14 x14_3) ∧ Aside0 (Kd.R (Kd.int .u64) 35 w' w.heap.size (fun k_ => some k_ ≠ (u14 : Value).ownBlock) v17 x17_4) ∧ Aside0 (Below w.heap.size w w'))
          case atStart => exact ⟨(([] : List Int)), (0), (zq52), H', ⟨Nat.le_refl _⟩, ⟨by (with_reducible repeat (first | apply Kd.R_alloc | apply Kd.R_drewN | apply Kd.R_drew)); exact Kd.R_mono HO_14.out (fun _ hk => (by simp [Value.ownBlock]))⟩, ⟨zq32⟩, ⟨HB.bl⟩⟩
          case round =>
           clear H'
           try clear c1
           try clear p2
           try clear c4
           try clear c5
           try clear p6
           try clear c9
           try clear c11
           try clear c13
           try clear c14
           try clear c14b0
           try clear c14b1
           try clear c15
           try clear c16
           try clear c16b0
           try clear c17
           try clear c17b0
           try clear p2
           try clear p6
           obtain ⟨x17_4, x18_4, rfl, HA, HK4, HO_14, HO_17, HB⟩ := hrel
           cases gk with
           | zero => exact absurd HA.out (by simp [trefoilref03_MatMul.l2])
           | succ k4 =>
            have H := HA.out
            clear HA
            simp only [trefoilref03_MatMul.l2] at H
            by_cases c18 : x18_4 < a2
            ·rw [if_pos c18] at H
             have c18b0 : decide (x18_4 < a2) = true := decide_eq_true c18
             clear c18
             obtain ⟨ji19, hji19⟩ : ∃ j_ : Int, (wrap64 ((wrap64 (x18_4 * a3)) + x16_3)) = j_ := ⟨_, rfl⟩
             replace H : (if 0 ≤ (ji19) then (if (ji19) < (l5.length : Int) then (if x17_4.length < 17592186044416 then (trefoilref03_MatMul.l2 k4 a0 a1 a2 a3 l4 l5 x14_3 x15_2 x16_3 (x17_4 ++ [rd l5 (ji19)]) (wrap64 (x18_4 + 1))) else (none)) else (none)) else (none)) = some (r1, r2) := by first | (rw [hji19] at H; exact H) | (simp only [hji19] at H ⊢; exact H)
             have hji19w : (IntKind.i64.wrap ((wrap64 (x18_4 * a3)) + x16_3)) = ji19 := (i64_w _).trans hji19
             by_cases c20 : 0 ≤ (ji19)
             ·rw [if_pos c20] at H
              have c20b0 : decide (0 ≤ (ji19)) = true := decide_eq_true c20
              clear c20
              by_cases c21 : (ji19) < (l5.length : Int)
              ·rw [if_pos c21] at H
               have c21b0 : decide ((ji19) < (l5.length : Int)) = true := decide_eq_true c21
               clear c21
               by_cases c22 : x17_4.length < 17592186044416
               ·rw [if_pos c22] at H
                have LMc22 := Aside0.mk c22
                clear c22
                obtain ⟨y269, hy269⟩ : ∃ y_ : List Int, y_ = (x17_4 ++ [rd l5 (ji19)]) := ⟨_, rfl⟩
                replace H : (trefoilref03_MatMul.l2 k4 a0 a1 a2 a3 l4 l5 x14_3 x15_2 x16_3 y269 (wrap64 (x18_4 + 1))) = some (r1, r2) := by first | (rw [hy269]; with_reducible exact H) | (have H2_ := (Option.bind_some _ _).symm.trans H; rw [hy269]; with_reducible exact H2_) | (have H2_ := (Option.bind_some _ _).symm.trans H; with_reducible exact H2_) | with_reducible exact H | (rw [hy269]; exact H) | exact H
                have Ny269 := Aside0.mk hy269
                clear hy269
                have H' := Aside0.mk H
                clear H
                have p268 : 0 ≤ ((ji19) : Int) := of_decide_eq_true (zq51)
                have q268 : (ji19) < (l5.length : Int) := of_decide_eq_true (zq51)
                obtain ⟨ad268, e268, hx268_0⟩ := Kd.at_int HR5.out (ji19) p268 q268
                cases e268
                replace hx268_0 := (HB.out.cell (World.block_lt_of_cell? w _ hx268_0)).trans hx268_0
                replace p268 := eq_true p268
                replace q268 := eq_true q268
                go_wp2_with (first | ((with_reducible refine gate_builtin (b := .append) (xs := #[.tmp 67, .tmp 76]) rfl ?_); (try (refine gate_guard (by rfl) ?_; dsimp only)); at_builtin; refine Kd.R_append (Kd.int .u64) (w0 := w) w.heap.size rfl (.tmp 67) (.tmp 76) 24 35 (.int .u64 0) 8 rfl Try.underlying24 info35 rfl (by decide) (by omega) u17 x17_4 (rd l5 (ji19)) [.int .u64 (rd l5 (ji19))] (fun k_ => some k_ ≠ (u14 : Value).ownBlock) (fun _ => False) rfl rfl ?aP (fun _ hk => hk.elim) ?aF ?aO ?aB ?aS ?aL ?_; (case aP => exact rfl); (case aB => exact HB.bl); (case aF => exact (fun k_ hk => Kd.fresh' (Kd.R_lt HO_14.r) k_ hk)); (case aO => exact HO_17.r); (case aS => exact (below_size HB.bl)); (case aL => have := LMc22.out; omega); intro v270 w23 ho hb hg hat; rw [← Ny269.out] at ho; replace HO_14 := Aside0.mk (Kd.R_after (ok := (fun _ => True)) (by (with_reducible repeat (first | apply Kd.R_alloc | apply Kd.R_drewN | apply Kd.R_drew)); exact Kd.R_mono HO_14.out (fun _ hk => ⟨trivial, hk⟩)) hg hat); replace HB := Aside0.mk (hb); have HO271 := Aside0.mk (ho); clear HO_17; clear ho hb hg hat))
                go_roundg k4
                case measure => have := HJ6.out; have := HK2.out; have := HK3.out; have := HK4.out; omega
                case rel => exact ⟨(y269), (wrap64 (x18_4 + 1)), (zq52), H', ⟨by have := HJ6.out; have := HK2.out; have := HK3.out; have := HK4.out; omega⟩, ⟨by (with_reducible repeat (first | apply Kd.R_alloc | apply Kd.R_drewN | apply Kd.R_drew)); exact Kd.R_mono HO_14.out (fun _ hk => hk.2)⟩, ⟨HO271.r⟩, ⟨HB.bl⟩⟩
               ·rw [if_neg c22] at H
                exact absurd H (by simp)
              ·rw [if_neg c21] at H
               exact absurd H (by simp)
             ·rw [if_neg c20] at H
              exact absurd H (by simp)
            ·rw [if_neg c18] at H
             have c18b0 : decide (x18_4 < a2) = false := decide_eq_false c18
             clear c18
             obtain ⟨ji24, hji24⟩ : ∃ j_ : Int, (wrap64 (x15_2 * a2)) = j_ := ⟨_, rfl⟩
             replace H : (if 0 ≤ (ji24) then (if (ji24) ≤ (wrap64 ((ji24) + a2)) then (if (wrap64 ((ji24) + a2)) ≤ (l4.length : Int) then ((trefoilref03_Dot.f k4 a0 ((l4.take ((wrap64 ((ji24) + a2)) : Int).toNat).drop ((ji24) : Int).toNat) x17_4).bind fun bt273 => (if x14_3.length < 17592186044416 then (trefoilref03_MatMul.l1 k4 a0 a1 a2 a3 l4 l5 (x14_3 ++ [bt273.1]) x15_2 (wrap64 (x16_3 + 1))) else (none))) else (none)) else (none)) else (none)) = some (r1, r2) := by first | (rw [hji24] at H; exact H) | (simp only [hji24] at H ⊢; exact H)
             have hji24w : (IntKind.i64.wrap (x15_2 * a2)) = ji24 := (i64_w _).trans hji24
             by_cases c25 : 0 ≤ (ji24)
             ·rw [if_pos c25] at H
              have c25b0 := eq_true c25
              have c25b1 : decide (0 ≤ (ji24)) = true := decide_eq_true c25
              clear c25
              by_cases c26 : (ji24) ≤ (wrap64 ((ji24) + a2))
              ·rw [if_pos c26] at H
               have c26b0 := eq_true c26
               have c26b1 : decide ((ji24) ≤ (wrap64 ((ji24) + a2))) = true := decide_eq_true c26
               by_cases c27 : (wrap64 ((ji24) + a2)) ≤ (l4.length : Int)
               ·rw [if_pos c27] at H
                have c27b0 := eq_true c27
                have c27b1 : decide ((wrap64 ((ji24) + a2)) ≤ (l4.length : Int)) = true := decide_eq_true c27
                replace H := Option.bind_eq_some_iff.mp H
                obtain ⟨⟨t273, t274⟩, A280, H⟩ := H
                replace H : (if x14_3.length < 17592186044416 then (trefoilref03_MatMul.l1 k4 a0 a1 a2 a3 l4 l5 (x14_3 ++ [t273]) x15_2 (wrap64 (x16_3 + 1))) else (none)) = some (r1, r2) := H
                have A28 := Aside0.mk A280
                clear A280
                by_cases c29 : x14_3.length < 17592186044416
                ·rw [if_pos c29] at H
                 have LMc29 := Aside0.mk c29
                 clear c29
                 obtain ⟨y275, hy275⟩ : ∃ y_ : List Int, y_ = (x14_3 ++ [t273]) := ⟨_, rfl⟩
                 replace H : (trefoilref03_MatMul.l1 k4 a0 a1 a2 a3 l4 l5 y275 x15_2 (wrap64 (x16_3 + 1))) = some (r1, r2) := by first | (rw [hy275]; with_reducible exact H) | (have H2_ := (Option.bind_some _ _).symm.trans H; rw [hy275]; with_reducible exact H2_) | (have H2_ := (Option.bind_some _ _).symm.trans H; with_reducible exact H2_) | with_reducible exact H | (rw [hy275]; exact H) | exact H
                 have Ny275 := Aside0.mk hy275
                 clear hy275
                 have H' := Aside0.mk H
                 clear H
                 obtain ⟨i030, hi030, _, hsz30, _⟩ := info_parts info35
                 obtain ⟨A30, hcut30, hA30, hC30⟩ := print_mid_of (P := Try.prog) (Value.int .u64) 0 24 35 .i64 .i64 Try.underlying24 hi030 hsz30 A4 c4 l4 (ji24) (wrap64 ((ji24) + a2)) (of_decide_eq_true (zq51)) (by first | omega | exact of_decide_eq_true (by first | (with_reducible assumption) | assumption)) (of_decide_eq_true (zq51)) HC4.out
                 have HR272 := Aside0.mk (Kd.C_of_reads (h1 := fun _ => rfl) (hA30 _ (Kd.reads_of_C HR4.out)))
                 have HC272 := Aside0.mk hC30
                 clear hA30 hC30 hi030 hsz30
                 obtain ⟨Ao31, co31, eo31⟩ := Kd.R_slice HO_17.out
                 subst eo31
                 go_wp2_with (first | ((with_reducible refine gate_callee (f := 93) rfl ?_); refine goesL_ (some 91) rfl rfl Try.func93 (zq56) rfl #[.int .i64 a0, .slice A30 ((l4.take ((wrap64 ((ji24) + a2)) : Int).toNat).drop ((ji24) : Int).toNat).length (c4 - (ji24).toNat), .slice Ao31 x17_4.length co31] rfl (by (try simp only [List.map_toArray, List.map_cons, List.map_nil]); first | done | (rw [show ((l4.take ((wrap64 ((ji24) + a2)) : Int).toNat).drop ((ji24) : Int).toNat).length = ((wrap64 ((ji24) + a2)).toNat - (ji24).toNat) from (by rw [List.length_drop, List.length_take]; have h_ : ((wrap64 ((ji24) + a2)) : Int) ≤ (l4.length : Int) := of_decide_eq_true (by first | (with_reducible assumption) | assumption); omega)] <;> rfl) | (simp only [hji24]; rfl) | rfl | (simp only [List.length_drop, List.length_take]; rfl)) ?_; (with_reducible refine (trefoilref03_Dot.calls k4 a0 _ _ ((l4.take ((wrap64 ((ji24) + a2)) : Int).toNat).drop ((ji24) : Int).toNat) _ _ x17_4 t273 t274 _ ?side1 ?side2 ?side3 ?side4 A28.out).mono ?_); (case side1 => repeat (first | exact (Kd.C_below HR272.out HB.out) | (with_reducible refine Kd.C_alloc ?_ _) | (with_reducible refine Kd.C_drewN ?_ _) | (with_reducible refine Kd.C_drew ?_))); (case side2 => exact HC272.out); (case side3 => repeat (first | exact (Kd.R_reads' HO_17.out).2.2 | (with_reducible refine Kd.C_alloc ?_ _) | (with_reducible refine Kd.C_drewN ?_ _) | (with_reducible refine Kd.C_drew ?_))); (case side4 => exact (Kd.R_reads' HO_17.out).2.1); rintro e w' ⟨rfl, ⟨nd, rfl⟩⟩; refine ⟨_, rfl, ?_⟩) | ((with_reducible refine gate_builtin (b := .append) (xs := #[.tmp 94, .tmp 96]) rfl ?_); (try (refine gate_guard (by rfl) ?_; dsimp only)); at_builtin; refine Kd.R_append (Kd.int .u64) (w0 := w) w.heap.size rfl (.tmp 94) (.tmp 96) 24 35 (.int .u64 0) 8 rfl Try.underlying24 info35 rfl (by decide) (by omega) u14 x14_3 t273 [.int .u64 t273] (fun k_ => some k_ ≠ (.slice Ao31 x17_4.length co31 : Value).ownBlock) (fun _ => False) rfl rfl ?aP (fun _ hk => hk.elim) ?aF ?aO ?aB ?aS ?aL ?_; (case aP => exact rfl); (case aB => exact HB.bl); (case aF => exact (fun k_ hk => Kd.fresh' (Kd.R_lt HO_17.r) k_ hk)); (case aO => exact HO_14.r); (case aS => exact (below_size HB.bl)); (case aL => have := LMc29.out; omega); intro v276 w32 ho hb hg hat; rw [← Ny275.out] at ho; replace HO_17 := Aside0.mk (Kd.R_after (ok := (fun _ => True)) (by (with_reducible repeat (first | apply Kd.R_alloc | apply Kd.R_drewN | apply Kd.R_drew)); exact Kd.R_mono HO_17.out (fun _ hk => ⟨trivial, hk⟩)) hg hat); replace HB := Aside0.mk (hb); have HO277 := Aside0.mk (ho); clear HO_14; clear ho hb hg hat))
                 go_roundg k4
                 case measure => have := HJ6.out; have := HK2.out; have := HK3.out; have := HK4.out; omega
                 case rel => exact ⟨(y275), (wrap64 (x16_3 + 1)), (zq52), H', ⟨by have := HJ6.out; have := HK2.out; have := HK3.out; have := HK4.out; omega⟩, ⟨by (with_reducible repeat (first | apply Kd.R_alloc | apply Kd.R_drewN | apply Kd.R_drew)); exact Kd.R_mono HO277.out (fun _ hk => trivial)⟩, ⟨HB.bl⟩⟩
                ·rw [if_neg c29] at H
                 exact absurd H (by simp)
               ·rw [if_neg c27] at H
                exact absurd H (by simp)
              ·rw [if_neg c26] at H
               exact absurd H (by simp)
             ·rw [if_neg c25] at H
              exact absurd H (by simp)
         ·rw [if_neg c17] at H
          have c17b0 : decide (x16_3 < a3) = false := decide_eq_false c17
          clear c17
          have H' := Aside0.mk H
          clear H
          go_wp2
          go_roundg k3
          case measure => have := HJ6.out; have := HK2.out; have := HK3.out; omega
          case rel => exact ⟨(x14_3), (wrap64 (x15_2 + 1)), (zq52), H', ⟨by have := HJ6.out; have := HK2.out; have := HK3.out; omega⟩, ⟨HO_14.r⟩, ⟨HB.bl⟩⟩
      ·rw [if_neg c16] at H
       have c16b0 : decide (x15_2 < a1) = false := decide_eq_false c16
       clear c16
       simp only [Option.some.injEq, Prod.mk.injEq] at H
       obtain ⟨rfl, rfl⟩ := H
       go_wp2
       go_ret2
       exact ⟨_, zq49, HO_14.r, HB.bl⟩

/-! ### trefoilref22_Sum: function 57 -/
def trefoilref22_Sum.l0 : Nat → Int → List Int → List Int → List Int → Int → Option (List Int)
 | 0, _, _, _, _, _ => none
 | k + 1, x0, x1, x2, x7, x8 => if x8 < (x1.length : Int) then (if x8 < (x2.length : Int) then (if 0 ≤ x8 then ((trefoilref03_Add.f k x0 (rd x1 x8) (rd x2 x8)).bind fun t280 => (if x7.length < 17592186044416 then (trefoilref22_Sum.l0 k x0 x1 x2 (x7 ++ [t280]) (wrap64 (x8 + 1))) else (none))) else (none)) else (some x7)) else (some x7)
def trefoilref22_Sum.f (k : Nat) (a0 : Int) (l1 : List Int) (l2 : List Int) : Option (List Int) := trefoilref22_Sum.l0 k a0 l1 l2 ([] : List Int) 0
def trefoilref22_Sum.T5 : Bool × List (List Nat × List Nat) := (true, [([], []), ([], []), ([], []), ([], []), ([2, 3], [2, 3]), ([4], [4]), ([], []), ([], []), ([6, 7], [6, 7]), ([8], [8]), ([1, 5, 9], [1, 5, 9]), ([10], [10]), ([0, 11, 10], [0, 11]), ([12, 12, 0, 1, 2, 3, 4, 5, 6, 7, 8, 9, 10, 11, 12], [0, 12])])
def trefoilref22_Sum.B5 : List Nat := [0, 0, 0, 0, 12, 28, 0, 0, 192, 448, 1022, 2046, 4095, 8191]
theorem trefoilref22_Sum.tab5 : rtab .any (opsOf Try.f57 5) = trefoilref22_Sum.T5 := by kernel_rfl
theorem trefoilref22_Sum.bits5 : waitsOk trefoilref22_Sum.T5.2 trefoilref22_Sum.B5 = true := by kernel_rfl
set_option maxHeartbeats 8000000 in
set_option maxRecDepth 100000 in
theorem trefoilref22_Sum.calls (k : Nat) (a0 : Int) (A1 : Option Addr) (c1 : Nat) (l1 : List Int) (A2 : Option Addr) (c2 : Nat) (l2 : List Int) (r : List Int) (w : World) (hr1 : Kd.C (Kd.int .u64) w A1 l1.length l1) (hc1 : l1.length ≤ c1) (hr2 : Kd.C (Kd.int .u64) w A2 l2.length l2) (hc2 : l2.length ≤ c2) (h : trefoilref22_Sum.f k a0 l1 l2 = some r) :
  Calls Try.prog 57 #[.int .i64 a0, .slice A1 l1.length c1, .slice A2 l2.length c2] w fun e w' => ∃ v0_ : Value, e = .returned (v0_) ∧ Kd.R (Kd.int .u64) 35 w' w.heap.size (fun _ => True) v0_ r ∧ Below w.heap.size w w' := by
 have HR1 := Aside0.mk hr1
 have HC1 := Aside0.mk hc1
 clear hr1 hc1
 have HR2 := Aside0.mk hr2
 have HC2 := Aside0.mk hc2
 clear hr2 hc2
 have HB := Aside0.mk (Below.refl w.heap.size w)
 have H : (trefoilref22_Sum.l0 k a0 l1 l2 ([] : List Int) 0) = some r := h
 clear h
 have H' := Aside0.mk H
 clear H
 go_enter Try.func57, Try.ntmps57
 go_wp2
 go_loopg [7, 8] k (fun kq v7 v8 w' => ∃ (x7_1 : List Int) (x8_1 : Int), v8 = .int .i64 x8_1 ∧ Aside0 (trefoilref22_Sum.l0 kq a0 l1 l2 x7_1 x8_1 = some r) ∧ Aside0 (kq ≤ k) ∧ Aside0 (Kd.R (Kd.int .u64) 35 w' w.heap.size (fun _ => True) v7 x7_1) ∧ Aside0 (Below w.heap.size w w'))
 case atStart => exact ⟨(([] : List Int)), (0), (zq52), H', ⟨Nat.le_refl _⟩, ⟨zq32⟩, ⟨HB.bl⟩⟩
 case round =>
  clear H'
  try clear c1
  try clear c2
  try clear p2
  obtain ⟨x7_1, x8_1, rfl, HA, HK1, HO_7, HB⟩ := hrel
  cases gk with
  | zero => exact absurd HA.out (by simp [trefoilref22_Sum.l0])
  | succ k1 =>
   have H := HA.out
   clear HA
   simp only [trefoilref22_Sum.l0] at H
   by_cases c4 : x8_1 < (l1.length : Int)
   ·rw [if_pos c4] at H
    have c4b0 : decide (x8_1 < (l1.length : Int)) = true := decide_eq_true c4
    clear c4
    by_cases c5 : x8_1 < (l2.length : Int)
    ·rw [if_pos c5] at H
     have c5b0 : decide (x8_1 < (l2.length : Int)) = true := decide_eq_true c5
     clear c5
     by_cases c6 : 0 ≤ x8_1
     ·rw [if_pos c6] at H
      have c6b0 : decide (0 ≤ x8_1) = true := decide_eq_true c6
      clear c6
      replace H := Option.bind_eq_some_iff.mp H
      obtain ⟨t280, A70, H⟩ := H
      replace H : (if x7_1.length < 17592186044416 then (trefoilref22_Sum.l0 k1 a0 l1 l2 (x7_1 ++ [t280]) (wrap64 (x8_1 + 1))) else (none)) = some r := H
      have A7 := Aside0.mk A70
      clear A70
      by_cases c8 : x7_1.length < 17592186044416
      ·rw [if_pos c8] at H
       have LMc8 := Aside0.mk c8
       clear c8
       obtain ⟨y281, hy281⟩ : ∃ y_ : List Int, y_ = (x7_1 ++ [t280]) := ⟨_, rfl⟩
       replace H : (trefoilref22_Sum.l0 k1 a0 l1 l2 y281 (wrap64 (x8_1 + 1))) = some r := by first | (rw [hy281]; with_reducible exact H) | (have H2_ := (Option.bind_some _ _).symm.trans H; rw [hy281]; with_reducible exact H2_) | (have H2_ := (Option.bind_some _ _).symm.trans H; with_reducible exact H2_) | with_reducible exact H | (rw [hy281]; exact H) | exact H
       have Ny281 := Aside0.mk hy281
       clear hy281
       have H' := Aside0.mk H
       clear H
       try go_wp2
       have n0_ := Aside0.mk (Kd.R_drew HO_7.out)
       have n1_ := Aside0.mk (below_drew1 HB.out)
       clear HO_7
       clear HB
       have HO_7 := n0_
       have HB := n1_
       clear n0_ n1_
       have p278 : 0 ≤ (x8_1 : Int) := of_decide_eq_true (zq51)
       have q278 : x8_1 < (l1.length : Int) := of_decide_eq_true (zq51)
       obtain ⟨ad278, e278, hx278_0⟩ := Kd.at_int HR1.out x8_1 p278 q278
       have hw278_0 := hx278_0
       cases e278
       replace hx278_0 := (HB.out.cell (World.block_lt_of_cell? w _ hx278_0)).trans hx278_0
       replace p278 := eq_true p278
       replace q278 := eq_true q278
       have p279 : 0 ≤ (x8_1 : Int) := of_decide_eq_true (zq51)
       have q279 : x8_1 < (l2.length : Int) := of_decide_eq_true (zq51)
       obtain ⟨ad279, e279, hx279_0⟩ := Kd.at_int HR2.out x8_1 p279 q279
       have hw279_0 := hx279_0
       cases e279
       replace hx279_0 := (HB.out.cell (World.block_lt_of_cell? w _ hx279_0)).trans hx279_0
       replace p279 := eq_true p279
       replace q279 := eq_true q279
       refine start_ (n := 14) (S := fun w' => w'.cell? (ad278.add (x8_1).toNat) = some (.int .u64 (rd l1 x8_1)) ∧ w'.cell? (ad279.add (x8_1).toNat) = some (.int .u64 (rd l2 x8_1))) (ds := []) #[false, false, false, false, false, false, false, false, false, false, false, false, false, false] (zq56) rfl rfl ⟨((HB.out.cell (World.block_lt_of_cell? w _ hw278_0)).trans hw278_0), ((HB.out.cell (World.block_lt_of_cell? w _ hw279_0)).trans hw279_0)⟩ (fun hHeld => ?_); refine with_tabW trefoilref22_Sum.tab5 trefoilref22_Sum.bits5 (fun HT_ HW_ => ?_)
       generalize wr.drew = w9 at HO_7 HB hx278_0 hx279_0 hHeld ⊢
       refine pure_ (i := 0) (N := some 21) (v := ?_) (a' := ?_) #[true, false, false, false, false, false, false, false, false, false, false, false, false, false] rfl rfl (any_of HT_.out (zq56)) (fun _ _ _ h => h) (Or.inl ⟨by rfl, ?_⟩) ?_ ?_; rotate_left; exact zs0; rotate_left; exact zs1
       refine pure_ (i := 1) (N := some 22) (v := ?_) (a' := ?_) #[true, true, false, false, false, false, false, false, false, false, false, false, false, false] rfl rfl (any_of HT_.out (zq56)) (fun _ _ _ h => h) (Or.inl ⟨by rfl, ?_⟩) ?_ ?_; rotate_left; exact zs0; rotate_left; exact zs1
       refine pure_ (i := 2) (N := some 23) (v := ?_) (a' := ?_) #[true, true, true, false, false, false, false, false, false, false, false, false, false, false] rfl rfl (any_of HT_.out (zq56)) (fun _ _ _ h => h) (Or.inl ⟨by rfl, ?_⟩) ?_ ?_; rotate_left; exact zs0; rotate_left; exact zs1
       refine pure_ (i := 3) (N := some 24) (v := ?_) (a' := ?_) #[true, true, true, true, false, false, false, false, false, false, false, false, false, false] rfl rfl (any_of HT_.out (zq56)) (fun _ _ _ h => h) (Or.inl ⟨by rfl, ?_⟩) ?_ ?_; rotate_left; exact zs0; rotate_left; exact zs1
       refine pure_ (i := 4) (N := some 25) (v := ?_) (a' := ?_) #[true, true, true, true, true, false, false, false, false, false, false, false, false, false] rfl rfl (any_of HT_.out (zq56)) (fun _ _ _ h => h) (Or.inl ⟨by rfl, ?_⟩) ?_ ?_; rotate_left; exact zs0; rotate_left; exact zs1
       refine pure_ (i := 6) (N := some 27) (v := ?_) (a' := ?_) #[true, true, true, true, true, false, true, false, false, false, false, false, false, false] rfl rfl (any_of HT_.out (zq56)) (fun _ _ _ h => h) (Or.inl ⟨by rfl, ?_⟩) ?_ ?_; rotate_left; exact zs0; rotate_left; exact zs1
       refine pure_ (i := 7) (N := some 28) (v := ?_) (a' := ?_) #[true, true, true, true, true, false, true, true, false, false, false, false, false, false] rfl rfl (any_of HT_.out (zq56)) (fun _ _ _ h => h) (Or.inl ⟨by rfl, ?_⟩) ?_ ?_; rotate_left; exact zs0; rotate_left; exact zs1
       refine pure_ (i := 8) (N := some 29) (v := ?_) (a' := ?_) #[true, true, true, true, true, false, true, true, true, false, false, false, false, false] rfl rfl (any_of HT_.out (zq56)) (fun _ _ _ h => h) (Or.inl ⟨by rfl, ?_⟩) ?_ ?_; rotate_left; exact zs0; rotate_left; exact zs1
       refine take_ (i := 5) (N := some 26) (v := ?_) (a' := ?_) #[true, true, true, true, true, true, true, true, true, false, false, false, false, false] rfl rfl (take_ofW HT_.out HW_.out (zq56)) (fun _ _ _ h => h) (Or.inl ⟨by rfl, ?_⟩) hHeld ?_ ?_
       rotate_left
       ·rintro w' ⟨s0, s1⟩
        go_simp
        with_reducible rfl
       rotate_left
       exact zs1
       refine take_ (i := 9) (N := some 30) (v := ?_) (a' := ?_) #[true, true, true, true, true, true, true, true, true, true, false, false, false, false] rfl rfl (take_ofW HT_.out HW_.out (zq56)) (fun _ _ _ h => h) (Or.inl ⟨by rfl, ?_⟩) hHeld ?_ ?_
       rotate_left
       ·rintro w' ⟨s0, s1⟩
        go_simp
        with_reducible rfl
       rotate_left
       exact zs1
       refine one_ (i := 10) (N := some 31) #[true, true, true, true, true, true, true, true, true, true, true, false, false, false] rfl rfl (one_of HT_.out (zq56)) (by decide) (fun K hK => ?_)
       refine goes_ Try.func29 (zq56) rfl #[.int .i64 a0, .int .u64 (rd l1 x8_1), .int .u64 (rd l2 x8_1)] (by rfl) rfl rfl (zq33) ?_
       with_reducible refine (trefoilref03_Add.calls k1 a0 (rd l1 x8_1) (rd l2 x8_1) t280 _ A7.out).mono ?_
       rintro e w' ⟨rfl, ⟨nd, rfl⟩⟩
       refine ⟨_, rfl, ?_⟩
       refine hK.out _ _ ⟨((HB.out.cell (World.block_lt_of_cell? w _ hw278_0)).trans hw278_0), ((HB.out.cell (World.block_lt_of_cell? w _ hw279_0)).trans hw279_0)⟩ (fun hHeld => ?_)
       clear hK K
       refine norm_ (a' := ?_) ?_ ?_
       rotate_left
       ·show Act.put _ (some 31) _ = _
        simp only [Act.put, List.setIfInBounds_toArray, List.set_cons_zero, List.set_cons_succ, i64_w, i32_w]
        rfl
       refine one_ (i := 11) (N := some 32) #[true, true, true, true, true, true, true, true, true, true, true, true, false, false] rfl rfl (one_of HT_.out (zq56)) (by decide) (fun K hK => ?_)
       refine value_ (w1 := ?_) (v := ?_) (by rfl) rfl ?_ ?_
       rotate_left 2
       ·go_simp
        constructor
        ·rfl
        ·rfl
       refine hK.out _ _ ⟨(World.cell?_alloc_lt _ _ _ (World.block_lt_of_cell? _ _ (((HB.out.cell (World.block_lt_of_cell? w _ hw278_0)).trans hw278_0)))).trans (((HB.out.cell (World.block_lt_of_cell? w _ hw278_0)).trans hw278_0)), (World.cell?_alloc_lt _ _ _ (World.block_lt_of_cell? _ _ (((HB.out.cell (World.block_lt_of_cell? w _ hw279_0)).trans hw279_0)))).trans (((HB.out.cell (World.block_lt_of_cell? w _ hw279_0)).trans hw279_0))⟩ (fun hHeld => ?_)
       clear hK K
       refine norm_ (a' := ?_) ?_ ?_
       rotate_left
       ·show Act.put _ (some 32) _ = _
        simp only [Act.put, List.setIfInBounds_toArray, List.set_cons_zero, List.set_cons_succ, i64_w, i32_w]
        rfl
       refine one_ (i := 12) (N := some 33) #[true, true, true, true, true, true, true, true, true, true, true, true, true, false] rfl rfl (one_of HT_.out (zq56)) (by decide) (fun K hK => ?_)
       refine Kd.R_append_step (Kd.int .u64) (w0 := w) w.heap.size (by rfl) (.tmp 21) (.tmp 32) 24 35 (.int .u64 0) 8 rfl Try.underlying24 info35 rfl (by decide) (by omega) u7 x7_1 t280 [.int .u64 t280] (fun _ => True) (fun _ => False) rfl rfl ?aP (fun _ hk => hk.elim) ?aF ?aO ?aB ?aS ?aL ?_
       (case aP => exact rfl)
       (case aB => exact HB.bl)
       (case aF => exact (fun _ _ => trivial))
       (case aO => exact HO_7.r)
       (case aS => exact (below_size HB.bl))
       (case aL => have := LMc8.out; omega)
       intro v282 w10 ho hb hg hat
       rw [← Ny281.out] at ho
       have n0_ := Aside0.mk (hb)
       have n1_ := Aside0.mk (ho)
       clear HB
       clear HO_7
       have HB := n0_
       have HO283 := n1_
       clear n0_ n1_
       clear ho hb hg hat
       refine hK.out _ _ ⟨((HB.out.cell (World.block_lt_of_cell? w _ hw278_0)).trans hw278_0), ((HB.out.cell (World.block_lt_of_cell? w _ hw279_0)).trans hw279_0)⟩ (fun hHeld => ?_)
       clear hK K
       refine norm_ (a' := ?_) ?_ ?_
       rotate_left
       ·show Act.put _ (some 33) _ = _
        simp only [Act.put, List.setIfInBounds_toArray, List.set_cons_zero, List.set_cons_succ, i64_w, i32_w]
        rfl
       refine pure_ (i := 13) (N := some 7) (v := ?_) (a' := ?_) #[true, true, true, true, true, true, true, true, true, true, true, true, true, true] rfl rfl (any_of HT_.out (zq56)) (fun _ _ _ h => h) (Or.inl ⟨by rfl, ?_⟩) ?_ ?_; rotate_left; exact zs0; rotate_left; exact zs1
       refine done_ (done_of HT_.out (zq56)) ?_
       try go_wp2
       go_roundg k1
       case measure => have := HK1.out; omega
       case rel => exact ⟨(y281), (wrap64 (x8_1 + 1)), (zq52), H', ⟨zq55⟩, ⟨HO283.r⟩, ⟨HB.bl⟩⟩
      ·rw [if_neg c8] at H
       exact absurd H (by simp)
     ·rw [if_neg c6] at H
      exact absurd H (by simp)
    ·rw [if_neg c5] at H
     have c5b0 : decide (x8_1 < (l2.length : Int)) = false := decide_eq_false c5
     clear c5
     obtain rfl := Option.some.inj H
     go_wp2
     go_ret
     exact ⟨_, zq49, HO_7.r, HB.bl⟩
   ·rw [if_neg c4] at H
    have c4b0 : decide (x8_1 < (l1.length : Int)) = false := decide_eq_false c4
    clear c4
    obtain rfl := Option.some.inj H
    go_wp2
    go_ret
    exact ⟨_, zq49, HO_7.r, HB.bl⟩

/-! ### trefoilref03_Fit: function 26 -/
def trefoilref03_Fit.l0 : Nat → Int → Int → Int → Int → Option (Int)
 | 0, _, _, _, _ => none
 | k + 1, x0, x1, x5, x6 => if x6 < 64 then (if x6 < x0 then (if 0 ≤ (IntKind.u64.wrap (x6)) then (trefoilref03_Fit.l0 k x0 x1 (Go.bits .or .u64 x5 (Go.bits .and .u64 x1 (shl .u64 1 (IntKind.u64.wrap (x6))))) (wrap64 (x6 + 1))) else (none)) else (some x5)) else (some x5)
def trefoilref03_Fit.f (k : Nat) (a0 : Int) (a1 : Int) : Option (Int) := trefoilref03_Fit.l0 k a0 a1 0 0
set_option maxHeartbeats 8000000 in
set_option maxRecDepth 100000 in
theorem trefoilref03_Fit.calls (k : Nat) (a0 : Int) (a1 : Int) (r : Int) (w : World) (h : trefoilref03_Fit.f k a0 a1 = some r) :
  Calls Try.prog 26 #[.int .i64 a0, .int .u64 a1] w fun e w' => e = .returned (.int .u64 r) ∧ Drawn0 w w' := by
 have H : (trefoilref03_Fit.l0 k a0 a1 0 0) = some r := h
 clear h
 have H' := Aside0.mk H
 clear H
 go_enter Try.func26, Try.ntmps26
 go_wp2
 go_loopg [5, 6] k (fun kq v5 v6 w' => ∃ (x5_1 : Int) (x6_1 : Int), v5 = .int .u64 x5_1 ∧ v6 = .int .i64 x6_1 ∧ Aside0 (trefoilref03_Fit.l0 kq a0 a1 x5_1 x6_1 = some r) ∧ Aside0 (kq ≤ k) ∧ Drawn0 w w')
 case atStart => exact ⟨(0), (0), (zq52), (zq52), H', ⟨Nat.le_refl _⟩, zq50⟩
 case round =>
  clear H'
  try clear c2
  try clear p2
  obtain ⟨x5_1, x6_1, rfl, rfl, HA, HK1, ⟨m1, rfl⟩⟩ := hrel
  cases gk with
  | zero => exact absurd HA.out (by simp [trefoilref03_Fit.l0])
  | succ k1 =>
   have H := HA.out
   clear HA
   simp only [trefoilref03_Fit.l0] at H
   by_cases c3 : x6_1 < 64
   ·rw [if_pos c3] at H
    have c3b0 : decide (x6_1 < 64) = true := decide_eq_true c3
    clear c3
    by_cases c4 : x6_1 < a0
    ·rw [if_pos c4] at H
     have c4b0 : decide (x6_1 < a0) = true := decide_eq_true c4
     clear c4
     obtain ⟨ji5, hji5⟩ : ∃ j_ : Int, (IntKind.u64.wrap (x6_1)) = j_ := ⟨_, rfl⟩
     replace H : (if 0 ≤ (ji5) then (trefoilref03_Fit.l0 k1 a0 a1 (Go.bits .or .u64 x5_1 (Go.bits .and .u64 a1 (shl .u64 1 (ji5)))) (wrap64 (x6_1 + 1))) else (none)) = some r := by first | (rw [hji5] at H; exact H) | (simp only [hji5] at H ⊢; exact H)
     by_cases c6 : 0 ≤ (ji5)
     ·rw [if_pos c6] at H
      have c6b0 := eq_true c6
      have c6b1 : decide (0 ≤ (ji5)) = true := decide_eq_true c6
      clear c6
      obtain ⟨ji7, hji7⟩ : ∃ j_ : Int, (shl .u64 1 (ji5)) = j_ := ⟨_, rfl⟩
      replace H : (trefoilref03_Fit.l0 k1 a0 a1 (Go.bits .or .u64 x5_1 (Go.bits .and .u64 a1 (ji7))) (wrap64 (x6_1 + 1))) = some r := by first | (rw [hji7] at H; exact H) | (simp only [hji7] at H ⊢; exact H)
      have hji7_ : (IntKind.u64.wrap (1 * 2 ^ min (ji5).toNat 64)) = ji7 := hji7
      have hji7z : (ji5) ≤ 64 → (IntKind.u64.wrap (1 * 2 ^ (ji5).toNat)) = ji7 := shl_small hji7
      have hji7u : (IntKind.u64.wrap (2 ^ min (ji5).toNat 64)) = ji7 := by have h_ := hji7_; rw [Int.one_mul] at h_; exact h_
      have hji7v : (ji5) ≤ 64 → (IntKind.u64.wrap (2 ^ (ji5).toNat)) = ji7 := fun hle_ => by have h_ := hji7z hle_; rw [Int.one_mul] at h_; exact h_
      have H' := Aside0.mk H
      clear H
      go_wp2
      go_roundg k1
      case measure => have := HK1.out; omega
      case rel => exact ⟨(Go.bits .or .u64 x5_1 (Go.bits .and .u64 a1 (ji7))), (wrap64 (x6_1 + 1)), (by first | rfl | (simp; done) | (simp only [← hji7] <;> (first | rfl | simp)) | (simp [*]; done)), (zq52), H', ⟨zq55⟩, zq50⟩
     ·rw [if_neg c6] at H
      exact absurd H (by simp)
    ·rw [if_neg c4] at H
     have c4b0 : decide (x6_1 < a0) = false := decide_eq_false c4
     clear c4
     obtain rfl := Option.some.inj H
     go_wp2
     go_ret
     exact ⟨zq52, zq50⟩
   ·rw [if_neg c3] at H
    have c3b0 : decide (x6_1 < 64) = false := decide_eq_false c3
    clear c3
    obtain rfl := Option.some.inj H
    go_wp2
    go_ret
    exact ⟨zq52, zq50⟩

/-! ### trefoilref19_Fits: function 58 -/
def trefoilref19_Fits.l0 : Nat → Int → List Int → Int → Option (Bool)
 | 0, _, _, _ => none
 | k + 1, x0, x1, x5 => if x5 < (x1.length : Int) then (if 0 ≤ x5 then ((trefoilref03_Fit.f k x0 (rd x1 x5)).bind fun t285 => (if t285 = (rd x1 x5) then (trefoilref19_Fits.l0 k x0 x1 (wrap64 (x5 + 1))) else (some false))) else (none)) else (some true)
def trefoilref19_Fits.f (k : Nat) (a0 : Int) (l1 : List Int) : Option (Bool) := trefoilref19_Fits.l0 k a0 l1 0
set_option maxHeartbeats 8000000 in
set_option maxRecDepth 100000 in
theorem trefoilref19_Fits.calls (k : Nat) (a0 : Int) (A1 : Option Addr) (c1 : Nat) (l1 : List Int) (r : Bool) (w : World) (hr1 : Kd.C (Kd.int .u64) w A1 l1.length l1) (hc1 : l1.length ≤ c1) (h : trefoilref19_Fits.f k a0 l1 = some r) :
  Calls Try.prog 58 #[.int .i64 a0, .slice A1 l1.length c1] w fun e w' => e = .returned (.bool r) ∧ Drawn0 w w' := by
 have HR1 := Aside0.mk hr1
 have HC1 := Aside0.mk hc1
 clear hr1 hc1
 have H : (trefoilref19_Fits.l0 k a0 l1 0) = some r := h
 clear h
 have H' := Aside0.mk H
 clear H
 go_enter Try.func58, Try.ntmps58
 go_wp2
 repeat (go_quiet (fail); try go_wp2)
 go_loopg [5] k (fun kq v5 w' => ∃ (x5_1 : Int), v5 = .int .i64 x5_1 ∧ Aside0 (trefoilref19_Fits.l0 kq a0 l1 x5_1 = some r) ∧ Aside0 (kq ≤ k) ∧ Drawn0 w w')
 case atStart => exact ⟨(0), (zq52), H', ⟨Nat.le_refl _⟩, zq50⟩
 case round =>
  clear H'
  try clear c1
  try clear p2
  obtain ⟨x5_1, rfl, HA, HK1, ⟨m1, rfl⟩⟩ := hrel
  cases gk with
  | zero => exact absurd HA.out (by simp [trefoilref19_Fits.l0])
  | succ k1 =>
   have H := HA.out
   clear HA
   simp only [trefoilref19_Fits.l0] at H
   by_cases c3 : x5_1 < (l1.length : Int)
   ·rw [if_pos c3] at H
    have c3b0 : decide (x5_1 < (l1.length : Int)) = true := decide_eq_true c3
    clear c3
    by_cases c4 : 0 ≤ x5_1
    ·rw [if_pos c4] at H
     have c4b0 : decide (0 ≤ x5_1) = true := decide_eq_true c4
     clear c4
     replace H := Option.bind_eq_some_iff.mp H
     obtain ⟨t285, A50, H⟩ := H
     replace H : (if t285 = (rd l1 x5_1) then (trefoilref19_Fits.l0 k1 a0 l1 (wrap64 (x5_1 + 1))) else (some false)) = some r := H
     have A5 := Aside0.mk A50
     clear A50
     by_cases c6 : t285 = (rd l1 x5_1)
     ·rw [if_pos c6] at H
      have c6b0 : (t285 == (rd l1 x5_1)) = true := beq_iff_eq.mpr c6
      have c6b1 : (t285 != (rd l1 x5_1)) = false := bne_eq_false_iff_eq.mpr c6
      clear c6
      have H' := Aside0.mk H
      clear H
      have p284 : 0 ≤ (x5_1 : Int) := of_decide_eq_true (zq51)
      have q284 : x5_1 < (l1.length : Int) := of_decide_eq_true (zq51)
      obtain ⟨ad284, e284, hx284_0⟩ := Kd.at_int HR1.out x5_1 p284 q284
      cases e284
      replace p284 := eq_true p284
      replace q284 := eq_true q284
      go_wp2_with (first | (go_at_call 26; (with_reducible refine (trefoilref03_Fit.calls k1 a0 (rd l1 x5_1) t285 _ A5.out).mono ?_); rintro e w' ⟨rfl, ⟨nd, rfl⟩⟩; (try first | exact ⟨rfl, _, World.drewN_drewN _ _ _⟩ | exact ⟨rfl, _, Eq.trans (World.drewN_drewN _ _ _) (congrArg (World.drewN _) (Nat.add_assoc _ _ _))⟩); have p286 : 0 ≤ (x5_1 : Int) := of_decide_eq_true (zq51); have q286 : x5_1 < (l1.length : Int) := of_decide_eq_true (zq51); obtain ⟨ad286, e286, hx286_0⟩ := Kd.at_int HR1.out x5_1 p286 q286; obtain rfl : ad284 = ad286 := (by injection e286); replace p286 := eq_true p286; replace q286 := eq_true q286))
      repeat (go_quiet (first | (go_at_call 26; (with_reducible refine (trefoilref03_Fit.calls k1 a0 (rd l1 x5_1) t285 _ A5.out).mono ?_); rintro e w' ⟨rfl, ⟨nd, rfl⟩⟩; (try first | exact ⟨rfl, _, World.drewN_drewN _ _ _⟩ | exact ⟨rfl, _, Eq.trans (World.drewN_drewN _ _ _) (congrArg (World.drewN _) (Nat.add_assoc _ _ _))⟩); have p286 : 0 ≤ (x5_1 : Int) := of_decide_eq_true (zq51); have q286 : x5_1 < (l1.length : Int) := of_decide_eq_true (zq51); obtain ⟨ad286, e286, hx286_0⟩ := Kd.at_int HR1.out x5_1 p286 q286; obtain rfl : ad284 = ad286 := (by injection e286); replace p286 := eq_true p286; replace q286 := eq_true q286)); try go_wp2_with (first | (go_at_call 26; (with_reducible refine (trefoilref03_Fit.calls k1 a0 (rd l1 x5_1) t285 _ A5.out).mono ?_); rintro e w' ⟨rfl, ⟨nd, rfl⟩⟩; (try first | exact ⟨rfl, _, World.drewN_drewN _ _ _⟩ | exact ⟨rfl, _, Eq.trans (World.drewN_drewN _ _ _) (congrArg (World.drewN _) (Nat.add_assoc _ _ _))⟩); have p286 : 0 ≤ (x5_1 : Int) := of_decide_eq_true (zq51); have q286 : x5_1 < (l1.length : Int) := of_decide_eq_true (zq51); obtain ⟨ad286, e286, hx286_0⟩ := Kd.at_int HR1.out x5_1 p286 q286; obtain rfl : ad284 = ad286 := (by injection e286); replace p286 := eq_true p286; replace q286 := eq_true q286)))
      go_roundg k1
      case measure => have := HK1.out; omega
      case rel => exact ⟨(wrap64 (x5_1 + 1)), (zq52), H', ⟨zq55⟩, zq50⟩
     ·rw [if_neg c6] at H
      have c6b0 : (t285 == (rd l1 x5_1)) = false := beq_eq_false_iff_ne.mpr c6
      have c6b1 : (t285 != (rd l1 x5_1)) = true := bne_iff_ne.mpr c6
      obtain rfl := Option.some.inj H
      have p284 : 0 ≤ (x5_1 : Int) := of_decide_eq_true (zq51)
      have q284 : x5_1 < (l1.length : Int) := of_decide_eq_true (zq51)
      obtain ⟨ad284, e284, hx284_0⟩ := Kd.at_int HR1.out x5_1 p284 q284
      cases e284
      replace p284 := eq_true p284
      replace q284 := eq_true q284
      go_wp2_with (first | (go_at_call 26; (with_reducible refine (trefoilref03_Fit.calls k1 a0 (rd l1 x5_1) t285 _ A5.out).mono ?_); rintro e w' ⟨rfl, ⟨nd, rfl⟩⟩; (try first | exact ⟨rfl, _, World.drewN_drewN _ _ _⟩ | exact ⟨rfl, _, Eq.trans (World.drewN_drewN _ _ _) (congrArg (World.drewN _) (Nat.add_assoc _ _ _))⟩); have p286 : 0 ≤ (x5_1 : Int) := of_decide_eq_true (zq51); have q286 : x5_1 < (l1.length : Int) := of_decide_eq_true (zq51); obtain ⟨ad286, e286, hx286_0⟩ := Kd.at_int HR1.out x5_1 p286 q286; obtain rfl : ad284 = ad286 := (by injection e286); replace p286 := eq_true p286; replace q286 := eq_true q286))
      repeat (go_quiet (first | (go_at_call 26; (with_reducible refine (trefoilref03_Fit.calls k1 a0 (rd l1 x5_1) t285 _ A5.out).mono ?_); rintro e w' ⟨rfl, ⟨nd, rfl⟩⟩; (try first | exact ⟨rfl, _, World.drewN_drewN _ _ _⟩ | exact ⟨rfl, _, Eq.trans (World.drewN_drewN _ _ _) (congrArg (World.drewN _) (Nat.add_assoc _ _ _))⟩); have p286 : 0 ≤ (x5_1 : Int) := of_decide_eq_true (zq51); have q286 : x5_1 < (l1.length : Int) := of_decide_eq_true (zq51); obtain ⟨ad286, e286, hx286_0⟩ := Kd.at_int HR1.out x5_1 p286 q286; obtain rfl : ad284 = ad286 := (by injection e286); replace p286 := eq_true p286; replace q286 := eq_true q286)); try go_wp2_with (first | (go_at_call 26; (with_reducible refine (trefoilref03_Fit.calls k1 a0 (rd l1 x5_1) t285 _ A5.out).mono ?_); rintro e w' ⟨rfl, ⟨nd, rfl⟩⟩; (try first | exact ⟨rfl, _, World.drewN_drewN _ _ _⟩ | exact ⟨rfl, _, Eq.trans (World.drewN_drewN _ _ _) (congrArg (World.drewN _) (Nat.add_assoc _ _ _))⟩); have p286 : 0 ≤ (x5_1 : Int) := of_decide_eq_true (zq51); have q286 : x5_1 < (l1.length : Int) := of_decide_eq_true (zq51); obtain ⟨ad286, e286, hx286_0⟩ := Kd.at_int HR1.out x5_1 p286 q286; obtain rfl : ad284 = ad286 := (by injection e286); replace p286 := eq_true p286; replace q286 := eq_true q286)))
      go_ret
      exact ⟨zq52, zq50⟩
    ·rw [if_neg c4] at H
     exact absurd H (by simp)
   ·rw [if_neg c3] at H
    have c3b0 : decide (x5_1 < (l1.length : Int)) = false := decide_eq_false c3
    clear c3
    obtain rfl := Option.some.inj H
    go_wp2
    repeat (go_quiet (fail); try go_wp2)
    go_ret
    exact ⟨zq52, zq50⟩

/-! ### trefoilref22_equal: function 59 -/
def trefoilref22_equal.l0 : Nat → List Int → List Int → Int → Option (Bool)
 | 0, _, _, _ => none
 | k + 1, x0, x1, x5 => if x5 < (x0.length : Int) then (if 0 ≤ x5 then (if x5 < (x1.length : Int) then (if (rd x0 x5) = (rd x1 x5) then (trefoilref22_equal.l0 k x0 x1 (wrap64 (x5 + 1))) else (some false)) else (none)) else (none)) else (some true)
def trefoilref22_equal.f (k : Nat) (l0 : List Int) (l1 : List Int) : Option (Bool) := if (l0.length : Int) = (l1.length : Int) then (trefoilref22_equal.l0 k l0 l1 0) else (some false)
set_option maxHeartbeats 8000000 in
set_option maxRecDepth 100000 in
theorem trefoilref22_equal.calls (k : Nat) (A0 : Option Addr) (c0 : Nat) (l0 : List Int) (A1 : Option Addr) (c1 : Nat) (l1 : List Int) (r : Bool) (w : World) (hr0 : Kd.C (Kd.int .u64) w A0 l0.length l0) (hc0 : l0.length ≤ c0) (hr1 : Kd.C (Kd.int .u64) w A1 l1.length l1) (hc1 : l1.length ≤ c1) (h : trefoilref22_equal.f k l0 l1 = some r) :
  Calls Try.prog 59 #[.slice A0 l0.length c0, .slice A1 l1.length c1] w fun e w' => e = .returned (.bool r) ∧ Drawn0 w w' := by
 have HR0 := Aside0.mk hr0
 have HC0 := Aside0.mk hc0
 clear hr0 hc0
 have HR1 := Aside0.mk hr1
 have HC1 := Aside0.mk hc1
 clear hr1 hc1
 have H : (if (l0.length : Int) = (l1.length : Int) then (trefoilref22_equal.l0 k l0 l1 0) else (some false)) = some r := h
 clear h
 by_cases c3 : (l0.length : Int) = (l1.length : Int)
 ·rw [if_pos c3] at H
  have c3b0 : ((l0.length : Int) == (l1.length : Int)) = true := beq_iff_eq.mpr c3
  have c3b1 : ((l0.length : Int) != (l1.length : Int)) = false := bne_eq_false_iff_eq.mpr c3
  have c3b2 : (l0.length == l1.length) = true := by first | simpa using c3 | (simp at c3 ⊢; omega)
  clear c3
  have H' := Aside0.mk H
  clear H
  go_enter Try.func59, Try.ntmps59
  go_wp2
  repeat (go_quiet (fail); try go_wp2)
  go_loopg [5] k (fun kq v5 w' => ∃ (x5_1 : Int), v5 = .int .i64 x5_1 ∧ Aside0 (trefoilref22_equal.l0 kq l0 l1 x5_1 = some r) ∧ Aside0 (kq ≤ k) ∧ Drawn0 w w')
  case atStart => exact ⟨(0), (zq52), H', ⟨Nat.le_refl _⟩, zq50⟩
  case round =>
   clear H'
   try clear c1
   try clear p2
   try clear c3
   try clear c3b0
   try clear c3b1
   try clear c3b2
   obtain ⟨x5_1, rfl, HA, HK1, ⟨m1, rfl⟩⟩ := hrel
   cases gk with
   | zero => exact absurd HA.out (by simp [trefoilref22_equal.l0])
   | succ k1 =>
    have H := HA.out
    clear HA
    simp only [trefoilref22_equal.l0] at H
    by_cases c4 : x5_1 < (l0.length : Int)
    ·rw [if_pos c4] at H
     have c4b0 : decide (x5_1 < (l0.length : Int)) = true := decide_eq_true c4
     clear c4
     by_cases c5 : 0 ≤ x5_1
     ·rw [if_pos c5] at H
      have c5b0 : decide (0 ≤ x5_1) = true := decide_eq_true c5
      clear c5
      by_cases c6 : x5_1 < (l1.length : Int)
      ·rw [if_pos c6] at H
       have c6b0 : decide (x5_1 < (l1.length : Int)) = true := decide_eq_true c6
       clear c6
       by_cases c7 : (rd l0 x5_1) = (rd l1 x5_1)
       ·rw [if_pos c7] at H
        have c7b0 : ((rd l0 x5_1) == (rd l1 x5_1)) = true := beq_iff_eq.mpr c7
        have c7b1 : ((rd l0 x5_1) != (rd l1 x5_1)) = false := bne_eq_false_iff_eq.mpr c7
        clear c7
        have H' := Aside0.mk H
        clear H
        have p287 : 0 ≤ (x5_1 : Int) := of_decide_eq_true (zq51)
        have q287 : x5_1 < (l0.length : Int) := of_decide_eq_true (zq51)
        obtain ⟨ad287, e287, hx287_0⟩ := Kd.at_int HR0.out x5_1 p287 q287
        cases e287
        replace p287 := eq_true p287
        replace q287 := eq_true q287
        have p288 : 0 ≤ (x5_1 : Int) := of_decide_eq_true (zq51)
        have q288 : x5_1 < (l1.length : Int) := of_decide_eq_true (zq51)
        obtain ⟨ad288, e288, hx288_0⟩ := Kd.at_int HR1.out x5_1 p288 q288
        cases e288
        replace p288 := eq_true p288
        replace q288 := eq_true q288
        go_wp2
        repeat (go_quiet (fail); try go_wp2)
        go_roundg k1
        case measure => have := HK1.out; omega
        case rel => exact ⟨(wrap64 (x5_1 + 1)), (zq52), H', ⟨zq55⟩, zq50⟩
       ·rw [if_neg c7] at H
        have c7b0 : ((rd l0 x5_1) == (rd l1 x5_1)) = false := beq_eq_false_iff_ne.mpr c7
        have c7b1 : ((rd l0 x5_1) != (rd l1 x5_1)) = true := bne_iff_ne.mpr c7
        obtain rfl := Option.some.inj H
        have p287 : 0 ≤ (x5_1 : Int) := of_decide_eq_true (zq51)
        have q287 : x5_1 < (l0.length : Int) := of_decide_eq_true (zq51)
        obtain ⟨ad287, e287, hx287_0⟩ := Kd.at_int HR0.out x5_1 p287 q287
        cases e287
        replace p287 := eq_true p287
        replace q287 := eq_true q287
        have p288 : 0 ≤ (x5_1 : Int) := of_decide_eq_true (zq51)
        have q288 : x5_1 < (l1.length : Int) := of_decide_eq_true (zq51)
        obtain ⟨ad288, e288, hx288_0⟩ := Kd.at_int HR1.out x5_1 p288 q288
        cases e288
        replace p288 := eq_true p288
        replace q288 := eq_true q288
        go_wp2
        repeat (go_quiet (fail); try go_wp2)
        go_ret
        exact ⟨zq52, zq50⟩
      ·rw [if_neg c6] at H
       exact absurd H (by simp)
     ·rw [if_neg c5] at H
      exact absurd H (by simp)
    ·rw [if_neg c4] at H
     have c4b0 : decide (x5_1 < (l0.length : Int)) = false := decide_eq_false c4
     clear c4
     obtain rfl := Option.some.inj H
     go_wp2
     repeat (go_quiet (fail); try go_wp2)
     go_ret
     exact ⟨zq52, zq50⟩
 ·rw [if_neg c3] at H
  have c3b0 : ((l0.length : Int) == (l1.length : Int)) = false := beq_eq_false_iff_ne.mpr c3
  have c3b1 : ((l0.length : Int) != (l1.length : Int)) = true := bne_iff_ne.mpr c3
  have c3b2 : (l0.length == l1.length) = false := by first | simpa using c3 | (simp at c3 ⊢; omega)
  obtain rfl := Option.some.inj H
  go_enter Try.func59, Try.ntmps59
  go_wp2
  repeat (go_quiet (fail); try go_wp2)
  go_ret
  exact ⟨zq52, zq50⟩
end Go.Proofs.Ytcmaidpoolcelaa.P
