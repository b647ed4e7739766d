/- Functions of the program as plain Lean functions, and proofs that the machine's calls do what these do: written by a program of this workplace (wip/tools/pp.py). -/
import Derived.BigQuiet
import Derived.Deep.DeepCutAuto
import Derived.Deep.RegionHeld3
import Derived.Deep.RegionLaw
import Derived.Deep.RegionWith
import Derived.IntWalk
import Derived.Lib.Hide
import Derived.Outline
import Derived.Test.YtcmaidpoolcelaaScPx0
import Derived.WalkSpells
import Derived.Test.YtcmaidpoolcelaaScK1
import Derived.Test.YtcmaidpoolcelaaScK2
import Derived.Test.YtcmaidpoolcelaaScK3
import Derived.Test.YtcmaidpoolcelaaScK5
import Derived.Test.YtcmaidpoolcelaaScK7
import Derived.Test.YtcmaidpoolcelaaScSh
namespace Go.Proofs.Ytcmaidpoolcelaa.P
open Go.RowKit Go.Proofs.YtcmaidpoolcelaaW.PrintWords Go.Proofs.YtcmaidpoolcelaaW.PrintLast Go.Proofs.YtcmaidpoolcelaaW.PrintMore
attribute [local go_sem] max2_int min2_int max_two min_two max_three min_three max_four min_four   -- for this text's walks alone
set_option linter.unusedVariables false
set_option linter.unusedSimpArgs false

/-! ### gilboa_good: function 105 -/
def gilboa_good.f (a0 : Int) (a1 : Int) : Option (Bool) := if a0 ≥ 1 then (if a0 ≤ 64 then (if a1 ≥ 1 then (some (decide (a1 ≤ 6))) else (some false)) else (some false)) else (some false)
set_option maxHeartbeats 8000000 in
set_option maxRecDepth 100000 in
theorem gilboa_good.calls (a0 : Int) (a1 : Int) (r : Bool) (w : World) (h : gilboa_good.f a0 a1 = some r) :
  Calls Try.prog 105 #[.int .i64 a0, .int .i64 a1] w fun e w' => e = .returned (.bool r) ∧ Drawn0 w w' := by
 have H : (if a0 ≥ 1 then (if a0 ≤ 64 then (if a1 ≥ 1 then (some (decide (a1 ≤ 6))) else (some false)) else (some false)) else (some false)) = some r := h
 clear h
 by_cases c3 : a0 ≥ 1
 ·rw [if_pos c3] at H
  have c3b0 : decide (1 ≤ a0) = true := decide_eq_true c3
  clear c3
  by_cases c4 : a0 ≤ 64
  ·rw [if_pos c4] at H
   have c4b0 : decide (a0 ≤ 64) = true := decide_eq_true c4
   clear c4
   by_cases c5 : a1 ≥ 1
   ·rw [if_pos c5] at H
    have c5b0 : decide (1 ≤ a1) = true := decide_eq_true c5
    clear c5
    obtain rfl := Option.some.inj H
    go_enter Try.func105, Try.ntmps105
    go_wp2
    go_ret
    exact ⟨zq40, zq38⟩
   ·rw [if_neg c5] at H
    have c5b0 : decide (1 ≤ a1) = false := decide_eq_false c5
    clear c5
    obtain rfl := Option.some.inj H
    go_enter Try.func105, Try.ntmps105
    go_wp2
    go_ret
    exact ⟨zq40, zq38⟩
  ·rw [if_neg c4] at H
   have c4b0 : decide (a0 ≤ 64) = false := decide_eq_false c4
   clear c4
   obtain rfl := Option.some.inj H
   go_enter Try.func105, Try.ntmps105
   go_wp2
   go_ret
   exact ⟨zq40, zq38⟩
 ·rw [if_neg c3] at H
  have c3b0 : decide (1 ≤ a0) = false := decide_eq_false c3
  clear c3
  obtain rfl := Option.some.inj H
  go_enter Try.func105, Try.ntmps105
  go_wp2
  go_ret
  exact ⟨zq40, zq38⟩

/-! ### gilboa_Fold: function 71 -/
mutual
def gilboa_Fold.j0 : Nat → Int → Int → List Int → Bool → Option (List Int × Int)
 | 0, _, _, _, _ => none
 | k + 1, x0, x1, x2, x30 => if x30 = true then (some (([] : List Int), 11)) else (if x0 = 0 then (none) else (if 0 ≤ (wrap64 ((x2.length : Int) / x0)) then (if (wrap64 ((x2.length : Int) / x0) : Int).toNat ≤ 35184372088832 then (gilboa_Fold.l0 k x0 x1 x2 (([] : List Int)) 0) else (none)) else (none)))
def gilboa_Fold.l0 : Nat → Int → Int → List Int → List Int → Int → Option (List Int × Int)
 | 0, _, _, _, _, _ => none
 | k + 1, x0, x1, x2, x8, x9 => if x9 < (x2.length : Int) then (if 0 ≤ x1 then (if (x1 : Int).toNat ≤ 35184372088832 then (gilboa_Fold.l1 k x0 x1 x2 x8 x9 (List.replicate (x1 : Int).toNat 0) x0 0) else (none)) else (none)) else (some (x8, 0))
def gilboa_Fold.l1 : Nat → Int → Int → List Int → List Int → Int → List Int → Int → Int → Option (List Int × Int)
 | 0, _, _, _, _, _, _, _, _ => none
 | k + 1, x0, x1, x2, x8, x9, x10, x47, x48 => if x48 < x47 then (if 0 ≤ (wrap64 (x9 + (wrap64 (x48 * x1)))) then (if (wrap64 (x9 + (wrap64 (x48 * x1)))) ≤ (wrap64 (x9 + (wrap64 ((wrap64 (x48 + 1)) * x1)))) then (if (wrap64 (x9 + (wrap64 ((wrap64 (x48 + 1)) * x1)))) ≤ (x2.length : Int) then ((ring_AddAll.f x0 x10 ((x2.take ((wrap64 (x9 + (wrap64 ((wrap64 (x48 + 1)) * x1)))) : Int).toNat).drop ((wrap64 (x9 + (wrap64 (x48 * x1)))) : Int).toNat)).bind fun bt632 => (gilboa_Fold.l1 k x0 x1 x2 x8 x9 bt632.1 x47 (wrap64 (x48 + 1)))) else (none)) else (none)) else (none)) else (if x8.length + x10.length < 17592186044416 then (gilboa_Fold.l0 k x0 x1 x2 (x8 ++ x10) (wrap64 (x9 + (wrap64 (x0 * x1))))) else (none))
end
def gilboa_Fold.f (k : Nat) (a0 : Int) (a1 : Int) (l2 : List Int) : Option (List Int × Int) := (gilboa_good.f a0 a1).bind fun t623 => (if t623 = true then (if (wrap64 (a0 * a1)) = 0 then (none) else (if ((l2.length : Int) % (wrap64 (a0 * a1))) = 0 then ((ring_Fits.f a0 l2).bind fun t624 => (gilboa_Fold.j0 k a0 a1 l2 (!t624))) else (gilboa_Fold.j0 k a0 a1 l2 true))) else (gilboa_Fold.j0 k a0 a1 l2 true))
set_option maxHeartbeats 8000000 in
set_option maxRecDepth 100000 in
theorem gilboa_Fold.calls (k : Nat) (a0 : Int) (a1 : Int) (A2 : Option Addr) (c2 : Nat) (l2 : List Int) (r1 : List Int) (r2 : Int) (w : World) (hr2 : Kd.C (Kd.int .u64) w A2 l2.length l2) (hc2 : l2.length ≤ c2) (h : gilboa_Fold.f k a0 a1 l2 = some (r1, r2)) :
  Calls Try.prog 71 #[.int .i64 a0, .int .i64 a1, .slice A2 l2.length c2] w fun e w' => ∃ v0_ : Value, e = .returned (.tuple #[v0_, .int .i64 r2]) ∧ Kd.R (Kd.int .u64) 35 w' w.heap.size (fun _ => True) v0_ r1 ∧ Below w.heap.size w w' := by
 have HR2 := Aside0.mk hr2
 have HC2 := Aside0.mk hc2
 clear hr2 hc2
 have HB := Aside0.mk (Below.refl w.heap.size w)
 have H : ((gilboa_good.f a0 a1).bind fun t623 => (if t623 = true then (if (wrap64 (a0 * a1)) = 0 then (none) else (if ((l2.length : Int) % (wrap64 (a0 * a1))) = 0 then ((ring_Fits.f a0 l2).bind fun t624 => (gilboa_Fold.j0 k a0 a1 l2 (!t624))) else (gilboa_Fold.j0 k a0 a1 l2 true))) else (gilboa_Fold.j0 k a0 a1 l2 true))) = some (r1, r2) := h
 clear h
 have HC4 := Aside0.mk H
 clear H
 go_enter Try.func71, Try.ntmps71
 go_upto_region 1 with (fail)
 go_cut [30] (fun v30 wc => ∃ (kq : Nat) (x30_3 : Bool), v30 = .bool x30_3 ∧ Aside0 (gilboa_Fold.j0 kq a0 a1 l2 x30_3 = some (r1, r2)) ∧ Aside0 (kq ≤ k) ∧ Aside0 (Below w.heap.size w wc))
 case first =>
  have H := HC4.out
  clear HC4
  replace H := Option.bind_eq_some_iff.mp H
  obtain ⟨t623, A50, H⟩ := H
  replace H : (if t623 = true then (if (wrap64 (a0 * a1)) = 0 then (none) else (if ((l2.length : Int) % (wrap64 (a0 * a1))) = 0 then ((ring_Fits.f a0 l2).bind fun t624 => (gilboa_Fold.j0 k a0 a1 l2 (!t624))) else (gilboa_Fold.j0 k a0 a1 l2 true))) else (gilboa_Fold.j0 k a0 a1 l2 true)) = some (r1, r2) := H
  have A5 := Aside0.mk A50
  clear A50
  by_cases c6 : t623 = true
  ·subst c6
   have H1 : (if (wrap64 (a0 * a1)) = 0 then (none) else (if ((l2.length : Int) % (wrap64 (a0 * a1))) = 0 then ((ring_Fits.f a0 l2).bind fun t624 => (gilboa_Fold.j0 k a0 a1 l2 (!t624))) else (gilboa_Fold.j0 k a0 a1 l2 true))) = some (r1, r2) := by rw [if_pos rfl] at H; exact H
   clear H
   have H := H1
   clear H1
   by_cases c7 : (wrap64 (a0 * a1)) = 0
   ·rw [if_pos c7] at H
    exact absurd H (by simp)
   ·rw [if_neg c7] at H
    have c7b0 : ((wrap64 (a0 * a1)) == 0) = false := beq_eq_false_iff_ne.mpr c7
    have c7b1 : ((wrap64 (a0 * a1)) != 0) = true := bne_iff_ne.mpr c7
    (first | rw [c7b0] | (simp only [i64_w, i32_w]; rw [c7b0]) | skip)
    by_cases c8 : ((l2.length : Int) % (wrap64 (a0 * a1))) = 0
    ·rw [if_pos c8] at H
     have c8b0 : (((l2.length : Int) % (wrap64 (a0 * a1))) == 0) = true := beq_iff_eq.mpr c8
     have c8b1 : (((l2.length : Int) % (wrap64 (a0 * a1))) != 0) = false := bne_eq_false_iff_eq.mpr c8
     clear c8
     replace H := Option.bind_eq_some_iff.mp H
     obtain ⟨t624, A90, H⟩ := H
     replace H : (gilboa_Fold.j0 k a0 a1 l2 (!t624)) = some (r1, r2) := H
     have A9 := Aside0.mk A90
     clear A90
     have H' := Aside0.mk H
     clear H
     go_wp2_with (first | ((with_reducible refine gate_callee (f := 105) rfl ?_); refine goesL_ (some 14) rfl rfl Try.func105 (zq43) rfl #[.int .i64 a0, .int .i64 a1] rfl (zq26) ?_; (with_reducible refine (gilboa_good.calls a0 a1 true _ A5.out).mono ?_); rintro e w' ⟨rfl, ⟨nd, rfl⟩⟩; refine ⟨_, rfl, ?_⟩) | (go_at_call 65; (with_reducible refine (ring_Fits.calls a0 _ _ l2 t624 _ ?side1 ?side2 A9.out).mono ?_); (case side1 => repeat (first | exact (Kd.C_below HR2.out HB.bl) | (with_reducible refine Kd.C_alloc ?_ _) | (with_reducible refine Kd.C_drewN ?_ _) | (with_reducible refine Kd.C_drew ?_))); (case side2 => exact HC2.out); rintro e w10 ⟨rfl, hb⟩; replace HB := Aside0.mk (below_step HB.bl hb); (try clear hb); (try clear hb2); (try clear hk); (try clear hi)))
     go_meet
     case rel => exact ⟨_, (!t624), (zq40), H', ⟨zq41⟩, ⟨HB.bl⟩⟩
    ·rw [if_neg c8] at H
     have c8b0 : (((l2.length : Int) % (wrap64 (a0 * a1))) == 0) = false := beq_eq_false_iff_ne.mpr c8
     have c8b1 : (((l2.length : Int) % (wrap64 (a0 * a1))) != 0) = true := bne_iff_ne.mpr c8
     have H' := Aside0.mk H
     clear H
     go_wp2_with (first | ((with_reducible refine gate_callee (f := 105) rfl ?_); refine goesL_ (some 14) rfl rfl Try.func105 (zq43) rfl #[.int .i64 a0, .int .i64 a1] rfl (zq26) ?_; (with_reducible refine (gilboa_good.calls a0 a1 true _ A5.out).mono ?_); rintro e w' ⟨rfl, ⟨nd, rfl⟩⟩; refine ⟨_, rfl, ?_⟩))
     go_meet
     case rel => exact ⟨_, (true), (zq40), H', ⟨zq41⟩, ⟨HB.bl⟩⟩
  ·replace c6 := Bool.eq_false_iff.mpr c6
   subst c6
   have H1 : (gilboa_Fold.j0 k a0 a1 l2 true) = some (r1, r2) := by rw [if_neg (show ¬ (false = true) by decide)] at H; exact H
   clear H
   have H := H1
   clear H1
   have H' := Aside0.mk H
   clear H
   go_wp2_with (first | ((with_reducible refine gate_callee (f := 105) rfl ?_); refine goesL_ (some 14) rfl rfl Try.func105 (zq43) rfl #[.int .i64 a0, .int .i64 a1] rfl (zq26) ?_; (with_reducible refine (gilboa_good.calls a0 a1 false _ A5.out).mono ?_); rintro e w' ⟨rfl, ⟨nd, rfl⟩⟩; refine ⟨_, rfl, ?_⟩))
   go_meet
   case rel => exact ⟨_, (true), (zq40), H', ⟨zq41⟩, ⟨HB.bl⟩⟩
 case rest =>
  clear HC4
  try clear c1
  try clear c2
  try clear p2
  try clear c6
  try clear p6
  try clear c7
  try clear c7b0
  try clear c7b1
  try clear c8
  try clear c8b0
  try clear c8b1
  try clear c10
  obtain ⟨kq, x30_3, rfl, HA, HJ3, HB⟩ := hcut
  cases kq with
  | zero => exact absurd HA.out (by simp [gilboa_Fold.j0])
  | succ kj3 =>
   have H := HA.out
   clear HA
   simp only [gilboa_Fold.j0] at H
   by_cases c11 : x30_3 = true
   ·subst c11
    have H1 : (some (([] : List Int), 11)) = some (r1, r2) := by rw [if_pos rfl] at H; exact H
    clear H
    have H := H1
    clear H1
    simp only [Option.some.injEq, Prod.mk.injEq] at H
    obtain ⟨rfl, rfl⟩ := H
    go_wp2
    go_ret2
    exact ⟨_, zq37, zq25, HB.bl⟩
   ·replace c11 := Bool.eq_false_iff.mpr c11
    subst c11
    have H1 : (if a0 = 0 then (none) else (if 0 ≤ (wrap64 ((l2.length : Int) / a0)) then (if (wrap64 ((l2.length : Int) / a0) : Int).toNat ≤ 35184372088832 then (gilboa_Fold.l0 kj3 a0 a1 l2 (([] : List Int)) 0) else (none)) else (none))) = some (r1, r2) := by rw [if_neg (show ¬ (false = true) by decide)] at H; exact H
    clear H
    have H := H1
    clear H1
    by_cases c12 : a0 = 0
    ·rw [if_pos c12] at H
     exact absurd H (by simp)
    ·rw [if_neg c12] at H
     have c12b0 : (a0 == 0) = false := beq_eq_false_iff_ne.mpr c12
     have c12b1 : (a0 != 0) = true := bne_iff_ne.mpr c12
     obtain ⟨ji13, hji13⟩ : ∃ j_ : Int, (wrap64 ((l2.length : Int) / a0)) = j_ := ⟨_, rfl⟩
     replace H : (if 0 ≤ (ji13) then (if (ji13 : Int).toNat ≤ 35184372088832 then (gilboa_Fold.l0 kj3 a0 a1 l2 (([] : List Int)) 0) else (none)) else (none)) = some (r1, r2) := by first | (rw [hji13] at H; exact H) | (simp only [hji13] at H ⊢; exact H)
     have hji13w : (IntKind.i64.wrap ((l2.length : Int) / a0)) = ji13 := (i64_w _).trans hji13
     by_cases c14 : 0 ≤ (ji13)
     ·rw [if_pos c14] at H
      have c14b0 := eq_true c14
      have c14b1 : decide (0 ≤ (ji13)) = true := decide_eq_true c14
      clear c14
      by_cases c15 : (ji13 : Int).toNat ≤ 35184372088832
      ·rw [if_pos c15] at H
       have c15b0 := eq_true c15
       have c15b1 : decide ((ji13 : Int).toNat ≤ 35184372088832) = true := decide_eq_true c15
       clear c15
       obtain ⟨y625, hy625⟩ : ∃ y_ : List Int, y_ = (([] : List Int)) := ⟨_, rfl⟩
       replace H : (gilboa_Fold.l0 kj3 a0 a1 l2 y625 0) = some (r1, r2) := by first | (rw [hy625]; with_reducible exact H) | (have H2_ := (Option.bind_some _ _).symm.trans H; rw [hy625]; with_reducible exact H2_) | (have H2_ := (Option.bind_some _ _).symm.trans H; with_reducible exact H2_) | with_reducible exact H | (rw [hy625]; exact H) | exact H
       have Ny625 := Aside0.mk hy625
       clear hy625
       have H' := Aside0.mk H
       clear H
       go_wp2_with (first | ((with_reducible refine gate_dst (N := 35) rfl ?_); (try (refine gate_guard (by rfl) ?_; dsimp only)); refine Kd.R_makecap (Kd.int .u64) _ 35 rfl (N := 35) rfl 24 _ _ rfl ji13 rfl rfl Try.underlying24 (.int .u64 0) 8 info35 rfl (by decide) (by omega) 0 (ok := fun _ => True) (okp := fun _ => True) rfl (fun _ hk => hk) trivial (of_decide_eq_true (zq39)) (Nat.le_trans (Nat.mul_le_mul_right _ (of_decide_eq_true (zq39) : ji13.toNat ≤ 35184372088832)) (by omega)) (Below.refl _ _) (Nat.le_refl _) ?_; intro v626 w16 ho17 hb hg_ hnew_; clear hg_ hnew_; (first | rw [← Ny625.out] at ho17 | (simp only [Int.reduceToNat] at ho17; rw [← Ny625.out] at ho17)); have HO627 := Aside0.mk (Kd.R_lower ho17 (below_size HB.bl)); replace HB := Aside0.mk (below_step HB.bl hb); clear hb ho17))
       go_loopg [8, 9] kj3 (fun kq v8 v9 w' => ∃ (x8_2 : List Int) (x9_2 : Int), v9 = .int .i64 x9_2 ∧ Aside0 (gilboa_Fold.l0 kq a0 a1 l2 x8_2 x9_2 = some (r1, r2)) ∧ Aside0 (kq ≤ kj3) ∧ Aside0 (Kd.R (Kd.int .u64) 35 w' w.heap.size (fun _ => True) v8 x8_2) ∧ Aside0 (Below w.heap.size w w'))
       case atStart => exact ⟨(y625), (0), (zq40), H', ⟨Nat.le_refl _⟩, ⟨HO627.r⟩, ⟨HB.bl⟩⟩
       case round =>
        clear H'
        try clear c1
        try clear c2
        try clear p2
        try clear c6
        try clear p6
        try clear c7
        try clear c7b0
        try clear c7b1
        try clear c8
        try clear c8b0
        try clear c8b1
        try clear c10
        try clear c11
        try clear c12
        try clear c12b0
        try clear c12b1
        try clear c14
        try clear c14b0
        try clear c14b1
        try clear c15
        try clear c15b0
        try clear c15b1
        try clear p2
        try clear p6
        obtain ⟨x8_2, x9_2, rfl, HA, HK2, HO_8, HB⟩ := hrel
        cases gk with
        | zero => exact absurd HA.out (by simp [gilboa_Fold.l0])
        | succ k2 =>
         have H := HA.out
         clear HA
         simp only [gilboa_Fold.l0] at H
         by_cases c18 : x9_2 < (l2.length : Int)
         ·rw [if_pos c18] at H
          have c18b0 : decide (x9_2 < (l2.length : Int)) = true := decide_eq_true c18
          clear c18
          by_cases c19 : 0 ≤ a1
          ·rw [if_pos c19] at H
           have c19b0 := eq_true c19
           have c19b1 : decide (0 ≤ a1) = true := decide_eq_true c19
           clear c19
           by_cases c20 : (a1 : Int).toNat ≤ 35184372088832
           ·rw [if_pos c20] at H
            have c20b0 := eq_true c20
            have c20b1 : decide ((a1 : Int).toNat ≤ 35184372088832) = true := decide_eq_true c20
            clear c20
            obtain ⟨y628, hy628⟩ : ∃ y_ : List Int, y_ = (List.replicate (a1 : Int).toNat 0) := ⟨_, rfl⟩
            replace H : (gilboa_Fold.l1 k2 a0 a1 l2 x8_2 x9_2 y628 a0 0) = some (r1, r2) := by first | (rw [hy628]; with_reducible exact H) | (have H2_ := (Option.bind_some _ _).symm.trans H; rw [hy628]; with_reducible exact H2_) | (have H2_ := (Option.bind_some _ _).symm.trans H; with_reducible exact H2_) | with_reducible exact H | (rw [hy628]; exact H) | exact H
            have Ny628 := Aside0.mk hy628
            clear hy628
            have H' := Aside0.mk H
            clear H
            go_wp2_with (first | ((with_reducible refine gate_dst (N := 46) rfl ?_); (try (refine gate_guard (by rfl) ?_; dsimp only)); refine Kd.R_make (Kd.int .u64) _ 35 rfl (N := 46) rfl 24 _ _ rfl a1 rfl rfl Try.underlying24 (.int .u64 0) 8 info35 rfl (by decide) (by omega) 0 (ok := fun _ => True) (okp := fun _ => True) rfl (fun _ hk => hk) trivial (of_decide_eq_true (zq39)) (Nat.le_trans (Nat.mul_le_mul_right _ (of_decide_eq_true (zq39) : a1.toNat ≤ 35184372088832)) (by omega)) (Below.refl _ _) (Nat.le_refl _) ?_; intro v629 w21 ho22 hb hg_ hnew_; clear hg_ hnew_; (first | rw [← Ny628.out] at ho22 | (simp only [Int.reduceToNat] at ho22; rw [← Ny628.out] at ho22)); have n0_ := Aside0.mk (Kd.R_elder' HO_8.r (Kd.R_base ho22) hb); have n1_ := Aside0.mk (Kd.R_lower (Kd.R_new' ho22 (Kd.R_lt HO_8.r)) (below_size HB.bl)); have n2_ := Aside0.mk (below_step HB.bl hb); clear HO_8; clear HB; have HO_8 := n0_; have HO630 := n1_; have HB := n2_; clear n0_ n1_ n2_; clear hb ho22))
            go_loopg [10, 48] k2 (fun kq v10 v48 w' => ∃ (x10_3 : List Int) (x48_3 : Int), v48 = .int .i64 x48_3 ∧ Aside0 (gilboa_Fold.l1 kq a0 a1 l2 x8_2 x9_2 x10_3 a0 x48_3 = some (r1, r2)) ∧ Aside0 (kq ≤ k2) ∧ Aside0 (Kd.R (Kd.int .u64) 35 w' w.heap.size (fun k_ => some k_ ≠ (v10 : Value).ownBlock) u8 x8_2) ∧ Aside0 (Kd.R (Kd.int .u64) 35 w' w.heap.size (fun k_ => some k_ ≠ (u8 : Value).ownBlock) v10 x10_3) ∧ Aside0 (Below w.heap.size w w'))
            case atStart => exact ⟨(y628), (0), (zq40), H', ⟨Nat.le_refl _⟩, ⟨by (with_reducible repeat (first | apply Kd.R_alloc | apply Kd.R_drewN | apply Kd.R_drew)); exact Kd.R_mono HO_8.out (fun _ hk => hk.2)⟩, ⟨by (with_reducible repeat (first | apply Kd.R_alloc | apply Kd.R_drewN | apply Kd.R_drew)); exact Kd.R_mono HO630.out (fun _ hk => hk.2)⟩, ⟨HB.bl⟩⟩
            case round =>
             clear H'
             try clear c1
             try clear c2
             try clear p2
             try clear c6
             try clear p6
             try clear c7
             try clear c7b0
             try clear c7b1
             try clear c8
             try clear c8b0
             try clear c8b1
             try clear c10
             try clear c11
             try clear c12
             try clear c12b0
             try clear c12b1
             try clear c14
             try clear c14b0
             try clear c14b1
             try clear c15
             try clear c15b0
             try clear c15b1
             try clear c18
             try clear c18b0
             try clear c19
             try clear c19b0
             try clear c19b1
             try clear c20
             try clear c20b0
             try clear c20b1
             try clear p2
             try clear p6
             obtain ⟨x10_3, x48_3, rfl, HA, HK3, HO_8, HO_10, HB⟩ := hrel
             cases gk with
             | zero => exact absurd HA.out (by simp [gilboa_Fold.l1])
             | succ k3 =>
              have H := HA.out
              clear HA
              simp only [gilboa_Fold.l1] at H
              by_cases c23 : x48_3 < a0
              ·rw [if_pos c23] at H
               have c23b0 : decide (x48_3 < a0) = true := decide_eq_true c23
               clear c23
               obtain ⟨ji24, hji24⟩ : ∃ j_ : Int, (wrap64 (x9_2 + (wrap64 (x48_3 * a1)))) = j_ := ⟨_, rfl⟩
               replace H : (if 0 ≤ (ji24) then (if (ji24) ≤ (wrap64 (x9_2 + (wrap64 ((wrap64 (x48_3 + 1)) * a1)))) then (if (wrap64 (x9_2 + (wrap64 ((wrap64 (x48_3 + 1)) * a1)))) ≤ (l2.length : Int) then ((ring_AddAll.f a0 x10_3 ((l2.take ((wrap64 (x9_2 + (wrap64 ((wrap64 (x48_3 + 1)) * a1)))) : Int).toNat).drop ((ji24) : Int).toNat)).bind fun bt632 => (gilboa_Fold.l1 k3 a0 a1 l2 x8_2 x9_2 bt632.1 a0 (wrap64 (x48_3 + 1)))) else (none)) else (none)) else (none)) = some (r1, r2) := by first | (rw [hji24] at H; exact H) | (simp only [hji24] at H ⊢; exact H)
               have hji24w : (IntKind.i64.wrap (x9_2 + (wrap64 (x48_3 * a1)))) = ji24 := (i64_w _).trans hji24
               by_cases c25 : 0 ≤ (ji24)
               ·rw [if_pos c25] at H
                have c25b0 := eq_true c25
                have c25b1 : decide (0 ≤ (ji24)) = true := decide_eq_true c25
                clear c25
                by_cases c26 : (ji24) ≤ (wrap64 (x9_2 + (wrap64 ((wrap64 (x48_3 + 1)) * a1))))
                ·rw [if_pos c26] at H
                 have c26b0 := eq_true c26
                 have c26b1 : decide ((ji24) ≤ (wrap64 (x9_2 + (wrap64 ((wrap64 (x48_3 + 1)) * a1))))) = true := decide_eq_true c26
                 by_cases c27 : (wrap64 (x9_2 + (wrap64 ((wrap64 (x48_3 + 1)) * a1)))) ≤ (l2.length : Int)
                 ·rw [if_pos c27] at H
                  have c27b0 := eq_true c27
                  have c27b1 : decide ((wrap64 (x9_2 + (wrap64 ((wrap64 (x48_3 + 1)) * a1)))) ≤ (l2.length : Int)) = true := decide_eq_true c27
                  replace H := Option.bind_eq_some_iff.mp H
                  obtain ⟨⟨t632, t633⟩, A280, H⟩ := H
                  replace H : (gilboa_Fold.l1 k3 a0 a1 l2 x8_2 x9_2 t632 a0 (wrap64 (x48_3 + 1))) = some (r1, r2) := H
                  have A28 := Aside0.mk A280
                  clear A280
                  have H' := Aside0.mk H
                  clear H
                  obtain ⟨i029, hi029, _, hsz29, _⟩ := info_parts info35
                  obtain ⟨A29, hcut29, hA29, hC29⟩ := print_mid_of (P := Try.prog) (Value.int .u64) 0 24 35 .i64 .i64 Try.underlying24 hi029 hsz29 A2 c2 l2 (ji24) (wrap64 (x9_2 + (wrap64 ((wrap64 (x48_3 + 1)) * a1)))) (of_decide_eq_true (zq39)) (by first | omega | exact of_decide_eq_true (by first | (with_reducible assumption) | assumption)) (of_decide_eq_true (zq39)) HC2.out
                  have HR631 := Aside0.mk (Kd.C_of_reads (h1 := fun _ => rfl) (hA29 _ (Kd.reads_of_C HR2.out)))
                  have HC631 := Aside0.mk hC29
                  clear hA29 hC29 hi029 hsz29
                  obtain ⟨Ao30, co30, eo30⟩ := Kd.R_slice HO_10.out
                  subst eo30
                  go_wp2_with (first | ((with_reducible refine gate_callee (f := 60) rfl ?_); refine goesL_ (some 67) rfl rfl Try.func60 (zq43) rfl #[.int .i64 a0, .slice Ao30 x10_3.length co30, .slice A29 ((l2.take ((wrap64 (x9_2 + (wrap64 ((wrap64 (x48_3 + 1)) * a1)))) : Int).toNat).drop ((ji24) : Int).toNat).length (c2 - (ji24).toNat)] rfl (by (try simp only [List.map_toArray, List.map_cons, List.map_nil]); first | done | (rw [show ((l2.take ((wrap64 (x9_2 + (wrap64 ((wrap64 (x48_3 + 1)) * a1)))) : Int).toNat).drop ((ji24) : Int).toNat).length = ((wrap64 (x9_2 + (wrap64 ((wrap64 (x48_3 + 1)) * a1)))).toNat - (ji24).toNat) from (by rw [List.length_drop, List.length_take]; have h_ : ((wrap64 (x9_2 + (wrap64 ((wrap64 (x48_3 + 1)) * a1)))) : Int) ≤ (l2.length : Int) := of_decide_eq_true (by first | (with_reducible assumption) | assumption); omega)] <;> rfl) | (simp only [hji24]; rfl) | rfl | (simp only [List.length_drop, List.length_take]; rfl)) ?_; (with_reducible refine (ring_AddAll.calls a0 _ _ x10_3 _ _ ((l2.take ((wrap64 (x9_2 + (wrap64 ((wrap64 (x48_3 + 1)) * a1)))) : Int).toNat).drop ((ji24) : Int).toNat) t632 t633 _ ?side1 ?side2 ?side3 ?side4 A28.out).mono ?_); (case side1 => repeat (first | exact (Kd.R_reads' HO_10.out).2.2 | (with_reducible refine Kd.C_alloc ?_ _) | (with_reducible refine Kd.C_drewN ?_ _) | (with_reducible refine Kd.C_drew ?_))); (case side2 => exact (Kd.R_reads' HO_10.out).2.1); (case side3 => repeat (first | exact (Kd.C_below HR631.out HB.out) | (with_reducible refine Kd.C_alloc ?_ _) | (with_reducible refine Kd.C_drewN ?_ _) | (with_reducible refine Kd.C_drew ?_))); (case side4 => exact HC631.out); rintro e w31 ⟨v634, rfl, ho0, hb⟩; refine ⟨_, rfl, ?_⟩; have n0_ := Aside0.mk (Kd.R_elder' HO_8.r (Kd.R_base ho0) hb); have n1_ := Aside0.mk (Kd.R_elder' HO_10.r (Kd.R_base ho0) hb); have n2_ := Aside0.mk (Kd.R_lower (Kd.R_new' (Kd.R_new' ho0 (Kd.R_lt HO_8.r)) (Kd.R_lt HO_10.r)) (below_size HB.bl)); have n3_ := Aside0.mk (below_step HB.bl hb); clear HO_8; clear HO_10; clear HB; have HO_8 := n0_; have HO_10 := n1_; have HO635 := n2_; have HB := n3_; clear n0_ n1_ n2_ n3_; (try clear hb); (try clear hb2); (try clear hk); (try clear hi); (try clear ho0)))
                  go_roundg k3
                  case measure => have := HJ3.out; have := HK2.out; have := HK3.out; omega
                  case rel => exact ⟨(t632), (wrap64 (x48_3 + 1)), (zq40), H', ⟨by have := HJ3.out; have := HK2.out; have := HK3.out; omega⟩, ⟨by (with_reducible repeat (first | apply Kd.R_alloc | apply Kd.R_drewN | apply Kd.R_drew)); exact Kd.R_mono HO_8.out (fun _ hk => hk.2)⟩, ⟨by (with_reducible repeat (first | apply Kd.R_alloc | apply Kd.R_drewN | apply Kd.R_drew)); exact Kd.R_mono HO635.out (fun _ hk => hk.1.2)⟩, ⟨HB.bl⟩⟩
                 ·rw [if_neg c27] at H
                  exact absurd H (by simp)
                ·rw [if_neg c26] at H
                 exact absurd H (by simp)
               ·rw [if_neg c25] at H
                exact absurd H (by simp)
              ·rw [if_neg c23] at H
               have c23b0 : decide (x48_3 < a0) = false := decide_eq_false c23
               clear c23
               by_cases c32 : x8_2.length + x10_3.length < 17592186044416
               ·rw [if_pos c32] at H
                have LMc32 := Aside0.mk c32
                clear c32
                obtain ⟨y636, hy636⟩ : ∃ y_ : List Int, y_ = (x8_2 ++ x10_3) := ⟨_, rfl⟩
                replace H : (gilboa_Fold.l0 k3 a0 a1 l2 y636 (wrap64 (x9_2 + (wrap64 (a0 * a1))))) = some (r1, r2) := by first | (rw [hy636]; with_reducible exact H) | (have H2_ := (Option.bind_some _ _).symm.trans H; rw [hy636]; with_reducible exact H2_) | (have H2_ := (Option.bind_some _ _).symm.trans H; with_reducible exact H2_) | with_reducible exact H | (rw [hy636]; exact H) | exact H
                have Ny636 := Aside0.mk hy636
                clear hy636
                have H' := Aside0.mk H
                clear H
                obtain ⟨Ao34, co34, eo34⟩ := Kd.R_slice HO_10.out
                subst eo34
                go_wp2_with (first | ((with_reducible refine gate_builtin (b := .append) (xs := #[.tmp 71, .tmp 72]) rfl ?_); (try (refine gate_guard (by rfl) ?_; dsimp only)); at_builtin; refine Kd.R_append_rows (Kd.int .u64) (w0 := w) w.heap.size rfl (.tmp 71) (.tmp 72) 24 35 (.int .u64 0) 8 rfl Try.underlying24 info35 rfl (by decide) (by omega) u8 x8_2 x10_3 _ _ _ (fun k_ => some k_ ≠ (.slice Ao34 x10_3.length co34 : Value).ownBlock) (fun _ => False) rfl rfl ?aO ?aR (fun _ _ h => h) (fun _ h => h.elim) ?aF ?aB ?aS ?aL ?_; (case aR => repeat (first | exact (Kd.R_reads' HO_10.out).2.2 | (with_reducible refine Kd.C_alloc ?_ _) | (with_reducible refine Kd.C_drewN ?_ _) | (with_reducible refine Kd.C_drew ?_))); (case aB => exact HB.bl); (case aF => exact (fun k_ hk => Kd.fresh' (Kd.R_lt HO_10.r) k_ hk)); (case aO => exact HO_8.r); (case aS => exact (below_size HB.bl)); (case aL => have := LMc32.out; omega); intro v637 w33 ho hb hg hat; rw [← Ny636.out] at ho; replace HO_10 := Aside0.mk (Kd.R_after (ok := (fun _ => True)) (by (with_reducible repeat (first | apply Kd.R_alloc | apply Kd.R_drewN | apply Kd.R_drew)); exact Kd.R_mono HO_10.out (fun _ hk => ⟨trivial, hk⟩)) hg hat); replace HB := Aside0.mk (hb); have HO638 := Aside0.mk (ho); clear HO_8; clear ho hb hg hat))
                go_roundg k3
                case measure => have := HJ3.out; have := HK2.out; have := HK3.out; omega
                case rel => exact ⟨(y636), (wrap64 (x9_2 + (wrap64 (a0 * a1)))), (zq40), H', ⟨by have := HJ3.out; have := HK2.out; have := HK3.out; omega⟩, ⟨by (with_reducible repeat (first | apply Kd.R_alloc | apply Kd.R_drewN | apply Kd.R_drew)); exact Kd.R_mono HO638.out (fun _ hk => trivial)⟩, ⟨HB.bl⟩⟩
               ·rw [if_neg c32] at H
                exact absurd H (by simp)
           ·rw [if_neg c20] at H
            exact absurd H (by simp)
          ·rw [if_neg c19] at H
           exact absurd H (by simp)
         ·rw [if_neg c18] at H
          have c18b0 : decide (x9_2 < (l2.length : Int)) = false := decide_eq_false c18
          clear c18
          simp only [Option.some.injEq, Prod.mk.injEq] at H
          obtain ⟨rfl, rfl⟩ := H
          go_wp2
          go_ret2
          exact ⟨_, by first | rfl | (simp [errW_none, errW_some] <;> rfl) | (simp only [← hji13]; first | rfl | (simp [errW_none, errW_some] <;> rfl)) | (simp [*, errW_none, errW_some] <;> rfl), HO_8.r, HB.bl⟩
      ·rw [if_neg c15] at H
       exact absurd H (by simp)
     ·rw [if_neg c14] at H
      exact absurd H (by simp)

/-! ### scalar_Finish: function 38 -/
mutual
def scalar_Finish.j0 : Nat → List (S26) → List Int → List Int → List Int → List Int → Bool → Int → Int → Int → Int → Int → Option ((List (S26)) × Int)
 | 0, _, _, _, _, _, _, _, _, _, _, _ => none
 | k + 1, x1, x10, x11, x13, x14, x59, x640000, x640001, x640002, x640003, x640004 => if x59 = true then (some (([] : List (S26)), 11)) else (if 0 ≤ (x1.length : Int) then (if ((x1.length : Int) : Int).toNat ≤ 3909374676536 then (scalar_Finish.l0 k x10 x11 x13 x14 (([] : List (S26))) (x1.length : Int) 0 x640000 x640001 x640002 x640003 x640004) else (none)) else (none))
def scalar_Finish.l0 : Nat → List Int → List Int → List Int → List Int → List (S26) → Int → Int → Int → Int → Int → Int → Int → Option ((List (S26)) × Int)
 | 0, _, _, _, _, _, _, _, _, _, _, _, _ => none
 | k + 1, x10, x11, x13, x14, x15, x64, x65, x640000, x640001, x640002, x640003, x640004 => if x65 < x64 then (if 0 ≤ x65 then (if x65 < (x10.length : Int) then (if x65 < (x11.length : Int) then ((ring_Mul.f x640001 (rd x10 x65) (rd x11 x65)).bind fun t660 => (if x65 < (x13.length : Int) then (if x65 < (x14.length : Int) then ((ring_Add.f x640001 (rd x13 x65) (rd x14 x65)).bind fun t663 => ((ring_Add.f x640001 t660 t663).bind fun t664 => (if x15.length < 1954687338268 then (scalar_Finish.l0 k x10 x11 x13 x14 (x15 ++ [(⟨(([rd x10 x65] : List Int)), (([rd x11 x65] : List Int)), (([t664] : List Int))⟩ : S26)]) x64 (wrap64 (x65 + 1)) x640000 x640001 x640002 x640003 x640004) else (none)))) else (none)) else (none))) else (none)) else (none)) else (none)) else (some (x15, 0))
end
def scalar_Finish.f (k : Nat) (a0_0 : Int) (a0_1 : Int) (a0_2 : Int) (a0_3 : Int) (a0_4 : Int) (l1 : List (S26)) (l2 : List Int) (l3 : List Int) : Option ((List (S26)) × Int) := (scalar_parts.f k a0_0 a0_1 a0_2 a0_3 a0_4 l1).bind fun bt640 => (if bt640.2.2 = 0 then ((gilboa_Fold.f k a0_1 1 l2).bind fun bt647 => (if bt647.2 = 0 then ((gilboa_Fold.f k a0_1 1 l3).bind fun bt651 => (if bt651.2 = 0 then (if (bt647.1.length : Int) = (l1.length : Int) then (scalar_Finish.j0 k l1 bt640.1 bt640.2.1 bt647.1 bt651.1 ((bt651.1.length : Int) != (l1.length : Int)) a0_0 a0_1 a0_2 a0_3 a0_4) else (scalar_Finish.j0 k l1 bt640.1 bt640.2.1 bt647.1 bt651.1 true a0_0 a0_1 a0_2 a0_3 a0_4)) else (some (([] : List (S26)), bt651.2)))) else (some (([] : List (S26)), bt647.2)))) else (some (([] : List (S26)), bt640.2.2)))
def scalar_Finish.T16 : Bool × List (List Nat × List Nat) := (true, [([], []), ([0], [0]), ([], []), ([2], [2]), ([], []), ([], []), ([4, 5], [4, 5]), ([6], [6]), ([], []), ([], []), ([8, 9], [8, 9]), ([10], [10]), ([3, 7, 11], [3, 7, 11]), ([], []), ([13], [13]), ([], []), ([], []), ([15, 16], [15, 16]), ([17], [17]), ([], []), ([], []), ([19, 20], [19, 20]), ([21], [21]), ([14, 18, 22, 12], [14, 18, 22]), ([1, 12, 23, 23], [1, 12, 23]), ([24, 24, 0, 1, 2, 3, 4, 5, 6, 7, 8, 9, 10, 11, 12, 13, 14, 15, 16, 17, 18, 19, 20, 21, 22, 23, 24], [24])])
def scalar_Finish.B16 : List Nat := [0, 1, 0, 4, 0, 0, 48, 112, 0, 0, 768, 1792, 4092, 0, 8192, 0, 0, 98304, 229376, 0, 0, 1572864, 3670016, 8388604, 16777215, 33554431]
theorem scalar_Finish.tab16 : rtab .any (opsOf Try.f38 16) = scalar_Finish.T16 := by kernel_rfl
theorem scalar_Finish.bits16 : waitsOk scalar_Finish.T16.2 scalar_Finish.B16 = true := by kernel_rfl
def scalar_Finish.T17 : Bool × List (List Nat × List Nat) := (true, [([], []), ([], []), ([], []), ([1, 2], [1, 2]), ([3], [3]), ([4], [4]), ([], []), ([], []), ([6, 7], [6, 7]), ([8], [8]), ([9], [9]), ([], []), ([11], [11]), ([5, 10, 12], [5, 10, 12]), ([13], [13]), ([0, 14], [0, 14]), ([15, 15, 0, 1, 2, 3, 4, 5, 6, 7, 8, 9, 10, 11, 12, 13, 14, 15], [0, 15])])
def scalar_Finish.B17 : List Nat := [0, 0, 0, 6, 14, 30, 0, 0, 192, 448, 960, 0, 2048, 8190, 16382, 32767, 65535]
theorem scalar_Finish.tab17 : rtab .any (opsOf Try.f38 17) = scalar_Finish.T17 := by kernel_rfl
theorem scalar_Finish.bits17 : waitsOk scalar_Finish.T17.2 scalar_Finish.B17 = true := by kernel_rfl
-- HELP scalar_Finish
theorem fin_blk_at {W : World} {g : Nat} {o : Obj} (h : g = W.heap.size) : (W.alloc o).heap[g]? = some o := by
  rw [h]; exact heap_alloc_new W o
/-- a list of one number, in a block of the call's own -/
theorem fin_R_one {W : World} {g base : Nat} {ok : Nat → Prop} {x : Int} (hg : W.heap[g]? = some (.cells #[.int .u64 x] 35 (0, 0))) (hbase : base ≤ g) (hok : ok g) : Kd.R (Kd.int .u64) 35 W base ok (.slice (some ⟨g, 0, none⟩) 1 1) [x] :=
  Kd.R_of_own (xs := [x]) ⟨by simp [encs], .inr ⟨g, 1, #[.int .u64 x], rfl, hbase, hg, Nat.le_refl _, by unfold maxLen; omega, by simp, by simp [encs]⟩⟩ (fun k hk => by
    have : g = k := by simpa [Value.ownBlock] using hk
    rw [← this]
    exact hok)
def FinAns (w : World) (r1 : List S26) (r2 : Int) (e : Ending) (w' : World) : Prop := ∃ v0_ : Value, e = .returned (.tuple #[v0_, .int .i64 r2]) ∧ Kd.S k26 26 w' w.heap.size (fun _ => True) v0_ r1 ∧ Below w.heap.size w w'
theorem fin_none {w w' : World} {r2 : Int} {e : Ending} (he : e = .returned (.tuple #[.slice none 0 0, .int .i64 r2])) (hb : Below w.heap.size w w') : FinAns w [] r2 e w' := ⟨_, he, Kd.S_nil _ _ _ _ _, hb⟩
theorem fin_cell {w : World} {A : Option Addr} {xs : List Int} (h : Kd.C (Kd.int .u64) w A xs.length xs) (i : Nat) (hi : (i : Int) < (xs.length : Int)) : ∃ ad, A = some ad ∧ w.cell? (ad.add i) = some (.int .u64 (rd xs (i : Int))) := by
  obtain ⟨ad, e, h0⟩ := Kd.at_int h (i : Int) (by omega) hi
  rw [Int.toNat_natCast] at h0
  exact ⟨ad, e, h0⟩
theorem fin_append {ops : Array Oper} {Q : Exit → Act → World → Prop} {o : Oper} {a : Act} {Kc : Act → World → Prop} {X V w0 : World} (base : Nat) (hw : Region.wanted o (yielded ops a.tmps) = true) (s x : Operand)
    (ho : o.op = .call { callee := .builtin .append, args := #[s, x], argTypes := #[30, 30] }) (v : Value) (xs : List S26) (p : S26) (v0 v1 v2 : Value) (g nb : Nat) (hs : a.eval s = v) (hx : a.eval x = .slice (some ⟨g, 0, none⟩) 1 1) (hV : V = (X.alloc (.cells #[v0, v1, v2] 26)).drew) (hg : g = X.heap.size)
    (r0 : Kd.R (Kd.int .u64) 35 X base (fun k => nb ≤ k) v0 p.f0) (r1 : Kd.R (Kd.int .u64) 35 X base (fun k => nb ≤ k) v1 p.f1) (r2 : Kd.R (Kd.int .u64) 35 X base (fun k => nb ≤ k) v2 p.f2) (HO : Kd.S k26 26 X base (fun k => True ∧ k < nb) v xs) (HB : Below base w0 X) (hbase : base ≤ X.heap.size) (hl : xs.length < 1954687338268)
    (h : ∀ v1 w1, Kd.S k26 26 w1 base (fun _ => True) v1 (xs ++ [p]) → Below base w0 w1 → Kc (a.put o.dst v1) w1) :
    if Region.wanted o (yielded ops a.tmps) = true then Oper.wp Try.prog o a V Kc Q else Kc (a.put o.dst undef) V := by
  subst hV
  have e : (X.alloc (.cells #[v0, v1, v2] 26)).drew = X.drew.alloc (.cells [v0, v1, v2].toArray 26) := rfl
  rw [e]
  exact Kd.S_append_step k26 (w0 := w0) base hw s x 30 26 (.agg #[(.slice none 0 0), (.slice none 0 0), (.slice none 0 0)]) 72 ho Try.underlying30 info26 rfl (by decide) (by omega) v xs p [v0, v1, v2] (fun _ => True) (fun k => nb ≤ k) hs (by rw [hx, hg]; rfl) (k26_mkM _ _ _ p (Kd.R_drew r0) (Kd.R_drew r1) (Kd.R_drew r2)) (fun k hk => ⟨trivial, fun e => by have := (Kd.S_R HO).1 k e.symm; omega⟩) (fun _ _ => trivial) (Kd.S_mono (Kd.S_drew HO) (fun k hk => ⟨trivial, by have := hk.2; omega⟩)) (below_drew HB) hbase (by omega) (fun v1 w1 hr hb _ _ => h v1 w1 hr hb)
-- END HELP
set_option maxHeartbeats 8000000 in
set_option maxRecDepth 100000 in
theorem scalar_Finish.calls (k : Nat) (a0_0 : Int) (a0_1 : Int) (a0_2 : Int) (a0_3 : Int) (a0_4 : Int) (A1 : Option Addr) (c1 : Nat) (l1 : List (S26)) (A2 : Option Addr) (c2 : Nat) (l2 : List Int) (A3 : Option Addr) (c3 : Nat) (l3 : List Int) (r1 : List (S26)) (r2 : Int) (w : World) (hr1 : Kd.C k26 w A1 l1.length l1) (hc1 : l1.length ≤ c1) (hr2 : Kd.C (Kd.int .u64) w A2 l2.length l2) (hc2 : l2.length ≤ c2) (hr3 : Kd.C (Kd.int .u64) w A3 l3.length l3) (hc3 : l3.length ≤ c3) (h : scalar_Finish.f k a0_0 a0_1 a0_2 a0_3 a0_4 l1 l2 l3 = some (r1, r2)) :
  Calls Try.prog 38 #[.agg #[.int .i64 a0_0, .int .i64 a0_1, .int .i64 a0_2, .int .i64 a0_3, .int .i64 a0_4], .slice A1 l1.length c1, .slice A2 l2.length c2, .slice A3 l3.length c3] w fun e w' => ∃ v0_ : Value, e = .returned (.tuple #[v0_, .int .i64 r2]) ∧ Kd.S k26 26 w' w.heap.size (fun _ => True) v0_ r1 ∧ Below w.heap.size w w' := by
 show Calls Try.prog 38 _ w (FinAns w r1 r2)
 have hm1 := Kd.C_max hr1
 have HR1 := Aside0.mk hr1
 have HR2 := Aside0.mk hr2
 have HR3 := Aside0.mk hr3
 have HK := Aside0.mk (heap_alloc_new w (.cells #[.int .i64 a0_0, .int .i64 a0_1, .int .i64 a0_2, .int .i64 a0_3, .int .i64 a0_4] 23))
 have HB0 := Aside0.mk (below_alloc (Below.refl w.heap.size w) (.cells #[.int .i64 a0_0, .int .i64 a0_1, .int .i64 a0_2, .int .i64 a0_3, .int .i64 a0_4] 23))
 clear hr1 hr2 hr3
 obtain ⟨⟨pa, pb, pe⟩, hp, H⟩ := Option.bind_eq_some_iff.mp h
 clear h
 have HP := Lib.hid hp
 clear hp
 have HP1 := fun W hb => scalar_parts.calls k a0_0 a0_1 a0_2 a0_3 a0_4 A1 c1 l1 pa pb pe W (Kd.C_below HR1.out hb) hc1 HP.out
 have HPC := Lib.hid HP1
 clear HP1
 by_cases h1 : pe = 0
 case neg =>
  replace H : some (([] : List S26), pe) = some (r1, r2) := (if_neg h1).symm.trans H
  simp only [Option.some.injEq, Prod.mk.injEq] at H
  obtain ⟨rfl, rfl⟩ := H
  have hne : (pe != 0) = true := by simp [h1]
  clear h1
  go_enter Try.func38, Try.ntmps38
  go_wp2_with (go_at_call 70; (with_reducible refine (HPC.out _ HB0.out).mono ?_); rintro e w1 ⟨v0, v1, rfl, ho0, ho1, hb⟩; have HB1 := Aside0.mk (below_step HB0.out hb); clear ho0 ho1 hb)
  go_ret2
  exact fin_none rfl HB1.out
 case pos =>
 replace H : ((gilboa_Fold.f k a0_1 1 l2).bind fun bt647 => (if bt647.2 = 0 then ((gilboa_Fold.f k a0_1 1 l3).bind fun bt651 => (if bt651.2 = 0 then (if (bt647.1.length : Int) = (l1.length : Int) then (scalar_Finish.j0 k l1 pa pb bt647.1 bt651.1 ((bt651.1.length : Int) != (l1.length : Int)) a0_0 a0_1 a0_2 a0_3 a0_4) else (scalar_Finish.j0 k l1 pa pb bt647.1 bt651.1 true a0_0 a0_1 a0_2 a0_3 a0_4)) else (some (([] : List (S26)), bt651.2)))) else (some (([] : List (S26)), bt647.2)))) = some (r1, r2) := (if_pos h1).symm.trans H
 have hpe : (pe != 0) = false := by simp [h1]
 clear h1
 obtain ⟨⟨xa, xe⟩, hf, H⟩ := Option.bind_eq_some_iff.mp H
 have HF := Lib.hid hf
 clear hf
 have HF1 := fun W hb => gilboa_Fold.calls k a0_1 1 A2 c2 l2 xa xe W (Kd.C_below HR2.out hb) hc2 HF.out
 have HFC := Lib.hid HF1
 clear HF1
 by_cases h2 : xe = 0
 case neg =>
  replace H : some (([] : List S26), xe) = some (r1, r2) := (if_neg h2).symm.trans H
  simp only [Option.some.injEq, Prod.mk.injEq] at H
  obtain ⟨rfl, rfl⟩ := H
  have hne : (xe != 0) = true := by simp [h2]
  clear h2
  go_enter Try.func38, Try.ntmps38
  go_wp2_with (first
    | (go_at_call 70; (with_reducible refine (HPC.out _ HB0.out).mono ?_); rintro e w1 ⟨v0, v1, rfl, ho0, ho1, hb⟩; have HB1 := Aside0.mk (below_step HB0.out hb); obtain ⟨g0, g1, -⟩ := cells_5 (blk_below HK.out hb); clear ho0 ho1 hb)
    | (go_at_call 71; (with_reducible refine (HFC.out _ HB1.out).mono ?_); rintro e w2 ⟨v2, rfl, ho2, hb⟩; have HB2 := Aside0.mk (below_step HB1.out hb); clear ho2 hb))
  go_ret2
  exact fin_none rfl HB2.out
 case pos =>
 replace H : ((gilboa_Fold.f k a0_1 1 l3).bind fun bt651 => (if bt651.2 = 0 then (if (xa.length : Int) = (l1.length : Int) then (scalar_Finish.j0 k l1 pa pb xa bt651.1 ((bt651.1.length : Int) != (l1.length : Int)) a0_0 a0_1 a0_2 a0_3 a0_4) else (scalar_Finish.j0 k l1 pa pb xa bt651.1 true a0_0 a0_1 a0_2 a0_3 a0_4)) else (some (([] : List (S26)), bt651.2)))) = some (r1, r2) := (if_pos h2).symm.trans H
 have hxe : (xe != 0) = false := by simp [h2]
 clear h2
 obtain ⟨⟨ya, ye⟩, hf, H⟩ := Option.bind_eq_some_iff.mp H
 have HG := Lib.hid hf
 clear hf
 have HG1 := fun W hb => gilboa_Fold.calls k a0_1 1 A3 c3 l3 ya ye W (Kd.C_below HR3.out hb) hc3 HG.out
 have HGC := Lib.hid HG1
 clear HG1
 have tok : True := trivial
 by_cases h3 : ye = 0
 case neg =>
  replace H : some (([] : List S26), ye) = some (r1, r2) := (if_neg h3).symm.trans H
  simp only [Option.some.injEq, Prod.mk.injEq] at H
  obtain ⟨rfl, rfl⟩ := H
  have hne : (ye != 0) = true := by simp [h3]
  clear h3
  go_enter Try.func38, Try.ntmps38
  go_wp2_with (first
    | (go_at_call 70; (with_reducible refine (HPC.out _ HB0.out).mono ?_); rintro e w1 ⟨v0, v1, rfl, ho0, ho1, hb⟩; have HB1 := Aside0.mk (below_step HB0.out hb); have k1 := blk_below HK.out hb; have K1 := Aside0.mk k1; obtain ⟨g0, g1, -⟩ := cells_5 k1; clear ho0 ho1 hb k1)
    | (go_at_call 71; have _t := tok; (with_reducible refine (HFC.out _ HB1.out).mono ?_); rintro e w2 ⟨v2, rfl, ho2, hb⟩; have HB2 := Aside0.mk (below_step HB1.out hb); obtain ⟨m0, m1, -⟩ := cells_5 (blk_below K1.out hb); clear ho2 hb tok)
    | (go_at_call 71; (with_reducible refine (HGC.out _ HB2.out).mono ?_); rintro e w3 ⟨v3, rfl, ho3, hb⟩; have HB3 := Aside0.mk (below_step HB2.out hb); clear ho3 hb))
  go_ret2
  exact fin_none rfl HB3.out
 case pos =>
 replace H : (if (xa.length : Int) = (l1.length : Int) then (scalar_Finish.j0 k l1 pa pb xa ya ((ya.length : Int) != (l1.length : Int)) a0_0 a0_1 a0_2 a0_3 a0_4) else (scalar_Finish.j0 k l1 pa pb xa ya true a0_0 a0_1 a0_2 a0_3 a0_4)) = some (r1, r2) := (if_pos h3).symm.trans H
 have hye : (ye != 0) = false := by simp [h3]
 clear h3
 obtain ⟨k, rfl⟩ : ∃ q, k = q + 1 := by
  cases k with
  | zero => split at H <;> cases H
  | succ q => exact ⟨q, rfl⟩
 by_cases hlen : xa.length = l1.length ∧ ya.length = l1.length
 case neg =>
  obtain ⟨rfl, rfl⟩ : [] = r1 ∧ 11 = r2 := by
   by_cases h4 : (xa.length : Int) = (l1.length : Int)
   · rw [if_pos h4] at H
     have h5 : ((ya.length : Int) != (l1.length : Int)) = true := by rw [bne_iff_ne]; omega
     rw [h5] at H
     simp only [scalar_Finish.j0, if_true, Option.some.injEq, Prod.mk.injEq] at H
     exact H
   · rw [if_neg h4] at H
     simp only [scalar_Finish.j0, if_true, Option.some.injEq, Prod.mk.injEq] at H
     exact H
  have h6 : ((xa.length : Int) != (l1.length : Int)) = true ∨ (((xa.length : Int) != (l1.length : Int)) = false ∧ ((ya.length : Int) != (l1.length : Int)) = true) := by
   rw [bne_iff_ne, bne_iff_ne, bne_eq_false_iff_eq]
   omega
  clear H hlen
  rcases h6 with h6 | ⟨h6, h7⟩
  all_goals
   go_enter Try.func38, Try.ntmps38
   go_wp2_with (first
    | (go_at_call 70; (with_reducible refine (HPC.out _ HB0.out).mono ?_); rintro e w1 ⟨v0, v1, rfl, ho0, ho1, hb⟩; have HB1 := Aside0.mk (below_step HB0.out hb); have k1 := blk_below HK.out hb; have K1 := Aside0.mk k1; obtain ⟨g0, g1, -⟩ := cells_5 k1; clear ho0 ho1 hb k1)
    | (go_at_call 71; have _t := tok; (with_reducible refine (HFC.out _ HB1.out).mono ?_); rintro e w2 ⟨v2, rfl, ho2, hb⟩; have HB2 := Aside0.mk (below_step HB1.out hb); obtain ⟨m0, m1, -⟩ := cells_5 (blk_below K1.out hb); obtain ⟨A5, c5, rfl, -, -⟩ := Kd.R_reads ho2; clear ho2 hb tok)
    | (go_at_call 71; (with_reducible refine (HGC.out _ HB2.out).mono ?_); rintro e w3 ⟨v3, rfl, ho3, hb⟩; have HB3 := Aside0.mk (below_step HB2.out hb); obtain ⟨A6, c6, rfl, -, -⟩ := Kd.R_reads ho3; clear ho3 hb))
   go_ret2
   exact fin_none rfl HB3.out
 case pos =>
 obtain ⟨e1, e2⟩ := hlen
 rw [if_pos (by omega), show ((ya.length : Int) != (l1.length : Int)) = false by rw [bne_eq_false_iff_eq]; omega] at H
 simp only [scalar_Finish.j0] at H
 rw [if_neg (by simp), if_pos (by omega), Int.toNat_natCast] at H
 have hcap : l1.length ≤ 3909374676536 := by
  by_cases hq : l1.length ≤ 3909374676536
  · exact hq
  · rw [if_neg hq] at H; cases H
 rw [if_pos hcap] at H
 have HH := Lib.hid H
 clear H
 have b6 : ((xa.length : Int) != (l1.length : Int)) = false := by rw [bne_eq_false_iff_eq]; omega
 have b7 : ((ya.length : Int) != (l1.length : Int)) = false := by rw [bne_eq_false_iff_eq]; omega
 have E1 := Lib.hid e1
 have E2 := Lib.hid e2
 clear e1 e2
 go_enter Try.func38, Try.ntmps38
 go_wp2_with (first
    | (go_at_call 70; (with_reducible refine (HPC.out _ HB0.out).mono ?_); rintro e w1 ⟨v0, v1, rfl, ho0, ho1, hb⟩; have HB1 := Aside0.mk (below_step HB0.out hb); have k1 := blk_below HK.out hb; have K1 := Aside0.mk k1; obtain ⟨g0, g1, -⟩ := cells_5 k1; have HO0 := Aside0.mk ho0; have HO1 := Aside0.mk ho1; clear ho0 ho1 hb k1)
    | (go_at_call 71; have _t := tok; (with_reducible refine (HFC.out _ HB1.out).mono ?_); rintro e w2 ⟨v2, rfl, ho2, hb⟩; have HB2 := Aside0.mk (below_step HB1.out hb); have k1 := blk_below K1.out hb; have K2 := Aside0.mk k1; obtain ⟨m0, m1, -⟩ := cells_5 k1; obtain ⟨A5, c5, rfl, -, hr5⟩ := Kd.R_reads ho2; have HR5 := Aside0.mk hr5; have HO0b := Aside0.mk (Kd.R_below HO0.out hb); have HO1b := Aside0.mk (Kd.R_below HO1.out hb); clear ho2 hb tok k1 hr5)
    | (go_at_call 71; (with_reducible refine (HGC.out _ HB2.out).mono ?_); rintro e w3 ⟨v3, rfl, ho3, hb⟩; have HB3 := Aside0.mk (below_step HB2.out hb); have k1 := blk_below K2.out hb; have K3 := Aside0.mk k1; obtain ⟨A6, c6, rfl, -, hr6⟩ := Kd.R_reads ho3; have HR6 := Aside0.mk hr6; have HR5b := Aside0.mk (Kd.C_below HR5.out hb); obtain ⟨A3', c3', rfl, -, hr3'⟩ := Kd.R_reads (Kd.R_below HO0b.out hb); obtain ⟨A4', c4', rfl, -, hr4'⟩ := Kd.R_reads (Kd.R_below HO1b.out hb); have HRA := Aside0.mk hr3'; have HRB := Aside0.mk hr4'; obtain ⟨g0', g1', -⟩ := cells_5 k1; clear ho3 hb k1 hr6 hr3' hr4')
    | (refine Kd.S_makecap k26 _ 26 rfl (N := 62) rfl 30 _ _ rfl (l1.length : Int) rfl rfl Try.underlying30 (.agg #[(.slice none 0 0), (.slice none 0 0), (.slice none 0 0)]) 72 info26 rfl (by decide) (by omega) z26 (ok := fun _ => True) (okp := fun _ => True) (k26_mkM _ _ _ z26 (Kd.R_nil _ _ _ _ _) (Kd.R_nil _ _ _ _ _) (Kd.R_nil _ _ _ _ _)) (fun _ hk => hk) trivial (by omega) (by rw [Int.toNat_natCast]; omega) (Below.refl _ _) (Nat.le_refl _) ?_; intro v4 w4 ho4 hb4 hg_ hnew_; have HO4 := Aside0.mk ho4; have HB4 := Aside0.mk hb4; clear ho4 hb4 hg_ hnew_))
 have HS : Hid (scalar_Finish.l0 k pa pb xa ya [] (l1.length : Int) ((0 : Nat) : Int) a0_0 a0_1 a0_2 a0_3 a0_4 = some (r1, r2)) := HH
 clear HH
 go_loopw [15, 65] (fun v15 v65 wr => ∃ (i q : Nat) (xs : List S26), i ≤ l1.length ∧ v65 = .int .i64 (i : Int) ∧ Aside0 (Kd.S k26 26 wr w3.heap.size (fun _ => True) v15 xs) ∧ Aside0 (Below w3.heap.size w3 wr) ∧ Hid (scalar_Finish.l0 q pa pb xa ya xs (l1.length : Int) (i : Int) a0_0 a0_1 a0_2 a0_3 a0_4 = some (r1, r2))) (fun _ v65 _ => l1.length - (intOf v65).toNat)
 case atStart => exact ⟨0, k, [], by omega, rfl, HO4, HB4, HS⟩
 case round =>
  clear HS HO4 HB4
  obtain ⟨i, q, xs, hi, rfl, HO, HBR, HQ⟩ := hrel
  obtain ⟨q, rfl⟩ : ∃ p, q = p + 1 := by
   cases q with
   | zero => have := HQ.out; cases this
   | succ p => exact ⟨p, rfl⟩
  have H := HQ.out
  clear HQ
  simp only [scalar_Finish.l0] at H
  by_cases hlt : i < l1.length
  case neg =>
   rw [if_neg (by omega)] at H
   simp only [Option.some.injEq, Prod.mk.injEq] at H
   obtain ⟨rfl, rfl⟩ := H
   obtain rfl : i = l1.length := by omega
   clear hlt
   go_wp2
   go_ret2
   exact ⟨_, rfl, Kd.S_lower HO.out HB3.out.size, below_step HB3.out HBR.out⟩
  case pos =>
  have i0 : (0 : Int) ≤ (i : Int) := by omega
  have i1 : (i : Int) < (l1.length : Int) := by omega
  rw [if_pos i1, if_pos i0] at H
  have g1 : (i : Int) < (pa.length : Int) := by
   by_cases hq : (i : Int) < (pa.length : Int)
   · exact hq
   · rw [if_neg hq] at H; cases H
  rw [if_pos g1] at H
  have g2 : (i : Int) < (pb.length : Int) := by
   by_cases hq : (i : Int) < (pb.length : Int)
   · exact hq
   · rw [if_neg hq] at H; cases H
  rw [if_pos g2] at H
  obtain ⟨t1, hm1, H⟩ := Option.bind_eq_some_iff.mp H
  have g3 : (i : Int) < (xa.length : Int) := by
   by_cases hq : (i : Int) < (xa.length : Int)
   · exact hq
   · rw [if_neg hq] at H; cases H
  rw [if_pos g3] at H
  have g4 : (i : Int) < (ya.length : Int) := by
   by_cases hq : (i : Int) < (ya.length : Int)
   · exact hq
   · rw [if_neg hq] at H; cases H
  rw [if_pos g4] at H
  obtain ⟨t2, hm2, H⟩ := Option.bind_eq_some_iff.mp H
  obtain ⟨t3, hm3, H⟩ := Option.bind_eq_some_iff.mp H
  have hcap2 : xs.length < 1954687338268 := by
   by_cases hq : xs.length < 1954687338268
   · exact hq
   · rw [if_neg hq] at H; cases H
  rw [if_pos hcap2] at H
  rw [show wrap64 ((i : Int) + 1) = ((i + 1 : Nat) : Int) by unfold wrap64; omega] at H
  have HQ := Lib.hid H
  have HM1 := Lib.hid hm1
  have HM2 := Lib.hid hm2
  have HM3 := Lib.hid hm3
  obtain ⟨ad1, rfl, z1⟩ := fin_cell HRA.out i g1
  obtain ⟨ad2, rfl, z2⟩ := fin_cell HRB.out i g2
  obtain ⟨ad3, rfl, z3⟩ := fin_cell HR5b.out i g3
  obtain ⟨ad4, rfl, z4⟩ := fin_cell HR6.out i g4
  have Z1 := Lib.hid z1
  have Z2 := Lib.hid z2
  clear H hm1 hm2 hm3 hlt
  go_upto_region 16 with fail
  go_cut [17] (fun v17 wc => v17 = .int .u64 t3 ∧ Aside0 (Below wr.heap.size wr wc))
  case first =>
   obtain ⟨y0, y1, -⟩ := cells_5 (blk_below K3.out HBR.out)
   have q1 := pw_cell_below HBR.out z1
   have q2 := pw_cell_below HBR.out z2
   have q3 := pw_cell_below HBR.out z3
   have q4 := pw_cell_below HBR.out z4
   go_region_held3 (fun w' => w'.cell? ⟨w.heap.size, 1, none⟩ = some (.int .i64 a0_1) ∧ w'.cell? (ad1.add i) = some (.int .u64 (rd pa (i : Int))) ∧ w'.cell? (ad2.add i) = some (.int .u64 (rd pb (i : Int))) ∧ w'.cell? (ad3.add i) = some (.int .u64 (rd xa (i : Int))) ∧ w'.cell? (ad4.add i) = some (.int .u64 (rd ya (i : Int)))) (go_keep)
    ((first
      | (go_at_call 55; (with_reducible refine (ring_Mul.calls _ _ _ _ _ HM1.out).mono ?_); rintro e w5 ⟨rfl, ⟨n5, rfl⟩⟩)
      | (go_at_call 54; (with_reducible refine (ring_Add.calls _ _ _ _ _ HM2.out).mono ?_); rintro e w5 ⟨rfl, ⟨n5, rfl⟩⟩)
      | (go_at_call 54; (with_reducible refine (ring_Add.calls _ _ _ _ _ HM3.out).mono ?_); rintro e w5 ⟨rfl, ⟨n5, rfl⟩⟩)))
   all_goals
    (try go_wp2)
    go_meet
    exact ⟨rfl, ⟨by repeat (first | exact Below.refl _ _ | apply pw_below_drewN | apply below_drew)⟩⟩
  case rest =>
   obtain ⟨rfl, HBC⟩ := hcut
   have q1 := pw_cell_below HBC.out (pw_cell_below HBR.out Z1.out)
   have q2 := pw_cell_below HBC.out (pw_cell_below HBR.out Z2.out)
   have HBW := Aside0.mk (below_step HBR.out HBC.out)
   have HOC := Aside0.mk (Kd.S_below HO.out HBC.out)
   have ne1 := World.new_ne wc _ q1
   have ne2 := World.new_ne wc _ q2
   have s31 := fun o1 o2 o3 => pw_cell_below (below_alloc (below_alloc (below_alloc (Below.refl wc.heap.size wc) o1) o2) o3) q1
   have s32 := fun o1 o2 o3 => pw_cell_below (below_alloc (below_alloc (below_alloc (Below.refl wc.heap.size wc) o1) o2) o3) q2
   have s41 := fun o1 o2 o3 o4 => pw_cell_below (below_alloc (below_alloc (below_alloc (below_alloc (Below.refl wc.heap.size wc) o1) o2) o3) o4) q1
   have s42 := fun o1 o2 o3 o4 => pw_cell_below (below_alloc (below_alloc (below_alloc (below_alloc (Below.refl wc.heap.size wc) o1) o2) o3) o4) q2
   clear z1 z2 z3 z4
   go_wp2_with fail
   go_region_held3 (fun w' => w'.cell? (ad1.add i) = some (.int .u64 (rd pa (i : Int))) ∧ w'.cell? (ad2.add i) = some (.int .u64 (rd pb (i : Int)))) (go_keep)
    ((refine fin_append (w0 := w3) w3.heap.size (by rfl) (.tmp 93) (.tmp 107) (by rfl) _ xs ⟨[rd pa (i : Int)], [rd pb (i : Int)], [t3]⟩ _ _ _ _ wc.heap.size (by rfl) (by rfl) (by rfl) ?eg ?r0 ?r1 ?r2 ?ro ?rb ?rs hcap2 ?_; (case eg => simp); (case r0 => refine fin_R_one ?_ (by have := HBW.out.size; omega) (by omega); with_reducible (repeat (first | (refine fin_blk_at ?_; simp; done) | refine blk_alloc ?_ _))); (case r1 => refine fin_R_one ?_ (by have := HBW.out.size; omega) (by omega); with_reducible (repeat (first | (refine fin_blk_at ?_; simp; done) | refine blk_alloc ?_ _))); (case r2 => refine fin_R_one ?_ (by have := HBW.out.size; omega) (by omega); with_reducible (repeat (first | (refine fin_blk_at ?_; simp; done) | refine blk_alloc ?_ _))); (case ro => exact Kd.S_old HOC.out (below_alloc (below_alloc (below_alloc (Below.refl _ _) _) _) _)); (case rb => exact below_alloc (below_alloc (below_alloc HBW.out _) _) _); (case rs => exact (below_alloc (below_alloc (below_alloc HBW.out _) _) _).size); intro v6 w6 ho6 hb6; have HO6 := Aside0.mk ho6; have HB6 := Aside0.mk hb6; have t1' := pw_cell_below hb6 (by exact Z1.out); have t2' := pw_cell_below hb6 (by exact Z2.out); clear ho6 hb6))
   all_goals
    (try go_wp2)
    go_roundw
    all_goals first
     | (case rel => exact ⟨i + 1, q, _, by omega, by go_num, ⟨HO6.out⟩, ⟨HB6.out⟩, HQ⟩)
     | (case measure => simp [intOf]; omega)

/-! ### trefoilref22_Check: function 81 -/
def trefoilref22_Check.f (k : Nat) (a0_0 : Int) (a0_1 : Int) (a0_2 : Int) (a0_3 : Int) (a0_4 : Int) (a1 : Int) (a2 : Int) : Option (Int) := (trefoilref09_Check.f k a0_0 a0_1 a0_2 a0_3 a0_4).bind fun t680 => (if t680 = 0 then (if a0_0 = a1 then ((trefoilref22_Sides.f a0_0 a0_1 a0_2 a0_3 a0_4).bind fun bt682 => (if a2 < 1 then (some 2) else (if a2 > 24 then (some 2) else (if (wrap64 ((wrap64 ((wrap64 (a2 * bt682.1)) * bt682.2.1)) * a0_1)) > 4096 then (some 2) else (some 0))))) else (some 15)) else ((trefoilref09_Check.f k a0_0 a0_1 a0_2 a0_3 a0_4).bind fun t681 => (some t681)))
set_option maxHeartbeats 8000000 in
set_option maxRecDepth 100000 in
theorem trefoilref22_Check.calls (k : Nat) (a0_0 : Int) (a0_1 : Int) (a0_2 : Int) (a0_3 : Int) (a0_4 : Int) (a1 : Int) (a2 : Int) (r : Int) (w : World) (h : trefoilref22_Check.f k a0_0 a0_1 a0_2 a0_3 a0_4 a1 a2 = some r) :
  Calls Try.prog 81 #[.agg #[.int .i64 a0_0, .int .i64 a0_1, .int .i64 a0_2, .int .i64 a0_3, .int .i64 a0_4], .int .i64 a1, .int .i64 a2] w fun e w' => e = .returned (.int .i64 r) ∧ Below w.heap.size w w' := by
 have hu23 := Try.underlying23
 have HB := Aside0.mk (Below.refl w.heap.size w)
 have H : ((trefoilref09_Check.f k a0_0 a0_1 a0_2 a0_3 a0_4).bind fun t680 => (if t680 = 0 then (if a0_0 = a1 then ((trefoilref22_Sides.f a0_0 a0_1 a0_2 a0_3 a0_4).bind fun bt682 => (if a2 < 1 then (some 2) else (if a2 > 24 then (some 2) else (if (wrap64 ((wrap64 ((wrap64 (a2 * bt682.1)) * bt682.2.1)) * a0_1)) > 4096 then (some 2) else (some 0))))) else (some 15)) else ((trefoilref09_Check.f k a0_0 a0_1 a0_2 a0_3 a0_4).bind fun t681 => (some t681)))) = some r := h
 clear h
 replace H := Option.bind_eq_some_iff.mp H
 obtain ⟨t680, A40, H⟩ := H
 replace H : (if t680 = 0 then (if a0_0 = a1 then ((trefoilref22_Sides.f a0_0 a0_1 a0_2 a0_3 a0_4).bind fun bt682 => (if a2 < 1 then (some 2) else (if a2 > 24 then (some 2) else (if (wrap64 ((wrap64 ((wrap64 (a2 * bt682.1)) * bt682.2.1)) * a0_1)) > 4096 then (some 2) else (some 0))))) else (some 15)) else ((trefoilref09_Check.f k a0_0 a0_1 a0_2 a0_3 a0_4).bind fun t681 => (some t681))) = some r := H
 have A4 := Aside0.mk A40
 clear A40
 by_cases c5 : t680 = 0
 ·rw [if_pos c5] at H
  have c5b0 : (t680 == 0) = true := beq_iff_eq.mpr c5
  have c5b1 : (t680 != 0) = false := bne_eq_false_iff_eq.mpr c5
  clear c5
  by_cases c6 : a0_0 = a1
  ·rw [if_pos c6] at H
   have c6b0 : (a0_0 == a1) = true := beq_iff_eq.mpr c6
   have c6b1 : (a0_0 != a1) = false := bne_eq_false_iff_eq.mpr c6
   clear c6
   replace H := Option.bind_eq_some_iff.mp H
   obtain ⟨⟨t682, t683, t684⟩, A70, H⟩ := H
   replace H : (if a2 < 1 then (some 2) else (if a2 > 24 then (some 2) else (if (wrap64 ((wrap64 ((wrap64 (a2 * t682)) * t683)) * a0_1)) > 4096 then (some 2) else (some 0)))) = some r := H
   have A7 := Aside0.mk A70
   clear A70
   by_cases c8 : a2 < 1
   ·rw [if_pos c8] at H
    have c8b0 : decide (a2 < 1) = true := decide_eq_true c8
    clear c8
    obtain rfl := Option.some.inj H
    go_enter Try.func81, Try.ntmps81
    go_wp2_with (first | ((with_reducible refine gate_dst (N := 3) rfl ?_); refine box_event ?hg (N := 3) ?hd (cs := #[.int .i64 a0_0, .int .i64 a0_1, .int .i64 a0_2, .int .i64 a0_3, .int .i64 a0_4]) (t := 23) ?hr ?_; (case hd => rfl); (case hg => rfl); (case hr => first | (go_simp; done) | (go_simp; rfl)); intro gb679 hg w9 hbox hb; have n0_ := Aside0.mk (below_step HB.bl hb); have n1_ := Aside0.mk (hbox); have n2_ := Aside0.mk ((zq42 : w.heap.size ≤ gb679)); have n3_ := Aside0.mk ((zq42 : w.heap.size ≤ gb679)); clear HB; have HB := n0_; have BK679 := n1_; have GW679 := n2_; have GE679 := n3_; clear n0_ n1_ n2_ n3_; clear hb hbox hg; obtain ⟨hcz10_0, hcz10_1, hcz10_2, hcz10_3, hcz10_4, hfz10_0, hfz10_1, hfz10_2, hfz10_3, hfz10_4⟩ := cells_5 BK679.out) | ((with_reducible refine gate_callee (f := 62) rfl ?_); refine goesL_ (some 11) rfl rfl Try.func62 (zq43) rfl #[.agg #[.int .i64 a0_0, .int .i64 a0_1, .int .i64 a0_2, .int .i64 a0_3, .int .i64 a0_4]] rfl (zq26) ?_; (with_reducible refine (trefoilref09_Check.calls k a0_0 a0_1 a0_2 a0_3 a0_4 t680 _ A4.out).mono ?_); rintro e w11 ⟨rfl, hb⟩; refine ⟨_, rfl, ?_⟩; replace BK679 := Aside0.mk (BK679.lk hb); replace HB := Aside0.mk (below_step HB.bl hb); (try clear hb); (try clear hb2); (try clear hk); (try clear hi); obtain ⟨hcz12_0, hcz12_1, hcz12_2, hcz12_3, hcz12_4, hfz12_0, hfz12_1, hfz12_2, hfz12_3, hfz12_4⟩ := cells_5 BK679.out) | ((with_reducible refine gate_callee (f := 48) rfl ?_); refine goesL_ (some 21) rfl rfl Try.func48 (zq43) rfl #[.agg #[.int .i64 a0_0, .int .i64 a0_1, .int .i64 a0_2, .int .i64 a0_3, .int .i64 a0_4]] rfl (zq26) ?_; (with_reducible refine (trefoilref22_Sides.calls a0_0 a0_1 a0_2 a0_3 a0_4 t682 t683 t684 _ A7.out).mono ?_); rintro e w13 ⟨rfl, hb⟩; refine ⟨_, rfl, ?_⟩; replace BK679 := Aside0.mk (BK679.lk hb); replace HB := Aside0.mk (below_step HB.bl hb); (try clear hb); (try clear hb2); (try clear hk); (try clear hi)))
    go_ret
    exact ⟨zq37, zq22⟩
   ·rw [if_neg c8] at H
    have c8b0 : decide (a2 < 1) = false := decide_eq_false c8
    clear c8
    by_cases c14 : a2 > 24
    ·rw [if_pos c14] at H
     have c14b0 : decide (24 < a2) = true := decide_eq_true c14
     clear c14
     obtain rfl := Option.some.inj H
     go_enter Try.func81, Try.ntmps81
     go_wp2_with (first | ((with_reducible refine gate_dst (N := 3) rfl ?_); refine box_event ?hg (N := 3) ?hd (cs := #[.int .i64 a0_0, .int .i64 a0_1, .int .i64 a0_2, .int .i64 a0_3, .int .i64 a0_4]) (t := 23) ?hr ?_; (case hd => rfl); (case hg => rfl); (case hr => first | (go_simp; done) | (go_simp; rfl)); intro gb679 hg w15 hbox hb; have n0_ := Aside0.mk (below_step HB.bl hb); have n1_ := Aside0.mk (hbox); have n2_ := Aside0.mk ((zq42 : w.heap.size ≤ gb679)); have n3_ := Aside0.mk ((zq42 : w.heap.size ≤ gb679)); clear HB; have HB := n0_; have BK679 := n1_; have GW679 := n2_; have GE679 := n3_; clear n0_ n1_ n2_ n3_; clear hb hbox hg; obtain ⟨hcz16_0, hcz16_1, hcz16_2, hcz16_3, hcz16_4, hfz16_0, hfz16_1, hfz16_2, hfz16_3, hfz16_4⟩ := cells_5 BK679.out) | ((with_reducible refine gate_callee (f := 62) rfl ?_); refine goesL_ (some 11) rfl rfl Try.func62 (zq43) rfl #[.agg #[.int .i64 a0_0, .int .i64 a0_1, .int .i64 a0_2, .int .i64 a0_3, .int .i64 a0_4]] rfl (zq26) ?_; (with_reducible refine (trefoilref09_Check.calls k a0_0 a0_1 a0_2 a0_3 a0_4 t680 _ A4.out).mono ?_); rintro e w17 ⟨rfl, hb⟩; refine ⟨_, rfl, ?_⟩; replace BK679 := Aside0.mk (BK679.lk hb); replace HB := Aside0.mk (below_step HB.bl hb); (try clear hb); (try clear hb2); (try clear hk); (try clear hi); obtain ⟨hcz18_0, hcz18_1, hcz18_2, hcz18_3, hcz18_4, hfz18_0, hfz18_1, hfz18_2, hfz18_3, hfz18_4⟩ := cells_5 BK679.out) | ((with_reducible refine gate_callee (f := 48) rfl ?_); refine goesL_ (some 21) rfl rfl Try.func48 (zq43) rfl #[.agg #[.int .i64 a0_0, .int .i64 a0_1, .int .i64 a0_2, .int .i64 a0_3, .int .i64 a0_4]] rfl (zq26) ?_; (with_reducible refine (trefoilref22_Sides.calls a0_0 a0_1 a0_2 a0_3 a0_4 t682 t683 t684 _ A7.out).mono ?_); rintro e w19 ⟨rfl, hb⟩; refine ⟨_, rfl, ?_⟩; replace BK679 := Aside0.mk (BK679.lk hb); replace HB := Aside0.mk (below_step HB.bl hb); (try clear hb); (try clear hb2); (try clear hk); (try clear hi)))
     go_ret
     exact ⟨zq37, zq22⟩
    ·rw [if_neg c14] at H
     have c14b0 : decide (24 < a2) = false := decide_eq_false c14
     clear c14
     by_cases c20 : (wrap64 ((wrap64 ((wrap64 (a2 * t682)) * t683)) * a0_1)) > 4096
     ·rw [if_pos c20] at H
      have c20b0 : decide (4096 < (wrap64 ((wrap64 ((wrap64 (a2 * t682)) * t683)) * a0_1))) = true := decide_eq_true c20
      clear c20
      obtain rfl := Option.some.inj H
      go_enter Try.func81, Try.ntmps81
      go_wp2_with (first | ((with_reducible refine gate_dst (N := 3) rfl ?_); refine box_event ?hg (N := 3) ?hd (cs := #[.int .i64 a0_0, .int .i64 a0_1, .int .i64 a0_2, .int .i64 a0_3, .int .i64 a0_4]) (t := 23) ?hr ?_; (case hd => rfl); (case hg => rfl); (case hr => first | (go_simp; done) | (go_simp; rfl)); intro gb679 hg w21 hbox hb; have n0_ := Aside0.mk (below_step HB.bl hb); have n1_ := Aside0.mk (hbox); have n2_ := Aside0.mk ((zq42 : w.heap.size ≤ gb679)); have n3_ := Aside0.mk ((zq42 : w.heap.size ≤ gb679)); clear HB; have HB := n0_; have BK679 := n1_; have GW679 := n2_; have GE679 := n3_; clear n0_ n1_ n2_ n3_; clear hb hbox hg; obtain ⟨hcz22_0, hcz22_1, hcz22_2, hcz22_3, hcz22_4, hfz22_0, hfz22_1, hfz22_2, hfz22_3, hfz22_4⟩ := cells_5 BK679.out) | ((with_reducible refine gate_callee (f := 62) rfl ?_); refine goesL_ (some 11) rfl rfl Try.func62 (zq43) rfl #[.agg #[.int .i64 a0_0, .int .i64 a0_1, .int .i64 a0_2, .int .i64 a0_3, .int .i64 a0_4]] rfl (zq26) ?_; (with_reducible refine (trefoilref09_Check.calls k a0_0 a0_1 a0_2 a0_3 a0_4 t680 _ A4.out).mono ?_); rintro e w23 ⟨rfl, hb⟩; refine ⟨_, rfl, ?_⟩; replace BK679 := Aside0.mk (BK679.lk hb); replace HB := Aside0.mk (below_step HB.bl hb); (try clear hb); (try clear hb2); (try clear hk); (try clear hi); obtain ⟨hcz24_0, hcz24_1, hcz24_2, hcz24_3, hcz24_4, hfz24_0, hfz24_1, hfz24_2, hfz24_3, hfz24_4⟩ := cells_5 BK679.out) | ((with_reducible refine gate_callee (f := 48) rfl ?_); refine goesL_ (some 21) rfl rfl Try.func48 (zq43) rfl #[.agg #[.int .i64 a0_0, .int .i64 a0_1, .int .i64 a0_2, .int .i64 a0_3, .int .i64 a0_4]] rfl (zq26) ?_; (with_reducible refine (trefoilref22_Sides.calls a0_0 a0_1 a0_2 a0_3 a0_4 t682 t683 t684 _ A7.out).mono ?_); rintro e w25 ⟨rfl, hb⟩; refine ⟨_, rfl, ?_⟩; replace BK679 := Aside0.mk (BK679.lk hb); replace HB := Aside0.mk (below_step HB.bl hb); (try clear hb); (try clear hb2); (try clear hk); (try clear hi); obtain ⟨hcz26_0, hcz26_1, hcz26_2, hcz26_3, hcz26_4, hfz26_0, hfz26_1, hfz26_2, hfz26_3, hfz26_4⟩ := cells_5 BK679.out))
      go_ret
      exact ⟨zq37, zq22⟩
     ·rw [if_neg c20] at H
      have c20b0 : decide (4096 < (wrap64 ((wrap64 ((wrap64 (a2 * t682)) * t683)) * a0_1))) = false := decide_eq_false c20
      clear c20
      obtain rfl := Option.some.inj H
      go_enter Try.func81, Try.ntmps81
      go_wp2_with (first | ((with_reducible refine gate_dst (N := 3) rfl ?_); refine box_event ?hg (N := 3) ?hd (cs := #[.int .i64 a0_0, .int .i64 a0_1, .int .i64 a0_2, .int .i64 a0_3, .int .i64 a0_4]) (t := 23) ?hr ?_; (case hd => rfl); (case hg => rfl); (case hr => first | (go_simp; done) | (go_simp; rfl)); intro gb679 hg w27 hbox hb; have n0_ := Aside0.mk (below_step HB.bl hb); have n1_ := Aside0.mk (hbox); have n2_ := Aside0.mk ((zq42 : w.heap.size ≤ gb679)); have n3_ := Aside0.mk ((zq42 : w.heap.size ≤ gb679)); clear HB; have HB := n0_; have BK679 := n1_; have GW679 := n2_; have GE679 := n3_; clear n0_ n1_ n2_ n3_; clear hb hbox hg; obtain ⟨hcz28_0, hcz28_1, hcz28_2, hcz28_3, hcz28_4, hfz28_0, hfz28_1, hfz28_2, hfz28_3, hfz28_4⟩ := cells_5 BK679.out) | ((with_reducible refine gate_callee (f := 62) rfl ?_); refine goesL_ (some 11) rfl rfl Try.func62 (zq43) rfl #[.agg #[.int .i64 a0_0, .int .i64 a0_1, .int .i64 a0_2, .int .i64 a0_3, .int .i64 a0_4]] rfl (zq26) ?_; (with_reducible refine (trefoilref09_Check.calls k a0_0 a0_1 a0_2 a0_3 a0_4 t680 _ A4.out).mono ?_); rintro e w29 ⟨rfl, hb⟩; refine ⟨_, rfl, ?_⟩; replace BK679 := Aside0.mk (BK679.lk hb); replace HB := Aside0.mk (below_step HB.bl hb); (try clear hb); (try clear hb2); (try clear hk); (try clear hi); obtain ⟨hcz30_0, hcz30_1, hcz30_2, hcz30_3, hcz30_4, hfz30_0, hfz30_1, hfz30_2, hfz30_3, hfz30_4⟩ := cells_5 BK679.out) | ((with_reducible refine gate_callee (f := 48) rfl ?_); refine goesL_ (some 21) rfl rfl Try.func48 (zq43) rfl #[.agg #[.int .i64 a0_0, .int .i64 a0_1, .int .i64 a0_2, .int .i64 a0_3, .int .i64 a0_4]] rfl (zq26) ?_; (with_reducible refine (trefoilref22_Sides.calls a0_0 a0_1 a0_2 a0_3 a0_4 t682 t683 t684 _ A7.out).mono ?_); rintro e w31 ⟨rfl, hb⟩; refine ⟨_, rfl, ?_⟩; replace BK679 := Aside0.mk (BK679.lk hb); replace HB := Aside0.mk (below_step HB.bl hb); (try clear hb); (try clear hb2); (try clear hk); (try clear hi); obtain ⟨hcz32_0, hcz32_1, hcz32_2, hcz32_3, hcz32_4, hfz32_0, hfz32_1, hfz32_2, hfz32_3, hfz32_4⟩ := cells_5 BK679.out))
      go_ret
      exact ⟨zq37, zq22⟩
  ·rw [if_neg c6] at H
   have c6b0 : (a0_0 == a1) = false := beq_eq_false_iff_ne.mpr c6
   have c6b1 : (a0_0 != a1) = true := bne_iff_ne.mpr c6
   obtain rfl := Option.some.inj H
   go_enter Try.func81, Try.ntmps81
   go_wp2_with (first | ((with_reducible refine gate_dst (N := 3) rfl ?_); refine box_event ?hg (N := 3) ?hd (cs := #[.int .i64 a0_0, .int .i64 a0_1, .int .i64 a0_2, .int .i64 a0_3, .int .i64 a0_4]) (t := 23) ?hr ?_; (case hd => rfl); (case hg => rfl); (case hr => first | (go_simp; done) | (go_simp; rfl)); intro gb679 hg w33 hbox hb; have n0_ := Aside0.mk (below_step HB.bl hb); have n1_ := Aside0.mk (hbox); have n2_ := Aside0.mk ((zq42 : w.heap.size ≤ gb679)); have n3_ := Aside0.mk ((zq42 : w.heap.size ≤ gb679)); clear HB; have HB := n0_; have BK679 := n1_; have GW679 := n2_; have GE679 := n3_; clear n0_ n1_ n2_ n3_; clear hb hbox hg; obtain ⟨hcz34_0, hcz34_1, hcz34_2, hcz34_3, hcz34_4, hfz34_0, hfz34_1, hfz34_2, hfz34_3, hfz34_4⟩ := cells_5 BK679.out) | ((with_reducible refine gate_callee (f := 62) rfl ?_); refine goesL_ (some 11) rfl rfl Try.func62 (zq43) rfl #[.agg #[.int .i64 a0_0, .int .i64 a0_1, .int .i64 a0_2, .int .i64 a0_3, .int .i64 a0_4]] rfl (zq26) ?_; (with_reducible refine (trefoilref09_Check.calls k a0_0 a0_1 a0_2 a0_3 a0_4 t680 _ A4.out).mono ?_); rintro e w35 ⟨rfl, hb⟩; refine ⟨_, rfl, ?_⟩; replace BK679 := Aside0.mk (BK679.lk hb); replace HB := Aside0.mk (below_step HB.bl hb); (try clear hb); (try clear hb2); (try clear hk); (try clear hi); obtain ⟨hcz36_0, hcz36_1, hcz36_2, hcz36_3, hcz36_4, hfz36_0, hfz36_1, hfz36_2, hfz36_3, hfz36_4⟩ := cells_5 BK679.out))
   go_ret
   exact ⟨zq37, zq22⟩
 ·rw [if_neg c5] at H
  have c5b0 : (t680 == 0) = false := beq_eq_false_iff_ne.mpr c5
  have c5b1 : (t680 != 0) = true := bne_iff_ne.mpr c5
  replace H := Option.bind_eq_some_iff.mp H
  obtain ⟨t681, A370, H⟩ := H
  replace H : (some t681) = some r := H
  have A37 := Aside0.mk A370
  clear A370
  obtain rfl := Option.some.inj H
  go_enter Try.func81, Try.ntmps81
  go_wp2_with (first | ((with_reducible refine gate_dst (N := 3) rfl ?_); refine box_event ?hg (N := 3) ?hd (cs := #[.int .i64 a0_0, .int .i64 a0_1, .int .i64 a0_2, .int .i64 a0_3, .int .i64 a0_4]) (t := 23) ?hr ?_; (case hd => rfl); (case hg => rfl); (case hr => first | (go_simp; done) | (go_simp; rfl)); intro gb679 hg w38 hbox hb; have n0_ := Aside0.mk (below_step HB.bl hb); have n1_ := Aside0.mk (hbox); have n2_ := Aside0.mk ((zq42 : w.heap.size ≤ gb679)); have n3_ := Aside0.mk ((zq42 : w.heap.size ≤ gb679)); clear HB; have HB := n0_; have BK679 := n1_; have GW679 := n2_; have GE679 := n3_; clear n0_ n1_ n2_ n3_; clear hb hbox hg; obtain ⟨hcz39_0, hcz39_1, hcz39_2, hcz39_3, hcz39_4, hfz39_0, hfz39_1, hfz39_2, hfz39_3, hfz39_4⟩ := cells_5 BK679.out) | ((with_reducible refine gate_callee (f := 62) rfl ?_); refine goesL_ (some 11) rfl rfl Try.func62 (zq43) rfl #[.agg #[.int .i64 a0_0, .int .i64 a0_1, .int .i64 a0_2, .int .i64 a0_3, .int .i64 a0_4]] rfl (zq26) ?_; (with_reducible refine (trefoilref09_Check.calls k a0_0 a0_1 a0_2 a0_3 a0_4 t680 _ A4.out).mono ?_); rintro e w40 ⟨rfl, hb⟩; refine ⟨_, rfl, ?_⟩; replace BK679 := Aside0.mk (BK679.lk hb); replace HB := Aside0.mk (below_step HB.bl hb); (try clear hb); (try clear hb2); (try clear hk); (try clear hi); obtain ⟨hcz41_0, hcz41_1, hcz41_2, hcz41_3, hcz41_4, hfz41_0, hfz41_1, hfz41_2, hfz41_3, hfz41_4⟩ := cells_5 BK679.out) | ((with_reducible refine gate_callee (f := 62) rfl ?_); refine goesL_ (some 14) rfl rfl Try.func62 (zq43) rfl #[.agg #[.int .i64 a0_0, .int .i64 a0_1, .int .i64 a0_2, .int .i64 a0_3, .int .i64 a0_4]] rfl (zq26) ?_; (with_reducible refine (trefoilref09_Check.calls k a0_0 a0_1 a0_2 a0_3 a0_4 t681 _ A37.out).mono ?_); rintro e w42 ⟨rfl, hb⟩; refine ⟨_, rfl, ?_⟩; replace BK679 := Aside0.mk (BK679.lk hb); replace HB := Aside0.mk (below_step HB.bl hb); (try clear hb); (try clear hb2); (try clear hk); (try clear hi)))
  go_ret
  exact ⟨zq37, zq22⟩

/-! ### ring_Bits: function 107 -/
def ring_Bits.l0 : Nat → Int → List Bool → Int → Int → Option (List Bool)
 | 0, _, _, _, _ => none
 | k + 1, x1, x5, x13, x14 => if x14 < x13 then (if 0 ≤ (IntKind.u64.wrap (x14)) then (if 0 ≤ x14 then (if x14 < (x5.length : Int) then (ring_Bits.l0 k x1 (x5.set (x14 : Int).toNat ((Go.bits .and .u64 (shr .u64 x1 (IntKind.u64.wrap (x14))) 1) == 1)) x13 (wrap64 (x14 + 1))) else (none)) else (none)) else (none)) else (some x5)
def ring_Bits.f (k : Nat) (a0 : Int) (a1 : Int) : Option (List Bool) := (ring_mask.f a0).bind fun t749 => (if t749 = 0 then (some ([] : List Bool)) else (if 0 ≤ a0 then (if (a0 : Int).toNat ≤ 281474976710656 then ((some (List.replicate (a0 : Int).toNat false : List Bool)).bind fun y750 => (ring_Bits.l0 k a1 y750 (y750.length : Int) 0)) else (none)) else (none)))
set_option maxHeartbeats 8000000 in
set_option maxRecDepth 100000 in
theorem ring_Bits.calls (k : Nat) (a0 : Int) (a1 : Int) (r : List Bool) (w : World) (h : ring_Bits.f k a0 a1 = some r) :
  Calls Try.prog 107 #[.int .i64 a0, .int .u64 a1] w fun e w' => ∃ v0_ : Value, e = .returned (v0_) ∧ Kd.R Kd.bool 4 w' w.heap.size (fun _ => True) v0_ r ∧ Below w.heap.size w w' := by
 have HB := Aside0.mk (Below.refl w.heap.size w)
 have H : ((ring_mask.f a0).bind fun t749 => (if t749 = 0 then (some ([] : List Bool)) else (if 0 ≤ a0 then (if (a0 : Int).toNat ≤ 281474976710656 then ((some (List.replicate (a0 : Int).toNat false : List Bool)).bind fun y750 => (ring_Bits.l0 k a1 y750 (y750.length : Int) 0)) else (none)) else (none)))) = some r := h
 clear h
 replace H := Option.bind_eq_some_iff.mp H
 obtain ⟨t749, A30, H⟩ := H
 replace H : (if t749 = 0 then (some ([] : List Bool)) else (if 0 ≤ a0 then (if (a0 : Int).toNat ≤ 281474976710656 then ((some (List.replicate (a0 : Int).toNat false : List Bool)).bind fun y750 => (ring_Bits.l0 k a1 y750 (y750.length : Int) 0)) else (none)) else (none))) = some r := H
 have A3 := Aside0.mk A30
 clear A30
 by_cases c4 : t749 = 0
 ·rw [if_pos c4] at H
  have c4b0 : (t749 == 0) = true := beq_iff_eq.mpr c4
  have c4b1 : (t749 != 0) = false := bne_eq_false_iff_eq.mpr c4
  clear c4
  obtain rfl := Option.some.inj H
  go_enter Try.func107, Try.ntmps107
  go_wp2_with (first | ((with_reducible refine gate_callee (f := 90) rfl ?_); refine goesL_ (some 8) rfl rfl Try.func90 (zq43) rfl #[.int .i64 a0] rfl (zq26) ?_; (with_reducible refine (ring_mask.calls a0 t749 _ A3.out).mono ?_); rintro e w' ⟨rfl, ⟨nd, rfl⟩⟩; refine ⟨_, rfl, ?_⟩))
  go_ret
  exact ⟨_, zq37, zq25, HB.bl⟩
 ·rw [if_neg c4] at H
  have c4b0 : (t749 == 0) = false := beq_eq_false_iff_ne.mpr c4
  have c4b1 : (t749 != 0) = true := bne_iff_ne.mpr c4
  by_cases c5 : 0 ≤ a0
  ·rw [if_pos c5] at H
   have c5b0 := eq_true c5
   have c5b1 : decide (0 ≤ a0) = true := decide_eq_true c5
   clear c5
   by_cases c6 : (a0 : Int).toNat ≤ 281474976710656
   ·rw [if_pos c6] at H
    have c6b0 := eq_true c6
    have c6b1 : decide ((a0 : Int).toNat ≤ 281474976710656) = true := decide_eq_true c6
    clear c6
    obtain ⟨y750, hy750⟩ : ∃ y_ : List Bool, y_ = (List.replicate (a0 : Int).toNat false) := ⟨_, rfl⟩
    replace H : (ring_Bits.l0 k a1 y750 (y750.length : Int) 0) = some r := by first | (rw [hy750]; with_reducible exact H) | (have H2_ := (Option.bind_some _ _).symm.trans H; rw [hy750]; with_reducible exact H2_) | (have H2_ := (Option.bind_some _ _).symm.trans H; with_reducible exact H2_) | with_reducible exact H | (rw [hy750]; exact H) | exact H
    have Ny750 := Aside0.mk hy750
    clear hy750
    have H' := Aside0.mk H
    clear H
    go_enter Try.func107, Try.ntmps107
    go_wp2_with (first | ((with_reducible refine gate_callee (f := 90) rfl ?_); refine goesL_ (some 8) rfl rfl Try.func90 (zq43) rfl #[.int .i64 a0] rfl (zq26) ?_; (with_reducible refine (ring_mask.calls a0 t749 _ A3.out).mono ?_); rintro e w' ⟨rfl, ⟨nd, rfl⟩⟩; refine ⟨_, rfl, ?_⟩) | ((with_reducible refine gate_dst (N := 11) rfl ?_); refine Kd.R_make Kd.bool _ 4 rfl (N := 11) rfl 32 _ _ rfl a0 rfl rfl Try.underlying32 (.bool false) 1 info4 rfl (by decide) (by omega) false (ok := fun _ => True) (okp := fun _ => True) rfl (fun _ hk => hk) trivial (of_decide_eq_true (zq39)) (Nat.le_trans (Nat.mul_le_mul_right _ (of_decide_eq_true (zq39) : a0.toNat ≤ 281474976710656)) (by omega)) (Below.refl _ _) (Nat.le_refl _) ?_; intro v751 w7 ho8 hb hg_ hnew_; clear hg_ hnew_; (first | rw [← Ny750.out] at ho8 | (simp only [Int.reduceToNat] at ho8; rw [← Ny750.out] at ho8)); have HO752 := Aside0.mk (Kd.R_lower ho8 (below_size HB.bl)); replace HB := Aside0.mk (below_step HB.bl hb); clear hb ho8; obtain ⟨Ao9, co9, eo9⟩ := Kd.R_slice HO752.out; subst eo9))
    go_loopg [14] k (fun kq v14 w' => ∃ (x5_1 : List Bool) (x14_1 : Int), v14 = .int .i64 x14_1 ∧ Aside0 (ring_Bits.l0 kq a1 x5_1 (y750.length : Int) x14_1 = some r) ∧ Aside0 (kq ≤ k) ∧ Aside0 (Kd.R Kd.bool 4 w' w.heap.size (fun _ => True) (.slice Ao9 y750.length co9) x5_1) ∧ Aside0 (Below w.heap.size w w'))
    case atStart => exact ⟨(y750), (0), (zq40), H', ⟨Nat.le_refl _⟩, ⟨HO752.r⟩, ⟨HB.bl⟩⟩
    case round =>
     clear H'
     try clear c1
     try clear p2
     try clear c4
     try clear c4b0
     try clear c4b1
     try clear c5
     try clear c5b0
     try clear c5b1
     try clear c6
     try clear c6b0
     try clear c6b1
     try clear c9
     obtain ⟨x5_1, x14_1, rfl, HA, HK1, HO_5, HB⟩ := hrel
     have hl5_1 := (Kd.R_reads' HO_5.out).1
     rw [hl5_1] at HO_5
     (try simp only [hl5_1])
     cases gk with
     | zero => exact absurd HA.out (by simp [ring_Bits.l0])
     | succ k1 =>
      have H := HA.out
      clear HA
      simp only [ring_Bits.l0] at H
      by_cases c10 : x14_1 < (y750.length : Int)
      ·rw [if_pos c10] at H
       have c10b0 : decide (x14_1 < (y750.length : Int)) = true := decide_eq_true c10
       clear c10
       obtain ⟨ji11, hji11⟩ : ∃ j_ : Int, (IntKind.u64.wrap (x14_1)) = j_ := ⟨_, rfl⟩
       replace H : (if 0 ≤ (ji11) then (if 0 ≤ x14_1 then (if x14_1 < (x5_1.length : Int) then (ring_Bits.l0 k1 a1 (x5_1.set (x14_1 : Int).toNat ((Go.bits .and .u64 (shr .u64 a1 (ji11)) 1) == 1)) (y750.length : Int) (wrap64 (x14_1 + 1))) else (none)) else (none)) else (none)) = some r := by first | (rw [hji11] at H; exact H) | (simp only [hji11] at H ⊢; exact H)
       by_cases c12 : 0 ≤ (ji11)
       ·rw [if_pos c12] at H
        have c12b0 := eq_true c12
        have c12b1 : decide (0 ≤ (ji11)) = true := decide_eq_true c12
        clear c12
        obtain ⟨ji13, hji13⟩ : ∃ j_ : Int, (shr .u64 a1 (ji11)) = j_ := ⟨_, rfl⟩
        replace H : (if 0 ≤ x14_1 then (if x14_1 < (x5_1.length : Int) then (ring_Bits.l0 k1 a1 (x5_1.set (x14_1 : Int).toNat ((Go.bits .and .u64 (ji13) 1) == 1)) (y750.length : Int) (wrap64 (x14_1 + 1))) else (none)) else (none)) = some r := by first | (rw [hji13] at H; exact H) | (simp only [hji13] at H ⊢; exact H)
        have hji13_ : (a1 / 2 ^ min (ji11).toNat 64) = ji13 := hji13
        have hji13z : (ji11) ≤ 64 → (a1 / 2 ^ (ji11).toNat) = ji13 := shr_small hji13
        by_cases c14 : 0 ≤ x14_1
        ·rw [if_pos c14] at H
         have c14b0 : decide (0 ≤ x14_1) = true := decide_eq_true c14
         clear c14
         by_cases c15 : x14_1 < (x5_1.length : Int)
         ·rw [if_pos c15] at H
          have c15b0 : decide (x14_1 < (x5_1.length : Int)) = true := decide_eq_true c15
          clear c15
          obtain ⟨y753, hy753⟩ : ∃ y_ : List Bool, y_ = (x5_1.set (x14_1 : Int).toNat ((Go.bits .and .u64 (ji13) 1) == 1)) := ⟨_, rfl⟩
          replace H : (ring_Bits.l0 k1 a1 y753 (y750.length : Int) (wrap64 (x14_1 + 1))) = some r := by first | (rw [hy753]; with_reducible exact H) | (have H2_ := (Option.bind_some _ _).symm.trans H; rw [hy753]; with_reducible exact H2_) | (have H2_ := (Option.bind_some _ _).symm.trans H; with_reducible exact H2_) | with_reducible exact H | (rw [hy753]; exact H) | exact H
          have Ny753 := Aside0.mk hy753
          clear hy753
          have H' := Aside0.mk H
          clear H
          have p16 : 0 ≤ (x14_1 : Int) := of_decide_eq_true (zq39)
          have q16 : (x14_1 : Int) < ((x5_1.length : Int) : Int) := of_decide_eq_true (zq39)
          obtain ⟨go16, co16, eo16, gb16, gl16, cl16, HG16⟩ := Kd.R_form HO_5.out (by omega)
          (first | cases eo16 | (injection eo16 with ea_ en_ ec_; (first | subst ea_ | (injection ea_ with ea_; subst ea_)); subst ec_; clear en_))
          have GB16 := Aside0.mk gb16
          have GG16 := Aside0.mk HG16
          clear gb16 gl16 HG16
          obtain ⟨hx16_0, hf16_0⟩ := Kd.R_celln false HO_5.out (x14_1 : Int) p16 q16
          replace p16 := eq_true p16
          replace q16 := eq_true q16
          have HP17 := Kd.R_putg HO_5.out (x14_1 : Int) ((Go.bits .and .u64 (ji13) 1) == 1)
          go_wp2_with (first | ((with_reducible refine gate_store (t := 4) (p := 25) rfl ?_); refine store_event (t := 4) (p := 25) (v := ?vo_w18) (w1 := (wr.setCell ⟨go16, (x14_1 : Int).toNat, none⟩ (.bool ((Go.bits .and .u64 (ji13) 1) == 1)))) ?hg ?ho ?hn ?hr ?_; (case ho => rfl); (case hg => rfl); (case hn => rfl); (case hr => first | (go_simp; done) | (go_simp; rfl)); intro w18 hw; have hg : wr.grownBy w18 (some go16) := (by rw [hw]; exact HP17.2); have hp_ : Kd.R Kd.bool 4 w18 w.heap.size (fun _ => True) (.slice (some ⟨go16, 0, none⟩) x5_1.length co9) y753 := (by rw [hw, Ny753.out]; exact HP17.1); clear HP17; replace HO_5 := Aside0.mk (hp_); replace HB := Aside0.mk ((by rw [hw]; exact below_set (HB.out) GB16.out : Below w.heap.size w w18)); clear hg hw hp_))
          (try simp only [← hl5_1])
          go_roundg k1
          case measure => have := HK1.out; omega
          case rel => exact ⟨(y753), (wrap64 (x14_1 + 1)), (zq40), H', ⟨by have := HK1.out; omega⟩, ⟨by (try simp only [hl5_1]); (with_reducible repeat (first | apply Kd.R_alloc | apply Kd.R_drewN | apply Kd.R_drew)); exact HO_5.out⟩, ⟨HB.bl⟩⟩
         ·rw [if_neg c15] at H
          exact absurd H (by simp)
        ·rw [if_neg c14] at H
         exact absurd H (by simp)
       ·rw [if_neg c12] at H
        exact absurd H (by simp)
      ·rw [if_neg c10] at H
       have c10b0 : decide (x14_1 < (y750.length : Int)) = false := decide_eq_false c10
       (try simp only [hl5_1] at c10b0)
       clear c10
       obtain rfl := Option.some.inj H
       go_wp2
       go_ret
       exact ⟨_, zq37, HO_5.r, HB.bl⟩
   ·rw [if_neg c6] at H
    exact absurd H (by simp)
  ·rw [if_neg c5] at H
   exact absurd H (by simp)
end Go.Proofs.Ytcmaidpoolcelaa.P
