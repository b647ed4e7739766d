/- Functions of the program as plain Lean functions, and proofs that the machine's calls do what these do: written by a program of this workplace (wip/tools/pp.py). -/
import Derived.Test.YtcmaidpoolcelaaScPx0
import Derived.Test.YtcmaidpoolcelaaScK4
import Derived.Test.YtcmaidpoolcelaaScK5
import Derived.Test.YtcmaidpoolcelaaScSh
namespace Go.Proofs.Ytcmaidpoolcelaa.P
open Go.RowKit Go.Proofs.YtcmaidpoolcelaaW.PrintWords Go.Proofs.YtcmaidpoolcelaaW.PrintLast Go.Proofs.YtcmaidpoolcelaaW.PrintMore
attribute [local go_sem] max2_int min2_int max_two min_two max_three min_three max_four min_four   -- for this text's walks alone
set_option linter.unusedVariables false
set_option linter.unusedSimpArgs false

/-! ### trefoilref22_Split: function 49 -/
def trefoilref22_Split.l0 : Nat → Int → Int → List Int → List Bool → List Int → List Int → List Int → Int → Option (List Int × List Int)
 | 0, _, _, _, _, _, _, _, _ => none
 | k + 1, x0, x1, x2, x3, x4, x12, x13, x14 => if x14 < (x2.length : Int) then (if (x4.length : Int) > 0 then (if (x4.length : Int) = 0 then (none) else (if 0 ≤ (Int.tmod x14 (x4.length : Int)) then (if (Int.tmod x14 (x4.length : Int)) < (x4.length : Int) then ((trefoilref03_Fit.f k x0 (rd x4 (Int.tmod x14 (x4.length : Int)))).bind fun t1034 => (if x1 = 0 then (none) else (if (wrap64 (Int.tdiv x14 x1)) < (x3.length : Int) then (if 0 ≤ (wrap64 (Int.tdiv x14 x1)) then (if rdOf false x3 (wrap64 (Int.tdiv x14 x1)) = true then (if 0 ≤ x14 then (if x12.length < 17592186044416 then ((trefoilref03_Sub.f k x0 (rd x2 x14) t1034).bind fun t1040 => (if x13.length < 17592186044416 then (trefoilref22_Split.l0 k x0 x1 x2 x3 x4 (x12 ++ [t1034]) (x13 ++ [t1040]) (wrap64 (x14 + 1))) else (none))) else (none)) else (none)) else (if x12.length < 17592186044416 then ((trefoilref03_Sub.f k x0 0 t1034).bind fun t1047 => (if x13.length < 17592186044416 then (trefoilref22_Split.l0 k x0 x1 x2 x3 x4 (x12 ++ [t1034]) (x13 ++ [t1047]) (wrap64 (x14 + 1))) else (none))) else (none))) else (none)) else (if x12.length < 17592186044416 then ((trefoilref03_Sub.f k x0 0 t1034).bind fun t1054 => (if x13.length < 17592186044416 then (trefoilref22_Split.l0 k x0 x1 x2 x3 x4 (x12 ++ [t1034]) (x13 ++ [t1054]) (wrap64 (x14 + 1))) else (none))) else (none))))) else (none)) else (none))) else (if x1 = 0 then (none) else (if (wrap64 (Int.tdiv x14 x1)) < (x3.length : Int) then (if 0 ≤ (wrap64 (Int.tdiv x14 x1)) then (if rdOf false x3 (wrap64 (Int.tdiv x14 x1)) = true then (if 0 ≤ x14 then (if x12.length < 17592186044416 then ((trefoilref03_Sub.f k x0 (rd x2 x14) 0).bind fun t1063 => (if x13.length < 17592186044416 then (trefoilref22_Split.l0 k x0 x1 x2 x3 x4 (x12 ++ [0]) (x13 ++ [t1063]) (wrap64 (x14 + 1))) else (none))) else (none)) else (none)) else (if x12.length < 17592186044416 then ((trefoilref03_Sub.f k x0 0 0).bind fun t1070 => (if x13.length < 17592186044416 then (trefoilref22_Split.l0 k x0 x1 x2 x3 x4 (x12 ++ [0]) (x13 ++ [t1070]) (wrap64 (x14 + 1))) else (none))) else (none))) else (none)) else (if x12.length < 17592186044416 then ((trefoilref03_Sub.f k x0 0 0).bind fun t1077 => (if x13.length < 17592186044416 then (trefoilref22_Split.l0 k x0 x1 x2 x3 x4 (x12 ++ [0]) (x13 ++ [t1077]) (wrap64 (x14 + 1))) else (none))) else (none))))) else (some (x12, x13))
def trefoilref22_Split.f (k : Nat) (a0 : Int) (a1 : Int) (l2 : List Int) (l3 : List Bool) (l4 : List Int) : Option (List Int × List Int) := trefoilref22_Split.l0 k a0 a1 l2 l3 l4 ([] : List Int) ([] : List Int) 0
set_option maxHeartbeats 8000000 in
set_option maxRecDepth 100000 in
theorem trefoilref22_Split.calls (k : Nat) (a0 : Int) (a1 : Int) (A2 : Option Addr) (c2 : Nat) (l2 : List Int) (A3 : Option Addr) (c3 : Nat) (l3 : List Bool) (A4 : Option Addr) (c4 : Nat) (l4 : List Int) (r1 : List Int) (r2 : List Int) (w : World) (hr2 : Kd.C (Kd.int .u64) w A2 l2.length l2) (hc2 : l2.length ≤ c2) (hr3 : Kd.C Kd.bool w A3 l3.length l3) (hc3 : l3.length ≤ c3) (hr4 : Kd.C (Kd.int .u64) w A4 l4.length l4) (hc4 : l4.length ≤ c4) (h : trefoilref22_Split.f k a0 a1 l2 l3 l4 = some (r1, r2)) :
  Calls Try.prog 49 #[.int .i64 a0, .int .i64 a1, .slice A2 l2.length c2, .slice A3 l3.length c3, .slice A4 l4.length c4] w fun e w' => ∃ v0_ v1_ : Value, e = .returned (.tuple #[v0_, v1_]) ∧ Kd.R (Kd.int .u64) 35 w' w.heap.size (fun k_ => some k_ ≠ (v1_ : Value).ownBlock) v0_ r1 ∧ Kd.R (Kd.int .u64) 35 w' w.heap.size (fun k_ => some k_ ≠ (v0_ : Value).ownBlock) v1_ r2 ∧ Below w.heap.size w w' := by
 have HR2 := Aside0.mk hr2
 have HC2 := Aside0.mk hc2
 clear hr2 hc2
 have HR3 := Aside0.mk hr3
 have HC3 := Aside0.mk hc3
 clear hr3 hc3
 have HR4 := Aside0.mk hr4
 have HC4 := Aside0.mk hc4
 clear hr4 hc4
 have HB := Aside0.mk (Below.refl w.heap.size w)
 have H : (trefoilref22_Split.l0 k a0 a1 l2 l3 l4 ([] : List Int) ([] : List Int) 0) = some (r1, r2) := h
 clear h
 have H' := Aside0.mk H
 clear H
 go_enter Try.func49, Try.ntmps49
 go_wp2
 go_loopg [12, 13, 14] k (fun kq v12 v13 v14 w' => ∃ (x12_1 : List Int) (x13_1 : List Int) (x14_1 : Int), v14 = .int .i64 x14_1 ∧ Aside0 (trefoilref22_Split.l0 kq a0 a1 l2 l3 l4 x12_1 x13_1 x14_1 = some (r1, r2)) ∧ Aside0 (kq ≤ k) ∧ Aside0 (Kd.R (Kd.int .u64) 35 w' w.heap.size (fun k_ => some k_ ≠ (v13 : Value).ownBlock) v12 x12_1) ∧ Aside0 (Kd.R (Kd.int .u64) 35 w' w.heap.size (fun k_ => some k_ ≠ (v12 : Value).ownBlock) v13 x13_1) ∧ Aside0 (Below w.heap.size w w'))
 case atStart => exact ⟨(([] : List Int)), (([] : List Int)), (0), (zq40), H', ⟨Nat.le_refl _⟩, ⟨zq25⟩, ⟨zq25⟩, ⟨HB.bl⟩⟩
 case round =>
  clear H'
  try clear c2
  try clear p2
  try clear c3
  try clear c4
  obtain ⟨x12_1, x13_1, x14_1, rfl, HA, HK1, HO_12, HO_13, HB⟩ := hrel
  cases gk with
  | zero => exact absurd HA.out (by simp [trefoilref22_Split.l0])
  | succ k1 =>
   have H := HA.out
   clear HA
   simp only [trefoilref22_Split.l0] at H
   by_cases c6 : x14_1 < (l2.length : Int)
   ·rw [if_pos c6] at H
    have c6b0 : decide (x14_1 < (l2.length : Int)) = true := decide_eq_true c6
    clear c6
    by_cases c7 : (l4.length : Int) > 0
    ·rw [if_pos c7] at H
     have c7b0 : decide (0 < (l4.length : Int)) = true := decide_eq_true c7
     have c7b1 : decide (0 < l4.length) = true := decide_eq_true (by omega)
     clear c7
     by_cases c8 : (l4.length : Int) = 0
     ·rw [if_pos c8] at H
      exact absurd H (by simp)
     ·rw [if_neg c8] at H
      have c8b0 : ((l4.length : Int) == 0) = false := beq_eq_false_iff_ne.mpr c8
      have c8b1 : ((l4.length : Int) != 0) = true := bne_iff_ne.mpr c8
      have c8b2 : ¬ (l4 = []) := fun h_ => c8 (by rw [h_]; rfl)
      obtain ⟨ji9, hji9⟩ : ∃ j_ : Int, (Int.tmod x14_1 (l4.length : Int)) = j_ := ⟨_, rfl⟩
      replace H : (if 0 ≤ (ji9) then (if (ji9) < (l4.length : Int) then ((trefoilref03_Fit.f k1 a0 (rd l4 (ji9))).bind fun t1034 => (if a1 = 0 then (none) else (if (wrap64 (Int.tdiv x14_1 a1)) < (l3.length : Int) then (if 0 ≤ (wrap64 (Int.tdiv x14_1 a1)) then (if rdOf false l3 (wrap64 (Int.tdiv x14_1 a1)) = true then (if 0 ≤ x14_1 then (if x12_1.length < 17592186044416 then ((trefoilref03_Sub.f k1 a0 (rd l2 x14_1) t1034).bind fun t1040 => (if x13_1.length < 17592186044416 then (trefoilref22_Split.l0 k1 a0 a1 l2 l3 l4 (x12_1 ++ [t1034]) (x13_1 ++ [t1040]) (wrap64 (x14_1 + 1))) else (none))) else (none)) else (none)) else (if x12_1.length < 17592186044416 then ((trefoilref03_Sub.f k1 a0 0 t1034).bind fun t1047 => (if x13_1.length < 17592186044416 then (trefoilref22_Split.l0 k1 a0 a1 l2 l3 l4 (x12_1 ++ [t1034]) (x13_1 ++ [t1047]) (wrap64 (x14_1 + 1))) else (none))) else (none))) else (none)) else (if x12_1.length < 17592186044416 then ((trefoilref03_Sub.f k1 a0 0 t1034).bind fun t1054 => (if x13_1.length < 17592186044416 then (trefoilref22_Split.l0 k1 a0 a1 l2 l3 l4 (x12_1 ++ [t1034]) (x13_1 ++ [t1054]) (wrap64 (x14_1 + 1))) else (none))) else (none))))) else (none)) else (none)) = some (r1, r2) := by first | (rw [hji9] at H; exact H) | (simp only [hji9] at H ⊢; exact H)
      by_cases c10 : 0 ≤ (ji9)
      ·rw [if_pos c10] at H
       have c10b0 : decide (0 ≤ (ji9)) = true := decide_eq_true c10
       clear c10
       by_cases c11 : (ji9) < (l4.length : Int)
       ·rw [if_pos c11] at H
        have c11b0 : decide ((ji9) < (l4.length : Int)) = true := decide_eq_true c11
        clear c11
        replace H := Option.bind_eq_some_iff.mp H
        obtain ⟨t1034, A120, H⟩ := H
        replace H : (if a1 = 0 then (none) else (if (wrap64 (Int.tdiv x14_1 a1)) < (l3.length : Int) then (if 0 ≤ (wrap64 (Int.tdiv x14_1 a1)) then (if rdOf false l3 (wrap64 (Int.tdiv x14_1 a1)) = true then (if 0 ≤ x14_1 then (if x12_1.length < 17592186044416 then ((trefoilref03_Sub.f k1 a0 (rd l2 x14_1) t1034).bind fun t1040 => (if x13_1.length < 17592186044416 then (trefoilref22_Split.l0 k1 a0 a1 l2 l3 l4 (x12_1 ++ [t1034]) (x13_1 ++ [t1040]) (wrap64 (x14_1 + 1))) else (none))) else (none)) else (none)) else (if x12_1.length < 17592186044416 then ((trefoilref03_Sub.f k1 a0 0 t1034).bind fun t1047 => (if x13_1.length < 17592186044416 then (trefoilref22_Split.l0 k1 a0 a1 l2 l3 l4 (x12_1 ++ [t1034]) (x13_1 ++ [t1047]) (wrap64 (x14_1 + 1))) else (none))) else (none))) else (none)) else (if x12_1.length < 17592186044416 then ((trefoilref03_Sub.f k1 a0 0 t1034).bind fun t1054 => (if x13_1.length < 17592186044416 then (trefoilref22_Split.l0 k1 a0 a1 l2 l3 l4 (x12_1 ++ [t1034]) (x13_1 ++ [t1054]) (wrap64 (x14_1 + 1))) else (none))) else (none)))) = some (r1, r2) := H
        have A12 := Aside0.mk A120
        clear A120
        by_cases c13 : a1 = 0
        ·rw [if_pos c13] at H
         exact absurd H (by simp)
        ·rw [if_neg c13] at H
         have c13b0 : (a1 == 0) = false := beq_eq_false_iff_ne.mpr c13
         have c13b1 : (a1 != 0) = true := bne_iff_ne.mpr c13
         by_cases c14 : (wrap64 (Int.tdiv x14_1 a1)) < (l3.length : Int)
         ·rw [if_pos c14] at H
          have c14b0 : decide ((wrap64 (Int.tdiv x14_1 a1)) < (l3.length : Int)) = true := decide_eq_true c14
          clear c14
          obtain ⟨ji15, hji15⟩ : ∃ j_ : Int, (wrap64 (Int.tdiv x14_1 a1)) = j_ := ⟨_, rfl⟩
          replace H : (if 0 ≤ (ji15) then (if rdOf false l3 (ji15) = true then (if 0 ≤ x14_1 then (if x12_1.length < 17592186044416 then ((trefoilref03_Sub.f k1 a0 (rd l2 x14_1) t1034).bind fun t1040 => (if x13_1.length < 17592186044416 then (trefoilref22_Split.l0 k1 a0 a1 l2 l3 l4 (x12_1 ++ [t1034]) (x13_1 ++ [t1040]) (wrap64 (x14_1 + 1))) else (none))) else (none)) else (none)) else (if x12_1.length < 17592186044416 then ((trefoilref03_Sub.f k1 a0 0 t1034).bind fun t1047 => (if x13_1.length < 17592186044416 then (trefoilref22_Split.l0 k1 a0 a1 l2 l3 l4 (x12_1 ++ [t1034]) (x13_1 ++ [t1047]) (wrap64 (x14_1 + 1))) else (none))) else (none))) else (none)) = some (r1, r2) := by first | (rw [hji15] at H; exact H) | (simp only [hji15] at H ⊢; exact H)
          (try rw [hji15] at c14b0)
          (try rw [hji15] at A12)
          have hji15w : (IntKind.i64.wrap (Int.tdiv x14_1 a1)) = ji15 := (i64_w _).trans hji15
          by_cases c16 : 0 ≤ (ji15)
          ·rw [if_pos c16] at H
           have c16b0 : decide (0 ≤ (ji15)) = true := decide_eq_true c16
           clear c16
           obtain ⟨bq17, hbq17⟩ : ∃ b_ : Bool, b_ = (rdOf false l3 (ji15)) := ⟨_, rfl⟩
           replace H : (if bq17 = true then (if 0 ≤ x14_1 then (if x12_1.length < 17592186044416 then ((trefoilref03_Sub.f k1 a0 (rd l2 x14_1) t1034).bind fun t1040 => (if x13_1.length < 17592186044416 then (trefoilref22_Split.l0 k1 a0 a1 l2 l3 l4 (x12_1 ++ [t1034]) (x13_1 ++ [t1040]) (wrap64 (x14_1 + 1))) else (none))) else (none)) else (none)) else (if x12_1.length < 17592186044416 then ((trefoilref03_Sub.f k1 a0 0 t1034).bind fun t1047 => (if x13_1.length < 17592186044416 then (trefoilref22_Split.l0 k1 a0 a1 l2 l3 l4 (x12_1 ++ [t1034]) (x13_1 ++ [t1047]) (wrap64 (x14_1 + 1))) else (none))) else (none))) = some (r1, r2) := by rw [← hbq17] at H; exact H
           have Nbq17 := Aside0.mk hbq17
           clear hbq17
           by_cases c18 : bq17 = true
           ·subst c18
            have H1 : (if 0 ≤ x14_1 then (if x12_1.length < 17592186044416 then ((trefoilref03_Sub.f k1 a0 (rd l2 x14_1) t1034).bind fun t1040 => (if x13_1.length < 17592186044416 then (trefoilref22_Split.l0 k1 a0 a1 l2 l3 l4 (x12_1 ++ [t1034]) (x13_1 ++ [t1040]) (wrap64 (x14_1 + 1))) else (none))) else (none)) else (none)) = some (r1, r2) := by rw [if_pos rfl] at H; exact H
            clear H
            have H := H1
            clear H1
            by_cases c19 : 0 ≤ x14_1
            ·rw [if_pos c19] at H
             have c19b0 : decide (0 ≤ x14_1) = true := decide_eq_true c19
             clear c19
             by_cases c20 : x12_1.length < 17592186044416
             ·rw [if_pos c20] at H
              have LMc20 := Aside0.mk c20
              clear c20
              obtain ⟨y1037, hy1037⟩ : ∃ y_ : List Int, y_ = (x12_1 ++ [t1034]) := ⟨_, rfl⟩
              replace H : ((trefoilref03_Sub.f k1 a0 (rd l2 x14_1) t1034).bind fun t1040 => (if x13_1.length < 17592186044416 then (trefoilref22_Split.l0 k1 a0 a1 l2 l3 l4 y1037 (x13_1 ++ [t1040]) (wrap64 (x14_1 + 1))) else (none))) = some (r1, r2) := by first | (rw [hy1037]; with_reducible exact H) | (have H2_ := (Option.bind_some _ _).symm.trans H; rw [hy1037]; with_reducible exact H2_) | (have H2_ := (Option.bind_some _ _).symm.trans H; with_reducible exact H2_) | with_reducible exact H | (rw [hy1037]; exact H) | exact H
              have Ny1037 := Aside0.mk hy1037
              clear hy1037
              replace H := Option.bind_eq_some_iff.mp H
              obtain ⟨t1040, A210, H⟩ := H
              replace H : (if x13_1.length < 17592186044416 then (trefoilref22_Split.l0 k1 a0 a1 l2 l3 l4 y1037 (x13_1 ++ [t1040]) (wrap64 (x14_1 + 1))) else (none)) = some (r1, r2) := H
              have A21 := Aside0.mk A210
              clear A210
              by_cases c22 : x13_1.length < 17592186044416
              ·rw [if_pos c22] at H
               have LMc22 := Aside0.mk c22
               clear c22
               obtain ⟨y1041, hy1041⟩ : ∃ y_ : List Int, y_ = (x13_1 ++ [t1040]) := ⟨_, rfl⟩
               replace H : (trefoilref22_Split.l0 k1 a0 a1 l2 l3 l4 y1037 y1041 (wrap64 (x14_1 + 1))) = some (r1, r2) := by first | (rw [hy1041]; with_reducible exact H) | (have H2_ := (Option.bind_some _ _).symm.trans H; rw [hy1041]; with_reducible exact H2_) | (have H2_ := (Option.bind_some _ _).symm.trans H; with_reducible exact H2_) | with_reducible exact H | (rw [hy1041]; exact H) | exact H
               have Ny1041 := Aside0.mk hy1041
               clear hy1041
               have H' := Aside0.mk H
               clear H
               have p1033 : 0 ≤ ((ji9) : Int) := of_decide_eq_true (zq39)
               have q1033 : (ji9) < (l4.length : Int) := of_decide_eq_true (zq39)
               obtain ⟨ad1033, e1033, hx1033_0⟩ := Kd.at_int HR4.out (ji9) p1033 q1033
               cases e1033
               replace hx1033_0 := (HB.out.cell (World.block_lt_of_cell? w _ hx1033_0)).trans hx1033_0
               replace p1033 := eq_true p1033
               replace q1033 := eq_true q1033
               go_wp2_with (first | ((with_reducible refine gate_callee (f := 26) rfl ?_); refine goesL_ (some 34) rfl rfl Try.func26 (zq43) rfl #[.int .i64 a0, .int .u64 (rd l4 (ji9))] rfl (by (try simp only [List.map_toArray, List.map_cons, List.map_nil]); first | done | (simp only [hji9]; rfl) | rfl | (simp only [List.length_drop, List.length_take]; rfl)) ?_; (with_reducible refine (trefoilref03_Fit.calls k1 a0 (rd l4 (ji9)) t1034 _ A12.out).mono ?_); rintro e w' ⟨rfl, ⟨nd, rfl⟩⟩; refine ⟨_, rfl, ?_⟩; have p1035 : 0 ≤ ((ji15) : Int) := of_decide_eq_true (zq39); have q1035 : (ji15) < (l3.length : Int) := of_decide_eq_true (zq39); obtain ⟨ad1035, e1035, hx1035_0⟩ := Kd.at_bool HR3.out (ji15) p1035 q1035; (try rw [← Nbq17.out] at hx1035_0); cases e1035; replace hx1035_0 := (HB.out.cell (World.block_lt_of_cell? w _ hx1035_0)).trans hx1035_0; replace p1035 := eq_true p1035; replace q1035 := eq_true q1035; have p1036 : 0 ≤ (x14_1 : Int) := of_decide_eq_true (zq39); have q1036 : x14_1 < (l2.length : Int) := of_decide_eq_true (zq39); obtain ⟨ad1036, e1036, hx1036_0⟩ := Kd.at_int HR2.out x14_1 p1036 q1036; cases e1036; replace hx1036_0 := (HB.out.cell (World.block_lt_of_cell? w _ hx1036_0)).trans hx1036_0; replace p1036 := eq_true p1036; replace q1036 := eq_true q1036) | ((with_reducible refine gate_builtin (b := .append) (xs := #[.tmp 53, .tmp 55]) rfl ?_); at_builtin; refine Kd.R_append (Kd.int .u64) (w0 := w) w.heap.size rfl (.tmp 53) (.tmp 55) 24 35 (.int .u64 0) 8 rfl Try.underlying24 info35 rfl (by decide) (by omega) u12 x12_1 t1034 [.int .u64 t1034] (fun k_ => some k_ ≠ (u13 : Value).ownBlock) (fun _ => False) rfl rfl ?aP (fun _ hk => hk.elim) ?aF ?aO ?aB ?aS ?aL ?_; (case aP => exact rfl); (case aB => exact HB.bl); (case aF => exact (fun k_ hk => Kd.fresh' (Kd.R_lt HO_13.r) k_ hk)); (case aO => exact HO_12.r); (case aS => exact (below_size HB.bl)); (case aL => have := LMc20.out; omega); intro v1038 w23 ho hb hg hat; rw [← Ny1037.out] at ho; replace HO_13 := Aside0.mk (Kd.R_after (ok := (fun _ => True)) (zq24) hg hat); replace HB := Aside0.mk (hb); have HO1039 := Aside0.mk (ho); clear HO_12; clear ho hb hg hat) | ((with_reducible refine gate_callee (f := 27) rfl ?_); refine goesL_ (some 61) rfl rfl Try.func27 (zq43) rfl #[.int .i64 a0, .int .u64 (rd l2 x14_1), .int .u64 t1034] rfl (zq26) ?_; (with_reducible refine (trefoilref03_Sub.calls k1 a0 (rd l2 x14_1) t1034 t1040 _ A21.out).mono ?_); rintro e w' ⟨rfl, ⟨nd, rfl⟩⟩; refine ⟨_, rfl, ?_⟩) | ((with_reducible refine gate_builtin (b := .append) (xs := #[.tmp 57, .tmp 62]) rfl ?_); at_builtin; refine Kd.R_append (Kd.int .u64) (w0 := w) w.heap.size rfl (.tmp 57) (.tmp 62) 24 35 (.int .u64 0) 8 rfl Try.underlying24 info35 rfl (by decide) (by omega) u13 x13_1 t1040 [.int .u64 t1040] (fun k_ => some k_ ≠ (v1038 : Value).ownBlock) (fun _ => False) rfl rfl ?aP (fun _ hk => hk.elim) ?aF ?aO ?aB ?aS ?aL ?_; (case aP => exact rfl); (case aB => exact HB.bl); (case aF => exact (fun k_ hk => Kd.fresh' (Kd.R_lt HO1039.r) k_ hk)); (case aO => exact (zq27)); (case aS => exact (below_size HB.bl)); (case aL => have := LMc22.out; omega); intro v1042 w24 ho hb hg hat; rw [← Ny1041.out] at ho; replace HO1039 := Aside0.mk (Kd.R_after (ok := (fun _ => True)) (by (with_reducible repeat (first | apply Kd.R_alloc | apply Kd.R_drewN | apply Kd.R_drew)); exact Kd.R_mono HO1039.out (fun _ hk => ⟨trivial, hk⟩)) hg hat); replace HB := Aside0.mk (hb); have HO1043 := Aside0.mk (ho); clear HO_13; clear ho hb hg hat))
               go_roundg k1
               case measure => have := HK1.out; omega
               case rel => exact ⟨(y1037), (y1041), (wrap64 (x14_1 + 1)), (zq40), H', ⟨by have := HK1.out; omega⟩, ⟨by (with_reducible repeat (first | apply Kd.R_alloc | apply Kd.R_drewN | apply Kd.R_drew)); exact Kd.R_mono HO1039.out (fun _ hk => hk.2)⟩, ⟨HO1043.r⟩, ⟨HB.bl⟩⟩
              ·rw [if_neg c22] at H
               exact absurd H (by simp)
             ·rw [if_neg c20] at H
              exact absurd H (by simp)
            ·rw [if_neg c19] at H
             exact absurd H (by simp)
           ·replace c18 := Bool.eq_false_iff.mpr c18
            subst c18
            have H1 : (if x12_1.length < 17592186044416 then ((trefoilref03_Sub.f k1 a0 0 t1034).bind fun t1047 => (if x13_1.length < 17592186044416 then (trefoilref22_Split.l0 k1 a0 a1 l2 l3 l4 (x12_1 ++ [t1034]) (x13_1 ++ [t1047]) (wrap64 (x14_1 + 1))) else (none))) else (none)) = some (r1, r2) := by rw [if_neg (show ¬ (false = true) by decide)] at H; exact H
            clear H
            have H := H1
            clear H1
            by_cases c25 : x12_1.length < 17592186044416
            ·rw [if_pos c25] at H
             have LMc25 := Aside0.mk c25
             clear c25
             obtain ⟨y1044, hy1044⟩ : ∃ y_ : List Int, y_ = (x12_1 ++ [t1034]) := ⟨_, rfl⟩
             replace H : ((trefoilref03_Sub.f k1 a0 0 t1034).bind fun t1047 => (if x13_1.length < 17592186044416 then (trefoilref22_Split.l0 k1 a0 a1 l2 l3 l4 y1044 (x13_1 ++ [t1047]) (wrap64 (x14_1 + 1))) else (none))) = some (r1, r2) := by first | (rw [hy1044]; with_reducible exact H) | (have H2_ := (Option.bind_some _ _).symm.trans H; rw [hy1044]; with_reducible exact H2_) | (have H2_ := (Option.bind_some _ _).symm.trans H; with_reducible exact H2_) | with_reducible exact H | (rw [hy1044]; exact H) | exact H
             have Ny1044 := Aside0.mk hy1044
             clear hy1044
             replace H := Option.bind_eq_some_iff.mp H
             obtain ⟨t1047, A260, H⟩ := H
             replace H : (if x13_1.length < 17592186044416 then (trefoilref22_Split.l0 k1 a0 a1 l2 l3 l4 y1044 (x13_1 ++ [t1047]) (wrap64 (x14_1 + 1))) else (none)) = some (r1, r2) := H
             have A26 := Aside0.mk A260
             clear A260
             by_cases c27 : x13_1.length < 17592186044416
             ·rw [if_pos c27] at H
              have LMc27 := Aside0.mk c27
              clear c27
              obtain ⟨y1048, hy1048⟩ : ∃ y_ : List Int, y_ = (x13_1 ++ [t1047]) := ⟨_, rfl⟩
              replace H : (trefoilref22_Split.l0 k1 a0 a1 l2 l3 l4 y1044 y1048 (wrap64 (x14_1 + 1))) = some (r1, r2) := by first | (rw [hy1048]; with_reducible exact H) | (have H2_ := (Option.bind_some _ _).symm.trans H; rw [hy1048]; with_reducible exact H2_) | (have H2_ := (Option.bind_some _ _).symm.trans H; with_reducible exact H2_) | with_reducible exact H | (rw [hy1048]; exact H) | exact H
              have Ny1048 := Aside0.mk hy1048
              clear hy1048
              have H' := Aside0.mk H
              clear H
              have p1033 : 0 ≤ ((ji9) : Int) := of_decide_eq_true (zq39)
              have q1033 : (ji9) < (l4.length : Int) := of_decide_eq_true (zq39)
              obtain ⟨ad1033, e1033, hx1033_0⟩ := Kd.at_int HR4.out (ji9) p1033 q1033
              cases e1033
              replace hx1033_0 := (HB.out.cell (World.block_lt_of_cell? w _ hx1033_0)).trans hx1033_0
              replace p1033 := eq_true p1033
              replace q1033 := eq_true q1033
              go_wp2_with (first | ((with_reducible refine gate_callee (f := 26) rfl ?_); refine goesL_ (some 34) rfl rfl Try.func26 (zq43) rfl #[.int .i64 a0, .int .u64 (rd l4 (ji9))] rfl (by (try simp only [List.map_toArray, List.map_cons, List.map_nil]); first | done | (simp only [hji9]; rfl) | rfl | (simp only [List.length_drop, List.length_take]; rfl)) ?_; (with_reducible refine (trefoilref03_Fit.calls k1 a0 (rd l4 (ji9)) t1034 _ A12.out).mono ?_); rintro e w' ⟨rfl, ⟨nd, rfl⟩⟩; refine ⟨_, rfl, ?_⟩; have p1035 : 0 ≤ ((ji15) : Int) := of_decide_eq_true (zq39); have q1035 : (ji15) < (l3.length : Int) := of_decide_eq_true (zq39); obtain ⟨ad1035, e1035, hx1035_0⟩ := Kd.at_bool HR3.out (ji15) p1035 q1035; (try rw [← Nbq17.out] at hx1035_0); cases e1035; replace hx1035_0 := (HB.out.cell (World.block_lt_of_cell? w _ hx1035_0)).trans hx1035_0; replace p1035 := eq_true p1035; replace q1035 := eq_true q1035) | ((with_reducible refine gate_builtin (b := .append) (xs := #[.tmp 53, .tmp 55]) rfl ?_); at_builtin; refine Kd.R_append (Kd.int .u64) (w0 := w) w.heap.size rfl (.tmp 53) (.tmp 55) 24 35 (.int .u64 0) 8 rfl Try.underlying24 info35 rfl (by decide) (by omega) u12 x12_1 t1034 [.int .u64 t1034] (fun k_ => some k_ ≠ (u13 : Value).ownBlock) (fun _ => False) rfl rfl ?aP (fun _ hk => hk.elim) ?aF ?aO ?aB ?aS ?aL ?_; (case aP => exact rfl); (case aB => exact HB.bl); (case aF => exact (fun k_ hk => Kd.fresh' (Kd.R_lt HO_13.r) k_ hk)); (case aO => exact HO_12.r); (case aS => exact (below_size HB.bl)); (case aL => have := LMc25.out; omega); intro v1045 w28 ho hb hg hat; rw [← Ny1044.out] at ho; replace HO_13 := Aside0.mk (Kd.R_after (ok := (fun _ => True)) (zq24) hg hat); replace HB := Aside0.mk (hb); have HO1046 := Aside0.mk (ho); clear HO_12; clear ho hb hg hat) | ((with_reducible refine gate_callee (f := 27) rfl ?_); refine goesL_ (some 61) rfl rfl Try.func27 (zq43) rfl #[.int .i64 a0, .int .u64 0, .int .u64 t1034] rfl (zq26) ?_; (with_reducible refine (trefoilref03_Sub.calls k1 a0 0 t1034 t1047 _ A26.out).mono ?_); rintro e w' ⟨rfl, ⟨nd, rfl⟩⟩; refine ⟨_, rfl, ?_⟩) | ((with_reducible refine gate_builtin (b := .append) (xs := #[.tmp 57, .tmp 62]) rfl ?_); at_builtin; refine Kd.R_append (Kd.int .u64) (w0 := w) w.heap.size rfl (.tmp 57) (.tmp 62) 24 35 (.int .u64 0) 8 rfl Try.underlying24 info35 rfl (by decide) (by omega) u13 x13_1 t1047 [.int .u64 t1047] (fun k_ => some k_ ≠ (v1045 : Value).ownBlock) (fun _ => False) rfl rfl ?aP (fun _ hk => hk.elim) ?aF ?aO ?aB ?aS ?aL ?_; (case aP => exact rfl); (case aB => exact HB.bl); (case aF => exact (fun k_ hk => Kd.fresh' (Kd.R_lt HO1046.r) k_ hk)); (case aO => exact (zq27)); (case aS => exact (below_size HB.bl)); (case aL => have := LMc27.out; omega); intro v1049 w29 ho hb hg hat; rw [← Ny1048.out] at ho; replace HO1046 := Aside0.mk (Kd.R_after (ok := (fun _ => True)) (by (with_reducible repeat (first | apply Kd.R_alloc | apply Kd.R_drewN | apply Kd.R_drew)); exact Kd.R_mono HO1046.out (fun _ hk => ⟨trivial, hk⟩)) hg hat); replace HB := Aside0.mk (hb); have HO1050 := Aside0.mk (ho); clear HO_13; clear ho hb hg hat))
              go_roundg k1
              case measure => have := HK1.out; omega
              case rel => exact ⟨(y1044), (y1048), (wrap64 (x14_1 + 1)), (zq40), H', ⟨by have := HK1.out; omega⟩, ⟨by (with_reducible repeat (first | apply Kd.R_alloc | apply Kd.R_drewN | apply Kd.R_drew)); exact Kd.R_mono HO1046.out (fun _ hk => hk.2)⟩, ⟨HO1050.r⟩, ⟨HB.bl⟩⟩
             ·rw [if_neg c27] at H
              exact absurd H (by simp)
            ·rw [if_neg c25] at H
             exact absurd H (by simp)
          ·rw [if_neg c16] at H
           exact absurd H (by simp)
         ·rw [if_neg c14] at H
          have c14b0 : decide ((wrap64 (Int.tdiv x14_1 a1)) < (l3.length : Int)) = false := decide_eq_false c14
          clear c14
          by_cases c30 : x12_1.length < 17592186044416
          ·rw [if_pos c30] at H
           have LMc30 := Aside0.mk c30
           clear c30
           obtain ⟨y1051, hy1051⟩ : ∃ y_ : List Int, y_ = (x12_1 ++ [t1034]) := ⟨_, rfl⟩
           replace H : ((trefoilref03_Sub.f k1 a0 0 t1034).bind fun t1054 => (if x13_1.length < 17592186044416 then (trefoilref22_Split.l0 k1 a0 a1 l2 l3 l4 y1051 (x13_1 ++ [t1054]) (wrap64 (x14_1 + 1))) else (none))) = some (r1, r2) := by first | (rw [hy1051]; with_reducible exact H) | (have H2_ := (Option.bind_some _ _).symm.trans H; rw [hy1051]; with_reducible exact H2_) | (have H2_ := (Option.bind_some _ _).symm.trans H; with_reducible exact H2_) | with_reducible exact H | (rw [hy1051]; exact H) | exact H
           have Ny1051 := Aside0.mk hy1051
           clear hy1051
           replace H := Option.bind_eq_some_iff.mp H
           obtain ⟨t1054, A310, H⟩ := H
           replace H : (if x13_1.length < 17592186044416 then (trefoilref22_Split.l0 k1 a0 a1 l2 l3 l4 y1051 (x13_1 ++ [t1054]) (wrap64 (x14_1 + 1))) else (none)) = some (r1, r2) := H
           have A31 := Aside0.mk A310
           clear A310
           by_cases c32 : x13_1.length < 17592186044416
           ·rw [if_pos c32] at H
            have LMc32 := Aside0.mk c32
            clear c32
            obtain ⟨y1055, hy1055⟩ : ∃ y_ : List Int, y_ = (x13_1 ++ [t1054]) := ⟨_, rfl⟩
            replace H : (trefoilref22_Split.l0 k1 a0 a1 l2 l3 l4 y1051 y1055 (wrap64 (x14_1 + 1))) = some (r1, r2) := by first | (rw [hy1055]; with_reducible exact H) | (have H2_ := (Option.bind_some _ _).symm.trans H; rw [hy1055]; with_reducible exact H2_) | (have H2_ := (Option.bind_some _ _).symm.trans H; with_reducible exact H2_) | with_reducible exact H | (rw [hy1055]; exact H) | exact H
            have Ny1055 := Aside0.mk hy1055
            clear hy1055
            have H' := Aside0.mk H
            clear H
            have p1033 : 0 ≤ ((ji9) : Int) := of_decide_eq_true (zq39)
            have q1033 : (ji9) < (l4.length : Int) := of_decide_eq_true (zq39)
            obtain ⟨ad1033, e1033, hx1033_0⟩ := Kd.at_int HR4.out (ji9) p1033 q1033
            cases e1033
            replace hx1033_0 := (HB.out.cell (World.block_lt_of_cell? w _ hx1033_0)).trans hx1033_0
            replace p1033 := eq_true p1033
            replace q1033 := eq_true q1033
            go_wp2_with (first | ((with_reducible refine gate_callee (f := 26) rfl ?_); refine goesL_ (some 34) rfl rfl Try.func26 (zq43) rfl #[.int .i64 a0, .int .u64 (rd l4 (ji9))] rfl (by (try simp only [List.map_toArray, List.map_cons, List.map_nil]); first | done | (simp only [hji9]; rfl) | rfl | (simp only [List.length_drop, List.length_take]; rfl)) ?_; (with_reducible refine (trefoilref03_Fit.calls k1 a0 (rd l4 (ji9)) t1034 _ A12.out).mono ?_); rintro e w' ⟨rfl, ⟨nd, rfl⟩⟩; refine ⟨_, rfl, ?_⟩) | ((with_reducible refine gate_builtin (b := .append) (xs := #[.tmp 53, .tmp 55]) rfl ?_); at_builtin; refine Kd.R_append (Kd.int .u64) (w0 := w) w.heap.size rfl (.tmp 53) (.tmp 55) 24 35 (.int .u64 0) 8 rfl Try.underlying24 info35 rfl (by decide) (by omega) u12 x12_1 t1034 [.int .u64 t1034] (fun k_ => some k_ ≠ (u13 : Value).ownBlock) (fun _ => False) rfl rfl ?aP (fun _ hk => hk.elim) ?aF ?aO ?aB ?aS ?aL ?_; (case aP => exact rfl); (case aB => exact HB.bl); (case aF => exact (fun k_ hk => Kd.fresh' (Kd.R_lt HO_13.r) k_ hk)); (case aO => exact HO_12.r); (case aS => exact (below_size HB.bl)); (case aL => have := LMc30.out; omega); intro v1052 w33 ho hb hg hat; rw [← Ny1051.out] at ho; replace HO_13 := Aside0.mk (Kd.R_after (ok := (fun _ => True)) (zq24) hg hat); replace HB := Aside0.mk (hb); have HO1053 := Aside0.mk (ho); clear HO_12; clear ho hb hg hat) | ((with_reducible refine gate_callee (f := 27) rfl ?_); refine goesL_ (some 61) rfl rfl Try.func27 (zq43) rfl #[.int .i64 a0, .int .u64 0, .int .u64 t1034] rfl (zq26) ?_; (with_reducible refine (trefoilref03_Sub.calls k1 a0 0 t1034 t1054 _ A31.out).mono ?_); rintro e w' ⟨rfl, ⟨nd, rfl⟩⟩; refine ⟨_, rfl, ?_⟩) | ((with_reducible refine gate_builtin (b := .append) (xs := #[.tmp 57, .tmp 62]) rfl ?_); at_builtin; refine Kd.R_append (Kd.int .u64) (w0 := w) w.heap.size rfl (.tmp 57) (.tmp 62) 24 35 (.int .u64 0) 8 rfl Try.underlying24 info35 rfl (by decide) (by omega) u13 x13_1 t1054 [.int .u64 t1054] (fun k_ => some k_ ≠ (v1052 : Value).ownBlock) (fun _ => False) rfl rfl ?aP (fun _ hk => hk.elim) ?aF ?aO ?aB ?aS ?aL ?_; (case aP => exact rfl); (case aB => exact HB.bl); (case aF => exact (fun k_ hk => Kd.fresh' (Kd.R_lt HO1053.r) k_ hk)); (case aO => exact (zq27)); (case aS => exact (below_size HB.bl)); (case aL => have := LMc32.out; omega); intro v1056 w34 ho hb hg hat; rw [← Ny1055.out] at ho; replace HO1053 := Aside0.mk (Kd.R_after (ok := (fun _ => True)) (by (with_reducible repeat (first | apply Kd.R_alloc | apply Kd.R_drewN | apply Kd.R_drew)); exact Kd.R_mono HO1053.out (fun _ hk => ⟨trivial, hk⟩)) hg hat); replace HB := Aside0.mk (hb); have HO1057 := Aside0.mk (ho); clear HO_13; clear ho hb hg hat))
            go_roundg k1
            case measure => have := HK1.out; omega
            case rel => exact ⟨(y1051), (y1055), (wrap64 (x14_1 + 1)), (zq40), H', ⟨by have := HK1.out; omega⟩, ⟨by (with_reducible repeat (first | apply Kd.R_alloc | apply Kd.R_drewN | apply Kd.R_drew)); exact Kd.R_mono HO1053.out (fun _ hk => hk.2)⟩, ⟨HO1057.r⟩, ⟨HB.bl⟩⟩
           ·rw [if_neg c32] at H
            exact absurd H (by simp)
          ·rw [if_neg c30] at H
           exact absurd H (by simp)
       ·rw [if_neg c11] at H
        exact absurd H (by simp)
      ·rw [if_neg c10] at H
       exact absurd H (by simp)
    ·rw [if_neg c7] at H
     have c7b0 : decide (0 < (l4.length : Int)) = false := decide_eq_false c7
     have c7b1 : decide (0 < l4.length) = false := decide_eq_false (by omega)
     clear c7
     by_cases c35 : a1 = 0
     ·rw [if_pos c35] at H
      exact absurd H (by simp)
     ·rw [if_neg c35] at H
      have c35b0 : (a1 == 0) = false := beq_eq_false_iff_ne.mpr c35
      have c35b1 : (a1 != 0) = true := bne_iff_ne.mpr c35
      by_cases c36 : (wrap64 (Int.tdiv x14_1 a1)) < (l3.length : Int)
      ·rw [if_pos c36] at H
       have c36b0 : decide ((wrap64 (Int.tdiv x14_1 a1)) < (l3.length : Int)) = true := decide_eq_true c36
       clear c36
       obtain ⟨ji37, hji37⟩ : ∃ j_ : Int, (wrap64 (Int.tdiv x14_1 a1)) = j_ := ⟨_, rfl⟩
       replace H : (if 0 ≤ (ji37) then (if rdOf false l3 (ji37) = true then (if 0 ≤ x14_1 then (if x12_1.length < 17592186044416 then ((trefoilref03_Sub.f k1 a0 (rd l2 x14_1) 0).bind fun t1063 => (if x13_1.length < 17592186044416 then (trefoilref22_Split.l0 k1 a0 a1 l2 l3 l4 (x12_1 ++ [0]) (x13_1 ++ [t1063]) (wrap64 (x14_1 + 1))) else (none))) else (none)) else (none)) else (if x12_1.length < 17592186044416 then ((trefoilref03_Sub.f k1 a0 0 0).bind fun t1070 => (if x13_1.length < 17592186044416 then (trefoilref22_Split.l0 k1 a0 a1 l2 l3 l4 (x12_1 ++ [0]) (x13_1 ++ [t1070]) (wrap64 (x14_1 + 1))) else (none))) else (none))) else (none)) = some (r1, r2) := by first | (rw [hji37] at H; exact H) | (simp only [hji37] at H ⊢; exact H)
       (try rw [hji37] at c36b0)
       have hji37w : (IntKind.i64.wrap (Int.tdiv x14_1 a1)) = ji37 := (i64_w _).trans hji37
       by_cases c38 : 0 ≤ (ji37)
       ·rw [if_pos c38] at H
        have c38b0 : decide (0 ≤ (ji37)) = true := decide_eq_true c38
        clear c38
        obtain ⟨bq39, hbq39⟩ : ∃ b_ : Bool, b_ = (rdOf false l3 (ji37)) := ⟨_, rfl⟩
        replace H : (if bq39 = true then (if 0 ≤ x14_1 then (if x12_1.length < 17592186044416 then ((trefoilref03_Sub.f k1 a0 (rd l2 x14_1) 0).bind fun t1063 => (if x13_1.length < 17592186044416 then (trefoilref22_Split.l0 k1 a0 a1 l2 l3 l4 (x12_1 ++ [0]) (x13_1 ++ [t1063]) (wrap64 (x14_1 + 1))) else (none))) else (none)) else (none)) else (if x12_1.length < 17592186044416 then ((trefoilref03_Sub.f k1 a0 0 0).bind fun t1070 => (if x13_1.length < 17592186044416 then (trefoilref22_Split.l0 k1 a0 a1 l2 l3 l4 (x12_1 ++ [0]) (x13_1 ++ [t1070]) (wrap64 (x14_1 + 1))) else (none))) else (none))) = some (r1, r2) := by rw [← hbq39] at H; exact H
        have Nbq39 := Aside0.mk hbq39
        clear hbq39
        by_cases c40 : bq39 = true
        ·subst c40
         have H1 : (if 0 ≤ x14_1 then (if x12_1.length < 17592186044416 then ((trefoilref03_Sub.f k1 a0 (rd l2 x14_1) 0).bind fun t1063 => (if x13_1.length < 17592186044416 then (trefoilref22_Split.l0 k1 a0 a1 l2 l3 l4 (x12_1 ++ [0]) (x13_1 ++ [t1063]) (wrap64 (x14_1 + 1))) else (none))) else (none)) else (none)) = some (r1, r2) := by rw [if_pos rfl] at H; exact H
         clear H
         have H := H1
         clear H1
         by_cases c41 : 0 ≤ x14_1
         ·rw [if_pos c41] at H
          have c41b0 : decide (0 ≤ x14_1) = true := decide_eq_true c41
          clear c41
          by_cases c42 : x12_1.length < 17592186044416
          ·rw [if_pos c42] at H
           have LMc42 := Aside0.mk c42
           clear c42
           obtain ⟨y1060, hy1060⟩ : ∃ y_ : List Int, y_ = (x12_1 ++ [0]) := ⟨_, rfl⟩
           replace H : ((trefoilref03_Sub.f k1 a0 (rd l2 x14_1) 0).bind fun t1063 => (if x13_1.length < 17592186044416 then (trefoilref22_Split.l0 k1 a0 a1 l2 l3 l4 y1060 (x13_1 ++ [t1063]) (wrap64 (x14_1 + 1))) else (none))) = some (r1, r2) := by first | (rw [hy1060]; with_reducible exact H) | (have H2_ := (Option.bind_some _ _).symm.trans H; rw [hy1060]; with_reducible exact H2_) | (have H2_ := (Option.bind_some _ _).symm.trans H; with_reducible exact H2_) | with_reducible exact H | (rw [hy1060]; exact H) | exact H
           have Ny1060 := Aside0.mk hy1060
           clear hy1060
           replace H := Option.bind_eq_some_iff.mp H
           obtain ⟨t1063, A430, H⟩ := H
           replace H : (if x13_1.length < 17592186044416 then (trefoilref22_Split.l0 k1 a0 a1 l2 l3 l4 y1060 (x13_1 ++ [t1063]) (wrap64 (x14_1 + 1))) else (none)) = some (r1, r2) := H
           have A43 := Aside0.mk A430
           clear A430
           by_cases c44 : x13_1.length < 17592186044416
           ·rw [if_pos c44] at H
            have LMc44 := Aside0.mk c44
            clear c44
            obtain ⟨y1064, hy1064⟩ : ∃ y_ : List Int, y_ = (x13_1 ++ [t1063]) := ⟨_, rfl⟩
            replace H : (trefoilref22_Split.l0 k1 a0 a1 l2 l3 l4 y1060 y1064 (wrap64 (x14_1 + 1))) = some (r1, r2) := by first | (rw [hy1064]; with_reducible exact H) | (have H2_ := (Option.bind_some _ _).symm.trans H; rw [hy1064]; with_reducible exact H2_) | (have H2_ := (Option.bind_some _ _).symm.trans H; with_reducible exact H2_) | with_reducible exact H | (rw [hy1064]; exact H) | exact H
            have Ny1064 := Aside0.mk hy1064
            clear hy1064
            have H' := Aside0.mk H
            clear H
            have p1058 : 0 ≤ ((ji37) : Int) := of_decide_eq_true (zq39)
            have q1058 : (ji37) < (l3.length : Int) := of_decide_eq_true (zq39)
            obtain ⟨ad1058, e1058, hx1058_0⟩ := Kd.at_bool HR3.out (ji37) p1058 q1058
            (try rw [← Nbq39.out] at hx1058_0)
            cases e1058
            replace hx1058_0 := (HB.out.cell (World.block_lt_of_cell? w _ hx1058_0)).trans hx1058_0
            replace p1058 := eq_true p1058
            replace q1058 := eq_true q1058
            have p1059 : 0 ≤ (x14_1 : Int) := of_decide_eq_true (zq39)
            have q1059 : x14_1 < (l2.length : Int) := of_decide_eq_true (zq39)
            obtain ⟨ad1059, e1059, hx1059_0⟩ := Kd.at_int HR2.out x14_1 p1059 q1059
            cases e1059
            replace hx1059_0 := (HB.out.cell (World.block_lt_of_cell? w _ hx1059_0)).trans hx1059_0
            replace p1059 := eq_true p1059
            replace q1059 := eq_true q1059
            go_wp2_with (first | ((with_reducible refine gate_builtin (b := .append) (xs := #[.tmp 53, .tmp 55]) rfl ?_); at_builtin; refine Kd.R_append (Kd.int .u64) (w0 := w) w.heap.size rfl (.tmp 53) (.tmp 55) 24 35 (.int .u64 0) 8 rfl Try.underlying24 info35 rfl (by decide) (by omega) u12 x12_1 0 [.int .u64 0] (fun k_ => some k_ ≠ (u13 : Value).ownBlock) (fun _ => False) rfl rfl ?aP (fun _ hk => hk.elim) ?aF ?aO ?aB ?aS ?aL ?_; (case aP => exact rfl); (case aB => exact HB.bl); (case aF => exact (fun k_ hk => Kd.fresh' (Kd.R_lt HO_13.r) k_ hk)); (case aO => exact HO_12.r); (case aS => exact (below_size HB.bl)); (case aL => have := LMc42.out; omega); intro v1061 w45 ho hb hg hat; rw [← Ny1060.out] at ho; replace HO_13 := Aside0.mk (Kd.R_after (ok := (fun _ => True)) (zq24) hg hat); replace HB := Aside0.mk (hb); have HO1062 := Aside0.mk (ho); clear HO_12; clear ho hb hg hat) | ((with_reducible refine gate_callee (f := 27) rfl ?_); refine goesL_ (some 61) rfl rfl Try.func27 (zq43) rfl #[.int .i64 a0, .int .u64 (rd l2 x14_1), .int .u64 0] rfl (zq26) ?_; (with_reducible refine (trefoilref03_Sub.calls k1 a0 (rd l2 x14_1) 0 t1063 _ A43.out).mono ?_); rintro e w' ⟨rfl, ⟨nd, rfl⟩⟩; refine ⟨_, rfl, ?_⟩) | ((with_reducible refine gate_builtin (b := .append) (xs := #[.tmp 57, .tmp 62]) rfl ?_); at_builtin; refine Kd.R_append (Kd.int .u64) (w0 := w) w.heap.size rfl (.tmp 57) (.tmp 62) 24 35 (.int .u64 0) 8 rfl Try.underlying24 info35 rfl (by decide) (by omega) u13 x13_1 t1063 [.int .u64 t1063] (fun k_ => some k_ ≠ (v1061 : Value).ownBlock) (fun _ => False) rfl rfl ?aP (fun _ hk => hk.elim) ?aF ?aO ?aB ?aS ?aL ?_; (case aP => exact rfl); (case aB => exact HB.bl); (case aF => exact (fun k_ hk => Kd.fresh' (Kd.R_lt HO1062.r) k_ hk)); (case aO => exact (zq27)); (case aS => exact (below_size HB.bl)); (case aL => have := LMc44.out; omega); intro v1065 w46 ho hb hg hat; rw [← Ny1064.out] at ho; replace HO1062 := Aside0.mk (Kd.R_after (ok := (fun _ => True)) (by (with_reducible repeat (first | apply Kd.R_alloc | apply Kd.R_drewN | apply Kd.R_drew)); exact Kd.R_mono HO1062.out (fun _ hk => ⟨trivial, hk⟩)) hg hat); replace HB := Aside0.mk (hb); have HO1066 := Aside0.mk (ho); clear HO_13; clear ho hb hg hat))
            go_roundg k1
            case measure => have := HK1.out; omega
            case rel => exact ⟨(y1060), (y1064), (wrap64 (x14_1 + 1)), (zq40), H', ⟨by have := HK1.out; omega⟩, ⟨by (with_reducible repeat (first | apply Kd.R_alloc | apply Kd.R_drewN | apply Kd.R_drew)); exact Kd.R_mono HO1062.out (fun _ hk => hk.2)⟩, ⟨HO1066.r⟩, ⟨HB.bl⟩⟩
           ·rw [if_neg c44] at H
            exact absurd H (by simp)
          ·rw [if_neg c42] at H
           exact absurd H (by simp)
         ·rw [if_neg c41] at H
          exact absurd H (by simp)
        ·replace c40 := Bool.eq_false_iff.mpr c40
         subst c40
         have H1 : (if x12_1.length < 17592186044416 then ((trefoilref03_Sub.f k1 a0 0 0).bind fun t1070 => (if x13_1.length < 17592186044416 then (trefoilref22_Split.l0 k1 a0 a1 l2 l3 l4 (x12_1 ++ [0]) (x13_1 ++ [t1070]) (wrap64 (x14_1 + 1))) else (none))) else (none)) = some (r1, r2) := by rw [if_neg (show ¬ (false = true) by decide)] at H; exact H
         clear H
         have H := H1
         clear H1
         by_cases c47 : x12_1.length < 17592186044416
         ·rw [if_pos c47] at H
          have LMc47 := Aside0.mk c47
          clear c47
          obtain ⟨y1067, hy1067⟩ : ∃ y_ : List Int, y_ = (x12_1 ++ [0]) := ⟨_, rfl⟩
          replace H : ((trefoilref03_Sub.f k1 a0 0 0).bind fun t1070 => (if x13_1.length < 17592186044416 then (trefoilref22_Split.l0 k1 a0 a1 l2 l3 l4 y1067 (x13_1 ++ [t1070]) (wrap64 (x14_1 + 1))) else (none))) = some (r1, r2) := by first | (rw [hy1067]; with_reducible exact H) | (have H2_ := (Option.bind_some _ _).symm.trans H; rw [hy1067]; with_reducible exact H2_) | (have H2_ := (Option.bind_some _ _).symm.trans H; with_reducible exact H2_) | with_reducible exact H | (rw [hy1067]; exact H) | exact H
          have Ny1067 := Aside0.mk hy1067
          clear hy1067
          replace H := Option.bind_eq_some_iff.mp H
          obtain ⟨t1070, A480, H⟩ := H
          replace H : (if x13_1.length < 17592186044416 then (trefoilref22_Split.l0 k1 a0 a1 l2 l3 l4 y1067 (x13_1 ++ [t1070]) (wrap64 (x14_1 + 1))) else (none)) = some (r1, r2) := H
          have A48 := Aside0.mk A480
          clear A480
          by_cases c49 : x13_1.length < 17592186044416
          ·rw [if_pos c49] at H
           have LMc49 := Aside0.mk c49
           clear c49
           obtain ⟨y1071, hy1071⟩ : ∃ y_ : List Int, y_ = (x13_1 ++ [t1070]) := ⟨_, rfl⟩
           replace H : (trefoilref22_Split.l0 k1 a0 a1 l2 l3 l4 y1067 y1071 (wrap64 (x14_1 + 1))) = some (r1, r2) := by first | (rw [hy1071]; with_reducible exact H) | (have H2_ := (Option.bind_some _ _).symm.trans H; rw [hy1071]; with_reducible exact H2_) | (have H2_ := (Option.bind_some _ _).symm.trans H; with_reducible exact H2_) | with_reducible exact H | (rw [hy1071]; exact H) | exact H
           have Ny1071 := Aside0.mk hy1071
           clear hy1071
           have H' := Aside0.mk H
           clear H
           have p1058 : 0 ≤ ((ji37) : Int) := of_decide_eq_true (zq39)
           have q1058 : (ji37) < (l3.length : Int) := of_decide_eq_true (zq39)
           obtain ⟨ad1058, e1058, hx1058_0⟩ := Kd.at_bool HR3.out (ji37) p1058 q1058
           (try rw [← Nbq39.out] at hx1058_0)
           cases e1058
           replace hx1058_0 := (HB.out.cell (World.block_lt_of_cell? w _ hx1058_0)).trans hx1058_0
           replace p1058 := eq_true p1058
           replace q1058 := eq_true q1058
           go_wp2_with (first | ((with_reducible refine gate_builtin (b := .append) (xs := #[.tmp 53, .tmp 55]) rfl ?_); at_builtin; refine Kd.R_append (Kd.int .u64) (w0 := w) w.heap.size rfl (.tmp 53) (.tmp 55) 24 35 (.int .u64 0) 8 rfl Try.underlying24 info35 rfl (by decide) (by omega) u12 x12_1 0 [.int .u64 0] (fun k_ => some k_ ≠ (u13 : Value).ownBlock) (fun _ => False) rfl rfl ?aP (fun _ hk => hk.elim) ?aF ?aO ?aB ?aS ?aL ?_; (case aP => exact rfl); (case aB => exact HB.bl); (case aF => exact (fun k_ hk => Kd.fresh' (Kd.R_lt HO_13.r) k_ hk)); (case aO => exact HO_12.r); (case aS => exact (below_size HB.bl)); (case aL => have := LMc47.out; omega); intro v1068 w50 ho hb hg hat; rw [← Ny1067.out] at ho; replace HO_13 := Aside0.mk (Kd.R_after (ok := (fun _ => True)) (zq24) hg hat); replace HB := Aside0.mk (hb); have HO1069 := Aside0.mk (ho); clear HO_12; clear ho hb hg hat) | ((with_reducible refine gate_callee (f := 27) rfl ?_); refine goesL_ (some 61) rfl rfl Try.func27 (zq43) rfl #[.int .i64 a0, .int .u64 0, .int .u64 0] rfl (zq26) ?_; (with_reducible refine (trefoilref03_Sub.calls k1 a0 0 0 t1070 _ A48.out).mono ?_); rintro e w' ⟨rfl, ⟨nd, rfl⟩⟩; refine ⟨_, rfl, ?_⟩) | ((with_reducible refine gate_builtin (b := .append) (xs := #[.tmp 57, .tmp 62]) rfl ?_); at_builtin; refine Kd.R_append (Kd.int .u64) (w0 := w) w.heap.size rfl (.tmp 57) (.tmp 62) 24 35 (.int .u64 0) 8 rfl Try.underlying24 info35 rfl (by decide) (by omega) u13 x13_1 t1070 [.int .u64 t1070] (fun k_ => some k_ ≠ (v1068 : Value).ownBlock) (fun _ => False) rfl rfl ?aP (fun _ hk => hk.elim) ?aF ?aO ?aB ?aS ?aL ?_; (case aP => exact rfl); (case aB => exact HB.bl); (case aF => exact (fun k_ hk => Kd.fresh' (Kd.R_lt HO1069.r) k_ hk)); (case aO => exact (zq27)); (case aS => exact (below_size HB.bl)); (case aL => have := LMc49.out; omega); intro v1072 w51 ho hb hg hat; rw [← Ny1071.out] at ho; replace HO1069 := Aside0.mk (Kd.R_after (ok := (fun _ => True)) (by (with_reducible repeat (first | apply Kd.R_alloc | apply Kd.R_drewN | apply Kd.R_drew)); exact Kd.R_mono HO1069.out (fun _ hk => ⟨trivial, hk⟩)) hg hat); replace HB := Aside0.mk (hb); have HO1073 := Aside0.mk (ho); clear HO_13; clear ho hb hg hat))
           go_roundg k1
           case measure => have := HK1.out; omega
           case rel => exact ⟨(y1067), (y1071), (wrap64 (x14_1 + 1)), (zq40), H', ⟨by have := HK1.out; omega⟩, ⟨by (with_reducible repeat (first | apply Kd.R_alloc | apply Kd.R_drewN | apply Kd.R_drew)); exact Kd.R_mono HO1069.out (fun _ hk => hk.2)⟩, ⟨HO1073.r⟩, ⟨HB.bl⟩⟩
          ·rw [if_neg c49] at H
           exact absurd H (by simp)
         ·rw [if_neg c47] at H
          exact absurd H (by simp)
       ·rw [if_neg c38] at H
        exact absurd H (by simp)
      ·rw [if_neg c36] at H
       have c36b0 : decide ((wrap64 (Int.tdiv x14_1 a1)) < (l3.length : Int)) = false := decide_eq_false c36
       clear c36
       by_cases c52 : x12_1.length < 17592186044416
       ·rw [if_pos c52] at H
        have LMc52 := Aside0.mk c52
        clear c52
        obtain ⟨y1074, hy1074⟩ : ∃ y_ : List Int, y_ = (x12_1 ++ [0]) := ⟨_, rfl⟩
        replace H : ((trefoilref03_Sub.f k1 a0 0 0).bind fun t1077 => (if x13_1.length < 17592186044416 then (trefoilref22_Split.l0 k1 a0 a1 l2 l3 l4 y1074 (x13_1 ++ [t1077]) (wrap64 (x14_1 + 1))) else (none))) = some (r1, r2) := by first | (rw [hy1074]; with_reducible exact H) | (have H2_ := (Option.bind_some _ _).symm.trans H; rw [hy1074]; with_reducible exact H2_) | (have H2_ := (Option.bind_some _ _).symm.trans H; with_reducible exact H2_) | with_reducible exact H | (rw [hy1074]; exact H) | exact H
        have Ny1074 := Aside0.mk hy1074
        clear hy1074
        replace H := Option.bind_eq_some_iff.mp H
        obtain ⟨t1077, A530, H⟩ := H
        replace H : (if x13_1.length < 17592186044416 then (trefoilref22_Split.l0 k1 a0 a1 l2 l3 l4 y1074 (x13_1 ++ [t1077]) (wrap64 (x14_1 + 1))) else (none)) = some (r1, r2) := H
        have A53 := Aside0.mk A530
        clear A530
        by_cases c54 : x13_1.length < 17592186044416
        ·rw [if_pos c54] at H
         have LMc54 := Aside0.mk c54
         clear c54
         obtain ⟨y1078, hy1078⟩ : ∃ y_ : List Int, y_ = (x13_1 ++ [t1077]) := ⟨_, rfl⟩
         replace H : (trefoilref22_Split.l0 k1 a0 a1 l2 l3 l4 y1074 y1078 (wrap64 (x14_1 + 1))) = some (r1, r2) := by first | (rw [hy1078]; with_reducible exact H) | (have H2_ := (Option.bind_some _ _).symm.trans H; rw [hy1078]; with_reducible exact H2_) | (have H2_ := (Option.bind_some _ _).symm.trans H; with_reducible exact H2_) | with_reducible exact H | (rw [hy1078]; exact H) | exact H
         have Ny1078 := Aside0.mk hy1078
         clear hy1078
         have H' := Aside0.mk H
         clear H
         go_wp2_with (first | ((with_reducible refine gate_builtin (b := .append) (xs := #[.tmp 53, .tmp 55]) rfl ?_); at_builtin; refine Kd.R_append (Kd.int .u64) (w0 := w) w.heap.size rfl (.tmp 53) (.tmp 55) 24 35 (.int .u64 0) 8 rfl Try.underlying24 info35 rfl (by decide) (by omega) u12 x12_1 0 [.int .u64 0] (fun k_ => some k_ ≠ (u13 : Value).ownBlock) (fun _ => False) rfl rfl ?aP (fun _ hk => hk.elim) ?aF ?aO ?aB ?aS ?aL ?_; (case aP => exact rfl); (case aB => exact HB.bl); (case aF => exact (fun k_ hk => Kd.fresh' (Kd.R_lt HO_13.r) k_ hk)); (case aO => exact HO_12.r); (case aS => exact (below_size HB.bl)); (case aL => have := LMc52.out; omega); intro v1075 w55 ho hb hg hat; rw [← Ny1074.out] at ho; replace HO_13 := Aside0.mk (Kd.R_after (ok := (fun _ => True)) (zq24) hg hat); replace HB := Aside0.mk (hb); have HO1076 := Aside0.mk (ho); clear HO_12; clear ho hb hg hat) | ((with_reducible refine gate_callee (f := 27) rfl ?_); refine goesL_ (some 61) rfl rfl Try.func27 (zq43) rfl #[.int .i64 a0, .int .u64 0, .int .u64 0] rfl (zq26) ?_; (with_reducible refine (trefoilref03_Sub.calls k1 a0 0 0 t1077 _ A53.out).mono ?_); rintro e w' ⟨rfl, ⟨nd, rfl⟩⟩; refine ⟨_, rfl, ?_⟩) | ((with_reducible refine gate_builtin (b := .append) (xs := #[.tmp 57, .tmp 62]) rfl ?_); at_builtin; refine Kd.R_append (Kd.int .u64) (w0 := w) w.heap.size rfl (.tmp 57) (.tmp 62) 24 35 (.int .u64 0) 8 rfl Try.underlying24 info35 rfl (by decide) (by omega) u13 x13_1 t1077 [.int .u64 t1077] (fun k_ => some k_ ≠ (v1075 : Value).ownBlock) (fun _ => False) rfl rfl ?aP (fun _ hk => hk.elim) ?aF ?aO ?aB ?aS ?aL ?_; (case aP => exact rfl); (case aB => exact HB.bl); (case aF => exact (fun k_ hk => Kd.fresh' (Kd.R_lt HO1076.r) k_ hk)); (case aO => exact (zq27)); (case aS => exact (below_size HB.bl)); (case aL => have := LMc54.out; omega); intro v1079 w56 ho hb hg hat; rw [← Ny1078.out] at ho; replace HO1076 := Aside0.mk (Kd.R_after (ok := (fun _ => True)) (by (with_reducible repeat (first | apply Kd.R_alloc | apply Kd.R_drewN | apply Kd.R_drew)); exact Kd.R_mono HO1076.out (fun _ hk => ⟨trivial, hk⟩)) hg hat); replace HB := Aside0.mk (hb); have HO1080 := Aside0.mk (ho); clear HO_13; clear ho hb hg hat))
         go_roundg k1
         case measure => have := HK1.out; omega
         case rel => exact ⟨(y1074), (y1078), (wrap64 (x14_1 + 1)), (zq40), H', ⟨by have := HK1.out; omega⟩, ⟨by (with_reducible repeat (first | apply Kd.R_alloc | apply Kd.R_drewN | apply Kd.R_drew)); exact Kd.R_mono HO1076.out (fun _ hk => hk.2)⟩, ⟨HO1080.r⟩, ⟨HB.bl⟩⟩
        ·rw [if_neg c54] at H
         exact absurd H (by simp)
       ·rw [if_neg c52] at H
        exact absurd H (by simp)
   ·rw [if_neg c6] at H
    have c6b0 : decide (x14_1 < (l2.length : Int)) = false := decide_eq_false c6
    clear c6
    simp only [Option.some.injEq, Prod.mk.injEq] at H
    obtain ⟨rfl, rfl⟩ := H
    go_wp2
    go_ret2
    exact ⟨_, _, zq37, HO_12.r, HO_13.r, HB.bl⟩
end Go.Proofs.Ytcmaidpoolcelaa.P
