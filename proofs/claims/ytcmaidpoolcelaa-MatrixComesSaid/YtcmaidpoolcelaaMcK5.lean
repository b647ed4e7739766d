/- Functions of the program as plain Lean functions, and proofs that the machine's calls do what these do: written by a program of this workplace (wip/tools/pp.py). -/
import Derived.Test.YtcmaidpoolcelaaMcPx0
import Derived.Test.YtcmaidpoolcelaaMcK1
import Derived.Test.YtcmaidpoolcelaaMcK4
import Derived.Test.YtcmaidpoolcelaaMcSh
namespace Go.Proofs.Ytcmaidpoolcelaa.P
open Go.RowKit Go.Proofs.YtcmaidpoolcelaaW.PrintWords Go.Proofs.YtcmaidpoolcelaaW.PrintLast Go.Proofs.YtcmaidpoolcelaaW.PrintMore
attribute [local go_sem] max2_int min2_int max_two min_two max_three min_three max_four min_four   -- for this text's walks alone
set_option linter.unusedVariables false
set_option linter.unusedSimpArgs false

/-! ### ring_MatMul: function 61 -/
mutual
def ring_MatMul.j0 : Nat → Int → Int → Int → Int → List Int → List Int → Bool → Option (List Int × Int)
 | 0, _, _, _, _, _, _, _ => none
 | k + 1, x0, x1, x2, x3, x4, x5, x49 => if x49 = true then (some (([] : List Int), 11)) else (if 0 ≤ (wrap64 (x1 * x3)) then (if (wrap64 (x1 * x3) : Int).toNat ≤ 35184372088832 then (ring_MatMul.l0 k x0 x2 x3 x4 x5 (List.replicate (wrap64 (x1 * x3) : Int).toNat 0) x1 0) else (none)) else (none))
def ring_MatMul.l0 : Nat → Int → Int → Int → List Int → List Int → List Int → Int → Int → Option (List Int × Int)
 | 0, _, _, _, _, _, _, _, _ => none
 | k + 1, x0, x2, x3, x4, x5, x14, x54, x55 => if x55 < x54 then (ring_MatMul.l1 k x0 x2 x3 x4 x5 x14 x55 x54 x55 x3 0) else (some (x14, 0))
def ring_MatMul.l1 : Nat → Int → Int → Int → List Int → List Int → List Int → Int → Int → Int → Int → Int → Option (List Int × Int)
 | 0, _, _, _, _, _, _, _, _, _, _, _ => none
 | k + 1, x0, x2, x3, x4, x5, x14, x15, x54, x55, x58, x59 => if x59 < x58 then (ring_MatMul.l2 k x0 x2 x3 x4 x5 x14 x15 x59 0 x54 x55 x58 x59 x2 0) else (ring_MatMul.l0 k x0 x2 x3 x4 x5 x14 x54 (wrap64 (x55 + 1)))
def ring_MatMul.l2 : Nat → Int → Int → Int → List Int → List Int → List Int → Int → Int → Int → Int → Int → Int → Int → Int → Int → Option (List Int × Int)
 | 0, _, _, _, _, _, _, _, _, _, _, _, _, _, _, _ => none
 | k + 1, x0, x2, x3, x4, x5, x14, x15, x16, x17, x54, x55, x58, x59, x62, x63 => if x63 < x62 then (if 0 ≤ (wrap64 ((wrap64 (x15 * x2)) + x63)) then (if (wrap64 ((wrap64 (x15 * x2)) + x63)) < (x4.length : Int) then (if 0 ≤ (wrap64 ((wrap64 (x63 * x3)) + x16)) then (if (wrap64 ((wrap64 (x63 * x3)) + x16)) < (x5.length : Int) then (ring_MatMul.l2 k x0 x2 x3 x4 x5 x14 x15 x16 (IntKind.u64.wrap (x17 + (IntKind.u64.wrap ((rd x4 (wrap64 ((wrap64 (x15 * x2)) + x63))) * (rd x5 (wrap64 ((wrap64 (x63 * x3)) + x16))))))) x54 x55 x58 x59 x62 (wrap64 (x63 + 1))) else (none)) else (none)) else (none)) else (none)) else ((ring_Fit.f x0 x17).bind fun t327 => (if 0 ≤ (wrap64 ((wrap64 (x15 * x3)) + x16)) then (if (wrap64 ((wrap64 (x15 * x3)) + x16)) < (x14.length : Int) then (ring_MatMul.l1 k x0 x2 x3 x4 x5 (x14.set ((wrap64 ((wrap64 (x15 * x3)) + x16)) : Int).toNat t327) x15 x54 x55 x58 (wrap64 (x59 + 1))) else (none)) else (none)))
end
def ring_MatMul.f (k : Nat) (a0 : Int) (a1 : Int) (a2 : Int) (a3 : Int) (l4 : List Int) (l5 : List Int) : Option (List Int × Int) := (ring_sized.f a1 a2).bind fun t319 => (if t319 = true then ((ring_sized.f a2 a3).bind fun t320 => (if t320 = true then (if (l4.length : Int) = (wrap64 (a1 * a2)) then (if (l5.length : Int) = (wrap64 (a2 * a3)) then ((ring_mask.f a0).bind fun t321 => (ring_MatMul.j0 k a0 a1 a2 a3 l4 l5 (t321 == 0))) else (ring_MatMul.j0 k a0 a1 a2 a3 l4 l5 true)) else (ring_MatMul.j0 k a0 a1 a2 a3 l4 l5 true)) else (ring_MatMul.j0 k a0 a1 a2 a3 l4 l5 true))) else (ring_MatMul.j0 k a0 a1 a2 a3 l4 l5 true))
set_option maxHeartbeats 8000000 in
set_option maxRecDepth 100000 in
theorem ring_MatMul.calls (k : Nat) (a0 : Int) (a1 : Int) (a2 : Int) (a3 : Int) (A4 : Option Addr) (c4 : Nat) (l4 : List Int) (A5 : Option Addr) (c5 : Nat) (l5 : List Int) (r1 : List Int) (r2 : Int) (w : World) (hr4 : Kd.C (Kd.int .u64) w A4 l4.length l4) (hc4 : l4.length ≤ c4) (hr5 : Kd.C (Kd.int .u64) w A5 l5.length l5) (hc5 : l5.length ≤ c5) (h : ring_MatMul.f k a0 a1 a2 a3 l4 l5 = some (r1, r2)) :
  Calls Try.prog 61 #[.int .i64 a0, .int .i64 a1, .int .i64 a2, .int .i64 a3, .slice A4 l4.length c4, .slice A5 l5.length c5] w fun e w' => ∃ v0_ : Value, e = .returned (.tuple #[v0_, .int .i64 r2]) ∧ Kd.R (Kd.int .u64) 35 w' w.heap.size (fun _ => True) v0_ r1 ∧ Below w.heap.size w w' := by
 have HR4 := Aside0.mk hr4
 have HC4 := Aside0.mk hc4
 clear hr4 hc4
 have HR5 := Aside0.mk hr5
 have HC5 := Aside0.mk hc5
 clear hr5 hc5
 have HB := Aside0.mk (Below.refl w.heap.size w)
 have H : ((ring_sized.f a1 a2).bind fun t319 => (if t319 = true then ((ring_sized.f a2 a3).bind fun t320 => (if t320 = true then (if (l4.length : Int) = (wrap64 (a1 * a2)) then (if (l5.length : Int) = (wrap64 (a2 * a3)) then ((ring_mask.f a0).bind fun t321 => (ring_MatMul.j0 k a0 a1 a2 a3 l4 l5 (t321 == 0))) else (ring_MatMul.j0 k a0 a1 a2 a3 l4 l5 true)) else (ring_MatMul.j0 k a0 a1 a2 a3 l4 l5 true)) else (ring_MatMul.j0 k a0 a1 a2 a3 l4 l5 true))) else (ring_MatMul.j0 k a0 a1 a2 a3 l4 l5 true))) = some (r1, r2) := h
 clear h
 have HC7 := Aside0.mk H
 clear H
 go_enter Try.func61, Try.ntmps61
 go_upto_region 1 with (fail)
 repeat (go_quiet (fail); go_upto_region 1 with (fail))
 go_cut [49] (fun v49 wc => ∃ (kq : Nat) (x49_6 : Bool), v49 = .bool x49_6 ∧ Aside0 (ring_MatMul.j0 kq a0 a1 a2 a3 l4 l5 x49_6 = some (r1, r2)) ∧ Aside0 (kq ≤ k) ∧ Aside0 (Below w.heap.size w wc))
 case first =>
  have H := HC7.out
  clear HC7
  replace H := Option.bind_eq_some_iff.mp H
  obtain ⟨t319, A80, H⟩ := H
  replace H : (if t319 = true then ((ring_sized.f a2 a3).bind fun t320 => (if t320 = true then (if (l4.length : Int) = (wrap64 (a1 * a2)) then (if (l5.length : Int) = (wrap64 (a2 * a3)) then ((ring_mask.f a0).bind fun t321 => (ring_MatMul.j0 k a0 a1 a2 a3 l4 l5 (t321 == 0))) else (ring_MatMul.j0 k a0 a1 a2 a3 l4 l5 true)) else (ring_MatMul.j0 k a0 a1 a2 a3 l4 l5 true)) else (ring_MatMul.j0 k a0 a1 a2 a3 l4 l5 true))) else (ring_MatMul.j0 k a0 a1 a2 a3 l4 l5 true)) = some (r1, r2) := H
  have A8 := Aside0.mk A80
  clear A80
  by_cases c9 : t319 = true
  ·subst c9
   have H1 : ((ring_sized.f a2 a3).bind fun t320 => (if t320 = true then (if (l4.length : Int) = (wrap64 (a1 * a2)) then (if (l5.length : Int) = (wrap64 (a2 * a3)) then ((ring_mask.f a0).bind fun t321 => (ring_MatMul.j0 k a0 a1 a2 a3 l4 l5 (t321 == 0))) else (ring_MatMul.j0 k a0 a1 a2 a3 l4 l5 true)) else (ring_MatMul.j0 k a0 a1 a2 a3 l4 l5 true)) else (ring_MatMul.j0 k a0 a1 a2 a3 l4 l5 true))) = some (r1, r2) := by rw [if_pos rfl] at H; exact H
   clear H
   have H := H1
   clear H1
   replace H := Option.bind_eq_some_iff.mp H
   obtain ⟨t320, A100, H⟩ := H
   replace H : (if t320 = true then (if (l4.length : Int) = (wrap64 (a1 * a2)) then (if (l5.length : Int) = (wrap64 (a2 * a3)) then ((ring_mask.f a0).bind fun t321 => (ring_MatMul.j0 k a0 a1 a2 a3 l4 l5 (t321 == 0))) else (ring_MatMul.j0 k a0 a1 a2 a3 l4 l5 true)) else (ring_MatMul.j0 k a0 a1 a2 a3 l4 l5 true)) else (ring_MatMul.j0 k a0 a1 a2 a3 l4 l5 true)) = some (r1, r2) := H
   have A10 := Aside0.mk A100
   clear A100
   by_cases c11 : t320 = true
   ·subst c11
    have H1 : (if (l4.length : Int) = (wrap64 (a1 * a2)) then (if (l5.length : Int) = (wrap64 (a2 * a3)) then ((ring_mask.f a0).bind fun t321 => (ring_MatMul.j0 k a0 a1 a2 a3 l4 l5 (t321 == 0))) else (ring_MatMul.j0 k a0 a1 a2 a3 l4 l5 true)) else (ring_MatMul.j0 k a0 a1 a2 a3 l4 l5 true)) = some (r1, r2) := by rw [if_pos rfl] at H; exact H
    clear H
    have H := H1
    clear H1
    by_cases c12 : (l4.length : Int) = (wrap64 (a1 * a2))
    ·rw [if_pos c12] at H
     have c12b0 : ((l4.length : Int) == (wrap64 (a1 * a2))) = true := beq_iff_eq.mpr c12
     have c12b1 : ((l4.length : Int) != (wrap64 (a1 * a2))) = false := bne_eq_false_iff_eq.mpr c12
     clear c12
     (first | rw [c12b0] | (simp only [i64_w, i32_w]; rw [c12b0]) | skip)
     by_cases c13 : (l5.length : Int) = (wrap64 (a2 * a3))
     ·rw [if_pos c13] at H
      have c13b0 : ((l5.length : Int) == (wrap64 (a2 * a3))) = true := beq_iff_eq.mpr c13
      have c13b1 : ((l5.length : Int) != (wrap64 (a2 * a3))) = false := bne_eq_false_iff_eq.mpr c13
      clear c13
      replace H := Option.bind_eq_some_iff.mp H
      obtain ⟨t321, A140, H⟩ := H
      replace H : (ring_MatMul.j0 k a0 a1 a2 a3 l4 l5 (t321 == 0)) = some (r1, r2) := H
      have A14 := Aside0.mk A140
      clear A140
      have H' := Aside0.mk H
      clear H
      go_wp2_with (first | (go_at_call 96; (with_reducible refine (ring_sized.calls a1 a2 true _ A8.out).mono ?_); rintro e w' ⟨rfl, ⟨nd, rfl⟩⟩; (try first | exact ⟨rfl, _, World.drewN_drewN _ _ _⟩ | exact ⟨rfl, _, Eq.trans (World.drewN_drewN _ _ _) (congrArg (World.drewN _) (Nat.add_assoc _ _ _))⟩)) | (go_at_call 96; (with_reducible refine (ring_sized.calls a2 a3 true _ A10.out).mono ?_); rintro e w' ⟨rfl, ⟨nd, rfl⟩⟩; (try first | exact ⟨rfl, _, World.drewN_drewN _ _ _⟩ | exact ⟨rfl, _, Eq.trans (World.drewN_drewN _ _ _) (congrArg (World.drewN _) (Nat.add_assoc _ _ _))⟩)) | (go_at_call 90; (with_reducible refine (ring_mask.calls a0 t321 _ A14.out).mono ?_); rintro e w' ⟨rfl, ⟨nd, rfl⟩⟩; (try first | exact ⟨rfl, _, World.drewN_drewN _ _ _⟩ | exact ⟨rfl, _, Eq.trans (World.drewN_drewN _ _ _) (congrArg (World.drewN _) (Nat.add_assoc _ _ _))⟩)))
      repeat (go_quiet (first | (go_at_call 96; (with_reducible refine (ring_sized.calls a1 a2 true _ A8.out).mono ?_); rintro e w' ⟨rfl, ⟨nd, rfl⟩⟩; (try first | exact ⟨rfl, _, World.drewN_drewN _ _ _⟩ | exact ⟨rfl, _, Eq.trans (World.drewN_drewN _ _ _) (congrArg (World.drewN _) (Nat.add_assoc _ _ _))⟩)) | (go_at_call 96; (with_reducible refine (ring_sized.calls a2 a3 true _ A10.out).mono ?_); rintro e w' ⟨rfl, ⟨nd, rfl⟩⟩; (try first | exact ⟨rfl, _, World.drewN_drewN _ _ _⟩ | exact ⟨rfl, _, Eq.trans (World.drewN_drewN _ _ _) (congrArg (World.drewN _) (Nat.add_assoc _ _ _))⟩)) | (go_at_call 90; (with_reducible refine (ring_mask.calls a0 t321 _ A14.out).mono ?_); rintro e w' ⟨rfl, ⟨nd, rfl⟩⟩; (try first | exact ⟨rfl, _, World.drewN_drewN _ _ _⟩ | exact ⟨rfl, _, Eq.trans (World.drewN_drewN _ _ _) (congrArg (World.drewN _) (Nat.add_assoc _ _ _))⟩))); try go_wp2_with (first | (go_at_call 96; (with_reducible refine (ring_sized.calls a1 a2 true _ A8.out).mono ?_); rintro e w' ⟨rfl, ⟨nd, rfl⟩⟩; (try first | exact ⟨rfl, _, World.drewN_drewN _ _ _⟩ | exact ⟨rfl, _, Eq.trans (World.drewN_drewN _ _ _) (congrArg (World.drewN _) (Nat.add_assoc _ _ _))⟩)) | (go_at_call 96; (with_reducible refine (ring_sized.calls a2 a3 true _ A10.out).mono ?_); rintro e w' ⟨rfl, ⟨nd, rfl⟩⟩; (try first | exact ⟨rfl, _, World.drewN_drewN _ _ _⟩ | exact ⟨rfl, _, Eq.trans (World.drewN_drewN _ _ _) (congrArg (World.drewN _) (Nat.add_assoc _ _ _))⟩)) | (go_at_call 90; (with_reducible refine (ring_mask.calls a0 t321 _ A14.out).mono ?_); rintro e w' ⟨rfl, ⟨nd, rfl⟩⟩; (try first | exact ⟨rfl, _, World.drewN_drewN _ _ _⟩ | exact ⟨rfl, _, Eq.trans (World.drewN_drewN _ _ _) (congrArg (World.drewN _) (Nat.add_assoc _ _ _))⟩))))
      go_meet
      case rel => exact ⟨_, ((t321 == 0)), (zq52), H', ⟨zq53⟩, ⟨HB.bl⟩⟩
     ·rw [if_neg c13] at H
      have c13b0 : ((l5.length : Int) == (wrap64 (a2 * a3))) = false := beq_eq_false_iff_ne.mpr c13
      have c13b1 : ((l5.length : Int) != (wrap64 (a2 * a3))) = true := bne_iff_ne.mpr c13
      have H' := Aside0.mk H
      clear H
      go_wp2_with (first | (go_at_call 96; (with_reducible refine (ring_sized.calls a1 a2 true _ A8.out).mono ?_); rintro e w' ⟨rfl, ⟨nd, rfl⟩⟩; (try first | exact ⟨rfl, _, World.drewN_drewN _ _ _⟩ | exact ⟨rfl, _, Eq.trans (World.drewN_drewN _ _ _) (congrArg (World.drewN _) (Nat.add_assoc _ _ _))⟩)) | (go_at_call 96; (with_reducible refine (ring_sized.calls a2 a3 true _ A10.out).mono ?_); rintro e w' ⟨rfl, ⟨nd, rfl⟩⟩; (try first | exact ⟨rfl, _, World.drewN_drewN _ _ _⟩ | exact ⟨rfl, _, Eq.trans (World.drewN_drewN _ _ _) (congrArg (World.drewN _) (Nat.add_assoc _ _ _))⟩)))
      repeat (go_quiet (first | (go_at_call 96; (with_reducible refine (ring_sized.calls a1 a2 true _ A8.out).mono ?_); rintro e w' ⟨rfl, ⟨nd, rfl⟩⟩; (try first | exact ⟨rfl, _, World.drewN_drewN _ _ _⟩ | exact ⟨rfl, _, Eq.trans (World.drewN_drewN _ _ _) (congrArg (World.drewN _) (Nat.add_assoc _ _ _))⟩)) | (go_at_call 96; (with_reducible refine (ring_sized.calls a2 a3 true _ A10.out).mono ?_); rintro e w' ⟨rfl, ⟨nd, rfl⟩⟩; (try first | exact ⟨rfl, _, World.drewN_drewN _ _ _⟩ | exact ⟨rfl, _, Eq.trans (World.drewN_drewN _ _ _) (congrArg (World.drewN _) (Nat.add_assoc _ _ _))⟩))); try go_wp2_with (first | (go_at_call 96; (with_reducible refine (ring_sized.calls a1 a2 true _ A8.out).mono ?_); rintro e w' ⟨rfl, ⟨nd, rfl⟩⟩; (try first | exact ⟨rfl, _, World.drewN_drewN _ _ _⟩ | exact ⟨rfl, _, Eq.trans (World.drewN_drewN _ _ _) (congrArg (World.drewN _) (Nat.add_assoc _ _ _))⟩)) | (go_at_call 96; (with_reducible refine (ring_sized.calls a2 a3 true _ A10.out).mono ?_); rintro e w' ⟨rfl, ⟨nd, rfl⟩⟩; (try first | exact ⟨rfl, _, World.drewN_drewN _ _ _⟩ | exact ⟨rfl, _, Eq.trans (World.drewN_drewN _ _ _) (congrArg (World.drewN _) (Nat.add_assoc _ _ _))⟩))))
      go_meet
      case rel => exact ⟨_, (true), (zq52), H', ⟨zq53⟩, ⟨HB.bl⟩⟩
    ·rw [if_neg c12] at H
     have c12b0 : ((l4.length : Int) == (wrap64 (a1 * a2))) = false := beq_eq_false_iff_ne.mpr c12
     have c12b1 : ((l4.length : Int) != (wrap64 (a1 * a2))) = true := bne_iff_ne.mpr c12
     (first | rw [c12b0] | (simp only [i64_w, i32_w]; rw [c12b0]) | skip)
     have H' := Aside0.mk H
     clear H
     go_wp2_with (first | (go_at_call 96; (with_reducible refine (ring_sized.calls a1 a2 true _ A8.out).mono ?_); rintro e w' ⟨rfl, ⟨nd, rfl⟩⟩; (try first | exact ⟨rfl, _, World.drewN_drewN _ _ _⟩ | exact ⟨rfl, _, Eq.trans (World.drewN_drewN _ _ _) (congrArg (World.drewN _) (Nat.add_assoc _ _ _))⟩)) | (go_at_call 96; (with_reducible refine (ring_sized.calls a2 a3 true _ A10.out).mono ?_); rintro e w' ⟨rfl, ⟨nd, rfl⟩⟩; (try first | exact ⟨rfl, _, World.drewN_drewN _ _ _⟩ | exact ⟨rfl, _, Eq.trans (World.drewN_drewN _ _ _) (congrArg (World.drewN _) (Nat.add_assoc _ _ _))⟩)))
     repeat (go_quiet (first | (go_at_call 96; (with_reducible refine (ring_sized.calls a1 a2 true _ A8.out).mono ?_); rintro e w' ⟨rfl, ⟨nd, rfl⟩⟩; (try first | exact ⟨rfl, _, World.drewN_drewN _ _ _⟩ | exact ⟨rfl, _, Eq.trans (World.drewN_drewN _ _ _) (congrArg (World.drewN _) (Nat.add_assoc _ _ _))⟩)) | (go_at_call 96; (with_reducible refine (ring_sized.calls a2 a3 true _ A10.out).mono ?_); rintro e w' ⟨rfl, ⟨nd, rfl⟩⟩; (try first | exact ⟨rfl, _, World.drewN_drewN _ _ _⟩ | exact ⟨rfl, _, Eq.trans (World.drewN_drewN _ _ _) (congrArg (World.drewN _) (Nat.add_assoc _ _ _))⟩))); try go_wp2_with (first | (go_at_call 96; (with_reducible refine (ring_sized.calls a1 a2 true _ A8.out).mono ?_); rintro e w' ⟨rfl, ⟨nd, rfl⟩⟩; (try first | exact ⟨rfl, _, World.drewN_drewN _ _ _⟩ | exact ⟨rfl, _, Eq.trans (World.drewN_drewN _ _ _) (congrArg (World.drewN _) (Nat.add_assoc _ _ _))⟩)) | (go_at_call 96; (with_reducible refine (ring_sized.calls a2 a3 true _ A10.out).mono ?_); rintro e w' ⟨rfl, ⟨nd, rfl⟩⟩; (try first | exact ⟨rfl, _, World.drewN_drewN _ _ _⟩ | exact ⟨rfl, _, Eq.trans (World.drewN_drewN _ _ _) (congrArg (World.drewN _) (Nat.add_assoc _ _ _))⟩))))
     go_meet
     case rel => exact ⟨_, (true), (zq52), H', ⟨zq53⟩, ⟨HB.bl⟩⟩
   ·replace c11 := Bool.eq_false_iff.mpr c11
    subst c11
    have H1 : (ring_MatMul.j0 k a0 a1 a2 a3 l4 l5 true) = some (r1, r2) := by rw [if_neg (show ¬ (false = true) by decide)] at H; exact H
    clear H
    have H := H1
    clear H1
    have H' := Aside0.mk H
    clear H
    go_wp2_with (first | (go_at_call 96; (with_reducible refine (ring_sized.calls a1 a2 true _ A8.out).mono ?_); rintro e w' ⟨rfl, ⟨nd, rfl⟩⟩; (try first | exact ⟨rfl, _, World.drewN_drewN _ _ _⟩ | exact ⟨rfl, _, Eq.trans (World.drewN_drewN _ _ _) (congrArg (World.drewN _) (Nat.add_assoc _ _ _))⟩)) | (go_at_call 96; (with_reducible refine (ring_sized.calls a2 a3 false _ A10.out).mono ?_); rintro e w' ⟨rfl, ⟨nd, rfl⟩⟩; (try first | exact ⟨rfl, _, World.drewN_drewN _ _ _⟩ | exact ⟨rfl, _, Eq.trans (World.drewN_drewN _ _ _) (congrArg (World.drewN _) (Nat.add_assoc _ _ _))⟩)))
    repeat (go_quiet (first | (go_at_call 96; (with_reducible refine (ring_sized.calls a1 a2 true _ A8.out).mono ?_); rintro e w' ⟨rfl, ⟨nd, rfl⟩⟩; (try first | exact ⟨rfl, _, World.drewN_drewN _ _ _⟩ | exact ⟨rfl, _, Eq.trans (World.drewN_drewN _ _ _) (congrArg (World.drewN _) (Nat.add_assoc _ _ _))⟩)) | (go_at_call 96; (with_reducible refine (ring_sized.calls a2 a3 false _ A10.out).mono ?_); rintro e w' ⟨rfl, ⟨nd, rfl⟩⟩; (try first | exact ⟨rfl, _, World.drewN_drewN _ _ _⟩ | exact ⟨rfl, _, Eq.trans (World.drewN_drewN _ _ _) (congrArg (World.drewN _) (Nat.add_assoc _ _ _))⟩))); try go_wp2_with (first | (go_at_call 96; (with_reducible refine (ring_sized.calls a1 a2 true _ A8.out).mono ?_); rintro e w' ⟨rfl, ⟨nd, rfl⟩⟩; (try first | exact ⟨rfl, _, World.drewN_drewN _ _ _⟩ | exact ⟨rfl, _, Eq.trans (World.drewN_drewN _ _ _) (congrArg (World.drewN _) (Nat.add_assoc _ _ _))⟩)) | (go_at_call 96; (with_reducible refine (ring_sized.calls a2 a3 false _ A10.out).mono ?_); rintro e w' ⟨rfl, ⟨nd, rfl⟩⟩; (try first | exact ⟨rfl, _, World.drewN_drewN _ _ _⟩ | exact ⟨rfl, _, Eq.trans (World.drewN_drewN _ _ _) (congrArg (World.drewN _) (Nat.add_assoc _ _ _))⟩))))
    go_meet
    case rel => exact ⟨_, (true), (zq52), H', ⟨zq53⟩, ⟨HB.bl⟩⟩
  ·replace c9 := Bool.eq_false_iff.mpr c9
   subst c9
   have H1 : (ring_MatMul.j0 k a0 a1 a2 a3 l4 l5 true) = some (r1, r2) := by rw [if_neg (show ¬ (false = true) by decide)] at H; exact H
   clear H
   have H := H1
   clear H1
   have H' := Aside0.mk H
   clear H
   go_wp2_with (first | (go_at_call 96; (with_reducible refine (ring_sized.calls a1 a2 false _ A8.out).mono ?_); rintro e w' ⟨rfl, ⟨nd, rfl⟩⟩; (try first | exact ⟨rfl, _, World.drewN_drewN _ _ _⟩ | exact ⟨rfl, _, Eq.trans (World.drewN_drewN _ _ _) (congrArg (World.drewN _) (Nat.add_assoc _ _ _))⟩)))
   repeat (go_quiet (first | (go_at_call 96; (with_reducible refine (ring_sized.calls a1 a2 false _ A8.out).mono ?_); rintro e w' ⟨rfl, ⟨nd, rfl⟩⟩; (try first | exact ⟨rfl, _, World.drewN_drewN _ _ _⟩ | exact ⟨rfl, _, Eq.trans (World.drewN_drewN _ _ _) (congrArg (World.drewN _) (Nat.add_assoc _ _ _))⟩))); try go_wp2_with (first | (go_at_call 96; (with_reducible refine (ring_sized.calls a1 a2 false _ A8.out).mono ?_); rintro e w' ⟨rfl, ⟨nd, rfl⟩⟩; (try first | exact ⟨rfl, _, World.drewN_drewN _ _ _⟩ | exact ⟨rfl, _, Eq.trans (World.drewN_drewN _ _ _) (congrArg (World.drewN _) (Nat.add_assoc _ _ _))⟩))))
   go_meet
   case rel => exact ⟨_, (true), (zq52), H', ⟨zq53⟩, ⟨HB.bl⟩⟩
 case rest =>
  clear HC7
  try clear c1
  try clear p2
  try clear c4
  try clear c5
  try clear c6
  try clear p6
  try clear c9
  try clear c11
  try clear c12
  try clear c12b0
  try clear c12b1
  try clear c13
  try clear c13b0
  try clear c13b1
  obtain ⟨kq, x49_6, rfl, HA, HJ6, HB⟩ := hcut
  cases kq with
  | zero => exact absurd HA.out (by simp [ring_MatMul.j0])
  | succ kj6 =>
   have H := HA.out
   clear HA
   simp only [ring_MatMul.j0] at H
   by_cases c15 : x49_6 = true
   ·subst c15
    have H1 : (some (([] : List Int), 11)) = some (r1, r2) := by rw [if_pos rfl] at H; exact H
    clear H
    have H := H1
    clear H1
    simp only [Option.some.injEq, Prod.mk.injEq] at H
    obtain ⟨rfl, rfl⟩ := H
    go_wp2
    repeat (go_quiet (fail); try go_wp2)
    go_ret2
    exact ⟨_, zq49, zq32, HB.bl⟩
   ·replace c15 := Bool.eq_false_iff.mpr c15
    subst c15
    have H1 : (if 0 ≤ (wrap64 (a1 * a3)) then (if (wrap64 (a1 * a3) : Int).toNat ≤ 35184372088832 then (ring_MatMul.l0 kj6 a0 a2 a3 l4 l5 (List.replicate (wrap64 (a1 * a3) : Int).toNat 0) a1 0) else (none)) else (none)) = some (r1, r2) := by rw [if_neg (show ¬ (false = true) by decide)] at H; exact H
    clear H
    have H := H1
    clear H1
    obtain ⟨ji16, hji16⟩ : ∃ j_ : Int, (wrap64 (a1 * a3)) = j_ := ⟨_, rfl⟩
    replace H : (if 0 ≤ (ji16) then (if (ji16 : Int).toNat ≤ 35184372088832 then (ring_MatMul.l0 kj6 a0 a2 a3 l4 l5 (List.replicate (ji16 : Int).toNat 0) a1 0) else (none)) else (none)) = some (r1, r2) := by first | (rw [hji16] at H; exact H) | (simp only [hji16] at H ⊢; exact H)
    have hji16w : (IntKind.i64.wrap (a1 * a3)) = ji16 := (i64_w _).trans hji16
    by_cases c17 : 0 ≤ (ji16)
    ·rw [if_pos c17] at H
     have c17b0 := eq_true c17
     have c17b1 : decide (0 ≤ (ji16)) = true := decide_eq_true c17
     clear c17
     by_cases c18 : (ji16 : Int).toNat ≤ 35184372088832
     ·rw [if_pos c18] at H
      have c18b0 := eq_true c18
      have c18b1 : decide ((ji16 : Int).toNat ≤ 35184372088832) = true := decide_eq_true c18
      clear c18
      obtain ⟨y322, hy322⟩ : ∃ y_ : List Int, y_ = (List.replicate (ji16 : Int).toNat 0) := ⟨_, rfl⟩
      replace H : (ring_MatMul.l0 kj6 a0 a2 a3 l4 l5 y322 a1 0) = some (r1, r2) := by first | (rw [hy322]; with_reducible exact H) | (have H2_ := (Option.bind_some _ _).symm.trans H; rw [hy322]; with_reducible exact H2_) | (have H2_ := (Option.bind_some _ _).symm.trans H; with_reducible exact H2_) | with_reducible exact H | (rw [hy322]; exact H) | exact H
      have Ny322 := Aside0.mk hy322
      clear hy322
      have H' := Aside0.mk H
      clear H
      go_wp2_with (first | ((with_reducible refine gate_dst (N := 53) rfl ?_); (try (refine gate_guard (by rfl) ?_; dsimp only)); refine Kd.R_make (Kd.int .u64) _ 35 rfl (N := 53) rfl 24 _ _ rfl ji16 rfl rfl Try.underlying24 (.int .u64 0) 8 info35 rfl (by decide) (by omega) 0 (ok := fun _ => True) (okp := fun _ => True) rfl (fun _ hk => hk) trivial (of_decide_eq_true (zq51)) (Nat.le_trans (Nat.mul_le_mul_right _ (of_decide_eq_true (zq51) : ji16.toNat ≤ 35184372088832)) (by omega)) (Below.refl _ _) (Nat.le_refl _) ?_; intro v323 w19 ho20 hb hg_ hnew_; clear hg_ hnew_; (first | rw [← Ny322.out] at ho20 | (simp only [Int.reduceToNat] at ho20; rw [← Ny322.out] at ho20)); have HO324 := Aside0.mk (Kd.R_lower ho20 (below_size HB.bl)); replace HB := Aside0.mk (below_step HB.bl hb); clear hb ho20))
      repeat (go_quiet (first | ((with_reducible refine gate_dst (N := 53) rfl ?_); (try (refine gate_guard (by rfl) ?_; dsimp only)); refine Kd.R_make (Kd.int .u64) _ 35 rfl (N := 53) rfl 24 _ _ rfl ji16 rfl rfl Try.underlying24 (.int .u64 0) 8 info35 rfl (by decide) (by omega) 0 (ok := fun _ => True) (okp := fun _ => True) rfl (fun _ hk => hk) trivial (of_decide_eq_true (zq51)) (Nat.le_trans (Nat.mul_le_mul_right _ (of_decide_eq_true (zq51) : ji16.toNat ≤ 35184372088832)) (by omega)) (Below.refl _ _) (Nat.le_refl _) ?_; intro v323 w19 ho20 hb hg_ hnew_; clear hg_ hnew_; (first | rw [← Ny322.out] at ho20 | (simp only [Int.reduceToNat] at ho20; rw [← Ny322.out] at ho20)); have HO324 := Aside0.mk (Kd.R_lower ho20 (below_size HB.bl)); replace HB := Aside0.mk (below_step HB.bl hb); clear hb ho20)); try go_wp2_with (first | ((with_reducible refine gate_dst (N := 53) rfl ?_); (try (refine gate_guard (by rfl) ?_; dsimp only)); refine Kd.R_make (Kd.int .u64) _ 35 rfl (N := 53) rfl 24 _ _ rfl ji16 rfl rfl Try.underlying24 (.int .u64 0) 8 info35 rfl (by decide) (by omega) 0 (ok := fun _ => True) (okp := fun _ => True) rfl (fun _ hk => hk) trivial (of_decide_eq_true (zq51)) (Nat.le_trans (Nat.mul_le_mul_right _ (of_decide_eq_true (zq51) : ji16.toNat ≤ 35184372088832)) (by omega)) (Below.refl _ _) (Nat.le_refl _) ?_; intro v323 w19 ho20 hb hg_ hnew_; clear hg_ hnew_; (first | rw [← Ny322.out] at ho20 | (simp only [Int.reduceToNat] at ho20; rw [← Ny322.out] at ho20)); have HO324 := Aside0.mk (Kd.R_lower ho20 (below_size HB.bl)); replace HB := Aside0.mk (below_step HB.bl hb); clear hb ho20)))
      go_loopg [55] kj6 (fun kq v55 w' => ∃ (x14_2 : List Int) (x55_2 : Int), v55 = .int .i64 x55_2 ∧ Aside0 (ring_MatMul.l0 kq a0 a2 a3 l4 l5 x14_2 a1 x55_2 = some (r1, r2)) ∧ Aside0 (kq ≤ kj6) ∧ Aside0 (Kd.R (Kd.int .u64) 35 w' w.heap.size (fun _ => True) v323 x14_2) ∧ Aside0 (Below w.heap.size w w'))
      case atStart => exact ⟨(y322), (0), (zq52), H', ⟨Nat.le_refl _⟩, ⟨HO324.r⟩, ⟨HB.bl⟩⟩
      case round =>
       clear H'
       try clear c1
       try clear p2
       try clear c4
       try clear c5
       try clear c6
       try clear p6
       try clear c9
       try clear c11
       try clear c12
       try clear c12b0
       try clear c12b1
       try clear c13
       try clear c13b0
       try clear c13b1
       try clear c15
       try clear c17
       try clear c17b0
       try clear c17b1
       try clear c18
       try clear c18b0
       try clear c18b1
       try clear p2
       try clear p6
       obtain ⟨x14_2, x55_2, rfl, HA, HK2, HO_14, HB⟩ := hrel
       cases gk with
       | zero => exact absurd HA.out (by simp [ring_MatMul.l0])
       | succ k2 =>
        have H := HA.out
        clear HA
        simp only [ring_MatMul.l0] at H
        by_cases c21 : x55_2 < a1
        ·rw [if_pos c21] at H
         have c21b0 : decide (x55_2 < a1) = true := decide_eq_true c21
         clear c21
         have H' := Aside0.mk H
         clear H
         go_wp2
         repeat (go_quiet (fail); try go_wp2)
         go_loopg [59] k2 (fun kq v59 w' => ∃ (x14_3 : List Int) (x59_3 : Int), v59 = .int .i64 x59_3 ∧ Aside0 (ring_MatMul.l1 kq a0 a2 a3 l4 l5 x14_3 x55_2 a1 x55_2 a3 x59_3 = some (r1, r2)) ∧ Aside0 (kq ≤ k2) ∧ Aside0 (Kd.R (Kd.int .u64) 35 w' w.heap.size (fun _ => True) v323 x14_3) ∧ Aside0 (Below w.heap.size w w'))
         case atStart => exact ⟨(x14_2), (0), (zq52), H', ⟨Nat.le_refl _⟩, ⟨HO_14.r⟩, ⟨HB.bl⟩⟩
         case round =>
          clear H'
          try clear c1
          try clear c2
          try clear p2
          try clear c4
          try clear c5
          try clear c6
          try clear p6
          try clear c9
          try clear c11
          try clear c12
          try clear c12b0
          try clear c12b1
          try clear c13
          try clear c13b0
          try clear c13b1
          try clear c15
          try clear c17
          try clear c17b0
          try clear c17b1
          try clear c18
          try clear c18b0
          try clear c18b1
          try clear c21
          try clear c21b0
          try clear p2
          try clear p6
          obtain ⟨x14_3, x59_3, rfl, HA, HK3, HO_14, HB⟩ := hrel
          cases gk with
          | zero => exact absurd HA.out (by simp [ring_MatMul.l1])
          | succ k3 =>
           have H := HA.out
           clear HA
           simp only [ring_MatMul.l1] at H
           by_cases c22 : x59_3 < a3
           ·rw [if_pos c22] at H
            have c22b0 : decide (x59_3 < a3) = true := decide_eq_true c22
            clear c22
            have H' := Aside0.mk H
            clear H
            go_wp2
            repeat (go_quiet (fail); try go_wp2)
            go_loopg [17, 63] k3 (fun kq v17 v63 w' => ∃ (x17_4 : Int) (x63_4 : Int), v17 = .int .u64 x17_4 ∧ v63 = .int .i64 x63_4 ∧ Aside0 (ring_MatMul.l2 kq a0 a2 a3 l4 l5 x14_3 x55_2 x59_3 x17_4 a1 x55_2 a3 x59_3 a2 x63_4 = some (r1, r2)) ∧ Aside0 (kq ≤ k3) ∧ Aside0 (Kd.R (Kd.int .u64) 35 w' w.heap.size (fun _ => True) v323 x14_3) ∧ Aside0 (Below w.heap.size w w'))
            case atStart => exact ⟨(0), (0), (zq52), (zq52), H', ⟨Nat.le_refl _⟩, ⟨HO_14.r⟩, ⟨HB.bl⟩⟩
            case round =>
             clear H'
             try clear c1
             try clear c2
             try clear p2
             try clear c4
             try clear c5
             try clear c6
             try clear p6
             try clear c9
             try clear c11
             try clear c12
             try clear c12b0
             try clear c12b1
             try clear c13
             try clear c13b0
             try clear c13b1
             try clear c15
             try clear c17
             try clear c17b0
             try clear c17b1
             try clear c18
             try clear c18b0
             try clear c18b1
             try clear c21
             try clear c21b0
             try clear c22
             try clear c22b0
             try clear p2
             try clear p6
             obtain ⟨x17_4, x63_4, rfl, rfl, HA, HK4, HO_14, HB⟩ := hrel
             cases gk with
             | zero => exact absurd HA.out (by simp [ring_MatMul.l2])
             | succ k4 =>
              have H := HA.out
              clear HA
              simp only [ring_MatMul.l2] at H
              by_cases c23 : x63_4 < a2
              ·rw [if_pos c23] at H
               have c23b0 : decide (x63_4 < a2) = true := decide_eq_true c23
               clear c23
               obtain ⟨ji24, hji24⟩ : ∃ j_ : Int, (wrap64 ((wrap64 (x55_2 * a2)) + x63_4)) = j_ := ⟨_, rfl⟩
               replace H : (if 0 ≤ (ji24) then (if (ji24) < (l4.length : Int) then (if 0 ≤ (wrap64 ((wrap64 (x63_4 * a3)) + x59_3)) then (if (wrap64 ((wrap64 (x63_4 * a3)) + x59_3)) < (l5.length : Int) then (ring_MatMul.l2 k4 a0 a2 a3 l4 l5 x14_3 x55_2 x59_3 (IntKind.u64.wrap (x17_4 + (IntKind.u64.wrap ((rd l4 (ji24)) * (rd l5 (wrap64 ((wrap64 (x63_4 * a3)) + x59_3))))))) a1 x55_2 a3 x59_3 a2 (wrap64 (x63_4 + 1))) else (none)) else (none)) else (none)) else (none)) = some (r1, r2) := by first | (rw [hji24] at H; exact H) | (simp only [hji24] at H ⊢; exact H)
               have hji24w : (IntKind.i64.wrap ((wrap64 (x55_2 * a2)) + x63_4)) = ji24 := (i64_w _).trans hji24
               by_cases c25 : 0 ≤ (ji24)
               ·rw [if_pos c25] at H
                have c25b0 : decide (0 ≤ (ji24)) = true := decide_eq_true c25
                clear c25
                by_cases c26 : (ji24) < (l4.length : Int)
                ·rw [if_pos c26] at H
                 have c26b0 : decide ((ji24) < (l4.length : Int)) = true := decide_eq_true c26
                 clear c26
                 obtain ⟨ji27, hji27⟩ : ∃ j_ : Int, (wrap64 ((wrap64 (x63_4 * a3)) + x59_3)) = j_ := ⟨_, rfl⟩
                 replace H : (if 0 ≤ (ji27) then (if (ji27) < (l5.length : Int) then (ring_MatMul.l2 k4 a0 a2 a3 l4 l5 x14_3 x55_2 x59_3 (IntKind.u64.wrap (x17_4 + (IntKind.u64.wrap ((rd l4 (ji24)) * (rd l5 (ji27)))))) a1 x55_2 a3 x59_3 a2 (wrap64 (x63_4 + 1))) else (none)) else (none)) = some (r1, r2) := by first | (rw [hji27] at H; exact H) | (simp only [hji27] at H ⊢; exact H)
                 have hji27w : (IntKind.i64.wrap ((wrap64 (x63_4 * a3)) + x59_3)) = ji27 := (i64_w _).trans hji27
                 by_cases c28 : 0 ≤ (ji27)
                 ·rw [if_pos c28] at H
                  have c28b0 : decide (0 ≤ (ji27)) = true := decide_eq_true c28
                  clear c28
                  by_cases c29 : (ji27) < (l5.length : Int)
                  ·rw [if_pos c29] at H
                   have c29b0 : decide ((ji27) < (l5.length : Int)) = true := decide_eq_true c29
                   clear c29
                   have H' := Aside0.mk H
                   clear H
                   have p325 : 0 ≤ ((ji24) : Int) := of_decide_eq_true (zq51)
                   have q325 : (ji24) < (l4.length : Int) := of_decide_eq_true (zq51)
                   obtain ⟨ad325, e325, hx325_0⟩ := Kd.at_int HR4.out (ji24) p325 q325
                   cases e325
                   replace hx325_0 := (HB.out.cell (World.block_lt_of_cell? w _ hx325_0)).trans hx325_0
                   replace p325 := eq_true p325
                   replace q325 := eq_true q325
                   have p326 : 0 ≤ ((ji27) : Int) := of_decide_eq_true (zq51)
                   have q326 : (ji27) < (l5.length : Int) := of_decide_eq_true (zq51)
                   obtain ⟨ad326, e326, hx326_0⟩ := Kd.at_int HR5.out (ji27) p326 q326
                   cases e326
                   replace hx326_0 := (HB.out.cell (World.block_lt_of_cell? w _ hx326_0)).trans hx326_0
                   replace p326 := eq_true p326
                   replace q326 := eq_true q326
                   go_wp2
                   repeat (go_quiet (fail); try go_wp2)
                   go_roundg k4
                   case measure => have := HJ6.out; have := HK2.out; have := HK3.out; have := HK4.out; omega
                   case rel => exact ⟨(IntKind.u64.wrap (x17_4 + (IntKind.u64.wrap ((rd l4 (ji24)) * (rd l5 (ji27)))))), (wrap64 (x63_4 + 1)), (by first | rfl | (simp; done) | (simp only [← hji24, ← hji27] <;> (first | rfl | simp)) | (simp [*]; done)), (zq52), H', ⟨by have := HJ6.out; have := HK2.out; have := HK3.out; have := HK4.out; omega⟩, ⟨HO_14.r⟩, ⟨HB.bl⟩⟩
                  ·rw [if_neg c29] at H
                   exact absurd H (by simp)
                 ·rw [if_neg c28] at H
                  exact absurd H (by simp)
                ·rw [if_neg c26] at H
                 exact absurd H (by simp)
               ·rw [if_neg c25] at H
                exact absurd H (by simp)
              ·rw [if_neg c23] at H
               have c23b0 : decide (x63_4 < a2) = false := decide_eq_false c23
               clear c23
               replace H := Option.bind_eq_some_iff.mp H
               obtain ⟨t327, A300, H⟩ := H
               replace H : (if 0 ≤ (wrap64 ((wrap64 (x55_2 * a3)) + x59_3)) then (if (wrap64 ((wrap64 (x55_2 * a3)) + x59_3)) < (x14_3.length : Int) then (ring_MatMul.l1 k4 a0 a2 a3 l4 l5 (x14_3.set ((wrap64 ((wrap64 (x55_2 * a3)) + x59_3)) : Int).toNat t327) x55_2 a1 x55_2 a3 (wrap64 (x59_3 + 1))) else (none)) else (none)) = some (r1, r2) := H
               have A30 := Aside0.mk A300
               clear A300
               obtain ⟨ji31, hji31⟩ : ∃ j_ : Int, (wrap64 ((wrap64 (x55_2 * a3)) + x59_3)) = j_ := ⟨_, rfl⟩
               replace H : (if 0 ≤ (ji31) then (if (ji31) < (x14_3.length : Int) then (ring_MatMul.l1 k4 a0 a2 a3 l4 l5 (x14_3.set ((ji31) : Int).toNat t327) x55_2 a1 x55_2 a3 (wrap64 (x59_3 + 1))) else (none)) else (none)) = some (r1, r2) := by first | (rw [hji31] at H; exact H) | (simp only [hji31] at H ⊢; exact H)
               (try rw [hji31] at A30)
               have hji31w : (IntKind.i64.wrap ((wrap64 (x55_2 * a3)) + x59_3)) = ji31 := (i64_w _).trans hji31
               by_cases c32 : 0 ≤ (ji31)
               ·rw [if_pos c32] at H
                have c32b0 : decide (0 ≤ (ji31)) = true := decide_eq_true c32
                clear c32
                by_cases c33 : (ji31) < (x14_3.length : Int)
                ·rw [if_pos c33] at H
                 have c33b0 : decide ((ji31) < (x14_3.length : Int)) = true := decide_eq_true c33
                 clear c33
                 obtain ⟨y328, hy328⟩ : ∃ y_ : List Int, y_ = (x14_3.set ((ji31) : Int).toNat t327) := ⟨_, rfl⟩
                 replace H : (ring_MatMul.l1 k4 a0 a2 a3 l4 l5 y328 x55_2 a1 x55_2 a3 (wrap64 (x59_3 + 1))) = some (r1, r2) := by first | (rw [hy328]; with_reducible exact H) | (have H2_ := (Option.bind_some _ _).symm.trans H; rw [hy328]; with_reducible exact H2_) | (have H2_ := (Option.bind_some _ _).symm.trans H; with_reducible exact H2_) | with_reducible exact H | (rw [hy328]; exact H) | exact H
                 have Ny328 := Aside0.mk hy328
                 clear hy328
                 have H' := Aside0.mk H
                 clear H
                 go_wp2_with (first | (go_at_call 97; (with_reducible refine (ring_Fit.calls a0 x17_4 t327 _ A30.out).mono ?_); rintro e w' ⟨rfl, ⟨nd, rfl⟩⟩; (try first | exact ⟨rfl, _, World.drewN_drewN _ _ _⟩ | exact ⟨rfl, _, Eq.trans (World.drewN_drewN _ _ _) (congrArg (World.drewN _) (Nat.add_assoc _ _ _))⟩); have p34 : 0 ≤ ((ji31) : Int) := of_decide_eq_true (zq51); have q34 : ((ji31) : Int) < ((x14_3.length : Int) : Int) := of_decide_eq_true (zq51); obtain ⟨go34, co34, eo34, gb34, gl34, cl34, HG34⟩ := Kd.R_form HO_14.out (by omega); (first | cases eo34 | (injection eo34 with ea_ en_ ec_; (first | subst ea_ | (injection ea_ with ea_; subst ea_)); subst ec_; clear en_)); have GB34 := Aside0.mk gb34; have GG34 := Aside0.mk HG34; clear gb34 gl34 HG34; obtain ⟨hx34_0, hf34_0⟩ := Kd.R_celln 0 HO_14.out ((ji31) : Int) p34 q34; replace p34 := eq_true p34; replace q34 := eq_true q34; obtain ⟨hy35_, hz35_⟩ := Kd.R_celln 0 HO_14.out ((ji31) : Int) (of_decide_eq_true (zq51)) (of_decide_eq_true (zq51)); have HP35 := Kd.R_putg HO_14.out ((ji31) : Int) t327) | ((with_reducible refine gate_store (t := 35) (p := 95) rfl ?_); (try (rw [drewN_self wr]; generalize hq_ : World.drewN wr _ = wr; have n0_ := Aside0.mk (Kd.R_at hq_ HO_14.out); have n1_ := Aside0.mk (below_at hq_ HB.out); clear hq_ HO_14 HB; have HO_14 := n0_; have HB := n1_; clear n0_ n1_; (try (obtain ⟨hy35_, hz35_⟩ := Kd.R_celln 0 HO_14.out ((ji31) : Int) (of_decide_eq_true (zq51)) (of_decide_eq_true (zq51)))); (try (have HP35 := Kd.R_putg HO_14.out ((ji31) : Int) t327)))); refine store_event (t := 35) (p := 95) (v := ?vo_w36) (w1 := (wr.setCell ⟨go34, ((ji31) : Int).toNat, none⟩ (.int .u64 t327))) ?hg ?ho ?hn ?hr ?_; (case ho => rfl); (case hg => rfl); (case hn => rfl); (case hr => first | (go_simp; done) | (go_simp; rfl)); intro w36 hw; have hg : wr.grownBy w36 (some go34) := (by rw [hw]; exact HP35.2); have hp_ : Kd.R (Kd.int .u64) 35 w36 w.heap.size (fun _ => True) (.slice (some ⟨go34, 0, none⟩) x14_3.length co34) y328 := (by rw [hw, Ny328.out]; exact HP35.1); clear HP35; replace HO_14 := Aside0.mk (hp_); replace HB := Aside0.mk ((by rw [hw]; exact below_set (HB.out) GB34.out : Below w.heap.size w w36)); clear hg hw hp_))
                 repeat (go_quiet (first | (go_at_call 97; (with_reducible refine (ring_Fit.calls a0 x17_4 t327 _ A30.out).mono ?_); rintro e w' ⟨rfl, ⟨nd, rfl⟩⟩; (try first | exact ⟨rfl, _, World.drewN_drewN _ _ _⟩ | exact ⟨rfl, _, Eq.trans (World.drewN_drewN _ _ _) (congrArg (World.drewN _) (Nat.add_assoc _ _ _))⟩); have p34 : 0 ≤ ((ji31) : Int) := of_decide_eq_true (zq51); have q34 : ((ji31) : Int) < ((x14_3.length : Int) : Int) := of_decide_eq_true (zq51); obtain ⟨go34, co34, eo34, gb34, gl34, cl34, HG34⟩ := Kd.R_form HO_14.out (by omega); (first | cases eo34 | (injection eo34 with ea_ en_ ec_; (first | subst ea_ | (injection ea_ with ea_; subst ea_)); subst ec_; clear en_)); have GB34 := Aside0.mk gb34; have GG34 := Aside0.mk HG34; clear gb34 gl34 HG34; obtain ⟨hx34_0, hf34_0⟩ := Kd.R_celln 0 HO_14.out ((ji31) : Int) p34 q34; replace p34 := eq_true p34; replace q34 := eq_true q34; obtain ⟨hy35_, hz35_⟩ := Kd.R_celln 0 HO_14.out ((ji31) : Int) (of_decide_eq_true (zq51)) (of_decide_eq_true (zq51)); have HP35 := Kd.R_putg HO_14.out ((ji31) : Int) t327) | ((with_reducible refine gate_store (t := 35) (p := 95) rfl ?_); (try (rw [drewN_self wr]; generalize hq_ : World.drewN wr _ = wr; have n0_ := Aside0.mk (Kd.R_at hq_ HO_14.out); have n1_ := Aside0.mk (below_at hq_ HB.out); clear hq_ HO_14 HB; have HO_14 := n0_; have HB := n1_; clear n0_ n1_; (try (obtain ⟨hy35_, hz35_⟩ := Kd.R_celln 0 HO_14.out ((ji31) : Int) (of_decide_eq_true (zq51)) (of_decide_eq_true (zq51)))); (try (have HP35 := Kd.R_putg HO_14.out ((ji31) : Int) t327)))); refine store_event (t := 35) (p := 95) (v := ?vo_w36) (w1 := (wr.setCell ⟨go34, ((ji31) : Int).toNat, none⟩ (.int .u64 t327))) ?hg ?ho ?hn ?hr ?_; (case ho => rfl); (case hg => rfl); (case hn => rfl); (case hr => first | (go_simp; done) | (go_simp; rfl)); intro w36 hw; have hg : wr.grownBy w36 (some go34) := (by rw [hw]; exact HP35.2); have hp_ : Kd.R (Kd.int .u64) 35 w36 w.heap.size (fun _ => True) (.slice (some ⟨go34, 0, none⟩) x14_3.length co34) y328 := (by rw [hw, Ny328.out]; exact HP35.1); clear HP35; replace HO_14 := Aside0.mk (hp_); replace HB := Aside0.mk ((by rw [hw]; exact below_set (HB.out) GB34.out : Below w.heap.size w w36)); clear hg hw hp_)); try go_wp2_with (first | (go_at_call 97; (with_reducible refine (ring_Fit.calls a0 x17_4 t327 _ A30.out).mono ?_); rintro e w' ⟨rfl, ⟨nd, rfl⟩⟩; (try first | exact ⟨rfl, _, World.drewN_drewN _ _ _⟩ | exact ⟨rfl, _, Eq.trans (World.drewN_drewN _ _ _) (congrArg (World.drewN _) (Nat.add_assoc _ _ _))⟩); have p34 : 0 ≤ ((ji31) : Int) := of_decide_eq_true (zq51); have q34 : ((ji31) : Int) < ((x14_3.length : Int) : Int) := of_decide_eq_true (zq51); obtain ⟨go34, co34, eo34, gb34, gl34, cl34, HG34⟩ := Kd.R_form HO_14.out (by omega); (first | cases eo34 | (injection eo34 with ea_ en_ ec_; (first | subst ea_ | (injection ea_ with ea_; subst ea_)); subst ec_; clear en_)); have GB34 := Aside0.mk gb34; have GG34 := Aside0.mk HG34; clear gb34 gl34 HG34; obtain ⟨hx34_0, hf34_0⟩ := Kd.R_celln 0 HO_14.out ((ji31) : Int) p34 q34; replace p34 := eq_true p34; replace q34 := eq_true q34; obtain ⟨hy35_, hz35_⟩ := Kd.R_celln 0 HO_14.out ((ji31) : Int) (of_decide_eq_true (zq51)) (of_decide_eq_true (zq51)); have HP35 := Kd.R_putg HO_14.out ((ji31) : Int) t327) | ((with_reducible refine gate_store (t := 35) (p := 95) rfl ?_); (try (rw [drewN_self wr]; generalize hq_ : World.drewN wr _ = wr; have n0_ := Aside0.mk (Kd.R_at hq_ HO_14.out); have n1_ := Aside0.mk (below_at hq_ HB.out); clear hq_ HO_14 HB; have HO_14 := n0_; have HB := n1_; clear n0_ n1_; (try (obtain ⟨hy35_, hz35_⟩ := Kd.R_celln 0 HO_14.out ((ji31) : Int) (of_decide_eq_true (zq51)) (of_decide_eq_true (zq51)))); (try (have HP35 := Kd.R_putg HO_14.out ((ji31) : Int) t327)))); refine store_event (t := 35) (p := 95) (v := ?vo_w36) (w1 := (wr.setCell ⟨go34, ((ji31) : Int).toNat, none⟩ (.int .u64 t327))) ?hg ?ho ?hn ?hr ?_; (case ho => rfl); (case hg => rfl); (case hn => rfl); (case hr => first | (go_simp; done) | (go_simp; rfl)); intro w36 hw; have hg : wr.grownBy w36 (some go34) := (by rw [hw]; exact HP35.2); have hp_ : Kd.R (Kd.int .u64) 35 w36 w.heap.size (fun _ => True) (.slice (some ⟨go34, 0, none⟩) x14_3.length co34) y328 := (by rw [hw, Ny328.out]; exact HP35.1); clear HP35; replace HO_14 := Aside0.mk (hp_); replace HB := Aside0.mk ((by rw [hw]; exact below_set (HB.out) GB34.out : Below w.heap.size w w36)); clear hg hw hp_)))
                 go_roundg k4
                 case measure => have := HJ6.out; have := HK2.out; have := HK3.out; have := HK4.out; omega
                 case rel => exact ⟨(y328), (wrap64 (x59_3 + 1)), (zq52), H', ⟨by have := HJ6.out; have := HK2.out; have := HK3.out; have := HK4.out; omega⟩, ⟨HO_14.r⟩, ⟨HB.bl⟩⟩
                ·rw [if_neg c33] at H
                 exact absurd H (by simp)
               ·rw [if_neg c32] at H
                exact absurd H (by simp)
           ·rw [if_neg c22] at H
            have c22b0 : decide (x59_3 < a3) = false := decide_eq_false c22
            clear c22
            have H' := Aside0.mk H
            clear H
            go_wp2
            repeat (go_quiet (fail); try go_wp2)
            go_roundg k3
            case measure => have := HJ6.out; have := HK2.out; have := HK3.out; omega
            case rel => exact ⟨(x14_3), (wrap64 (x55_2 + 1)), (zq52), H', ⟨by have := HJ6.out; have := HK2.out; have := HK3.out; omega⟩, ⟨HO_14.r⟩, ⟨HB.bl⟩⟩
        ·rw [if_neg c21] at H
         have c21b0 : decide (x55_2 < a1) = false := decide_eq_false c21
         clear c21
         simp only [Option.some.injEq, Prod.mk.injEq] at H
         obtain ⟨rfl, rfl⟩ := H
         go_wp2
         repeat (go_quiet (fail); try go_wp2)
         go_ret2
         exact ⟨_, by first | rfl | (simp [errW_none, errW_some] <;> rfl) | (simp only [← hji16]; first | rfl | (simp [errW_none, errW_some] <;> rfl)) | (simp [*, errW_none, errW_some] <;> rfl), HO_14.r, HB.bl⟩
     ·rw [if_neg c18] at H
      exact absurd H (by simp)
    ·rw [if_neg c17] at H
     exact absurd H (by simp)
end Go.Proofs.Ytcmaidpoolcelaa.P
