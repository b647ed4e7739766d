/- Functions of the program as plain Lean functions, and proofs that the machine's calls do what these do: written by a program of this workplace (wip/tools/pp.py). -/
import Derived.Test.YtcmaidpoolcelaaCmPx0
import Derived.Test.YtcmaidpoolcelaaCmK0
import Derived.Test.YtcmaidpoolcelaaCmK1
import Derived.Test.YtcmaidpoolcelaaCmK2
import Derived.Test.YtcmaidpoolcelaaCmK4
import Derived.Test.YtcmaidpoolcelaaCmK5
import Derived.Test.YtcmaidpoolcelaaCmK6
import Derived.Test.YtcmaidpoolcelaaCmK7
import Derived.Test.YtcmaidpoolcelaaCmSh
namespace Go.Proofs.Ytcmaidpoolcelaa.P
open Go.RowKit Go.Proofs.YtcmaidpoolcelaaW.PrintWords Go.Proofs.YtcmaidpoolcelaaW.PrintLast Go.Proofs.YtcmaidpoolcelaaW.PrintMore
attribute [local go_sem] max2_int min2_int max_two min_two max_three min_three max_four min_four   -- for this text's walks alone
set_option linter.unusedVariables false
set_option linter.unusedSimpArgs false

/-! ### dabit_Finish: function 28 -/
mutual
def dabit_Finish.j0 : Nat → List (S26) → List Int → List Int → Bool → Int → Int → Int → Int → Int → Option ((List (S26)) × Int)
 | 0, _, _, _, _, _, _, _, _, _ => none
 | k + 1, x1, x2, x8, x34, x400000, x400001, x400002, x400003, x400004 => if x34 = true then (some (([] : List (S26)), 11)) else (if 0 ≤ (x1.length : Int) then (if ((x1.length : Int) : Int).toNat ≤ 3909374676536 then (dabit_Finish.l0 k x2 (([] : List (S26))) x8 (x8.length : Int) 0 x400000 x400001 x400002 x400003 x400004) else (none)) else (none))
def dabit_Finish.l0 : Nat → List Int → List (S26) → List Int → Int → Int → Int → Int → Int → Int → Int → Option ((List (S26)) × Int)
 | 0, _, _, _, _, _, _, _, _, _, _ => none
 | k + 1, x2, x10, x38, x39, x40, x400000, x400001, x400002, x400003, x400004 => if x40 < x39 then (if 0 ≤ x40 then (if x40 < (x38.length : Int) then (if x40 < (x2.length : Int) then ((ring_Mul.f x400001 2 (rd x2 x40)).bind fun t410 => ((ring_Sub.f x400001 (rd x38 x40) t410).bind fun t411 => (if x10.length < 1954687338268 then (dabit_Finish.l0 k x2 (x10 ++ [(⟨(([rd x38 x40] : List Int)), (([t411] : List Int)), ([] : List Int)⟩ : S26)]) x38 x39 (wrap64 (x40 + 1)) x400000 x400001 x400002 x400003 x400004) else (none)))) else (none)) else (none)) else (none)) else (some (x10, 0))
end
def dabit_Finish.f (k : Nat) (a0_0 : Int) (a0_1 : Int) (a0_2 : Int) (a0_3 : Int) (a0_4 : Int) (l1 : List (S26)) (l2 : List Int) : Option ((List (S26)) × Int) := (dabit_own.f k a0_0 a0_1 a0_2 a0_3 a0_4 l1).bind fun bt400 => (if bt400.2 = 0 then (if (l2.length : Int) = (bt400.1.length : Int) then ((ring_Fits.f a0_1 l2).bind fun t404 => (dabit_Finish.j0 k l1 l2 bt400.1 (!t404) a0_0 a0_1 a0_2 a0_3 a0_4)) else (dabit_Finish.j0 k l1 l2 bt400.1 true a0_0 a0_1 a0_2 a0_3 a0_4)) else (some (([] : List (S26)), bt400.2)))
set_option maxHeartbeats 8000000 in
set_option maxRecDepth 100000 in
theorem dabit_Finish.calls (k : Nat) (a0_0 : Int) (a0_1 : Int) (a0_2 : Int) (a0_3 : Int) (a0_4 : Int) (A1 : Option Addr) (c1 : Nat) (l1 : List (S26)) (A2 : Option Addr) (c2 : Nat) (l2 : List Int) (r1 : List (S26)) (r2 : Int) (w : World) (hr1 : Kd.C k26 w A1 l1.length l1) (hc1 : l1.length ≤ c1) (hr2 : Kd.C (Kd.int .u64) w A2 l2.length l2) (hc2 : l2.length ≤ c2) (h : dabit_Finish.f k a0_0 a0_1 a0_2 a0_3 a0_4 l1 l2 = some (r1, r2)) :
  Calls Try.prog 28 #[.agg #[.int .i64 a0_0, .int .i64 a0_1, .int .i64 a0_2, .int .i64 a0_3, .int .i64 a0_4], .slice A1 l1.length c1, .slice A2 l2.length c2] w fun e w' => ∃ v0_ : Value, e = .returned (.tuple #[v0_, .int .i64 r2]) ∧ Kd.S k26 26 w' w.heap.size (fun _ => True) v0_ r1 ∧ Below w.heap.size w w' := by
 have hu23 := Try.underlying23
 have hu26 := Try.underlying26
 have HR1 := Aside0.mk hr1
 have HC1 := Aside0.mk hc1
 clear hr1 hc1
 have HR2 := Aside0.mk hr2
 have HC2 := Aside0.mk hc2
 clear hr2 hc2
 have HB := Aside0.mk (Below.refl w.heap.size w)
 have H : ((dabit_own.f k a0_0 a0_1 a0_2 a0_3 a0_4 l1).bind fun bt400 => (if bt400.2 = 0 then (if (l2.length : Int) = (bt400.1.length : Int) then ((ring_Fits.f a0_1 l2).bind fun t404 => (dabit_Finish.j0 k l1 l2 bt400.1 (!t404) a0_0 a0_1 a0_2 a0_3 a0_4)) else (dabit_Finish.j0 k l1 l2 bt400.1 true a0_0 a0_1 a0_2 a0_3 a0_4)) else (some (([] : List (S26)), bt400.2)))) = some (r1, r2) := h
 clear h
 replace H := Option.bind_eq_some_iff.mp H
 obtain ⟨⟨t400, t403⟩, A40, H⟩ := H
 replace H : (if t403 = 0 then (if (l2.length : Int) = (t400.length : Int) then ((ring_Fits.f a0_1 l2).bind fun t404 => (dabit_Finish.j0 k l1 l2 t400 (!t404) a0_0 a0_1 a0_2 a0_3 a0_4)) else (dabit_Finish.j0 k l1 l2 t400 true a0_0 a0_1 a0_2 a0_3 a0_4)) else (some (([] : List (S26)), t403))) = some (r1, r2) := H
 have A4 := Aside0.mk A40
 clear A40
 by_cases c5 : t403 = 0
 ·rw [if_pos c5] at H
  have c5b0 : (t403 == 0) = true := beq_iff_eq.mpr c5
  have c5b1 : (t403 != 0) = false := bne_eq_false_iff_eq.mpr c5
  clear c5
  have HC6 := Aside0.mk H
  clear H
  go_enter Try.func28, Try.ntmps28
  go_upto_region 4 with (first | ((with_reducible refine gate_dst (N := 3) rfl ?_); refine box_event ?hg (N := 3) ?hd (cs := #[.int .i64 a0_0, .int .i64 a0_1, .int .i64 a0_2, .int .i64 a0_3, .int .i64 a0_4]) (t := 23) ?hr ?_; (case hd => rfl); (case hg => rfl); (case hr => first | (go_simp; done) | (go_simp; rfl)); intro gb399 hg w7 hbox hb; have n0_ := Aside0.mk (below_step HB.bl hb); have n1_ := Aside0.mk (hbox); have n2_ := Aside0.mk ((zq41 : w.heap.size ≤ gb399)); have n3_ := Aside0.mk ((zq41 : w.heap.size ≤ gb399)); clear HB; have HB := n0_; have BK399 := n1_; have GW399 := n2_; have GE399 := n3_; clear n0_ n1_ n2_ n3_; clear hb hbox hg; obtain ⟨hcz8_0, hcz8_1, hcz8_2, hcz8_3, hcz8_4, hfz8_0, hfz8_1, hfz8_2, hfz8_3, hfz8_4⟩ := cells_5 BK399.out) | (go_at_call 64; (with_reducible refine (dabit_own.calls k a0_0 a0_1 a0_2 a0_3 a0_4 _ _ l1 t400 t403 _ ?side1 ?side2 A4.out).mono ?_); (case side1 => repeat (first | exact (Kd.C_below HR1.out HB.out) | (with_reducible refine Kd.C_alloc ?_ _) | (with_reducible refine Kd.C_drewN ?_ _) | (with_reducible refine Kd.C_drew ?_))); (case side2 => exact HC1.out); rintro e w9 ⟨v401, rfl, ho0, hb⟩; have HO402 := Aside0.mk (Kd.R_lower ho0 (below_size HB.bl)); replace BK399 := Aside0.mk (BK399.lk hb); replace HB := Aside0.mk (below_step HB.bl hb); (try clear hb); (try clear hb2); (try clear hk); (try clear hi); (try clear ho0)))
  repeat (go_quiet (first | ((with_reducible refine gate_dst (N := 3) rfl ?_); refine box_event ?hg (N := 3) ?hd (cs := #[.int .i64 a0_0, .int .i64 a0_1, .int .i64 a0_2, .int .i64 a0_3, .int .i64 a0_4]) (t := 23) ?hr ?_; (case hd => rfl); (case hg => rfl); (case hr => first | (go_simp; done) | (go_simp; rfl)); intro gb399 hg w7 hbox hb; have n0_ := Aside0.mk (below_step HB.bl hb); have n1_ := Aside0.mk (hbox); have n2_ := Aside0.mk ((zq41 : w.heap.size ≤ gb399)); have n3_ := Aside0.mk ((zq41 : w.heap.size ≤ gb399)); clear HB; have HB := n0_; have BK399 := n1_; have GW399 := n2_; have GE399 := n3_; clear n0_ n1_ n2_ n3_; clear hb hbox hg; obtain ⟨hcz8_0, hcz8_1, hcz8_2, hcz8_3, hcz8_4, hfz8_0, hfz8_1, hfz8_2, hfz8_3, hfz8_4⟩ := cells_5 BK399.out) | (go_at_call 64; (with_reducible refine (dabit_own.calls k a0_0 a0_1 a0_2 a0_3 a0_4 _ _ l1 t400 t403 _ ?side1 ?side2 A4.out).mono ?_); (case side1 => repeat (first | exact (Kd.C_below HR1.out HB.out) | (with_reducible refine Kd.C_alloc ?_ _) | (with_reducible refine Kd.C_drewN ?_ _) | (with_reducible refine Kd.C_drew ?_))); (case side2 => exact HC1.out); rintro e w9 ⟨v401, rfl, ho0, hb⟩; have HO402 := Aside0.mk (Kd.R_lower ho0 (below_size HB.bl)); replace BK399 := Aside0.mk (BK399.lk hb); replace HB := Aside0.mk (below_step HB.bl hb); (try clear hb); (try clear hb2); (try clear hk); (try clear hi); (try clear ho0))); go_upto_region 4 with (first | ((with_reducible refine gate_dst (N := 3) rfl ?_); refine box_event ?hg (N := 3) ?hd (cs := #[.int .i64 a0_0, .int .i64 a0_1, .int .i64 a0_2, .int .i64 a0_3, .int .i64 a0_4]) (t := 23) ?hr ?_; (case hd => rfl); (case hg => rfl); (case hr => first | (go_simp; done) | (go_simp; rfl)); intro gb399 hg w7 hbox hb; have n0_ := Aside0.mk (below_step HB.bl hb); have n1_ := Aside0.mk (hbox); have n2_ := Aside0.mk ((zq41 : w.heap.size ≤ gb399)); have n3_ := Aside0.mk ((zq41 : w.heap.size ≤ gb399)); clear HB; have HB := n0_; have BK399 := n1_; have GW399 := n2_; have GE399 := n3_; clear n0_ n1_ n2_ n3_; clear hb hbox hg; obtain ⟨hcz8_0, hcz8_1, hcz8_2, hcz8_3, hcz8_4, hfz8_0, hfz8_1, hfz8_2, hfz8_3, hfz8_4⟩ := cells_5 BK399.out) | (go_at_call 64; (with_reducible refine (dabit_own.calls k a0_0 a0_1 a0_2 a0_3 a0_4 _ _ l1 t400 t403 _ ?side1 ?side2 A4.out).mono ?_); (case side1 => repeat (first | exact (Kd.C_below HR1.out HB.out) | (with_reducible refine Kd.C_alloc ?_ _) | (with_reducible refine Kd.C_drewN ?_ _) | (with_reducible refine Kd.C_drew ?_))); (case side2 => exact HC1.out); rintro e w9 ⟨v401, rfl, ho0, hb⟩; have HO402 := Aside0.mk (Kd.R_lower ho0 (below_size HB.bl)); replace BK399 := Aside0.mk (BK399.lk hb); replace HB := Aside0.mk (below_step HB.bl hb); (try clear hb); (try clear hb2); (try clear hk); (try clear hi); (try clear ho0))))
  (try simp only [Act.put, List.setIfInBounds_toArray, List.set_cons_zero, List.set_cons_succ])
  go_cut [34] (fun v34 wc => ∃ (kq : Nat) (x34_5 : Bool), v34 = .bool x34_5 ∧ Aside0 (dabit_Finish.j0 kq l1 l2 t400 x34_5 a0_0 a0_1 a0_2 a0_3 a0_4 = some (r1, r2)) ∧ Aside0 (kq ≤ k) ∧ Aside0 (Kd.R (Kd.int .u64) 35 wc w.heap.size (fun _ => True) v401 t400) ∧ Aside0 (wc.heap[gb399]? = some (.cells #[.int .i64 a0_0, .int .i64 a0_1, .int .i64 a0_2, .int .i64 a0_3, .int .i64 a0_4] 23 (0, 0))) ∧ Aside0 (Below w.heap.size w wc))
  case first =>
   have H := HC6.out
   clear HC6
   by_cases c10 : (l2.length : Int) = (t400.length : Int)
   ·rw [if_pos c10] at H
    have c10b0 : ((l2.length : Int) == (t400.length : Int)) = true := beq_iff_eq.mpr c10
    have c10b1 : ((l2.length : Int) != (t400.length : Int)) = false := bne_eq_false_iff_eq.mpr c10
    have c10b2 : (l2.length == t400.length) = true := by first | simpa using c10 | (simp at c10 ⊢; omega)
    clear c10
    (first | rw [c10b0] | (simp only [i64_w, i32_w]; rw [c10b0]) | skip)
    replace H := Option.bind_eq_some_iff.mp H
    obtain ⟨t404, A110, H⟩ := H
    replace H : (dabit_Finish.j0 k l1 l2 t400 (!t404) a0_0 a0_1 a0_2 a0_3 a0_4) = some (r1, r2) := H
    have A11 := Aside0.mk A110
    clear A110
    have H' := Aside0.mk H
    clear H
    obtain ⟨Ao12, co12, eo12⟩ := Kd.R_slice HO402.out
    subst eo12
    obtain ⟨hcz13_0, hcz13_1, hcz13_2, hcz13_3, hcz13_4, hfz13_0, hfz13_1, hfz13_2, hfz13_3, hfz13_4⟩ := cells_5 BK399.out
    go_wp2_with (first | (go_at_call 65; (with_reducible refine (ring_Fits.calls a0_1 _ _ l2 t404 _ ?side1 ?side2 A11.out).mono ?_); (case side1 => repeat (first | exact (Kd.C_below HR2.out HB.out) | (with_reducible refine Kd.C_alloc ?_ _) | (with_reducible refine Kd.C_drewN ?_ _) | (with_reducible refine Kd.C_drew ?_))); (case side2 => exact HC2.out); rintro e w14 ⟨rfl, hb⟩; replace HO402 := Aside0.mk (Kd.R_below HO402.r hb); replace BK399 := Aside0.mk (BK399.lk hb); replace HB := Aside0.mk (below_step HB.bl hb); (try clear hb); (try clear hb2); (try clear hk); (try clear hi)))
    repeat (go_quiet (first | (go_at_call 65; (with_reducible refine (ring_Fits.calls a0_1 _ _ l2 t404 _ ?side1 ?side2 A11.out).mono ?_); (case side1 => repeat (first | exact (Kd.C_below HR2.out HB.out) | (with_reducible refine Kd.C_alloc ?_ _) | (with_reducible refine Kd.C_drewN ?_ _) | (with_reducible refine Kd.C_drew ?_))); (case side2 => exact HC2.out); rintro e w14 ⟨rfl, hb⟩; replace HO402 := Aside0.mk (Kd.R_below HO402.r hb); replace BK399 := Aside0.mk (BK399.lk hb); replace HB := Aside0.mk (below_step HB.bl hb); (try clear hb); (try clear hb2); (try clear hk); (try clear hi))); try go_wp2_with (first | (go_at_call 65; (with_reducible refine (ring_Fits.calls a0_1 _ _ l2 t404 _ ?side1 ?side2 A11.out).mono ?_); (case side1 => repeat (first | exact (Kd.C_below HR2.out HB.out) | (with_reducible refine Kd.C_alloc ?_ _) | (with_reducible refine Kd.C_drewN ?_ _) | (with_reducible refine Kd.C_drew ?_))); (case side2 => exact HC2.out); rintro e w14 ⟨rfl, hb⟩; replace HO402 := Aside0.mk (Kd.R_below HO402.r hb); replace BK399 := Aside0.mk (BK399.lk hb); replace HB := Aside0.mk (below_step HB.bl hb); (try clear hb); (try clear hb2); (try clear hk); (try clear hi))))
    go_meet
    case rel => exact ⟨_, (!t404), (zq35), H', ⟨zq40⟩, ⟨HO402.r⟩, ⟨zq29⟩, ⟨zq19⟩⟩
   ·rw [if_neg c10] at H
    have c10b0 : ((l2.length : Int) == (t400.length : Int)) = false := beq_eq_false_iff_ne.mpr c10
    have c10b1 : ((l2.length : Int) != (t400.length : Int)) = true := bne_iff_ne.mpr c10
    have c10b2 : (l2.length == t400.length) = false := by first | simpa using c10 | (simp at c10 ⊢; omega)
    (first | rw [c10b0] | (simp only [i64_w, i32_w]; rw [c10b0]) | skip)
    have H' := Aside0.mk H
    clear H
    obtain ⟨Ao15, co15, eo15⟩ := Kd.R_slice HO402.out
    subst eo15
    go_wp2
    repeat (go_quiet (fail); try go_wp2)
    go_meet
    case rel => exact ⟨_, (true), (zq35), H', ⟨zq40⟩, ⟨HO402.r⟩, ⟨zq29⟩, ⟨zq19⟩⟩
  case rest =>
   clear HC6
   try clear c1
   try clear c2
   try clear p2
   try clear c5
   try clear c5b0
   try clear c5b1
   try clear c10
   try clear c10b0
   try clear c10b1
   try clear c10b2
   try clear hcz13_0
   try clear hcz13_1
   try clear hcz13_2
   try clear hcz13_3
   try clear hcz13_4
   try clear hcz8_0
   try clear hcz8_1
   try clear hcz8_2
   try clear hcz8_3
   try clear hcz8_4
   try clear hfz13_0
   try clear hfz13_1
   try clear hfz13_2
   try clear hfz13_3
   try clear hfz13_4
   try clear hfz8_0
   try clear hfz8_1
   try clear hfz8_2
   try clear hfz8_3
   try clear hfz8_4
   obtain ⟨kq, x34_5, rfl, HA, HJ5, HO_8, BK399, HB⟩ := hcut
   cases kq with
   | zero => exact absurd HA.out (by simp [dabit_Finish.j0])
   | succ kj5 =>
    have H := HA.out
    clear HA
    simp only [dabit_Finish.j0] at H
    by_cases c16 : x34_5 = true
    ·subst c16
     have H1 : (some (([] : List (S26)), 11)) = some (r1, r2) := by rw [if_pos rfl] at H; exact H
     clear H
     have H := H1
     clear H1
     simp only [Option.some.injEq, Prod.mk.injEq] at H
     obtain ⟨rfl, rfl⟩ := H
     go_wp2
     repeat (go_quiet (fail); try go_wp2)
     go_ret2
     exact ⟨_, zq30, by first | exact Kd.S_nil _ _ _ _ _ | exact Kd.N_nil _ _ _ _ _ | exact Kd.V_nil _ _ _ _ _ | exact Kd.Q_nil _ _ _ _ _ | exact Kd.R_nil _ _ _ _ _, zq19⟩
    ·replace c16 := Bool.eq_false_iff.mpr c16
     subst c16
     have H1 : (if 0 ≤ (l1.length : Int) then (if ((l1.length : Int) : Int).toNat ≤ 3909374676536 then (dabit_Finish.l0 kj5 l2 (([] : List (S26))) t400 (t400.length : Int) 0 a0_0 a0_1 a0_2 a0_3 a0_4) else (none)) else (none)) = some (r1, r2) := by rw [if_neg (show ¬ (false = true) by decide)] at H; exact H
     clear H
     have H := H1
     clear H1
     by_cases c17 : 0 ≤ (l1.length : Int)
     ·rw [if_pos c17] at H
      have c17b0 := eq_true c17
      have c17b1 : decide (0 ≤ (l1.length : Int)) = true := decide_eq_true c17
      clear c17
      by_cases c18 : ((l1.length : Int) : Int).toNat ≤ 3909374676536
      ·rw [if_pos c18] at H
       have c18b0 := eq_true c18
       have c18b1 : decide (((l1.length : Int) : Int).toNat ≤ 3909374676536) = true := decide_eq_true c18
       clear c18
       obtain ⟨y405, hy405⟩ : ∃ y_ : List (S26), y_ = (([] : List (S26))) := ⟨_, rfl⟩
       replace H : (dabit_Finish.l0 kj5 l2 y405 t400 (t400.length : Int) 0 a0_0 a0_1 a0_2 a0_3 a0_4) = some (r1, r2) := by first | (rw [hy405]; with_reducible exact H) | (have H2_ := (Option.bind_some _ _).symm.trans H; rw [hy405]; with_reducible exact H2_) | (have H2_ := (Option.bind_some _ _).symm.trans H; with_reducible exact H2_) | with_reducible exact H | (rw [hy405]; exact H) | exact H
       have Ny405 := Aside0.mk hy405
       clear hy405
       have H' := Aside0.mk H
       clear H
       go_wp2_with (first | ((with_reducible refine gate_dst (N := 37) rfl ?_); refine Kd.S_makecap k26 _ 26 rfl (N := 37) rfl 30 _ _ rfl (l1.length : Int) rfl rfl Try.underlying30 (.agg #[(.slice none 0 0), (.slice none 0 0), (.slice none 0 0)]) 72 info26 rfl (by decide) (by omega) z26 (ok := fun _ => True) (okp := fun _ => True) (k26_mkM _ _ _ z26 (Kd.R_nil _ _ _ _ _) (Kd.R_nil _ _ _ _ _) (Kd.R_nil _ _ _ _ _)) (fun _ hk => hk) trivial (of_decide_eq_true (zq34)) (Nat.le_trans (Nat.mul_le_mul_right _ (of_decide_eq_true (zq34) : (l1.length : Int).toNat ≤ 3909374676536)) (by omega)) (Below.refl _ _) (Nat.le_refl _) ?_; intro v406 w19 ho20 hb hg_ hnew_; clear hg_ hnew_; (first | rw [← Ny405.out] at ho20 | (simp only [Int.reduceToNat] at ho20; rw [← Ny405.out] at ho20)); have n0_ := Aside0.mk (Kd.R_below HO_8.r hb); have n1_ := Aside0.mk (Kd.S_lower (Kd.S_new' ho20 (Kd.R_lt HO_8.r)) (below_size HB.bl)); have n2_ := Aside0.mk (BK399.lk hb); have n3_ := Aside0.mk (below_step HB.bl hb); clear HO_8; clear BK399; clear HB; have HO_8 := n0_; have HO407 := n1_; have BK399 := n2_; have HB := n3_; clear n0_ n1_ n2_ n3_; clear hb ho20; obtain ⟨Ao21, co21, eo21⟩ := Kd.R_slice HO_8.out; subst eo21))
       repeat (go_quiet (first | ((with_reducible refine gate_dst (N := 37) rfl ?_); refine Kd.S_makecap k26 _ 26 rfl (N := 37) rfl 30 _ _ rfl (l1.length : Int) rfl rfl Try.underlying30 (.agg #[(.slice none 0 0), (.slice none 0 0), (.slice none 0 0)]) 72 info26 rfl (by decide) (by omega) z26 (ok := fun _ => True) (okp := fun _ => True) (k26_mkM _ _ _ z26 (Kd.R_nil _ _ _ _ _) (Kd.R_nil _ _ _ _ _) (Kd.R_nil _ _ _ _ _)) (fun _ hk => hk) trivial (of_decide_eq_true (zq34)) (Nat.le_trans (Nat.mul_le_mul_right _ (of_decide_eq_true (zq34) : (l1.length : Int).toNat ≤ 3909374676536)) (by omega)) (Below.refl _ _) (Nat.le_refl _) ?_; intro v406 w19 ho20 hb hg_ hnew_; clear hg_ hnew_; (first | rw [← Ny405.out] at ho20 | (simp only [Int.reduceToNat] at ho20; rw [← Ny405.out] at ho20)); have n0_ := Aside0.mk (Kd.R_below HO_8.r hb); have n1_ := Aside0.mk (Kd.S_lower (Kd.S_new' ho20 (Kd.R_lt HO_8.r)) (below_size HB.bl)); have n2_ := Aside0.mk (BK399.lk hb); have n3_ := Aside0.mk (below_step HB.bl hb); clear HO_8; clear BK399; clear HB; have HO_8 := n0_; have HO407 := n1_; have BK399 := n2_; have HB := n3_; clear n0_ n1_ n2_ n3_; clear hb ho20; obtain ⟨Ao21, co21, eo21⟩ := Kd.R_slice HO_8.out; subst eo21)); try go_wp2_with (first | ((with_reducible refine gate_dst (N := 37) rfl ?_); refine Kd.S_makecap k26 _ 26 rfl (N := 37) rfl 30 _ _ rfl (l1.length : Int) rfl rfl Try.underlying30 (.agg #[(.slice none 0 0), (.slice none 0 0), (.slice none 0 0)]) 72 info26 rfl (by decide) (by omega) z26 (ok := fun _ => True) (okp := fun _ => True) (k26_mkM _ _ _ z26 (Kd.R_nil _ _ _ _ _) (Kd.R_nil _ _ _ _ _) (Kd.R_nil _ _ _ _ _)) (fun _ hk => hk) trivial (of_decide_eq_true (zq34)) (Nat.le_trans (Nat.mul_le_mul_right _ (of_decide_eq_true (zq34) : (l1.length : Int).toNat ≤ 3909374676536)) (by omega)) (Below.refl _ _) (Nat.le_refl _) ?_; intro v406 w19 ho20 hb hg_ hnew_; clear hg_ hnew_; (first | rw [← Ny405.out] at ho20 | (simp only [Int.reduceToNat] at ho20; rw [← Ny405.out] at ho20)); have n0_ := Aside0.mk (Kd.R_below HO_8.r hb); have n1_ := Aside0.mk (Kd.S_lower (Kd.S_new' ho20 (Kd.R_lt HO_8.r)) (below_size HB.bl)); have n2_ := Aside0.mk (BK399.lk hb); have n3_ := Aside0.mk (below_step HB.bl hb); clear HO_8; clear BK399; clear HB; have HO_8 := n0_; have HO407 := n1_; have BK399 := n2_; have HB := n3_; clear n0_ n1_ n2_ n3_; clear hb ho20; obtain ⟨Ao21, co21, eo21⟩ := Kd.R_slice HO_8.out; subst eo21)))
       go_loopg [10, 40] kj5 (fun kq v10 v40 w' => ∃ (x10_2 : List (S26)) (x40_2 : Int), v40 = .int .i64 x40_2 ∧ Aside0 (dabit_Finish.l0 kq l2 x10_2 t400 (t400.length : Int) x40_2 a0_0 a0_1 a0_2 a0_3 a0_4 = some (r1, r2)) ∧ Aside0 (kq ≤ kj5) ∧ Aside0 (Kd.S k26 26 w' w.heap.size (fun k_ => some k_ ≠ ((.slice Ao21 t400.length co21) : Value).ownBlock) v10 x10_2) ∧ Aside0 (Kd.R (Kd.int .u64) 35 w' w.heap.size (fun _ => True) (.slice Ao21 t400.length co21) t400) ∧ Aside0 (w'.heap[gb399]? = some (.cells #[.int .i64 a0_0, .int .i64 a0_1, .int .i64 a0_2, .int .i64 a0_3, .int .i64 a0_4] 23 (0, 0))) ∧ Aside0 (Below w.heap.size w w'))
       case atStart => exact ⟨(y405), (0), (zq35), H', ⟨Nat.le_refl _⟩, ⟨by (with_reducible repeat (first | apply Kd.S_alloc | apply Kd.S_drewN | apply Kd.S_drew)); exact Kd.S_mono HO407.out (fun _ hk => hk.2)⟩, ⟨HO_8.r⟩, ⟨zq29⟩, ⟨zq19⟩⟩
       case round =>
        clear H'
        try clear c1
        try clear c2
        try clear p2
        try clear c5
        try clear c5b0
        try clear c5b1
        try clear c10
        try clear c10b0
        try clear c10b1
        try clear c10b2
        try clear c16
        try clear c17
        try clear c17b0
        try clear c17b1
        try clear c18
        try clear c18b0
        try clear c18b1
        try clear hcz13_0
        try clear hcz13_1
        try clear hcz13_2
        try clear hcz13_3
        try clear hcz13_4
        try clear hcz8_0
        try clear hcz8_1
        try clear hcz8_2
        try clear hcz8_3
        try clear hcz8_4
        try clear hfz13_0
        try clear hfz13_1
        try clear hfz13_2
        try clear hfz13_3
        try clear hfz13_4
        try clear hfz8_0
        try clear hfz8_1
        try clear hfz8_2
        try clear hfz8_3
        try clear hfz8_4
        try clear p2
        obtain ⟨x10_2, x40_2, rfl, HA, HK2, HO_10, HO_38, BK399, HB⟩ := hrel
        cases gk with
        | zero => exact absurd HA.out (by simp [dabit_Finish.l0])
        | succ k2 =>
         have H := HA.out
         clear HA
         simp only [dabit_Finish.l0] at H
         by_cases c22 : x40_2 < (t400.length : Int)
         ·rw [if_pos c22] at H
          have c22b0 : decide (x40_2 < (t400.length : Int)) = true := decide_eq_true c22
          clear c22
          by_cases c23 : 0 ≤ x40_2
          ·rw [if_pos c23] at H
           have c23b0 : decide (0 ≤ x40_2) = true := decide_eq_true c23
           clear c23
           by_cases c24 : x40_2 < (t400.length : Int)
           ·rw [if_pos c24] at H
            have c24b0 : decide (x40_2 < (t400.length : Int)) = true := decide_eq_true c24
            clear c24
            by_cases c25 : x40_2 < (l2.length : Int)
            ·rw [if_pos c25] at H
             have c25b0 : decide (x40_2 < (l2.length : Int)) = true := decide_eq_true c25
             clear c25
             replace H := Option.bind_eq_some_iff.mp H
             obtain ⟨t410, A260, H⟩ := H
             replace H : ((ring_Sub.f a0_1 (rd t400 x40_2) t410).bind fun t411 => (if x10_2.length < 1954687338268 then (dabit_Finish.l0 k2 l2 (x10_2 ++ [(⟨(([rd t400 x40_2] : List Int)), (([t411] : List Int)), ([] : List Int)⟩ : S26)]) t400 (t400.length : Int) (wrap64 (x40_2 + 1)) a0_0 a0_1 a0_2 a0_3 a0_4) else (none))) = some (r1, r2) := H
             have A26 := Aside0.mk A260
             clear A260
             replace H := Option.bind_eq_some_iff.mp H
             obtain ⟨t411, A270, H⟩ := H
             replace H : (if x10_2.length < 1954687338268 then (dabit_Finish.l0 k2 l2 (x10_2 ++ [(⟨(([rd t400 x40_2] : List Int)), (([t411] : List Int)), ([] : List Int)⟩ : S26)]) t400 (t400.length : Int) (wrap64 (x40_2 + 1)) a0_0 a0_1 a0_2 a0_3 a0_4) else (none)) = some (r1, r2) := H
             have A27 := Aside0.mk A270
             clear A270
             obtain ⟨y412, hy412⟩ : ∃ y_ : List Int, y_ = (([rd t400 x40_2] : List Int)) := ⟨_, rfl⟩
             replace H : (if x10_2.length < 1954687338268 then (dabit_Finish.l0 k2 l2 (x10_2 ++ [(⟨y412, (([t411] : List Int)), ([] : List Int)⟩ : S26)]) t400 (t400.length : Int) (wrap64 (x40_2 + 1)) a0_0 a0_1 a0_2 a0_3 a0_4) else (none)) = some (r1, r2) := by first | (rw [hy412]; with_reducible exact H) | (have H2_ := (Option.bind_some _ _).symm.trans H; rw [hy412]; with_reducible exact H2_) | (have H2_ := (Option.bind_some _ _).symm.trans H; with_reducible exact H2_) | with_reducible exact H | (rw [hy412]; exact H) | exact H
             have Ny412 := Aside0.mk hy412
             clear hy412
             obtain ⟨y415, hy415⟩ : ∃ y_ : List Int, y_ = (([t411] : List Int)) := ⟨_, rfl⟩
             replace H : (if x10_2.length < 1954687338268 then (dabit_Finish.l0 k2 l2 (x10_2 ++ [(⟨y412, y415, ([] : List Int)⟩ : S26)]) t400 (t400.length : Int) (wrap64 (x40_2 + 1)) a0_0 a0_1 a0_2 a0_3 a0_4) else (none)) = some (r1, r2) := by first | (rw [hy415]; with_reducible exact H) | (have H2_ := (Option.bind_some _ _).symm.trans H; rw [hy415]; with_reducible exact H2_) | (have H2_ := (Option.bind_some _ _).symm.trans H; with_reducible exact H2_) | with_reducible exact H | (rw [hy415]; exact H) | exact H
             have Ny415 := Aside0.mk hy415
             clear hy415
             by_cases c28 : x10_2.length < 1954687338268
             ·rw [if_pos c28] at H
              have LMc28 := Aside0.mk c28
              clear c28
              obtain ⟨y418, hy418⟩ : ∃ y_ : List (S26), y_ = (x10_2 ++ [(⟨y412, y415, ([] : List Int)⟩ : S26)]) := ⟨_, rfl⟩
              replace H : (dabit_Finish.l0 k2 l2 y418 t400 (t400.length : Int) (wrap64 (x40_2 + 1)) a0_0 a0_1 a0_2 a0_3 a0_4) = some (r1, r2) := by first | (rw [hy418]; with_reducible exact H) | (have H2_ := (Option.bind_some _ _).symm.trans H; rw [hy418]; with_reducible exact H2_) | (have H2_ := (Option.bind_some _ _).symm.trans H; with_reducible exact H2_) | with_reducible exact H | (rw [hy418]; exact H) | exact H
              have Ny418 := Aside0.mk hy418
              clear hy418
              have H' := Aside0.mk H
              clear H
              have p408 : 0 ≤ (x40_2 : Int) := of_decide_eq_true (zq34)
              have q408 : x40_2 < (t400.length : Int) := of_decide_eq_true (zq34)
              obtain ⟨ad408, e408, hx408_0⟩ := Kd.at_int (Kd.R_reads' HO_38.out).2.2 x40_2 p408 q408
              cases e408
              replace p408 := eq_true p408
              replace q408 := eq_true q408
              obtain ⟨hcz29_0, hcz29_1, hcz29_2, hcz29_3, hcz29_4, hfz29_0, hfz29_1, hfz29_2, hfz29_3, hfz29_4⟩ := cells_5 BK399.out
              have p409 : 0 ≤ (x40_2 : Int) := of_decide_eq_true (zq34)
              have q409 : x40_2 < (l2.length : Int) := of_decide_eq_true (zq34)
              obtain ⟨ad409, e409, hx409_0⟩ := Kd.at_int HR2.out x40_2 p409 q409
              cases e409
              replace hx409_0 := (HB.out.cell (World.block_lt_of_cell? w _ hx409_0)).trans hx409_0
              replace p409 := eq_true p409
              replace q409 := eq_true q409
              go_wp2_with (first | (go_at_call 55; (with_reducible refine (ring_Mul.calls a0_1 2 (rd l2 x40_2) t410 _ A26.out).mono ?_); rintro e w' ⟨rfl, ⟨nd, rfl⟩⟩; (try first | exact ⟨rfl, _, World.drewN_drewN _ _ _⟩ | exact ⟨rfl, _, Eq.trans (World.drewN_drewN _ _ _) (congrArg (World.drewN _) (Nat.add_assoc _ _ _))⟩)) | (go_at_call 66; (with_reducible refine (ring_Sub.calls a0_1 (rd t400 x40_2) t410 t411 _ A27.out).mono ?_); rintro e w' ⟨rfl, ⟨nd, rfl⟩⟩; (try first | exact ⟨rfl, _, World.drewN_drewN _ _ _⟩ | exact ⟨rfl, _, Eq.trans (World.drewN_drewN _ _ _) (congrArg (World.drewN _) (Nat.add_assoc _ _ _))⟩)) | ((with_reducible refine gate_dst (N := 58) rfl ?_); refine Kd.R_lit (Kd.int .u64) _ 35 ?hg (N := 58) ?hd (xs := ([rd t400 x40_2] : List Int)) (inner := [.int .u64 (rd t400 x40_2)]) (ok := fun _ => True) (okp := fun _ => True) ?hr ?hp (fun _ hk => hk) trivial (Below.refl _ _) (Nat.le_refl _) (by simp) ?_; (case hd => rfl); (case hg => rfl); (case hr => first | (go_simp; done) | (go_simp; rfl)); (case hp => exact (Reps.one (show Kd.M (Kd.int .u64) _ _ _ (rd t400 x40_2) [.int .u64 (rd t400 x40_2)] from rfl) (Reps.none _ _))); intro v413 w30 ho31 hb hg_ hnew_; clear hg_ hnew_; (first | rw [← Ny412.out] at ho31 | (simp only [Int.reduceToNat] at ho31; rw [← Ny412.out] at ho31)); have n0_ := Aside0.mk (Kd.S_elder' HO_10.s (Kd.R_base ho31) hb); have n1_ := Aside0.mk (Kd.R_elder' HO_38.r (Kd.R_base ho31) hb); have n2_ := Aside0.mk (Kd.R_lower (Kd.R_new' ho31 (Kd.R_lt HO_38.r)) (below_size HB.bl)); have n3_ := Aside0.mk (BK399.lk hb); have n4_ := Aside0.mk (below_step HB.bl hb); clear HO_10; clear HO_38; clear BK399; clear HB; have HO_10 := n0_; have HO_38 := n1_; have HO414 := n2_; have BK399 := n3_; have HB := n4_; clear n0_ n1_ n2_ n3_ n4_; clear hb ho31) | ((with_reducible refine gate_dst (N := 60) rfl ?_); refine Kd.R_lit (Kd.int .u64) _ 35 ?hg (N := 60) ?hd (xs := ([t411] : List Int)) (inner := [.int .u64 t411]) (ok := fun _ => True) (okp := fun _ => True) ?hr ?hp (fun _ hk => hk) trivial (Below.refl _ _) (Nat.le_refl _) (by simp) ?_; (case hd => rfl); (case hg => rfl); (case hr => first | (go_simp; done) | (go_simp; rfl)); (case hp => exact (Reps.one (show Kd.M (Kd.int .u64) _ _ _ t411 [.int .u64 t411] from rfl) (Reps.none _ _))); intro v416 w32 ho33 hb hg_ hnew_; clear hg_ hnew_; (first | rw [← Ny415.out] at ho33 | (simp only [Int.reduceToNat] at ho33; rw [← Ny415.out] at ho33)); have n0_ := Aside0.mk (Kd.S_elder' HO_10.s (Kd.R_base ho33) hb); have n1_ := Aside0.mk (Kd.R_elder' HO_38.r (Kd.R_base ho33) hb); have n2_ := Aside0.mk (Kd.R_elder' HO414.r (Kd.R_base ho33) hb); have n3_ := Aside0.mk (Kd.R_lower (Kd.R_new' (Kd.R_new' ho33 (Kd.R_lt HO_38.r)) (Kd.R_lt HO414.r)) (below_size HB.bl)); have n4_ := Aside0.mk (BK399.lk hb); have n5_ := Aside0.mk (below_step HB.bl hb); clear HO_10; clear HO_38; clear HO414; clear BK399; clear HB; have HO_10 := n0_; have HO_38 := n1_; have HO414 := n2_; have HO417 := n3_; have BK399 := n4_; have HB := n5_; clear n0_ n1_ n2_ n3_ n4_ n5_; clear hb ho33; obtain ⟨Ao34, co34, eo34⟩ := Kd.R_slice HO417.out; subst eo34; obtain ⟨Ao35, co35, eo35⟩ := Kd.R_slice HO414.out; subst eo35) | ((with_reducible refine gate_builtin (b := .append) (xs := #[.tmp 56, .tmp 62]) rfl ?_); at_builtin; refine Kd.S_append k26 (w0 := w) w.heap.size rfl (.tmp 56) (.tmp 62) 30 26 (.agg #[(.slice none 0 0), (.slice none 0 0), (.slice none 0 0)]) 72 rfl Try.underlying30 info26 rfl (by decide) (by omega) u10 x10_2 (⟨y412, y415, ([] : List Int)⟩ : S26) [.slice Ao35 y412.length co35, .slice Ao34 y415.length co34, .slice none 0 0] (fun k_ => some k_ ≠ (.slice (some ad408) t400.length co21 : Value).ownBlock) (fun k_ => some k_ = (.slice Ao35 y412.length co35 : Value).ownBlock ∨ some k_ = (.slice Ao34 y415.length co34 : Value).ownBlock) rfl rfl ?aP (fun k_ hk_ => hk_.elim (fun h_ => ((Kd.R_mono (ok' := fun k_ => ((fun k_ => some k_ ≠ (.slice (some ad408) t400.length co21 : Value).ownBlock)) k_ ∧ some k_ ≠ (u10 : Value).ownBlock) (Kd.R_apart' (HO414.out) (Kd.S_typed HO_10.out) (by decide)) (fun k_ hk => ⟨hk.1.1.2, hk.2⟩))).1 k_ h_.symm) (fun h_ => ((Kd.R_mono (ok' := fun k_ => ((fun k_ => some k_ ≠ (.slice (some ad408) t400.length co21 : Value).ownBlock)) k_ ∧ some k_ ≠ (u10 : Value).ownBlock) (Kd.R_apart' (HO417.out) (Kd.S_typed HO_10.out) (by decide)) (fun k_ hk => ⟨hk.1.1.2, hk.2⟩))).1 k_ h_.symm)) ?aF ?aO ?aB ?aS ?aL ?_; (case aP => exact k26_mkM _ _ _ (⟨y412, y415, ([] : List Int)⟩ : S26) (Kd.R_mono (Kd.R_tight rfl (Kd.R_mono (ok' := fun k_ => ((fun k_ => some k_ ≠ (.slice (some ad408) t400.length co21 : Value).ownBlock)) k_ ∧ some k_ ≠ (u10 : Value).ownBlock) (Kd.R_apart' (HO414.out) (Kd.S_typed HO_10.out) (by decide)) (fun k_ hk => ⟨hk.1.1.2, hk.2⟩))) (fun _ h_ => Or.inl h_)) (Kd.R_mono (Kd.R_tight rfl (Kd.R_mono (ok' := fun k_ => ((fun k_ => some k_ ≠ (.slice (some ad408) t400.length co21 : Value).ownBlock)) k_ ∧ some k_ ≠ (u10 : Value).ownBlock) (Kd.R_apart' (HO417.out) (Kd.S_typed HO_10.out) (by decide)) (fun k_ hk => ⟨hk.1.1.2, hk.2⟩))) (fun _ h_ => Or.inr (h_))) (Kd.R_nil _ _ _ _ _)); (case aB => exact HB.bl); (case aF => exact (fun k_ hk => Kd.fresh' (Kd.R_lt HO_38.r) k_ hk)); (case aO => exact (by (with_reducible repeat (first | apply Kd.S_alloc | apply Kd.S_drewN | apply Kd.S_drew)); exact Kd.S_mono HO_10.out (fun k_ hk => ⟨hk.1.1, fun e_ => e_.elim (fun h_ => hk.1.2 h_) (fun h_ => hk.2 h_)⟩))); (case aS => exact (below_size HB.bl)); (case aL => have := LMc28.out; omega); intro v419 w36 ho hb hg hat; rw [← Ny418.out] at ho; replace HO_38 := Aside0.mk (Kd.R_over' HO_38.r (Kd.S_typed HO_10.s) (by decide) hg); replace BK399 := Aside0.mk (blk_grown (g := gb399) (o := .cells #[.int .i64 a0_0, .int .i64 a0_1, .int .i64 a0_2, .int .i64 a0_3, .int .i64 a0_4] 23 (0, 0)) (zq29) hg (Kd.S_ne HO_10.out BK399.out (by decide))); replace HB := Aside0.mk (hb); have HO420 := Aside0.mk (ho); clear HO_10 HO414 HO417; clear ho hb hg hat))
              repeat (go_quiet (first | (go_at_call 55; (with_reducible refine (ring_Mul.calls a0_1 2 (rd l2 x40_2) t410 _ A26.out).mono ?_); rintro e w' ⟨rfl, ⟨nd, rfl⟩⟩; (try first | exact ⟨rfl, _, World.drewN_drewN _ _ _⟩ | exact ⟨rfl, _, Eq.trans (World.drewN_drewN _ _ _) (congrArg (World.drewN _) (Nat.add_assoc _ _ _))⟩)) | (go_at_call 66; (with_reducible refine (ring_Sub.calls a0_1 (rd t400 x40_2) t410 t411 _ A27.out).mono ?_); rintro e w' ⟨rfl, ⟨nd, rfl⟩⟩; (try first | exact ⟨rfl, _, World.drewN_drewN _ _ _⟩ | exact ⟨rfl, _, Eq.trans (World.drewN_drewN _ _ _) (congrArg (World.drewN _) (Nat.add_assoc _ _ _))⟩)) | ((with_reducible refine gate_dst (N := 58) rfl ?_); refine Kd.R_lit (Kd.int .u64) _ 35 ?hg (N := 58) ?hd (xs := ([rd t400 x40_2] : List Int)) (inner := [.int .u64 (rd t400 x40_2)]) (ok := fun _ => True) (okp := fun _ => True) ?hr ?hp (fun _ hk => hk) trivial (Below.refl _ _) (Nat.le_refl _) (by simp) ?_; (case hd => rfl); (case hg => rfl); (case hr => first | (go_simp; done) | (go_simp; rfl)); (case hp => exact (Reps.one (show Kd.M (Kd.int .u64) _ _ _ (rd t400 x40_2) [.int .u64 (rd t400 x40_2)] from rfl) (Reps.none _ _))); intro v413 w30 ho31 hb hg_ hnew_; clear hg_ hnew_; (first | rw [← Ny412.out] at ho31 | (simp only [Int.reduceToNat] at ho31; rw [← Ny412.out] at ho31)); have n0_ := Aside0.mk (Kd.S_elder' HO_10.s (Kd.R_base ho31) hb); have n1_ := Aside0.mk (Kd.R_elder' HO_38.r (Kd.R_base ho31) hb); have n2_ := Aside0.mk (Kd.R_lower (Kd.R_new' ho31 (Kd.R_lt HO_38.r)) (below_size HB.bl)); have n3_ := Aside0.mk (BK399.lk hb); have n4_ := Aside0.mk (below_step HB.bl hb); clear HO_10; clear HO_38; clear BK399; clear HB; have HO_10 := n0_; have HO_38 := n1_; have HO414 := n2_; have BK399 := n3_; have HB := n4_; clear n0_ n1_ n2_ n3_ n4_; clear hb ho31) | ((with_reducible refine gate_dst (N := 60) rfl ?_); refine Kd.R_lit (Kd.int .u64) _ 35 ?hg (N := 60) ?hd (xs := ([t411] : List Int)) (inner := [.int .u64 t411]) (ok := fun _ => True) (okp := fun _ => True) ?hr ?hp (fun _ hk => hk) trivial (Below.refl _ _) (Nat.le_refl _) (by simp) ?_; (case hd => rfl); (case hg => rfl); (case hr => first | (go_simp; done) | (go_simp; rfl)); (case hp => exact (Reps.one (show Kd.M (Kd.int .u64) _ _ _ t411 [.int .u64 t411] from rfl) (Reps.none _ _))); intro v416 w32 ho33 hb hg_ hnew_; clear hg_ hnew_; (first | rw [← Ny415.out] at ho33 | (simp only [Int.reduceToNat] at ho33; rw [← Ny415.out] at ho33)); have n0_ := Aside0.mk (Kd.S_elder' HO_10.s (Kd.R_base ho33) hb); have n1_ := Aside0.mk (Kd.R_elder' HO_38.r (Kd.R_base ho33) hb); have n2_ := Aside0.mk (Kd.R_elder' HO414.r (Kd.R_base ho33) hb); have n3_ := Aside0.mk (Kd.R_lower (Kd.R_new' (Kd.R_new' ho33 (Kd.R_lt HO_38.r)) (Kd.R_lt HO414.r)) (below_size HB.bl)); have n4_ := Aside0.mk (BK399.lk hb); have n5_ := Aside0.mk (below_step HB.bl hb); clear HO_10; clear HO_38; clear HO414; clear BK399; clear HB; have HO_10 := n0_; have HO_38 := n1_; have HO414 := n2_; have HO417 := n3_; have BK399 := n4_; have HB := n5_; clear n0_ n1_ n2_ n3_ n4_ n5_; clear hb ho33; obtain ⟨Ao34, co34, eo34⟩ := Kd.R_slice HO417.out; subst eo34; obtain ⟨Ao35, co35, eo35⟩ := Kd.R_slice HO414.out; subst eo35) | ((with_reducible refine gate_builtin (b := .append) (xs := #[.tmp 56, .tmp 62]) rfl ?_); at_builtin; refine Kd.S_append k26 (w0 := w) w.heap.size rfl (.tmp 56) (.tmp 62) 30 26 (.agg #[(.slice none 0 0), (.slice none 0 0), (.slice none 0 0)]) 72 rfl Try.underlying30 info26 rfl (by decide) (by omega) u10 x10_2 (⟨y412, y415, ([] : List Int)⟩ : S26) [.slice Ao35 y412.length co35, .slice Ao34 y415.length co34, .slice none 0 0] (fun k_ => some k_ ≠ (.slice (some ad408) t400.length co21 : Value).ownBlock) (fun k_ => some k_ = (.slice Ao35 y412.length co35 : Value).ownBlock ∨ some k_ = (.slice Ao34 y415.length co34 : Value).ownBlock) rfl rfl ?aP (fun k_ hk_ => hk_.elim (fun h_ => ((Kd.R_mono (ok' := fun k_ => ((fun k_ => some k_ ≠ (.slice (some ad408) t400.length co21 : Value).ownBlock)) k_ ∧ some k_ ≠ (u10 : Value).ownBlock) (Kd.R_apart' (HO414.out) (Kd.S_typed HO_10.out) (by decide)) (fun k_ hk => ⟨hk.1.1.2, hk.2⟩))).1 k_ h_.symm) (fun h_ => ((Kd.R_mono (ok' := fun k_ => ((fun k_ => some k_ ≠ (.slice (some ad408) t400.length co21 : Value).ownBlock)) k_ ∧ some k_ ≠ (u10 : Value).ownBlock) (Kd.R_apart' (HO417.out) (Kd.S_typed HO_10.out) (by decide)) (fun k_ hk => ⟨hk.1.1.2, hk.2⟩))).1 k_ h_.symm)) ?aF ?aO ?aB ?aS ?aL ?_; (case aP => exact k26_mkM _ _ _ (⟨y412, y415, ([] : List Int)⟩ : S26) (Kd.R_mono (Kd.R_tight rfl (Kd.R_mono (ok' := fun k_ => ((fun k_ => some k_ ≠ (.slice (some ad408) t400.length co21 : Value).ownBlock)) k_ ∧ some k_ ≠ (u10 : Value).ownBlock) (Kd.R_apart' (HO414.out) (Kd.S_typed HO_10.out) (by decide)) (fun k_ hk => ⟨hk.1.1.2, hk.2⟩))) (fun _ h_ => Or.inl h_)) (Kd.R_mono (Kd.R_tight rfl (Kd.R_mono (ok' := fun k_ => ((fun k_ => some k_ ≠ (.slice (some ad408) t400.length co21 : Value).ownBlock)) k_ ∧ some k_ ≠ (u10 : Value).ownBlock) (Kd.R_apart' (HO417.out) (Kd.S_typed HO_10.out) (by decide)) (fun k_ hk => ⟨hk.1.1.2, hk.2⟩))) (fun _ h_ => Or.inr (h_))) (Kd.R_nil _ _ _ _ _)); (case aB => exact HB.bl); (case aF => exact (fun k_ hk => Kd.fresh' (Kd.R_lt HO_38.r) k_ hk)); (case aO => exact (by (with_reducible repeat (first | apply Kd.S_alloc | apply Kd.S_drewN | apply Kd.S_drew)); exact Kd.S_mono HO_10.out (fun k_ hk => ⟨hk.1.1, fun e_ => e_.elim (fun h_ => hk.1.2 h_) (fun h_ => hk.2 h_)⟩))); (case aS => exact (below_size HB.bl)); (case aL => have := LMc28.out; omega); intro v419 w36 ho hb hg hat; rw [← Ny418.out] at ho; replace HO_38 := Aside0.mk (Kd.R_over' HO_38.r (Kd.S_typed HO_10.s) (by decide) hg); replace BK399 := Aside0.mk (blk_grown (g := gb399) (o := .cells #[.int .i64 a0_0, .int .i64 a0_1, .int .i64 a0_2, .int .i64 a0_3, .int .i64 a0_4] 23 (0, 0)) (zq29) hg (Kd.S_ne HO_10.out BK399.out (by decide))); replace HB := Aside0.mk (hb); have HO420 := Aside0.mk (ho); clear HO_10 HO414 HO417; clear ho hb hg hat)); try go_wp2_with (first | (go_at_call 55; (with_reducible refine (ring_Mul.calls a0_1 2 (rd l2 x40_2) t410 _ A26.out).mono ?_); rintro e w' ⟨rfl, ⟨nd, rfl⟩⟩; (try first | exact ⟨rfl, _, World.drewN_drewN _ _ _⟩ | exact ⟨rfl, _, Eq.trans (World.drewN_drewN _ _ _) (congrArg (World.drewN _) (Nat.add_assoc _ _ _))⟩)) | (go_at_call 66; (with_reducible refine (ring_Sub.calls a0_1 (rd t400 x40_2) t410 t411 _ A27.out).mono ?_); rintro e w' ⟨rfl, ⟨nd, rfl⟩⟩; (try first | exact ⟨rfl, _, World.drewN_drewN _ _ _⟩ | exact ⟨rfl, _, Eq.trans (World.drewN_drewN _ _ _) (congrArg (World.drewN _) (Nat.add_assoc _ _ _))⟩)) | ((with_reducible refine gate_dst (N := 58) rfl ?_); refine Kd.R_lit (Kd.int .u64) _ 35 ?hg (N := 58) ?hd (xs := ([rd t400 x40_2] : List Int)) (inner := [.int .u64 (rd t400 x40_2)]) (ok := fun _ => True) (okp := fun _ => True) ?hr ?hp (fun _ hk => hk) trivial (Below.refl _ _) (Nat.le_refl _) (by simp) ?_; (case hd => rfl); (case hg => rfl); (case hr => first | (go_simp; done) | (go_simp; rfl)); (case hp => exact (Reps.one (show Kd.M (Kd.int .u64) _ _ _ (rd t400 x40_2) [.int .u64 (rd t400 x40_2)] from rfl) (Reps.none _ _))); intro v413 w30 ho31 hb hg_ hnew_; clear hg_ hnew_; (first | rw [← Ny412.out] at ho31 | (simp only [Int.reduceToNat] at ho31; rw [← Ny412.out] at ho31)); have n0_ := Aside0.mk (Kd.S_elder' HO_10.s (Kd.R_base ho31) hb); have n1_ := Aside0.mk (Kd.R_elder' HO_38.r (Kd.R_base ho31) hb); have n2_ := Aside0.mk (Kd.R_lower (Kd.R_new' ho31 (Kd.R_lt HO_38.r)) (below_size HB.bl)); have n3_ := Aside0.mk (BK399.lk hb); have n4_ := Aside0.mk (below_step HB.bl hb); clear HO_10; clear HO_38; clear BK399; clear HB; have HO_10 := n0_; have HO_38 := n1_; have HO414 := n2_; have BK399 := n3_; have HB := n4_; clear n0_ n1_ n2_ n3_ n4_; clear hb ho31) | ((with_reducible refine gate_dst (N := 60) rfl ?_); refine Kd.R_lit (Kd.int .u64) _ 35 ?hg (N := 60) ?hd (xs := ([t411] : List Int)) (inner := [.int .u64 t411]) (ok := fun _ => True) (okp := fun _ => True) ?hr ?hp (fun _ hk => hk) trivial (Below.refl _ _) (Nat.le_refl _) (by simp) ?_; (case hd => rfl); (case hg => rfl); (case hr => first | (go_simp; done) | (go_simp; rfl)); (case hp => exact (Reps.one (show Kd.M (Kd.int .u64) _ _ _ t411 [.int .u64 t411] from rfl) (Reps.none _ _))); intro v416 w32 ho33 hb hg_ hnew_; clear hg_ hnew_; (first | rw [← Ny415.out] at ho33 | (simp only [Int.reduceToNat] at ho33; rw [← Ny415.out] at ho33)); have n0_ := Aside0.mk (Kd.S_elder' HO_10.s (Kd.R_base ho33) hb); have n1_ := Aside0.mk (Kd.R_elder' HO_38.r (Kd.R_base ho33) hb); have n2_ := Aside0.mk (Kd.R_elder' HO414.r (Kd.R_base ho33) hb); have n3_ := Aside0.mk (Kd.R_lower (Kd.R_new' (Kd.R_new' ho33 (Kd.R_lt HO_38.r)) (Kd.R_lt HO414.r)) (below_size HB.bl)); have n4_ := Aside0.mk (BK399.lk hb); have n5_ := Aside0.mk (below_step HB.bl hb); clear HO_10; clear HO_38; clear HO414; clear BK399; clear HB; have HO_10 := n0_; have HO_38 := n1_; have HO414 := n2_; have HO417 := n3_; have BK399 := n4_; have HB := n5_; clear n0_ n1_ n2_ n3_ n4_ n5_; clear hb ho33; obtain ⟨Ao34, co34, eo34⟩ := Kd.R_slice HO417.out; subst eo34; obtain ⟨Ao35, co35, eo35⟩ := Kd.R_slice HO414.out; subst eo35) | ((with_reducible refine gate_builtin (b := .append) (xs := #[.tmp 56, .tmp 62]) rfl ?_); at_builtin; refine Kd.S_append k26 (w0 := w) w.heap.size rfl (.tmp 56) (.tmp 62) 30 26 (.agg #[(.slice none 0 0), (.slice none 0 0), (.slice none 0 0)]) 72 rfl Try.underlying30 info26 rfl (by decide) (by omega) u10 x10_2 (⟨y412, y415, ([] : List Int)⟩ : S26) [.slice Ao35 y412.length co35, .slice Ao34 y415.length co34, .slice none 0 0] (fun k_ => some k_ ≠ (.slice (some ad408) t400.length co21 : Value).ownBlock) (fun k_ => some k_ = (.slice Ao35 y412.length co35 : Value).ownBlock ∨ some k_ = (.slice Ao34 y415.length co34 : Value).ownBlock) rfl rfl ?aP (fun k_ hk_ => hk_.elim (fun h_ => ((Kd.R_mono (ok' := fun k_ => ((fun k_ => some k_ ≠ (.slice (some ad408) t400.length co21 : Value).ownBlock)) k_ ∧ some k_ ≠ (u10 : Value).ownBlock) (Kd.R_apart' (HO414.out) (Kd.S_typed HO_10.out) (by decide)) (fun k_ hk => ⟨hk.1.1.2, hk.2⟩))).1 k_ h_.symm) (fun h_ => ((Kd.R_mono (ok' := fun k_ => ((fun k_ => some k_ ≠ (.slice (some ad408) t400.length co21 : Value).ownBlock)) k_ ∧ some k_ ≠ (u10 : Value).ownBlock) (Kd.R_apart' (HO417.out) (Kd.S_typed HO_10.out) (by decide)) (fun k_ hk => ⟨hk.1.1.2, hk.2⟩))).1 k_ h_.symm)) ?aF ?aO ?aB ?aS ?aL ?_; (case aP => exact k26_mkM _ _ _ (⟨y412, y415, ([] : List Int)⟩ : S26) (Kd.R_mono (Kd.R_tight rfl (Kd.R_mono (ok' := fun k_ => ((fun k_ => some k_ ≠ (.slice (some ad408) t400.length co21 : Value).ownBlock)) k_ ∧ some k_ ≠ (u10 : Value).ownBlock) (Kd.R_apart' (HO414.out) (Kd.S_typed HO_10.out) (by decide)) (fun k_ hk => ⟨hk.1.1.2, hk.2⟩))) (fun _ h_ => Or.inl h_)) (Kd.R_mono (Kd.R_tight rfl (Kd.R_mono (ok' := fun k_ => ((fun k_ => some k_ ≠ (.slice (some ad408) t400.length co21 : Value).ownBlock)) k_ ∧ some k_ ≠ (u10 : Value).ownBlock) (Kd.R_apart' (HO417.out) (Kd.S_typed HO_10.out) (by decide)) (fun k_ hk => ⟨hk.1.1.2, hk.2⟩))) (fun _ h_ => Or.inr (h_))) (Kd.R_nil _ _ _ _ _)); (case aB => exact HB.bl); (case aF => exact (fun k_ hk => Kd.fresh' (Kd.R_lt HO_38.r) k_ hk)); (case aO => exact (by (with_reducible repeat (first | apply Kd.S_alloc | apply Kd.S_drewN | apply Kd.S_drew)); exact Kd.S_mono HO_10.out (fun k_ hk => ⟨hk.1.1, fun e_ => e_.elim (fun h_ => hk.1.2 h_) (fun h_ => hk.2 h_)⟩))); (case aS => exact (below_size HB.bl)); (case aL => have := LMc28.out; omega); intro v419 w36 ho hb hg hat; rw [← Ny418.out] at ho; replace HO_38 := Aside0.mk (Kd.R_over' HO_38.r (Kd.S_typed HO_10.s) (by decide) hg); replace BK399 := Aside0.mk (blk_grown (g := gb399) (o := .cells #[.int .i64 a0_0, .int .i64 a0_1, .int .i64 a0_2, .int .i64 a0_3, .int .i64 a0_4] 23 (0, 0)) (zq29) hg (Kd.S_ne HO_10.out BK399.out (by decide))); replace HB := Aside0.mk (hb); have HO420 := Aside0.mk (ho); clear HO_10 HO414 HO417; clear ho hb hg hat)))
              go_roundg k2
              case measure => have := HJ5.out; have := HK2.out; omega
              case rel => exact ⟨(y418), (wrap64 (x40_2 + 1)), (zq35), H', ⟨by have := HJ5.out; have := HK2.out; omega⟩, ⟨HO420.s⟩, ⟨by (with_reducible repeat (first | apply Kd.R_alloc | apply Kd.R_drewN | apply Kd.R_drew)); exact Kd.R_mono HO_38.out (fun _ hk => trivial)⟩, ⟨zq29⟩, ⟨zq19⟩⟩
             ·rw [if_neg c28] at H
              exact absurd H (by simp)
            ·rw [if_neg c25] at H
             exact absurd H (by simp)
           ·rw [if_neg c24] at H
            exact absurd H (by simp)
          ·rw [if_neg c23] at H
           exact absurd H (by simp)
         ·rw [if_neg c22] at H
          have c22b0 : decide (x40_2 < (t400.length : Int)) = false := decide_eq_false c22
          clear c22
          simp only [Option.some.injEq, Prod.mk.injEq] at H
          obtain ⟨rfl, rfl⟩ := H
          go_wp2
          repeat (go_quiet (fail); try go_wp2)
          go_ret2
          exact ⟨_, zq30, by (with_reducible repeat (first | apply Kd.S_alloc | apply Kd.S_drewN | apply Kd.S_drew)); exact Kd.S_mono HO_10.out (fun _ hk => trivial), zq19⟩
      ·rw [if_neg c18] at H
       exact absurd H (by simp)
     ·rw [if_neg c17] at H
      exact absurd H (by simp)
 ·rw [if_neg c5] at H
  have c5b0 : (t403 == 0) = false := beq_eq_false_iff_ne.mpr c5
  have c5b1 : (t403 != 0) = true := bne_iff_ne.mpr c5
  simp only [Option.some.injEq, Prod.mk.injEq] at H
  obtain ⟨rfl, rfl⟩ := H
  go_enter Try.func28, Try.ntmps28
  go_wp2_with (first | ((with_reducible refine gate_dst (N := 3) rfl ?_); refine box_event ?hg (N := 3) ?hd (cs := #[.int .i64 a0_0, .int .i64 a0_1, .int .i64 a0_2, .int .i64 a0_3, .int .i64 a0_4]) (t := 23) ?hr ?_; (case hd => rfl); (case hg => rfl); (case hr => first | (go_simp; done) | (go_simp; rfl)); intro gb399 hg w37 hbox hb; have n0_ := Aside0.mk (below_step HB.bl hb); have n1_ := Aside0.mk (hbox); have n2_ := Aside0.mk ((zq41 : w.heap.size ≤ gb399)); have n3_ := Aside0.mk ((zq41 : w.heap.size ≤ gb399)); clear HB; have HB := n0_; have BK399 := n1_; have GW399 := n2_; have GE399 := n3_; clear n0_ n1_ n2_ n3_; clear hb hbox hg; obtain ⟨hcz38_0, hcz38_1, hcz38_2, hcz38_3, hcz38_4, hfz38_0, hfz38_1, hfz38_2, hfz38_3, hfz38_4⟩ := cells_5 BK399.out) | (go_at_call 64; (with_reducible refine (dabit_own.calls k a0_0 a0_1 a0_2 a0_3 a0_4 _ _ l1 t400 t403 _ ?side1 ?side2 A4.out).mono ?_); (case side1 => repeat (first | exact (Kd.C_below HR1.out HB.out) | (with_reducible refine Kd.C_alloc ?_ _) | (with_reducible refine Kd.C_drewN ?_ _) | (with_reducible refine Kd.C_drew ?_))); (case side2 => exact HC1.out); rintro e w39 ⟨v401, rfl, ho0, hb⟩; have HO402 := Aside0.mk (Kd.R_lower ho0 (below_size HB.bl)); replace BK399 := Aside0.mk (BK399.lk hb); replace HB := Aside0.mk (below_step HB.bl hb); (try clear hb); (try clear hb2); (try clear hk); (try clear hi); (try clear ho0)))
  repeat (go_quiet (first | ((with_reducible refine gate_dst (N := 3) rfl ?_); refine box_event ?hg (N := 3) ?hd (cs := #[.int .i64 a0_0, .int .i64 a0_1, .int .i64 a0_2, .int .i64 a0_3, .int .i64 a0_4]) (t := 23) ?hr ?_; (case hd => rfl); (case hg => rfl); (case hr => first | (go_simp; done) | (go_simp; rfl)); intro gb399 hg w37 hbox hb; have n0_ := Aside0.mk (below_step HB.bl hb); have n1_ := Aside0.mk (hbox); have n2_ := Aside0.mk ((zq41 : w.heap.size ≤ gb399)); have n3_ := Aside0.mk ((zq41 : w.heap.size ≤ gb399)); clear HB; have HB := n0_; have BK399 := n1_; have GW399 := n2_; have GE399 := n3_; clear n0_ n1_ n2_ n3_; clear hb hbox hg; obtain ⟨hcz38_0, hcz38_1, hcz38_2, hcz38_3, hcz38_4, hfz38_0, hfz38_1, hfz38_2, hfz38_3, hfz38_4⟩ := cells_5 BK399.out) | (go_at_call 64; (with_reducible refine (dabit_own.calls k a0_0 a0_1 a0_2 a0_3 a0_4 _ _ l1 t400 t403 _ ?side1 ?side2 A4.out).mono ?_); (case side1 => repeat (first | exact (Kd.C_below HR1.out HB.out) | (with_reducible refine Kd.C_alloc ?_ _) | (with_reducible refine Kd.C_drewN ?_ _) | (with_reducible refine Kd.C_drew ?_))); (case side2 => exact HC1.out); rintro e w39 ⟨v401, rfl, ho0, hb⟩; have HO402 := Aside0.mk (Kd.R_lower ho0 (below_size HB.bl)); replace BK399 := Aside0.mk (BK399.lk hb); replace HB := Aside0.mk (below_step HB.bl hb); (try clear hb); (try clear hb2); (try clear hk); (try clear hi); (try clear ho0))); try go_wp2_with (first | ((with_reducible refine gate_dst (N := 3) rfl ?_); refine box_event ?hg (N := 3) ?hd (cs := #[.int .i64 a0_0, .int .i64 a0_1, .int .i64 a0_2, .int .i64 a0_3, .int .i64 a0_4]) (t := 23) ?hr ?_; (case hd => rfl); (case hg => rfl); (case hr => first | (go_simp; done) | (go_simp; rfl)); intro gb399 hg w37 hbox hb; have n0_ := Aside0.mk (below_step HB.bl hb); have n1_ := Aside0.mk (hbox); have n2_ := Aside0.mk ((zq41 : w.heap.size ≤ gb399)); have n3_ := Aside0.mk ((zq41 : w.heap.size ≤ gb399)); clear HB; have HB := n0_; have BK399 := n1_; have GW399 := n2_; have GE399 := n3_; clear n0_ n1_ n2_ n3_; clear hb hbox hg; obtain ⟨hcz38_0, hcz38_1, hcz38_2, hcz38_3, hcz38_4, hfz38_0, hfz38_1, hfz38_2, hfz38_3, hfz38_4⟩ := cells_5 BK399.out) | (go_at_call 64; (with_reducible refine (dabit_own.calls k a0_0 a0_1 a0_2 a0_3 a0_4 _ _ l1 t400 t403 _ ?side1 ?side2 A4.out).mono ?_); (case side1 => repeat (first | exact (Kd.C_below HR1.out HB.out) | (with_reducible refine Kd.C_alloc ?_ _) | (with_reducible refine Kd.C_drewN ?_ _) | (with_reducible refine Kd.C_drew ?_))); (case side2 => exact HC1.out); rintro e w39 ⟨v401, rfl, ho0, hb⟩; have HO402 := Aside0.mk (Kd.R_lower ho0 (below_size HB.bl)); replace BK399 := Aside0.mk (BK399.lk hb); replace HB := Aside0.mk (below_step HB.bl hb); (try clear hb); (try clear hb2); (try clear hk); (try clear hi); (try clear ho0))))
  go_ret2
  exact ⟨_, zq30, by first | exact Kd.S_nil _ _ _ _ _ | exact Kd.N_nil _ _ _ _ _ | exact Kd.V_nil _ _ _ _ _ | exact Kd.Q_nil _ _ _ _ _ | exact Kd.R_nil _ _ _ _ _, zq19⟩

-- NOT PRINTED: function 6 (trefoillaw25_DabitComes)

/-! ### bits_words: function 115 -/
def bits_words.f (a0 : Int) : Option (Int) := some (wrap64 (Int.tdiv (wrap64 (a0 + 63)) 64))
set_option maxHeartbeats 8000000 in
set_option maxRecDepth 100000 in
theorem bits_words.calls (a0 : Int) (r : Int) (w : World) (h : bits_words.f a0 = some r) :
  Calls Try.prog 115 #[.int .i64 a0] w fun e w' => e = .returned (.int .i64 r) ∧ Drawn0 w w' := by
 have H : (some (wrap64 (Int.tdiv (wrap64 (a0 + 63)) 64))) = some r := h
 clear h
 obtain rfl := Option.some.inj H
 go_enter Try.func115, Try.ntmps115
 go_wp2
 go_ret
 exact ⟨zq35, zq33⟩
end Go.Proofs.Ytcmaidpoolcelaa.P
