/- Functions of the program as plain Lean functions, and proofs that the machine's calls do what these do: written by a program of this workplace (wip/tools/pp.py). -/
import Derived.Test.YtcmaidpoolcelaaSfPx0
import Derived.Test.YtcmaidpoolcelaaSfK0
import Derived.Test.YtcmaidpoolcelaaSfK1
import Derived.Test.YtcmaidpoolcelaaSfK2
import Derived.Test.YtcmaidpoolcelaaSfK3
import Derived.Test.YtcmaidpoolcelaaSfK5
import Derived.Test.YtcmaidpoolcelaaSfK6
import Derived.Test.YtcmaidpoolcelaaSfK7
import Derived.Test.YtcmaidpoolcelaaSfK8
import Derived.Test.YtcmaidpoolcelaaSfK9
import Derived.Test.YtcmaidpoolcelaaSfK10
import Derived.Test.YtcmaidpoolcelaaSfK11
import Derived.Test.YtcmaidpoolcelaaSfSh
namespace Go.Proofs.Ytcmaidpoolcelaa.P
open Go.RowKit Go.Proofs.YtcmaidpoolcelaaW.PrintWords Go.Proofs.YtcmaidpoolcelaaW.PrintLast Go.Proofs.YtcmaidpoolcelaaW.PrintMore
attribute [local go_sem] max2_int min2_int max_two min_two max_three min_three max_four min_four   -- for this text's walks alone
set_option linter.unusedVariables false
set_option linter.unusedSimpArgs false

/-! ### trefoillaw22_ScalarFinishes: function 8 -/
def trefoillaw22_ScalarFinishes.j0 : Nat → List (S26) → List Int → List Int → Bool → Int → Int → Int → Int → Int → Option (Bool)
 | 0, _, _, _, _, _, _, _, _, _ => none
 | k + 1, x1, x2, x3, x25, x737000, x737001, x737002, x737003, x737004 => if x25 = true then ((trefoillaw22_awake.f k).bind fun t738 => (some t738)) else ((scalar_Finish.f k x737000 x737001 x737002 x737003 x737004 x1 x2 x3).bind fun bt739 => ((trefoilref22_Finish.f k x737000 x737001 x737002 x737003 x737004 1 x1 x2 x3).bind fun bt743 => ((trefoilref22_Shares.f k bt739.1 bt743.1).bind fun t747 => (if t747 = true then (if bt739.2 = bt743.2 then ((trefoillaw22_awake.f k).bind fun t748 => (some t748)) else (some false)) else (some false)))))
def trefoillaw22_ScalarFinishes.f (k : Nat) (a0_0 : Int) (a0_1 : Int) (a0_2 : Int) (a0_3 : Int) (a0_4 : Int) (l1 : List (S26)) (l2 : List Int) (l3 : List Int) : Option (Bool) := (trefoillaw22_small.f k l1).bind fun t737 => (if t737 = true then (if (l2.length : Int) > 3000 then (trefoillaw22_ScalarFinishes.j0 k l1 l2 l3 true a0_0 a0_1 a0_2 a0_3 a0_4) else (trefoillaw22_ScalarFinishes.j0 k l1 l2 l3 (decide ((l3.length : Int) > 3000)) a0_0 a0_1 a0_2 a0_3 a0_4)) else (trefoillaw22_ScalarFinishes.j0 k l1 l2 l3 true a0_0 a0_1 a0_2 a0_3 a0_4))
set_option maxHeartbeats 8000000 in
set_option maxRecDepth 100000 in
theorem trefoillaw22_ScalarFinishes.calls (k : Nat) (a0_0 : Int) (a0_1 : Int) (a0_2 : Int) (a0_3 : Int) (a0_4 : Int) (A1 : Option Addr) (c1 : Nat) (l1 : List (S26)) (A2 : Option Addr) (c2 : Nat) (l2 : List Int) (A3 : Option Addr) (c3 : Nat) (l3 : List Int) (r : Bool) (w : World) (hr1 : Kd.C k26 w A1 l1.length l1) (hc1 : l1.length ≤ c1) (hr2 : Kd.C (Kd.int .u64) w A2 l2.length l2) (hc2 : l2.length ≤ c2) (hr3 : Kd.C (Kd.int .u64) w A3 l3.length l3) (hc3 : l3.length ≤ c3) (h : trefoillaw22_ScalarFinishes.f k a0_0 a0_1 a0_2 a0_3 a0_4 l1 l2 l3 = some r) :
  Calls Try.prog 8 #[.agg #[.int .i64 a0_0, .int .i64 a0_1, .int .i64 a0_2, .int .i64 a0_3, .int .i64 a0_4], .slice A1 l1.length c1, .slice A2 l2.length c2, .slice A3 l3.length c3] w fun e w' => e = .returned (.bool r) ∧ Below w.heap.size w w' := by
 have hu23 := Try.underlying23
 have HR1 := Aside0.mk hr1
 have HC1 := Aside0.mk hc1
 clear hr1 hc1
 have HR2 := Aside0.mk hr2
 have HC2 := Aside0.mk hc2
 clear hr2 hc2
 have HR3 := Aside0.mk hr3
 have HC3 := Aside0.mk hc3
 clear hr3 hc3
 have HB := Aside0.mk (Below.refl w.heap.size w)
 have H : ((trefoillaw22_small.f k l1).bind fun t737 => (if t737 = true then (if (l2.length : Int) > 3000 then (trefoillaw22_ScalarFinishes.j0 k l1 l2 l3 true a0_0 a0_1 a0_2 a0_3 a0_4) else (trefoillaw22_ScalarFinishes.j0 k l1 l2 l3 (decide ((l3.length : Int) > 3000)) a0_0 a0_1 a0_2 a0_3 a0_4)) else (trefoillaw22_ScalarFinishes.j0 k l1 l2 l3 true a0_0 a0_1 a0_2 a0_3 a0_4))) = some r := h
 clear h
 have HC5 := Aside0.mk H
 clear H
 go_enter Try.func8, Try.ntmps8
 go_upto_region 1 with (first | ((with_reducible refine gate_dst (N := 4) rfl ?_); (try (refine gate_guard (by rfl) ?_; dsimp only)); refine box_event ?hg (N := 4) ?hd (cs := #[.int .i64 a0_0, .int .i64 a0_1, .int .i64 a0_2, .int .i64 a0_3, .int .i64 a0_4]) (t := 23) ?hr ?_; (case hd => rfl); (case hg => rfl); (case hr => first | (go_simp; done) | (go_simp; rfl)); intro gb736 hg w6 hbox hb; have n0_ := Aside0.mk (below_step HB.bl hb); have n1_ := Aside0.mk (hbox); have n2_ := Aside0.mk ((zq47 : w.heap.size ≤ gb736)); have n3_ := Aside0.mk ((zq47 : w.heap.size ≤ gb736)); clear HB; have HB := n0_; have BK736 := n1_; have GW736 := n2_; have GE736 := n3_; clear n0_ n1_ n2_ n3_; clear hb hbox hg))
 (try simp only [Act.put, List.setIfInBounds_toArray, List.set_cons_zero, List.set_cons_succ])
 go_cut [25] (fun v25 wc => ∃ (kq : Nat) (x25_4 : Bool), v25 = .bool x25_4 ∧ Aside0 (trefoillaw22_ScalarFinishes.j0 kq l1 l2 l3 x25_4 a0_0 a0_1 a0_2 a0_3 a0_4 = some r) ∧ Aside0 (kq ≤ k) ∧ Aside0 (wc.heap[gb736]? = some (.cells #[.int .i64 a0_0, .int .i64 a0_1, .int .i64 a0_2, .int .i64 a0_3, .int .i64 a0_4] 23 (0, 0))) ∧ Aside0 (Below w.heap.size w wc))
 case first =>
  have H := HC5.out
  clear HC5
  replace H := Option.bind_eq_some_iff.mp H
  obtain ⟨t737, A70, H⟩ := H
  replace H : (if t737 = true then (if (l2.length : Int) > 3000 then (trefoillaw22_ScalarFinishes.j0 k l1 l2 l3 true a0_0 a0_1 a0_2 a0_3 a0_4) else (trefoillaw22_ScalarFinishes.j0 k l1 l2 l3 (decide ((l3.length : Int) > 3000)) a0_0 a0_1 a0_2 a0_3 a0_4)) else (trefoillaw22_ScalarFinishes.j0 k l1 l2 l3 true a0_0 a0_1 a0_2 a0_3 a0_4)) = some r := H
  have A7 := Aside0.mk A70
  clear A70
  by_cases c8 : t737 = true
  ·subst c8
   have H1 : (if (l2.length : Int) > 3000 then (trefoillaw22_ScalarFinishes.j0 k l1 l2 l3 true a0_0 a0_1 a0_2 a0_3 a0_4) else (trefoillaw22_ScalarFinishes.j0 k l1 l2 l3 (decide ((l3.length : Int) > 3000)) a0_0 a0_1 a0_2 a0_3 a0_4)) = some r := by rw [if_pos rfl] at H; exact H
   clear H
   have H := H1
   clear H1
   by_cases c9 : (l2.length : Int) > 3000
   ·rw [if_pos c9] at H
    have c9b0 : decide (3000 < (l2.length : Int)) = true := decide_eq_true c9
    have c9b1 : decide (3000 < l2.length) = true := decide_eq_true (by omega)
    clear c9
    (first | rw [c9b0] | (simp only [i64_w, i32_w]; rw [c9b0]) | skip)
    have H' := Aside0.mk H
    clear H
    go_wp2_with (first | ((with_reducible refine gate_callee (f := 17) rfl ?_); refine goesL_ (some 14) rfl rfl Try.func17 (zq48) rfl #[.slice A1 l1.length c1] rfl (zq26) ?_; (with_reducible refine (trefoillaw22_small.calls k _ _ l1 true _ ?side1 ?side2 A7.out).mono ?_); (case side1 => repeat (first | exact (Kd.C_below HR1.out HB.out) | (with_reducible refine Kd.C_alloc ?_ _) | (with_reducible refine Kd.C_drewN ?_ _) | (with_reducible refine Kd.C_drew ?_))); (case side2 => exact HC1.out); rintro e w' ⟨rfl, ⟨nd, rfl⟩⟩; refine ⟨_, rfl, ?_⟩))
    go_meet
    case rel => exact ⟨_, (true), (zq41), H', ⟨zq46⟩, ⟨zq34⟩, ⟨zq23⟩⟩
   ·rw [if_neg c9] at H
    have c9b0 : decide (3000 < (l2.length : Int)) = false := decide_eq_false c9
    have c9b1 : decide (3000 < l2.length) = false := decide_eq_false (by omega)
    clear c9
    (first | rw [c9b0] | (simp only [i64_w, i32_w]; rw [c9b0]) | skip)
    have H' := Aside0.mk H
    clear H
    go_wp2_with (first | ((with_reducible refine gate_callee (f := 17) rfl ?_); refine goesL_ (some 14) rfl rfl Try.func17 (zq48) rfl #[.slice A1 l1.length c1] rfl (zq26) ?_; (with_reducible refine (trefoillaw22_small.calls k _ _ l1 true _ ?side1 ?side2 A7.out).mono ?_); (case side1 => repeat (first | exact (Kd.C_below HR1.out HB.out) | (with_reducible refine Kd.C_alloc ?_ _) | (with_reducible refine Kd.C_drewN ?_ _) | (with_reducible refine Kd.C_drew ?_))); (case side2 => exact HC1.out); rintro e w' ⟨rfl, ⟨nd, rfl⟩⟩; refine ⟨_, rfl, ?_⟩))
    go_meet
    case rel => exact ⟨_, (decide ((l3.length : Int) > 3000)), (zq41), H', ⟨zq46⟩, ⟨zq34⟩, ⟨zq23⟩⟩
  ·replace c8 := Bool.eq_false_iff.mpr c8
   subst c8
   have H1 : (trefoillaw22_ScalarFinishes.j0 k l1 l2 l3 true a0_0 a0_1 a0_2 a0_3 a0_4) = some r := by rw [if_neg (show ¬ (false = true) by decide)] at H; exact H
   clear H
   have H := H1
   clear H1
   have H' := Aside0.mk H
   clear H
   go_wp2_with (first | ((with_reducible refine gate_callee (f := 17) rfl ?_); refine goesL_ (some 14) rfl rfl Try.func17 (zq48) rfl #[.slice A1 l1.length c1] rfl (zq26) ?_; (with_reducible refine (trefoillaw22_small.calls k _ _ l1 false _ ?side1 ?side2 A7.out).mono ?_); (case side1 => repeat (first | exact (Kd.C_below HR1.out HB.out) | (with_reducible refine Kd.C_alloc ?_ _) | (with_reducible refine Kd.C_drewN ?_ _) | (with_reducible refine Kd.C_drew ?_))); (case side2 => exact HC1.out); rintro e w' ⟨rfl, ⟨nd, rfl⟩⟩; refine ⟨_, rfl, ?_⟩))
   go_meet
   case rel => exact ⟨_, (true), (zq41), H', ⟨zq46⟩, ⟨zq34⟩, ⟨zq23⟩⟩
 case rest =>
  clear HC5
  try clear c1
  try clear c2
  try clear p2
  try clear c3
  try clear c8
  try clear c9
  try clear c9b0
  try clear c9b1
  obtain ⟨kq, x25_4, rfl, HA, HJ4, BK736, HB⟩ := hcut
  cases kq with
  | zero => exact absurd HA.out (by simp [trefoillaw22_ScalarFinishes.j0])
  | succ kj4 =>
   have H := HA.out
   clear HA
   simp only [trefoillaw22_ScalarFinishes.j0] at H
   by_cases c10 : x25_4 = true
   ·subst c10
    have H1 : ((trefoillaw22_awake.f kj4).bind fun t738 => (some t738)) = some r := by rw [if_pos rfl] at H; exact H
    clear H
    have H := H1
    clear H1
    replace H := Option.bind_eq_some_iff.mp H
    obtain ⟨t738, A110, H⟩ := H
    replace H : (some t738) = some r := H
    have A11 := Aside0.mk A110
    clear A110
    obtain rfl := Option.some.inj H
    go_wp2_with (first | ((with_reducible refine gate_callee (f := 18) rfl ?_); refine goesL_ (some 26) rfl rfl Try.func18 (zq48) rfl #[] rfl (zq26) ?_; (with_reducible refine (trefoillaw22_awake.calls kj4  t738 _ A11.out).mono ?_); rintro e w12 ⟨rfl, hb⟩; refine ⟨_, rfl, ?_⟩; replace BK736 := Aside0.mk (BK736.lk hb); replace HB := Aside0.mk (below_step HB.bl hb); (try clear hb); (try clear hb2); (try clear hk); (try clear hi)))
    go_ret
    exact ⟨zq38, zq23⟩
   ·replace c10 := Bool.eq_false_iff.mpr c10
    subst c10
    have H1 : ((scalar_Finish.f kj4 a0_0 a0_1 a0_2 a0_3 a0_4 l1 l2 l3).bind fun bt739 => ((trefoilref22_Finish.f kj4 a0_0 a0_1 a0_2 a0_3 a0_4 1 l1 l2 l3).bind fun bt743 => ((trefoilref22_Shares.f kj4 bt739.1 bt743.1).bind fun t747 => (if t747 = true then (if bt739.2 = bt743.2 then ((trefoillaw22_awake.f kj4).bind fun t748 => (some t748)) else (some false)) else (some false))))) = some r := by rw [if_neg (show ¬ (false = true) by decide)] at H; exact H
    clear H
    have H := H1
    clear H1
    replace H := Option.bind_eq_some_iff.mp H
    obtain ⟨⟨t739, t742⟩, A130, H⟩ := H
    replace H : ((trefoilref22_Finish.f kj4 a0_0 a0_1 a0_2 a0_3 a0_4 1 l1 l2 l3).bind fun bt743 => ((trefoilref22_Shares.f kj4 t739 bt743.1).bind fun t747 => (if t747 = true then (if t742 = bt743.2 then ((trefoillaw22_awake.f kj4).bind fun t748 => (some t748)) else (some false)) else (some false)))) = some r := H
    have A13 := Aside0.mk A130
    clear A130
    replace H := Option.bind_eq_some_iff.mp H
    obtain ⟨⟨t743, t746⟩, A140, H⟩ := H
    replace H : ((trefoilref22_Shares.f kj4 t739 t743).bind fun t747 => (if t747 = true then (if t742 = t746 then ((trefoillaw22_awake.f kj4).bind fun t748 => (some t748)) else (some false)) else (some false))) = some r := H
    have A14 := Aside0.mk A140
    clear A140
    replace H := Option.bind_eq_some_iff.mp H
    obtain ⟨t747, A150, H⟩ := H
    replace H : (if t747 = true then (if t742 = t746 then ((trefoillaw22_awake.f kj4).bind fun t748 => (some t748)) else (some false)) else (some false)) = some r := H
    have A15 := Aside0.mk A150
    clear A150
    by_cases c16 : t747 = true
    ·subst c16
     have H1 : (if t742 = t746 then ((trefoillaw22_awake.f kj4).bind fun t748 => (some t748)) else (some false)) = some r := by rw [if_pos rfl] at H; exact H
     clear H
     have H := H1
     clear H1
     by_cases c17 : t742 = t746
     ·rw [if_pos c17] at H
      have c17b0 : (t742 == t746) = true := beq_iff_eq.mpr c17
      have c17b1 : (t742 != t746) = false := bne_eq_false_iff_eq.mpr c17
      clear c17
      replace H := Option.bind_eq_some_iff.mp H
      obtain ⟨t748, A180, H⟩ := H
      replace H : (some t748) = some r := H
      have A18 := Aside0.mk A180
      clear A180
      obtain rfl := Option.some.inj H
      obtain ⟨hcz19_0, hcz19_1, hcz19_2, hcz19_3, hcz19_4, hfz19_0, hfz19_1, hfz19_2, hfz19_3, hfz19_4⟩ := cells_5 BK736.out
      go_wp2_with (first | ((with_reducible refine gate_callee (f := 38) rfl ?_); refine goesL_ (some 32) rfl rfl Try.func38 (zq48) rfl #[.agg #[.int .i64 a0_0, .int .i64 a0_1, .int .i64 a0_2, .int .i64 a0_3, .int .i64 a0_4], .slice A1 l1.length c1, .slice A2 l2.length c2, .slice A3 l3.length c3] rfl (zq26) ?_; (with_reducible refine (scalar_Finish.calls kj4 a0_0 a0_1 a0_2 a0_3 a0_4 _ _ l1 _ _ l2 _ _ l3 t739 t742 _ ?side1 ?side2 ?side3 ?side4 ?side5 ?side6 A13.out).mono ?_); (case side1 => repeat (first | exact (Kd.C_below HR1.out HB.out) | (with_reducible refine Kd.C_alloc ?_ _) | (with_reducible refine Kd.C_drewN ?_ _) | (with_reducible refine Kd.C_drew ?_))); (case side2 => exact HC1.out); (case side3 => repeat (first | exact (Kd.C_below HR2.out HB.out) | (with_reducible refine Kd.C_alloc ?_ _) | (with_reducible refine Kd.C_drewN ?_ _) | (with_reducible refine Kd.C_drew ?_))); (case side4 => exact HC2.out); (case side5 => repeat (first | exact (Kd.C_below HR3.out HB.out) | (with_reducible refine Kd.C_alloc ?_ _) | (with_reducible refine Kd.C_drewN ?_ _) | (with_reducible refine Kd.C_drew ?_))); (case side6 => exact HC3.out); rintro e w20 ⟨v740, rfl, ho0, hb⟩; refine ⟨_, rfl, ?_⟩; have HO741 := Aside0.mk (Kd.N_lower (Kd.N_mono (ok' := fun k_ => k_ ≠ gb736) (Kd.S_N (Kd.S_bound ho0)) (fun k_ hk_ => (Kd.freshB (g := gb736) (o := .cells #[.int .i64 a0_0, .int .i64 a0_1, .int .i64 a0_2, .int .i64 a0_3, .int .i64 a0_4] 23 (0, 0)) (zq34) k_ hk_.2.1))) (below_size HB.bl)); replace BK736 := Aside0.mk (BK736.lk hb); replace HB := Aside0.mk (below_step HB.bl hb); (try clear hb); (try clear hb2); (try clear hk); (try clear hi); (try clear ho0); obtain ⟨hcz21_0, hcz21_1, hcz21_2, hcz21_3, hcz21_4, hfz21_0, hfz21_1, hfz21_2, hfz21_3, hfz21_4⟩ := cells_5 BK736.out) | ((with_reducible refine gate_callee (f := 39) rfl ?_); refine goesL_ (some 40) rfl rfl Try.func39 (zq48) rfl #[.agg #[.int .i64 a0_0, .int .i64 a0_1, .int .i64 a0_2, .int .i64 a0_3, .int .i64 a0_4], .int .i64 1, .slice A1 l1.length c1, .slice A2 l2.length c2, .slice A3 l3.length c3] rfl (zq26) ?_; (with_reducible refine (trefoilref22_Finish.calls kj4 a0_0 a0_1 a0_2 a0_3 a0_4 1 (fun k_ => k_ < w.heap.size) _ _ l1 _ _ l2 _ _ l3 t743 t746 _ ?side1 ?side2 ?side3 ?side4 ?side5 A14.out).mono ?_); (case side1 => exact Kd.V_mk HC1.out (Kd.F_below (Kd.C_F k26_heap HR1.out) HB.bl)); (case side2 => repeat (first | exact (Kd.C_below HR2.out HB.out) | (with_reducible refine Kd.C_alloc ?_ _) | (with_reducible refine Kd.C_drewN ?_ _) | (with_reducible refine Kd.C_drew ?_))); (case side3 => exact HC2.out); (case side4 => repeat (first | exact (Kd.C_below HR3.out HB.out) | (with_reducible refine Kd.C_alloc ?_ _) | (with_reducible refine Kd.C_drewN ?_ _) | (with_reducible refine Kd.C_drew ?_))); (case side5 => exact HC3.out); rintro e w22 ⟨v744, rfl, ho0, hb⟩; refine ⟨_, rfl, ?_⟩; have n0_ := Aside0.mk (Kd.N_elder' HO741.n (Kd.N_base ho0) hb); have n1_ := Aside0.mk (Kd.N_lower (Kd.N_mono (ok' := fun k_ => some k_ ≠ (v740 : Value).ownBlock ∧ k_ ≠ gb736) ho0 (fun k_ hk_ => ⟨Or.elim hk_ (fun hs_ => fun e_ => Nat.not_le.2 hs_ (Kd.N_base HO741.out k_ e_.symm)) (fun hn_ => (Kd.fresh' (Kd.N_lt HO741.n) k_ hn_)), Or.elim hk_ (fun hs_ => fun e_ => Nat.not_le.2 hs_ (by rw [e_]; exact GW736.out)) (fun hn_ => (Kd.freshB (g := gb736) (o := .cells #[.int .i64 a0_0, .int .i64 a0_1, .int .i64 a0_2, .int .i64 a0_3, .int .i64 a0_4] 23 (0, 0)) (zq34) k_ hn_))⟩)) (below_size HB.bl)); have n2_ := Aside0.mk (BK736.lk hb); have n3_ := Aside0.mk (below_step HB.bl hb); clear HO741; clear BK736; clear HB; have HO741 := n0_; have HO745 := n1_; have BK736 := n2_; have HB := n3_; clear n0_ n1_ n2_ n3_; (try clear hb); (try clear hb2); (try clear hk); (try clear hi); (try clear ho0); obtain ⟨Ao23, co23, eo23⟩ := Kd.N_slice HO741.out; subst eo23; obtain ⟨Ao24, co24, eo24⟩ := Kd.N_slice HO745.out; subst eo24) | ((with_reducible refine gate_callee (f := 37) rfl ?_); refine goesL_ (some 45) rfl rfl Try.func37 (zq48) rfl #[.slice Ao23 t739.length co23, .slice Ao24 t743.length co24] rfl (zq26) ?_; (with_reducible refine (trefoilref22_Shares.calls kj4 _ _ t739 _ _ t743 true _ ?side1 ?side2 ?side3 ?side4 A15.out).mono ?_); (case side1 => repeat (first | exact (Kd.N_reads' HO741.out).2.2 | (with_reducible refine Kd.C_alloc ?_ _) | (with_reducible refine Kd.C_drewN ?_ _) | (with_reducible refine Kd.C_drew ?_))); (case side2 => exact (Kd.N_reads' HO741.out).2.1); (case side3 => repeat (first | exact (Kd.N_reads' HO745.out).2.2 | (with_reducible refine Kd.C_alloc ?_ _) | (with_reducible refine Kd.C_drewN ?_ _) | (with_reducible refine Kd.C_drew ?_))); (case side4 => exact (Kd.N_reads' HO745.out).2.1); rintro e w25 ⟨rfl, hb⟩; refine ⟨_, rfl, ?_⟩; replace HO741 := Aside0.mk (Kd.N_below HO741.n hb); replace HO745 := Aside0.mk (Kd.N_below HO745.n hb); replace BK736 := Aside0.mk (BK736.lk hb); replace HB := Aside0.mk (below_step HB.bl hb); (try clear hb); (try clear hb2); (try clear hk); (try clear hi)) | (go_at_call 18; (with_reducible refine (trefoillaw22_awake.calls kj4  t748 _ A18.out).mono ?_); rintro e w26 ⟨rfl, hb⟩; replace HO741 := Aside0.mk (Kd.N_below HO741.n hb); replace HO745 := Aside0.mk (Kd.N_below HO745.n hb); replace BK736 := Aside0.mk (BK736.lk hb); replace HB := Aside0.mk (below_step HB.bl hb); (try clear hb); (try clear hb2); (try clear hk); (try clear hi)))
      go_ret
      exact ⟨zq38, zq23⟩
     ·rw [if_neg c17] at H
      have c17b0 : (t742 == t746) = false := beq_eq_false_iff_ne.mpr c17
      have c17b1 : (t742 != t746) = true := bne_iff_ne.mpr c17
      obtain rfl := Option.some.inj H
      obtain ⟨hcz27_0, hcz27_1, hcz27_2, hcz27_3, hcz27_4, hfz27_0, hfz27_1, hfz27_2, hfz27_3, hfz27_4⟩ := cells_5 BK736.out
      go_wp2_with (first | ((with_reducible refine gate_callee (f := 38) rfl ?_); refine goesL_ (some 32) rfl rfl Try.func38 (zq48) rfl #[.agg #[.int .i64 a0_0, .int .i64 a0_1, .int .i64 a0_2, .int .i64 a0_3, .int .i64 a0_4], .slice A1 l1.length c1, .slice A2 l2.length c2, .slice A3 l3.length c3] rfl (zq26) ?_; (with_reducible refine (scalar_Finish.calls kj4 a0_0 a0_1 a0_2 a0_3 a0_4 _ _ l1 _ _ l2 _ _ l3 t739 t742 _ ?side1 ?side2 ?side3 ?side4 ?side5 ?side6 A13.out).mono ?_); (case side1 => repeat (first | exact (Kd.C_below HR1.out HB.out) | (with_reducible refine Kd.C_alloc ?_ _) | (with_reducible refine Kd.C_drewN ?_ _) | (with_reducible refine Kd.C_drew ?_))); (case side2 => exact HC1.out); (case side3 => repeat (first | exact (Kd.C_below HR2.out HB.out) | (with_reducible refine Kd.C_alloc ?_ _) | (with_reducible refine Kd.C_drewN ?_ _) | (with_reducible refine Kd.C_drew ?_))); (case side4 => exact HC2.out); (case side5 => repeat (first | exact (Kd.C_below HR3.out HB.out) | (with_reducible refine Kd.C_alloc ?_ _) | (with_reducible refine Kd.C_drewN ?_ _) | (with_reducible refine Kd.C_drew ?_))); (case side6 => exact HC3.out); rintro e w28 ⟨v740, rfl, ho0, hb⟩; refine ⟨_, rfl, ?_⟩; have HO741 := Aside0.mk (Kd.N_lower (Kd.N_mono (ok' := fun k_ => k_ ≠ gb736) (Kd.S_N (Kd.S_bound ho0)) (fun k_ hk_ => (Kd.freshB (g := gb736) (o := .cells #[.int .i64 a0_0, .int .i64 a0_1, .int .i64 a0_2, .int .i64 a0_3, .int .i64 a0_4] 23 (0, 0)) (zq34) k_ hk_.2.1))) (below_size HB.bl)); replace BK736 := Aside0.mk (BK736.lk hb); replace HB := Aside0.mk (below_step HB.bl hb); (try clear hb); (try clear hb2); (try clear hk); (try clear hi); (try clear ho0); obtain ⟨hcz29_0, hcz29_1, hcz29_2, hcz29_3, hcz29_4, hfz29_0, hfz29_1, hfz29_2, hfz29_3, hfz29_4⟩ := cells_5 BK736.out) | ((with_reducible refine gate_callee (f := 39) rfl ?_); refine goesL_ (some 40) rfl rfl Try.func39 (zq48) rfl #[.agg #[.int .i64 a0_0, .int .i64 a0_1, .int .i64 a0_2, .int .i64 a0_3, .int .i64 a0_4], .int .i64 1, .slice A1 l1.length c1, .slice A2 l2.length c2, .slice A3 l3.length c3] rfl (zq26) ?_; (with_reducible refine (trefoilref22_Finish.calls kj4 a0_0 a0_1 a0_2 a0_3 a0_4 1 (fun k_ => k_ < w.heap.size) _ _ l1 _ _ l2 _ _ l3 t743 t746 _ ?side1 ?side2 ?side3 ?side4 ?side5 A14.out).mono ?_); (case side1 => exact Kd.V_mk HC1.out (Kd.F_below (Kd.C_F k26_heap HR1.out) HB.bl)); (case side2 => repeat (first | exact (Kd.C_below HR2.out HB.out) | (with_reducible refine Kd.C_alloc ?_ _) | (with_reducible refine Kd.C_drewN ?_ _) | (with_reducible refine Kd.C_drew ?_))); (case side3 => exact HC2.out); (case side4 => repeat (first | exact (Kd.C_below HR3.out HB.out) | (with_reducible refine Kd.C_alloc ?_ _) | (with_reducible refine Kd.C_drewN ?_ _) | (with_reducible refine Kd.C_drew ?_))); (case side5 => exact HC3.out); rintro e w30 ⟨v744, rfl, ho0, hb⟩; refine ⟨_, rfl, ?_⟩; have n0_ := Aside0.mk (Kd.N_elder' HO741.n (Kd.N_base ho0) hb); have n1_ := Aside0.mk (Kd.N_lower (Kd.N_mono (ok' := fun k_ => some k_ ≠ (v740 : Value).ownBlock ∧ k_ ≠ gb736) ho0 (fun k_ hk_ => ⟨Or.elim hk_ (fun hs_ => fun e_ => Nat.not_le.2 hs_ (Kd.N_base HO741.out k_ e_.symm)) (fun hn_ => (Kd.fresh' (Kd.N_lt HO741.n) k_ hn_)), Or.elim hk_ (fun hs_ => fun e_ => Nat.not_le.2 hs_ (by rw [e_]; exact GW736.out)) (fun hn_ => (Kd.freshB (g := gb736) (o := .cells #[.int .i64 a0_0, .int .i64 a0_1, .int .i64 a0_2, .int .i64 a0_3, .int .i64 a0_4] 23 (0, 0)) (zq34) k_ hn_))⟩)) (below_size HB.bl)); have n2_ := Aside0.mk (BK736.lk hb); have n3_ := Aside0.mk (below_step HB.bl hb); clear HO741; clear BK736; clear HB; have HO741 := n0_; have HO745 := n1_; have BK736 := n2_; have HB := n3_; clear n0_ n1_ n2_ n3_; (try clear hb); (try clear hb2); (try clear hk); (try clear hi); (try clear ho0); obtain ⟨Ao31, co31, eo31⟩ := Kd.N_slice HO741.out; subst eo31; obtain ⟨Ao32, co32, eo32⟩ := Kd.N_slice HO745.out; subst eo32) | ((with_reducible refine gate_callee (f := 37) rfl ?_); refine goesL_ (some 45) rfl rfl Try.func37 (zq48) rfl #[.slice Ao31 t739.length co31, .slice Ao32 t743.length co32] rfl (zq26) ?_; (with_reducible refine (trefoilref22_Shares.calls kj4 _ _ t739 _ _ t743 true _ ?side1 ?side2 ?side3 ?side4 A15.out).mono ?_); (case side1 => repeat (first | exact (Kd.N_reads' HO741.out).2.2 | (with_reducible refine Kd.C_alloc ?_ _) | (with_reducible refine Kd.C_drewN ?_ _) | (with_reducible refine Kd.C_drew ?_))); (case side2 => exact (Kd.N_reads' HO741.out).2.1); (case side3 => repeat (first | exact (Kd.N_reads' HO745.out).2.2 | (with_reducible refine Kd.C_alloc ?_ _) | (with_reducible refine Kd.C_drewN ?_ _) | (with_reducible refine Kd.C_drew ?_))); (case side4 => exact (Kd.N_reads' HO745.out).2.1); rintro e w33 ⟨rfl, hb⟩; refine ⟨_, rfl, ?_⟩; replace HO741 := Aside0.mk (Kd.N_below HO741.n hb); replace HO745 := Aside0.mk (Kd.N_below HO745.n hb); replace BK736 := Aside0.mk (BK736.lk hb); replace HB := Aside0.mk (below_step HB.bl hb); (try clear hb); (try clear hb2); (try clear hk); (try clear hi)))
      go_ret
      exact ⟨zq38, zq23⟩
    ·replace c16 := Bool.eq_false_iff.mpr c16
     subst c16
     have H1 : (some false) = some r := by rw [if_neg (show ¬ (false = true) by decide)] at H; exact H
     clear H
     have H := H1
     clear H1
     obtain rfl := Option.some.inj H
     obtain ⟨hcz34_0, hcz34_1, hcz34_2, hcz34_3, hcz34_4, hfz34_0, hfz34_1, hfz34_2, hfz34_3, hfz34_4⟩ := cells_5 BK736.out
     go_wp2_with (first | ((with_reducible refine gate_callee (f := 38) rfl ?_); refine goesL_ (some 32) rfl rfl Try.func38 (zq48) rfl #[.agg #[.int .i64 a0_0, .int .i64 a0_1, .int .i64 a0_2, .int .i64 a0_3, .int .i64 a0_4], .slice A1 l1.length c1, .slice A2 l2.length c2, .slice A3 l3.length c3] rfl (zq26) ?_; (with_reducible refine (scalar_Finish.calls kj4 a0_0 a0_1 a0_2 a0_3 a0_4 _ _ l1 _ _ l2 _ _ l3 t739 t742 _ ?side1 ?side2 ?side3 ?side4 ?side5 ?side6 A13.out).mono ?_); (case side1 => repeat (first | exact (Kd.C_below HR1.out HB.out) | (with_reducible refine Kd.C_alloc ?_ _) | (with_reducible refine Kd.C_drewN ?_ _) | (with_reducible refine Kd.C_drew ?_))); (case side2 => exact HC1.out); (case side3 => repeat (first | exact (Kd.C_below HR2.out HB.out) | (with_reducible refine Kd.C_alloc ?_ _) | (with_reducible refine Kd.C_drewN ?_ _) | (with_reducible refine Kd.C_drew ?_))); (case side4 => exact HC2.out); (case side5 => repeat (first | exact (Kd.C_below HR3.out HB.out) | (with_reducible refine Kd.C_alloc ?_ _) | (with_reducible refine Kd.C_drewN ?_ _) | (with_reducible refine Kd.C_drew ?_))); (case side6 => exact HC3.out); rintro e w35 ⟨v740, rfl, ho0, hb⟩; refine ⟨_, rfl, ?_⟩; have HO741 := Aside0.mk (Kd.N_lower (Kd.N_mono (ok' := fun k_ => k_ ≠ gb736) (Kd.S_N (Kd.S_bound ho0)) (fun k_ hk_ => (Kd.freshB (g := gb736) (o := .cells #[.int .i64 a0_0, .int .i64 a0_1, .int .i64 a0_2, .int .i64 a0_3, .int .i64 a0_4] 23 (0, 0)) (zq34) k_ hk_.2.1))) (below_size HB.bl)); replace BK736 := Aside0.mk (BK736.lk hb); replace HB := Aside0.mk (below_step HB.bl hb); (try clear hb); (try clear hb2); (try clear hk); (try clear hi); (try clear ho0); obtain ⟨hcz36_0, hcz36_1, hcz36_2, hcz36_3, hcz36_4, hfz36_0, hfz36_1, hfz36_2, hfz36_3, hfz36_4⟩ := cells_5 BK736.out) | ((with_reducible refine gate_callee (f := 39) rfl ?_); refine goesL_ (some 40) rfl rfl Try.func39 (zq48) rfl #[.agg #[.int .i64 a0_0, .int .i64 a0_1, .int .i64 a0_2, .int .i64 a0_3, .int .i64 a0_4], .int .i64 1, .slice A1 l1.length c1, .slice A2 l2.length c2, .slice A3 l3.length c3] rfl (zq26) ?_; (with_reducible refine (trefoilref22_Finish.calls kj4 a0_0 a0_1 a0_2 a0_3 a0_4 1 (fun k_ => k_ < w.heap.size) _ _ l1 _ _ l2 _ _ l3 t743 t746 _ ?side1 ?side2 ?side3 ?side4 ?side5 A14.out).mono ?_); (case side1 => exact Kd.V_mk HC1.out (Kd.F_below (Kd.C_F k26_heap HR1.out) HB.bl)); (case side2 => repeat (first | exact (Kd.C_below HR2.out HB.out) | (with_reducible refine Kd.C_alloc ?_ _) | (with_reducible refine Kd.C_drewN ?_ _) | (with_reducible refine Kd.C_drew ?_))); (case side3 => exact HC2.out); (case side4 => repeat (first | exact (Kd.C_below HR3.out HB.out) | (with_reducible refine Kd.C_alloc ?_ _) | (with_reducible refine Kd.C_drewN ?_ _) | (with_reducible refine Kd.C_drew ?_))); (case side5 => exact HC3.out); rintro e w37 ⟨v744, rfl, ho0, hb⟩; refine ⟨_, rfl, ?_⟩; have n0_ := Aside0.mk (Kd.N_elder' HO741.n (Kd.N_base ho0) hb); have n1_ := Aside0.mk (Kd.N_lower (Kd.N_mono (ok' := fun k_ => some k_ ≠ (v740 : Value).ownBlock ∧ k_ ≠ gb736) ho0 (fun k_ hk_ => ⟨Or.elim hk_ (fun hs_ => fun e_ => Nat.not_le.2 hs_ (Kd.N_base HO741.out k_ e_.symm)) (fun hn_ => (Kd.fresh' (Kd.N_lt HO741.n) k_ hn_)), Or.elim hk_ (fun hs_ => fun e_ => Nat.not_le.2 hs_ (by rw [e_]; exact GW736.out)) (fun hn_ => (Kd.freshB (g := gb736) (o := .cells #[.int .i64 a0_0, .int .i64 a0_1, .int .i64 a0_2, .int .i64 a0_3, .int .i64 a0_4] 23 (0, 0)) (zq34) k_ hn_))⟩)) (below_size HB.bl)); have n2_ := Aside0.mk (BK736.lk hb); have n3_ := Aside0.mk (below_step HB.bl hb); clear HO741; clear BK736; clear HB; have HO741 := n0_; have HO745 := n1_; have BK736 := n2_; have HB := n3_; clear n0_ n1_ n2_ n3_; (try clear hb); (try clear hb2); (try clear hk); (try clear hi); (try clear ho0); obtain ⟨Ao38, co38, eo38⟩ := Kd.N_slice HO741.out; subst eo38; obtain ⟨Ao39, co39, eo39⟩ := Kd.N_slice HO745.out; subst eo39) | ((with_reducible refine gate_callee (f := 37) rfl ?_); refine goesL_ (some 45) rfl rfl Try.func37 (zq48) rfl #[.slice Ao38 t739.length co38, .slice Ao39 t743.length co39] rfl (zq26) ?_; (with_reducible refine (trefoilref22_Shares.calls kj4 _ _ t739 _ _ t743 false _ ?side1 ?side2 ?side3 ?side4 A15.out).mono ?_); (case side1 => repeat (first | exact (Kd.N_reads' HO741.out).2.2 | (with_reducible refine Kd.C_alloc ?_ _) | (with_reducible refine Kd.C_drewN ?_ _) | (with_reducible refine Kd.C_drew ?_))); (case side2 => exact (Kd.N_reads' HO741.out).2.1); (case side3 => repeat (first | exact (Kd.N_reads' HO745.out).2.2 | (with_reducible refine Kd.C_alloc ?_ _) | (with_reducible refine Kd.C_drewN ?_ _) | (with_reducible refine Kd.C_drew ?_))); (case side4 => exact (Kd.N_reads' HO745.out).2.1); rintro e w40 ⟨rfl, hb⟩; refine ⟨_, rfl, ?_⟩; replace HO741 := Aside0.mk (Kd.N_below HO741.n hb); replace HO745 := Aside0.mk (Kd.N_below HO745.n hb); replace BK736 := Aside0.mk (BK736.lk hb); replace HB := Aside0.mk (below_step HB.bl hb); (try clear hb); (try clear hb2); (try clear hk); (try clear hi)))
     go_ret
     exact ⟨zq38, zq23⟩
end Go.Proofs.Ytcmaidpoolcelaa.P
