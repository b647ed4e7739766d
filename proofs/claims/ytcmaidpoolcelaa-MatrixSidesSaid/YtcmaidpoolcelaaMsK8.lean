/- Functions of the program as plain Lean functions, and proofs that the machine's calls do what these do: written by a program of this workplace (wip/tools/pp.py). -/
import Derived.Test.YtcmaidpoolcelaaMsPx0
import Derived.Test.YtcmaidpoolcelaaMsK0
import Derived.Test.YtcmaidpoolcelaaMsK4
namespace Go.Proofs.Ytcmaidpoolcelaa.P
open Go.RowKit Go.Proofs.YtcmaidpoolcelaaW.PrintWords Go.Proofs.YtcmaidpoolcelaaW.PrintLast Go.Proofs.YtcmaidpoolcelaaW.PrintMore
attribute [local go_sem] max2_int min2_int max_two min_two max_three min_three max_four min_four   -- for this text's walks alone
set_option linter.unusedVariables false
set_option linter.unusedSimpArgs false

/-! ### bits_Vec_Bools: function 45 -/
def bits_Vec_Bools.l0 : Nat → List Bool → Int → Int → Int → List Int → Option (List Bool)
 | 0, _, _, _, _, _ => none
 | k + 1, x3, x9, x10, x859000, x859001 => if x10 < x9 then ((bits_Vec_Get.f x859000 x859001 x10).bind fun t862 => (if 0 ≤ x10 then (if x10 < (x3.length : Int) then (bits_Vec_Bools.l0 k (x3.set (x10 : Int).toNat t862) x9 (wrap64 (x10 + 1)) x859000 x859001) else (none)) else (none))) else (some x3)
def bits_Vec_Bools.f (k : Nat) (a0_0 : Int) (l0_1 : List Int) : Option (List Bool) := if 0 ≤ a0_0 then (if (a0_0 : Int).toNat ≤ 281474976710656 then ((some (List.replicate (a0_0 : Int).toNat false : List Bool)).bind fun y859 => (bits_Vec_Bools.l0 k y859 (y859.length : Int) 0 a0_0 l0_1)) else (none)) else (none)
theorem bits_Vec_Bools.mono_l : ∀ k, (∀ y0 y1 y2 y3 y4, LeO (bits_Vec_Bools.l0 k y0 y1 y2 y3 y4) (bits_Vec_Bools.l0 (k + 1) y0 y1 y2 y3 y4))
 | 0 => fun _ _ _ _ _ r h => by simp [bits_Vec_Bools.l0] at h
 | k + 1 => by
  have ih0 := bits_Vec_Bools.mono_l k
  ·intro y0 y1 y2 y3 y4
   unfold bits_Vec_Bools.l0
   repeat' first
   | (with_reducible exact ih0 _ _ _ _ _)
   | (with_reducible exact LeO.refl _)
   | (with_reducible exact LeO.none _)
   | (with_reducible refine LeO.ite ?_ ?_)
   | (with_reducible refine LeO.bind ?_ (fun _ => ?_))
   | exact ih0 _ _ _ _ _
   | exact LeO.none _
   | refine LeO.ite ?_ ?_
   | refine LeO.bind ?_ (fun _ => ?_)
theorem bits_Vec_Bools.mono : ∀ a0 a1 k, LeO (bits_Vec_Bools.f k a0 a1) (bits_Vec_Bools.f (k + 1) a0 a1) := by
 intro a0 a1 k
 have ih0 := bits_Vec_Bools.mono_l k
 unfold bits_Vec_Bools.f
 repeat' first
   | (with_reducible exact ih0 _ _ _ _ _)
   | (with_reducible exact LeO.refl _)
   | (with_reducible exact LeO.none _)
   | (with_reducible refine LeO.ite ?_ ?_)
   | (with_reducible refine LeO.bind ?_ (fun _ => ?_))
   | exact ih0 _ _ _ _ _
   | exact LeO.none _
   | refine LeO.ite ?_ ?_
   | refine LeO.bind ?_ (fun _ => ?_)
set_option maxHeartbeats 8000000 in
set_option maxRecDepth 100000 in
theorem bits_Vec_Bools.calls (k : Nat) (a0_0 : Int) (A0_1 : Option Addr) (c0_1 : Nat) (l0_1 : List Int) (r : List Bool) (w : World) (hr0_1 : Kd.C (Kd.int .u64) w A0_1 l0_1.length l0_1) (hc0_1 : l0_1.length ≤ c0_1) (h : bits_Vec_Bools.f k a0_0 l0_1 = some r) :
  Calls Try.prog 45 #[.agg #[.int .i64 a0_0, .slice A0_1 l0_1.length c0_1]] w fun e w' => ∃ v0_ : Value, e = .returned (v0_) ∧ Kd.R Kd.bool 4 w' w.heap.size (fun _ => True) v0_ r ∧ Below w.heap.size w w' := by
 have hu43 := Try.underlying43
 have HR0_1 := Aside0.mk hr0_1
 have HC0_1 := Aside0.mk hc0_1
 clear hr0_1 hc0_1
 have HB := Aside0.mk (Below.refl w.heap.size w)
 have H : (if 0 ≤ a0_0 then (if (a0_0 : Int).toNat ≤ 281474976710656 then ((some (List.replicate (a0_0 : Int).toNat false : List Bool)).bind fun y859 => (bits_Vec_Bools.l0 k y859 (y859.length : Int) 0 a0_0 l0_1)) else (none)) else (none)) = some r := h
 clear h
 by_cases c2 : 0 ≤ a0_0
 ·rw [if_pos c2] at H
  have c2b0 := eq_true c2
  have c2b1 : decide (0 ≤ a0_0) = true := decide_eq_true c2
  clear c2
  by_cases c3 : (a0_0 : Int).toNat ≤ 281474976710656
  ·rw [if_pos c3] at H
   have c3b0 := eq_true c3
   have c3b1 : decide ((a0_0 : Int).toNat ≤ 281474976710656) = true := decide_eq_true c3
   clear c3
   obtain ⟨y859, hy859⟩ : ∃ y_ : List Bool, y_ = (List.replicate (a0_0 : Int).toNat false) := ⟨_, rfl⟩
   replace H : (bits_Vec_Bools.l0 k y859 (y859.length : Int) 0 a0_0 l0_1) = some r := by first | (rw [hy859]; with_reducible exact H) | (have H2_ := (Option.bind_some _ _).symm.trans H; rw [hy859]; with_reducible exact H2_) | (have H2_ := (Option.bind_some _ _).symm.trans H; with_reducible exact H2_) | with_reducible exact H | (rw [hy859]; exact H) | exact H
   have Ny859 := Aside0.mk hy859
   clear hy859
   have H' := Aside0.mk H
   clear H
   go_enter Try.func45, Try.ntmps45
   go_wp2_with (first | ((with_reducible refine gate_dst (N := 1) rfl ?_); refine box_event ?hg (N := 1) ?hd (cs := #[.int .i64 a0_0, .slice A0_1 l0_1.length c0_1]) (t := 43) ?hr ?_; (case hd => rfl); (case hg => rfl); (case hr => first | (go_simp; done) | (go_simp; rfl)); intro gb858 hg w4 hbox hb; have n0_ := Aside0.mk (below_step HB.bl hb); have n1_ := Aside0.mk (hbox); have n2_ := Aside0.mk ((by rw [hg]; exact (below_size HB.bl) : w.heap.size ≤ gb858)); have n3_ := Aside0.mk ((by rw [hg]; exact (below_size HB.bl) : w.heap.size ≤ gb858)); clear HB; have HB := n0_; have BK858 := n1_; have GW858 := n2_; have GE858 := n3_; clear n0_ n1_ n2_ n3_; clear hb hbox hg; obtain ⟨hcz5_0, hcz5_1, hfz5_0, hfz5_1⟩ := cells_2 BK858.out) | ((with_reducible refine gate_dst (N := 7) rfl ?_); refine Kd.R_make Kd.bool _ 4 rfl (N := 7) rfl 32 _ _ rfl a0_0 rfl rfl Try.underlying32 (.bool false) 1 info4 rfl (by decide) (by omega) false (ok := fun _ => True) (okp := fun _ => True) rfl (fun _ hk => hk) trivial (of_decide_eq_true (by first | (with_reducible assumption) | assumption)) (Nat.le_trans (Nat.mul_le_mul_right _ (of_decide_eq_true (by first | (with_reducible assumption) | assumption) : a0_0.toNat ≤ 281474976710656)) (by omega)) (Below.refl _ _) (Nat.le_refl _) ?_; intro v860 w6 ho7 hb hg_ hnew_; clear hg_ hnew_; (first | rw [← Ny859.out] at ho7 | (simp only [Int.reduceToNat] at ho7; rw [← Ny859.out] at ho7)); have HO861 := Aside0.mk (Kd.R_lower ho7 (below_size HB.bl)); replace BK858 := Aside0.mk (BK858.lk hb); replace HB := Aside0.mk (below_step HB.bl hb); clear hb ho7; obtain ⟨Ao8, co8, eo8⟩ := Kd.R_slice HO861.out; subst eo8))
   go_loopg [10] k (fun kq v10 w' => ∃ (x3_1 : List Bool) (x10_1 : Int), v10 = .int .i64 x10_1 ∧ Aside0 (bits_Vec_Bools.l0 kq x3_1 (y859.length : Int) x10_1 a0_0 l0_1 = some r) ∧ Aside0 (kq ≤ k) ∧ Aside0 (Kd.R Kd.bool 4 w' w.heap.size (fun _ => True) (.slice Ao8 y859.length co8) x3_1) ∧ Aside0 (w'.heap[gb858]? = some (.cells #[.int .i64 a0_0, (.slice A0_1 l0_1.length c0_1)] 43 (0, 0))) ∧ Aside0 (Below w.heap.size w w'))
   case atStart => exact ⟨(y859), (0), (by first | rfl | (simp; done) | (simp [*]; done)), H', ⟨Nat.le_refl _⟩, ⟨HO861.r⟩, ⟨by (with_reducible repeat (first | refine blk_drewN ?_ _ | refine blk_drew ?_ | refine blk_alloc ?_ _)); exact BK858.out⟩, ⟨by repeat (first | (with_reducible first | exact HB.out | apply below_alloc | apply pw_below_drewN | apply below_drew1 | refine below_set ?_ GE858.out) | exact HB.out)⟩⟩
   case round =>
    clear H'
    try clear c2
    try clear c2b0
    try clear c2b1
    try clear p2
    try clear c3
    try clear c3b0
    try clear c3b1
    try clear c4
    try clear hcz5_0
    try clear hcz5_1
    try clear hfz5_0
    try clear hfz5_1
    obtain ⟨x3_1, x10_1, rfl, HA, HK1, HO_3, BK858, HB⟩ := hrel
    have hl3_1 := (Kd.R_reads' HO_3.out).1
    rw [hl3_1] at HO_3
    (try simp only [hl3_1])
    (try simp only [hl3_1] at BK858)
    cases gk with
    | zero => exact absurd HA.out (by simp [bits_Vec_Bools.l0])
    | succ k1 =>
     have H := HA.out
     clear HA
     simp only [bits_Vec_Bools.l0] at H
     by_cases c9 : x10_1 < (y859.length : Int)
     ·rw [if_pos c9] at H
      have c9b0 : decide (x10_1 < (y859.length : Int)) = true := decide_eq_true c9
      clear c9
      replace H := Option.bind_eq_some_iff.mp H
      obtain ⟨t862, A100, H⟩ := H
      replace H : (if 0 ≤ x10_1 then (if x10_1 < (x3_1.length : Int) then (bits_Vec_Bools.l0 k1 (x3_1.set (x10_1 : Int).toNat t862) (y859.length : Int) (wrap64 (x10_1 + 1)) a0_0 l0_1) else (none)) else (none)) = some r := H
      have A10 := Aside0.mk A100
      clear A100
      by_cases c11 : 0 ≤ x10_1
      ·rw [if_pos c11] at H
       have c11b0 : decide (0 ≤ x10_1) = true := decide_eq_true c11
       clear c11
       by_cases c12 : x10_1 < (x3_1.length : Int)
       ·rw [if_pos c12] at H
        have c12b0 : decide (x10_1 < (x3_1.length : Int)) = true := decide_eq_true c12
        clear c12
        obtain ⟨y863, hy863⟩ : ∃ y_ : List Bool, y_ = (x3_1.set (x10_1 : Int).toNat t862) := ⟨_, rfl⟩
        replace H : (bits_Vec_Bools.l0 k1 y863 (y859.length : Int) (wrap64 (x10_1 + 1)) a0_0 l0_1) = some r := by first | (rw [hy863]; with_reducible exact H) | (have H2_ := (Option.bind_some _ _).symm.trans H; rw [hy863]; with_reducible exact H2_) | (have H2_ := (Option.bind_some _ _).symm.trans H; with_reducible exact H2_) | with_reducible exact H | (rw [hy863]; exact H) | exact H
        have Ny863 := Aside0.mk hy863
        clear hy863
        have H' := Aside0.mk H
        clear H
        obtain ⟨hcz14_0, hcz14_1, hfz14_0, hfz14_1⟩ := cells_2 BK858.out
        go_wp2_with (first | ((with_reducible refine gate_callee (f := 36) rfl ?_); refine goesL_ (some 17) rfl rfl Try.func36 (by kernel_rfl) rfl #[.agg #[.int .i64 a0_0, .slice A0_1 l0_1.length c0_1], .int .i64 x10_1] rfl (by (try simp only [List.map_toArray, List.map_cons, List.map_nil]); first | done | rfl | (simp only [List.length_drop, List.length_take]; rfl)) ?_; (with_reducible refine (bits_Vec_Get.calls a0_0 _ _ l0_1 x10_1 t862 _ ?side1 ?side2 A10.out).mono ?_); (case side1 => repeat (first | exact (Kd.C_below HR0_1.out HB.out) | (with_reducible refine Kd.C_alloc ?_ _) | (with_reducible refine Kd.C_drewN ?_ _) | (with_reducible refine Kd.C_drew ?_))); (case side2 => exact HC0_1.out); rintro e w15 ⟨rfl, hb⟩; refine ⟨_, rfl, ?_⟩; replace HO_3 := Aside0.mk (Kd.R_below HO_3.r hb); replace BK858 := Aside0.mk (BK858.lk hb); replace HB := Aside0.mk (below_step HB.bl hb); (try clear hb); (try clear hb2); (try clear hk); (try clear hi); have p13 : 0 ≤ (x10_1 : Int) := of_decide_eq_true (by first | (with_reducible assumption) | assumption); have q13 : (x10_1 : Int) < ((x3_1.length : Int) : Int) := of_decide_eq_true (by first | (with_reducible assumption) | assumption); obtain ⟨go13, co13, eo13, gb13, gl13, cl13, HG13⟩ := Kd.R_form HO_3.out (by omega); (first | cases eo13 | (injection eo13 with ea_ en_ ec_; (first | subst ea_ | (injection ea_ with ea_; subst ea_)); subst ec_; clear en_)); have GB13 := Aside0.mk gb13; have GG13 := Aside0.mk HG13; clear gb13 gl13 HG13; obtain ⟨hx13_0, hf13_0⟩ := Kd.R_celln false HO_3.out (x10_1 : Int) p13 q13; replace p13 := eq_true p13; replace q13 := eq_true q13; obtain ⟨hy16_, hz16_⟩ := Kd.R_celln false HO_3.out (x10_1 : Int) (of_decide_eq_true (by first | (with_reducible assumption) | assumption)) (of_decide_eq_true (by first | (with_reducible assumption) | assumption)); have HP16 := Kd.R_putg HO_3.out (x10_1 : Int) t862) | ((with_reducible refine gate_store (t := 4) (p := 18) rfl ?_); refine store_event (t := 4) (p := 18) (v := ?vo_w17) (w1 := (w15.setCell ⟨go13, (x10_1 : Int).toNat, none⟩ (.bool t862))) ?hg ?ho ?hn ?hr ?_; (case ho => rfl); (case hg => rfl); (case hn => rfl); (case hr => first | (go_simp; done) | (go_simp; rfl)); intro w17 hw; have hg : w15.grownBy w17 (some go13) := (by rw [hw]; exact HP16.2); have hp_ : Kd.R Kd.bool 4 w17 w.heap.size (fun _ => True) (.slice (some ⟨go13, 0, none⟩) x3_1.length co8) y863 := (by rw [hw, Ny863.out]; exact HP16.1); clear HP16; have n0_ := Aside0.mk (hp_); have n1_ := Aside0.mk (blk_grown (g := gb858) (o := .cells #[.int .i64 a0_0, .slice A0_1 l0_1.length c0_1] 43 (0, 0)) (by (with_reducible repeat (first | refine blk_drewN ?_ _ | refine blk_drew ?_ | refine blk_alloc ?_ _)); exact BK858.out) hg (Kd.R_ne HO_3.out BK858.out (by decide))); have n2_ := Aside0.mk ((by rw [hw]; exact below_set (HB.out) GB13.out : Below w.heap.size w w17)); clear HO_3; clear BK858; clear HB; have HO_3 := n0_; have BK858 := n1_; have HB := n2_; clear n0_ n1_ n2_; clear hg hw hp_))
        (try simp only [← hl3_1])
        go_roundg k1
        case measure => have := HK1.out; omega
        case rel => exact ⟨(y863), (wrap64 (x10_1 + 1)), (by first | rfl | (simp; done) | (simp [*]; done)), H', ⟨by have := HK1.out; omega⟩, ⟨by (try simp only [hl3_1]); (with_reducible repeat (first | apply Kd.R_alloc | apply Kd.R_drewN | apply Kd.R_drew)); exact HO_3.out⟩, ⟨by (try simp only [hl3_1]); (with_reducible repeat (first | refine blk_drewN ?_ _ | refine blk_drew ?_ | refine blk_alloc ?_ _)); exact BK858.out⟩, ⟨by repeat (first | (with_reducible first | exact HB.out | apply below_alloc | apply pw_below_drewN | apply below_drew1 | refine below_set ?_ GE858.out) | exact HB.out)⟩⟩
       ·rw [if_neg c12] at H
        exact absurd H (by simp)
      ·rw [if_neg c11] at H
       exact absurd H (by simp)
     ·rw [if_neg c9] at H
      have c9b0 : decide (x10_1 < (y859.length : Int)) = false := decide_eq_false c9
      (try simp only [hl3_1] at c9b0)
      clear c9
      obtain rfl := Option.some.inj H
      go_wp2
      go_ret
      exact ⟨_, by first | rfl | (simp [errW_none, errW_some] <;> rfl) | (simp [*, errW_none, errW_some] <;> rfl), HO_3.r, by repeat (first | (with_reducible first | exact HB.out | apply below_alloc | apply pw_below_drewN | apply below_drew1 | refine below_set ?_ GE858.out) | exact HB.out)⟩
  ·rw [if_neg c3] at H
   exact absurd H (by simp)
 ·rw [if_neg c2] at H
  exact absurd H (by simp)

/-! ### matrix_check: function 109 -/
def matrix_check.f (k : Nat) (a0_0 : Int) (a0_1 : Int) (a0_2 : Int) (a0_3 : Int) (a0_4 : Int) (a1 : Int) : Option (Int) := (shape_Check.f k a0_0 a0_1 a0_2 a0_3 a0_4).bind fun t892 => (if t892 = 0 then (if a0_0 = 2 then (if a1 < 1 then (some 2) else (if a1 > 24 then (some 2) else (if (wrap64 ((wrap64 ((wrap64 (a1 * a0_2)) * a0_3)) * a0_1)) > 4096 then (some 2) else (some 0)))) else (some 15)) else (some t892))
theorem matrix_check.mono : ∀ a0 a1 a2 a3 a4 a5 k, LeO (matrix_check.f k a0 a1 a2 a3 a4 a5) (matrix_check.f (k + 1) a0 a1 a2 a3 a4 a5) := by
 intro a0 a1 a2 a3 a4 a5 k
 unfold matrix_check.f
 repeat' first
   | (with_reducible exact shape_Check.mono _ _ _ _ _ _)
   | (with_reducible exact LeO.refl _)
   | (with_reducible exact LeO.none _)
   | (with_reducible refine LeO.ite ?_ ?_)
   | (with_reducible refine LeO.bind ?_ (fun _ => ?_))
   | exact shape_Check.mono _ _ _ _ _ _
   | exact LeO.none _
   | refine LeO.ite ?_ ?_
   | refine LeO.bind ?_ (fun _ => ?_)
set_option maxHeartbeats 8000000 in
set_option maxRecDepth 100000 in
theorem matrix_check.calls (k : Nat) (a0_0 : Int) (a0_1 : Int) (a0_2 : Int) (a0_3 : Int) (a0_4 : Int) (a1 : Int) (r : Int) (w : World) (h : matrix_check.f k a0_0 a0_1 a0_2 a0_3 a0_4 a1 = some r) :
  Calls Try.prog 109 #[.agg #[.int .i64 a0_0, .int .i64 a0_1, .int .i64 a0_2, .int .i64 a0_3, .int .i64 a0_4], .int .i64 a1] w fun e w' => e = .returned (.int .i64 r) ∧ Below w.heap.size w w' := by
 have hu23 := Try.underlying23
 have HB := Aside0.mk (Below.refl w.heap.size w)
 have H : ((shape_Check.f k a0_0 a0_1 a0_2 a0_3 a0_4).bind fun t892 => (if t892 = 0 then (if a0_0 = 2 then (if a1 < 1 then (some 2) else (if a1 > 24 then (some 2) else (if (wrap64 ((wrap64 ((wrap64 (a1 * a0_2)) * a0_3)) * a0_1)) > 4096 then (some 2) else (some 0)))) else (some 15)) else (some t892))) = some r := h
 clear h
 replace H := Option.bind_eq_some_iff.mp H
 obtain ⟨t892, A30, H⟩ := H
 replace H : (if t892 = 0 then (if a0_0 = 2 then (if a1 < 1 then (some 2) else (if a1 > 24 then (some 2) else (if (wrap64 ((wrap64 ((wrap64 (a1 * a0_2)) * a0_3)) * a0_1)) > 4096 then (some 2) else (some 0)))) else (some 15)) else (some t892)) = some r := H
 have A3 := Aside0.mk A30
 clear A30
 by_cases c4 : t892 = 0
 ·rw [if_pos c4] at H
  have c4b0 : (t892 == 0) = true := beq_iff_eq.mpr c4
  have c4b1 : (t892 != 0) = false := bne_eq_false_iff_eq.mpr c4
  clear c4
  by_cases c5 : a0_0 = 2
  ·rw [if_pos c5] at H
   have c5b0 : (a0_0 == 2) = true := beq_iff_eq.mpr c5
   have c5b1 : (a0_0 != 2) = false := bne_eq_false_iff_eq.mpr c5
   clear c5
   by_cases c6 : a1 < 1
   ·rw [if_pos c6] at H
    have c6b0 : decide (a1 < 1) = true := decide_eq_true c6
    clear c6
    obtain rfl := Option.some.inj H
    go_enter Try.func109, Try.ntmps109
    go_wp2_with (first | ((with_reducible refine gate_dst (N := 2) rfl ?_); refine box_event ?hg (N := 2) ?hd (cs := #[.int .i64 a0_0, .int .i64 a0_1, .int .i64 a0_2, .int .i64 a0_3, .int .i64 a0_4]) (t := 23) ?hr ?_; (case hd => rfl); (case hg => rfl); (case hr => first | (go_simp; done) | (go_simp; rfl)); intro gb891 hg w7 hbox hb; have n0_ := Aside0.mk (below_step HB.bl hb); have n1_ := Aside0.mk (hbox); have n2_ := Aside0.mk ((by rw [hg]; exact (below_size HB.bl) : w.heap.size ≤ gb891)); have n3_ := Aside0.mk ((by rw [hg]; exact (below_size HB.bl) : w.heap.size ≤ gb891)); clear HB; have HB := n0_; have BK891 := n1_; have GW891 := n2_; have GE891 := n3_; clear n0_ n1_ n2_ n3_; clear hb hbox hg; obtain ⟨hcz8_0, hcz8_1, hcz8_2, hcz8_3, hcz8_4, hfz8_0, hfz8_1, hfz8_2, hfz8_3, hfz8_4⟩ := cells_5 BK891.out) | ((with_reducible refine gate_callee (f := 86) rfl ?_); refine goesL_ (some 7) rfl rfl Try.func86 (by kernel_rfl) rfl #[.agg #[.int .i64 a0_0, .int .i64 a0_1, .int .i64 a0_2, .int .i64 a0_3, .int .i64 a0_4]] rfl (by (try simp only [List.map_toArray, List.map_cons, List.map_nil]); first | done | rfl | (simp only [List.length_drop, List.length_take]; rfl)) ?_; (with_reducible refine (shape_Check.calls k a0_0 a0_1 a0_2 a0_3 a0_4 t892 _ A3.out).mono ?_); rintro e w9 ⟨rfl, hb⟩; refine ⟨_, rfl, ?_⟩; replace BK891 := Aside0.mk (BK891.lk hb); replace HB := Aside0.mk (below_step HB.bl hb); (try clear hb); (try clear hb2); (try clear hk); (try clear hi); obtain ⟨hcz10_0, hcz10_1, hcz10_2, hcz10_3, hcz10_4, hfz10_0, hfz10_1, hfz10_2, hfz10_3, hfz10_4⟩ := cells_5 BK891.out))
    go_ret
    exact ⟨by first | rfl | (simp [errW_none, errW_some] <;> rfl) | (simp [*, errW_none, errW_some] <;> rfl), by repeat (first | (with_reducible first | exact HB.out | apply below_alloc | apply pw_below_drewN | apply below_drew1 | refine below_set ?_ GE891.out) | exact HB.out)⟩
   ·rw [if_neg c6] at H
    have c6b0 : decide (a1 < 1) = false := decide_eq_false c6
    clear c6
    by_cases c11 : a1 > 24
    ·rw [if_pos c11] at H
     have c11b0 : decide (24 < a1) = true := decide_eq_true c11
     clear c11
     obtain rfl := Option.some.inj H
     go_enter Try.func109, Try.ntmps109
     go_wp2_with (first | ((with_reducible refine gate_dst (N := 2) rfl ?_); refine box_event ?hg (N := 2) ?hd (cs := #[.int .i64 a0_0, .int .i64 a0_1, .int .i64 a0_2, .int .i64 a0_3, .int .i64 a0_4]) (t := 23) ?hr ?_; (case hd => rfl); (case hg => rfl); (case hr => first | (go_simp; done) | (go_simp; rfl)); intro gb891 hg w12 hbox hb; have n0_ := Aside0.mk (below_step HB.bl hb); have n1_ := Aside0.mk (hbox); have n2_ := Aside0.mk ((by rw [hg]; exact (below_size HB.bl) : w.heap.size ≤ gb891)); have n3_ := Aside0.mk ((by rw [hg]; exact (below_size HB.bl) : w.heap.size ≤ gb891)); clear HB; have HB := n0_; have BK891 := n1_; have GW891 := n2_; have GE891 := n3_; clear n0_ n1_ n2_ n3_; clear hb hbox hg; obtain ⟨hcz13_0, hcz13_1, hcz13_2, hcz13_3, hcz13_4, hfz13_0, hfz13_1, hfz13_2, hfz13_3, hfz13_4⟩ := cells_5 BK891.out) | ((with_reducible refine gate_callee (f := 86) rfl ?_); refine goesL_ (some 7) rfl rfl Try.func86 (by kernel_rfl) rfl #[.agg #[.int .i64 a0_0, .int .i64 a0_1, .int .i64 a0_2, .int .i64 a0_3, .int .i64 a0_4]] rfl (by (try simp only [List.map_toArray, List.map_cons, List.map_nil]); first | done | rfl | (simp only [List.length_drop, List.length_take]; rfl)) ?_; (with_reducible refine (shape_Check.calls k a0_0 a0_1 a0_2 a0_3 a0_4 t892 _ A3.out).mono ?_); rintro e w14 ⟨rfl, hb⟩; refine ⟨_, rfl, ?_⟩; replace BK891 := Aside0.mk (BK891.lk hb); replace HB := Aside0.mk (below_step HB.bl hb); (try clear hb); (try clear hb2); (try clear hk); (try clear hi); obtain ⟨hcz15_0, hcz15_1, hcz15_2, hcz15_3, hcz15_4, hfz15_0, hfz15_1, hfz15_2, hfz15_3, hfz15_4⟩ := cells_5 BK891.out))
     go_ret
     exact ⟨by first | rfl | (simp [errW_none, errW_some] <;> rfl) | (simp [*, errW_none, errW_some] <;> rfl), by repeat (first | (with_reducible first | exact HB.out | apply below_alloc | apply pw_below_drewN | apply below_drew1 | refine below_set ?_ GE891.out) | exact HB.out)⟩
    ·rw [if_neg c11] at H
     have c11b0 : decide (24 < a1) = false := decide_eq_false c11
     clear c11
     by_cases c16 : (wrap64 ((wrap64 ((wrap64 (a1 * a0_2)) * a0_3)) * a0_1)) > 4096
     ·rw [if_pos c16] at H
      have c16b0 : decide (4096 < (wrap64 ((wrap64 ((wrap64 (a1 * a0_2)) * a0_3)) * a0_1))) = true := decide_eq_true c16
      clear c16
      obtain rfl := Option.some.inj H
      go_enter Try.func109, Try.ntmps109
      go_wp2_with (first | ((with_reducible refine gate_dst (N := 2) rfl ?_); refine box_event ?hg (N := 2) ?hd (cs := #[.int .i64 a0_0, .int .i64 a0_1, .int .i64 a0_2, .int .i64 a0_3, .int .i64 a0_4]) (t := 23) ?hr ?_; (case hd => rfl); (case hg => rfl); (case hr => first | (go_simp; done) | (go_simp; rfl)); intro gb891 hg w17 hbox hb; have n0_ := Aside0.mk (below_step HB.bl hb); have n1_ := Aside0.mk (hbox); have n2_ := Aside0.mk ((by rw [hg]; exact (below_size HB.bl) : w.heap.size ≤ gb891)); have n3_ := Aside0.mk ((by rw [hg]; exact (below_size HB.bl) : w.heap.size ≤ gb891)); clear HB; have HB := n0_; have BK891 := n1_; have GW891 := n2_; have GE891 := n3_; clear n0_ n1_ n2_ n3_; clear hb hbox hg; obtain ⟨hcz18_0, hcz18_1, hcz18_2, hcz18_3, hcz18_4, hfz18_0, hfz18_1, hfz18_2, hfz18_3, hfz18_4⟩ := cells_5 BK891.out) | ((with_reducible refine gate_callee (f := 86) rfl ?_); refine goesL_ (some 7) rfl rfl Try.func86 (by kernel_rfl) rfl #[.agg #[.int .i64 a0_0, .int .i64 a0_1, .int .i64 a0_2, .int .i64 a0_3, .int .i64 a0_4]] rfl (by (try simp only [List.map_toArray, List.map_cons, List.map_nil]); first | done | rfl | (simp only [List.length_drop, List.length_take]; rfl)) ?_; (with_reducible refine (shape_Check.calls k a0_0 a0_1 a0_2 a0_3 a0_4 t892 _ A3.out).mono ?_); rintro e w19 ⟨rfl, hb⟩; refine ⟨_, rfl, ?_⟩; replace BK891 := Aside0.mk (BK891.lk hb); replace HB := Aside0.mk (below_step HB.bl hb); (try clear hb); (try clear hb2); (try clear hk); (try clear hi); obtain ⟨hcz20_0, hcz20_1, hcz20_2, hcz20_3, hcz20_4, hfz20_0, hfz20_1, hfz20_2, hfz20_3, hfz20_4⟩ := cells_5 BK891.out))
      go_ret
      exact ⟨by first | rfl | (simp [errW_none, errW_some] <;> rfl) | (simp [*, errW_none, errW_some] <;> rfl), by repeat (first | (with_reducible first | exact HB.out | apply below_alloc | apply pw_below_drewN | apply below_drew1 | refine below_set ?_ GE891.out) | exact HB.out)⟩
     ·rw [if_neg c16] at H
      have c16b0 : decide (4096 < (wrap64 ((wrap64 ((wrap64 (a1 * a0_2)) * a0_3)) * a0_1))) = false := decide_eq_false c16
      clear c16
      obtain rfl := Option.some.inj H
      go_enter Try.func109, Try.ntmps109
      go_wp2_with (first | ((with_reducible refine gate_dst (N := 2) rfl ?_); refine box_event ?hg (N := 2) ?hd (cs := #[.int .i64 a0_0, .int .i64 a0_1, .int .i64 a0_2, .int .i64 a0_3, .int .i64 a0_4]) (t := 23) ?hr ?_; (case hd => rfl); (case hg => rfl); (case hr => first | (go_simp; done) | (go_simp; rfl)); intro gb891 hg w21 hbox hb; have n0_ := Aside0.mk (below_step HB.bl hb); have n1_ := Aside0.mk (hbox); have n2_ := Aside0.mk ((by rw [hg]; exact (below_size HB.bl) : w.heap.size ≤ gb891)); have n3_ := Aside0.mk ((by rw [hg]; exact (below_size HB.bl) : w.heap.size ≤ gb891)); clear HB; have HB := n0_; have BK891 := n1_; have GW891 := n2_; have GE891 := n3_; clear n0_ n1_ n2_ n3_; clear hb hbox hg; obtain ⟨hcz22_0, hcz22_1, hcz22_2, hcz22_3, hcz22_4, hfz22_0, hfz22_1, hfz22_2, hfz22_3, hfz22_4⟩ := cells_5 BK891.out) | ((with_reducible refine gate_callee (f := 86) rfl ?_); refine goesL_ (some 7) rfl rfl Try.func86 (by kernel_rfl) rfl #[.agg #[.int .i64 a0_0, .int .i64 a0_1, .int .i64 a0_2, .int .i64 a0_3, .int .i64 a0_4]] rfl (by (try simp only [List.map_toArray, List.map_cons, List.map_nil]); first | done | rfl | (simp only [List.length_drop, List.length_take]; rfl)) ?_; (with_reducible refine (shape_Check.calls k a0_0 a0_1 a0_2 a0_3 a0_4 t892 _ A3.out).mono ?_); rintro e w23 ⟨rfl, hb⟩; refine ⟨_, rfl, ?_⟩; replace BK891 := Aside0.mk (BK891.lk hb); replace HB := Aside0.mk (below_step HB.bl hb); (try clear hb); (try clear hb2); (try clear hk); (try clear hi); obtain ⟨hcz24_0, hcz24_1, hcz24_2, hcz24_3, hcz24_4, hfz24_0, hfz24_1, hfz24_2, hfz24_3, hfz24_4⟩ := cells_5 BK891.out))
      go_ret
      exact ⟨by first | rfl | (simp [errW_none, errW_some] <;> rfl) | (simp [*, errW_none, errW_some] <;> rfl), by repeat (first | (with_reducible first | exact HB.out | apply below_alloc | apply pw_below_drewN | apply below_drew1 | refine below_set ?_ GE891.out) | exact HB.out)⟩
  ·rw [if_neg c5] at H
   have c5b0 : (a0_0 == 2) = false := beq_eq_false_iff_ne.mpr c5
   have c5b1 : (a0_0 != 2) = true := bne_iff_ne.mpr c5
   obtain rfl := Option.some.inj H
   go_enter Try.func109, Try.ntmps109
   go_wp2_with (first | ((with_reducible refine gate_dst (N := 2) rfl ?_); refine box_event ?hg (N := 2) ?hd (cs := #[.int .i64 a0_0, .int .i64 a0_1, .int .i64 a0_2, .int .i64 a0_3, .int .i64 a0_4]) (t := 23) ?hr ?_; (case hd => rfl); (case hg => rfl); (case hr => first | (go_simp; done) | (go_simp; rfl)); intro gb891 hg w25 hbox hb; have n0_ := Aside0.mk (below_step HB.bl hb); have n1_ := Aside0.mk (hbox); have n2_ := Aside0.mk ((by rw [hg]; exact (below_size HB.bl) : w.heap.size ≤ gb891)); have n3_ := Aside0.mk ((by rw [hg]; exact (below_size HB.bl) : w.heap.size ≤ gb891)); clear HB; have HB := n0_; have BK891 := n1_; have GW891 := n2_; have GE891 := n3_; clear n0_ n1_ n2_ n3_; clear hb hbox hg; obtain ⟨hcz26_0, hcz26_1, hcz26_2, hcz26_3, hcz26_4, hfz26_0, hfz26_1, hfz26_2, hfz26_3, hfz26_4⟩ := cells_5 BK891.out) | ((with_reducible refine gate_callee (f := 86) rfl ?_); refine goesL_ (some 7) rfl rfl Try.func86 (by kernel_rfl) rfl #[.agg #[.int .i64 a0_0, .int .i64 a0_1, .int .i64 a0_2, .int .i64 a0_3, .int .i64 a0_4]] rfl (by (try simp only [List.map_toArray, List.map_cons, List.map_nil]); first | done | rfl | (simp only [List.length_drop, List.length_take]; rfl)) ?_; (with_reducible refine (shape_Check.calls k a0_0 a0_1 a0_2 a0_3 a0_4 t892 _ A3.out).mono ?_); rintro e w27 ⟨rfl, hb⟩; refine ⟨_, rfl, ?_⟩; replace BK891 := Aside0.mk (BK891.lk hb); replace HB := Aside0.mk (below_step HB.bl hb); (try clear hb); (try clear hb2); (try clear hk); (try clear hi); obtain ⟨hcz28_0, hcz28_1, hcz28_2, hcz28_3, hcz28_4, hfz28_0, hfz28_1, hfz28_2, hfz28_3, hfz28_4⟩ := cells_5 BK891.out))
   go_ret
   exact ⟨by first | rfl | (simp [errW_none, errW_some] <;> rfl) | (simp [*, errW_none, errW_some] <;> rfl), by repeat (first | (with_reducible first | exact HB.out | apply below_alloc | apply pw_below_drewN | apply below_drew1 | refine below_set ?_ GE891.out) | exact HB.out)⟩
 ·rw [if_neg c4] at H
  have c4b0 : (t892 == 0) = false := beq_eq_false_iff_ne.mpr c4
  have c4b1 : (t892 != 0) = true := bne_iff_ne.mpr c4
  obtain rfl := Option.some.inj H
  go_enter Try.func109, Try.ntmps109
  go_wp2_with (first | ((with_reducible refine gate_dst (N := 2) rfl ?_); refine box_event ?hg (N := 2) ?hd (cs := #[.int .i64 a0_0, .int .i64 a0_1, .int .i64 a0_2, .int .i64 a0_3, .int .i64 a0_4]) (t := 23) ?hr ?_; (case hd => rfl); (case hg => rfl); (case hr => first | (go_simp; done) | (go_simp; rfl)); intro gb891 hg w29 hbox hb; have n0_ := Aside0.mk (below_step HB.bl hb); have n1_ := Aside0.mk (hbox); have n2_ := Aside0.mk ((by rw [hg]; exact (below_size HB.bl) : w.heap.size ≤ gb891)); have n3_ := Aside0.mk ((by rw [hg]; exact (below_size HB.bl) : w.heap.size ≤ gb891)); clear HB; have HB := n0_; have BK891 := n1_; have GW891 := n2_; have GE891 := n3_; clear n0_ n1_ n2_ n3_; clear hb hbox hg; obtain ⟨hcz30_0, hcz30_1, hcz30_2, hcz30_3, hcz30_4, hfz30_0, hfz30_1, hfz30_2, hfz30_3, hfz30_4⟩ := cells_5 BK891.out) | ((with_reducible refine gate_callee (f := 86) rfl ?_); refine goesL_ (some 7) rfl rfl Try.func86 (by kernel_rfl) rfl #[.agg #[.int .i64 a0_0, .int .i64 a0_1, .int .i64 a0_2, .int .i64 a0_3, .int .i64 a0_4]] rfl (by (try simp only [List.map_toArray, List.map_cons, List.map_nil]); first | done | rfl | (simp only [List.length_drop, List.length_take]; rfl)) ?_; (with_reducible refine (shape_Check.calls k a0_0 a0_1 a0_2 a0_3 a0_4 t892 _ A3.out).mono ?_); rintro e w31 ⟨rfl, hb⟩; refine ⟨_, rfl, ?_⟩; replace BK891 := Aside0.mk (BK891.lk hb); replace HB := Aside0.mk (below_step HB.bl hb); (try clear hb); (try clear hb2); (try clear hk); (try clear hi)))
  go_ret
  exact ⟨by first | rfl | (simp [errW_none, errW_some] <;> rfl) | (simp [*, errW_none, errW_some] <;> rfl), by repeat (first | (with_reducible first | exact HB.out | apply below_alloc | apply pw_below_drewN | apply below_drew1 | refine below_set ?_ GE891.out) | exact HB.out)⟩
/-! ### matrix_wrong: function 79 -/
def matrix_wrong.l0 : Nat → List (S26) → Int → Int → Int → Int → Int → Int → Int → Option (Int)
 | 0, _, _, _, _, _, _, _, _ => none
 | k + 1, x15, x16, x17, x894000, x894001, x894002, x894003, x894004 => if x17 < x16 then (if 0 ≤ x17 then (if x17 < (x15.length : Int) then (if (((rd_T26 x15 x17).f0).length : Int) = (wrap64 (x894002 * x894003)) then (if (((rd_T26 x15 x17).f1).length : Int) = (wrap64 (x894003 * x894004)) then ((ring_Fits.f x894001 ((rd_T26 x15 x17).f0)).bind fun t897 => (if t897 = true then ((ring_Fits.f x894001 ((rd_T26 x15 x17).f1)).bind fun t898 => (if t898 = true then (matrix_wrong.l0 k x15 x16 (wrap64 (x17 + 1)) x894000 x894001 x894002 x894003 x894004) else (some 11))) else (some 11))) else (some 11)) else (some 11)) else (none)) else (none)) else (some 0)
def matrix_wrong.f (k : Nat) (a0_0 : Int) (a0_1 : Int) (a0_2 : Int) (a0_3 : Int) (a0_4 : Int) (l1 : List (S26)) : Option (Int) := (matrix_check.f k a0_0 a0_1 a0_2 a0_3 a0_4 (l1.length : Int)).bind fun t894 => (if t894 = 0 then (matrix_wrong.l0 k l1 (l1.length : Int) 0 a0_0 a0_1 a0_2 a0_3 a0_4) else (some t894))
theorem matrix_wrong.mono_l : ∀ k, (∀ y0 y1 y2 y3 y4 y5 y6 y7, LeO (matrix_wrong.l0 k y0 y1 y2 y3 y4 y5 y6 y7) (matrix_wrong.l0 (k + 1) y0 y1 y2 y3 y4 y5 y6 y7))
 | 0 => fun _ _ _ _ _ _ _ _ r h => by simp [matrix_wrong.l0] at h
 | k + 1 => by
  have ih0 := matrix_wrong.mono_l k
  ·intro y0 y1 y2 y3 y4 y5 y6 y7
   unfold matrix_wrong.l0
   repeat' first
   | (with_reducible exact ih0 _ _ _ _ _ _ _ _)
   | (with_reducible exact matrix_check.mono _ _ _ _ _ _ _)
   | (with_reducible exact LeO.refl _)
   | (with_reducible exact LeO.none _)
   | (with_reducible refine LeO.ite ?_ ?_)
   | (with_reducible refine LeO.bind ?_ (fun _ => ?_))
   | exact ih0 _ _ _ _ _ _ _ _
   | exact matrix_check.mono _ _ _ _ _ _ _
   | exact LeO.none _
   | refine LeO.ite ?_ ?_
   | refine LeO.bind ?_ (fun _ => ?_)
theorem matrix_wrong.mono : ∀ a0 a1 a2 a3 a4 a5 k, LeO (matrix_wrong.f k a0 a1 a2 a3 a4 a5) (matrix_wrong.f (k + 1) a0 a1 a2 a3 a4 a5) := by
 intro a0 a1 a2 a3 a4 a5 k
 have ih0 := matrix_wrong.mono_l k
 unfold matrix_wrong.f
 repeat' first
   | (with_reducible exact ih0 _ _ _ _ _ _ _ _)
   | (with_reducible exact matrix_check.mono _ _ _ _ _ _ _)
   | (with_reducible exact LeO.refl _)
   | (with_reducible exact LeO.none _)
   | (with_reducible refine LeO.ite ?_ ?_)
   | (with_reducible refine LeO.bind ?_ (fun _ => ?_))
   | exact ih0 _ _ _ _ _ _ _ _
   | exact matrix_check.mono _ _ _ _ _ _ _
   | exact LeO.none _
   | refine LeO.ite ?_ ?_
   | refine LeO.bind ?_ (fun _ => ?_)
set_option maxHeartbeats 8000000 in
set_option maxRecDepth 100000 in
theorem matrix_wrong.calls (k : Nat) (a0_0 : Int) (a0_1 : Int) (a0_2 : Int) (a0_3 : Int) (a0_4 : Int) (A1 : Option Addr) (c1 : Nat) (l1 : List (S26)) (r : Int) (w : World) (hr1 : Kd.C k26 w A1 l1.length l1) (hc1 : l1.length ≤ c1) (h : matrix_wrong.f k a0_0 a0_1 a0_2 a0_3 a0_4 l1 = some r) :
  Calls Try.prog 79 #[.agg #[.int .i64 a0_0, .int .i64 a0_1, .int .i64 a0_2, .int .i64 a0_3, .int .i64 a0_4], .slice A1 l1.length c1] w fun e w' => e = .returned (.int .i64 r) ∧ Below w.heap.size w w' := by
 have hu23 := Try.underlying23
 have hu26 := Try.underlying26
 have HR1 := Aside0.mk hr1
 have HC1 := Aside0.mk hc1
 clear hr1 hc1
 have HB := Aside0.mk (Below.refl w.heap.size w)
 have H : ((matrix_check.f k a0_0 a0_1 a0_2 a0_3 a0_4 (l1.length : Int)).bind fun t894 => (if t894 = 0 then (matrix_wrong.l0 k l1 (l1.length : Int) 0 a0_0 a0_1 a0_2 a0_3 a0_4) else (some t894))) = some r := h
 clear h
 replace H := Option.bind_eq_some_iff.mp H
 obtain ⟨t894, A30, H⟩ := H
 replace H : (if t894 = 0 then (matrix_wrong.l0 k l1 (l1.length : Int) 0 a0_0 a0_1 a0_2 a0_3 a0_4) else (some t894)) = some r := H
 have A3 := Aside0.mk A30
 clear A30
 by_cases c4 : t894 = 0
 ·rw [if_pos c4] at H
  have c4b0 : (t894 == 0) = true := beq_iff_eq.mpr c4
  have c4b1 : (t894 != 0) = false := bne_eq_false_iff_eq.mpr c4
  clear c4
  have H' := Aside0.mk H
  clear H
  go_enter Try.func79, Try.ntmps79
  go_wp2_with (first | ((with_reducible refine gate_dst (N := 2) rfl ?_); (try (refine gate_guard (by rfl) ?_; dsimp only)); refine box_event ?hg (N := 2) ?hd (cs := #[.int .i64 a0_0, .int .i64 a0_1, .int .i64 a0_2, .int .i64 a0_3, .int .i64 a0_4]) (t := 23) ?hr ?_; (case hd => rfl); (case hg => rfl); (case hr => first | (go_simp; done) | (go_simp; rfl)); intro gb893 hg w5 hbox hb; have n0_ := Aside0.mk (below_step (by repeat (first | (with_reducible first | exact HB.out | apply below_alloc | apply pw_below_drewN | apply below_drew1) | exact HB.out)) hb); have n1_ := Aside0.mk (hbox); have n2_ := Aside0.mk ((by rw [hg]; exact (below_size (by repeat (first | (with_reducible first | exact HB.out | apply below_alloc | apply pw_below_drewN | apply below_drew1) | exact HB.out))) : w.heap.size ≤ gb893)); have n3_ := Aside0.mk ((by rw [hg]; exact (below_size (by repeat (first | (with_reducible first | exact HB.out | apply below_alloc | apply pw_below_drewN | apply below_drew1) | exact HB.out))) : w.heap.size ≤ gb893)); clear HB; have HB := n0_; have BK893 := n1_; have GW893 := n2_; have GE893 := n3_; clear n0_ n1_ n2_ n3_; clear hb hbox hg; have hcz6_0 : w5.cell? ⟨gb893, 0, none⟩ = some (.int .i64 a0_0) := (blk_cell BK893.out 0).trans rfl; have hcz6_1 : w5.cell? ⟨gb893, 1, none⟩ = some (.int .i64 a0_1) := (blk_cell BK893.out 1).trans rfl; have hcz6_2 : w5.cell? ⟨gb893, 2, none⟩ = some (.int .i64 a0_2) := (blk_cell BK893.out 2).trans rfl; have hcz6_3 : w5.cell? ⟨gb893, 3, none⟩ = some (.int .i64 a0_3) := (blk_cell BK893.out 3).trans rfl; have hcz6_4 : w5.cell? ⟨gb893, 4, none⟩ = some (.int .i64 a0_4) := (blk_cell BK893.out 4).trans rfl; have hfz6_0 := blk_frozen BK893.out 0; have hfz6_1 := blk_frozen BK893.out 1; have hfz6_2 := blk_frozen BK893.out 2; have hfz6_3 := blk_frozen BK893.out 3; have hfz6_4 := blk_frozen BK893.out 4) | ((with_reducible refine gate_callee (f := 109) rfl ?_); refine goesL_ (some 11) rfl rfl Try.func109 (by kernel_rfl) rfl #[.agg #[.int .i64 a0_0, .int .i64 a0_1, .int .i64 a0_2, .int .i64 a0_3, .int .i64 a0_4], .int .i64 (l1.length : Int)] rfl (by (try simp only [List.map_toArray, List.map_cons, List.map_nil]); first | done | rfl | (simp only [List.length_drop, List.length_take]; rfl)) ?_; (with_reducible refine (matrix_check.calls k a0_0 a0_1 a0_2 a0_3 a0_4 (l1.length : Int) t894 _ A3.out).mono ?_); rintro e w7 ⟨rfl, hb⟩; refine ⟨_, rfl, ?_⟩; have n0_ := Aside0.mk (blk_below (g := gb893) (o := .cells #[.int .i64 a0_0, .int .i64 a0_1, .int .i64 a0_2, .int .i64 a0_3, .int .i64 a0_4] 23 (0, 0)) (by (with_reducible repeat (first | refine blk_drewN ?_ _ | refine blk_drew ?_ | refine blk_alloc ?_ _)); exact BK893.out) hb); have n1_ := Aside0.mk (below_step (by repeat (first | (with_reducible first | exact HB.out | apply below_alloc | apply pw_below_drewN | apply below_drew1 | refine below_set ?_ GE893.out) | exact HB.out)) hb); clear BK893; clear HB; have BK893 := n0_; have HB := n1_; clear n0_ n1_; (try clear hb); (try clear hb2); (try clear hk); (try clear hi)))
  go_loopg [17] k (fun kq v17 w' => ∃ (x17_1 : Int), v17 = .int .i64 x17_1 ∧ Aside0 (matrix_wrong.l0 kq l1 (l1.length : Int) x17_1 a0_0 a0_1 a0_2 a0_3 a0_4 = some r) ∧ Aside0 (kq ≤ k) ∧ Aside0 (w'.heap[gb893]? = some (.cells #[.int .i64 a0_0, .int .i64 a0_1, .int .i64 a0_2, .int .i64 a0_3, .int .i64 a0_4] 23 (0, 0))) ∧ Aside0 (Below w.heap.size w w'))
  case atStart => exact ⟨(0), (by first | rfl | (simp; done) | (simp [*]; done)), H', ⟨Nat.le_refl _⟩, ⟨by (with_reducible repeat (first | refine blk_drewN ?_ _ | refine blk_drew ?_ | refine blk_alloc ?_ _)); exact BK893.out⟩, ⟨by repeat (first | (with_reducible first | exact HB.out | apply below_alloc | apply pw_below_drewN | apply below_drew1 | refine below_set ?_ GE893.out) | exact HB.out)⟩⟩
  case round =>
   clear H'
   try clear c1
   try clear p2
   try clear c4
   try clear c4b0
   try clear c4b1
   try clear c7
   try clear hcz6_0
   try clear hcz6_1
   try clear hcz6_2
   try clear hcz6_3
   try clear hcz6_4
   try clear hfz6_0
   try clear hfz6_1
   try clear hfz6_2
   try clear hfz6_3
   try clear hfz6_4
   obtain ⟨x17_1, rfl, HA, HK1, BK893, HB⟩ := hrel
   cases gk with
   | zero => exact absurd HA.out (by simp [matrix_wrong.l0])
   | succ k1 =>
    have H := HA.out
    clear HA
    simp only [matrix_wrong.l0] at H
    by_cases c8 : x17_1 < (l1.length : Int)
    ·rw [if_pos c8] at H
     have c8b0 : decide (x17_1 < (l1.length : Int)) = true := decide_eq_true c8
     clear c8
     by_cases c9 : 0 ≤ x17_1
     ·rw [if_pos c9] at H
      have c9b0 : decide (0 ≤ x17_1) = true := decide_eq_true c9
      clear c9
      by_cases c10 : x17_1 < (l1.length : Int)
      ·rw [if_pos c10] at H
       have c10b0 : decide (x17_1 < (l1.length : Int)) = true := decide_eq_true c10
       clear c10
       by_cases c11 : (((rd_T26 l1 x17_1).f0).length : Int) = (wrap64 (a0_2 * a0_3))
       ·rw [if_pos c11] at H
        have c11b0 : ((((rd_T26 l1 x17_1).f0).length : Int) == (wrap64 (a0_2 * a0_3))) = true := beq_iff_eq.mpr c11
        have c11b1 : ((((rd_T26 l1 x17_1).f0).length : Int) != (wrap64 (a0_2 * a0_3))) = false := bne_eq_false_iff_eq.mpr c11
        clear c11
        by_cases c12 : (((rd_T26 l1 x17_1).f1).length : Int) = (wrap64 (a0_3 * a0_4))
        ·rw [if_pos c12] at H
         have c12b0 : ((((rd_T26 l1 x17_1).f1).length : Int) == (wrap64 (a0_3 * a0_4))) = true := beq_iff_eq.mpr c12
         have c12b1 : ((((rd_T26 l1 x17_1).f1).length : Int) != (wrap64 (a0_3 * a0_4))) = false := bne_eq_false_iff_eq.mpr c12
         clear c12
         replace H := Option.bind_eq_some_iff.mp H
         obtain ⟨t897, A130, H⟩ := H
         replace H : (if t897 = true then ((ring_Fits.f a0_1 ((rd_T26 l1 x17_1).f1)).bind fun t898 => (if t898 = true then (matrix_wrong.l0 k1 l1 (l1.length : Int) (wrap64 (x17_1 + 1)) a0_0 a0_1 a0_2 a0_3 a0_4) else (some 11))) else (some 11)) = some r := H
         have A13 := Aside0.mk A130
         clear A130
         by_cases c14 : t897 = true
         ·subst c14
          have H1 : ((ring_Fits.f a0_1 ((rd_T26 l1 x17_1).f1)).bind fun t898 => (if t898 = true then (matrix_wrong.l0 k1 l1 (l1.length : Int) (wrap64 (x17_1 + 1)) a0_0 a0_1 a0_2 a0_3 a0_4) else (some 11))) = some r := by rw [if_pos rfl] at H; exact H
          clear H
          have H := H1
          clear H1
          replace H := Option.bind_eq_some_iff.mp H
          obtain ⟨t898, A150, H⟩ := H
          replace H : (if t898 = true then (matrix_wrong.l0 k1 l1 (l1.length : Int) (wrap64 (x17_1 + 1)) a0_0 a0_1 a0_2 a0_3 a0_4) else (some 11)) = some r := H
          have A15 := Aside0.mk A150
          clear A150
          by_cases c16 : t898 = true
          ·subst c16
           have H1 : (matrix_wrong.l0 k1 l1 (l1.length : Int) (wrap64 (x17_1 + 1)) a0_0 a0_1 a0_2 a0_3 a0_4) = some r := by rw [if_pos rfl] at H; exact H
           clear H
           have H := H1
           clear H1
           have H' := Aside0.mk H
           clear H
           have p895 : 0 ≤ (x17_1 : Int) := of_decide_eq_true (by first | (with_reducible assumption) | assumption)
           have q895 : x17_1 < (l1.length : Int) := of_decide_eq_true (by first | (with_reducible assumption) | assumption)
           obtain ⟨ad895, A895_0, c895_0, A895_1, c895_1, A895_2, c895_2, e895, hx895_0, hx895_1, hx895_2, hl895_0, hi895_0, hl895_1, hi895_1, hl895_2, hi895_2⟩ := at_T26 HR1.out x17_1 p895 q895
           cases e895
           replace hx895_0 := (HB.out.cell (World.block_lt_of_cell? w _ hx895_0)).trans hx895_0
           replace hx895_1 := (HB.out.cell (World.block_lt_of_cell? w _ hx895_1)).trans hx895_1
           replace hx895_2 := (HB.out.cell (World.block_lt_of_cell? w _ hx895_2)).trans hx895_2
           have HR895_0 := Aside0.mk hi895_0
           have HC895_0 := Aside0.mk hl895_0
           clear hi895_0 hl895_0
           have HR895_1 := Aside0.mk hi895_1
           have HC895_1 := Aside0.mk hl895_1
           clear hi895_1 hl895_1
           have HR895_2 := Aside0.mk hi895_2
           have HC895_2 := Aside0.mk hl895_2
           clear hi895_2 hl895_2
           replace p895 := eq_true p895
           replace q895 := eq_true q895
           go_wp2_with (first | ((with_reducible refine gate_dst (N := 7) rfl ?_); (try (refine gate_guard (by rfl) ?_; dsimp only)); refine box_event ?hg (N := 7) ?hd (cs := #[.slice none 0 0, .slice none 0 0, .slice none 0 0]) (t := 26) ?hr ?_; (case hd => rfl); (case hg => rfl); (case hr => first | (go_simp; done) | (go_simp; rfl)); intro gb896 hg w17 hbox hb; have n0_ := Aside0.mk (blk_below (g := gb893) (o := .cells #[.int .i64 a0_0, .int .i64 a0_1, .int .i64 a0_2, .int .i64 a0_3, .int .i64 a0_4] 23 (0, 0)) (by (with_reducible repeat (first | refine blk_drewN ?_ _ | refine blk_drew ?_ | refine blk_alloc ?_ _)); exact BK893.out) hb); have n1_ := Aside0.mk (below_step (by repeat (first | (with_reducible first | exact HB.out | apply below_alloc | apply pw_below_drewN | apply below_drew1 | refine below_set ?_ GE893.out) | exact HB.out)) hb); have n2_ := Aside0.mk (hbox); have n3_ := Aside0.mk ((by rw [hg]; exact (below_size (by repeat (first | (with_reducible first | exact HB.out | apply below_alloc | apply pw_below_drewN | apply below_drew1 | refine below_set ?_ GE893.out) | exact HB.out))) : w.heap.size ≤ gb896)); have n4_ := Aside0.mk ((by rw [hg]; exact (below_size (by repeat (first | (with_reducible first | exact HB.out | apply below_alloc | apply pw_below_drewN | apply below_drew1 | refine below_set ?_ GE893.out) | exact HB.out))) : w.heap.size ≤ gb896)); have n5_ := Aside0.mk ((by rw [hg]; exact Nat.ne_of_lt (blk_lt (g := gb893) (o := .cells #[.int .i64 a0_0, .int .i64 a0_1, .int .i64 a0_2, .int .i64 a0_3, .int .i64 a0_4] 23 (0, 0)) (by (with_reducible repeat (first | refine blk_drewN ?_ _ | refine blk_drew ?_ | refine blk_alloc ?_ _)); exact BK893.out)) : gb893 ≠ gb896)); have n6_ := Aside0.mk ((by rw [hg]; exact Nat.ne_of_gt (blk_lt (g := gb893) (o := .cells #[.int .i64 a0_0, .int .i64 a0_1, .int .i64 a0_2, .int .i64 a0_3, .int .i64 a0_4] 23 (0, 0)) (by (with_reducible repeat (first | refine blk_drewN ?_ _ | refine blk_drew ?_ | refine blk_alloc ?_ _)); exact BK893.out)) : gb896 ≠ gb893)); clear BK893; clear HB; have BK893 := n0_; have HB := n1_; have BK896 := n2_; have GW896 := n3_; have GE896 := n4_; have NB893_896 := n5_; have NB896_893 := n6_; clear n0_ n1_ n2_ n3_ n4_ n5_ n6_; clear hb hbox hg; have hnb18 := NB896_893.out; have hnc18 := NB893_896.out; have hcz19_0 : w17.cell? ⟨gb896, 0, none⟩ = some (.slice none 0 0) := (blk_cell BK896.out 0).trans rfl; have hcz19_1 : w17.cell? ⟨gb896, 1, none⟩ = some (.slice none 0 0) := (blk_cell BK896.out 1).trans rfl; have hcz19_2 : w17.cell? ⟨gb896, 2, none⟩ = some (.slice none 0 0) := (blk_cell BK896.out 2).trans rfl; have hfz19_0 := blk_frozen BK896.out 0; have hfz19_1 := blk_frozen BK896.out 1; have hfz19_2 := blk_frozen BK896.out 2; have hcz20_0 : w17.cell? ⟨gb893, 0, none⟩ = some (.int .i64 a0_0) := (blk_cell BK893.out 0).trans rfl; have hcz20_1 : w17.cell? ⟨gb893, 1, none⟩ = some (.int .i64 a0_1) := (blk_cell BK893.out 1).trans rfl; have hcz20_2 : w17.cell? ⟨gb893, 2, none⟩ = some (.int .i64 a0_2) := (blk_cell BK893.out 2).trans rfl; have hcz20_3 : w17.cell? ⟨gb893, 3, none⟩ = some (.int .i64 a0_3) := (blk_cell BK893.out 3).trans rfl; have hcz20_4 : w17.cell? ⟨gb893, 4, none⟩ = some (.int .i64 a0_4) := (blk_cell BK893.out 4).trans rfl; have hfz20_0 := blk_frozen BK893.out 0; have hfz20_1 := blk_frozen BK893.out 1; have hfz20_2 := blk_frozen BK893.out 2; have hfz20_3 := blk_frozen BK893.out 3; have hfz20_4 := blk_frozen BK893.out 4) | (go_at_call 65; (with_reducible refine (ring_Fits.calls a0_1 _ _ ((rd_T26 l1 x17_1).f0) true _ ?side1 ?side2 A13.out).mono ?_); (case side1 => exact Kd.C_below HR895_0.out (by repeat (first | (with_reducible first | exact HB.out | apply below_alloc | apply pw_below_drewN | apply below_drew1 | refine below_set ?_ GE893.out | refine below_set ?_ GE896.out) | exact HB.out))); (case side2 => exact HC895_0.out); rintro e w21 ⟨rfl, hb⟩; have n0_ := Aside0.mk (blk_below (g := gb893) (o := .cells #[.int .i64 a0_0, .int .i64 a0_1, .int .i64 a0_2, .int .i64 a0_3, .int .i64 a0_4] 23 (0, 0)) (by (with_reducible repeat (first | refine blk_drewN ?_ _ | refine blk_drew ?_ | refine blk_alloc ?_ _)); refine blk_far ?_ NB893_896.out _; (with_reducible repeat (first | refine blk_drewN ?_ _ | refine blk_drew ?_ | refine blk_alloc ?_ _)); refine blk_far ?_ NB893_896.out _; (with_reducible repeat (first | refine blk_drewN ?_ _ | refine blk_drew ?_ | refine blk_alloc ?_ _)); refine blk_far ?_ NB893_896.out _; (with_reducible repeat (first | refine blk_drewN ?_ _ | refine blk_drew ?_ | refine blk_alloc ?_ _)); exact BK893.out) hb); have n1_ := Aside0.mk (blk_below (g := gb896) (o := .cells #[.slice A895_0 ((rd_T26 l1 x17_1).f0).length c895_0, .slice A895_1 ((rd_T26 l1 x17_1).f1).length c895_1, .slice A895_2 ((rd_T26 l1 x17_1).f2).length c895_2] 26 (0, 0)) (by (with_reducible repeat (first | refine blk_drewN ?_ _ | refine blk_drew ?_ | refine blk_alloc ?_ _)); refine blk_put (cs := #[.slice A895_0 ((rd_T26 l1 x17_1).f0).length c895_0, .slice A895_1 ((rd_T26 l1 x17_1).f1).length c895_1, .slice none 0 0]) ?_ 2 _ rfl; (with_reducible repeat (first | refine blk_drewN ?_ _ | refine blk_drew ?_ | refine blk_alloc ?_ _)); refine blk_put (cs := #[.slice A895_0 ((rd_T26 l1 x17_1).f0).length c895_0, .slice none 0 0, .slice none 0 0]) ?_ 1 _ rfl; (with_reducible repeat (first | refine blk_drewN ?_ _ | refine blk_drew ?_ | refine blk_alloc ?_ _)); refine blk_put (cs := #[.slice none 0 0, .slice none 0 0, .slice none 0 0]) ?_ 0 _ rfl; (with_reducible repeat (first | refine blk_drewN ?_ _ | refine blk_drew ?_ | refine blk_alloc ?_ _)); exact BK896.out) hb); have n2_ := Aside0.mk (below_step (by repeat (first | (with_reducible first | exact HB.out | apply below_alloc | apply pw_below_drewN | apply below_drew1 | refine below_set ?_ GE893.out | refine below_set ?_ GE896.out) | exact HB.out)) hb); clear BK893; clear BK896; clear HB; have BK893 := n0_; have BK896 := n1_; have HB := n2_; clear n0_ n1_ n2_; (try clear hb); (try clear hb2); (try clear hk); (try clear hi); have hcz22_0 : w21.cell? ⟨gb893, 0, none⟩ = some (.int .i64 a0_0) := (blk_cell BK893.out 0).trans rfl; have hcz22_1 : w21.cell? ⟨gb893, 1, none⟩ = some (.int .i64 a0_1) := (blk_cell BK893.out 1).trans rfl; have hcz22_2 : w21.cell? ⟨gb893, 2, none⟩ = some (.int .i64 a0_2) := (blk_cell BK893.out 2).trans rfl; have hcz22_3 : w21.cell? ⟨gb893, 3, none⟩ = some (.int .i64 a0_3) := (blk_cell BK893.out 3).trans rfl; have hcz22_4 : w21.cell? ⟨gb893, 4, none⟩ = some (.int .i64 a0_4) := (blk_cell BK893.out 4).trans rfl; have hfz22_0 := blk_frozen BK893.out 0; have hfz22_1 := blk_frozen BK893.out 1; have hfz22_2 := blk_frozen BK893.out 2; have hfz22_3 := blk_frozen BK893.out 3; have hfz22_4 := blk_frozen BK893.out 4; have hcz23_0 : w21.cell? ⟨gb896, 0, none⟩ = some (.slice A895_0 ((rd_T26 l1 x17_1).f0).length c895_0) := (blk_cell BK896.out 0).trans rfl; have hcz23_1 : w21.cell? ⟨gb896, 1, none⟩ = some (.slice A895_1 ((rd_T26 l1 x17_1).f1).length c895_1) := (blk_cell BK896.out 1).trans rfl; have hcz23_2 : w21.cell? ⟨gb896, 2, none⟩ = some (.slice A895_2 ((rd_T26 l1 x17_1).f2).length c895_2) := (blk_cell BK896.out 2).trans rfl; have hfz23_0 := blk_frozen BK896.out 0; have hfz23_1 := blk_frozen BK896.out 1; have hfz23_2 := blk_frozen BK896.out 2) | (go_at_call 65; (with_reducible refine (ring_Fits.calls a0_1 _ _ ((rd_T26 l1 x17_1).f1) true _ ?side1 ?side2 A15.out).mono ?_); (case side1 => repeat (first | exact (Kd.C_below HR895_1.out HB.out) | (with_reducible refine Kd.C_alloc ?_ _) | (with_reducible refine Kd.C_drewN ?_ _) | (with_reducible refine Kd.C_drew ?_))); (case side2 => exact HC895_1.out); rintro e w24 ⟨rfl, hb⟩; have n0_ := Aside0.mk (blk_below (g := gb893) (o := .cells #[.int .i64 a0_0, .int .i64 a0_1, .int .i64 a0_2, .int .i64 a0_3, .int .i64 a0_4] 23 (0, 0)) (by (with_reducible repeat (first | refine blk_drewN ?_ _ | refine blk_drew ?_ | refine blk_alloc ?_ _)); exact BK893.out) hb); have n1_ := Aside0.mk (blk_below (g := gb896) (o := .cells #[.slice A895_0 ((rd_T26 l1 x17_1).f0).length c895_0, .slice A895_1 ((rd_T26 l1 x17_1).f1).length c895_1, .slice A895_2 ((rd_T26 l1 x17_1).f2).length c895_2] 26 (0, 0)) (by (with_reducible repeat (first | refine blk_drewN ?_ _ | refine blk_drew ?_ | refine blk_alloc ?_ _)); exact BK896.out) hb); have n2_ := Aside0.mk (below_step (by repeat (first | (with_reducible first | exact HB.out | apply below_alloc | apply pw_below_drewN | apply below_drew1 | refine below_set ?_ GE893.out | refine below_set ?_ GE896.out) | exact HB.out)) hb); clear BK893; clear BK896; clear HB; have BK893 := n0_; have BK896 := n1_; have HB := n2_; clear n0_ n1_ n2_; (try clear hb); (try clear hb2); (try clear hk); (try clear hi)))
           go_roundg k1
           case measure => have := HK1.out; omega
           case rel => exact ⟨(wrap64 (x17_1 + 1)), (by first | rfl | (simp; done) | (simp [*]; done)), H', ⟨by have := HK1.out; omega⟩, ⟨by (with_reducible repeat (first | refine blk_drewN ?_ _ | refine blk_drew ?_ | refine blk_alloc ?_ _)); exact BK893.out⟩, ⟨by repeat (first | (with_reducible first | exact HB.out | apply below_alloc | apply pw_below_drewN | apply below_drew1 | refine below_set ?_ GE893.out | refine below_set ?_ GE896.out) | exact HB.out)⟩⟩
          ·replace c16 := Bool.eq_false_iff.mpr c16
           subst c16
           have H1 : (some 11) = some r := by rw [if_neg (show ¬ (false = true) by decide)] at H; exact H
           clear H
           have H := H1
           clear H1
           obtain rfl := Option.some.inj H
           have p895 : 0 ≤ (x17_1 : Int) := of_decide_eq_true (by first | (with_reducible assumption) | assumption)
           have q895 : x17_1 < (l1.length : Int) := of_decide_eq_true (by first | (with_reducible assumption) | assumption)
           obtain ⟨ad895, A895_0, c895_0, A895_1, c895_1, A895_2, c895_2, e895, hx895_0, hx895_1, hx895_2, hl895_0, hi895_0, hl895_1, hi895_1, hl895_2, hi895_2⟩ := at_T26 HR1.out x17_1 p895 q895
           cases e895
           replace hx895_0 := (HB.out.cell (World.block_lt_of_cell? w _ hx895_0)).trans hx895_0
           replace hx895_1 := (HB.out.cell (World.block_lt_of_cell? w _ hx895_1)).trans hx895_1
           replace hx895_2 := (HB.out.cell (World.block_lt_of_cell? w _ hx895_2)).trans hx895_2
           have HR895_0 := Aside0.mk hi895_0
           have HC895_0 := Aside0.mk hl895_0
           clear hi895_0 hl895_0
           have HR895_1 := Aside0.mk hi895_1
           have HC895_1 := Aside0.mk hl895_1
           clear hi895_1 hl895_1
           have HR895_2 := Aside0.mk hi895_2
           have HC895_2 := Aside0.mk hl895_2
           clear hi895_2 hl895_2
           replace p895 := eq_true p895
           replace q895 := eq_true q895
           go_wp2_with (first | ((with_reducible refine gate_dst (N := 7) rfl ?_); (try (refine gate_guard (by rfl) ?_; dsimp only)); refine box_event ?hg (N := 7) ?hd (cs := #[.slice none 0 0, .slice none 0 0, .slice none 0 0]) (t := 26) ?hr ?_; (case hd => rfl); (case hg => rfl); (case hr => first | (go_simp; done) | (go_simp; rfl)); intro gb896 hg w25 hbox hb; have n0_ := Aside0.mk (blk_below (g := gb893) (o := .cells #[.int .i64 a0_0, .int .i64 a0_1, .int .i64 a0_2, .int .i64 a0_3, .int .i64 a0_4] 23 (0, 0)) (by (with_reducible repeat (first | refine blk_drewN ?_ _ | refine blk_drew ?_ | refine blk_alloc ?_ _)); exact BK893.out) hb); have n1_ := Aside0.mk (below_step (by repeat (first | (with_reducible first | exact HB.out | apply below_alloc | apply pw_below_drewN | apply below_drew1 | refine below_set ?_ GE893.out) | exact HB.out)) hb); have n2_ := Aside0.mk (hbox); have n3_ := Aside0.mk ((by rw [hg]; exact (below_size (by repeat (first | (with_reducible first | exact HB.out | apply below_alloc | apply pw_below_drewN | apply below_drew1 | refine below_set ?_ GE893.out) | exact HB.out))) : w.heap.size ≤ gb896)); have n4_ := Aside0.mk ((by rw [hg]; exact (below_size (by repeat (first | (with_reducible first | exact HB.out | apply below_alloc | apply pw_below_drewN | apply below_drew1 | refine below_set ?_ GE893.out) | exact HB.out))) : w.heap.size ≤ gb896)); have n5_ := Aside0.mk ((by rw [hg]; exact Nat.ne_of_lt (blk_lt (g := gb893) (o := .cells #[.int .i64 a0_0, .int .i64 a0_1, .int .i64 a0_2, .int .i64 a0_3, .int .i64 a0_4] 23 (0, 0)) (by (with_reducible repeat (first | refine blk_drewN ?_ _ | refine blk_drew ?_ | refine blk_alloc ?_ _)); exact BK893.out)) : gb893 ≠ gb896)); have n6_ := Aside0.mk ((by rw [hg]; exact Nat.ne_of_gt (blk_lt (g := gb893) (o := .cells #[.int .i64 a0_0, .int .i64 a0_1, .int .i64 a0_2, .int .i64 a0_3, .int .i64 a0_4] 23 (0, 0)) (by (with_reducible repeat (first | refine blk_drewN ?_ _ | refine blk_drew ?_ | refine blk_alloc ?_ _)); exact BK893.out)) : gb896 ≠ gb893)); clear BK893; clear HB; have BK893 := n0_; have HB := n1_; have BK896 := n2_; have GW896 := n3_; have GE896 := n4_; have NB893_896 := n5_; have NB896_893 := n6_; clear n0_ n1_ n2_ n3_ n4_ n5_ n6_; clear hb hbox hg; have hnb26 := NB896_893.out; have hnc26 := NB893_896.out; have hcz27_0 : w25.cell? ⟨gb896, 0, none⟩ = some (.slice none 0 0) := (blk_cell BK896.out 0).trans rfl; have hcz27_1 : w25.cell? ⟨gb896, 1, none⟩ = some (.slice none 0 0) := (blk_cell BK896.out 1).trans rfl; have hcz27_2 : w25.cell? ⟨gb896, 2, none⟩ = some (.slice none 0 0) := (blk_cell BK896.out 2).trans rfl; have hfz27_0 := blk_frozen BK896.out 0; have hfz27_1 := blk_frozen BK896.out 1; have hfz27_2 := blk_frozen BK896.out 2; have hcz28_0 : w25.cell? ⟨gb893, 0, none⟩ = some (.int .i64 a0_0) := (blk_cell BK893.out 0).trans rfl; have hcz28_1 : w25.cell? ⟨gb893, 1, none⟩ = some (.int .i64 a0_1) := (blk_cell BK893.out 1).trans rfl; have hcz28_2 : w25.cell? ⟨gb893, 2, none⟩ = some (.int .i64 a0_2) := (blk_cell BK893.out 2).trans rfl; have hcz28_3 : w25.cell? ⟨gb893, 3, none⟩ = some (.int .i64 a0_3) := (blk_cell BK893.out 3).trans rfl; have hcz28_4 : w25.cell? ⟨gb893, 4, none⟩ = some (.int .i64 a0_4) := (blk_cell BK893.out 4).trans rfl; have hfz28_0 := blk_frozen BK893.out 0; have hfz28_1 := blk_frozen BK893.out 1; have hfz28_2 := blk_frozen BK893.out 2; have hfz28_3 := blk_frozen BK893.out 3; have hfz28_4 := blk_frozen BK893.out 4) | (go_at_call 65; (with_reducible refine (ring_Fits.calls a0_1 _ _ ((rd_T26 l1 x17_1).f0) true _ ?side1 ?side2 A13.out).mono ?_); (case side1 => exact Kd.C_below HR895_0.out (by repeat (first | (with_reducible first | exact HB.out | apply below_alloc | apply pw_below_drewN | apply below_drew1 | refine below_set ?_ GE893.out | refine below_set ?_ GE896.out) | exact HB.out))); (case side2 => exact HC895_0.out); rintro e w29 ⟨rfl, hb⟩; have n0_ := Aside0.mk (blk_below (g := gb893) (o := .cells #[.int .i64 a0_0, .int .i64 a0_1, .int .i64 a0_2, .int .i64 a0_3, .int .i64 a0_4] 23 (0, 0)) (by (with_reducible repeat (first | refine blk_drewN ?_ _ | refine blk_drew ?_ | refine blk_alloc ?_ _)); refine blk_far ?_ NB893_896.out _; (with_reducible repeat (first | refine blk_drewN ?_ _ | refine blk_drew ?_ | refine blk_alloc ?_ _)); refine blk_far ?_ NB893_896.out _; (with_reducible repeat (first | refine blk_drewN ?_ _ | refine blk_drew ?_ | refine blk_alloc ?_ _)); refine blk_far ?_ NB893_896.out _; (with_reducible repeat (first | refine blk_drewN ?_ _ | refine blk_drew ?_ | refine blk_alloc ?_ _)); exact BK893.out) hb); have n1_ := Aside0.mk (blk_below (g := gb896) (o := .cells #[.slice A895_0 ((rd_T26 l1 x17_1).f0).length c895_0, .slice A895_1 ((rd_T26 l1 x17_1).f1).length c895_1, .slice A895_2 ((rd_T26 l1 x17_1).f2).length c895_2] 26 (0, 0)) (by (with_reducible repeat (first | refine blk_drewN ?_ _ | refine blk_drew ?_ | refine blk_alloc ?_ _)); refine blk_put (cs := #[.slice A895_0 ((rd_T26 l1 x17_1).f0).length c895_0, .slice A895_1 ((rd_T26 l1 x17_1).f1).length c895_1, .slice none 0 0]) ?_ 2 _ rfl; (with_reducible repeat (first | refine blk_drewN ?_ _ | refine blk_drew ?_ | refine blk_alloc ?_ _)); refine blk_put (cs := #[.slice A895_0 ((rd_T26 l1 x17_1).f0).length c895_0, .slice none 0 0, .slice none 0 0]) ?_ 1 _ rfl; (with_reducible repeat (first | refine blk_drewN ?_ _ | refine blk_drew ?_ | refine blk_alloc ?_ _)); refine blk_put (cs := #[.slice none 0 0, .slice none 0 0, .slice none 0 0]) ?_ 0 _ rfl; (with_reducible repeat (first | refine blk_drewN ?_ _ | refine blk_drew ?_ | refine blk_alloc ?_ _)); exact BK896.out) hb); have n2_ := Aside0.mk (below_step (by repeat (first | (with_reducible first | exact HB.out | apply below_alloc | apply pw_below_drewN | apply below_drew1 | refine below_set ?_ GE893.out | refine below_set ?_ GE896.out) | exact HB.out)) hb); clear BK893; clear BK896; clear HB; have BK893 := n0_; have BK896 := n1_; have HB := n2_; clear n0_ n1_ n2_; (try clear hb); (try clear hb2); (try clear hk); (try clear hi); have hcz30_0 : w29.cell? ⟨gb893, 0, none⟩ = some (.int .i64 a0_0) := (blk_cell BK893.out 0).trans rfl; have hcz30_1 : w29.cell? ⟨gb893, 1, none⟩ = some (.int .i64 a0_1) := (blk_cell BK893.out 1).trans rfl; have hcz30_2 : w29.cell? ⟨gb893, 2, none⟩ = some (.int .i64 a0_2) := (blk_cell BK893.out 2).trans rfl; have hcz30_3 : w29.cell? ⟨gb893, 3, none⟩ = some (.int .i64 a0_3) := (blk_cell BK893.out 3).trans rfl; have hcz30_4 : w29.cell? ⟨gb893, 4, none⟩ = some (.int .i64 a0_4) := (blk_cell BK893.out 4).trans rfl; have hfz30_0 := blk_frozen BK893.out 0; have hfz30_1 := blk_frozen BK893.out 1; have hfz30_2 := blk_frozen BK893.out 2; have hfz30_3 := blk_frozen BK893.out 3; have hfz30_4 := blk_frozen BK893.out 4; have hcz31_0 : w29.cell? ⟨gb896, 0, none⟩ = some (.slice A895_0 ((rd_T26 l1 x17_1).f0).length c895_0) := (blk_cell BK896.out 0).trans rfl; have hcz31_1 : w29.cell? ⟨gb896, 1, none⟩ = some (.slice A895_1 ((rd_T26 l1 x17_1).f1).length c895_1) := (blk_cell BK896.out 1).trans rfl; have hcz31_2 : w29.cell? ⟨gb896, 2, none⟩ = some (.slice A895_2 ((rd_T26 l1 x17_1).f2).length c895_2) := (blk_cell BK896.out 2).trans rfl; have hfz31_0 := blk_frozen BK896.out 0; have hfz31_1 := blk_frozen BK896.out 1; have hfz31_2 := blk_frozen BK896.out 2) | (go_at_call 65; (with_reducible refine (ring_Fits.calls a0_1 _ _ ((rd_T26 l1 x17_1).f1) false _ ?side1 ?side2 A15.out).mono ?_); (case side1 => repeat (first | exact (Kd.C_below HR895_1.out HB.out) | (with_reducible refine Kd.C_alloc ?_ _) | (with_reducible refine Kd.C_drewN ?_ _) | (with_reducible refine Kd.C_drew ?_))); (case side2 => exact HC895_1.out); rintro e w32 ⟨rfl, hb⟩; have n0_ := Aside0.mk (blk_below (g := gb893) (o := .cells #[.int .i64 a0_0, .int .i64 a0_1, .int .i64 a0_2, .int .i64 a0_3, .int .i64 a0_4] 23 (0, 0)) (by (with_reducible repeat (first | refine blk_drewN ?_ _ | refine blk_drew ?_ | refine blk_alloc ?_ _)); exact BK893.out) hb); have n1_ := Aside0.mk (blk_below (g := gb896) (o := .cells #[.slice A895_0 ((rd_T26 l1 x17_1).f0).length c895_0, .slice A895_1 ((rd_T26 l1 x17_1).f1).length c895_1, .slice A895_2 ((rd_T26 l1 x17_1).f2).length c895_2] 26 (0, 0)) (by (with_reducible repeat (first | refine blk_drewN ?_ _ | refine blk_drew ?_ | refine blk_alloc ?_ _)); exact BK896.out) hb); have n2_ := Aside0.mk (below_step (by repeat (first | (with_reducible first | exact HB.out | apply below_alloc | apply pw_below_drewN | apply below_drew1 | refine below_set ?_ GE893.out | refine below_set ?_ GE896.out) | exact HB.out)) hb); clear BK893; clear BK896; clear HB; have BK893 := n0_; have BK896 := n1_; have HB := n2_; clear n0_ n1_ n2_; (try clear hb); (try clear hb2); (try clear hk); (try clear hi)))
           go_ret
           exact ⟨by first | rfl | (simp [errW_none, errW_some] <;> rfl) | (simp [*, errW_none, errW_some] <;> rfl), by repeat (first | (with_reducible first | exact HB.out | apply below_alloc | apply pw_below_drewN | apply below_drew1 | refine below_set ?_ GE893.out | refine below_set ?_ GE896.out) | exact HB.out)⟩
         ·replace c14 := Bool.eq_false_iff.mpr c14
          subst c14
          have H1 : (some 11) = some r := by rw [if_neg (show ¬ (false = true) by decide)] at H; exact H
          clear H
          have H := H1
          clear H1
          obtain rfl := Option.some.inj H
          have p895 : 0 ≤ (x17_1 : Int) := of_decide_eq_true (by first | (with_reducible assumption) | assumption)
          have q895 : x17_1 < (l1.length : Int) := of_decide_eq_true (by first | (with_reducible assumption) | assumption)
          obtain ⟨ad895, A895_0, c895_0, A895_1, c895_1, A895_2, c895_2, e895, hx895_0, hx895_1, hx895_2, hl895_0, hi895_0, hl895_1, hi895_1, hl895_2, hi895_2⟩ := at_T26 HR1.out x17_1 p895 q895
          cases e895
          replace hx895_0 := (HB.out.cell (World.block_lt_of_cell? w _ hx895_0)).trans hx895_0
          replace hx895_1 := (HB.out.cell (World.block_lt_of_cell? w _ hx895_1)).trans hx895_1
          replace hx895_2 := (HB.out.cell (World.block_lt_of_cell? w _ hx895_2)).trans hx895_2
          have HR895_0 := Aside0.mk hi895_0
          have HC895_0 := Aside0.mk hl895_0
          clear hi895_0 hl895_0
          have HR895_1 := Aside0.mk hi895_1
          have HC895_1 := Aside0.mk hl895_1
          clear hi895_1 hl895_1
          have HR895_2 := Aside0.mk hi895_2
          have HC895_2 := Aside0.mk hl895_2
          clear hi895_2 hl895_2
          replace p895 := eq_true p895
          replace q895 := eq_true q895
          go_wp2_with (first | ((with_reducible refine gate_dst (N := 7) rfl ?_); (try (refine gate_guard (by rfl) ?_; dsimp only)); refine box_event ?hg (N := 7) ?hd (cs := #[.slice none 0 0, .slice none 0 0, .slice none 0 0]) (t := 26) ?hr ?_; (case hd => rfl); (case hg => rfl); (case hr => first | (go_simp; done) | (go_simp; rfl)); intro gb896 hg w33 hbox hb; have n0_ := Aside0.mk (blk_below (g := gb893) (o := .cells #[.int .i64 a0_0, .int .i64 a0_1, .int .i64 a0_2, .int .i64 a0_3, .int .i64 a0_4] 23 (0, 0)) (by (with_reducible repeat (first | refine blk_drewN ?_ _ | refine blk_drew ?_ | refine blk_alloc ?_ _)); exact BK893.out) hb); have n1_ := Aside0.mk (below_step (by repeat (first | (with_reducible first | exact HB.out | apply below_alloc | apply pw_below_drewN | apply below_drew1 | refine below_set ?_ GE893.out) | exact HB.out)) hb); have n2_ := Aside0.mk (hbox); have n3_ := Aside0.mk ((by rw [hg]; exact (below_size (by repeat (first | (with_reducible first | exact HB.out | apply below_alloc | apply pw_below_drewN | apply below_drew1 | refine below_set ?_ GE893.out) | exact HB.out))) : w.heap.size ≤ gb896)); have n4_ := Aside0.mk ((by rw [hg]; exact (below_size (by repeat (first | (with_reducible first | exact HB.out | apply below_alloc | apply pw_below_drewN | apply below_drew1 | refine below_set ?_ GE893.out) | exact HB.out))) : w.heap.size ≤ gb896)); have n5_ := Aside0.mk ((by rw [hg]; exact Nat.ne_of_lt (blk_lt (g := gb893) (o := .cells #[.int .i64 a0_0, .int .i64 a0_1, .int .i64 a0_2, .int .i64 a0_3, .int .i64 a0_4] 23 (0, 0)) (by (with_reducible repeat (first | refine blk_drewN ?_ _ | refine blk_drew ?_ | refine blk_alloc ?_ _)); exact BK893.out)) : gb893 ≠ gb896)); have n6_ := Aside0.mk ((by rw [hg]; exact Nat.ne_of_gt (blk_lt (g := gb893) (o := .cells #[.int .i64 a0_0, .int .i64 a0_1, .int .i64 a0_2, .int .i64 a0_3, .int .i64 a0_4] 23 (0, 0)) (by (with_reducible repeat (first | refine blk_drewN ?_ _ | refine blk_drew ?_ | refine blk_alloc ?_ _)); exact BK893.out)) : gb896 ≠ gb893)); clear BK893; clear HB; have BK893 := n0_; have HB := n1_; have BK896 := n2_; have GW896 := n3_; have GE896 := n4_; have NB893_896 := n5_; have NB896_893 := n6_; clear n0_ n1_ n2_ n3_ n4_ n5_ n6_; clear hb hbox hg; have hnb34 := NB896_893.out; have hnc34 := NB893_896.out; have hcz35_0 : w33.cell? ⟨gb896, 0, none⟩ = some (.slice none 0 0) := (blk_cell BK896.out 0).trans rfl; have hcz35_1 : w33.cell? ⟨gb896, 1, none⟩ = some (.slice none 0 0) := (blk_cell BK896.out 1).trans rfl; have hcz35_2 : w33.cell? ⟨gb896, 2, none⟩ = some (.slice none 0 0) := (blk_cell BK896.out 2).trans rfl; have hfz35_0 := blk_frozen BK896.out 0; have hfz35_1 := blk_frozen BK896.out 1; have hfz35_2 := blk_frozen BK896.out 2; have hcz36_0 : w33.cell? ⟨gb893, 0, none⟩ = some (.int .i64 a0_0) := (blk_cell BK893.out 0).trans rfl; have hcz36_1 : w33.cell? ⟨gb893, 1, none⟩ = some (.int .i64 a0_1) := (blk_cell BK893.out 1).trans rfl; have hcz36_2 : w33.cell? ⟨gb893, 2, none⟩ = some (.int .i64 a0_2) := (blk_cell BK893.out 2).trans rfl; have hcz36_3 : w33.cell? ⟨gb893, 3, none⟩ = some (.int .i64 a0_3) := (blk_cell BK893.out 3).trans rfl; have hcz36_4 : w33.cell? ⟨gb893, 4, none⟩ = some (.int .i64 a0_4) := (blk_cell BK893.out 4).trans rfl; have hfz36_0 := blk_frozen BK893.out 0; have hfz36_1 := blk_frozen BK893.out 1; have hfz36_2 := blk_frozen BK893.out 2; have hfz36_3 := blk_frozen BK893.out 3; have hfz36_4 := blk_frozen BK893.out 4) | (go_at_call 65; (with_reducible refine (ring_Fits.calls a0_1 _ _ ((rd_T26 l1 x17_1).f0) false _ ?side1 ?side2 A13.out).mono ?_); (case side1 => exact Kd.C_below HR895_0.out (by repeat (first | (with_reducible first | exact HB.out | apply below_alloc | apply pw_below_drewN | apply below_drew1 | refine below_set ?_ GE893.out | refine below_set ?_ GE896.out) | exact HB.out))); (case side2 => exact HC895_0.out); rintro e w37 ⟨rfl, hb⟩; have n0_ := Aside0.mk (blk_below (g := gb893) (o := .cells #[.int .i64 a0_0, .int .i64 a0_1, .int .i64 a0_2, .int .i64 a0_3, .int .i64 a0_4] 23 (0, 0)) (by (with_reducible repeat (first | refine blk_drewN ?_ _ | refine blk_drew ?_ | refine blk_alloc ?_ _)); refine blk_far ?_ NB893_896.out _; (with_reducible repeat (first | refine blk_drewN ?_ _ | refine blk_drew ?_ | refine blk_alloc ?_ _)); refine blk_far ?_ NB893_896.out _; (with_reducible repeat (first | refine blk_drewN ?_ _ | refine blk_drew ?_ | refine blk_alloc ?_ _)); refine blk_far ?_ NB893_896.out _; (with_reducible repeat (first | refine blk_drewN ?_ _ | refine blk_drew ?_ | refine blk_alloc ?_ _)); exact BK893.out) hb); have n1_ := Aside0.mk (blk_below (g := gb896) (o := .cells #[.slice A895_0 ((rd_T26 l1 x17_1).f0).length c895_0, .slice A895_1 ((rd_T26 l1 x17_1).f1).length c895_1, .slice A895_2 ((rd_T26 l1 x17_1).f2).length c895_2] 26 (0, 0)) (by (with_reducible repeat (first | refine blk_drewN ?_ _ | refine blk_drew ?_ | refine blk_alloc ?_ _)); refine blk_put (cs := #[.slice A895_0 ((rd_T26 l1 x17_1).f0).length c895_0, .slice A895_1 ((rd_T26 l1 x17_1).f1).length c895_1, .slice none 0 0]) ?_ 2 _ rfl; (with_reducible repeat (first | refine blk_drewN ?_ _ | refine blk_drew ?_ | refine blk_alloc ?_ _)); refine blk_put (cs := #[.slice A895_0 ((rd_T26 l1 x17_1).f0).length c895_0, .slice none 0 0, .slice none 0 0]) ?_ 1 _ rfl; (with_reducible repeat (first | refine blk_drewN ?_ _ | refine blk_drew ?_ | refine blk_alloc ?_ _)); refine blk_put (cs := #[.slice none 0 0, .slice none 0 0, .slice none 0 0]) ?_ 0 _ rfl; (with_reducible repeat (first | refine blk_drewN ?_ _ | refine blk_drew ?_ | refine blk_alloc ?_ _)); exact BK896.out) hb); have n2_ := Aside0.mk (below_step (by repeat (first | (with_reducible first | exact HB.out | apply below_alloc | apply pw_below_drewN | apply below_drew1 | refine below_set ?_ GE893.out | refine below_set ?_ GE896.out) | exact HB.out)) hb); clear BK893; clear BK896; clear HB; have BK893 := n0_; have BK896 := n1_; have HB := n2_; clear n0_ n1_ n2_; (try clear hb); (try clear hb2); (try clear hk); (try clear hi)))
          go_ret
          exact ⟨by first | rfl | (simp [errW_none, errW_some] <;> rfl) | (simp [*, errW_none, errW_some] <;> rfl), by repeat (first | (with_reducible first | exact HB.out | apply below_alloc | apply pw_below_drewN | apply below_drew1 | refine below_set ?_ GE893.out | refine below_set ?_ GE896.out) | exact HB.out)⟩
        ·rw [if_neg c12] at H
         have c12b0 : ((((rd_T26 l1 x17_1).f1).length : Int) == (wrap64 (a0_3 * a0_4))) = false := beq_eq_false_iff_ne.mpr c12
         have c12b1 : ((((rd_T26 l1 x17_1).f1).length : Int) != (wrap64 (a0_3 * a0_4))) = true := bne_iff_ne.mpr c12
         obtain rfl := Option.some.inj H
         have p895 : 0 ≤ (x17_1 : Int) := of_decide_eq_true (by first | (with_reducible assumption) | assumption)
         have q895 : x17_1 < (l1.length : Int) := of_decide_eq_true (by first | (with_reducible assumption) | assumption)
         obtain ⟨ad895, A895_0, c895_0, A895_1, c895_1, A895_2, c895_2, e895, hx895_0, hx895_1, hx895_2, hl895_0, hi895_0, hl895_1, hi895_1, hl895_2, hi895_2⟩ := at_T26 HR1.out x17_1 p895 q895
         cases e895
         replace hx895_0 := (HB.out.cell (World.block_lt_of_cell? w _ hx895_0)).trans hx895_0
         replace hx895_1 := (HB.out.cell (World.block_lt_of_cell? w _ hx895_1)).trans hx895_1
         replace hx895_2 := (HB.out.cell (World.block_lt_of_cell? w _ hx895_2)).trans hx895_2
         have HR895_0 := Aside0.mk hi895_0
         have HC895_0 := Aside0.mk hl895_0
         clear hi895_0 hl895_0
         have HR895_1 := Aside0.mk hi895_1
         have HC895_1 := Aside0.mk hl895_1
         clear hi895_1 hl895_1
         have HR895_2 := Aside0.mk hi895_2
         have HC895_2 := Aside0.mk hl895_2
         clear hi895_2 hl895_2
         replace p895 := eq_true p895
         replace q895 := eq_true q895
         go_wp2_with (first | ((with_reducible refine gate_dst (N := 7) rfl ?_); (try (refine gate_guard (by rfl) ?_; dsimp only)); refine box_event ?hg (N := 7) ?hd (cs := #[.slice none 0 0, .slice none 0 0, .slice none 0 0]) (t := 26) ?hr ?_; (case hd => rfl); (case hg => rfl); (case hr => first | (go_simp; done) | (go_simp; rfl)); intro gb896 hg w38 hbox hb; have n0_ := Aside0.mk (blk_below (g := gb893) (o := .cells #[.int .i64 a0_0, .int .i64 a0_1, .int .i64 a0_2, .int .i64 a0_3, .int .i64 a0_4] 23 (0, 0)) (by (with_reducible repeat (first | refine blk_drewN ?_ _ | refine blk_drew ?_ | refine blk_alloc ?_ _)); exact BK893.out) hb); have n1_ := Aside0.mk (below_step (by repeat (first | (with_reducible first | exact HB.out | apply below_alloc | apply pw_below_drewN | apply below_drew1 | refine below_set ?_ GE893.out) | exact HB.out)) hb); have n2_ := Aside0.mk (hbox); have n3_ := Aside0.mk ((by rw [hg]; exact (below_size (by repeat (first | (with_reducible first | exact HB.out | apply below_alloc | apply pw_below_drewN | apply below_drew1 | refine below_set ?_ GE893.out) | exact HB.out))) : w.heap.size ≤ gb896)); have n4_ := Aside0.mk ((by rw [hg]; exact (below_size (by repeat (first | (with_reducible first | exact HB.out | apply below_alloc | apply pw_below_drewN | apply below_drew1 | refine below_set ?_ GE893.out) | exact HB.out))) : w.heap.size ≤ gb896)); have n5_ := Aside0.mk ((by rw [hg]; exact Nat.ne_of_lt (blk_lt (g := gb893) (o := .cells #[.int .i64 a0_0, .int .i64 a0_1, .int .i64 a0_2, .int .i64 a0_3, .int .i64 a0_4] 23 (0, 0)) (by (with_reducible repeat (first | refine blk_drewN ?_ _ | refine blk_drew ?_ | refine blk_alloc ?_ _)); exact BK893.out)) : gb893 ≠ gb896)); have n6_ := Aside0.mk ((by rw [hg]; exact Nat.ne_of_gt (blk_lt (g := gb893) (o := .cells #[.int .i64 a0_0, .int .i64 a0_1, .int .i64 a0_2, .int .i64 a0_3, .int .i64 a0_4] 23 (0, 0)) (by (with_reducible repeat (first | refine blk_drewN ?_ _ | refine blk_drew ?_ | refine blk_alloc ?_ _)); exact BK893.out)) : gb896 ≠ gb893)); clear BK893; clear HB; have BK893 := n0_; have HB := n1_; have BK896 := n2_; have GW896 := n3_; have GE896 := n4_; have NB893_896 := n5_; have NB896_893 := n6_; clear n0_ n1_ n2_ n3_ n4_ n5_ n6_; clear hb hbox hg; have hnb39 := NB896_893.out; have hnc39 := NB893_896.out; have hcz40_0 : w38.cell? ⟨gb896, 0, none⟩ = some (.slice none 0 0) := (blk_cell BK896.out 0).trans rfl; have hcz40_1 : w38.cell? ⟨gb896, 1, none⟩ = some (.slice none 0 0) := (blk_cell BK896.out 1).trans rfl; have hcz40_2 : w38.cell? ⟨gb896, 2, none⟩ = some (.slice none 0 0) := (blk_cell BK896.out 2).trans rfl; have hfz40_0 := blk_frozen BK896.out 0; have hfz40_1 := blk_frozen BK896.out 1; have hfz40_2 := blk_frozen BK896.out 2; have hcz41_0 : w38.cell? ⟨gb893, 0, none⟩ = some (.int .i64 a0_0) := (blk_cell BK893.out 0).trans rfl; have hcz41_1 : w38.cell? ⟨gb893, 1, none⟩ = some (.int .i64 a0_1) := (blk_cell BK893.out 1).trans rfl; have hcz41_2 : w38.cell? ⟨gb893, 2, none⟩ = some (.int .i64 a0_2) := (blk_cell BK893.out 2).trans rfl; have hcz41_3 : w38.cell? ⟨gb893, 3, none⟩ = some (.int .i64 a0_3) := (blk_cell BK893.out 3).trans rfl; have hcz41_4 : w38.cell? ⟨gb893, 4, none⟩ = some (.int .i64 a0_4) := (blk_cell BK893.out 4).trans rfl; have hfz41_0 := blk_frozen BK893.out 0; have hfz41_1 := blk_frozen BK893.out 1; have hfz41_2 := blk_frozen BK893.out 2; have hfz41_3 := blk_frozen BK893.out 3; have hfz41_4 := blk_frozen BK893.out 4))
         go_ret
         exact ⟨by first | rfl | (simp [errW_none, errW_some] <;> rfl) | (simp [*, errW_none, errW_some] <;> rfl), by repeat (first | (with_reducible first | exact HB.out | apply below_alloc | apply pw_below_drewN | apply below_drew1 | refine below_set ?_ GE893.out | refine below_set ?_ GE896.out) | exact HB.out)⟩
       ·rw [if_neg c11] at H
        have c11b0 : ((((rd_T26 l1 x17_1).f0).length : Int) == (wrap64 (a0_2 * a0_3))) = false := beq_eq_false_iff_ne.mpr c11
        have c11b1 : ((((rd_T26 l1 x17_1).f0).length : Int) != (wrap64 (a0_2 * a0_3))) = true := bne_iff_ne.mpr c11
        obtain rfl := Option.some.inj H
        have p895 : 0 ≤ (x17_1 : Int) := of_decide_eq_true (by first | (with_reducible assumption) | assumption)
        have q895 : x17_1 < (l1.length : Int) := of_decide_eq_true (by first | (with_reducible assumption) | assumption)
        obtain ⟨ad895, A895_0, c895_0, A895_1, c895_1, A895_2, c895_2, e895, hx895_0, hx895_1, hx895_2, hl895_0, hi895_0, hl895_1, hi895_1, hl895_2, hi895_2⟩ := at_T26 HR1.out x17_1 p895 q895
        cases e895
        replace hx895_0 := (HB.out.cell (World.block_lt_of_cell? w _ hx895_0)).trans hx895_0
        replace hx895_1 := (HB.out.cell (World.block_lt_of_cell? w _ hx895_1)).trans hx895_1
        replace hx895_2 := (HB.out.cell (World.block_lt_of_cell? w _ hx895_2)).trans hx895_2
        have HR895_0 := Aside0.mk hi895_0
        have HC895_0 := Aside0.mk hl895_0
        clear hi895_0 hl895_0
        have HR895_1 := Aside0.mk hi895_1
        have HC895_1 := Aside0.mk hl895_1
        clear hi895_1 hl895_1
        have HR895_2 := Aside0.mk hi895_2
        have HC895_2 := Aside0.mk hl895_2
        clear hi895_2 hl895_2
        replace p895 := eq_true p895
        replace q895 := eq_true q895
        go_wp2_with (first | ((with_reducible refine gate_dst (N := 7) rfl ?_); (try (refine gate_guard (by rfl) ?_; dsimp only)); refine box_event ?hg (N := 7) ?hd (cs := #[.slice none 0 0, .slice none 0 0, .slice none 0 0]) (t := 26) ?hr ?_; (case hd => rfl); (case hg => rfl); (case hr => first | (go_simp; done) | (go_simp; rfl)); intro gb896 hg w42 hbox hb; have n0_ := Aside0.mk (blk_below (g := gb893) (o := .cells #[.int .i64 a0_0, .int .i64 a0_1, .int .i64 a0_2, .int .i64 a0_3, .int .i64 a0_4] 23 (0, 0)) (by (with_reducible repeat (first | refine blk_drewN ?_ _ | refine blk_drew ?_ | refine blk_alloc ?_ _)); exact BK893.out) hb); have n1_ := Aside0.mk (below_step (by repeat (first | (with_reducible first | exact HB.out | apply below_alloc | apply pw_below_drewN | apply below_drew1 | refine below_set ?_ GE893.out) | exact HB.out)) hb); have n2_ := Aside0.mk (hbox); have n3_ := Aside0.mk ((by rw [hg]; exact (below_size (by repeat (first | (with_reducible first | exact HB.out | apply below_alloc | apply pw_below_drewN | apply below_drew1 | refine below_set ?_ GE893.out) | exact HB.out))) : w.heap.size ≤ gb896)); have n4_ := Aside0.mk ((by rw [hg]; exact (below_size (by repeat (first | (with_reducible first | exact HB.out | apply below_alloc | apply pw_below_drewN | apply below_drew1 | refine below_set ?_ GE893.out) | exact HB.out))) : w.heap.size ≤ gb896)); have n5_ := Aside0.mk ((by rw [hg]; exact Nat.ne_of_lt (blk_lt (g := gb893) (o := .cells #[.int .i64 a0_0, .int .i64 a0_1, .int .i64 a0_2, .int .i64 a0_3, .int .i64 a0_4] 23 (0, 0)) (by (with_reducible repeat (first | refine blk_drewN ?_ _ | refine blk_drew ?_ | refine blk_alloc ?_ _)); exact BK893.out)) : gb893 ≠ gb896)); have n6_ := Aside0.mk ((by rw [hg]; exact Nat.ne_of_gt (blk_lt (g := gb893) (o := .cells #[.int .i64 a0_0, .int .i64 a0_1, .int .i64 a0_2, .int .i64 a0_3, .int .i64 a0_4] 23 (0, 0)) (by (with_reducible repeat (first | refine blk_drewN ?_ _ | refine blk_drew ?_ | refine blk_alloc ?_ _)); exact BK893.out)) : gb896 ≠ gb893)); clear BK893; clear HB; have BK893 := n0_; have HB := n1_; have BK896 := n2_; have GW896 := n3_; have GE896 := n4_; have NB893_896 := n5_; have NB896_893 := n6_; clear n0_ n1_ n2_ n3_ n4_ n5_ n6_; clear hb hbox hg; have hnb43 := NB896_893.out; have hnc43 := NB893_896.out; have hcz44_0 : w42.cell? ⟨gb896, 0, none⟩ = some (.slice none 0 0) := (blk_cell BK896.out 0).trans rfl; have hcz44_1 : w42.cell? ⟨gb896, 1, none⟩ = some (.slice none 0 0) := (blk_cell BK896.out 1).trans rfl; have hcz44_2 : w42.cell? ⟨gb896, 2, none⟩ = some (.slice none 0 0) := (blk_cell BK896.out 2).trans rfl; have hfz44_0 := blk_frozen BK896.out 0; have hfz44_1 := blk_frozen BK896.out 1; have hfz44_2 := blk_frozen BK896.out 2; have hcz45_0 : w42.cell? ⟨gb893, 0, none⟩ = some (.int .i64 a0_0) := (blk_cell BK893.out 0).trans rfl; have hcz45_1 : w42.cell? ⟨gb893, 1, none⟩ = some (.int .i64 a0_1) := (blk_cell BK893.out 1).trans rfl; have hcz45_2 : w42.cell? ⟨gb893, 2, none⟩ = some (.int .i64 a0_2) := (blk_cell BK893.out 2).trans rfl; have hcz45_3 : w42.cell? ⟨gb893, 3, none⟩ = some (.int .i64 a0_3) := (blk_cell BK893.out 3).trans rfl; have hcz45_4 : w42.cell? ⟨gb893, 4, none⟩ = some (.int .i64 a0_4) := (blk_cell BK893.out 4).trans rfl; have hfz45_0 := blk_frozen BK893.out 0; have hfz45_1 := blk_frozen BK893.out 1; have hfz45_2 := blk_frozen BK893.out 2; have hfz45_3 := blk_frozen BK893.out 3; have hfz45_4 := blk_frozen BK893.out 4))
        go_ret
        exact ⟨by first | rfl | (simp [errW_none, errW_some] <;> rfl) | (simp [*, errW_none, errW_some] <;> rfl), by repeat (first | (with_reducible first | exact HB.out | apply below_alloc | apply pw_below_drewN | apply below_drew1 | refine below_set ?_ GE893.out | refine below_set ?_ GE896.out) | exact HB.out)⟩
      ·rw [if_neg c10] at H
       exact absurd H (by simp)
     ·rw [if_neg c9] at H
      exact absurd H (by simp)
    ·rw [if_neg c8] at H
     have c8b0 : decide (x17_1 < (l1.length : Int)) = false := decide_eq_false c8
     clear c8
     obtain rfl := Option.some.inj H
     go_wp2
     go_ret
     exact ⟨by first | rfl | (simp [errW_none, errW_some] <;> rfl) | (simp [*, errW_none, errW_some] <;> rfl), by repeat (first | (with_reducible first | exact HB.out | apply below_alloc | apply pw_below_drewN | apply below_drew1 | refine below_set ?_ GE893.out) | exact HB.out)⟩
 ·rw [if_neg c4] at H
  have c4b0 : (t894 == 0) = false := beq_eq_false_iff_ne.mpr c4
  have c4b1 : (t894 != 0) = true := bne_iff_ne.mpr c4
  obtain rfl := Option.some.inj H
  go_enter Try.func79, Try.ntmps79
  go_wp2_with (first | ((with_reducible refine gate_dst (N := 2) rfl ?_); (try (refine gate_guard (by rfl) ?_; dsimp only)); refine box_event ?hg (N := 2) ?hd (cs := #[.int .i64 a0_0, .int .i64 a0_1, .int .i64 a0_2, .int .i64 a0_3, .int .i64 a0_4]) (t := 23) ?hr ?_; (case hd => rfl); (case hg => rfl); (case hr => first | (go_simp; done) | (go_simp; rfl)); intro gb893 hg w46 hbox hb; have n0_ := Aside0.mk (below_step (by repeat (first | (with_reducible first | exact HB.out | apply below_alloc | apply pw_below_drewN | apply below_drew1) | exact HB.out)) hb); have n1_ := Aside0.mk (hbox); have n2_ := Aside0.mk ((by rw [hg]; exact (below_size (by repeat (first | (with_reducible first | exact HB.out | apply below_alloc | apply pw_below_drewN | apply below_drew1) | exact HB.out))) : w.heap.size ≤ gb893)); have n3_ := Aside0.mk ((by rw [hg]; exact (below_size (by repeat (first | (with_reducible first | exact HB.out | apply below_alloc | apply pw_below_drewN | apply below_drew1) | exact HB.out))) : w.heap.size ≤ gb893)); clear HB; have HB := n0_; have BK893 := n1_; have GW893 := n2_; have GE893 := n3_; clear n0_ n1_ n2_ n3_; clear hb hbox hg; have hcz47_0 : w46.cell? ⟨gb893, 0, none⟩ = some (.int .i64 a0_0) := (blk_cell BK893.out 0).trans rfl; have hcz47_1 : w46.cell? ⟨gb893, 1, none⟩ = some (.int .i64 a0_1) := (blk_cell BK893.out 1).trans rfl; have hcz47_2 : w46.cell? ⟨gb893, 2, none⟩ = some (.int .i64 a0_2) := (blk_cell BK893.out 2).trans rfl; have hcz47_3 : w46.cell? ⟨gb893, 3, none⟩ = some (.int .i64 a0_3) := (blk_cell BK893.out 3).trans rfl; have hcz47_4 : w46.cell? ⟨gb893, 4, none⟩ = some (.int .i64 a0_4) := (blk_cell BK893.out 4).trans rfl; have hfz47_0 := blk_frozen BK893.out 0; have hfz47_1 := blk_frozen BK893.out 1; have hfz47_2 := blk_frozen BK893.out 2; have hfz47_3 := blk_frozen BK893.out 3; have hfz47_4 := blk_frozen BK893.out 4) | ((with_reducible refine gate_callee (f := 109) rfl ?_); refine goesL_ (some 11) rfl rfl Try.func109 (by kernel_rfl) rfl #[.agg #[.int .i64 a0_0, .int .i64 a0_1, .int .i64 a0_2, .int .i64 a0_3, .int .i64 a0_4], .int .i64 (l1.length : Int)] rfl (by (try simp only [List.map_toArray, List.map_cons, List.map_nil]); first | done | rfl | (simp only [List.length_drop, List.length_take]; rfl)) ?_; (with_reducible refine (matrix_check.calls k a0_0 a0_1 a0_2 a0_3 a0_4 (l1.length : Int) t894 _ A3.out).mono ?_); rintro e w48 ⟨rfl, hb⟩; refine ⟨_, rfl, ?_⟩; have n0_ := Aside0.mk (blk_below (g := gb893) (o := .cells #[.int .i64 a0_0, .int .i64 a0_1, .int .i64 a0_2, .int .i64 a0_3, .int .i64 a0_4] 23 (0, 0)) (by (with_reducible repeat (first | refine blk_drewN ?_ _ | refine blk_drew ?_ | refine blk_alloc ?_ _)); exact BK893.out) hb); have n1_ := Aside0.mk (below_step (by repeat (first | (with_reducible first | exact HB.out | apply below_alloc | apply pw_below_drewN | apply below_drew1 | refine below_set ?_ GE893.out) | exact HB.out)) hb); clear BK893; clear HB; have BK893 := n0_; have HB := n1_; clear n0_ n1_; (try clear hb); (try clear hb2); (try clear hk); (try clear hi)))
  go_ret
  exact ⟨by first | rfl | (simp [errW_none, errW_some] <;> rfl) | (simp [*, errW_none, errW_some] <;> rfl), by repeat (first | (with_reducible first | exact HB.out | apply below_alloc | apply pw_below_drewN | apply below_drew1 | refine below_set ?_ GE893.out) | exact HB.out)⟩
end Go.Proofs.Ytcmaidpoolcelaa.P
