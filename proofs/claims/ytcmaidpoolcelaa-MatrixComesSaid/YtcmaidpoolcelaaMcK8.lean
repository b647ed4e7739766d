/- Functions of the program as plain Lean functions, and proofs that the machine's calls do what these do: written by a program of this workplace (wip/tools/pp.py). -/
import Derived.Test.YtcmaidpoolcelaaMcPx0
import Derived.Test.YtcmaidpoolcelaaMcK0
import Derived.Test.YtcmaidpoolcelaaMcK1
import Derived.Test.YtcmaidpoolcelaaMcK2
import Derived.Test.YtcmaidpoolcelaaMcK7
import Derived.Test.YtcmaidpoolcelaaMcSh
namespace Go.Proofs.Ytcmaidpoolcelaa.P
open Go.RowKit Go.Proofs.YtcmaidpoolcelaaW.PrintWords Go.Proofs.YtcmaidpoolcelaaW.PrintLast Go.Proofs.YtcmaidpoolcelaaW.PrintMore
attribute [local go_sem] max2_int min2_int max_two min_two max_three min_three max_four min_four   -- for this text's walks alone
set_option linter.unusedVariables false
set_option linter.unusedSimpArgs false

/-! ### ring_Bits: function 107 -/
def ring_Bits.l0 : Nat → Int → List Bool → Int → Int → Option (List Bool)
 | 0, _, _, _, _ => none
 | k + 1, x1, x5, x13, x14 => if x14 < x13 then (if 0 ≤ (IntKind.u64.wrap (x14)) then (if 0 ≤ x14 then (if x14 < (x5.length : Int) then (ring_Bits.l0 k x1 (x5.set (x14 : Int).toNat ((Go.bits .and .u64 (shr .u64 x1 (IntKind.u64.wrap (x14))) 1) == 1)) x13 (wrap64 (x14 + 1))) else (none)) else (none)) else (none)) else (some x5)
def ring_Bits.f (k : Nat) (a0 : Int) (a1 : Int) : Option (List Bool) := (ring_mask.f a0).bind fun t749 => (if t749 = 0 then (some ([] : List Bool)) else (if 0 ≤ a0 then (if (a0 : Int).toNat ≤ 281474976710656 then ((some (List.replicate (a0 : Int).toNat false : List Bool)).bind fun y750 => (ring_Bits.l0 k a1 y750 (y750.length : Int) 0)) else (none)) else (none)))
set_option maxHeartbeats 8000000 in
set_option maxRecDepth 100000 in
theorem ring_Bits.calls (k : Nat) (a0 : Int) (a1 : Int) (r : List Bool) (w : World) (h : ring_Bits.f k a0 a1 = some r) :
  Calls Try.prog 107 #[.int .i64 a0, .int .u64 a1] w fun e w' => ∃ v0_ : Value, e = .returned (v0_) ∧ Kd.R Kd.bool 4 w' w.heap.size (fun _ => True) v0_ r ∧ Below w.heap.size w w' := by
 have HB := Aside0.mk (Below.refl w.heap.size w)
 have H : ((ring_mask.f a0).bind fun t749 => (if t749 = 0 then (some ([] : List Bool)) else (if 0 ≤ a0 then (if (a0 : Int).toNat ≤ 281474976710656 then ((some (List.replicate (a0 : Int).toNat false : List Bool)).bind fun y750 => (ring_Bits.l0 k a1 y750 (y750.length : Int) 0)) else (none)) else (none)))) = some r := h
 clear h
 replace H := Option.bind_eq_some_iff.mp H
 obtain ⟨t749, A30, H⟩ := H
 replace H : (if t749 = 0 then (some ([] : List Bool)) else (if 0 ≤ a0 then (if (a0 : Int).toNat ≤ 281474976710656 then ((some (List.replicate (a0 : Int).toNat false : List Bool)).bind fun y750 => (ring_Bits.l0 k a1 y750 (y750.length : Int) 0)) else (none)) else (none))) = some r := H
 have A3 := Aside0.mk A30
 clear A30
 by_cases c4 : t749 = 0
 ·rw [if_pos c4] at H
  have c4b0 : (t749 == 0) = true := beq_iff_eq.mpr c4
  have c4b1 : (t749 != 0) = false := bne_eq_false_iff_eq.mpr c4
  clear c4
  obtain rfl := Option.some.inj H
  go_enter Try.func107, Try.ntmps107
  go_wp2_with (first | ((with_reducible refine gate_callee (f := 90) rfl ?_); refine goesL_ (some 8) rfl rfl Try.func90 (zq56) rfl #[.int .i64 a0] rfl (zq33) ?_; (with_reducible refine (ring_mask.calls a0 t749 _ A3.out).mono ?_); rintro e w' ⟨rfl, ⟨nd, rfl⟩⟩; refine ⟨_, rfl, ?_⟩))
  go_ret
  exact ⟨_, zq49, zq32, HB.bl⟩
 ·rw [if_neg c4] at H
  have c4b0 : (t749 == 0) = false := beq_eq_false_iff_ne.mpr c4
  have c4b1 : (t749 != 0) = true := bne_iff_ne.mpr c4
  by_cases c5 : 0 ≤ a0
  ·rw [if_pos c5] at H
   have c5b0 := eq_true c5
   have c5b1 : decide (0 ≤ a0) = true := decide_eq_true c5
   clear c5
   by_cases c6 : (a0 : Int).toNat ≤ 281474976710656
   ·rw [if_pos c6] at H
    have c6b0 := eq_true c6
    have c6b1 : decide ((a0 : Int).toNat ≤ 281474976710656) = true := decide_eq_true c6
    clear c6
    obtain ⟨y750, hy750⟩ : ∃ y_ : List Bool, y_ = (List.replicate (a0 : Int).toNat false) := ⟨_, rfl⟩
    replace H : (ring_Bits.l0 k a1 y750 (y750.length : Int) 0) = some r := by first | (rw [hy750]; with_reducible exact H) | (have H2_ := (Option.bind_some _ _).symm.trans H; rw [hy750]; with_reducible exact H2_) | (have H2_ := (Option.bind_some _ _).symm.trans H; with_reducible exact H2_) | with_reducible exact H | (rw [hy750]; exact H) | exact H
    have Ny750 := Aside0.mk hy750
    clear hy750
    have H' := Aside0.mk H
    clear H
    go_enter Try.func107, Try.ntmps107
    go_wp2_with (first | ((with_reducible refine gate_callee (f := 90) rfl ?_); refine goesL_ (some 8) rfl rfl Try.func90 (zq56) rfl #[.int .i64 a0] rfl (zq33) ?_; (with_reducible refine (ring_mask.calls a0 t749 _ A3.out).mono ?_); rintro e w' ⟨rfl, ⟨nd, rfl⟩⟩; refine ⟨_, rfl, ?_⟩) | ((with_reducible refine gate_dst (N := 11) rfl ?_); refine Kd.R_make Kd.bool _ 4 rfl (N := 11) rfl 32 _ _ rfl a0 rfl rfl Try.underlying32 (.bool false) 1 info4 rfl (by decide) (by omega) false (ok := fun _ => True) (okp := fun _ => True) rfl (fun _ hk => hk) trivial (of_decide_eq_true (zq51)) (Nat.le_trans (Nat.mul_le_mul_right _ (of_decide_eq_true (zq51) : a0.toNat ≤ 281474976710656)) (by omega)) (Below.refl _ _) (Nat.le_refl _) ?_; intro v751 w7 ho8 hb hg_ hnew_; clear hg_ hnew_; (first | rw [← Ny750.out] at ho8 | (simp only [Int.reduceToNat] at ho8; rw [← Ny750.out] at ho8)); have HO752 := Aside0.mk (Kd.R_lower ho8 (below_size HB.bl)); replace HB := Aside0.mk (below_step HB.bl hb); clear hb ho8; obtain ⟨Ao9, co9, eo9⟩ := Kd.R_slice HO752.out; subst eo9))
    go_loopg [14] k (fun kq v14 w' => ∃ (x5_1 : List Bool) (x14_1 : Int), v14 = .int .i64 x14_1 ∧ Aside0 (ring_Bits.l0 kq a1 x5_1 (y750.length : Int) x14_1 = some r) ∧ Aside0 (kq ≤ k) ∧ Aside0 (Kd.R Kd.bool 4 w' w.heap.size (fun _ => True) (.slice Ao9 y750.length co9) x5_1) ∧ Aside0 (Below w.heap.size w w'))
    case atStart => exact ⟨(y750), (0), (zq52), H', ⟨Nat.le_refl _⟩, ⟨HO752.r⟩, ⟨HB.bl⟩⟩
    case round =>
     clear H'
     try clear c1
     try clear p2
     try clear c4
     try clear c4b0
     try clear c4b1
     try clear c5
     try clear c5b0
     try clear c5b1
     try clear c6
     try clear c6b0
     try clear c6b1
     try clear c9
     obtain ⟨x5_1, x14_1, rfl, HA, HK1, HO_5, HB⟩ := hrel
     have hl5_1 := (Kd.R_reads' HO_5.out).1
     rw [hl5_1] at HO_5
     (try simp only [hl5_1])
     cases gk with
     | zero => exact absurd HA.out (by simp [ring_Bits.l0])
     | succ k1 =>
      have H := HA.out
      clear HA
      simp only [ring_Bits.l0] at H
      by_cases c10 : x14_1 < (y750.length : Int)
      ·rw [if_pos c10] at H
       have c10b0 : decide (x14_1 < (y750.length : Int)) = true := decide_eq_true c10
       clear c10
       obtain ⟨ji11, hji11⟩ : ∃ j_ : Int, (IntKind.u64.wrap (x14_1)) = j_ := ⟨_, rfl⟩
       replace H : (if 0 ≤ (ji11) then (if 0 ≤ x14_1 then (if x14_1 < (x5_1.length : Int) then (ring_Bits.l0 k1 a1 (x5_1.set (x14_1 : Int).toNat ((Go.bits .and .u64 (shr .u64 a1 (ji11)) 1) == 1)) (y750.length : Int) (wrap64 (x14_1 + 1))) else (none)) else (none)) else (none)) = some r := by first | (rw [hji11] at H; exact H) | (simp only [hji11] at H ⊢; exact H)
       by_cases c12 : 0 ≤ (ji11)
       ·rw [if_pos c12] at H
        have c12b0 := eq_true c12
        have c12b1 : decide (0 ≤ (ji11)) = true := decide_eq_true c12
        clear c12
        obtain ⟨ji13, hji13⟩ : ∃ j_ : Int, (shr .u64 a1 (ji11)) = j_ := ⟨_, rfl⟩
        replace H : (if 0 ≤ x14_1 then (if x14_1 < (x5_1.length : Int) then (ring_Bits.l0 k1 a1 (x5_1.set (x14_1 : Int).toNat ((Go.bits .and .u64 (ji13) 1) == 1)) (y750.length : Int) (wrap64 (x14_1 + 1))) else (none)) else (none)) = some r := by first | (rw [hji13] at H; exact H) | (simp only [hji13] at H ⊢; exact H)
        have hji13_ : (a1 / 2 ^ min (ji11).toNat 64) = ji13 := hji13
        have hji13z : (ji11) ≤ 64 → (a1 / 2 ^ (ji11).toNat) = ji13 := shr_small hji13
        by_cases c14 : 0 ≤ x14_1
        ·rw [if_pos c14] at H
         have c14b0 : decide (0 ≤ x14_1) = true := decide_eq_true c14
         clear c14
         by_cases c15 : x14_1 < (x5_1.length : Int)
         ·rw [if_pos c15] at H
          have c15b0 : decide (x14_1 < (x5_1.length : Int)) = true := decide_eq_true c15
          clear c15
          obtain ⟨y753, hy753⟩ : ∃ y_ : List Bool, y_ = (x5_1.set (x14_1 : Int).toNat ((Go.bits .and .u64 (ji13) 1) == 1)) := ⟨_, rfl⟩
          replace H : (ring_Bits.l0 k1 a1 y753 (y750.length : Int) (wrap64 (x14_1 + 1))) = some r := by first | (rw [hy753]; with_reducible exact H) | (have H2_ := (Option.bind_some _ _).symm.trans H; rw [hy753]; with_reducible exact H2_) | (have H2_ := (Option.bind_some _ _).symm.trans H; with_reducible exact H2_) | with_reducible exact H | (rw [hy753]; exact H) | exact H
          have Ny753 := Aside0.mk hy753
          clear hy753
          have H' := Aside0.mk H
          clear H
          have p16 : 0 ≤ (x14_1 : Int) := of_decide_eq_true (zq51)
          have q16 : (x14_1 : Int) < ((x5_1.length : Int) : Int) := of_decide_eq_true (zq51)
          obtain ⟨go16, co16, eo16, gb16, gl16, cl16, HG16⟩ := Kd.R_form HO_5.out (by omega)
          (first | cases eo16 | (injection eo16 with ea_ en_ ec_; (first | subst ea_ | (injection ea_ with ea_; subst ea_)); subst ec_; clear en_))
          have GB16 := Aside0.mk gb16
          have GG16 := Aside0.mk HG16
          clear gb16 gl16 HG16
          obtain ⟨hx16_0, hf16_0⟩ := Kd.R_celln false HO_5.out (x14_1 : Int) p16 q16
          replace p16 := eq_true p16
          replace q16 := eq_true q16
          have HP17 := Kd.R_putg HO_5.out (x14_1 : Int) ((Go.bits .and .u64 (ji13) 1) == 1)
          go_wp2_with (first | ((with_reducible refine gate_store (t := 4) (p := 25) rfl ?_); refine store_event (t := 4) (p := 25) (v := ?vo_w18) (w1 := (wr.setCell ⟨go16, (x14_1 : Int).toNat, none⟩ (.bool ((Go.bits .and .u64 (ji13) 1) == 1)))) ?hg ?ho ?hn ?hr ?_; (case ho => rfl); (case hg => rfl); (case hn => rfl); (case hr => first | (go_simp; done) | (go_simp; rfl)); intro w18 hw; have hg : wr.grownBy w18 (some go16) := (by rw [hw]; exact HP17.2); have hp_ : Kd.R Kd.bool 4 w18 w.heap.size (fun _ => True) (.slice (some ⟨go16, 0, none⟩) x5_1.length co9) y753 := (by rw [hw, Ny753.out]; exact HP17.1); clear HP17; replace HO_5 := Aside0.mk (hp_); replace HB := Aside0.mk ((by rw [hw]; exact below_set (HB.out) GB16.out : Below w.heap.size w w18)); clear hg hw hp_))
          (try simp only [← hl5_1])
          go_roundg k1
          case measure => have := HK1.out; omega
          case rel => exact ⟨(y753), (wrap64 (x14_1 + 1)), (zq52), H', ⟨zq55⟩, ⟨by (try simp only [hl5_1]); (with_reducible repeat (first | apply Kd.R_alloc | apply Kd.R_drewN | apply Kd.R_drew)); exact HO_5.out⟩, ⟨HB.bl⟩⟩
         ·rw [if_neg c15] at H
          exact absurd H (by simp)
        ·rw [if_neg c14] at H
         exact absurd H (by simp)
       ·rw [if_neg c12] at H
        exact absurd H (by simp)
      ·rw [if_neg c10] at H
       have c10b0 : decide (x14_1 < (y750.length : Int)) = false := decide_eq_false c10
       (try simp only [hl5_1] at c10b0)
       clear c10
       obtain rfl := Option.some.inj H
       go_wp2
       go_ret
       exact ⟨_, zq49, HO_5.r, HB.bl⟩
   ·rw [if_neg c6] at H
    exact absurd H (by simp)
  ·rw [if_neg c5] at H
   exact absurd H (by simp)
/-! ### gilboa_Choices: function 75 -/
mutual
def gilboa_Choices.j0 : Nat → Int → List Int → Bool → Option (Int × List Int × Int)
 | 0, _, _, _ => none
 | k + 1, x0, x1, x17 => if x17 = true then (some (0, ([] : List Int), 11)) else (gilboa_Choices.l0 k x0 ([] : List Bool) x1 (x1.length : Int) 0)
def gilboa_Choices.l0 : Nat → Int → List Bool → List Int → Int → Int → Option (Int × List Int × Int)
 | 0, _, _, _, _, _ => none
 | k + 1, x0, x6, x19, x20, x21 => if x21 < x20 then (if 0 ≤ x21 then (if x21 < (x19.length : Int) then ((ring_Bits.f k x0 (rd x19 x21)).bind fun t758 => (if x6.length + t758.length < 140737488355328 then (gilboa_Choices.l0 k x0 (x6 ++ t758) x19 x20 (wrap64 (x21 + 1))) else (none))) else (none)) else (none)) else ((bits_Of.f k x6).bind fun bt764 => (some (bt764.1, bt764.2.1, bt764.2.2)))
end
def gilboa_Choices.f (k : Nat) (a0 : Int) (l1 : List Int) : Option (Int × List Int × Int) := (gilboa_good.f a0 1).bind fun t755 => (if t755 = true then ((ring_Fits.f a0 l1).bind fun t756 => (gilboa_Choices.j0 k a0 l1 (!t756))) else (gilboa_Choices.j0 k a0 l1 true))
set_option maxHeartbeats 8000000 in
set_option maxRecDepth 100000 in
theorem gilboa_Choices.calls (k : Nat) (a0 : Int) (A1 : Option Addr) (c1 : Nat) (l1 : List Int) (r1 : Int) (r2 : List Int) (r3 : Int) (w : World) (hr1 : Kd.C (Kd.int .u64) w A1 l1.length l1) (hc1 : l1.length ≤ c1) (h : gilboa_Choices.f k a0 l1 = some (r1, r2, r3)) :
  Calls Try.prog 75 #[.int .i64 a0, .slice A1 l1.length c1] w fun e w' => ∃ v1_ : Value, e = .returned (.tuple #[.agg #[.int .i64 r1, v1_], .int .i64 r3]) ∧ Kd.R (Kd.int .u64) 35 w' w.heap.size (fun _ => True) v1_ r2 ∧ Below w.heap.size w w' := by
 have hu43 := Try.underlying43
 have HR1 := Aside0.mk hr1
 have HC1 := Aside0.mk hc1
 clear hr1 hc1
 have HB := Aside0.mk (Below.refl w.heap.size w)
 have H : ((gilboa_good.f a0 1).bind fun t755 => (if t755 = true then ((ring_Fits.f a0 l1).bind fun t756 => (gilboa_Choices.j0 k a0 l1 (!t756))) else (gilboa_Choices.j0 k a0 l1 true))) = some (r1, r2, r3) := h
 clear h
 have HC3 := Aside0.mk H
 clear H
 go_enter Try.func75, Try.ntmps75
 go_upto_region 1 with (first | ((with_reducible refine gate_dst (N := 4) rfl ?_); refine box_event ?hg (N := 4) ?hd (cs := #[.int .i64 0, .slice none 0 0]) (t := 43) ?hr ?_; (case hd => rfl); (case hg => rfl); (case hr => first | (go_simp; done) | (go_simp; rfl)); intro gb754 hg w4 hbox hb; have n0_ := Aside0.mk (below_step HB.bl hb); have n1_ := Aside0.mk (hbox); have n2_ := Aside0.mk ((zq54 : w.heap.size ≤ gb754)); have n3_ := Aside0.mk ((zq54 : w.heap.size ≤ gb754)); clear HB; have HB := n0_; have BK754 := n1_; have GW754 := n2_; have GE754 := n3_; clear n0_ n1_ n2_ n3_; clear hb hbox hg))
 (try simp only [Act.put, List.setIfInBounds_toArray, List.set_cons_zero, List.set_cons_succ])
 go_cut [17] (fun v17 wc => ∃ (kq : Nat) (x17_2 : Bool), v17 = .bool x17_2 ∧ Aside0 (gilboa_Choices.j0 kq a0 l1 x17_2 = some (r1, r2, r3)) ∧ Aside0 (kq ≤ k) ∧ Aside0 (wc.heap[gb754]? = some (.cells #[.int .i64 0, (.slice none 0 0)] 43 (0, 0))) ∧ Aside0 (Below w.heap.size w wc))
 case first =>
  have H := HC3.out
  clear HC3
  replace H := Option.bind_eq_some_iff.mp H
  obtain ⟨t755, A50, H⟩ := H
  replace H : (if t755 = true then ((ring_Fits.f a0 l1).bind fun t756 => (gilboa_Choices.j0 k a0 l1 (!t756))) else (gilboa_Choices.j0 k a0 l1 true)) = some (r1, r2, r3) := H
  have A5 := Aside0.mk A50
  clear A50
  by_cases c6 : t755 = true
  ·subst c6
   have H1 : ((ring_Fits.f a0 l1).bind fun t756 => (gilboa_Choices.j0 k a0 l1 (!t756))) = some (r1, r2, r3) := by rw [if_pos rfl] at H; exact H
   clear H
   have H := H1
   clear H1
   replace H := Option.bind_eq_some_iff.mp H
   obtain ⟨t756, A70, H⟩ := H
   replace H : (gilboa_Choices.j0 k a0 l1 (!t756)) = some (r1, r2, r3) := H
   have A7 := Aside0.mk A70
   clear A70
   have H' := Aside0.mk H
   clear H
   go_wp2_with (first | ((with_reducible refine gate_callee (f := 105) rfl ?_); refine goesL_ (some 10) rfl rfl Try.func105 (zq56) rfl #[.int .i64 a0, .int .i64 1] rfl (zq33) ?_; (with_reducible refine (gilboa_good.calls a0 1 true _ A5.out).mono ?_); rintro e w' ⟨rfl, ⟨nd, rfl⟩⟩; refine ⟨_, rfl, ?_⟩) | (go_at_call 65; (with_reducible refine (ring_Fits.calls a0 _ _ l1 t756 _ ?side1 ?side2 A7.out).mono ?_); (case side1 => repeat (first | exact (Kd.C_below HR1.out HB.bl) | (with_reducible refine Kd.C_alloc ?_ _) | (with_reducible refine Kd.C_drewN ?_ _) | (with_reducible refine Kd.C_drew ?_))); (case side2 => exact HC1.out); rintro e w8 ⟨rfl, hb⟩; replace BK754 := Aside0.mk (BK754.lk hb); replace HB := Aside0.mk (below_step HB.bl hb); (try clear hb); (try clear hb2); (try clear hk); (try clear hi)))
   go_meet
   case rel => exact ⟨_, (!t756), (zq52), H', ⟨zq53⟩, ⟨zq45⟩, ⟨zq27⟩⟩
  ·replace c6 := Bool.eq_false_iff.mpr c6
   subst c6
   have H1 : (gilboa_Choices.j0 k a0 l1 true) = some (r1, r2, r3) := by rw [if_neg (show ¬ (false = true) by decide)] at H; exact H
   clear H
   have H := H1
   clear H1
   have H' := Aside0.mk H
   clear H
   go_wp2_with (first | ((with_reducible refine gate_callee (f := 105) rfl ?_); refine goesL_ (some 10) rfl rfl Try.func105 (zq56) rfl #[.int .i64 a0, .int .i64 1] rfl (zq33) ?_; (with_reducible refine (gilboa_good.calls a0 1 false _ A5.out).mono ?_); rintro e w' ⟨rfl, ⟨nd, rfl⟩⟩; refine ⟨_, rfl, ?_⟩))
   go_meet
   case rel => exact ⟨_, (true), (zq52), H', ⟨zq53⟩, ⟨zq45⟩, ⟨zq27⟩⟩
 case rest =>
  clear HC3
  try clear c1
  try clear p2
  try clear c6
  try clear c7
  obtain ⟨kq, x17_2, rfl, HA, HJ2, BK754, HB⟩ := hcut
  cases kq with
  | zero => exact absurd HA.out (by simp [gilboa_Choices.j0])
  | succ kj2 =>
   have H := HA.out
   clear HA
   simp only [gilboa_Choices.j0] at H
   by_cases c9 : x17_2 = true
   ·subst c9
    have H1 : (some (0, ([] : List Int), 11)) = some (r1, r2, r3) := by rw [if_pos rfl] at H; exact H
    clear H
    have H := H1
    clear H1
    simp only [Option.some.injEq, Prod.mk.injEq] at H
    obtain ⟨rfl, rfl, rfl⟩ := H
    obtain ⟨hcz10_0, hcz10_1, hfz10_0, hfz10_1⟩ := cells_2 BK754.out
    go_wp2
    refine bodyPost_ret (results_ct rfl _ _ gb754 43 #[.int .i64 0, .slice none 0 0] (0, 0) _ rfl (by (with_reducible repeat (first | refine blk_drewN ?_ _ | refine blk_drew ?_ | refine blk_alloc ?_ _)); refine blk_put (cs := #[.int .i64 0, .slice none 0 0]) ?_ 1 _ rfl; (with_reducible repeat (first | refine blk_drewN ?_ _ | refine blk_drew ?_ | refine blk_alloc ?_ _)); refine blk_put (cs := #[.int .i64 0, .slice none 0 0]) ?_ 0 _ rfl; (with_reducible repeat (first | refine blk_drewN ?_ _ | refine blk_drew ?_ | refine blk_alloc ?_ _)); exact BK754.out) Try.underlying43 rfl (zq56)) rfl ?_
    exact ⟨_, zq49, zq32, zq27⟩
   ·replace c9 := Bool.eq_false_iff.mpr c9
    subst c9
    have H1 : (gilboa_Choices.l0 kj2 a0 ([] : List Bool) l1 (l1.length : Int) 0) = some (r1, r2, r3) := by rw [if_neg (show ¬ (false = true) by decide)] at H; exact H
    clear H
    have H := H1
    clear H1
    have H' := Aside0.mk H
    clear H
    go_wp2
    go_loopg [6, 21] kj2 (fun kq v6 v21 w' => ∃ (x6_2 : List Bool) (x21_2 : Int), v21 = .int .i64 x21_2 ∧ Aside0 (gilboa_Choices.l0 kq a0 x6_2 l1 (l1.length : Int) x21_2 = some (r1, r2, r3)) ∧ Aside0 (kq ≤ kj2) ∧ Aside0 (Kd.R Kd.bool 4 w' w.heap.size (fun _ => True) v6 x6_2) ∧ Aside0 (w'.heap[gb754]? = some (.cells #[.int .i64 0, (.slice none 0 0)] 43 (0, 0))) ∧ Aside0 (Below w.heap.size w w'))
    case atStart => exact ⟨(([] : List Bool)), (0), (zq52), H', ⟨Nat.le_refl _⟩, ⟨zq32⟩, ⟨zq45⟩, ⟨zq27⟩⟩
    case round =>
     clear H'
     try clear c1
     try clear p2
     try clear c6
     try clear c7
     try clear c9
     try clear c10
     try clear hcz10_0
     try clear hcz10_1
     try clear hfz10_0
     try clear hfz10_1
     try clear p2
     obtain ⟨x6_2, x21_2, rfl, HA, HK2, HO_6, BK754, HB⟩ := hrel
     cases gk with
     | zero => exact absurd HA.out (by simp [gilboa_Choices.l0])
     | succ k2 =>
      have H := HA.out
      clear HA
      simp only [gilboa_Choices.l0] at H
      by_cases c11 : x21_2 < (l1.length : Int)
      ·rw [if_pos c11] at H
       have c11b0 : decide (x21_2 < (l1.length : Int)) = true := decide_eq_true c11
       clear c11
       by_cases c12 : 0 ≤ x21_2
       ·rw [if_pos c12] at H
        have c12b0 : decide (0 ≤ x21_2) = true := decide_eq_true c12
        clear c12
        by_cases c13 : x21_2 < (l1.length : Int)
        ·rw [if_pos c13] at H
         have c13b0 : decide (x21_2 < (l1.length : Int)) = true := decide_eq_true c13
         clear c13
         replace H := Option.bind_eq_some_iff.mp H
         obtain ⟨t758, A140, H⟩ := H
         replace H : (if x6_2.length + t758.length < 140737488355328 then (gilboa_Choices.l0 k2 a0 (x6_2 ++ t758) l1 (l1.length : Int) (wrap64 (x21_2 + 1))) else (none)) = some (r1, r2, r3) := H
         have A14 := Aside0.mk A140
         clear A140
         by_cases c15 : x6_2.length + t758.length < 140737488355328
         ·rw [if_pos c15] at H
          have LMc15 := Aside0.mk c15
          clear c15
          obtain ⟨y761, hy761⟩ : ∃ y_ : List Bool, y_ = (x6_2 ++ t758) := ⟨_, rfl⟩
          replace H : (gilboa_Choices.l0 k2 a0 y761 l1 (l1.length : Int) (wrap64 (x21_2 + 1))) = some (r1, r2, r3) := by first | (rw [hy761]; with_reducible exact H) | (have H2_ := (Option.bind_some _ _).symm.trans H; rw [hy761]; with_reducible exact H2_) | (have H2_ := (Option.bind_some _ _).symm.trans H; with_reducible exact H2_) | with_reducible exact H | (rw [hy761]; exact H) | exact H
          have Ny761 := Aside0.mk hy761
          clear hy761
          have H' := Aside0.mk H
          clear H
          have p757 : 0 ≤ (x21_2 : Int) := of_decide_eq_true (zq51)
          have q757 : x21_2 < (l1.length : Int) := of_decide_eq_true (zq51)
          obtain ⟨ad757, e757, hx757_0⟩ := Kd.at_int HR1.out x21_2 p757 q757
          cases e757
          replace hx757_0 := (HB.out.cell (World.block_lt_of_cell? w _ hx757_0)).trans hx757_0
          replace p757 := eq_true p757
          replace q757 := eq_true q757
          go_wp2_with (first | ((with_reducible refine gate_callee (f := 107) rfl ?_); refine goesL_ (some 28) rfl rfl Try.func107 (zq56) rfl #[.int .i64 a0, .int .u64 (rd l1 x21_2)] rfl (zq33) ?_; (with_reducible refine (ring_Bits.calls k2 a0 (rd l1 x21_2) t758 _ A14.out).mono ?_); rintro e w16 ⟨v759, rfl, ho0, hb⟩; refine ⟨_, rfl, ?_⟩; have n0_ := Aside0.mk (Kd.R_elder' HO_6.r (Kd.R_base ho0) hb); have n1_ := Aside0.mk (Kd.R_lower (Kd.R_new' ho0 (Kd.R_lt HO_6.r)) (below_size HB.bl)); have n2_ := Aside0.mk (BK754.lk hb); have n3_ := Aside0.mk (below_step HB.bl hb); clear HO_6; clear BK754; clear HB; have HO_6 := n0_; have HO760 := n1_; have BK754 := n2_; have HB := n3_; clear n0_ n1_ n2_ n3_; (try clear hb); (try clear hb2); (try clear hk); (try clear hi); (try clear ho0); obtain ⟨Ao18, co18, eo18⟩ := Kd.R_slice HO760.out; subst eo18) | ((with_reducible refine gate_builtin (b := .append) (xs := #[.tmp 25, .tmp 28]) rfl ?_); at_builtin; refine Kd.R_append_rows Kd.bool (w0 := w) w.heap.size rfl (.tmp 25) (.tmp 28) 32 4 (.bool false) 1 rfl Try.underlying32 info4 rfl (by decide) (by omega) u6 x6_2 t758 _ _ _ (fun k_ => some k_ ≠ (.slice Ao18 t758.length co18 : Value).ownBlock) (fun _ => False) rfl rfl ?aO ?aR (fun _ _ h => h) (fun _ h => h.elim) ?aF ?aB ?aS ?aL ?_; (case aR => repeat (first | exact (Kd.R_reads' HO760.out).2.2 | (with_reducible refine Kd.C_alloc ?_ _) | (with_reducible refine Kd.C_drewN ?_ _) | (with_reducible refine Kd.C_drew ?_))); (case aB => exact HB.bl); (case aF => exact (fun k_ hk => Kd.fresh' (Kd.R_lt HO760.r) k_ hk)); (case aO => exact (by (with_reducible repeat (first | apply Kd.R_alloc | apply Kd.R_drewN | apply Kd.R_drew)); exact Kd.R_mono HO_6.out (fun _ hk => hk.2))); (case aS => exact (below_size HB.bl)); (case aL => have := LMc15.out; omega); intro v762 w17 ho hb hg hat; rw [← Ny761.out] at ho; replace BK754 := Aside0.mk (blk_grown (g := gb754) (o := .cells #[.int .i64 0, .slice none 0 0] 43 (0, 0)) (zq45) hg (Kd.R_ne HO_6.out BK754.out (by decide))); replace HO760 := Aside0.mk (Kd.R_after (ok := (fun _ => True)) HO760.r hg hat); replace HB := Aside0.mk (hb); have HO763 := Aside0.mk (ho); clear HO_6; clear ho hb hg hat))
          go_roundg k2
          case measure => have := HJ2.out; have := HK2.out; omega
          case rel => exact ⟨(y761), (wrap64 (x21_2 + 1)), (zq52), H', ⟨by have := HJ2.out; have := HK2.out; omega⟩, ⟨by (with_reducible repeat (first | apply Kd.R_alloc | apply Kd.R_drewN | apply Kd.R_drew)); exact Kd.R_mono HO763.out (fun _ hk => trivial)⟩, ⟨zq45⟩, ⟨zq27⟩⟩
         ·rw [if_neg c15] at H
          exact absurd H (by simp)
        ·rw [if_neg c13] at H
         exact absurd H (by simp)
       ·rw [if_neg c12] at H
        exact absurd H (by simp)
      ·rw [if_neg c11] at H
       have c11b0 : decide (x21_2 < (l1.length : Int)) = false := decide_eq_false c11
       clear c11
       replace H := Option.bind_eq_some_iff.mp H
       obtain ⟨⟨t764, t765, t768⟩, A190, H⟩ := H
       replace H : (some (t764, t765, t768)) = some (r1, r2, r3) := H
       have A19 := Aside0.mk A190
       clear A190
       simp only [Option.some.injEq, Prod.mk.injEq] at H
       obtain ⟨rfl, rfl, rfl⟩ := H
       obtain ⟨Ao20, co20, eo20⟩ := Kd.R_slice HO_6.out
       subst eo20
       go_wp2_with (first | ((with_reducible refine gate_callee (f := 67) rfl ?_); refine goesL_ (some 32) rfl rfl Try.func67 (zq56) rfl #[.slice Ao20 x6_2.length co20] rfl (zq33) ?_; (with_reducible refine (bits_Of.calls k2 _ _ x6_2 t764 t765 t768 _ ?side1 ?side2 A19.out).mono ?_); (case side1 => repeat (first | exact (Kd.R_reads' HO_6.out).2.2 | (with_reducible refine Kd.C_alloc ?_ _) | (with_reducible refine Kd.C_drewN ?_ _) | (with_reducible refine Kd.C_drew ?_))); (case side2 => exact (Kd.R_reads' HO_6.out).2.1); rintro e w21 ⟨v766, rfl, ho0, hb⟩; refine ⟨_, rfl, ?_⟩; replace HO_6 := Aside0.mk (Kd.R_below HO_6.r hb); have HO767 := Aside0.mk (Kd.R_lower ho0 (below_size HB.bl)); replace BK754 := Aside0.mk (BK754.lk hb); replace HB := Aside0.mk (below_step HB.bl hb); (try clear hb); (try clear hb2); (try clear hk); (try clear hi); (try clear ho0); obtain ⟨hcz22_0, hcz22_1, hfz22_0, hfz22_1⟩ := cells_2 BK754.out; obtain ⟨Ao23, co23, eo23⟩ := Kd.R_slice HO767.out; subst eo23))
       refine bodyPost_ret (results_ct rfl _ _ gb754 43 #[.int .i64 t764, .slice Ao23 t765.length co23] (0, 0) _ rfl (by (with_reducible repeat (first | refine blk_drewN ?_ _ | refine blk_drew ?_ | refine blk_alloc ?_ _)); refine blk_put (cs := #[.int .i64 t764, .slice none 0 0]) ?_ 1 _ rfl; (with_reducible repeat (first | refine blk_drewN ?_ _ | refine blk_drew ?_ | refine blk_alloc ?_ _)); refine blk_put (cs := #[.int .i64 0, .slice none 0 0]) ?_ 0 _ rfl; (with_reducible repeat (first | refine blk_drewN ?_ _ | refine blk_drew ?_ | refine blk_alloc ?_ _)); exact BK754.out) Try.underlying43 rfl (zq56)) rfl ?_
       exact ⟨_, zq49, by (with_reducible repeat (first | apply Kd.R_alloc | apply Kd.R_drewN | apply Kd.R_drew)); exact Kd.R_mono (Kd.R_far (p := ⟨gb754, 1, none⟩) (Kd.R_far (p := ⟨gb754, 0, none⟩) (Kd.R_types HO767.out BK754.out (by decide)) (fun _ hk => hk.2) (.int .i64 t764)) (fun _ hk => hk.2) (.slice Ao23 t765.length co23)) (fun _ hk => trivial), zq27⟩

/-! ### ring_Scale: function 108 -/
def ring_Scale.l0 : Nat → Int → Int → List Int → List Int → Int → Int → Option (List Int)
 | 0, _, _, _, _, _, _ => none
 | k + 1, x0, x1, x7, x13, x14, x15 => if x15 < x14 then (if 0 ≤ x15 then (if x15 < (x13.length : Int) then ((ring_Mul.f x0 x1 (rd x13 x15)).bind fun t804 => (if x15 < (x7.length : Int) then (ring_Scale.l0 k x0 x1 (x7.set (x15 : Int).toNat t804) x13 x14 (wrap64 (x15 + 1))) else (none))) else (none)) else (none)) else (some x7)
def ring_Scale.f (k : Nat) (a0 : Int) (a1 : Int) (l2 : List Int) : Option (List Int) := if 0 ≤ (l2.length : Int) then (if ((l2.length : Int) : Int).toNat ≤ 35184372088832 then (ring_Scale.l0 k a0 a1 (List.replicate ((l2.length : Int) : Int).toNat 0) l2 (l2.length : Int) 0) else (none)) else (none)
set_option maxHeartbeats 8000000 in
set_option maxRecDepth 100000 in
theorem ring_Scale.calls (k : Nat) (a0 : Int) (a1 : Int) (A2 : Option Addr) (c2 : Nat) (l2 : List Int) (r : List Int) (w : World) (hr2 : Kd.C (Kd.int .u64) w A2 l2.length l2) (hc2 : l2.length ≤ c2) (h : ring_Scale.f k a0 a1 l2 = some r) :
  Calls Try.prog 108 #[.int .i64 a0, .int .u64 a1, .slice A2 l2.length c2] w fun e w' => ∃ v0_ : Value, e = .returned (v0_) ∧ Kd.R (Kd.int .u64) 35 w' w.heap.size (fun _ => True) v0_ r ∧ Below w.heap.size w w' := by
 have HR2 := Aside0.mk hr2
 have HC2 := Aside0.mk hc2
 clear hr2 hc2
 have HB := Aside0.mk (Below.refl w.heap.size w)
 have H : (if 0 ≤ (l2.length : Int) then (if ((l2.length : Int) : Int).toNat ≤ 35184372088832 then (ring_Scale.l0 k a0 a1 (List.replicate ((l2.length : Int) : Int).toNat 0) l2 (l2.length : Int) 0) else (none)) else (none)) = some r := h
 clear h
 by_cases c4 : 0 ≤ (l2.length : Int)
 ·rw [if_pos c4] at H
  have c4b0 := eq_true c4
  have c4b1 : decide (0 ≤ (l2.length : Int)) = true := decide_eq_true c4
  clear c4
  by_cases c5 : ((l2.length : Int) : Int).toNat ≤ 35184372088832
  ·rw [if_pos c5] at H
   have c5b0 := eq_true c5
   have c5b1 : decide (((l2.length : Int) : Int).toNat ≤ 35184372088832) = true := decide_eq_true c5
   clear c5
   obtain ⟨y800, hy800⟩ : ∃ y_ : List Int, y_ = (List.replicate ((l2.length : Int) : Int).toNat 0) := ⟨_, rfl⟩
   replace H : (ring_Scale.l0 k a0 a1 y800 l2 (l2.length : Int) 0) = some r := by first | (rw [hy800]; with_reducible exact H) | (have H2_ := (Option.bind_some _ _).symm.trans H; rw [hy800]; with_reducible exact H2_) | (have H2_ := (Option.bind_some _ _).symm.trans H; with_reducible exact H2_) | with_reducible exact H | (rw [hy800]; exact H) | exact H
   have Ny800 := Aside0.mk hy800
   clear hy800
   have H' := Aside0.mk H
   clear H
   go_enter Try.func108, Try.ntmps108
   go_wp2_with (first | ((with_reducible refine gate_dst (N := 12) rfl ?_); refine Kd.R_make (Kd.int .u64) _ 35 rfl (N := 12) rfl 24 _ _ rfl (l2.length : Int) rfl rfl Try.underlying24 (.int .u64 0) 8 info35 rfl (by decide) (by omega) 0 (ok := fun _ => True) (okp := fun _ => True) rfl (fun _ hk => hk) trivial (of_decide_eq_true (zq51)) (Nat.le_trans (Nat.mul_le_mul_right _ (of_decide_eq_true (zq51) : (l2.length : Int).toNat ≤ 35184372088832)) (by omega)) (Below.refl _ _) (Nat.le_refl _) ?_; intro v801 w6 ho7 hb hg_ hnew_; clear hg_ hnew_; (first | rw [← Ny800.out] at ho7 | (simp only [Int.reduceToNat] at ho7; rw [← Ny800.out] at ho7)); have HO802 := Aside0.mk (Kd.R_lower ho7 (below_size HB.bl)); replace HB := Aside0.mk (below_step HB.bl hb); clear hb ho7))
   go_loopg [15] k (fun kq v15 w' => ∃ (x7_1 : List Int) (x15_1 : Int), v15 = .int .i64 x15_1 ∧ Aside0 (ring_Scale.l0 kq a0 a1 x7_1 l2 (l2.length : Int) x15_1 = some r) ∧ Aside0 (kq ≤ k) ∧ Aside0 (Kd.R (Kd.int .u64) 35 w' w.heap.size (fun _ => True) v801 x7_1) ∧ Aside0 (Below w.heap.size w w'))
   case atStart => exact ⟨(y800), (0), (zq52), H', ⟨Nat.le_refl _⟩, ⟨HO802.r⟩, ⟨HB.bl⟩⟩
   case round =>
    clear H'
    try clear c1
    try clear c2
    try clear p2
    try clear c4
    try clear c4b0
    try clear c4b1
    try clear c5
    try clear c5b0
    try clear c5b1
    obtain ⟨x7_1, x15_1, rfl, HA, HK1, HO_7, HB⟩ := hrel
    cases gk with
    | zero => exact absurd HA.out (by simp [ring_Scale.l0])
    | succ k1 =>
     have H := HA.out
     clear HA
     simp only [ring_Scale.l0] at H
     by_cases c8 : x15_1 < (l2.length : Int)
     ·rw [if_pos c8] at H
      have c8b0 : decide (x15_1 < (l2.length : Int)) = true := decide_eq_true c8
      clear c8
      by_cases c9 : 0 ≤ x15_1
      ·rw [if_pos c9] at H
       have c9b0 : decide (0 ≤ x15_1) = true := decide_eq_true c9
       clear c9
       by_cases c10 : x15_1 < (l2.length : Int)
       ·rw [if_pos c10] at H
        have c10b0 : decide (x15_1 < (l2.length : Int)) = true := decide_eq_true c10
        clear c10
        replace H := Option.bind_eq_some_iff.mp H
        obtain ⟨t804, A110, H⟩ := H
        replace H : (if x15_1 < (x7_1.length : Int) then (ring_Scale.l0 k1 a0 a1 (x7_1.set (x15_1 : Int).toNat t804) l2 (l2.length : Int) (wrap64 (x15_1 + 1))) else (none)) = some r := H
        have A11 := Aside0.mk A110
        clear A110
        by_cases c12 : x15_1 < (x7_1.length : Int)
        ·rw [if_pos c12] at H
         have c12b0 : decide (x15_1 < (x7_1.length : Int)) = true := decide_eq_true c12
         clear c12
         obtain ⟨y805, hy805⟩ : ∃ y_ : List Int, y_ = (x7_1.set (x15_1 : Int).toNat t804) := ⟨_, rfl⟩
         replace H : (ring_Scale.l0 k1 a0 a1 y805 l2 (l2.length : Int) (wrap64 (x15_1 + 1))) = some r := by first | (rw [hy805]; with_reducible exact H) | (have H2_ := (Option.bind_some _ _).symm.trans H; rw [hy805]; with_reducible exact H2_) | (have H2_ := (Option.bind_some _ _).symm.trans H; with_reducible exact H2_) | with_reducible exact H | (rw [hy805]; exact H) | exact H
         have Ny805 := Aside0.mk hy805
         clear hy805
         have H' := Aside0.mk H
         clear H
         have p803 : 0 ≤ (x15_1 : Int) := of_decide_eq_true (zq51)
         have q803 : x15_1 < (l2.length : Int) := of_decide_eq_true (zq51)
         obtain ⟨ad803, e803, hx803_0⟩ := Kd.at_int HR2.out x15_1 p803 q803
         cases e803
         replace hx803_0 := (HB.out.cell (World.block_lt_of_cell? w _ hx803_0)).trans hx803_0
         replace p803 := eq_true p803
         replace q803 := eq_true q803
         go_wp2_with (first | ((with_reducible refine gate_callee (f := 55) rfl ?_); refine goesL_ (some 25) rfl rfl Try.func55 (zq56) rfl #[.int .i64 a0, .int .u64 a1, .int .u64 (rd l2 x15_1)] rfl (zq33) ?_; (with_reducible refine (ring_Mul.calls a0 a1 (rd l2 x15_1) t804 _ A11.out).mono ?_); rintro e w' ⟨rfl, ⟨nd, rfl⟩⟩; refine ⟨_, rfl, ?_⟩; (try (rw [drewN_self wr]; generalize hq_ : World.drewN wr _ = wr; have n0_ : Aside0 (Kd.R (Kd.int .u64) 35 wr w.heap.size (fun _ => True) v801 x7_1) := ⟨by rw [← hq_]; exact HO_7.r⟩; have n1_ : Aside0 (Below w.heap.size w wr) := ⟨by rw [← hq_]; exact HB.bl⟩; clear HO_7 HB hq_; have HO_7 := n0_; have HB := n1_; clear n0_ n1_)); have p13 : 0 ≤ (x15_1 : Int) := of_decide_eq_true (zq51); have q13 : (x15_1 : Int) < ((x7_1.length : Int) : Int) := of_decide_eq_true (zq51); obtain ⟨go13, co13, eo13, gb13, gl13, cl13, HG13⟩ := Kd.R_form HO_7.out (by omega); (first | cases eo13 | (injection eo13 with ea_ en_ ec_; (first | subst ea_ | (injection ea_ with ea_; subst ea_)); subst ec_; clear en_)); have GB13 := Aside0.mk gb13; have GG13 := Aside0.mk HG13; clear gb13 gl13 HG13; obtain ⟨hx13_0, hf13_0⟩ := Kd.R_celln 0 HO_7.out (x15_1 : Int) p13 q13; replace p13 := eq_true p13; replace q13 := eq_true q13; obtain ⟨hy14_, hz14_⟩ := Kd.R_celln 0 HO_7.out (x15_1 : Int) (of_decide_eq_true (zq51)) (of_decide_eq_true (zq51)); have HP14 := Kd.R_putg HO_7.out (x15_1 : Int) t804) | ((with_reducible refine gate_store (t := 35) (p := 26) rfl ?_); refine store_event (t := 35) (p := 26) (v := ?vo_w15) (w1 := (wr.setCell ⟨go13, (x15_1 : Int).toNat, none⟩ (.int .u64 t804))) ?hg ?ho ?hn ?hr ?_; (case ho => rfl); (case hg => rfl); (case hn => rfl); (case hr => first | (go_simp; done) | (go_simp; rfl)); intro w15 hw; have hg : wr.grownBy w15 (some go13) := (by rw [hw]; exact HP14.2); have hp_ : Kd.R (Kd.int .u64) 35 w15 w.heap.size (fun _ => True) (.slice (some ⟨go13, 0, none⟩) x7_1.length co13) y805 := (by rw [hw, Ny805.out]; exact HP14.1); clear HP14; replace HO_7 := Aside0.mk (hp_); replace HB := Aside0.mk ((by rw [hw]; exact below_set (HB.out) GB13.out : Below w.heap.size w w15)); clear hg hw hp_))
         go_roundg k1
         case measure => have := HK1.out; omega
         case rel => exact ⟨(y805), (wrap64 (x15_1 + 1)), (zq52), H', ⟨zq55⟩, ⟨HO_7.r⟩, ⟨HB.bl⟩⟩
        ·rw [if_neg c12] at H
         exact absurd H (by simp)
       ·rw [if_neg c10] at H
        exact absurd H (by simp)
      ·rw [if_neg c9] at H
       exact absurd H (by simp)
     ·rw [if_neg c8] at H
      have c8b0 : decide (x15_1 < (l2.length : Int)) = false := decide_eq_false c8
      clear c8
      obtain rfl := Option.some.inj H
      go_wp2
      go_ret
      exact ⟨_, zq49, HO_7.r, HB.bl⟩
  ·rw [if_neg c5] at H
   exact absurd H (by simp)
 ·rw [if_neg c4] at H
  exact absurd H (by simp)

/-! ### gilboa_Spread: function 77 -/
mutual
def gilboa_Spread.j0 : Nat → Int → Int → List Int → Bool → Option (List Int × Int)
 | 0, _, _, _, _ => none
 | k + 1, x0, x1, x2, x27 => if x27 = true then (some (([] : List Int), 11)) else (if 0 ≤ (wrap64 (x0 * (x2.length : Int))) then (if (wrap64 (x0 * (x2.length : Int)) : Int).toNat ≤ 35184372088832 then (gilboa_Spread.l0 k x0 x1 x2 (([] : List Int)) 0) else (none)) else (none))
def gilboa_Spread.l0 : Nat → Int → Int → List Int → List Int → Int → Option (List Int × Int)
 | 0, _, _, _, _, _ => none
 | k + 1, x0, x1, x2, x8, x9 => if x9 < (x2.length : Int) then (if 0 ≤ x9 then (if x9 ≤ (wrap64 (x9 + x1)) then (if (wrap64 (x9 + x1)) ≤ (x2.length : Int) then (gilboa_Spread.l1 k x0 x1 x2 x8 x9 ((x2.take ((wrap64 (x9 + x1)) : Int).toNat).drop (x9 : Int).toNat) x0 0) else (none)) else (none)) else (none)) else (some (x8, 0))
def gilboa_Spread.l1 : Nat → Int → Int → List Int → List Int → Int → List Int → Int → Int → Option (List Int × Int)
 | 0, _, _, _, _, _, _, _, _ => none
 | k + 1, x0, x1, x2, x8, x9, x10, x46, x47 => if x47 < x46 then (if x8.length + x10.length < 17592186044416 then ((ring_Scale.f k x0 2 x10).bind fun t819 => (gilboa_Spread.l1 k x0 x1 x2 (x8 ++ x10) x9 t819 x46 (wrap64 (x47 + 1)))) else (none)) else (gilboa_Spread.l0 k x0 x1 x2 x8 (wrap64 (x9 + x1)))
end
def gilboa_Spread.f (k : Nat) (a0 : Int) (a1 : Int) (l2 : List Int) : Option (List Int × Int) := (gilboa_good.f a0 a1).bind fun t806 => (if t806 = true then (if a1 = 0 then (none) else (if ((l2.length : Int) % a1) = 0 then ((ring_Fits.f a0 l2).bind fun t807 => (gilboa_Spread.j0 k a0 a1 l2 (!t807))) else (gilboa_Spread.j0 k a0 a1 l2 true))) else (gilboa_Spread.j0 k a0 a1 l2 true))
set_option maxHeartbeats 8000000 in
set_option maxRecDepth 100000 in
theorem gilboa_Spread.calls (k : Nat) (a0 : Int) (a1 : Int) (P2_ : Nat → Prop) (A2 : Option Addr) (c2 : Nat) (l2 : List Int) (r1 : List Int) (r2 : Int) (w : World) (hs2 : Kd.V (Kd.int .u64) 35 w w.heap.size (fun k_ => P2_ k_) (.slice A2 l2.length c2) l2) (h : gilboa_Spread.f k a0 a1 l2 = some (r1, r2)) :
  Calls Try.prog 77 #[.int .i64 a0, .int .i64 a1, .slice A2 l2.length c2] w fun e w' => ∃ v0_ : Value, e = .returned (.tuple #[v0_, .int .i64 r2]) ∧ Kd.R (Kd.int .u64) 35 w' w.heap.size (fun k_ => (w.heap.size ≤ k_)) v0_ r1 ∧ Below w.heap.size w w' := by
 have HO2 := Aside0.mk (show Kd.V (Kd.int .u64) 35 w w.heap.size (fun k_ => (P2_ k_ ∨ w.heap.size ≤ k_)) (.slice A2 l2.length c2) l2 from Kd.V_mono hs2 (fun k_ hk => .inl hk))
 have HB := Aside0.mk (Below.refl w.heap.size w)
 have H : ((gilboa_good.f a0 a1).bind fun t806 => (if t806 = true then (if a1 = 0 then (none) else (if ((l2.length : Int) % a1) = 0 then ((ring_Fits.f a0 l2).bind fun t807 => (gilboa_Spread.j0 k a0 a1 l2 (!t807))) else (gilboa_Spread.j0 k a0 a1 l2 true))) else (gilboa_Spread.j0 k a0 a1 l2 true))) = some (r1, r2) := h
 clear h
 have HC4 := Aside0.mk H
 clear H
 go_enter Try.func77, Try.ntmps77
 go_upto_region 1 with (fail)
 go_cut [27] (fun v27 wc => ∃ (kq : Nat) (x27_3 : Bool), v27 = .bool x27_3 ∧ Aside0 (gilboa_Spread.j0 kq a0 a1 l2 x27_3 = some (r1, r2)) ∧ Aside0 (kq ≤ k) ∧ Aside0 (Kd.V (Kd.int .u64) 35 wc w.heap.size (fun k_ => (P2_ k_ ∨ w.heap.size ≤ k_)) (.slice A2 l2.length c2) l2) ∧ Aside0 (Below w.heap.size w wc))
 case first =>
  have H := HC4.out
  clear HC4
  replace H := Option.bind_eq_some_iff.mp H
  obtain ⟨t806, A50, H⟩ := H
  replace H : (if t806 = true then (if a1 = 0 then (none) else (if ((l2.length : Int) % a1) = 0 then ((ring_Fits.f a0 l2).bind fun t807 => (gilboa_Spread.j0 k a0 a1 l2 (!t807))) else (gilboa_Spread.j0 k a0 a1 l2 true))) else (gilboa_Spread.j0 k a0 a1 l2 true)) = some (r1, r2) := H
  have A5 := Aside0.mk A50
  clear A50
  by_cases c6 : t806 = true
  ·subst c6
   have H1 : (if a1 = 0 then (none) else (if ((l2.length : Int) % a1) = 0 then ((ring_Fits.f a0 l2).bind fun t807 => (gilboa_Spread.j0 k a0 a1 l2 (!t807))) else (gilboa_Spread.j0 k a0 a1 l2 true))) = some (r1, r2) := by rw [if_pos rfl] at H; exact H
   clear H
   have H := H1
   clear H1
   by_cases c7 : a1 = 0
   ·rw [if_pos c7] at H
    exact absurd H (by simp)
   ·rw [if_neg c7] at H
    have c7b0 : (a1 == 0) = false := beq_eq_false_iff_ne.mpr c7
    have c7b1 : (a1 != 0) = true := bne_iff_ne.mpr c7
    (first | rw [c7b0] | (simp only [i64_w, i32_w]; rw [c7b0]) | skip)
    by_cases c8 : ((l2.length : Int) % a1) = 0
    ·rw [if_pos c8] at H
     have c8b0 : (((l2.length : Int) % a1) == 0) = true := beq_iff_eq.mpr c8
     have c8b1 : (((l2.length : Int) % a1) != 0) = false := bne_eq_false_iff_eq.mpr c8
     clear c8
     replace H := Option.bind_eq_some_iff.mp H
     obtain ⟨t807, A90, H⟩ := H
     replace H : (gilboa_Spread.j0 k a0 a1 l2 (!t807)) = some (r1, r2) := H
     have A9 := Aside0.mk A90
     clear A90
     have H' := Aside0.mk H
     clear H
     go_wp2_with (first | ((with_reducible refine gate_callee (f := 105) rfl ?_); refine goesL_ (some 13) rfl rfl Try.func105 (zq56) rfl #[.int .i64 a0, .int .i64 a1] rfl (zq33) ?_; (with_reducible refine (gilboa_good.calls a0 a1 true _ A5.out).mono ?_); rintro e w' ⟨rfl, ⟨nd, rfl⟩⟩; refine ⟨_, rfl, ?_⟩) | (go_at_call 65; (with_reducible refine (ring_Fits.calls a0 _ _ l2 t807 _ ?side1 ?side2 A9.out).mono ?_); (case side1 => repeat (first | exact (Kd.V_reads' HO2.out).2.2 | (with_reducible refine Kd.C_alloc ?_ _) | (with_reducible refine Kd.C_drewN ?_ _) | (with_reducible refine Kd.C_drew ?_))); (case side2 => exact (Kd.V_reads' HO2.out).2.1); rintro e w10 ⟨rfl, hb⟩; replace HO2 := Aside0.mk (Kd.V_below HO2.v hb); replace HB := Aside0.mk (below_step HB.bl hb); (try clear hb); (try clear hb2); (try clear hk); (try clear hi)))
     go_meet
     case rel => exact ⟨_, (!t807), (zq52), H', ⟨zq53⟩, ⟨HO2.v⟩, ⟨HB.bl⟩⟩
    ·rw [if_neg c8] at H
     have c8b0 : (((l2.length : Int) % a1) == 0) = false := beq_eq_false_iff_ne.mpr c8
     have c8b1 : (((l2.length : Int) % a1) != 0) = true := bne_iff_ne.mpr c8
     have H' := Aside0.mk H
     clear H
     go_wp2_with (first | ((with_reducible refine gate_callee (f := 105) rfl ?_); refine goesL_ (some 13) rfl rfl Try.func105 (zq56) rfl #[.int .i64 a0, .int .i64 a1] rfl (zq33) ?_; (with_reducible refine (gilboa_good.calls a0 a1 true _ A5.out).mono ?_); rintro e w' ⟨rfl, ⟨nd, rfl⟩⟩; refine ⟨_, rfl, ?_⟩))
     go_meet
     case rel => exact ⟨_, (true), (zq52), H', ⟨zq53⟩, ⟨HO2.v⟩, ⟨HB.bl⟩⟩
  ·replace c6 := Bool.eq_false_iff.mpr c6
   subst c6
   have H1 : (gilboa_Spread.j0 k a0 a1 l2 true) = some (r1, r2) := by rw [if_neg (show ¬ (false = true) by decide)] at H; exact H
   clear H
   have H := H1
   clear H1
   have H' := Aside0.mk H
   clear H
   go_wp2_with (first | ((with_reducible refine gate_callee (f := 105) rfl ?_); refine goesL_ (some 13) rfl rfl Try.func105 (zq56) rfl #[.int .i64 a0, .int .i64 a1] rfl (zq33) ?_; (with_reducible refine (gilboa_good.calls a0 a1 false _ A5.out).mono ?_); rintro e w' ⟨rfl, ⟨nd, rfl⟩⟩; refine ⟨_, rfl, ?_⟩))
   go_meet
   case rel => exact ⟨_, (true), (zq52), H', ⟨zq53⟩, ⟨HO2.v⟩, ⟨HB.bl⟩⟩
 case rest =>
  clear HC4
  try clear c1
  try clear c2
  try clear p2
  try clear c6
  try clear c7
  try clear c7b0
  try clear c7b1
  try clear c8
  try clear c8b0
  try clear c8b1
  try clear c10
  obtain ⟨kq, x27_3, rfl, HA, HJ3, HO_2, HB⟩ := hcut
  cases kq with
  | zero => exact absurd HA.out (by simp [gilboa_Spread.j0])
  | succ kj3 =>
   have H := HA.out
   clear HA
   simp only [gilboa_Spread.j0] at H
   by_cases c11 : x27_3 = true
   ·subst c11
    have H1 : (some (([] : List Int), 11)) = some (r1, r2) := by rw [if_pos rfl] at H; exact H
    clear H
    have H := H1
    clear H1
    simp only [Option.some.injEq, Prod.mk.injEq] at H
    obtain ⟨rfl, rfl⟩ := H
    go_wp2
    go_ret2
    exact ⟨_, zq49, zq32, HB.bl⟩
   ·replace c11 := Bool.eq_false_iff.mpr c11
    subst c11
    have H1 : (if 0 ≤ (wrap64 (a0 * (l2.length : Int))) then (if (wrap64 (a0 * (l2.length : Int)) : Int).toNat ≤ 35184372088832 then (gilboa_Spread.l0 kj3 a0 a1 l2 (([] : List Int)) 0) else (none)) else (none)) = some (r1, r2) := by rw [if_neg (show ¬ (false = true) by decide)] at H; exact H
    clear H
    have H := H1
    clear H1
    obtain ⟨ji12, hji12⟩ : ∃ j_ : Int, (wrap64 (a0 * (l2.length : Int))) = j_ := ⟨_, rfl⟩
    replace H : (if 0 ≤ (ji12) then (if (ji12 : Int).toNat ≤ 35184372088832 then (gilboa_Spread.l0 kj3 a0 a1 l2 (([] : List Int)) 0) else (none)) else (none)) = some (r1, r2) := by first | (rw [hji12] at H; exact H) | (simp only [hji12] at H ⊢; exact H)
    have hji12w : (IntKind.i64.wrap (a0 * (l2.length : Int))) = ji12 := (i64_w _).trans hji12
    by_cases c13 : 0 ≤ (ji12)
    ·rw [if_pos c13] at H
     have c13b0 := eq_true c13
     have c13b1 : decide (0 ≤ (ji12)) = true := decide_eq_true c13
     clear c13
     by_cases c14 : (ji12 : Int).toNat ≤ 35184372088832
     ·rw [if_pos c14] at H
      have c14b0 := eq_true c14
      have c14b1 : decide ((ji12 : Int).toNat ≤ 35184372088832) = true := decide_eq_true c14
      clear c14
      obtain ⟨y808, hy808⟩ : ∃ y_ : List Int, y_ = (([] : List Int)) := ⟨_, rfl⟩
      replace H : (gilboa_Spread.l0 kj3 a0 a1 l2 y808 0) = some (r1, r2) := by first | (rw [hy808]; with_reducible exact H) | (have H2_ := (Option.bind_some _ _).symm.trans H; rw [hy808]; with_reducible exact H2_) | (have H2_ := (Option.bind_some _ _).symm.trans H; with_reducible exact H2_) | with_reducible exact H | (rw [hy808]; exact H) | exact H
      have Ny808 := Aside0.mk hy808
      clear hy808
      have H' := Aside0.mk H
      clear H
      go_wp2_with (first | ((with_reducible refine gate_dst (N := 32) rfl ?_); (try (refine gate_guard (by rfl) ?_; dsimp only)); refine Kd.R_makecap (Kd.int .u64) _ 35 rfl (N := 32) rfl 24 _ _ rfl ji12 rfl rfl Try.underlying24 (.int .u64 0) 8 info35 rfl (by decide) (by omega) 0 (ok := fun _ => True) (okp := fun _ => True) rfl (fun _ hk => hk) trivial (of_decide_eq_true (zq51)) (Nat.le_trans (Nat.mul_le_mul_right _ (of_decide_eq_true (zq51) : ji12.toNat ≤ 35184372088832)) (by omega)) (Below.refl _ _) (Nat.le_refl _) ?_; intro v809 w15 ho16 hb hg_ hnew_; clear hg_ hnew_; (first | rw [← Ny808.out] at ho16 | (simp only [Int.reduceToNat] at ho16; rw [← Ny808.out] at ho16)); replace HO_2 := Aside0.mk (Kd.V_elder' HO_2.v (Kd.R_base ho16) hb); have HO810 := Aside0.mk (Kd.R_lower (Kd.R_newM (M := fun k_ => (w.heap.size ≤ k_)) ho16 (below_size HB.bl) (fun k_ h_ => h_)) (below_size HB.bl)); replace HB := Aside0.mk (below_step HB.bl hb); clear hb ho16))
      go_loopg [8, 9] kj3 (fun kq v8 v9 w' => ∃ (x8_2 : List Int) (x9_2 : Int), v9 = .int .i64 x9_2 ∧ Aside0 (gilboa_Spread.l0 kq a0 a1 l2 x8_2 x9_2 = some (r1, r2)) ∧ Aside0 (kq ≤ kj3) ∧ Aside0 (Kd.V (Kd.int .u64) 35 w' w.heap.size (fun k_ => (P2_ k_ ∨ w.heap.size ≤ k_) ∧ some k_ ≠ (v8 : Value).ownBlock) (.slice A2 l2.length c2) l2) ∧ Aside0 (Kd.R (Kd.int .u64) 35 w' w.heap.size (fun k_ => (w.heap.size ≤ k_)) v8 x8_2) ∧ Aside0 (Below w.heap.size w w'))
      case atStart => exact ⟨(y808), (0), (zq52), H', ⟨Nat.le_refl _⟩, ⟨HO_2.v⟩, ⟨by (with_reducible repeat (first | apply Kd.R_alloc | apply Kd.R_drewN | apply Kd.R_drew)); exact Kd.R_mono HO810.out (fun _ hk => hk.1)⟩, ⟨HB.bl⟩⟩
      case round =>
       clear H'
       try clear c1
       try clear c2
       try clear p2
       try clear c6
       try clear p6
       try clear c7
       try clear c7b0
       try clear c7b1
       try clear c8
       try clear c8b0
       try clear c8b1
       try clear c10
       try clear c11
       try clear c13
       try clear c13b0
       try clear c13b1
       try clear c14
       try clear c14b0
       try clear c14b1
       try clear p2
       obtain ⟨x8_2, x9_2, rfl, HA, HK2, HO_2, HO_8, HB⟩ := hrel
       cases gk with
       | zero => exact absurd HA.out (by simp [gilboa_Spread.l0])
       | succ k2 =>
        have H := HA.out
        clear HA
        simp only [gilboa_Spread.l0] at H
        by_cases c17 : x9_2 < (l2.length : Int)
        ·rw [if_pos c17] at H
         have c17b0 : decide (x9_2 < (l2.length : Int)) = true := decide_eq_true c17
         clear c17
         by_cases c18 : 0 ≤ x9_2
         ·rw [if_pos c18] at H
          have c18b0 := eq_true c18
          have c18b1 : decide (0 ≤ x9_2) = true := decide_eq_true c18
          clear c18
          by_cases c19 : x9_2 ≤ (wrap64 (x9_2 + a1))
          ·rw [if_pos c19] at H
           have c19b0 := eq_true c19
           have c19b1 : decide (x9_2 ≤ (wrap64 (x9_2 + a1))) = true := decide_eq_true c19
           by_cases c20 : (wrap64 (x9_2 + a1)) ≤ (l2.length : Int)
           ·rw [if_pos c20] at H
            have c20b0 := eq_true c20
            have c20b1 : decide ((wrap64 (x9_2 + a1)) ≤ (l2.length : Int)) = true := decide_eq_true c20
            obtain ⟨y811, hy811⟩ : ∃ y_ : List Int, y_ = ((l2.take ((wrap64 (x9_2 + a1)) : Int).toNat).drop (x9_2 : Int).toNat) := ⟨_, rfl⟩
            replace H : (gilboa_Spread.l1 k2 a0 a1 l2 x8_2 x9_2 y811 a0 0) = some (r1, r2) := by first | (rw [hy811]; with_reducible exact H) | (have H2_ := (Option.bind_some _ _).symm.trans H; rw [hy811]; with_reducible exact H2_) | (have H2_ := (Option.bind_some _ _).symm.trans H; with_reducible exact H2_) | with_reducible exact H | (rw [hy811]; exact H) | exact H
            have Ny811 := Aside0.mk hy811
            clear hy811
            have H' := Aside0.mk H
            clear H
            have q21 : ((wrap64 (x9_2 + a1)) : Int) ≤ ((l2.length : Int) : Int) := of_decide_eq_true (zq51)
            obtain ⟨i021, hi021, _, hsz21, _⟩ := info_parts info35
            have hroom21 : l2.length ≤ c2 := (Kd.V_reads' HO_2.out).2.1
            have hC21 : Kd.F (Kd.int .u64) _ _ A2 l2.length l2 := (Kd.V_at (base := w.heap.size) HO_2.out).2.2
            have ql21 : (x9_2 : Int) ≤ ((wrap64 (x9_2 + a1)) : Int) := of_decide_eq_true (zq51)
            have q021 : (0 : Int) ≤ (x9_2 : Int) := of_decide_eq_true (zq51)
            have hcut21 := cut_mid (P := Try.prog) 24 35 .i64 .i64 Try.underlying24 hi021 1 hsz21 A2 l2.length c2 x9_2 (wrap64 (x9_2 + a1)) q021 ql21 q21 hroom21
            have hr21 := Kd.F_mid (lo := (x9_2 : Int).toNat) (hi := ((wrap64 (x9_2 + a1)) : Int).toNat) (c := c2) hC21 (by omega) (by omega) hroom21
            obtain ⟨A21, hA21⟩ : ∃ A1, A1 = (if c2 = (x9_2 : Int).toNat then A2 else (A2 : Option Addr).map (·.add ((x9_2 : Int).toNat * 1))) := ⟨_, rfl⟩
            obtain ⟨c21, hc21⟩ : ∃ c1, c1 = c2 - (x9_2 : Int).toNat := ⟨_, rfl⟩
            have hy21 : y811.length = ((wrap64 (x9_2 + a1)) : Int).toNat - (x9_2 : Int).toNat := (by rw [Ny811.out, List.length_drop, List.length_take] <;> omega)
            rw [show ((l2).take ((wrap64 (x9_2 + a1)) : Int).toNat).drop (x9_2 : Int).toNat = y811 from Ny811.out.symm] at hr21
            replace hr21 : Kd.F (Kd.int .u64) _ _ A21 y811.length y811 := (by rw [hA21]; exact hr21)
            rw [← hy21, ← hA21, ← hc21] at hcut21
            have HO815 := Aside0.mk (show Kd.V (Kd.int .u64) 35 _ w.heap.size _ (.slice A21 y811.length c21) y811 from Kd.V_mk (by rw [hy21, hc21]; exact Nat.sub_le_sub_right (Nat.le_trans (by omega) hroom21) _) hr21)
            have HC815 := Aside0.mk (show y811.length ≤ c21 from by rw [hy21, hc21]; exact Nat.sub_le_sub_right (Nat.le_trans (by omega) hroom21) _)
            clear hr21 hC21 hroom21 hi021 hsz21 hc21
            have KY21 := Aside0.mk hy21
            have KA21 := Aside0.mk hA21
            clear hy21 hA21
            replace q21 := eq_true q21
            go_wp2
            go_loopg [8, 10, 47] k2 (fun kq v8 v10 v47 w' => ∃ (x8_3 : List Int) (x10_3 : List Int) (x47_3 : Int), v47 = .int .i64 x47_3 ∧ Aside0 (gilboa_Spread.l1 kq a0 a1 l2 x8_3 x9_2 x10_3 a0 x47_3 = some (r1, r2)) ∧ Aside0 (kq ≤ k2) ∧ Aside0 (Kd.V (Kd.int .u64) 35 w' w.heap.size (fun k_ => (P2_ k_ ∨ w.heap.size ≤ k_) ∧ some k_ ≠ (v8 : Value).ownBlock) (.slice A2 l2.length c2) l2) ∧ Aside0 (Kd.R (Kd.int .u64) 35 w' w.heap.size (fun k_ => (w.heap.size ≤ k_)) v8 x8_3) ∧ Aside0 (Kd.V (Kd.int .u64) 35 w' w.heap.size (fun k_ => (P2_ k_ ∨ w.heap.size ≤ k_) ∧ some k_ ≠ (v8 : Value).ownBlock) v10 x10_3) ∧ Aside0 (Below w.heap.size w w'))
            case atStart => exact ⟨(x8_2), (y811), (0), (zq52), H', ⟨Nat.le_refl _⟩, ⟨HO_2.v⟩, ⟨HO_8.r⟩, ⟨HO815.v⟩, ⟨HB.bl⟩⟩
            case round =>
             clear H'
             try clear c1
             try clear c2
             try clear p2
             try clear q2
             try clear c6
             try clear p6
             try clear c7
             try clear c7b0
             try clear c7b1
             try clear c8
             try clear c8b0
             try clear c8b1
             try clear c10
             try clear c11
             try clear c13
             try clear c13b0
             try clear c13b1
             try clear c14
             try clear c14b0
             try clear c14b1
             try clear c17
             try clear c17b0
             try clear c18
             try clear c18b0
             try clear c18b1
             try clear c19
             try clear c19b0
             try clear c19b1
             try clear c20
             try clear c20b0
             try clear c20b1
             try clear c21
             try clear q21
             try clear p2
             try clear p6
             try clear q021
             try clear q21
             obtain ⟨x8_3, x10_3, x47_3, rfl, HA, HK3, HO_2, HO_8, HO_10, HB⟩ := hrel
             cases gk with
             | zero => exact absurd HA.out (by simp [gilboa_Spread.l1])
             | succ k3 =>
              have H := HA.out
              clear HA
              simp only [gilboa_Spread.l1] at H
              by_cases c22 : x47_3 < a0
              ·rw [if_pos c22] at H
               have c22b0 : decide (x47_3 < a0) = true := decide_eq_true c22
               clear c22
               by_cases c23 : x8_3.length + x10_3.length < 17592186044416
               ·rw [if_pos c23] at H
                have LMc23 := Aside0.mk c23
                clear c23
                obtain ⟨y816, hy816⟩ : ∃ y_ : List Int, y_ = (x8_3 ++ x10_3) := ⟨_, rfl⟩
                replace H : ((ring_Scale.f k3 a0 2 x10_3).bind fun t819 => (gilboa_Spread.l1 k3 a0 a1 l2 y816 x9_2 t819 a0 (wrap64 (x47_3 + 1)))) = some (r1, r2) := by first | (rw [hy816]; with_reducible exact H) | (have H2_ := (Option.bind_some _ _).symm.trans H; rw [hy816]; with_reducible exact H2_) | (have H2_ := (Option.bind_some _ _).symm.trans H; with_reducible exact H2_) | with_reducible exact H | (rw [hy816]; exact H) | exact H
                have Ny816 := Aside0.mk hy816
                clear hy816
                replace H := Option.bind_eq_some_iff.mp H
                obtain ⟨t819, A240, H⟩ := H
                replace H : (gilboa_Spread.l1 k3 a0 a1 l2 y816 x9_2 t819 a0 (wrap64 (x47_3 + 1))) = some (r1, r2) := H
                have A24 := Aside0.mk A240
                clear A240
                have H' := Aside0.mk H
                clear H
                obtain ⟨Ao26, co26, eo26⟩ := Kd.V_slice HO_10.out
                subst eo26
                go_wp2_with (first | ((with_reducible refine gate_builtin (b := .append) (xs := #[.tmp 49, .tmp 50]) rfl ?_); (try (refine gate_guard (by rfl) ?_; dsimp only)); at_builtin; refine Kd.R_append_rows (Kd.int .u64) (w0 := w) w.heap.size rfl (.tmp 49) (.tmp 50) 24 35 (.int .u64 0) 8 rfl Try.underlying24 info35 rfl (by decide) (by omega) u8 x8_3 x10_3 _ _ _ (fun k_ => (w.heap.size ≤ k_)) (fun _ => False) rfl rfl ?aO ?aR (fun _ _ h => h) (fun _ h => h.elim) ?aF ?aB ?aS ?aL ?_; (case aR => repeat (first | exact (Kd.V_reads' HO_10.out).2.2 | (with_reducible refine Kd.C_alloc ?_ _) | (with_reducible refine Kd.C_drewN ?_ _) | (with_reducible refine Kd.C_drew ?_))); (case aB => exact HB.bl); (case aF => exact (fun k_ hk => (Nat.le_trans (below_size HB.bl) hk))); (case aO => exact HO_8.r); (case aS => exact (below_size HB.bl)); (case aL => have := LMc23.out; omega); intro v817 w25 ho hb hg hat; rw [← Ny816.out] at ho; replace HO_2 := Aside0.mk (Kd.V_afterv (ok := (fun k_ => (P2_ k_ ∨ w.heap.size ≤ k_))) HO_2.v hg hat); replace HO_10 := Aside0.mk (Kd.V_afterv (ok := (fun k_ => (P2_ k_ ∨ w.heap.size ≤ k_))) HO_10.v hg hat); replace HB := Aside0.mk (hb); have HO818 := Aside0.mk (ho); clear HO_8; clear ho hb hg hat) | ((with_reducible refine gate_callee (f := 108) rfl ?_); refine goesL_ (some 54) rfl rfl Try.func108 (zq56) rfl #[.int .i64 a0, .int .u64 2, .slice Ao26 x10_3.length co26] rfl (zq33) ?_; (with_reducible refine (ring_Scale.calls k3 a0 2 _ _ x10_3 t819 _ ?side1 ?side2 A24.out).mono ?_); (case side1 => repeat (first | exact (Kd.V_reads' HO_10.out).2.2 | (with_reducible refine Kd.C_alloc ?_ _) | (with_reducible refine Kd.C_drewN ?_ _) | (with_reducible refine Kd.C_drew ?_))); (case side2 => exact (Kd.V_reads' HO_10.out).2.1); rintro e w27 ⟨v820, rfl, ho0, hb⟩; refine ⟨_, rfl, ?_⟩; have n0_ := Aside0.mk (Kd.V_elder' HO_2.v (Kd.R_base ho0) hb); have n1_ := Aside0.mk (Kd.V_elder' HO_10.v (Kd.R_base ho0) hb); have n2_ := Aside0.mk (Kd.R_elder' HO818.r (Kd.R_base ho0) hb); have n3_ := Aside0.mk (Kd.R_lower (Kd.R_new' (Kd.R_newM (M := fun k_ => (w.heap.size ≤ k_)) ho0 (below_size HB.bl) (fun k_ h_ => h_)) (Kd.R_lt HO818.r)) (below_size HB.bl)); have n4_ := Aside0.mk (below_step HB.bl hb); clear HO_2; clear HO_10; clear HO818; clear HB; have HO_2 := n0_; have HO_10 := n1_; have HO818 := n2_; have HO821 := n3_; have HB := n4_; clear n0_ n1_ n2_ n3_ n4_; (try clear hb); (try clear hb2); (try clear hk); (try clear hi); (try clear ho0)))
                go_roundg k3
                case measure => have := HJ3.out; have := HK2.out; have := HK3.out; omega
                case rel => exact ⟨(y816), (t819), (wrap64 (x47_3 + 1)), (zq52), H', ⟨by have := HJ3.out; have := HK2.out; have := HK3.out; omega⟩, ⟨by (with_reducible repeat (first | apply Kd.V_alloc | apply Kd.V_drewN | apply Kd.V_drew)); exact Kd.V_mono HO_2.out (fun _ hk => ⟨hk.1.1, hk.1.2⟩)⟩, ⟨by (with_reducible repeat (first | apply Kd.R_alloc | apply Kd.R_drewN | apply Kd.R_drew)); exact Kd.R_mono HO818.out (fun _ hk => hk.1)⟩, ⟨Kd.V_mono (Kd.R_V HO821.r) (fun k_ hk => by first | exact (.inr hk.1.1) | exact (.inr hk.1) | exact ⟨(.inr hk.1.1), hk.2⟩ | exact ⟨(.inr hk.1), hk.2⟩ | exact ⟨(.inr hk.1.1), hk.1.2⟩)⟩, ⟨HB.bl⟩⟩
               ·rw [if_neg c23] at H
                exact absurd H (by simp)
              ·rw [if_neg c22] at H
               have c22b0 : decide (x47_3 < a0) = false := decide_eq_false c22
               clear c22
               have H' := Aside0.mk H
               clear H
               go_wp2
               go_roundg k3
               case measure => have := HJ3.out; have := HK2.out; have := HK3.out; omega
               case rel => exact ⟨(x8_3), (wrap64 (x9_2 + a1)), (zq52), H', ⟨by have := HJ3.out; have := HK2.out; have := HK3.out; omega⟩, ⟨HO_2.v⟩, ⟨HO_8.r⟩, ⟨HB.bl⟩⟩
           ·rw [if_neg c20] at H
            exact absurd H (by simp)
          ·rw [if_neg c19] at H
           exact absurd H (by simp)
         ·rw [if_neg c18] at H
          exact absurd H (by simp)
        ·rw [if_neg c17] at H
         have c17b0 : decide (x9_2 < (l2.length : Int)) = false := decide_eq_false c17
         clear c17
         simp only [Option.some.injEq, Prod.mk.injEq] at H
         obtain ⟨rfl, rfl⟩ := H
         go_wp2
         go_ret2
         exact ⟨_, by first | rfl | (simp [errW_none, errW_some] <;> rfl) | (simp only [← hji12]; first | rfl | (simp [errW_none, errW_some] <;> rfl)) | (simp [*, errW_none, errW_some] <;> rfl), HO_8.r, HB.bl⟩
     ·rw [if_neg c14] at H
      exact absurd H (by simp)
    ·rw [if_neg c13] at H
     exact absurd H (by simp)

/-! ### bits_Vec_Bools: function 45 -/
def bits_Vec_Bools.l0 : Nat → List Bool → Int → Int → Int → List Int → Option (List Bool)
 | 0, _, _, _, _, _ => none
 | k + 1, x3, x9, x10, x859000, x859001 => if x10 < x9 then ((bits_Vec_Get.f x859000 x859001 x10).bind fun t862 => (if 0 ≤ x10 then (if x10 < (x3.length : Int) then (bits_Vec_Bools.l0 k (x3.set (x10 : Int).toNat t862) x9 (wrap64 (x10 + 1)) x859000 x859001) else (none)) else (none))) else (some x3)
def bits_Vec_Bools.f (k : Nat) (a0_0 : Int) (l0_1 : List Int) : Option (List Bool) := if 0 ≤ a0_0 then (if (a0_0 : Int).toNat ≤ 281474976710656 then ((some (List.replicate (a0_0 : Int).toNat false : List Bool)).bind fun y859 => (bits_Vec_Bools.l0 k y859 (y859.length : Int) 0 a0_0 l0_1)) else (none)) else (none)
set_option maxHeartbeats 8000000 in
set_option maxRecDepth 100000 in
theorem bits_Vec_Bools.calls (k : Nat) (a0_0 : Int) (A0_1 : Option Addr) (c0_1 : Nat) (l0_1 : List Int) (r : List Bool) (w : World) (hr0_1 : Kd.C (Kd.int .u64) w A0_1 l0_1.length l0_1) (hc0_1 : l0_1.length ≤ c0_1) (h : bits_Vec_Bools.f k a0_0 l0_1 = some r) :
  Calls Try.prog 45 #[.agg #[.int .i64 a0_0, .slice A0_1 l0_1.length c0_1]] w fun e w' => ∃ v0_ : Value, e = .returned (v0_) ∧ Kd.R Kd.bool 4 w' w.heap.size (fun _ => True) v0_ r ∧ Below w.heap.size w w' := by
 have hu43 := Try.underlying43
 have HR0_1 := Aside0.mk hr0_1
 have HC0_1 := Aside0.mk hc0_1
 clear hr0_1 hc0_1
 have HB := Aside0.mk (Below.refl w.heap.size w)
 have H : (if 0 ≤ a0_0 then (if (a0_0 : Int).toNat ≤ 281474976710656 then ((some (List.replicate (a0_0 : Int).toNat false : List Bool)).bind fun y859 => (bits_Vec_Bools.l0 k y859 (y859.length : Int) 0 a0_0 l0_1)) else (none)) else (none)) = some r := h
 clear h
 by_cases c2 : 0 ≤ a0_0
 ·rw [if_pos c2] at H
  have c2b0 := eq_true c2
  have c2b1 : decide (0 ≤ a0_0) = true := decide_eq_true c2
  clear c2
  by_cases c3 : (a0_0 : Int).toNat ≤ 281474976710656
  ·rw [if_pos c3] at H
   have c3b0 := eq_true c3
   have c3b1 : decide ((a0_0 : Int).toNat ≤ 281474976710656) = true := decide_eq_true c3
   clear c3
   obtain ⟨y859, hy859⟩ : ∃ y_ : List Bool, y_ = (List.replicate (a0_0 : Int).toNat false) := ⟨_, rfl⟩
   replace H : (bits_Vec_Bools.l0 k y859 (y859.length : Int) 0 a0_0 l0_1) = some r := by first | (rw [hy859]; with_reducible exact H) | (have H2_ := (Option.bind_some _ _).symm.trans H; rw [hy859]; with_reducible exact H2_) | (have H2_ := (Option.bind_some _ _).symm.trans H; with_reducible exact H2_) | with_reducible exact H | (rw [hy859]; exact H) | exact H
   have Ny859 := Aside0.mk hy859
   clear hy859
   have H' := Aside0.mk H
   clear H
   go_enter Try.func45, Try.ntmps45
   go_wp2_with (first | ((with_reducible refine gate_dst (N := 1) rfl ?_); refine box_event ?hg (N := 1) ?hd (cs := #[.int .i64 a0_0, .slice A0_1 l0_1.length c0_1]) (t := 43) ?hr ?_; (case hd => rfl); (case hg => rfl); (case hr => first | (go_simp; done) | (go_simp; rfl)); intro gb858 hg w4 hbox hb; have n0_ := Aside0.mk (below_step HB.bl hb); have n1_ := Aside0.mk (hbox); have n2_ := Aside0.mk ((zq54 : w.heap.size ≤ gb858)); have n3_ := Aside0.mk ((zq54 : w.heap.size ≤ gb858)); clear HB; have HB := n0_; have BK858 := n1_; have GW858 := n2_; have GE858 := n3_; clear n0_ n1_ n2_ n3_; clear hb hbox hg; obtain ⟨hcz5_0, hcz5_1, hfz5_0, hfz5_1⟩ := cells_2 BK858.out) | ((with_reducible refine gate_dst (N := 7) rfl ?_); refine Kd.R_make Kd.bool _ 4 rfl (N := 7) rfl 32 _ _ rfl a0_0 rfl rfl Try.underlying32 (.bool false) 1 info4 rfl (by decide) (by omega) false (ok := fun _ => True) (okp := fun _ => True) rfl (fun _ hk => hk) trivial (of_decide_eq_true (zq51)) (Nat.le_trans (Nat.mul_le_mul_right _ (of_decide_eq_true (zq51) : a0_0.toNat ≤ 281474976710656)) (by omega)) (Below.refl _ _) (Nat.le_refl _) ?_; intro v860 w6 ho7 hb hg_ hnew_; clear hg_ hnew_; (first | rw [← Ny859.out] at ho7 | (simp only [Int.reduceToNat] at ho7; rw [← Ny859.out] at ho7)); have HO861 := Aside0.mk (Kd.R_lower ho7 (below_size HB.bl)); replace BK858 := Aside0.mk (BK858.lk hb); replace HB := Aside0.mk (below_step HB.bl hb); clear hb ho7; obtain ⟨Ao8, co8, eo8⟩ := Kd.R_slice HO861.out; subst eo8))
   go_loopg [10] k (fun kq v10 w' => ∃ (x3_1 : List Bool) (x10_1 : Int), v10 = .int .i64 x10_1 ∧ Aside0 (bits_Vec_Bools.l0 kq x3_1 (y859.length : Int) x10_1 a0_0 l0_1 = some r) ∧ Aside0 (kq ≤ k) ∧ Aside0 (Kd.R Kd.bool 4 w' w.heap.size (fun _ => True) (.slice Ao8 y859.length co8) x3_1) ∧ Aside0 (w'.heap[gb858]? = some (.cells #[.int .i64 a0_0, (.slice A0_1 l0_1.length c0_1)] 43 (0, 0))) ∧ Aside0 (Below w.heap.size w w'))
   case atStart => exact ⟨(y859), (0), (zq52), H', ⟨Nat.le_refl _⟩, ⟨HO861.r⟩, ⟨by (with_reducible repeat (first | refine blk_drewN ?_ _ | refine blk_drew ?_ | refine blk_alloc ?_ _)); exact BK858.out⟩, ⟨by repeat (first | (with_reducible first | exact HB.out | apply below_alloc | apply pw_below_drewN | apply below_drew1 | refine below_set ?_ GE858.out) | exact HB.out)⟩⟩
   case round =>
    clear H'
    try clear c2
    try clear c2b0
    try clear c2b1
    try clear p2
    try clear c3
    try clear c3b0
    try clear c3b1
    try clear c4
    try clear hcz5_0
    try clear hcz5_1
    try clear hfz5_0
    try clear hfz5_1
    obtain ⟨x3_1, x10_1, rfl, HA, HK1, HO_3, BK858, HB⟩ := hrel
    have hl3_1 := (Kd.R_reads' HO_3.out).1
    rw [hl3_1] at HO_3
    (try simp only [hl3_1])
    (try simp only [hl3_1] at BK858)
    cases gk with
    | zero => exact absurd HA.out (by simp [bits_Vec_Bools.l0])
    | succ k1 =>
     have H := HA.out
     clear HA
     simp only [bits_Vec_Bools.l0] at H
     by_cases c9 : x10_1 < (y859.length : Int)
     ·rw [if_pos c9] at H
      have c9b0 : decide (x10_1 < (y859.length : Int)) = true := decide_eq_true c9
      clear c9
      replace H := Option.bind_eq_some_iff.mp H
      obtain ⟨t862, A100, H⟩ := H
      replace H : (if 0 ≤ x10_1 then (if x10_1 < (x3_1.length : Int) then (bits_Vec_Bools.l0 k1 (x3_1.set (x10_1 : Int).toNat t862) (y859.length : Int) (wrap64 (x10_1 + 1)) a0_0 l0_1) else (none)) else (none)) = some r := H
      have A10 := Aside0.mk A100
      clear A100
      by_cases c11 : 0 ≤ x10_1
      ·rw [if_pos c11] at H
       have c11b0 : decide (0 ≤ x10_1) = true := decide_eq_true c11
       clear c11
       by_cases c12 : x10_1 < (x3_1.length : Int)
       ·rw [if_pos c12] at H
        have c12b0 : decide (x10_1 < (x3_1.length : Int)) = true := decide_eq_true c12
        clear c12
        obtain ⟨y863, hy863⟩ : ∃ y_ : List Bool, y_ = (x3_1.set (x10_1 : Int).toNat t862) := ⟨_, rfl⟩
        replace H : (bits_Vec_Bools.l0 k1 y863 (y859.length : Int) (wrap64 (x10_1 + 1)) a0_0 l0_1) = some r := by first | (rw [hy863]; with_reducible exact H) | (have H2_ := (Option.bind_some _ _).symm.trans H; rw [hy863]; with_reducible exact H2_) | (have H2_ := (Option.bind_some _ _).symm.trans H; with_reducible exact H2_) | with_reducible exact H | (rw [hy863]; exact H) | exact H
        have Ny863 := Aside0.mk hy863
        clear hy863
        have H' := Aside0.mk H
        clear H
        obtain ⟨hcz14_0, hcz14_1, hfz14_0, hfz14_1⟩ := cells_2 BK858.out
        go_wp2_with (first | ((with_reducible refine gate_callee (f := 36) rfl ?_); refine goesL_ (some 17) rfl rfl Try.func36 (zq56) rfl #[.agg #[.int .i64 a0_0, .slice A0_1 l0_1.length c0_1], .int .i64 x10_1] rfl (zq33) ?_; (with_reducible refine (bits_Vec_Get.calls a0_0 _ _ l0_1 x10_1 t862 _ ?side1 ?side2 A10.out).mono ?_); (case side1 => repeat (first | exact (Kd.C_below HR0_1.out HB.out) | (with_reducible refine Kd.C_alloc ?_ _) | (with_reducible refine Kd.C_drewN ?_ _) | (with_reducible refine Kd.C_drew ?_))); (case side2 => exact HC0_1.out); rintro e w15 ⟨rfl, hb⟩; refine ⟨_, rfl, ?_⟩; replace HO_3 := Aside0.mk (Kd.R_below HO_3.r hb); replace BK858 := Aside0.mk (BK858.lk hb); replace HB := Aside0.mk (below_step HB.bl hb); (try clear hb); (try clear hb2); (try clear hk); (try clear hi); have p13 : 0 ≤ (x10_1 : Int) := of_decide_eq_true (zq51); have q13 : (x10_1 : Int) < ((x3_1.length : Int) : Int) := of_decide_eq_true (zq51); obtain ⟨go13, co13, eo13, gb13, gl13, cl13, HG13⟩ := Kd.R_form HO_3.out (by omega); (first | cases eo13 | (injection eo13 with ea_ en_ ec_; (first | subst ea_ | (injection ea_ with ea_; subst ea_)); subst ec_; clear en_)); have GB13 := Aside0.mk gb13; have GG13 := Aside0.mk HG13; clear gb13 gl13 HG13; obtain ⟨hx13_0, hf13_0⟩ := Kd.R_celln false HO_3.out (x10_1 : Int) p13 q13; replace p13 := eq_true p13; replace q13 := eq_true q13; obtain ⟨hy16_, hz16_⟩ := Kd.R_celln false HO_3.out (x10_1 : Int) (of_decide_eq_true (zq51)) (of_decide_eq_true (zq51)); have HP16 := Kd.R_putg HO_3.out (x10_1 : Int) t862) | ((with_reducible refine gate_store (t := 4) (p := 18) rfl ?_); refine store_event (t := 4) (p := 18) (v := ?vo_w17) (w1 := (w15.setCell ⟨go13, (x10_1 : Int).toNat, none⟩ (.bool t862))) ?hg ?ho ?hn ?hr ?_; (case ho => rfl); (case hg => rfl); (case hn => rfl); (case hr => first | (go_simp; done) | (go_simp; rfl)); intro w17 hw; have hg : w15.grownBy w17 (some go13) := (by rw [hw]; exact HP16.2); have hp_ : Kd.R Kd.bool 4 w17 w.heap.size (fun _ => True) (.slice (some ⟨go13, 0, none⟩) x3_1.length co8) y863 := (by rw [hw, Ny863.out]; exact HP16.1); clear HP16; have n0_ := Aside0.mk (hp_); have n1_ := Aside0.mk (blk_grown (g := gb858) (o := .cells #[.int .i64 a0_0, .slice A0_1 l0_1.length c0_1] 43 (0, 0)) (by (with_reducible repeat (first | refine blk_drewN ?_ _ | refine blk_drew ?_ | refine blk_alloc ?_ _)); exact BK858.out) hg (Kd.R_ne HO_3.out BK858.out (by decide))); have n2_ := Aside0.mk ((by rw [hw]; exact below_set (HB.out) GB13.out : Below w.heap.size w w17)); clear HO_3; clear BK858; clear HB; have HO_3 := n0_; have BK858 := n1_; have HB := n2_; clear n0_ n1_ n2_; clear hg hw hp_))
        (try simp only [← hl3_1])
        go_roundg k1
        case measure => have := HK1.out; omega
        case rel => exact ⟨(y863), (wrap64 (x10_1 + 1)), (zq52), H', ⟨zq55⟩, ⟨by (try simp only [hl3_1]); (with_reducible repeat (first | apply Kd.R_alloc | apply Kd.R_drewN | apply Kd.R_drew)); exact HO_3.out⟩, ⟨by (try simp only [hl3_1]); (with_reducible repeat (first | refine blk_drewN ?_ _ | refine blk_drew ?_ | refine blk_alloc ?_ _)); exact BK858.out⟩, ⟨by repeat (first | (with_reducible first | exact HB.out | apply below_alloc | apply pw_below_drewN | apply below_drew1 | refine below_set ?_ GE858.out) | exact HB.out)⟩⟩
       ·rw [if_neg c12] at H
        exact absurd H (by simp)
      ·rw [if_neg c11] at H
       exact absurd H (by simp)
     ·rw [if_neg c9] at H
      have c9b0 : decide (x10_1 < (y859.length : Int)) = false := decide_eq_false c9
      (try simp only [hl3_1] at c9b0)
      clear c9
      obtain rfl := Option.some.inj H
      go_wp2
      go_ret
      exact ⟨_, zq49, HO_3.r, by repeat (first | (with_reducible first | exact HB.out | apply below_alloc | apply pw_below_drewN | apply below_drew1 | refine below_set ?_ GE858.out) | exact HB.out)⟩
  ·rw [if_neg c3] at H
   exact absurd H (by simp)
 ·rw [if_neg c2] at H
  exact absurd H (by simp)

/-! ### matrix_check: function 109 -/
def matrix_check.f (k : Nat) (a0_0 : Int) (a0_1 : Int) (a0_2 : Int) (a0_3 : Int) (a0_4 : Int) (a1 : Int) : Option (Int) := (shape_Check.f k a0_0 a0_1 a0_2 a0_3 a0_4).bind fun t892 => (if t892 = 0 then (if a0_0 = 2 then (if a1 < 1 then (some 2) else (if a1 > 24 then (some 2) else (if (wrap64 ((wrap64 ((wrap64 (a1 * a0_2)) * a0_3)) * a0_1)) > 4096 then (some 2) else (some 0)))) else (some 15)) else (some t892))
set_option maxHeartbeats 8000000 in
set_option maxRecDepth 100000 in
theorem matrix_check.calls (k : Nat) (a0_0 : Int) (a0_1 : Int) (a0_2 : Int) (a0_3 : Int) (a0_4 : Int) (a1 : Int) (r : Int) (w : World) (h : matrix_check.f k a0_0 a0_1 a0_2 a0_3 a0_4 a1 = some r) :
  Calls Try.prog 109 #[.agg #[.int .i64 a0_0, .int .i64 a0_1, .int .i64 a0_2, .int .i64 a0_3, .int .i64 a0_4], .int .i64 a1] w fun e w' => e = .returned (.int .i64 r) ∧ Below w.heap.size w w' := by
 have hu23 := Try.underlying23
 have HB := Aside0.mk (Below.refl w.heap.size w)
 have H : ((shape_Check.f k a0_0 a0_1 a0_2 a0_3 a0_4).bind fun t892 => (if t892 = 0 then (if a0_0 = 2 then (if a1 < 1 then (some 2) else (if a1 > 24 then (some 2) else (if (wrap64 ((wrap64 ((wrap64 (a1 * a0_2)) * a0_3)) * a0_1)) > 4096 then (some 2) else (some 0)))) else (some 15)) else (some t892))) = some r := h
 clear h
 replace H := Option.bind_eq_some_iff.mp H
 obtain ⟨t892, A30, H⟩ := H
 replace H : (if t892 = 0 then (if a0_0 = 2 then (if a1 < 1 then (some 2) else (if a1 > 24 then (some 2) else (if (wrap64 ((wrap64 ((wrap64 (a1 * a0_2)) * a0_3)) * a0_1)) > 4096 then (some 2) else (some 0)))) else (some 15)) else (some t892)) = some r := H
 have A3 := Aside0.mk A30
 clear A30
 by_cases c4 : t892 = 0
 ·rw [if_pos c4] at H
  have c4b0 : (t892 == 0) = true := beq_iff_eq.mpr c4
  have c4b1 : (t892 != 0) = false := bne_eq_false_iff_eq.mpr c4
  clear c4
  by_cases c5 : a0_0 = 2
  ·rw [if_pos c5] at H
   have c5b0 : (a0_0 == 2) = true := beq_iff_eq.mpr c5
   have c5b1 : (a0_0 != 2) = false := bne_eq_false_iff_eq.mpr c5
   clear c5
   by_cases c6 : a1 < 1
   ·rw [if_pos c6] at H
    have c6b0 : decide (a1 < 1) = true := decide_eq_true c6
    clear c6
    obtain rfl := Option.some.inj H
    go_enter Try.func109, Try.ntmps109
    go_wp2_with (first | ((with_reducible refine gate_dst (N := 2) rfl ?_); refine box_event ?hg (N := 2) ?hd (cs := #[.int .i64 a0_0, .int .i64 a0_1, .int .i64 a0_2, .int .i64 a0_3, .int .i64 a0_4]) (t := 23) ?hr ?_; (case hd => rfl); (case hg => rfl); (case hr => first | (go_simp; done) | (go_simp; rfl)); intro gb891 hg w7 hbox hb; have n0_ := Aside0.mk (below_step HB.bl hb); have n1_ := Aside0.mk (hbox); have n2_ := Aside0.mk ((zq54 : w.heap.size ≤ gb891)); have n3_ := Aside0.mk ((zq54 : w.heap.size ≤ gb891)); clear HB; have HB := n0_; have BK891 := n1_; have GW891 := n2_; have GE891 := n3_; clear n0_ n1_ n2_ n3_; clear hb hbox hg; obtain ⟨hcz8_0, hcz8_1, hcz8_2, hcz8_3, hcz8_4, hfz8_0, hfz8_1, hfz8_2, hfz8_3, hfz8_4⟩ := cells_5 BK891.out) | ((with_reducible refine gate_callee (f := 86) rfl ?_); refine goesL_ (some 7) rfl rfl Try.func86 (zq56) rfl #[.agg #[.int .i64 a0_0, .int .i64 a0_1, .int .i64 a0_2, .int .i64 a0_3, .int .i64 a0_4]] rfl (zq33) ?_; (with_reducible refine (shape_Check.calls k a0_0 a0_1 a0_2 a0_3 a0_4 t892 _ A3.out).mono ?_); rintro e w9 ⟨rfl, hb⟩; refine ⟨_, rfl, ?_⟩; replace BK891 := Aside0.mk (BK891.lk hb); replace HB := Aside0.mk (below_step HB.bl hb); (try clear hb); (try clear hb2); (try clear hk); (try clear hi); obtain ⟨hcz10_0, hcz10_1, hcz10_2, hcz10_3, hcz10_4, hfz10_0, hfz10_1, hfz10_2, hfz10_3, hfz10_4⟩ := cells_5 BK891.out))
    go_ret
    exact ⟨zq49, zq28⟩
   ·rw [if_neg c6] at H
    have c6b0 : decide (a1 < 1) = false := decide_eq_false c6
    clear c6
    by_cases c11 : a1 > 24
    ·rw [if_pos c11] at H
     have c11b0 : decide (24 < a1) = true := decide_eq_true c11
     clear c11
     obtain rfl := Option.some.inj H
     go_enter Try.func109, Try.ntmps109
     go_wp2_with (first | ((with_reducible refine gate_dst (N := 2) rfl ?_); refine box_event ?hg (N := 2) ?hd (cs := #[.int .i64 a0_0, .int .i64 a0_1, .int .i64 a0_2, .int .i64 a0_3, .int .i64 a0_4]) (t := 23) ?hr ?_; (case hd => rfl); (case hg => rfl); (case hr => first | (go_simp; done) | (go_simp; rfl)); intro gb891 hg w12 hbox hb; have n0_ := Aside0.mk (below_step HB.bl hb); have n1_ := Aside0.mk (hbox); have n2_ := Aside0.mk ((zq54 : w.heap.size ≤ gb891)); have n3_ := Aside0.mk ((zq54 : w.heap.size ≤ gb891)); clear HB; have HB := n0_; have BK891 := n1_; have GW891 := n2_; have GE891 := n3_; clear n0_ n1_ n2_ n3_; clear hb hbox hg; obtain ⟨hcz13_0, hcz13_1, hcz13_2, hcz13_3, hcz13_4, hfz13_0, hfz13_1, hfz13_2, hfz13_3, hfz13_4⟩ := cells_5 BK891.out) | ((with_reducible refine gate_callee (f := 86) rfl ?_); refine goesL_ (some 7) rfl rfl Try.func86 (zq56) rfl #[.agg #[.int .i64 a0_0, .int .i64 a0_1, .int .i64 a0_2, .int .i64 a0_3, .int .i64 a0_4]] rfl (zq33) ?_; (with_reducible refine (shape_Check.calls k a0_0 a0_1 a0_2 a0_3 a0_4 t892 _ A3.out).mono ?_); rintro e w14 ⟨rfl, hb⟩; refine ⟨_, rfl, ?_⟩; replace BK891 := Aside0.mk (BK891.lk hb); replace HB := Aside0.mk (below_step HB.bl hb); (try clear hb); (try clear hb2); (try clear hk); (try clear hi); obtain ⟨hcz15_0, hcz15_1, hcz15_2, hcz15_3, hcz15_4, hfz15_0, hfz15_1, hfz15_2, hfz15_3, hfz15_4⟩ := cells_5 BK891.out))
     go_ret
     exact ⟨zq49, zq28⟩
    ·rw [if_neg c11] at H
     have c11b0 : decide (24 < a1) = false := decide_eq_false c11
     clear c11
     by_cases c16 : (wrap64 ((wrap64 ((wrap64 (a1 * a0_2)) * a0_3)) * a0_1)) > 4096
     ·rw [if_pos c16] at H
      have c16b0 : decide (4096 < (wrap64 ((wrap64 ((wrap64 (a1 * a0_2)) * a0_3)) * a0_1))) = true := decide_eq_true c16
      clear c16
      obtain rfl := Option.some.inj H
      go_enter Try.func109, Try.ntmps109
      go_wp2_with (first | ((with_reducible refine gate_dst (N := 2) rfl ?_); refine box_event ?hg (N := 2) ?hd (cs := #[.int .i64 a0_0, .int .i64 a0_1, .int .i64 a0_2, .int .i64 a0_3, .int .i64 a0_4]) (t := 23) ?hr ?_; (case hd => rfl); (case hg => rfl); (case hr => first | (go_simp; done) | (go_simp; rfl)); intro gb891 hg w17 hbox hb; have n0_ := Aside0.mk (below_step HB.bl hb); have n1_ := Aside0.mk (hbox); have n2_ := Aside0.mk ((zq54 : w.heap.size ≤ gb891)); have n3_ := Aside0.mk ((zq54 : w.heap.size ≤ gb891)); clear HB; have HB := n0_; have BK891 := n1_; have GW891 := n2_; have GE891 := n3_; clear n0_ n1_ n2_ n3_; clear hb hbox hg; obtain ⟨hcz18_0, hcz18_1, hcz18_2, hcz18_3, hcz18_4, hfz18_0, hfz18_1, hfz18_2, hfz18_3, hfz18_4⟩ := cells_5 BK891.out) | ((with_reducible refine gate_callee (f := 86) rfl ?_); refine goesL_ (some 7) rfl rfl Try.func86 (zq56) rfl #[.agg #[.int .i64 a0_0, .int .i64 a0_1, .int .i64 a0_2, .int .i64 a0_3, .int .i64 a0_4]] rfl (zq33) ?_; (with_reducible refine (shape_Check.calls k a0_0 a0_1 a0_2 a0_3 a0_4 t892 _ A3.out).mono ?_); rintro e w19 ⟨rfl, hb⟩; refine ⟨_, rfl, ?_⟩; replace BK891 := Aside0.mk (BK891.lk hb); replace HB := Aside0.mk (below_step HB.bl hb); (try clear hb); (try clear hb2); (try clear hk); (try clear hi); obtain ⟨hcz20_0, hcz20_1, hcz20_2, hcz20_3, hcz20_4, hfz20_0, hfz20_1, hfz20_2, hfz20_3, hfz20_4⟩ := cells_5 BK891.out))
      go_ret
      exact ⟨zq49, zq28⟩
     ·rw [if_neg c16] at H
      have c16b0 : decide (4096 < (wrap64 ((wrap64 ((wrap64 (a1 * a0_2)) * a0_3)) * a0_1))) = false := decide_eq_false c16
      clear c16
      obtain rfl := Option.some.inj H
      go_enter Try.func109, Try.ntmps109
      go_wp2_with (first | ((with_reducible refine gate_dst (N := 2) rfl ?_); refine box_event ?hg (N := 2) ?hd (cs := #[.int .i64 a0_0, .int .i64 a0_1, .int .i64 a0_2, .int .i64 a0_3, .int .i64 a0_4]) (t := 23) ?hr ?_; (case hd => rfl); (case hg => rfl); (case hr => first | (go_simp; done) | (go_simp; rfl)); intro gb891 hg w21 hbox hb; have n0_ := Aside0.mk (below_step HB.bl hb); have n1_ := Aside0.mk (hbox); have n2_ := Aside0.mk ((zq54 : w.heap.size ≤ gb891)); have n3_ := Aside0.mk ((zq54 : w.heap.size ≤ gb891)); clear HB; have HB := n0_; have BK891 := n1_; have GW891 := n2_; have GE891 := n3_; clear n0_ n1_ n2_ n3_; clear hb hbox hg; obtain ⟨hcz22_0, hcz22_1, hcz22_2, hcz22_3, hcz22_4, hfz22_0, hfz22_1, hfz22_2, hfz22_3, hfz22_4⟩ := cells_5 BK891.out) | ((with_reducible refine gate_callee (f := 86) rfl ?_); refine goesL_ (some 7) rfl rfl Try.func86 (zq56) rfl #[.agg #[.int .i64 a0_0, .int .i64 a0_1, .int .i64 a0_2, .int .i64 a0_3, .int .i64 a0_4]] rfl (zq33) ?_; (with_reducible refine (shape_Check.calls k a0_0 a0_1 a0_2 a0_3 a0_4 t892 _ A3.out).mono ?_); rintro e w23 ⟨rfl, hb⟩; refine ⟨_, rfl, ?_⟩; replace BK891 := Aside0.mk (BK891.lk hb); replace HB := Aside0.mk (below_step HB.bl hb); (try clear hb); (try clear hb2); (try clear hk); (try clear hi); obtain ⟨hcz24_0, hcz24_1, hcz24_2, hcz24_3, hcz24_4, hfz24_0, hfz24_1, hfz24_2, hfz24_3, hfz24_4⟩ := cells_5 BK891.out))
      go_ret
      exact ⟨zq49, zq28⟩
  ·rw [if_neg c5] at H
   have c5b0 : (a0_0 == 2) = false := beq_eq_false_iff_ne.mpr c5
   have c5b1 : (a0_0 != 2) = true := bne_iff_ne.mpr c5
   obtain rfl := Option.some.inj H
   go_enter Try.func109, Try.ntmps109
   go_wp2_with (first | ((with_reducible refine gate_dst (N := 2) rfl ?_); refine box_event ?hg (N := 2) ?hd (cs := #[.int .i64 a0_0, .int .i64 a0_1, .int .i64 a0_2, .int .i64 a0_3, .int .i64 a0_4]) (t := 23) ?hr ?_; (case hd => rfl); (case hg => rfl); (case hr => first | (go_simp; done) | (go_simp; rfl)); intro gb891 hg w25 hbox hb; have n0_ := Aside0.mk (below_step HB.bl hb); have n1_ := Aside0.mk (hbox); have n2_ := Aside0.mk ((zq54 : w.heap.size ≤ gb891)); have n3_ := Aside0.mk ((zq54 : w.heap.size ≤ gb891)); clear HB; have HB := n0_; have BK891 := n1_; have GW891 := n2_; have GE891 := n3_; clear n0_ n1_ n2_ n3_; clear hb hbox hg; obtain ⟨hcz26_0, hcz26_1, hcz26_2, hcz26_3, hcz26_4, hfz26_0, hfz26_1, hfz26_2, hfz26_3, hfz26_4⟩ := cells_5 BK891.out) | ((with_reducible refine gate_callee (f := 86) rfl ?_); refine goesL_ (some 7) rfl rfl Try.func86 (zq56) rfl #[.agg #[.int .i64 a0_0, .int .i64 a0_1, .int .i64 a0_2, .int .i64 a0_3, .int .i64 a0_4]] rfl (zq33) ?_; (with_reducible refine (shape_Check.calls k a0_0 a0_1 a0_2 a0_3 a0_4 t892 _ A3.out).mono ?_); rintro e w27 ⟨rfl, hb⟩; refine ⟨_, rfl, ?_⟩; replace BK891 := Aside0.mk (BK891.lk hb); replace HB := Aside0.mk (below_step HB.bl hb); (try clear hb); (try clear hb2); (try clear hk); (try clear hi); obtain ⟨hcz28_0, hcz28_1, hcz28_2, hcz28_3, hcz28_4, hfz28_0, hfz28_1, hfz28_2, hfz28_3, hfz28_4⟩ := cells_5 BK891.out))
   go_ret
   exact ⟨zq49, zq28⟩
 ·rw [if_neg c4] at H
  have c4b0 : (t892 == 0) = false := beq_eq_false_iff_ne.mpr c4
  have c4b1 : (t892 != 0) = true := bne_iff_ne.mpr c4
  obtain rfl := Option.some.inj H
  go_enter Try.func109, Try.ntmps109
  go_wp2_with (first | ((with_reducible refine gate_dst (N := 2) rfl ?_); refine box_event ?hg (N := 2) ?hd (cs := #[.int .i64 a0_0, .int .i64 a0_1, .int .i64 a0_2, .int .i64 a0_3, .int .i64 a0_4]) (t := 23) ?hr ?_; (case hd => rfl); (case hg => rfl); (case hr => first | (go_simp; done) | (go_simp; rfl)); intro gb891 hg w29 hbox hb; have n0_ := Aside0.mk (below_step HB.bl hb); have n1_ := Aside0.mk (hbox); have n2_ := Aside0.mk ((zq54 : w.heap.size ≤ gb891)); have n3_ := Aside0.mk ((zq54 : w.heap.size ≤ gb891)); clear HB; have HB := n0_; have BK891 := n1_; have GW891 := n2_; have GE891 := n3_; clear n0_ n1_ n2_ n3_; clear hb hbox hg; obtain ⟨hcz30_0, hcz30_1, hcz30_2, hcz30_3, hcz30_4, hfz30_0, hfz30_1, hfz30_2, hfz30_3, hfz30_4⟩ := cells_5 BK891.out) | ((with_reducible refine gate_callee (f := 86) rfl ?_); refine goesL_ (some 7) rfl rfl Try.func86 (zq56) rfl #[.agg #[.int .i64 a0_0, .int .i64 a0_1, .int .i64 a0_2, .int .i64 a0_3, .int .i64 a0_4]] rfl (zq33) ?_; (with_reducible refine (shape_Check.calls k a0_0 a0_1 a0_2 a0_3 a0_4 t892 _ A3.out).mono ?_); rintro e w31 ⟨rfl, hb⟩; refine ⟨_, rfl, ?_⟩; replace BK891 := Aside0.mk (BK891.lk hb); replace HB := Aside0.mk (below_step HB.bl hb); (try clear hb); (try clear hb2); (try clear hk); (try clear hi)))
  go_ret
  exact ⟨zq49, zq28⟩
end Go.Proofs.Ytcmaidpoolcelaa.P
