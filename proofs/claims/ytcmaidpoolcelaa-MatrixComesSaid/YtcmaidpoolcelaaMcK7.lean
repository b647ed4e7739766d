/- Functions of the program as plain Lean functions, and proofs that the machine's calls do what these do: written by a program of this workplace (wip/tools/pp.py). -/
import Derived.ChangeAlike
import Derived.Deep.RegionWith
import Derived.IntWalk
import Derived.Lib.Hide
import Derived.RegionTactic
import Derived.Test.YtcmaidpoolcelaaMcPx0
import Derived.WalkSpells
import Derived.Test.YtcmaidpoolcelaaMcK1
import Derived.Test.YtcmaidpoolcelaaMcK2
import Derived.Test.YtcmaidpoolcelaaMcK4
import Derived.Test.YtcmaidpoolcelaaMcK6
import Derived.Test.YtcmaidpoolcelaaMcSh
namespace Go.Proofs.Ytcmaidpoolcelaa.P
open Go.RowKit Go.Proofs.YtcmaidpoolcelaaW.PrintWords Go.Proofs.YtcmaidpoolcelaaW.PrintLast Go.Proofs.YtcmaidpoolcelaaW.PrintMore
attribute [local go_sem] max2_int min2_int max_two min_two max_three min_three max_four min_four   -- for this text's walks alone
set_option linter.unusedVariables false
set_option linter.unusedSimpArgs false

/-! ### trefoilref03_Sub: function 27 -/
def trefoilref03_Sub.f (k : Nat) (a0 : Int) (a1 : Int) (a2 : Int) : Option (Int) := (trefoilref03_Neg.f k 64 a2).bind fun t385 => ((trefoilref03_Add.f k a0 a1 t385).bind fun t386 => (some t386))
set_option maxHeartbeats 8000000 in
set_option maxRecDepth 100000 in
theorem trefoilref03_Sub.calls (k : Nat) (a0 : Int) (a1 : Int) (a2 : Int) (r : Int) (w : World) (h : trefoilref03_Sub.f k a0 a1 a2 = some r) :
  Calls Try.prog 27 #[.int .i64 a0, .int .u64 a1, .int .u64 a2] w fun e w' => e = .returned (.int .u64 r) ∧ Drawn0 w w' := by
 have H : ((trefoilref03_Neg.f k 64 a2).bind fun t385 => ((trefoilref03_Add.f k a0 a1 t385).bind fun t386 => (some t386))) = some r := h
 clear h
 replace H := Option.bind_eq_some_iff.mp H
 obtain ⟨t385, A40, H⟩ := H
 replace H : ((trefoilref03_Add.f k a0 a1 t385).bind fun t386 => (some t386)) = some r := H
 have A4 := Aside0.mk A40
 clear A40
 replace H := Option.bind_eq_some_iff.mp H
 obtain ⟨t386, A50, H⟩ := H
 replace H : (some t386) = some r := H
 have A5 := Aside0.mk A50
 clear A50
 obtain rfl := Option.some.inj H
 go_enter Try.func27, Try.ntmps27
 go_wp2_with (first | ((with_reducible refine gate_callee (f := 63) rfl ?_); refine goesL_ (some 10) rfl rfl Try.func63 (zq56) rfl #[.int .i64 64, .int .u64 a2] rfl (zq33) ?_; (with_reducible refine (trefoilref03_Neg.calls k 64 a2 t385 _ A4.out).mono ?_); rintro e w' ⟨rfl, ⟨nd, rfl⟩⟩; refine ⟨_, rfl, ?_⟩) | ((with_reducible refine gate_callee (f := 29) rfl ?_); refine goesL_ (some 11) rfl rfl Try.func29 (zq56) rfl #[.int .i64 a0, .int .u64 a1, .int .u64 t385] rfl (zq33) ?_; (with_reducible refine (trefoilref03_Add.calls k a0 a1 t385 t386 _ A5.out).mono ?_); rintro e w' ⟨rfl, ⟨nd, rfl⟩⟩; refine ⟨_, rfl, ?_⟩))
 go_ret
 exact ⟨zq52, zq50⟩

/-! ### ring_Fits: function 65 -/
set_option maxHeartbeats 400000 in
theorem ring_Fits_1.calls (x m : Int) (g : Nat) (w : World) (h : w.cell? ⟨g, 0, none⟩ = some (.int .u64 m)) :
    Calls Try.prog 101 #[.int .u64 x, .pointer (some ⟨g, 0, none⟩)] w fun e w' => e = .returned (.bool (Go.bits .andNot .u64 x m != 0)) ∧ Drawn0 w w' := by
  go_enter Try.func101, Try.ntmps101
  go_wp2
  go_ret
  exact ⟨zq52, zq50⟩

def over (m : Int) (x : Int) : Bool := Go.bits .andNot .u64 x m != 0
def FitsAns (m : Int) (l : List Int) (w : World) (e : Ending) (w' : World) : Prop := ∃ i : Int, e = .returned (.int .i64 i) ∧ (0 ≤ i ↔ ∃ j : Nat, j < l.length ∧ over m (rd l j) = true) ∧ Drawn0 w w'

set_option maxHeartbeats 400000 in
theorem IndexFunc_Fits.calls (m : Int) (g : Nat) (A : Option Addr) (c : Nat) (l : List Int) (w : World) (h : w.cell? ⟨g, 0, none⟩ = some (.int .u64 m)) (hr : Kd.C (Kd.int .u64) w A l.length l) :
    Calls Try.prog 114 #[.slice A l.length c, .func (.func 101) #[] #[.pointer (some ⟨g, 0, none⟩)]] w (FitsAns m l w) := by
  have hm := Kd.C_max hr
  go_enter Try.func114, Try.ntmps114
  go_wp2
  go_loopw [5, 8] (fun _ i wr => ∃ k : Nat, k ≤ l.length ∧ i = .int .i64 k ∧ Drawn0 w wr ∧ (∀ j : Nat, j < k → over m (rd l j) = false)) (fun _ i _ => l.length - (intOf i).toNat)
  case atStart => exact ⟨0, Nat.zero_le _, rfl, Drawn0.refl _, fun j hj => by omega⟩
  case round =>
    obtain ⟨k, hk, rfl, hd, hb⟩ := hrel
    have HB := Lib.hid hb
    clear hb
    obtain ⟨n, rfl⟩ := hd.out
    have hcw : (w.drewN n).cell? ⟨g, 0, none⟩ = some (.int .u64 m) := h
    by_cases hlt : k < l.length
    · obtain ⟨ad, rfl, hcell⟩ := Kd.at_int hr (k : Int) (by omega) (by omega)
      rw [Int.toNat_natCast] at hcell
      by_cases hbad : over m (rd l k) = true
      · have hbad' : (Go.bits .andNot .u64 (rd l k) m != 0) = true := hbad
        have HX := Lib.hid hbad
        clear hbad
        go_wp2_with (go_at_call 101; refine (ring_Fits_1.calls _ m g _ hcw).mono ?_; rintro e w' ⟨rfl, ⟨n', rfl⟩⟩)
        go_ret
        exact ⟨k, rfl, ⟨fun _ => ⟨k, hlt, HX.out⟩, fun _ => by omega⟩, zq50⟩
      · have hbad' : (Go.bits .andNot .u64 (rd l k) m != 0) = false := by simpa [over] using hbad
        have HX := Lib.hid hbad
        clear hbad
        go_wp2_with (go_at_call 101; refine (ring_Fits_1.calls _ m g _ hcw).mono ?_; rintro e w' ⟨rfl, ⟨n', rfl⟩⟩)
        go_roundw
        case rel =>
          refine ⟨k + 1, by omega, by go_num, zq50, fun j hj => ?_⟩
          by_cases e : j = k
          · subst e; simpa using HX.out
          · exact HB.out j (by omega)
        case measure => simp [intOf]; omega
    · go_wp2
      go_ret
      exact ⟨-1, rfl, ⟨fun h => by omega, fun ⟨j, hj, hx⟩ => by rw [HB.out j (by omega)] at hx; cases hx⟩, zq50⟩

set_option maxHeartbeats 400000 in
theorem ContainsFunc_Fits.calls (m : Int) (g : Nat) (A : Option Addr) (c : Nat) (l : List Int) (w : World) (h : w.cell? ⟨g, 0, none⟩ = some (.int .u64 m)) (hr : Kd.C (Kd.int .u64) w A l.length l) :
    Calls Try.prog 100 #[.slice A l.length c, .func (.func 101) #[] #[.pointer (some ⟨g, 0, none⟩)]] w fun e w' => e = .returned (.bool (l.any (over m))) ∧ Drawn0 w w' := by
  go_enter Try.func100, Try.ntmps100
  go_wp2_with (go_at_call 114; refine (IndexFunc_Fits.calls m g A c l _ h hr).mono ?_; rintro e w' ⟨i, rfl, hi, ⟨n', rfl⟩⟩)
  go_ret
  refine ⟨congrArg (fun b => Ending.returned (.bool b)) ?_, zq50⟩
  rw [Bool.eq_iff_iff]
  simp only [decide_eq_true_eq, List.any_eq_true]
  try rw [hi]
  constructor
  · rintro ⟨j, hj, hx⟩
    refine ⟨rd l j, ?_, hx⟩
    unfold rd
    rw [List.getD_eq_getElem?_getD, List.getElem?_eq_getElem (by omega)]
    exact List.getElem_mem _
  · rintro ⟨x, hx, ho⟩
    obtain ⟨j, hj, rfl⟩ := List.getElem_of_mem hx
    refine ⟨j, hj, ?_⟩
    unfold rd
    rw [List.getD_eq_getElem?_getD, List.getElem?_eq_getElem (by omega)]
    exact ho

def ring_Fits.f (a0 : Int) (l1 : List Int) : Option Bool := (ring_mask.f a0).bind fun m => some (!(l1.any (over m)))
set_option maxHeartbeats 400000 in
theorem ring_Fits.calls (a0 : Int) (A1 : Option Addr) (c1 : Nat) (l1 : List Int) (r : Bool) (w : World) (hr1 : Kd.C (Kd.int .u64) w A1 l1.length l1) (hc1 : l1.length ≤ c1) (h : ring_Fits.f a0 l1 = some r) :
    Calls Try.prog 65 #[.int .i64 a0, .slice A1 l1.length c1] w fun e w' => e = .returned (.bool r) ∧ Below w.heap.size w w' := by
  obtain ⟨m, hm, hx⟩ := Option.bind_eq_some_iff.mp h
  obtain rfl := Option.some.inj hx
  clear h hx
  have HM := Lib.hid hm
  clear hm
  go_enter Try.func65, Try.ntmps65
  go_wp2_with (first | (go_at_call 90; refine (ring_mask.calls a0 m _ HM.out).mono ?_; rintro e w1 ⟨rfl, hd1⟩; have HB := Aside0.mk hd1.below; have HR := Aside0.mk (Kd.C_below hr1 hd1.below); clear hd1) | (go_at_call 100; refine (ContainsFunc_Fits.calls m w1.heap.size A1 c1 l1 _ ?hcell ?hread).mono ?_; (case hcell => go_simp); (case hread => exact Kd.C_alloc HR.out _); rintro e w' ⟨rfl, ⟨n', rfl⟩⟩))
  go_ret
  exact ⟨rfl, by repeat (first | exact HB.out | apply below_alloc | apply pw_below_drewN | apply below_drew)⟩

/-! ### bits_words: function 115 -/
def bits_words.f (a0 : Int) : Option (Int) := some (wrap64 (Int.tdiv (wrap64 (a0 + 63)) 64))
set_option maxHeartbeats 8000000 in
set_option maxRecDepth 100000 in
theorem bits_words.calls (a0 : Int) (r : Int) (w : World) (h : bits_words.f a0 = some r) :
  Calls Try.prog 115 #[.int .i64 a0] w fun e w' => e = .returned (.int .i64 r) ∧ Drawn0 w w' := by
 have H : (some (wrap64 (Int.tdiv (wrap64 (a0 + 63)) 64))) = some r := h
 clear h
 obtain rfl := Option.some.inj H
 go_enter Try.func115, Try.ntmps115
 go_wp2
 go_ret
 exact ⟨zq52, zq50⟩

/-! ### bits_New: function 102 -/
def bits_New.f (a0 : Int) : Option (Int × List Int × Int) := if a0 < 0 then (some (0, ([] : List Int), 2)) else (if a0 > 4194304 then (some (0, ([] : List Int), 2)) else ((bits_words.f a0).bind fun t482 => (if 0 ≤ t482 then (if (t482 : Int).toNat ≤ 35184372088832 then (some (a0, (List.replicate (t482 : Int).toNat 0), 0)) else (none)) else (none))))
set_option maxHeartbeats 8000000 in
set_option maxRecDepth 100000 in
theorem bits_New.calls (a0 : Int) (r1 : Int) (r2 : List Int) (r3 : Int) (w : World) (h : bits_New.f a0 = some (r1, r2, r3)) :
  Calls Try.prog 102 #[.int .i64 a0] w fun e w' => ∃ v1_ : Value, e = .returned (.tuple #[.agg #[.int .i64 r1, v1_], .int .i64 r3]) ∧ Kd.R (Kd.int .u64) 35 w' w.heap.size (fun _ => True) v1_ r2 ∧ Below w.heap.size w w' := by
 have hu43 := Try.underlying43
 have HB := Aside0.mk (Below.refl w.heap.size w)
 have H : (if a0 < 0 then (some (0, ([] : List Int), 2)) else (if a0 > 4194304 then (some (0, ([] : List Int), 2)) else ((bits_words.f a0).bind fun t482 => (if 0 ≤ t482 then (if (t482 : Int).toNat ≤ 35184372088832 then (some (a0, (List.replicate (t482 : Int).toNat 0), 0)) else (none)) else (none))))) = some (r1, r2, r3) := h
 clear h
 by_cases c2 : a0 < 0
 ·rw [if_pos c2] at H
  have c2b0 : decide (a0 < 0) = true := decide_eq_true c2
  clear c2
  simp only [Option.some.injEq, Prod.mk.injEq] at H
  obtain ⟨rfl, rfl, rfl⟩ := H
  go_enter Try.func102, Try.ntmps102
  go_wp2_with (first | ((with_reducible refine gate_dst (N := 2) rfl ?_); refine box_event ?hg (N := 2) ?hd (cs := #[.int .i64 0, .slice none 0 0]) (t := 43) ?hr ?_; (case hd => rfl); (case hg => rfl); (case hr => first | (go_simp; done) | (go_simp; rfl)); intro gb481 hg w3 hbox hb; have n0_ := Aside0.mk (below_step HB.bl hb); have n1_ := Aside0.mk (hbox); have n2_ := Aside0.mk ((zq54 : w.heap.size ≤ gb481)); have n3_ := Aside0.mk ((zq54 : w.heap.size ≤ gb481)); clear HB; have HB := n0_; have BK481 := n1_; have GW481 := n2_; have GE481 := n3_; clear n0_ n1_ n2_ n3_; clear hb hbox hg; obtain ⟨hcz4_0, hcz4_1, hfz4_0, hfz4_1⟩ := cells_2 BK481.out))
  refine bodyPost_ret (results_ct rfl _ _ gb481 43 #[.int .i64 0, .slice none 0 0] (0, 0) _ rfl (zq3) Try.underlying43 rfl (zq56)) rfl ?_
  exact ⟨_, zq49, zq32, by repeat (first | (with_reducible first | exact HB.out | apply below_alloc | apply pw_below_drewN | apply below_drew1 | refine below_set ?_ GE481.out) | exact HB.out)⟩
 ·rw [if_neg c2] at H
  have c2b0 : decide (a0 < 0) = false := decide_eq_false c2
  clear c2
  by_cases c5 : a0 > 4194304
  ·rw [if_pos c5] at H
   have c5b0 : decide (4194304 < a0) = true := decide_eq_true c5
   clear c5
   simp only [Option.some.injEq, Prod.mk.injEq] at H
   obtain ⟨rfl, rfl, rfl⟩ := H
   go_enter Try.func102, Try.ntmps102
   go_wp2_with (first | ((with_reducible refine gate_dst (N := 2) rfl ?_); refine box_event ?hg (N := 2) ?hd (cs := #[.int .i64 0, .slice none 0 0]) (t := 43) ?hr ?_; (case hd => rfl); (case hg => rfl); (case hr => first | (go_simp; done) | (go_simp; rfl)); intro gb481 hg w6 hbox hb; have n0_ := Aside0.mk (below_step HB.bl hb); have n1_ := Aside0.mk (hbox); have n2_ := Aside0.mk ((zq54 : w.heap.size ≤ gb481)); have n3_ := Aside0.mk ((zq54 : w.heap.size ≤ gb481)); clear HB; have HB := n0_; have BK481 := n1_; have GW481 := n2_; have GE481 := n3_; clear n0_ n1_ n2_ n3_; clear hb hbox hg; obtain ⟨hcz7_0, hcz7_1, hfz7_0, hfz7_1⟩ := cells_2 BK481.out))
   refine bodyPost_ret (results_ct rfl _ _ gb481 43 #[.int .i64 0, .slice none 0 0] (0, 0) _ rfl (zq3) Try.underlying43 rfl (zq56)) rfl ?_
   exact ⟨_, zq49, zq32, by repeat (first | (with_reducible first | exact HB.out | apply below_alloc | apply pw_below_drewN | apply below_drew1 | refine below_set ?_ GE481.out) | exact HB.out)⟩
  ·rw [if_neg c5] at H
   have c5b0 : decide (4194304 < a0) = false := decide_eq_false c5
   clear c5
   replace H := Option.bind_eq_some_iff.mp H
   obtain ⟨t482, A80, H⟩ := H
   replace H : (if 0 ≤ t482 then (if (t482 : Int).toNat ≤ 35184372088832 then (some (a0, (List.replicate (t482 : Int).toNat 0), 0)) else (none)) else (none)) = some (r1, r2, r3) := H
   have A8 := Aside0.mk A80
   clear A80
   by_cases c9 : 0 ≤ t482
   ·rw [if_pos c9] at H
    have c9b0 := eq_true c9
    have c9b1 : decide (0 ≤ t482) = true := decide_eq_true c9
    clear c9
    by_cases c10 : (t482 : Int).toNat ≤ 35184372088832
    ·rw [if_pos c10] at H
     have c10b0 := eq_true c10
     have c10b1 : decide ((t482 : Int).toNat ≤ 35184372088832) = true := decide_eq_true c10
     clear c10
     obtain ⟨y483, hy483⟩ : ∃ y_ : List Int, y_ = (List.replicate (t482 : Int).toNat 0) := ⟨_, rfl⟩
     replace H : (some (a0, y483, 0)) = some (r1, r2, r3) := by first | (rw [hy483]; with_reducible exact H) | (have H2_ := (Option.bind_some _ _).symm.trans H; rw [hy483]; with_reducible exact H2_) | (have H2_ := (Option.bind_some _ _).symm.trans H; with_reducible exact H2_) | with_reducible exact H | (rw [hy483]; exact H) | exact H
     have Ny483 := Aside0.mk hy483
     clear hy483
     simp only [Option.some.injEq, Prod.mk.injEq] at H
     obtain ⟨rfl, rfl, rfl⟩ := H
     go_enter Try.func102, Try.ntmps102
     go_wp2_with (first | ((with_reducible refine gate_dst (N := 2) rfl ?_); refine box_event ?hg (N := 2) ?hd (cs := #[.int .i64 0, .slice none 0 0]) (t := 43) ?hr ?_; (case hd => rfl); (case hg => rfl); (case hr => first | (go_simp; done) | (go_simp; rfl)); intro gb481 hg w11 hbox hb; have n0_ := Aside0.mk (below_step HB.bl hb); have n1_ := Aside0.mk (hbox); have n2_ := Aside0.mk ((zq54 : w.heap.size ≤ gb481)); have n3_ := Aside0.mk ((zq54 : w.heap.size ≤ gb481)); clear HB; have HB := n0_; have BK481 := n1_; have GW481 := n2_; have GE481 := n3_; clear n0_ n1_ n2_ n3_; clear hb hbox hg) | ((with_reducible refine gate_callee (f := 115) rfl ?_); refine goesL_ (some 13) rfl rfl Try.func115 (zq56) rfl #[.int .i64 a0] rfl (zq33) ?_; (with_reducible refine (bits_words.calls a0 t482 _ A8.out).mono ?_); rintro e w' ⟨rfl, ⟨nd, rfl⟩⟩; refine ⟨_, rfl, ?_⟩; (try (rw [drewN_self w11]; generalize hq_ : World.drewN w11 _ = w11; have n0_ : Aside0 (w11.heap[gb481]? = some (.cells #[.int .i64 0, .slice none 0 0] 43 (0, 0))) := ⟨by rw [← hq_]; exact (by (with_reducible repeat (first | refine blk_drewN ?_ _ | refine blk_drew ?_ | refine blk_alloc ?_ _)); exact BK481.out)⟩; have n1_ : Aside0 (Below w.heap.size w w11) := ⟨by rw [← hq_]; exact HB.bl⟩; clear BK481 HB hq_; have BK481 := n0_; have HB := n1_; clear n0_ n1_))) | ((with_reducible refine gate_dst (N := 14) rfl ?_); refine Kd.R_make (Kd.int .u64) _ 35 rfl (N := 14) rfl 24 _ _ rfl t482 rfl rfl Try.underlying24 (.int .u64 0) 8 info35 rfl (by decide) (by omega) 0 (ok := fun _ => True) (okp := fun _ => True) rfl (fun _ hk => hk) trivial (of_decide_eq_true (zq51)) (Nat.le_trans (Nat.mul_le_mul_right _ (of_decide_eq_true (zq51) : t482.toNat ≤ 35184372088832)) (by omega)) (Below.refl _ _) (Nat.le_refl _) ?_; intro v484 w12 ho13 hb hg_ hnew_; clear hg_ hnew_; (first | rw [← Ny483.out] at ho13 | (simp only [Int.reduceToNat] at ho13; rw [← Ny483.out] at ho13)); have HO485 := Aside0.mk (Kd.R_lower ho13 (below_size HB.bl)); replace BK481 := Aside0.mk (BK481.lk hb); replace HB := Aside0.mk (below_step HB.bl hb); clear hb ho13; obtain ⟨Ao14, co14, eo14⟩ := Kd.R_slice HO485.out; subst eo14; obtain ⟨hcz15_0, hcz15_1, hfz15_0, hfz15_1⟩ := cells_2 BK481.out))
     refine bodyPost_ret (results_ct rfl _ _ gb481 43 #[.int .i64 a0, .slice Ao14 y483.length co14] (0, 0) _ rfl (by (with_reducible repeat (first | refine blk_drewN ?_ _ | refine blk_drew ?_ | refine blk_alloc ?_ _)); refine blk_put (cs := #[.int .i64 a0, .slice none 0 0]) ?_ 1 _ rfl; (with_reducible repeat (first | refine blk_drewN ?_ _ | refine blk_drew ?_ | refine blk_alloc ?_ _)); refine blk_put (cs := #[.int .i64 0, .slice none 0 0]) ?_ 0 _ rfl; (with_reducible repeat (first | refine blk_drewN ?_ _ | refine blk_drew ?_ | refine blk_alloc ?_ _)); exact BK481.out) Try.underlying43 rfl (zq56)) rfl ?_
     exact ⟨_, zq49, by (with_reducible repeat (first | apply Kd.R_alloc | apply Kd.R_drewN | apply Kd.R_drew)); exact Kd.R_mono (Kd.R_far (p := ⟨gb481, 1, none⟩) (Kd.R_far (p := ⟨gb481, 0, none⟩) (Kd.R_types HO485.out BK481.out (by decide)) (fun _ hk => hk.2) (.int .i64 a0)) (fun _ hk => hk.2) (.slice Ao14 y483.length co14)) (fun _ hk => trivial), by repeat (first | (with_reducible first | exact HB.out | apply below_alloc | apply pw_below_drewN | apply below_drew1 | refine below_set ?_ GE481.out) | exact HB.out)⟩
    ·rw [if_neg c10] at H
     exact absurd H (by simp)
   ·rw [if_neg c9] at H
    exact absurd H (by simp)

/-! ### bits_Of: function 67 -/
def bits_Of.l0 : Nat → List Bool → Int → Int → Int → List Int → Option (Int × List Int × Int)
 | 0, _, _, _, _, _ => none
 | k + 1, x18, x19, x20, x493000, x493001 => if x20 < x19 then (if 0 ≤ x20 then (if x20 < (x18.length : Int) then (if rdOf false x18 x20 = true then (if 0 ≤ (wrap64 (Int.tdiv x20 64)) then (if (wrap64 (Int.tdiv x20 64)) < (x493001.length : Int) then (if 0 ≤ (IntKind.u64.wrap (Int.tmod x20 64)) then (bits_Of.l0 k x18 x19 (wrap64 (x20 + 1)) x493000 (x493001.set ((wrap64 (Int.tdiv x20 64)) : Int).toNat (Go.bits .or .u64 (rd x493001 (wrap64 (Int.tdiv x20 64))) (shl .u64 1 (IntKind.u64.wrap (Int.tmod x20 64)))))) else (none)) else (none)) else (none)) else (bits_Of.l0 k x18 x19 (wrap64 (x20 + 1)) x493000 x493001)) else (none)) else (none)) else (some (x493000, x493001, 0))
def bits_Of.f (k : Nat) (l0 : List Bool) : Option (Int × List Int × Int) := (bits_New.f (l0.length : Int)).bind fun bt487 => (if bt487.2.2 = 0 then (bits_Of.l0 k l0 (l0.length : Int) 0 bt487.1 bt487.2.1) else (some (0, ([] : List Int), bt487.2.2)))
set_option maxHeartbeats 8000000 in
set_option maxRecDepth 100000 in
theorem bits_Of.calls (k : Nat) (A0 : Option Addr) (c0 : Nat) (l0 : List Bool) (r1 : Int) (r2 : List Int) (r3 : Int) (w : World) (hr0 : Kd.C Kd.bool w A0 l0.length l0) (hc0 : l0.length ≤ c0) (h : bits_Of.f k l0 = some (r1, r2, r3)) :
  Calls Try.prog 67 #[.slice A0 l0.length c0] w fun e w' => ∃ v1_ : Value, e = .returned (.tuple #[.agg #[.int .i64 r1, v1_], .int .i64 r3]) ∧ Kd.R (Kd.int .u64) 35 w' w.heap.size (fun _ => True) v1_ r2 ∧ Below w.heap.size w w' := by
 have hu43 := Try.underlying43
 have HR0 := Aside0.mk hr0
 have HC0 := Aside0.mk hc0
 clear hr0 hc0
 have HB := Aside0.mk (Below.refl w.heap.size w)
 have H : ((bits_New.f (l0.length : Int)).bind fun bt487 => (if bt487.2.2 = 0 then (bits_Of.l0 k l0 (l0.length : Int) 0 bt487.1 bt487.2.1) else (some (0, ([] : List Int), bt487.2.2)))) = some (r1, r2, r3) := h
 clear h
 replace H := Option.bind_eq_some_iff.mp H
 obtain ⟨⟨t487, t488, t491⟩, A20, H⟩ := H
 replace H : (if t491 = 0 then (bits_Of.l0 k l0 (l0.length : Int) 0 t487 t488) else (some (0, ([] : List Int), t491))) = some (r1, r2, r3) := H
 have A2 := Aside0.mk A20
 clear A20
 by_cases c3 : t491 = 0
 ·rw [if_pos c3] at H
  have c3b0 : (t491 == 0) = true := beq_iff_eq.mpr c3
  have c3b1 : (t491 != 0) = false := bne_eq_false_iff_eq.mpr c3
  clear c3
  have H' := Aside0.mk H
  clear H
  go_enter Try.func67, Try.ntmps67
  go_wp2_with (first | ((with_reducible refine gate_dst (N := 2) rfl ?_); refine box_event ?hg (N := 2) ?hd (cs := #[.int .i64 0, .slice none 0 0]) (t := 43) ?hr ?_; (case hd => rfl); (case hg => rfl); (case hr => first | (go_simp; done) | (go_simp; rfl)); intro gb486 hg w4 hbox hb; have n0_ := Aside0.mk (below_step HB.bl hb); have n1_ := Aside0.mk (hbox); have n2_ := Aside0.mk ((zq54 : w.heap.size ≤ gb486)); have n3_ := Aside0.mk ((zq54 : w.heap.size ≤ gb486)); clear HB; have HB := n0_; have BK486 := n1_; have GW486 := n2_; have GE486 := n3_; clear n0_ n1_ n2_ n3_; clear hb hbox hg) | ((with_reducible refine gate_callee (f := 102) rfl ?_); refine goesL_ (some 11) rfl rfl Try.func102 (zq56) rfl #[.int .i64 (l0.length : Int)] rfl (zq33) ?_; (with_reducible refine (bits_New.calls (l0.length : Int) t487 t488 t491 _ A2.out).mono ?_); rintro e w5 ⟨v489, rfl, ho0, hb⟩; refine ⟨_, rfl, ?_⟩; have HO490 := Aside0.mk (Kd.R_lower ho0 (below_size HB.bl)); replace BK486 := Aside0.mk (BK486.lk hb); replace HB := Aside0.mk (below_step HB.bl hb); (try clear hb); (try clear hb2); (try clear hk); (try clear hi); (try clear ho0)) | ((with_reducible refine gate_dst (N := 4) rfl ?_); refine box_event ?hg (N := 4) ?hd (cs := #[.int .i64 0, .slice none 0 0]) (t := 43) ?hr ?_; (case hd => rfl); (case hg => rfl); (case hr => first | (go_simp; done) | (go_simp; rfl)); intro gb492 hg w6 hbox hb; have n0_ := Aside0.mk (Kd.R_below HO490.r hb); have n1_ := Aside0.mk (BK486.lk hb); have n2_ := Aside0.mk (below_step HB.bl hb); have n3_ := Aside0.mk (hbox); have n4_ := Aside0.mk ((zq54 : w.heap.size ≤ gb492)); have n5_ := Aside0.mk ((zq54 : w.heap.size ≤ gb492)); have n6_ := Aside0.mk ((by rw [hg]; exact Nat.ne_of_lt (blk_lt BK486.ld) : gb486 ≠ gb492)); have n7_ := Aside0.mk ((by rw [hg]; exact Nat.ne_of_gt (blk_lt BK486.ld) : gb492 ≠ gb486)); clear HO490; clear BK486; clear HB; have HO490 := n0_; have BK486 := n1_; have HB := n2_; have BK492 := n3_; have GW492 := n4_; have GE492 := n5_; have NB486_492 := n6_; have NB492_486 := n7_; clear n0_ n1_ n2_ n3_ n4_ n5_ n6_ n7_; clear hb hbox hg; have hnb7 := NB492_486.out; have hnc7 := NB486_492.out; obtain ⟨hcz8_0, hcz8_1, hfz8_0, hfz8_1⟩ := cells_2 BK492.out; obtain ⟨Ao9, co9, eo9⟩ := Kd.R_slice HO490.out; subst eo9))
  go_loopg [20] k (fun kq v20 w' => ∃ (x20_1 : Int) (x493001_1 : List Int) (u493001 : Value), v20 = .int .i64 x20_1 ∧ Aside0 (bits_Of.l0 kq l0 (l0.length : Int) x20_1 t487 x493001_1 = some (r1, r2, r3)) ∧ Aside0 (kq ≤ k) ∧ Aside0 (Kd.R (Kd.int .u64) 35 w' w.heap.size (fun _ => True) u493001 x493001_1) ∧ Aside0 (w'.heap[gb486]? = some (.cells #[.int .i64 0, (.slice none 0 0)] 43 (0, 0))) ∧ Aside0 (w'.heap[gb492]? = some (.cells #[.int .i64 t487, u493001] 43 (0, 0))) ∧ Aside0 (Below w.heap.size w w'))
  case atStart => exact ⟨(0), (t488), (.slice Ao9 t488.length co9), (zq52), H', ⟨Nat.le_refl _⟩, ⟨by (with_reducible repeat (first | apply Kd.R_alloc | apply Kd.R_drewN | apply Kd.R_drew)); exact Kd.R_mono (Kd.R_far (p := ⟨gb492, 1, none⟩) (Kd.R_far (p := ⟨gb492, 0, none⟩) (Kd.R_types HO490.out BK492.out (by decide)) (fun _ hk => hk.2) (.int .i64 t487)) (fun _ hk => hk.2) (.slice Ao9 t488.length co9)) (fun _ hk => trivial)⟩, ⟨by (with_reducible repeat (first | refine blk_drewN ?_ _ | refine blk_drew ?_ | refine blk_alloc ?_ _)); refine blk_far ?_ NB486_492.out _; (with_reducible repeat (first | refine blk_drewN ?_ _ | refine blk_drew ?_ | refine blk_alloc ?_ _)); refine blk_far ?_ NB486_492.out _; (with_reducible repeat (first | refine blk_drewN ?_ _ | refine blk_drew ?_ | refine blk_alloc ?_ _)); exact BK486.out⟩, ⟨by (with_reducible repeat (first | refine blk_drewN ?_ _ | refine blk_drew ?_ | refine blk_alloc ?_ _)); refine blk_put (cs := #[.int .i64 t487, .slice none 0 0]) ?_ 1 _ rfl; (with_reducible repeat (first | refine blk_drewN ?_ _ | refine blk_drew ?_ | refine blk_alloc ?_ _)); refine blk_put (cs := #[.int .i64 0, .slice none 0 0]) ?_ 0 _ rfl; (with_reducible repeat (first | refine blk_drewN ?_ _ | refine blk_drew ?_ | refine blk_alloc ?_ _)); exact BK492.out⟩, ⟨zq17⟩⟩
  case round =>
   clear H'
   try clear c1
   try clear p2
   try clear c3
   try clear c3b0
   try clear c3b1
   try clear c6
   try clear c7
   try clear hcz8_0
   try clear hcz8_1
   try clear hfz8_0
   try clear hfz8_1
   obtain ⟨x20_1, x493001_1, u493001, rfl, HA, HK1, HO_493001, BK486, BK492, HB⟩ := hrel
   cases gk with
   | zero => exact absurd HA.out (by simp [bits_Of.l0])
   | succ k1 =>
    have H := HA.out
    clear HA
    simp only [bits_Of.l0] at H
    by_cases c10 : x20_1 < (l0.length : Int)
    ·rw [if_pos c10] at H
     have c10b0 : decide (x20_1 < (l0.length : Int)) = true := decide_eq_true c10
     clear c10
     by_cases c11 : 0 ≤ x20_1
     ·rw [if_pos c11] at H
      have c11b0 : decide (0 ≤ x20_1) = true := decide_eq_true c11
      clear c11
      by_cases c12 : x20_1 < (l0.length : Int)
      ·rw [if_pos c12] at H
       have c12b0 : decide (x20_1 < (l0.length : Int)) = true := decide_eq_true c12
       clear c12
       obtain ⟨bq13, hbq13⟩ : ∃ b_ : Bool, b_ = (rdOf false l0 x20_1) := ⟨_, rfl⟩
       replace H : (if bq13 = true then (if 0 ≤ (wrap64 (Int.tdiv x20_1 64)) then (if (wrap64 (Int.tdiv x20_1 64)) < (x493001_1.length : Int) then (if 0 ≤ (IntKind.u64.wrap (Int.tmod x20_1 64)) then (bits_Of.l0 k1 l0 (l0.length : Int) (wrap64 (x20_1 + 1)) t487 (x493001_1.set ((wrap64 (Int.tdiv x20_1 64)) : Int).toNat (Go.bits .or .u64 (rd x493001_1 (wrap64 (Int.tdiv x20_1 64))) (shl .u64 1 (IntKind.u64.wrap (Int.tmod x20_1 64)))))) else (none)) else (none)) else (none)) else (bits_Of.l0 k1 l0 (l0.length : Int) (wrap64 (x20_1 + 1)) t487 x493001_1)) = some (r1, r2, r3) := by rw [← hbq13] at H; exact H
       have Nbq13 := Aside0.mk hbq13
       clear hbq13
       by_cases c14 : bq13 = true
       ·subst c14
        have H1 : (if 0 ≤ (wrap64 (Int.tdiv x20_1 64)) then (if (wrap64 (Int.tdiv x20_1 64)) < (x493001_1.length : Int) then (if 0 ≤ (IntKind.u64.wrap (Int.tmod x20_1 64)) then (bits_Of.l0 k1 l0 (l0.length : Int) (wrap64 (x20_1 + 1)) t487 (x493001_1.set ((wrap64 (Int.tdiv x20_1 64)) : Int).toNat (Go.bits .or .u64 (rd x493001_1 (wrap64 (Int.tdiv x20_1 64))) (shl .u64 1 (IntKind.u64.wrap (Int.tmod x20_1 64)))))) else (none)) else (none)) else (none)) = some (r1, r2, r3) := by rw [if_pos rfl] at H; exact H
        clear H
        have H := H1
        clear H1
        obtain ⟨ji15, hji15⟩ : ∃ j_ : Int, (wrap64 (Int.tdiv x20_1 64)) = j_ := ⟨_, rfl⟩
        replace H : (if 0 ≤ (ji15) then (if (ji15) < (x493001_1.length : Int) then (if 0 ≤ (IntKind.u64.wrap (Int.tmod x20_1 64)) then (bits_Of.l0 k1 l0 (l0.length : Int) (wrap64 (x20_1 + 1)) t487 (x493001_1.set ((ji15) : Int).toNat (Go.bits .or .u64 (rd x493001_1 (ji15)) (shl .u64 1 (IntKind.u64.wrap (Int.tmod x20_1 64)))))) else (none)) else (none)) else (none)) = some (r1, r2, r3) := by first | (rw [hji15] at H; exact H) | (simp only [hji15] at H ⊢; exact H)
        have hji15w : (IntKind.i64.wrap (Int.tdiv x20_1 64)) = ji15 := (i64_w _).trans hji15
        by_cases c16 : 0 ≤ (ji15)
        ·rw [if_pos c16] at H
         have c16b0 : decide (0 ≤ (ji15)) = true := decide_eq_true c16
         clear c16
         by_cases c17 : (ji15) < (x493001_1.length : Int)
         ·rw [if_pos c17] at H
          have c17b0 : decide ((ji15) < (x493001_1.length : Int)) = true := decide_eq_true c17
          clear c17
          obtain ⟨ji18, hji18⟩ : ∃ j_ : Int, (IntKind.u64.wrap (Int.tmod x20_1 64)) = j_ := ⟨_, rfl⟩
          replace H : (if 0 ≤ (ji18) then (bits_Of.l0 k1 l0 (l0.length : Int) (wrap64 (x20_1 + 1)) t487 (x493001_1.set ((ji15) : Int).toNat (Go.bits .or .u64 (rd x493001_1 (ji15)) (shl .u64 1 (ji18))))) else (none)) = some (r1, r2, r3) := by first | (rw [hji18] at H; exact H) | (simp only [hji18] at H ⊢; exact H)
          by_cases c19 : 0 ≤ (ji18)
          ·rw [if_pos c19] at H
           have c19b0 := eq_true c19
           have c19b1 : decide (0 ≤ (ji18)) = true := decide_eq_true c19
           clear c19
           obtain ⟨ji20, hji20⟩ : ∃ j_ : Int, (shl .u64 1 (ji18)) = j_ := ⟨_, rfl⟩
           replace H : (bits_Of.l0 k1 l0 (l0.length : Int) (wrap64 (x20_1 + 1)) t487 (x493001_1.set ((ji15) : Int).toNat (Go.bits .or .u64 (rd x493001_1 (ji15)) (ji20)))) = some (r1, r2, r3) := by first | (rw [hji20] at H; exact H) | (simp only [hji20] at H ⊢; exact H)
           have hji20_ : (IntKind.u64.wrap (1 * 2 ^ min (ji18).toNat 64)) = ji20 := hji20
           have hji20z : (ji18) ≤ 64 → (IntKind.u64.wrap (1 * 2 ^ (ji18).toNat)) = ji20 := shl_small hji20
           have hji20u : (IntKind.u64.wrap (2 ^ min (ji18).toNat 64)) = ji20 := by have h_ := hji20_; rw [Int.one_mul] at h_; exact h_
           have hji20v : (ji18) ≤ 64 → (IntKind.u64.wrap (2 ^ (ji18).toNat)) = ji20 := fun hle_ => by have h_ := hji20z hle_; rw [Int.one_mul] at h_; exact h_
           obtain ⟨y495, hy495⟩ : ∃ y_ : List Int, y_ = (x493001_1.set ((ji15) : Int).toNat (Go.bits .or .u64 (rd x493001_1 (ji15)) (ji20))) := ⟨_, rfl⟩
           replace H : (bits_Of.l0 k1 l0 (l0.length : Int) (wrap64 (x20_1 + 1)) t487 y495) = some (r1, r2, r3) := by first | (rw [hy495]; with_reducible exact H) | (have H2_ := (Option.bind_some _ _).symm.trans H; rw [hy495]; with_reducible exact H2_) | (have H2_ := (Option.bind_some _ _).symm.trans H; with_reducible exact H2_) | with_reducible exact H | (rw [hy495]; exact H) | exact H
           have Ny495 := Aside0.mk hy495
           clear hy495
           have H' := Aside0.mk H
           clear H
           have p493 : 0 ≤ (x20_1 : Int) := of_decide_eq_true (zq51)
           have q493 : x20_1 < (l0.length : Int) := of_decide_eq_true (zq51)
           obtain ⟨ad493, e493, hx493_0⟩ := Kd.at_bool HR0.out x20_1 p493 q493
           (try rw [← Nbq13.out] at hx493_0)
           cases e493
           replace hx493_0 := (HB.out.cell (World.block_lt_of_cell? w _ hx493_0)).trans hx493_0
           replace p493 := eq_true p493
           replace q493 := eq_true q493
           have hnb22 := NB492_486.out
           have hnc22 := NB486_492.out
           obtain ⟨hcz23_0, hcz23_1, hfz23_0, hfz23_1⟩ := cells_2 BK492.out
           obtain ⟨Ao24, co24, eo24⟩ := Kd.R_slice HO_493001.out
           subst eo24
           have p494 : 0 ≤ ((ji15) : Int) := of_decide_eq_true (zq51)
           have q494 : (ji15) < (x493001_1.length : Int) := of_decide_eq_true (zq51)
           obtain ⟨ad494, e494, hx494_0⟩ := Kd.at_int (Kd.R_reads' HO_493001.out).2.2 (ji15) p494 q494
           cases e494
           replace p494 := eq_true p494
           replace q494 := eq_true q494
           have p21 : 0 ≤ ((ji15) : Int) := of_decide_eq_true (zq51)
           have q21 : ((ji15) : Int) < ((x493001_1.length : Int) : Int) := of_decide_eq_true (zq51)
           obtain ⟨go21, co21, eo21, gb21, gl21, cl21, HG21⟩ := Kd.R_form HO_493001.out (by omega)
           (first | cases eo21 | (injection eo21 with ea_ en_ ec_; (first | subst ea_ | (injection ea_ with ea_; subst ea_)); subst ec_; clear en_))
           have GB21 := Aside0.mk gb21
           have GG21 := Aside0.mk HG21
           clear gb21 gl21 HG21
           (first | simp only [add_plain] at hx494_0 | skip)
           obtain ⟨hx21_0, hf21_0⟩ := Kd.R_celln 0 HO_493001.out ((ji15) : Int) p21 q21
           replace p21 := eq_true p21
           replace q21 := eq_true q21
           have HP25 := Kd.R_putg HO_493001.out ((ji15) : Int) (Go.bits .or .u64 (rd x493001_1 (ji15)) (ji20))
           go_wp2_with (first | ((with_reducible refine gate_store (t := 35) (p := 37) rfl ?_); refine store_event (t := 35) (p := 37) (v := ?vo_w26) (w1 := (wr.setCell ⟨go21, ((ji15) : Int).toNat, none⟩ (.int .u64 (Go.bits .or .u64 (rd x493001_1 (ji15)) (ji20))))) ?hg ?ho ?hn ?hr ?_; (case ho => rfl); (case hg => rfl); (case hn => rfl); (case hr => first | (go_simp; done) | (go_simp; rfl)); intro w26 hw; have hg : wr.grownBy w26 (some go21) := (by rw [hw]; exact HP25.2); have hp_ : Kd.R (Kd.int .u64) 35 w26 w.heap.size (fun _ => True) (.slice (some ⟨go21, 0, none⟩) x493001_1.length co24) y495 := (by rw [hw, Ny495.out]; exact HP25.1); clear HP25; have n0_ := Aside0.mk (hp_); have n1_ := Aside0.mk (blk_grown (g := gb486) (o := .cells #[.int .i64 0, .slice none 0 0] 43 (0, 0)) (by (with_reducible repeat (first | refine blk_drewN ?_ _ | refine blk_drew ?_ | refine blk_alloc ?_ _)); exact BK486.out) hg (Kd.R_ne HO_493001.out BK486.out (by decide))); have n2_ := Aside0.mk (blk_grown (g := gb492) (o := .cells #[.int .i64 t487, .slice (some ⟨go21, 0, none⟩) x493001_1.length co24] 43 (0, 0)) (by (with_reducible repeat (first | refine blk_drewN ?_ _ | refine blk_drew ?_ | refine blk_alloc ?_ _)); exact BK492.out) hg (Kd.R_ne HO_493001.out BK492.out (by decide))); have n3_ := Aside0.mk ((by rw [hw]; exact below_set (HB.out) GB21.out : Below w.heap.size w w26)); clear HO_493001; clear BK486; clear BK492; clear HB; have HO_493001 := n0_; have BK486 := n1_; have BK492 := n2_; have HB := n3_; clear n0_ n1_ n2_ n3_; clear hg hw hp_))
           go_roundg k1
           case measure => have := HK1.out; omega
           case rel => exact ⟨(wrap64 (x20_1 + 1)), (y495), (.slice (some ⟨go21, 0, none⟩) x493001_1.length co24), (zq52), H', ⟨zq55⟩, ⟨HO_493001.r⟩, ⟨by (with_reducible repeat (first | refine blk_drewN ?_ _ | refine blk_drew ?_ | refine blk_alloc ?_ _)); exact BK486.out⟩, ⟨by (with_reducible repeat (first | refine blk_drewN ?_ _ | refine blk_drew ?_ | refine blk_alloc ?_ _)); exact BK492.out⟩, ⟨zq17⟩⟩
          ·rw [if_neg c19] at H
           exact absurd H (by simp)
         ·rw [if_neg c17] at H
          exact absurd H (by simp)
        ·rw [if_neg c16] at H
         exact absurd H (by simp)
       ·replace c14 := Bool.eq_false_iff.mpr c14
        subst c14
        have H1 : (bits_Of.l0 k1 l0 (l0.length : Int) (wrap64 (x20_1 + 1)) t487 x493001_1) = some (r1, r2, r3) := by rw [if_neg (show ¬ (false = true) by decide)] at H; exact H
        clear H
        have H := H1
        clear H1
        have H' := Aside0.mk H
        clear H
        have p493 : 0 ≤ (x20_1 : Int) := of_decide_eq_true (zq51)
        have q493 : x20_1 < (l0.length : Int) := of_decide_eq_true (zq51)
        obtain ⟨ad493, e493, hx493_0⟩ := Kd.at_bool HR0.out x20_1 p493 q493
        (try rw [← Nbq13.out] at hx493_0)
        cases e493
        replace hx493_0 := (HB.out.cell (World.block_lt_of_cell? w _ hx493_0)).trans hx493_0
        replace p493 := eq_true p493
        replace q493 := eq_true q493
        go_wp2
        go_roundg k1
        case measure => have := HK1.out; omega
        case rel => exact ⟨(wrap64 (x20_1 + 1)), (x493001_1), (u493001), (zq52), H', ⟨zq55⟩, ⟨HO_493001.r⟩, ⟨by (with_reducible repeat (first | refine blk_drewN ?_ _ | refine blk_drew ?_ | refine blk_alloc ?_ _)); exact BK486.out⟩, ⟨by (with_reducible repeat (first | refine blk_drewN ?_ _ | refine blk_drew ?_ | refine blk_alloc ?_ _)); exact BK492.out⟩, ⟨zq17⟩⟩
      ·rw [if_neg c12] at H
       exact absurd H (by simp)
     ·rw [if_neg c11] at H
      exact absurd H (by simp)
    ·rw [if_neg c10] at H
     have c10b0 : decide (x20_1 < (l0.length : Int)) = false := decide_eq_false c10
     clear c10
     simp only [Option.some.injEq, Prod.mk.injEq] at H
     obtain ⟨rfl, rfl, rfl⟩ := H
     have hnb27 := NB492_486.out
     have hnc27 := NB486_492.out
     obtain ⟨hcz28_0, hcz28_1, hfz28_0, hfz28_1⟩ := cells_2 BK492.out
     obtain ⟨hcz29_0, hcz29_1, hfz29_0, hfz29_1⟩ := cells_2 BK486.out
     obtain ⟨Ao30, co30, eo30⟩ := Kd.R_slice HO_493001.out
     subst eo30
     go_wp2
     refine bodyPost_ret (results_ct rfl _ _ gb486 43 #[.int .i64 t487, .slice Ao30 x493001_1.length co30] (0, 0) _ rfl (by (with_reducible repeat (first | refine blk_drewN ?_ _ | refine blk_drew ?_ | refine blk_alloc ?_ _)); refine blk_put (cs := #[.int .i64 t487, .slice none 0 0]) ?_ 1 _ rfl; (with_reducible repeat (first | refine blk_drewN ?_ _ | refine blk_drew ?_ | refine blk_alloc ?_ _)); refine blk_put (cs := #[.int .i64 0, .slice none 0 0]) ?_ 0 _ rfl; (with_reducible repeat (first | refine blk_drewN ?_ _ | refine blk_drew ?_ | refine blk_alloc ?_ _)); exact BK486.out) Try.underlying43 rfl (zq56)) rfl ?_
     exact ⟨_, zq49, by (with_reducible repeat (first | apply Kd.R_alloc | apply Kd.R_drewN | apply Kd.R_drew)); exact Kd.R_mono (Kd.R_far (p := ⟨gb486, 1, none⟩) (Kd.R_far (p := ⟨gb486, 0, none⟩) (Kd.R_types HO_493001.out BK486.out (by decide)) (fun _ hk => hk.2) (.int .i64 t487)) (fun _ hk => hk.2) (.slice Ao30 x493001_1.length co30)) (fun _ hk => trivial), zq17⟩
 ·rw [if_neg c3] at H
  have c3b0 : (t491 == 0) = false := beq_eq_false_iff_ne.mpr c3
  have c3b1 : (t491 != 0) = true := bne_iff_ne.mpr c3
  simp only [Option.some.injEq, Prod.mk.injEq] at H
  obtain ⟨rfl, rfl, rfl⟩ := H
  go_enter Try.func67, Try.ntmps67
  go_wp2_with (first | ((with_reducible refine gate_dst (N := 2) rfl ?_); refine box_event ?hg (N := 2) ?hd (cs := #[.int .i64 0, .slice none 0 0]) (t := 43) ?hr ?_; (case hd => rfl); (case hg => rfl); (case hr => first | (go_simp; done) | (go_simp; rfl)); intro gb486 hg w31 hbox hb; have n0_ := Aside0.mk (below_step HB.bl hb); have n1_ := Aside0.mk (hbox); have n2_ := Aside0.mk ((zq54 : w.heap.size ≤ gb486)); have n3_ := Aside0.mk ((zq54 : w.heap.size ≤ gb486)); clear HB; have HB := n0_; have BK486 := n1_; have GW486 := n2_; have GE486 := n3_; clear n0_ n1_ n2_ n3_; clear hb hbox hg) | ((with_reducible refine gate_callee (f := 102) rfl ?_); refine goesL_ (some 11) rfl rfl Try.func102 (zq56) rfl #[.int .i64 (l0.length : Int)] rfl (zq33) ?_; (with_reducible refine (bits_New.calls (l0.length : Int) t487 t488 t491 _ A2.out).mono ?_); rintro e w32 ⟨v489, rfl, ho0, hb⟩; refine ⟨_, rfl, ?_⟩; have HO490 := Aside0.mk (Kd.R_lower ho0 (below_size HB.bl)); replace BK486 := Aside0.mk (BK486.lk hb); replace HB := Aside0.mk (below_step HB.bl hb); (try clear hb); (try clear hb2); (try clear hk); (try clear hi); (try clear ho0)) | ((with_reducible refine gate_dst (N := 4) rfl ?_); refine box_event ?hg (N := 4) ?hd (cs := #[.int .i64 0, .slice none 0 0]) (t := 43) ?hr ?_; (case hd => rfl); (case hg => rfl); (case hr => first | (go_simp; done) | (go_simp; rfl)); intro gb492 hg w33 hbox hb; have n0_ := Aside0.mk (Kd.R_below HO490.r hb); have n1_ := Aside0.mk (BK486.lk hb); have n2_ := Aside0.mk (below_step HB.bl hb); have n3_ := Aside0.mk (hbox); have n4_ := Aside0.mk ((zq54 : w.heap.size ≤ gb492)); have n5_ := Aside0.mk ((zq54 : w.heap.size ≤ gb492)); have n6_ := Aside0.mk ((by rw [hg]; exact Nat.ne_of_lt (blk_lt BK486.ld) : gb486 ≠ gb492)); have n7_ := Aside0.mk ((by rw [hg]; exact Nat.ne_of_gt (blk_lt BK486.ld) : gb492 ≠ gb486)); clear HO490; clear BK486; clear HB; have HO490 := n0_; have BK486 := n1_; have HB := n2_; have BK492 := n3_; have GW492 := n4_; have GE492 := n5_; have NB486_492 := n6_; have NB492_486 := n7_; clear n0_ n1_ n2_ n3_ n4_ n5_ n6_ n7_; clear hb hbox hg; have hnb34 := NB492_486.out; have hnc34 := NB486_492.out; obtain ⟨hcz35_0, hcz35_1, hfz35_0, hfz35_1⟩ := cells_2 BK492.out; obtain ⟨Ao36, co36, eo36⟩ := Kd.R_slice HO490.out; subst eo36; obtain ⟨hcz37_0, hcz37_1, hfz37_0, hfz37_1⟩ := cells_2 BK486.out))
  refine bodyPost_ret (results_ct rfl _ _ gb486 43 #[.int .i64 0, .slice none 0 0] (0, 0) _ rfl (by (with_reducible repeat (first | refine blk_drewN ?_ _ | refine blk_drew ?_ | refine blk_alloc ?_ _)); refine blk_put (cs := #[.int .i64 0, .slice none 0 0]) ?_ 1 _ rfl; (with_reducible repeat (first | refine blk_drewN ?_ _ | refine blk_drew ?_ | refine blk_alloc ?_ _)); refine blk_put (cs := #[.int .i64 0, .slice none 0 0]) ?_ 0 _ rfl; (with_reducible repeat (first | refine blk_drewN ?_ _ | refine blk_drew ?_ | refine blk_alloc ?_ _)); refine blk_far ?_ NB486_492.out _; (with_reducible repeat (first | refine blk_drewN ?_ _ | refine blk_drew ?_ | refine blk_alloc ?_ _)); refine blk_far ?_ NB486_492.out _; (with_reducible repeat (first | refine blk_drewN ?_ _ | refine blk_drew ?_ | refine blk_alloc ?_ _)); exact BK486.out) Try.underlying43 rfl (zq56)) rfl ?_
  exact ⟨_, zq49, zq32, zq17⟩

/-! ### bits_Vec_Get: function 36 -/
def bits_Vec_Get.f (a0_0 : Int) (l0_1 : List Int) (a1 : Int) : Option (Bool) := if a1 < 0 then (some false) else (if a1 ≥ a0_0 then (some false) else (if 0 ≤ (wrap64 (Int.tdiv a1 64)) then (if (wrap64 (Int.tdiv a1 64)) < (l0_1.length : Int) then (if 0 ≤ (IntKind.u64.wrap (Int.tmod a1 64)) then (some ((Go.bits .and .u64 (shr .u64 (rd l0_1 (wrap64 (Int.tdiv a1 64))) (IntKind.u64.wrap (Int.tmod a1 64))) 1) == 1)) else (none)) else (none)) else (none)))
set_option maxHeartbeats 8000000 in
set_option maxRecDepth 100000 in
theorem bits_Vec_Get.calls (a0_0 : Int) (A0_1 : Option Addr) (c0_1 : Nat) (l0_1 : List Int) (a1 : Int) (r : Bool) (w : World) (hr0_1 : Kd.C (Kd.int .u64) w A0_1 l0_1.length l0_1) (hc0_1 : l0_1.length ≤ c0_1) (h : bits_Vec_Get.f a0_0 l0_1 a1 = some r) :
  Calls Try.prog 36 #[.agg #[.int .i64 a0_0, .slice A0_1 l0_1.length c0_1], .int .i64 a1] w fun e w' => e = .returned (.bool r) ∧ Below w.heap.size w w' := by
 have hu43 := Try.underlying43
 have HR0_1 := Aside0.mk hr0_1
 have HC0_1 := Aside0.mk hc0_1
 clear hr0_1 hc0_1
 have HB := Aside0.mk (Below.refl w.heap.size w)
 have H : (if a1 < 0 then (some false) else (if a1 ≥ a0_0 then (some false) else (if 0 ≤ (wrap64 (Int.tdiv a1 64)) then (if (wrap64 (Int.tdiv a1 64)) < (l0_1.length : Int) then (if 0 ≤ (IntKind.u64.wrap (Int.tmod a1 64)) then (some ((Go.bits .and .u64 (shr .u64 (rd l0_1 (wrap64 (Int.tdiv a1 64))) (IntKind.u64.wrap (Int.tmod a1 64))) 1) == 1)) else (none)) else (none)) else (none)))) = some r := h
 clear h
 by_cases c3 : a1 < 0
 ·rw [if_pos c3] at H
  have c3b0 : decide (a1 < 0) = true := decide_eq_true c3
  clear c3
  obtain rfl := Option.some.inj H
  go_enter Try.func36, Try.ntmps36
  go_wp2_with (first | ((with_reducible refine gate_dst (N := 2) rfl ?_); refine box_event ?hg (N := 2) ?hd (cs := #[.int .i64 a0_0, .slice A0_1 l0_1.length c0_1]) (t := 43) ?hr ?_; (case hd => rfl); (case hg => rfl); (case hr => first | (go_simp; done) | (go_simp; rfl)); intro gb559 hg w4 hbox hb; have n0_ := Aside0.mk (below_step HB.bl hb); have n1_ := Aside0.mk (hbox); have n2_ := Aside0.mk ((zq54 : w.heap.size ≤ gb559)); have n3_ := Aside0.mk ((zq54 : w.heap.size ≤ gb559)); clear HB; have HB := n0_; have BK559 := n1_; have GW559 := n2_; have GE559 := n3_; clear n0_ n1_ n2_ n3_; clear hb hbox hg))
  go_ret
  exact ⟨zq49, by repeat (first | (with_reducible first | exact HB.out | apply below_alloc | apply pw_below_drewN | apply below_drew1 | refine below_set ?_ GE559.out) | exact HB.out)⟩
 ·rw [if_neg c3] at H
  have c3b0 : decide (a1 < 0) = false := decide_eq_false c3
  clear c3
  by_cases c5 : a1 ≥ a0_0
  ·rw [if_pos c5] at H
   have c5b0 : decide (a0_0 ≤ a1) = true := decide_eq_true c5
   clear c5
   obtain rfl := Option.some.inj H
   go_enter Try.func36, Try.ntmps36
   go_wp2_with (first | ((with_reducible refine gate_dst (N := 2) rfl ?_); refine box_event ?hg (N := 2) ?hd (cs := #[.int .i64 a0_0, .slice A0_1 l0_1.length c0_1]) (t := 43) ?hr ?_; (case hd => rfl); (case hg => rfl); (case hr => first | (go_simp; done) | (go_simp; rfl)); intro gb559 hg w6 hbox hb; have n0_ := Aside0.mk (below_step HB.bl hb); have n1_ := Aside0.mk (hbox); have n2_ := Aside0.mk ((zq54 : w.heap.size ≤ gb559)); have n3_ := Aside0.mk ((zq54 : w.heap.size ≤ gb559)); clear HB; have HB := n0_; have BK559 := n1_; have GW559 := n2_; have GE559 := n3_; clear n0_ n1_ n2_ n3_; clear hb hbox hg; obtain ⟨hcz7_0, hcz7_1, hfz7_0, hfz7_1⟩ := cells_2 BK559.out))
   go_ret
   exact ⟨zq49, by repeat (first | (with_reducible first | exact HB.out | apply below_alloc | apply pw_below_drewN | apply below_drew1 | refine below_set ?_ GE559.out) | exact HB.out)⟩
  ·rw [if_neg c5] at H
   have c5b0 : decide (a0_0 ≤ a1) = false := decide_eq_false c5
   clear c5
   obtain ⟨ji8, hji8⟩ : ∃ j_ : Int, (wrap64 (Int.tdiv a1 64)) = j_ := ⟨_, rfl⟩
   replace H : (if 0 ≤ (ji8) then (if (ji8) < (l0_1.length : Int) then (if 0 ≤ (IntKind.u64.wrap (Int.tmod a1 64)) then (some ((Go.bits .and .u64 (shr .u64 (rd l0_1 (ji8)) (IntKind.u64.wrap (Int.tmod a1 64))) 1) == 1)) else (none)) else (none)) else (none)) = some r := by first | (rw [hji8] at H; exact H) | (simp only [hji8] at H ⊢; exact H)
   have hji8w : (IntKind.i64.wrap (Int.tdiv a1 64)) = ji8 := (i64_w _).trans hji8
   by_cases c9 : 0 ≤ (ji8)
   ·rw [if_pos c9] at H
    have c9b0 : decide (0 ≤ (ji8)) = true := decide_eq_true c9
    clear c9
    by_cases c10 : (ji8) < (l0_1.length : Int)
    ·rw [if_pos c10] at H
     have c10b0 : decide ((ji8) < (l0_1.length : Int)) = true := decide_eq_true c10
     clear c10
     obtain ⟨ji11, hji11⟩ : ∃ j_ : Int, (IntKind.u64.wrap (Int.tmod a1 64)) = j_ := ⟨_, rfl⟩
     replace H : (if 0 ≤ (ji11) then (some ((Go.bits .and .u64 (shr .u64 (rd l0_1 (ji8)) (ji11)) 1) == 1)) else (none)) = some r := by first | (rw [hji11] at H; exact H) | (simp only [hji11] at H ⊢; exact H)
     by_cases c12 : 0 ≤ (ji11)
     ·rw [if_pos c12] at H
      have c12b0 := eq_true c12
      have c12b1 : decide (0 ≤ (ji11)) = true := decide_eq_true c12
      clear c12
      obtain ⟨ji13, hji13⟩ : ∃ j_ : Int, (shr .u64 (rd l0_1 (ji8)) (ji11)) = j_ := ⟨_, rfl⟩
      replace H : (some ((Go.bits .and .u64 (ji13) 1) == 1)) = some r := by first | (rw [hji13] at H; exact H) | (simp only [hji13] at H ⊢; exact H)
      have hji13_ : ((rd l0_1 (ji8)) / 2 ^ min (ji11).toNat 64) = ji13 := hji13
      have hji13z : (ji11) ≤ 64 → ((rd l0_1 (ji8)) / 2 ^ (ji11).toNat) = ji13 := shr_small hji13
      obtain rfl := Option.some.inj H
      go_enter Try.func36, Try.ntmps36
      go_wp2_with (first | ((with_reducible refine gate_dst (N := 2) rfl ?_); refine box_event ?hg (N := 2) ?hd (cs := #[.int .i64 a0_0, .slice A0_1 l0_1.length c0_1]) (t := 43) ?hr ?_; (case hd => rfl); (case hg => rfl); (case hr => first | (go_simp; done) | (go_simp; rfl)); intro gb559 hg w14 hbox hb; have n0_ := Aside0.mk (below_step HB.bl hb); have n1_ := Aside0.mk (hbox); have n2_ := Aside0.mk ((zq54 : w.heap.size ≤ gb559)); have n3_ := Aside0.mk ((zq54 : w.heap.size ≤ gb559)); clear HB; have HB := n0_; have BK559 := n1_; have GW559 := n2_; have GE559 := n3_; clear n0_ n1_ n2_ n3_; clear hb hbox hg; obtain ⟨hcz15_0, hcz15_1, hfz15_0, hfz15_1⟩ := cells_2 BK559.out; have p560 : 0 ≤ ((ji8) : Int) := of_decide_eq_true (zq51); have q560 : (ji8) < (l0_1.length : Int) := of_decide_eq_true (zq51); obtain ⟨ad560, e560, hx560_0⟩ := Kd.at_int HR0_1.out (ji8) p560 q560; cases e560; replace hx560_0 := (HB.out.cell (World.block_lt_of_cell? w _ hx560_0)).trans hx560_0; replace p560 := eq_true p560; replace q560 := eq_true q560))
      go_ret
      exact ⟨by first | rfl | (simp [errW_none, errW_some] <;> rfl) | (simp only [← hji8, ← hji11, ← hji13]; first | rfl | (simp [errW_none, errW_some] <;> rfl)) | (simp [*, errW_none, errW_some] <;> rfl), by repeat (first | (with_reducible first | exact HB.out | apply below_alloc | apply pw_below_drewN | apply below_drew1 | refine below_set ?_ GE559.out) | exact HB.out)⟩
     ·rw [if_neg c12] at H
      exact absurd H (by simp)
    ·rw [if_neg c10] at H
     exact absurd H (by simp)
   ·rw [if_neg c9] at H
    exact absurd H (by simp)

/-! ### gilboa_good: function 105 -/
def gilboa_good.f (a0 : Int) (a1 : Int) : Option (Bool) := if a0 ≥ 1 then (if a0 ≤ 64 then (if a1 ≥ 1 then (some (decide (a1 ≤ 6))) else (some false)) else (some false)) else (some false)
set_option maxHeartbeats 8000000 in
set_option maxRecDepth 100000 in
theorem gilboa_good.calls (a0 : Int) (a1 : Int) (r : Bool) (w : World) (h : gilboa_good.f a0 a1 = some r) :
  Calls Try.prog 105 #[.int .i64 a0, .int .i64 a1] w fun e w' => e = .returned (.bool r) ∧ Drawn0 w w' := by
 have H : (if a0 ≥ 1 then (if a0 ≤ 64 then (if a1 ≥ 1 then (some (decide (a1 ≤ 6))) else (some false)) else (some false)) else (some false)) = some r := h
 clear h
 by_cases c3 : a0 ≥ 1
 ·rw [if_pos c3] at H
  have c3b0 : decide (1 ≤ a0) = true := decide_eq_true c3
  clear c3
  by_cases c4 : a0 ≤ 64
  ·rw [if_pos c4] at H
   have c4b0 : decide (a0 ≤ 64) = true := decide_eq_true c4
   clear c4
   by_cases c5 : a1 ≥ 1
   ·rw [if_pos c5] at H
    have c5b0 : decide (1 ≤ a1) = true := decide_eq_true c5
    clear c5
    obtain rfl := Option.some.inj H
    go_enter Try.func105, Try.ntmps105
    go_wp2
    go_ret
    exact ⟨zq52, zq50⟩
   ·rw [if_neg c5] at H
    have c5b0 : decide (1 ≤ a1) = false := decide_eq_false c5
    clear c5
    obtain rfl := Option.some.inj H
    go_enter Try.func105, Try.ntmps105
    go_wp2
    go_ret
    exact ⟨zq52, zq50⟩
  ·rw [if_neg c4] at H
   have c4b0 : decide (a0 ≤ 64) = false := decide_eq_false c4
   clear c4
   obtain rfl := Option.some.inj H
   go_enter Try.func105, Try.ntmps105
   go_wp2
   go_ret
   exact ⟨zq52, zq50⟩
 ·rw [if_neg c3] at H
  have c3b0 : decide (1 ≤ a0) = false := decide_eq_false c3
  clear c3
  obtain rfl := Option.some.inj H
  go_enter Try.func105, Try.ntmps105
  go_wp2
  go_ret
  exact ⟨zq52, zq50⟩

/-! ### gilboa_Fold: function 71 -/
mutual
def gilboa_Fold.j0 : Nat → Int → Int → List Int → Bool → Option (List Int × Int)
 | 0, _, _, _, _ => none
 | k + 1, x0, x1, x2, x30 => if x30 = true then (some (([] : List Int), 11)) else (if x0 = 0 then (none) else (if 0 ≤ (wrap64 ((x2.length : Int) / x0)) then (if (wrap64 ((x2.length : Int) / x0) : Int).toNat ≤ 35184372088832 then (gilboa_Fold.l0 k x0 x1 x2 (([] : List Int)) 0) else (none)) else (none)))
def gilboa_Fold.l0 : Nat → Int → Int → List Int → List Int → Int → Option (List Int × Int)
 | 0, _, _, _, _, _ => none
 | k + 1, x0, x1, x2, x8, x9 => if x9 < (x2.length : Int) then (if 0 ≤ x1 then (if (x1 : Int).toNat ≤ 35184372088832 then (gilboa_Fold.l1 k x0 x1 x2 x8 x9 (List.replicate (x1 : Int).toNat 0) x0 0) else (none)) else (none)) else (some (x8, 0))
def gilboa_Fold.l1 : Nat → Int → Int → List Int → List Int → Int → List Int → Int → Int → Option (List Int × Int)
 | 0, _, _, _, _, _, _, _, _ => none
 | k + 1, x0, x1, x2, x8, x9, x10, x47, x48 => if x48 < x47 then (if 0 ≤ (wrap64 (x9 + (wrap64 (x48 * x1)))) then (if (wrap64 (x9 + (wrap64 (x48 * x1)))) ≤ (wrap64 (x9 + (wrap64 ((wrap64 (x48 + 1)) * x1)))) then (if (wrap64 (x9 + (wrap64 ((wrap64 (x48 + 1)) * x1)))) ≤ (x2.length : Int) then ((ring_AddAll.f x0 x10 ((x2.take ((wrap64 (x9 + (wrap64 ((wrap64 (x48 + 1)) * x1)))) : Int).toNat).drop ((wrap64 (x9 + (wrap64 (x48 * x1)))) : Int).toNat)).bind fun bt632 => (gilboa_Fold.l1 k x0 x1 x2 x8 x9 bt632.1 x47 (wrap64 (x48 + 1)))) else (none)) else (none)) else (none)) else (if x8.length + x10.length < 17592186044416 then (gilboa_Fold.l0 k x0 x1 x2 (x8 ++ x10) (wrap64 (x9 + (wrap64 (x0 * x1))))) else (none))
end
def gilboa_Fold.f (k : Nat) (a0 : Int) (a1 : Int) (l2 : List Int) : Option (List Int × Int) := (gilboa_good.f a0 a1).bind fun t623 => (if t623 = true then (if (wrap64 (a0 * a1)) = 0 then (none) else (if ((l2.length : Int) % (wrap64 (a0 * a1))) = 0 then ((ring_Fits.f a0 l2).bind fun t624 => (gilboa_Fold.j0 k a0 a1 l2 (!t624))) else (gilboa_Fold.j0 k a0 a1 l2 true))) else (gilboa_Fold.j0 k a0 a1 l2 true))
set_option maxHeartbeats 8000000 in
set_option maxRecDepth 100000 in
theorem gilboa_Fold.calls (k : Nat) (a0 : Int) (a1 : Int) (A2 : Option Addr) (c2 : Nat) (l2 : List Int) (r1 : List Int) (r2 : Int) (w : World) (hr2 : Kd.C (Kd.int .u64) w A2 l2.length l2) (hc2 : l2.length ≤ c2) (h : gilboa_Fold.f k a0 a1 l2 = some (r1, r2)) :
  Calls Try.prog 71 #[.int .i64 a0, .int .i64 a1, .slice A2 l2.length c2] w fun e w' => ∃ v0_ : Value, e = .returned (.tuple #[v0_, .int .i64 r2]) ∧ Kd.R (Kd.int .u64) 35 w' w.heap.size (fun _ => True) v0_ r1 ∧ Below w.heap.size w w' := by
 have HR2 := Aside0.mk hr2
 have HC2 := Aside0.mk hc2
 clear hr2 hc2
 have HB := Aside0.mk (Below.refl w.heap.size w)
 have H : ((gilboa_good.f a0 a1).bind fun t623 => (if t623 = true then (if (wrap64 (a0 * a1)) = 0 then (none) else (if ((l2.length : Int) % (wrap64 (a0 * a1))) = 0 then ((ring_Fits.f a0 l2).bind fun t624 => (gilboa_Fold.j0 k a0 a1 l2 (!t624))) else (gilboa_Fold.j0 k a0 a1 l2 true))) else (gilboa_Fold.j0 k a0 a1 l2 true))) = some (r1, r2) := h
 clear h
 have HC4 := Aside0.mk H
 clear H
 go_enter Try.func71, Try.ntmps71
 go_upto_region 1 with (fail)
 go_cut [30] (fun v30 wc => ∃ (kq : Nat) (x30_3 : Bool), v30 = .bool x30_3 ∧ Aside0 (gilboa_Fold.j0 kq a0 a1 l2 x30_3 = some (r1, r2)) ∧ Aside0 (kq ≤ k) ∧ Aside0 (Below w.heap.size w wc))
 case first =>
  have H := HC4.out
  clear HC4
  replace H := Option.bind_eq_some_iff.mp H
  obtain ⟨t623, A50, H⟩ := H
  replace H : (if t623 = true then (if (wrap64 (a0 * a1)) = 0 then (none) else (if ((l2.length : Int) % (wrap64 (a0 * a1))) = 0 then ((ring_Fits.f a0 l2).bind fun t624 => (gilboa_Fold.j0 k a0 a1 l2 (!t624))) else (gilboa_Fold.j0 k a0 a1 l2 true))) else (gilboa_Fold.j0 k a0 a1 l2 true)) = some (r1, r2) := H
  have A5 := Aside0.mk A50
  clear A50
  by_cases c6 : t623 = true
  ·subst c6
   have H1 : (if (wrap64 (a0 * a1)) = 0 then (none) else (if ((l2.length : Int) % (wrap64 (a0 * a1))) = 0 then ((ring_Fits.f a0 l2).bind fun t624 => (gilboa_Fold.j0 k a0 a1 l2 (!t624))) else (gilboa_Fold.j0 k a0 a1 l2 true))) = some (r1, r2) := by rw [if_pos rfl] at H; exact H
   clear H
   have H := H1
   clear H1
   by_cases c7 : (wrap64 (a0 * a1)) = 0
   ·rw [if_pos c7] at H
    exact absurd H (by simp)
   ·rw [if_neg c7] at H
    have c7b0 : ((wrap64 (a0 * a1)) == 0) = false := beq_eq_false_iff_ne.mpr c7
    have c7b1 : ((wrap64 (a0 * a1)) != 0) = true := bne_iff_ne.mpr c7
    (first | rw [c7b0] | (simp only [i64_w, i32_w]; rw [c7b0]) | skip)
    by_cases c8 : ((l2.length : Int) % (wrap64 (a0 * a1))) = 0
    ·rw [if_pos c8] at H
     have c8b0 : (((l2.length : Int) % (wrap64 (a0 * a1))) == 0) = true := beq_iff_eq.mpr c8
     have c8b1 : (((l2.length : Int) % (wrap64 (a0 * a1))) != 0) = false := bne_eq_false_iff_eq.mpr c8
     clear c8
     replace H := Option.bind_eq_some_iff.mp H
     obtain ⟨t624, A90, H⟩ := H
     replace H : (gilboa_Fold.j0 k a0 a1 l2 (!t624)) = some (r1, r2) := H
     have A9 := Aside0.mk A90
     clear A90
     have H' := Aside0.mk H
     clear H
     go_wp2_with (first | ((with_reducible refine gate_callee (f := 105) rfl ?_); refine goesL_ (some 14) rfl rfl Try.func105 (zq56) rfl #[.int .i64 a0, .int .i64 a1] rfl (zq33) ?_; (with_reducible refine (gilboa_good.calls a0 a1 true _ A5.out).mono ?_); rintro e w' ⟨rfl, ⟨nd, rfl⟩⟩; refine ⟨_, rfl, ?_⟩) | (go_at_call 65; (with_reducible refine (ring_Fits.calls a0 _ _ l2 t624 _ ?side1 ?side2 A9.out).mono ?_); (case side1 => repeat (first | exact (Kd.C_below HR2.out HB.bl) | (with_reducible refine Kd.C_alloc ?_ _) | (with_reducible refine Kd.C_drewN ?_ _) | (with_reducible refine Kd.C_drew ?_))); (case side2 => exact HC2.out); rintro e w10 ⟨rfl, hb⟩; replace HB := Aside0.mk (below_step HB.bl hb); (try clear hb); (try clear hb2); (try clear hk); (try clear hi)))
     go_meet
     case rel => exact ⟨_, (!t624), (zq52), H', ⟨zq53⟩, ⟨HB.bl⟩⟩
    ·rw [if_neg c8] at H
     have c8b0 : (((l2.length : Int) % (wrap64 (a0 * a1))) == 0) = false := beq_eq_false_iff_ne.mpr c8
     have c8b1 : (((l2.length : Int) % (wrap64 (a0 * a1))) != 0) = true := bne_iff_ne.mpr c8
     have H' := Aside0.mk H
     clear H
     go_wp2_with (first | ((with_reducible refine gate_callee (f := 105) rfl ?_); refine goesL_ (some 14) rfl rfl Try.func105 (zq56) rfl #[.int .i64 a0, .int .i64 a1] rfl (zq33) ?_; (with_reducible refine (gilboa_good.calls a0 a1 true _ A5.out).mono ?_); rintro e w' ⟨rfl, ⟨nd, rfl⟩⟩; refine ⟨_, rfl, ?_⟩))
     go_meet
     case rel => exact ⟨_, (true), (zq52), H', ⟨zq53⟩, ⟨HB.bl⟩⟩
  ·replace c6 := Bool.eq_false_iff.mpr c6
   subst c6
   have H1 : (gilboa_Fold.j0 k a0 a1 l2 true) = some (r1, r2) := by rw [if_neg (show ¬ (false = true) by decide)] at H; exact H
   clear H
   have H := H1
   clear H1
   have H' := Aside0.mk H
   clear H
   go_wp2_with (first | ((with_reducible refine gate_callee (f := 105) rfl ?_); refine goesL_ (some 14) rfl rfl Try.func105 (zq56) rfl #[.int .i64 a0, .int .i64 a1] rfl (zq33) ?_; (with_reducible refine (gilboa_good.calls a0 a1 false _ A5.out).mono ?_); rintro e w' ⟨rfl, ⟨nd, rfl⟩⟩; refine ⟨_, rfl, ?_⟩))
   go_meet
   case rel => exact ⟨_, (true), (zq52), H', ⟨zq53⟩, ⟨HB.bl⟩⟩
 case rest =>
  clear HC4
  try clear c1
  try clear c2
  try clear p2
  try clear c6
  try clear p6
  try clear c7
  try clear c7b0
  try clear c7b1
  try clear c8
  try clear c8b0
  try clear c8b1
  try clear c10
  obtain ⟨kq, x30_3, rfl, HA, HJ3, HB⟩ := hcut
  cases kq with
  | zero => exact absurd HA.out (by simp [gilboa_Fold.j0])
  | succ kj3 =>
   have H := HA.out
   clear HA
   simp only [gilboa_Fold.j0] at H
   by_cases c11 : x30_3 = true
   ·subst c11
    have H1 : (some (([] : List Int), 11)) = some (r1, r2) := by rw [if_pos rfl] at H; exact H
    clear H
    have H := H1
    clear H1
    simp only [Option.some.injEq, Prod.mk.injEq] at H
    obtain ⟨rfl, rfl⟩ := H
    go_wp2
    go_ret2
    exact ⟨_, zq49, zq32, HB.bl⟩
   ·replace c11 := Bool.eq_false_iff.mpr c11
    subst c11
    have H1 : (if a0 = 0 then (none) else (if 0 ≤ (wrap64 ((l2.length : Int) / a0)) then (if (wrap64 ((l2.length : Int) / a0) : Int).toNat ≤ 35184372088832 then (gilboa_Fold.l0 kj3 a0 a1 l2 (([] : List Int)) 0) else (none)) else (none))) = some (r1, r2) := by rw [if_neg (show ¬ (false = true) by decide)] at H; exact H
    clear H
    have H := H1
    clear H1
    by_cases c12 : a0 = 0
    ·rw [if_pos c12] at H
     exact absurd H (by simp)
    ·rw [if_neg c12] at H
     have c12b0 : (a0 == 0) = false := beq_eq_false_iff_ne.mpr c12
     have c12b1 : (a0 != 0) = true := bne_iff_ne.mpr c12
     obtain ⟨ji13, hji13⟩ : ∃ j_ : Int, (wrap64 ((l2.length : Int) / a0)) = j_ := ⟨_, rfl⟩
     replace H : (if 0 ≤ (ji13) then (if (ji13 : Int).toNat ≤ 35184372088832 then (gilboa_Fold.l0 kj3 a0 a1 l2 (([] : List Int)) 0) else (none)) else (none)) = some (r1, r2) := by first | (rw [hji13] at H; exact H) | (simp only [hji13] at H ⊢; exact H)
     have hji13w : (IntKind.i64.wrap ((l2.length : Int) / a0)) = ji13 := (i64_w _).trans hji13
     by_cases c14 : 0 ≤ (ji13)
     ·rw [if_pos c14] at H
      have c14b0 := eq_true c14
      have c14b1 : decide (0 ≤ (ji13)) = true := decide_eq_true c14
      clear c14
      by_cases c15 : (ji13 : Int).toNat ≤ 35184372088832
      ·rw [if_pos c15] at H
       have c15b0 := eq_true c15
       have c15b1 : decide ((ji13 : Int).toNat ≤ 35184372088832) = true := decide_eq_true c15
       clear c15
       obtain ⟨y625, hy625⟩ : ∃ y_ : List Int, y_ = (([] : List Int)) := ⟨_, rfl⟩
       replace H : (gilboa_Fold.l0 kj3 a0 a1 l2 y625 0) = some (r1, r2) := by first | (rw [hy625]; with_reducible exact H) | (have H2_ := (Option.bind_some _ _).symm.trans H; rw [hy625]; with_reducible exact H2_) | (have H2_ := (Option.bind_some _ _).symm.trans H; with_reducible exact H2_) | with_reducible exact H | (rw [hy625]; exact H) | exact H
       have Ny625 := Aside0.mk hy625
       clear hy625
       have H' := Aside0.mk H
       clear H
       go_wp2_with (first | ((with_reducible refine gate_dst (N := 35) rfl ?_); (try (refine gate_guard (by rfl) ?_; dsimp only)); refine Kd.R_makecap (Kd.int .u64) _ 35 rfl (N := 35) rfl 24 _ _ rfl ji13 rfl rfl Try.underlying24 (.int .u64 0) 8 info35 rfl (by decide) (by omega) 0 (ok := fun _ => True) (okp := fun _ => True) rfl (fun _ hk => hk) trivial (of_decide_eq_true (zq51)) (Nat.le_trans (Nat.mul_le_mul_right _ (of_decide_eq_true (zq51) : ji13.toNat ≤ 35184372088832)) (by omega)) (Below.refl _ _) (Nat.le_refl _) ?_; intro v626 w16 ho17 hb hg_ hnew_; clear hg_ hnew_; (first | rw [← Ny625.out] at ho17 | (simp only [Int.reduceToNat] at ho17; rw [← Ny625.out] at ho17)); have HO627 := Aside0.mk (Kd.R_lower ho17 (below_size HB.bl)); replace HB := Aside0.mk (below_step HB.bl hb); clear hb ho17))
       go_loopg [8, 9] kj3 (fun kq v8 v9 w' => ∃ (x8_2 : List Int) (x9_2 : Int), v9 = .int .i64 x9_2 ∧ Aside0 (gilboa_Fold.l0 kq a0 a1 l2 x8_2 x9_2 = some (r1, r2)) ∧ Aside0 (kq ≤ kj3) ∧ Aside0 (Kd.R (Kd.int .u64) 35 w' w.heap.size (fun _ => True) v8 x8_2) ∧ Aside0 (Below w.heap.size w w'))
       case atStart => exact ⟨(y625), (0), (zq52), H', ⟨Nat.le_refl _⟩, ⟨HO627.r⟩, ⟨HB.bl⟩⟩
       case round =>
        clear H'
        try clear c1
        try clear c2
        try clear p2
        try clear c6
        try clear p6
        try clear c7
        try clear c7b0
        try clear c7b1
        try clear c8
        try clear c8b0
        try clear c8b1
        try clear c10
        try clear c11
        try clear c12
        try clear c12b0
        try clear c12b1
        try clear c14
        try clear c14b0
        try clear c14b1
        try clear c15
        try clear c15b0
        try clear c15b1
        try clear p2
        try clear p6
        obtain ⟨x8_2, x9_2, rfl, HA, HK2, HO_8, HB⟩ := hrel
        cases gk with
        | zero => exact absurd HA.out (by simp [gilboa_Fold.l0])
        | succ k2 =>
         have H := HA.out
         clear HA
         simp only [gilboa_Fold.l0] at H
         by_cases c18 : x9_2 < (l2.length : Int)
         ·rw [if_pos c18] at H
          have c18b0 : decide (x9_2 < (l2.length : Int)) = true := decide_eq_true c18
          clear c18
          by_cases c19 : 0 ≤ a1
          ·rw [if_pos c19] at H
           have c19b0 := eq_true c19
           have c19b1 : decide (0 ≤ a1) = true := decide_eq_true c19
           clear c19
           by_cases c20 : (a1 : Int).toNat ≤ 35184372088832
           ·rw [if_pos c20] at H
            have c20b0 := eq_true c20
            have c20b1 : decide ((a1 : Int).toNat ≤ 35184372088832) = true := decide_eq_true c20
            clear c20
            obtain ⟨y628, hy628⟩ : ∃ y_ : List Int, y_ = (List.replicate (a1 : Int).toNat 0) := ⟨_, rfl⟩
            replace H : (gilboa_Fold.l1 k2 a0 a1 l2 x8_2 x9_2 y628 a0 0) = some (r1, r2) := by first | (rw [hy628]; with_reducible exact H) | (have H2_ := (Option.bind_some _ _).symm.trans H; rw [hy628]; with_reducible exact H2_) | (have H2_ := (Option.bind_some _ _).symm.trans H; with_reducible exact H2_) | with_reducible exact H | (rw [hy628]; exact H) | exact H
            have Ny628 := Aside0.mk hy628
            clear hy628
            have H' := Aside0.mk H
            clear H
            go_wp2_with (first | ((with_reducible refine gate_dst (N := 46) rfl ?_); (try (refine gate_guard (by rfl) ?_; dsimp only)); refine Kd.R_make (Kd.int .u64) _ 35 rfl (N := 46) rfl 24 _ _ rfl a1 rfl rfl Try.underlying24 (.int .u64 0) 8 info35 rfl (by decide) (by omega) 0 (ok := fun _ => True) (okp := fun _ => True) rfl (fun _ hk => hk) trivial (of_decide_eq_true (zq51)) (Nat.le_trans (Nat.mul_le_mul_right _ (of_decide_eq_true (zq51) : a1.toNat ≤ 35184372088832)) (by omega)) (Below.refl _ _) (Nat.le_refl _) ?_; intro v629 w21 ho22 hb hg_ hnew_; clear hg_ hnew_; (first | rw [← Ny628.out] at ho22 | (simp only [Int.reduceToNat] at ho22; rw [← Ny628.out] at ho22)); have n0_ := Aside0.mk (Kd.R_elder' HO_8.r (Kd.R_base ho22) hb); have n1_ := Aside0.mk (Kd.R_lower (Kd.R_new' ho22 (Kd.R_lt HO_8.r)) (below_size HB.bl)); have n2_ := Aside0.mk (below_step HB.bl hb); clear HO_8; clear HB; have HO_8 := n0_; have HO630 := n1_; have HB := n2_; clear n0_ n1_ n2_; clear hb ho22))
            go_loopg [10, 48] k2 (fun kq v10 v48 w' => ∃ (x10_3 : List Int) (x48_3 : Int), v48 = .int .i64 x48_3 ∧ Aside0 (gilboa_Fold.l1 kq a0 a1 l2 x8_2 x9_2 x10_3 a0 x48_3 = some (r1, r2)) ∧ Aside0 (kq ≤ k2) ∧ Aside0 (Kd.R (Kd.int .u64) 35 w' w.heap.size (fun k_ => some k_ ≠ (v10 : Value).ownBlock) u8 x8_2) ∧ Aside0 (Kd.R (Kd.int .u64) 35 w' w.heap.size (fun k_ => some k_ ≠ (u8 : Value).ownBlock) v10 x10_3) ∧ Aside0 (Below w.heap.size w w'))
            case atStart => exact ⟨(y628), (0), (zq52), H', ⟨Nat.le_refl _⟩, ⟨by (with_reducible repeat (first | apply Kd.R_alloc | apply Kd.R_drewN | apply Kd.R_drew)); exact Kd.R_mono HO_8.out (fun _ hk => hk.2)⟩, ⟨by (with_reducible repeat (first | apply Kd.R_alloc | apply Kd.R_drewN | apply Kd.R_drew)); exact Kd.R_mono HO630.out (fun _ hk => hk.2)⟩, ⟨HB.bl⟩⟩
            case round =>
             clear H'
             try clear c1
             try clear c2
             try clear p2
             try clear c6
             try clear p6
             try clear c7
             try clear c7b0
             try clear c7b1
             try clear c8
             try clear c8b0
             try clear c8b1
             try clear c10
             try clear c11
             try clear c12
             try clear c12b0
             try clear c12b1
             try clear c14
             try clear c14b0
             try clear c14b1
             try clear c15
             try clear c15b0
             try clear c15b1
             try clear c18
             try clear c18b0
             try clear c19
             try clear c19b0
             try clear c19b1
             try clear c20
             try clear c20b0
             try clear c20b1
             try clear p2
             try clear p6
             obtain ⟨x10_3, x48_3, rfl, HA, HK3, HO_8, HO_10, HB⟩ := hrel
             cases gk with
             | zero => exact absurd HA.out (by simp [gilboa_Fold.l1])
             | succ k3 =>
              have H := HA.out
              clear HA
              simp only [gilboa_Fold.l1] at H
              by_cases c23 : x48_3 < a0
              ·rw [if_pos c23] at H
               have c23b0 : decide (x48_3 < a0) = true := decide_eq_true c23
               clear c23
               obtain ⟨ji24, hji24⟩ : ∃ j_ : Int, (wrap64 (x9_2 + (wrap64 (x48_3 * a1)))) = j_ := ⟨_, rfl⟩
               replace H : (if 0 ≤ (ji24) then (if (ji24) ≤ (wrap64 (x9_2 + (wrap64 ((wrap64 (x48_3 + 1)) * a1)))) then (if (wrap64 (x9_2 + (wrap64 ((wrap64 (x48_3 + 1)) * a1)))) ≤ (l2.length : Int) then ((ring_AddAll.f a0 x10_3 ((l2.take ((wrap64 (x9_2 + (wrap64 ((wrap64 (x48_3 + 1)) * a1)))) : Int).toNat).drop ((ji24) : Int).toNat)).bind fun bt632 => (gilboa_Fold.l1 k3 a0 a1 l2 x8_2 x9_2 bt632.1 a0 (wrap64 (x48_3 + 1)))) else (none)) else (none)) else (none)) = some (r1, r2) := by first | (rw [hji24] at H; exact H) | (simp only [hji24] at H ⊢; exact H)
               have hji24w : (IntKind.i64.wrap (x9_2 + (wrap64 (x48_3 * a1)))) = ji24 := (i64_w _).trans hji24
               by_cases c25 : 0 ≤ (ji24)
               ·rw [if_pos c25] at H
                have c25b0 := eq_true c25
                have c25b1 : decide (0 ≤ (ji24)) = true := decide_eq_true c25
                clear c25
                by_cases c26 : (ji24) ≤ (wrap64 (x9_2 + (wrap64 ((wrap64 (x48_3 + 1)) * a1))))
                ·rw [if_pos c26] at H
                 have c26b0 := eq_true c26
                 have c26b1 : decide ((ji24) ≤ (wrap64 (x9_2 + (wrap64 ((wrap64 (x48_3 + 1)) * a1))))) = true := decide_eq_true c26
                 by_cases c27 : (wrap64 (x9_2 + (wrap64 ((wrap64 (x48_3 + 1)) * a1)))) ≤ (l2.length : Int)
                 ·rw [if_pos c27] at H
                  have c27b0 := eq_true c27
                  have c27b1 : decide ((wrap64 (x9_2 + (wrap64 ((wrap64 (x48_3 + 1)) * a1)))) ≤ (l2.length : Int)) = true := decide_eq_true c27
                  replace H := Option.bind_eq_some_iff.mp H
                  obtain ⟨⟨t632, t633⟩, A280, H⟩ := H
                  replace H : (gilboa_Fold.l1 k3 a0 a1 l2 x8_2 x9_2 t632 a0 (wrap64 (x48_3 + 1))) = some (r1, r2) := H
                  have A28 := Aside0.mk A280
                  clear A280
                  have H' := Aside0.mk H
                  clear H
                  obtain ⟨i029, hi029, _, hsz29, _⟩ := info_parts info35
                  obtain ⟨A29, hcut29, hA29, hC29⟩ := print_mid_of (P := Try.prog) (Value.int .u64) 0 24 35 .i64 .i64 Try.underlying24 hi029 hsz29 A2 c2 l2 (ji24) (wrap64 (x9_2 + (wrap64 ((wrap64 (x48_3 + 1)) * a1)))) (of_decide_eq_true (zq51)) (by first | omega | exact of_decide_eq_true (by first | (with_reducible assumption) | assumption)) (of_decide_eq_true (zq51)) HC2.out
                  have HR631 := Aside0.mk (Kd.C_of_reads (h1 := fun _ => rfl) (hA29 _ (Kd.reads_of_C HR2.out)))
                  have HC631 := Aside0.mk hC29
                  clear hA29 hC29 hi029 hsz29
                  obtain ⟨Ao30, co30, eo30⟩ := Kd.R_slice HO_10.out
                  subst eo30
                  go_wp2_with (first | ((with_reducible refine gate_callee (f := 60) rfl ?_); refine goesL_ (some 67) rfl rfl Try.func60 (zq56) rfl #[.int .i64 a0, .slice Ao30 x10_3.length co30, .slice A29 ((l2.take ((wrap64 (x9_2 + (wrap64 ((wrap64 (x48_3 + 1)) * a1)))) : Int).toNat).drop ((ji24) : Int).toNat).length (c2 - (ji24).toNat)] rfl (by (try simp only [List.map_toArray, List.map_cons, List.map_nil]); first | done | (rw [show ((l2.take ((wrap64 (x9_2 + (wrap64 ((wrap64 (x48_3 + 1)) * a1)))) : Int).toNat).drop ((ji24) : Int).toNat).length = ((wrap64 (x9_2 + (wrap64 ((wrap64 (x48_3 + 1)) * a1)))).toNat - (ji24).toNat) from (by rw [List.length_drop, List.length_take]; have h_ : ((wrap64 (x9_2 + (wrap64 ((wrap64 (x48_3 + 1)) * a1)))) : Int) ≤ (l2.length : Int) := of_decide_eq_true (by first | (with_reducible assumption) | assumption); omega)] <;> rfl) | (simp only [hji24]; rfl) | rfl | (simp only [List.length_drop, List.length_take]; rfl)) ?_; (with_reducible refine (ring_AddAll.calls a0 _ _ x10_3 _ _ ((l2.take ((wrap64 (x9_2 + (wrap64 ((wrap64 (x48_3 + 1)) * a1)))) : Int).toNat).drop ((ji24) : Int).toNat) t632 t633 _ ?side1 ?side2 ?side3 ?side4 A28.out).mono ?_); (case side1 => repeat (first | exact (Kd.R_reads' HO_10.out).2.2 | (with_reducible refine Kd.C_alloc ?_ _) | (with_reducible refine Kd.C_drewN ?_ _) | (with_reducible refine Kd.C_drew ?_))); (case side2 => exact (Kd.R_reads' HO_10.out).2.1); (case side3 => repeat (first | exact (Kd.C_below HR631.out HB.out) | (with_reducible refine Kd.C_alloc ?_ _) | (with_reducible refine Kd.C_drewN ?_ _) | (with_reducible refine Kd.C_drew ?_))); (case side4 => exact HC631.out); rintro e w31 ⟨v634, rfl, ho0, hb⟩; refine ⟨_, rfl, ?_⟩; have n0_ := Aside0.mk (Kd.R_elder' HO_8.r (Kd.R_base ho0) hb); have n1_ := Aside0.mk (Kd.R_elder' HO_10.r (Kd.R_base ho0) hb); have n2_ := Aside0.mk (Kd.R_lower (Kd.R_new' (Kd.R_new' ho0 (Kd.R_lt HO_8.r)) (Kd.R_lt HO_10.r)) (below_size HB.bl)); have n3_ := Aside0.mk (below_step HB.bl hb); clear HO_8; clear HO_10; clear HB; have HO_8 := n0_; have HO_10 := n1_; have HO635 := n2_; have HB := n3_; clear n0_ n1_ n2_ n3_; (try clear hb); (try clear hb2); (try clear hk); (try clear hi); (try clear ho0)))
                  go_roundg k3
                  case measure => have := HJ3.out; have := HK2.out; have := HK3.out; omega
                  case rel => exact ⟨(t632), (wrap64 (x48_3 + 1)), (zq52), H', ⟨by have := HJ3.out; have := HK2.out; have := HK3.out; omega⟩, ⟨by (with_reducible repeat (first | apply Kd.R_alloc | apply Kd.R_drewN | apply Kd.R_drew)); exact Kd.R_mono HO_8.out (fun _ hk => hk.2)⟩, ⟨by (with_reducible repeat (first | apply Kd.R_alloc | apply Kd.R_drewN | apply Kd.R_drew)); exact Kd.R_mono HO635.out (fun _ hk => hk.1.2)⟩, ⟨HB.bl⟩⟩
                 ·rw [if_neg c27] at H
                  exact absurd H (by simp)
                ·rw [if_neg c26] at H
                 exact absurd H (by simp)
               ·rw [if_neg c25] at H
                exact absurd H (by simp)
              ·rw [if_neg c23] at H
               have c23b0 : decide (x48_3 < a0) = false := decide_eq_false c23
               clear c23
               by_cases c32 : x8_2.length + x10_3.length < 17592186044416
               ·rw [if_pos c32] at H
                have LMc32 := Aside0.mk c32
                clear c32
                obtain ⟨y636, hy636⟩ : ∃ y_ : List Int, y_ = (x8_2 ++ x10_3) := ⟨_, rfl⟩
                replace H : (gilboa_Fold.l0 k3 a0 a1 l2 y636 (wrap64 (x9_2 + (wrap64 (a0 * a1))))) = some (r1, r2) := by first | (rw [hy636]; with_reducible exact H) | (have H2_ := (Option.bind_some _ _).symm.trans H; rw [hy636]; with_reducible exact H2_) | (have H2_ := (Option.bind_some _ _).symm.trans H; with_reducible exact H2_) | with_reducible exact H | (rw [hy636]; exact H) | exact H
                have Ny636 := Aside0.mk hy636
                clear hy636
                have H' := Aside0.mk H
                clear H
                obtain ⟨Ao34, co34, eo34⟩ := Kd.R_slice HO_10.out
                subst eo34
                go_wp2_with (first | ((with_reducible refine gate_builtin (b := .append) (xs := #[.tmp 71, .tmp 72]) rfl ?_); (try (refine gate_guard (by rfl) ?_; dsimp only)); at_builtin; refine Kd.R_append_rows (Kd.int .u64) (w0 := w) w.heap.size rfl (.tmp 71) (.tmp 72) 24 35 (.int .u64 0) 8 rfl Try.underlying24 info35 rfl (by decide) (by omega) u8 x8_2 x10_3 _ _ _ (fun k_ => some k_ ≠ (.slice Ao34 x10_3.length co34 : Value).ownBlock) (fun _ => False) rfl rfl ?aO ?aR (fun _ _ h => h) (fun _ h => h.elim) ?aF ?aB ?aS ?aL ?_; (case aR => repeat (first | exact (Kd.R_reads' HO_10.out).2.2 | (with_reducible refine Kd.C_alloc ?_ _) | (with_reducible refine Kd.C_drewN ?_ _) | (with_reducible refine Kd.C_drew ?_))); (case aB => exact HB.bl); (case aF => exact (fun k_ hk => Kd.fresh' (Kd.R_lt HO_10.r) k_ hk)); (case aO => exact HO_8.r); (case aS => exact (below_size HB.bl)); (case aL => have := LMc32.out; omega); intro v637 w33 ho hb hg hat; rw [← Ny636.out] at ho; replace HO_10 := Aside0.mk (Kd.R_after (ok := (fun _ => True)) (by (with_reducible repeat (first | apply Kd.R_alloc | apply Kd.R_drewN | apply Kd.R_drew)); exact Kd.R_mono HO_10.out (fun _ hk => ⟨trivial, hk⟩)) hg hat); replace HB := Aside0.mk (hb); have HO638 := Aside0.mk (ho); clear HO_8; clear ho hb hg hat))
                go_roundg k3
                case measure => have := HJ3.out; have := HK2.out; have := HK3.out; omega
                case rel => exact ⟨(y636), (wrap64 (x9_2 + (wrap64 (a0 * a1)))), (zq52), H', ⟨by have := HJ3.out; have := HK2.out; have := HK3.out; omega⟩, ⟨by (with_reducible repeat (first | apply Kd.R_alloc | apply Kd.R_drewN | apply Kd.R_drew)); exact Kd.R_mono HO638.out (fun _ hk => trivial)⟩, ⟨HB.bl⟩⟩
               ·rw [if_neg c32] at H
                exact absurd H (by simp)
           ·rw [if_neg c20] at H
            exact absurd H (by simp)
          ·rw [if_neg c19] at H
           exact absurd H (by simp)
         ·rw [if_neg c18] at H
          have c18b0 : decide (x9_2 < (l2.length : Int)) = false := decide_eq_false c18
          clear c18
          simp only [Option.some.injEq, Prod.mk.injEq] at H
          obtain ⟨rfl, rfl⟩ := H
          go_wp2
          go_ret2
          exact ⟨_, by first | rfl | (simp [errW_none, errW_some] <;> rfl) | (simp only [← hji13]; first | rfl | (simp [errW_none, errW_some] <;> rfl)) | (simp [*, errW_none, errW_some] <;> rfl), HO_8.r, HB.bl⟩
      ·rw [if_neg c15] at H
       exact absurd H (by simp)
     ·rw [if_neg c14] at H
      exact absurd H (by simp)

/-! ### trefoilref22_Check: function 81 -/
def trefoilref22_Check.f (k : Nat) (a0_0 : Int) (a0_1 : Int) (a0_2 : Int) (a0_3 : Int) (a0_4 : Int) (a1 : Int) (a2 : Int) : Option (Int) := (trefoilref09_Check.f k a0_0 a0_1 a0_2 a0_3 a0_4).bind fun t680 => (if t680 = 0 then (if a0_0 = a1 then ((trefoilref22_Sides.f a0_0 a0_1 a0_2 a0_3 a0_4).bind fun bt682 => (if a2 < 1 then (some 2) else (if a2 > 24 then (some 2) else (if (wrap64 ((wrap64 ((wrap64 (a2 * bt682.1)) * bt682.2.1)) * a0_1)) > 4096 then (some 2) else (some 0))))) else (some 15)) else ((trefoilref09_Check.f k a0_0 a0_1 a0_2 a0_3 a0_4).bind fun t681 => (some t681)))
set_option maxHeartbeats 8000000 in
set_option maxRecDepth 100000 in
theorem trefoilref22_Check.calls (k : Nat) (a0_0 : Int) (a0_1 : Int) (a0_2 : Int) (a0_3 : Int) (a0_4 : Int) (a1 : Int) (a2 : Int) (r : Int) (w : World) (h : trefoilref22_Check.f k a0_0 a0_1 a0_2 a0_3 a0_4 a1 a2 = some r) :
  Calls Try.prog 81 #[.agg #[.int .i64 a0_0, .int .i64 a0_1, .int .i64 a0_2, .int .i64 a0_3, .int .i64 a0_4], .int .i64 a1, .int .i64 a2] w fun e w' => e = .returned (.int .i64 r) ∧ Below w.heap.size w w' := by
 have hu23 := Try.underlying23
 have HB := Aside0.mk (Below.refl w.heap.size w)
 have H : ((trefoilref09_Check.f k a0_0 a0_1 a0_2 a0_3 a0_4).bind fun t680 => (if t680 = 0 then (if a0_0 = a1 then ((trefoilref22_Sides.f a0_0 a0_1 a0_2 a0_3 a0_4).bind fun bt682 => (if a2 < 1 then (some 2) else (if a2 > 24 then (some 2) else (if (wrap64 ((wrap64 ((wrap64 (a2 * bt682.1)) * bt682.2.1)) * a0_1)) > 4096 then (some 2) else (some 0))))) else (some 15)) else ((trefoilref09_Check.f k a0_0 a0_1 a0_2 a0_3 a0_4).bind fun t681 => (some t681)))) = some r := h
 clear h
 replace H := Option.bind_eq_some_iff.mp H
 obtain ⟨t680, A40, H⟩ := H
 replace H : (if t680 = 0 then (if a0_0 = a1 then ((trefoilref22_Sides.f a0_0 a0_1 a0_2 a0_3 a0_4).bind fun bt682 => (if a2 < 1 then (some 2) else (if a2 > 24 then (some 2) else (if (wrap64 ((wrap64 ((wrap64 (a2 * bt682.1)) * bt682.2.1)) * a0_1)) > 4096 then (some 2) else (some 0))))) else (some 15)) else ((trefoilref09_Check.f k a0_0 a0_1 a0_2 a0_3 a0_4).bind fun t681 => (some t681))) = some r := H
 have A4 := Aside0.mk A40
 clear A40
 by_cases c5 : t680 = 0
 ·rw [if_pos c5] at H
  have c5b0 : (t680 == 0) = true := beq_iff_eq.mpr c5
  have c5b1 : (t680 != 0) = false := bne_eq_false_iff_eq.mpr c5
  clear c5
  by_cases c6 : a0_0 = a1
  ·rw [if_pos c6] at H
   have c6b0 : (a0_0 == a1) = true := beq_iff_eq.mpr c6
   have c6b1 : (a0_0 != a1) = false := bne_eq_false_iff_eq.mpr c6
   clear c6
   replace H := Option.bind_eq_some_iff.mp H
   obtain ⟨⟨t682, t683, t684⟩, A70, H⟩ := H
   replace H : (if a2 < 1 then (some 2) else (if a2 > 24 then (some 2) else (if (wrap64 ((wrap64 ((wrap64 (a2 * t682)) * t683)) * a0_1)) > 4096 then (some 2) else (some 0)))) = some r := H
   have A7 := Aside0.mk A70
   clear A70
   by_cases c8 : a2 < 1
   ·rw [if_pos c8] at H
    have c8b0 : decide (a2 < 1) = true := decide_eq_true c8
    clear c8
    obtain rfl := Option.some.inj H
    go_enter Try.func81, Try.ntmps81
    go_wp2_with (first | ((with_reducible refine gate_dst (N := 3) rfl ?_); refine box_event ?hg (N := 3) ?hd (cs := #[.int .i64 a0_0, .int .i64 a0_1, .int .i64 a0_2, .int .i64 a0_3, .int .i64 a0_4]) (t := 23) ?hr ?_; (case hd => rfl); (case hg => rfl); (case hr => first | (go_simp; done) | (go_simp; rfl)); intro gb679 hg w9 hbox hb; have n0_ := Aside0.mk (below_step HB.bl hb); have n1_ := Aside0.mk (hbox); have n2_ := Aside0.mk ((zq54 : w.heap.size ≤ gb679)); have n3_ := Aside0.mk ((zq54 : w.heap.size ≤ gb679)); clear HB; have HB := n0_; have BK679 := n1_; have GW679 := n2_; have GE679 := n3_; clear n0_ n1_ n2_ n3_; clear hb hbox hg; obtain ⟨hcz10_0, hcz10_1, hcz10_2, hcz10_3, hcz10_4, hfz10_0, hfz10_1, hfz10_2, hfz10_3, hfz10_4⟩ := cells_5 BK679.out) | ((with_reducible refine gate_callee (f := 62) rfl ?_); refine goesL_ (some 11) rfl rfl Try.func62 (zq56) rfl #[.agg #[.int .i64 a0_0, .int .i64 a0_1, .int .i64 a0_2, .int .i64 a0_3, .int .i64 a0_4]] rfl (zq33) ?_; (with_reducible refine (trefoilref09_Check.calls k a0_0 a0_1 a0_2 a0_3 a0_4 t680 _ A4.out).mono ?_); rintro e w11 ⟨rfl, hb⟩; refine ⟨_, rfl, ?_⟩; replace BK679 := Aside0.mk (BK679.lk hb); replace HB := Aside0.mk (below_step HB.bl hb); (try clear hb); (try clear hb2); (try clear hk); (try clear hi); obtain ⟨hcz12_0, hcz12_1, hcz12_2, hcz12_3, hcz12_4, hfz12_0, hfz12_1, hfz12_2, hfz12_3, hfz12_4⟩ := cells_5 BK679.out) | ((with_reducible refine gate_callee (f := 48) rfl ?_); refine goesL_ (some 21) rfl rfl Try.func48 (zq56) rfl #[.agg #[.int .i64 a0_0, .int .i64 a0_1, .int .i64 a0_2, .int .i64 a0_3, .int .i64 a0_4]] rfl (zq33) ?_; (with_reducible refine (trefoilref22_Sides.calls a0_0 a0_1 a0_2 a0_3 a0_4 t682 t683 t684 _ A7.out).mono ?_); rintro e w13 ⟨rfl, hb⟩; refine ⟨_, rfl, ?_⟩; replace BK679 := Aside0.mk (BK679.lk hb); replace HB := Aside0.mk (below_step HB.bl hb); (try clear hb); (try clear hb2); (try clear hk); (try clear hi)))
    go_ret
    exact ⟨zq49, zq26⟩
   ·rw [if_neg c8] at H
    have c8b0 : decide (a2 < 1) = false := decide_eq_false c8
    clear c8
    by_cases c14 : a2 > 24
    ·rw [if_pos c14] at H
     have c14b0 : decide (24 < a2) = true := decide_eq_true c14
     clear c14
     obtain rfl := Option.some.inj H
     go_enter Try.func81, Try.ntmps81
     go_wp2_with (first | ((with_reducible refine gate_dst (N := 3) rfl ?_); refine box_event ?hg (N := 3) ?hd (cs := #[.int .i64 a0_0, .int .i64 a0_1, .int .i64 a0_2, .int .i64 a0_3, .int .i64 a0_4]) (t := 23) ?hr ?_; (case hd => rfl); (case hg => rfl); (case hr => first | (go_simp; done) | (go_simp; rfl)); intro gb679 hg w15 hbox hb; have n0_ := Aside0.mk (below_step HB.bl hb); have n1_ := Aside0.mk (hbox); have n2_ := Aside0.mk ((zq54 : w.heap.size ≤ gb679)); have n3_ := Aside0.mk ((zq54 : w.heap.size ≤ gb679)); clear HB; have HB := n0_; have BK679 := n1_; have GW679 := n2_; have GE679 := n3_; clear n0_ n1_ n2_ n3_; clear hb hbox hg; obtain ⟨hcz16_0, hcz16_1, hcz16_2, hcz16_3, hcz16_4, hfz16_0, hfz16_1, hfz16_2, hfz16_3, hfz16_4⟩ := cells_5 BK679.out) | ((with_reducible refine gate_callee (f := 62) rfl ?_); refine goesL_ (some 11) rfl rfl Try.func62 (zq56) rfl #[.agg #[.int .i64 a0_0, .int .i64 a0_1, .int .i64 a0_2, .int .i64 a0_3, .int .i64 a0_4]] rfl (zq33) ?_; (with_reducible refine (trefoilref09_Check.calls k a0_0 a0_1 a0_2 a0_3 a0_4 t680 _ A4.out).mono ?_); rintro e w17 ⟨rfl, hb⟩; refine ⟨_, rfl, ?_⟩; replace BK679 := Aside0.mk (BK679.lk hb); replace HB := Aside0.mk (below_step HB.bl hb); (try clear hb); (try clear hb2); (try clear hk); (try clear hi); obtain ⟨hcz18_0, hcz18_1, hcz18_2, hcz18_3, hcz18_4, hfz18_0, hfz18_1, hfz18_2, hfz18_3, hfz18_4⟩ := cells_5 BK679.out) | ((with_reducible refine gate_callee (f := 48) rfl ?_); refine goesL_ (some 21) rfl rfl Try.func48 (zq56) rfl #[.agg #[.int .i64 a0_0, .int .i64 a0_1, .int .i64 a0_2, .int .i64 a0_3, .int .i64 a0_4]] rfl (zq33) ?_; (with_reducible refine (trefoilref22_Sides.calls a0_0 a0_1 a0_2 a0_3 a0_4 t682 t683 t684 _ A7.out).mono ?_); rintro e w19 ⟨rfl, hb⟩; refine ⟨_, rfl, ?_⟩; replace BK679 := Aside0.mk (BK679.lk hb); replace HB := Aside0.mk (below_step HB.bl hb); (try clear hb); (try clear hb2); (try clear hk); (try clear hi)))
     go_ret
     exact ⟨zq49, zq26⟩
    ·rw [if_neg c14] at H
     have c14b0 : decide (24 < a2) = false := decide_eq_false c14
     clear c14
     by_cases c20 : (wrap64 ((wrap64 ((wrap64 (a2 * t682)) * t683)) * a0_1)) > 4096
     ·rw [if_pos c20] at H
      have c20b0 : decide (4096 < (wrap64 ((wrap64 ((wrap64 (a2 * t682)) * t683)) * a0_1))) = true := decide_eq_true c20
      clear c20
      obtain rfl := Option.some.inj H
      go_enter Try.func81, Try.ntmps81
      go_wp2_with (first | ((with_reducible refine gate_dst (N := 3) rfl ?_); refine box_event ?hg (N := 3) ?hd (cs := #[.int .i64 a0_0, .int .i64 a0_1, .int .i64 a0_2, .int .i64 a0_3, .int .i64 a0_4]) (t := 23) ?hr ?_; (case hd => rfl); (case hg => rfl); (case hr => first | (go_simp; done) | (go_simp; rfl)); intro gb679 hg w21 hbox hb; have n0_ := Aside0.mk (below_step HB.bl hb); have n1_ := Aside0.mk (hbox); have n2_ := Aside0.mk ((zq54 : w.heap.size ≤ gb679)); have n3_ := Aside0.mk ((zq54 : w.heap.size ≤ gb679)); clear HB; have HB := n0_; have BK679 := n1_; have GW679 := n2_; have GE679 := n3_; clear n0_ n1_ n2_ n3_; clear hb hbox hg; obtain ⟨hcz22_0, hcz22_1, hcz22_2, hcz22_3, hcz22_4, hfz22_0, hfz22_1, hfz22_2, hfz22_3, hfz22_4⟩ := cells_5 BK679.out) | ((with_reducible refine gate_callee (f := 62) rfl ?_); refine goesL_ (some 11) rfl rfl Try.func62 (zq56) rfl #[.agg #[.int .i64 a0_0, .int .i64 a0_1, .int .i64 a0_2, .int .i64 a0_3, .int .i64 a0_4]] rfl (zq33) ?_; (with_reducible refine (trefoilref09_Check.calls k a0_0 a0_1 a0_2 a0_3 a0_4 t680 _ A4.out).mono ?_); rintro e w23 ⟨rfl, hb⟩; refine ⟨_, rfl, ?_⟩; replace BK679 := Aside0.mk (BK679.lk hb); replace HB := Aside0.mk (below_step HB.bl hb); (try clear hb); (try clear hb2); (try clear hk); (try clear hi); obtain ⟨hcz24_0, hcz24_1, hcz24_2, hcz24_3, hcz24_4, hfz24_0, hfz24_1, hfz24_2, hfz24_3, hfz24_4⟩ := cells_5 BK679.out) | ((with_reducible refine gate_callee (f := 48) rfl ?_); refine goesL_ (some 21) rfl rfl Try.func48 (zq56) rfl #[.agg #[.int .i64 a0_0, .int .i64 a0_1, .int .i64 a0_2, .int .i64 a0_3, .int .i64 a0_4]] rfl (zq33) ?_; (with_reducible refine (trefoilref22_Sides.calls a0_0 a0_1 a0_2 a0_3 a0_4 t682 t683 t684 _ A7.out).mono ?_); rintro e w25 ⟨rfl, hb⟩; refine ⟨_, rfl, ?_⟩; replace BK679 := Aside0.mk (BK679.lk hb); replace HB := Aside0.mk (below_step HB.bl hb); (try clear hb); (try clear hb2); (try clear hk); (try clear hi); obtain ⟨hcz26_0, hcz26_1, hcz26_2, hcz26_3, hcz26_4, hfz26_0, hfz26_1, hfz26_2, hfz26_3, hfz26_4⟩ := cells_5 BK679.out))
      go_ret
      exact ⟨zq49, zq26⟩
     ·rw [if_neg c20] at H
      have c20b0 : decide (4096 < (wrap64 ((wrap64 ((wrap64 (a2 * t682)) * t683)) * a0_1))) = false := decide_eq_false c20
      clear c20
      obtain rfl := Option.some.inj H
      go_enter Try.func81, Try.ntmps81
      go_wp2_with (first | ((with_reducible refine gate_dst (N := 3) rfl ?_); refine box_event ?hg (N := 3) ?hd (cs := #[.int .i64 a0_0, .int .i64 a0_1, .int .i64 a0_2, .int .i64 a0_3, .int .i64 a0_4]) (t := 23) ?hr ?_; (case hd => rfl); (case hg => rfl); (case hr => first | (go_simp; done) | (go_simp; rfl)); intro gb679 hg w27 hbox hb; have n0_ := Aside0.mk (below_step HB.bl hb); have n1_ := Aside0.mk (hbox); have n2_ := Aside0.mk ((zq54 : w.heap.size ≤ gb679)); have n3_ := Aside0.mk ((zq54 : w.heap.size ≤ gb679)); clear HB; have HB := n0_; have BK679 := n1_; have GW679 := n2_; have GE679 := n3_; clear n0_ n1_ n2_ n3_; clear hb hbox hg; obtain ⟨hcz28_0, hcz28_1, hcz28_2, hcz28_3, hcz28_4, hfz28_0, hfz28_1, hfz28_2, hfz28_3, hfz28_4⟩ := cells_5 BK679.out) | ((with_reducible refine gate_callee (f := 62) rfl ?_); refine goesL_ (some 11) rfl rfl Try.func62 (zq56) rfl #[.agg #[.int .i64 a0_0, .int .i64 a0_1, .int .i64 a0_2, .int .i64 a0_3, .int .i64 a0_4]] rfl (zq33) ?_; (with_reducible refine (trefoilref09_Check.calls k a0_0 a0_1 a0_2 a0_3 a0_4 t680 _ A4.out).mono ?_); rintro e w29 ⟨rfl, hb⟩; refine ⟨_, rfl, ?_⟩; replace BK679 := Aside0.mk (BK679.lk hb); replace HB := Aside0.mk (below_step HB.bl hb); (try clear hb); (try clear hb2); (try clear hk); (try clear hi); obtain ⟨hcz30_0, hcz30_1, hcz30_2, hcz30_3, hcz30_4, hfz30_0, hfz30_1, hfz30_2, hfz30_3, hfz30_4⟩ := cells_5 BK679.out) | ((with_reducible refine gate_callee (f := 48) rfl ?_); refine goesL_ (some 21) rfl rfl Try.func48 (zq56) rfl #[.agg #[.int .i64 a0_0, .int .i64 a0_1, .int .i64 a0_2, .int .i64 a0_3, .int .i64 a0_4]] rfl (zq33) ?_; (with_reducible refine (trefoilref22_Sides.calls a0_0 a0_1 a0_2 a0_3 a0_4 t682 t683 t684 _ A7.out).mono ?_); rintro e w31 ⟨rfl, hb⟩; refine ⟨_, rfl, ?_⟩; replace BK679 := Aside0.mk (BK679.lk hb); replace HB := Aside0.mk (below_step HB.bl hb); (try clear hb); (try clear hb2); (try clear hk); (try clear hi); obtain ⟨hcz32_0, hcz32_1, hcz32_2, hcz32_3, hcz32_4, hfz32_0, hfz32_1, hfz32_2, hfz32_3, hfz32_4⟩ := cells_5 BK679.out))
      go_ret
      exact ⟨zq49, zq26⟩
  ·rw [if_neg c6] at H
   have c6b0 : (a0_0 == a1) = false := beq_eq_false_iff_ne.mpr c6
   have c6b1 : (a0_0 != a1) = true := bne_iff_ne.mpr c6
   obtain rfl := Option.some.inj H
   go_enter Try.func81, Try.ntmps81
   go_wp2_with (first | ((with_reducible refine gate_dst (N := 3) rfl ?_); refine box_event ?hg (N := 3) ?hd (cs := #[.int .i64 a0_0, .int .i64 a0_1, .int .i64 a0_2, .int .i64 a0_3, .int .i64 a0_4]) (t := 23) ?hr ?_; (case hd => rfl); (case hg => rfl); (case hr => first | (go_simp; done) | (go_simp; rfl)); intro gb679 hg w33 hbox hb; have n0_ := Aside0.mk (below_step HB.bl hb); have n1_ := Aside0.mk (hbox); have n2_ := Aside0.mk ((zq54 : w.heap.size ≤ gb679)); have n3_ := Aside0.mk ((zq54 : w.heap.size ≤ gb679)); clear HB; have HB := n0_; have BK679 := n1_; have GW679 := n2_; have GE679 := n3_; clear n0_ n1_ n2_ n3_; clear hb hbox hg; obtain ⟨hcz34_0, hcz34_1, hcz34_2, hcz34_3, hcz34_4, hfz34_0, hfz34_1, hfz34_2, hfz34_3, hfz34_4⟩ := cells_5 BK679.out) | ((with_reducible refine gate_callee (f := 62) rfl ?_); refine goesL_ (some 11) rfl rfl Try.func62 (zq56) rfl #[.agg #[.int .i64 a0_0, .int .i64 a0_1, .int .i64 a0_2, .int .i64 a0_3, .int .i64 a0_4]] rfl (zq33) ?_; (with_reducible refine (trefoilref09_Check.calls k a0_0 a0_1 a0_2 a0_3 a0_4 t680 _ A4.out).mono ?_); rintro e w35 ⟨rfl, hb⟩; refine ⟨_, rfl, ?_⟩; replace BK679 := Aside0.mk (BK679.lk hb); replace HB := Aside0.mk (below_step HB.bl hb); (try clear hb); (try clear hb2); (try clear hk); (try clear hi); obtain ⟨hcz36_0, hcz36_1, hcz36_2, hcz36_3, hcz36_4, hfz36_0, hfz36_1, hfz36_2, hfz36_3, hfz36_4⟩ := cells_5 BK679.out))
   go_ret
   exact ⟨zq49, zq26⟩
 ·rw [if_neg c5] at H
  have c5b0 : (t680 == 0) = false := beq_eq_false_iff_ne.mpr c5
  have c5b1 : (t680 != 0) = true := bne_iff_ne.mpr c5
  replace H := Option.bind_eq_some_iff.mp H
  obtain ⟨t681, A370, H⟩ := H
  replace H : (some t681) = some r := H
  have A37 := Aside0.mk A370
  clear A370
  obtain rfl := Option.some.inj H
  go_enter Try.func81, Try.ntmps81
  go_wp2_with (first | ((with_reducible refine gate_dst (N := 3) rfl ?_); refine box_event ?hg (N := 3) ?hd (cs := #[.int .i64 a0_0, .int .i64 a0_1, .int .i64 a0_2, .int .i64 a0_3, .int .i64 a0_4]) (t := 23) ?hr ?_; (case hd => rfl); (case hg => rfl); (case hr => first | (go_simp; done) | (go_simp; rfl)); intro gb679 hg w38 hbox hb; have n0_ := Aside0.mk (below_step HB.bl hb); have n1_ := Aside0.mk (hbox); have n2_ := Aside0.mk ((zq54 : w.heap.size ≤ gb679)); have n3_ := Aside0.mk ((zq54 : w.heap.size ≤ gb679)); clear HB; have HB := n0_; have BK679 := n1_; have GW679 := n2_; have GE679 := n3_; clear n0_ n1_ n2_ n3_; clear hb hbox hg; obtain ⟨hcz39_0, hcz39_1, hcz39_2, hcz39_3, hcz39_4, hfz39_0, hfz39_1, hfz39_2, hfz39_3, hfz39_4⟩ := cells_5 BK679.out) | ((with_reducible refine gate_callee (f := 62) rfl ?_); refine goesL_ (some 11) rfl rfl Try.func62 (zq56) rfl #[.agg #[.int .i64 a0_0, .int .i64 a0_1, .int .i64 a0_2, .int .i64 a0_3, .int .i64 a0_4]] rfl (zq33) ?_; (with_reducible refine (trefoilref09_Check.calls k a0_0 a0_1 a0_2 a0_3 a0_4 t680 _ A4.out).mono ?_); rintro e w40 ⟨rfl, hb⟩; refine ⟨_, rfl, ?_⟩; replace BK679 := Aside0.mk (BK679.lk hb); replace HB := Aside0.mk (below_step HB.bl hb); (try clear hb); (try clear hb2); (try clear hk); (try clear hi); obtain ⟨hcz41_0, hcz41_1, hcz41_2, hcz41_3, hcz41_4, hfz41_0, hfz41_1, hfz41_2, hfz41_3, hfz41_4⟩ := cells_5 BK679.out) | ((with_reducible refine gate_callee (f := 62) rfl ?_); refine goesL_ (some 14) rfl rfl Try.func62 (zq56) rfl #[.agg #[.int .i64 a0_0, .int .i64 a0_1, .int .i64 a0_2, .int .i64 a0_3, .int .i64 a0_4]] rfl (zq33) ?_; (with_reducible refine (trefoilref09_Check.calls k a0_0 a0_1 a0_2 a0_3 a0_4 t681 _ A37.out).mono ?_); rintro e w42 ⟨rfl, hb⟩; refine ⟨_, rfl, ?_⟩; replace BK679 := Aside0.mk (BK679.lk hb); replace HB := Aside0.mk (below_step HB.bl hb); (try clear hb); (try clear hb2); (try clear hk); (try clear hi)))
  go_ret
  exact ⟨zq49, zq26⟩
end Go.Proofs.Ytcmaidpoolcelaa.P
