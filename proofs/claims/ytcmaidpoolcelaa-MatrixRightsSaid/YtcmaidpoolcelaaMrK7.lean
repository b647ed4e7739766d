/- Functions of the program as plain Lean functions, and proofs that the machine's calls do what these do: written by a program of this workplace (wip/tools/pp.py). -/
import Derived.ChangeAlike
import Derived.Deep.RegionWith
import Derived.IntWalk
import Derived.Lib.Hide
import Derived.RegionTactic
import Derived.Test.YtcmaidpoolcelaaMrPx0
import Derived.WalkSpells
import Derived.Test.YtcmaidpoolcelaaMrK1
namespace Go.Proofs.Ytcmaidpoolcelaa.P
open Go.RowKit Go.Proofs.YtcmaidpoolcelaaW.PrintWords Go.Proofs.YtcmaidpoolcelaaW.PrintLast Go.Proofs.YtcmaidpoolcelaaW.PrintMore
attribute [local go_sem] max2_int min2_int max_two min_two max_three min_three max_four min_four   -- for this text's walks alone
set_option linter.unusedVariables false
set_option linter.unusedSimpArgs false

/-! ### ring_Fits: function 65 -/
set_option maxHeartbeats 400000 in
theorem ring_Fits_1.calls (x m : Int) (g : Nat) (w : World) (h : w.cell? ⟨g, 0, none⟩ = some (.int .u64 m)) :
    Calls Try.prog 101 #[.int .u64 x, .pointer (some ⟨g, 0, none⟩)] w fun e w' => e = .returned (.bool (Go.bits .andNot .u64 x m != 0)) ∧ Drawn0 w w' := by
  go_enter Try.func101, Try.ntmps101
  go_wp2
  go_ret
  exact ⟨by first | rfl | (simp; done) | (simp [*]; done), by repeat (first | exact Drawn0.refl _ | apply Drawn0.step)⟩

def over (m : Int) (x : Int) : Bool := Go.bits .andNot .u64 x m != 0
def FitsAns (m : Int) (l : List Int) (w : World) (e : Ending) (w' : World) : Prop := ∃ i : Int, e = .returned (.int .i64 i) ∧ (0 ≤ i ↔ ∃ j : Nat, j < l.length ∧ over m (rd l j) = true) ∧ Drawn0 w w'

set_option maxHeartbeats 400000 in
theorem IndexFunc_Fits.calls (m : Int) (g : Nat) (A : Option Addr) (c : Nat) (l : List Int) (w : World) (h : w.cell? ⟨g, 0, none⟩ = some (.int .u64 m)) (hr : Kd.C (Kd.int .u64) w A l.length l) :
    Calls Try.prog 114 #[.slice A l.length c, .func (.func 101) #[] #[.pointer (some ⟨g, 0, none⟩)]] w (FitsAns m l w) := by
  have hm := Kd.C_max hr
  go_enter Try.func114, Try.ntmps114
  go_wp2
  go_loopw [5, 8] (fun _ i wr => ∃ k : Nat, k ≤ l.length ∧ i = .int .i64 k ∧ Drawn0 w wr ∧ (∀ j : Nat, j < k → over m (rd l j) = false)) (fun _ i _ => l.length - (intOf i).toNat)
  case atStart => exact ⟨0, Nat.zero_le _, rfl, Drawn0.refl _, fun j hj => by omega⟩
  case round =>
    obtain ⟨k, hk, rfl, hd, hb⟩ := hrel
    have HB := Lib.hid hb
    clear hb
    obtain ⟨n, rfl⟩ := hd.out
    have hcw : (w.drewN n).cell? ⟨g, 0, none⟩ = some (.int .u64 m) := h
    by_cases hlt : k < l.length
    · obtain ⟨ad, rfl, hcell⟩ := Kd.at_int hr (k : Int) (by omega) (by omega)
      rw [Int.toNat_natCast] at hcell
      by_cases hbad : over m (rd l k) = true
      · have hbad' : (Go.bits .andNot .u64 (rd l k) m != 0) = true := hbad
        have HX := Lib.hid hbad
        clear hbad
        go_wp2_with (go_at_call 101; refine (ring_Fits_1.calls _ m g _ hcw).mono ?_; rintro e w' ⟨rfl, ⟨n', rfl⟩⟩)
        go_ret
        exact ⟨k, rfl, ⟨fun _ => ⟨k, hlt, HX.out⟩, fun _ => by omega⟩, by repeat (first | exact Drawn0.refl _ | apply Drawn0.step)⟩
      · have hbad' : (Go.bits .andNot .u64 (rd l k) m != 0) = false := by simpa [over] using hbad
        have HX := Lib.hid hbad
        clear hbad
        go_wp2_with (go_at_call 101; refine (ring_Fits_1.calls _ m g _ hcw).mono ?_; rintro e w' ⟨rfl, ⟨n', rfl⟩⟩)
        go_roundw
        case rel =>
          refine ⟨k + 1, by omega, by go_num, by repeat (first | exact Drawn0.refl _ | apply Drawn0.step), fun j hj => ?_⟩
          by_cases e : j = k
          · subst e; simpa using HX.out
          · exact HB.out j (by omega)
        case measure => simp [intOf]; omega
    · go_wp2
      go_ret
      exact ⟨-1, rfl, ⟨fun h => by omega, fun ⟨j, hj, hx⟩ => by rw [HB.out j (by omega)] at hx; cases hx⟩, by repeat (first | exact Drawn0.refl _ | apply Drawn0.step)⟩

set_option maxHeartbeats 400000 in
theorem ContainsFunc_Fits.calls (m : Int) (g : Nat) (A : Option Addr) (c : Nat) (l : List Int) (w : World) (h : w.cell? ⟨g, 0, none⟩ = some (.int .u64 m)) (hr : Kd.C (Kd.int .u64) w A l.length l) :
    Calls Try.prog 100 #[.slice A l.length c, .func (.func 101) #[] #[.pointer (some ⟨g, 0, none⟩)]] w fun e w' => e = .returned (.bool (l.any (over m))) ∧ Drawn0 w w' := by
  go_enter Try.func100, Try.ntmps100
  go_wp2_with (go_at_call 114; refine (IndexFunc_Fits.calls m g A c l _ h hr).mono ?_; rintro e w' ⟨i, rfl, hi, ⟨n', rfl⟩⟩)
  go_ret
  refine ⟨congrArg (fun b => Ending.returned (.bool b)) ?_, by repeat (first | exact Drawn0.refl _ | apply Drawn0.step)⟩
  rw [Bool.eq_iff_iff]
  simp only [decide_eq_true_eq, List.any_eq_true]
  try rw [hi]
  constructor
  · rintro ⟨j, hj, hx⟩
    refine ⟨rd l j, ?_, hx⟩
    unfold rd
    rw [List.getD_eq_getElem?_getD, List.getElem?_eq_getElem (by omega)]
    exact List.getElem_mem _
  · rintro ⟨x, hx, ho⟩
    obtain ⟨j, hj, rfl⟩ := List.getElem_of_mem hx
    refine ⟨j, hj, ?_⟩
    unfold rd
    rw [List.getD_eq_getElem?_getD, List.getElem?_eq_getElem (by omega)]
    exact ho

def ring_Fits.f (a0 : Int) (l1 : List Int) : Option Bool := (ring_mask.f a0).bind fun m => some (!(l1.any (over m)))
set_option maxHeartbeats 400000 in
theorem ring_Fits.calls (a0 : Int) (A1 : Option Addr) (c1 : Nat) (l1 : List Int) (r : Bool) (w : World) (hr1 : Kd.C (Kd.int .u64) w A1 l1.length l1) (hc1 : l1.length ≤ c1) (h : ring_Fits.f a0 l1 = some r) :
    Calls Try.prog 65 #[.int .i64 a0, .slice A1 l1.length c1] w fun e w' => e = .returned (.bool r) ∧ Below w.heap.size w w' := by
  obtain ⟨m, hm, hx⟩ := Option.bind_eq_some_iff.mp h
  obtain rfl := Option.some.inj hx
  clear h hx
  have HM := Lib.hid hm
  clear hm
  go_enter Try.func65, Try.ntmps65
  go_wp2_with (first | (go_at_call 90; refine (ring_mask.calls a0 m _ HM.out).mono ?_; rintro e w1 ⟨rfl, hd1⟩; have HB := Aside0.mk hd1.below; have HR := Aside0.mk (Kd.C_below hr1 hd1.below); clear hd1) | (go_at_call 100; refine (ContainsFunc_Fits.calls m w1.heap.size A1 c1 l1 _ ?hcell ?hread).mono ?_; (case hcell => go_simp); (case hread => exact Kd.C_alloc HR.out _); rintro e w' ⟨rfl, ⟨n', rfl⟩⟩))
  go_ret
  exact ⟨rfl, by repeat (first | exact HB.out | apply below_alloc | apply pw_below_drewN | apply below_drew)⟩
end Go.Proofs.Ytcmaidpoolcelaa.P
