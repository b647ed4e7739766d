/- Nobody joins: the law's text, walked. -/
import Derived.IntWalk
import Derived.Lib.Hide
import Derived.Test.YtojimoebbinhdaaSnK0
namespace Go.Proofs.Ytojimoebbinhdaa.P
open Go.RowKit Go.Proofs.YtojimoebbinhdaaW.PrintWords Go.Proofs.YtojimoebbinhdaaW.PrintLast Go.Proofs.YtojimoebbinhdaaW.PrintMore
set_option linter.unusedVariables false
set_option linter.unusedSimpArgs false

/-! ### trefoillaw20_StreamNobody: function 7 -/
theorem all_nil (w : World) : Calls Try.prog 24 #[.pointer none] w fun e w' => e = .returned (.tuple #[.slice none 0 0, .bool false]) ∧ w = w' := by
  go_enter Try.func24, Try.ntmps24
  go_wp2
  go_ret2
  exact ⟨rfl, rfl⟩
theorem all_zero (g : Nat) (w : World) (h : w.cell? ⟨g, 4, none⟩ = some (.bool false)) : Calls Try.prog 24 #[.pointer (some ⟨g, 0, none⟩)] w fun e w' => e = .returned (.tuple #[.slice none 0 0, .bool false]) ∧ w = w' := by
  go_enter Try.func24, Try.ntmps24
  go_wp2
  go_ret2
  exact ⟨rfl, rfl⟩
theorem add_nil (i : Int) (v : Value) (w : World) : Calls Try.prog 25 #[.pointer none, .int .i64 i, v] w fun e w' => e = .returned (.int .i64 3) ∧ w = w' := by
  go_enter Try.func25, Try.ntmps25
  go_wp2
  go_ret
  exact ⟨rfl, rfl⟩
theorem add_zero' (g : Nat) (i : Int) (v : Value) (w : World) (h : w.cell? ⟨g, 4, none⟩ = some (.bool false)) : Calls Try.prog 25 #[.pointer (some ⟨g, 0, none⟩), .int .i64 i, v] w fun e w' => e = .returned (.int .i64 3) ∧ w = w' := by
  go_enter Try.func25, Try.ntmps25
  go_wp2
  go_ret
  exact ⟨rfl, rfl⟩
theorem left_nil (w : World) : Calls Try.prog 26 #[.pointer none] w fun e w' => e = .returned (.int .i64 0) ∧ w = w' := by
  go_enter Try.func26, Try.ntmps26
  go_wp2
  go_ret
  exact ⟨rfl, rfl⟩
theorem left_zero (g : Nat) (w : World) (h : w.cell? ⟨g, 3, none⟩ = some (.slice none 0 0)) : Calls Try.prog 26 #[.pointer (some ⟨g, 0, none⟩)] w fun e w' => e = .returned (.int .i64 0) ∧ w = w' := by
  go_enter Try.func26, Try.ntmps26
  go_wp2
  go_loop [3, 13] (fun a b => a = .int .i64 0 ∧ b = .int .i64 0) (fun _ _ => 0)
  case atStart => exact ⟨rfl, rfl⟩
  case round =>
    obtain ⟨rfl, rfl⟩ := hrel
    go_wp2
    go_ret
    exact ⟨rfl, rfl⟩

def trefoillaw20_StreamNobody.f (k : Nat) (a0 : Int) (l1 : List Int) : Option Bool := (trefoillaw20_awake.f k).bind fun t => if t = true then some true else none
set_option maxHeartbeats 4000000 in
set_option maxRecDepth 100000 in
theorem trefoillaw20_StreamNobody.calls (k : Nat) (a0 : Int) (A1 : Option Addr) (c1 : Nat) (l1 : List Int) (r : Bool) (w : World) (hr1 : Kd.C (Kd.int .u64) w A1 l1.length l1) (hc1 : l1.length ≤ c1) (h : trefoillaw20_StreamNobody.f k a0 l1 = some r) :
    Calls Try.prog 7 #[.int .i64 a0, .slice A1 l1.length c1] w fun e w' => e = .returned (.bool r) ∧ Below w.heap.size w w' := by
  obtain ⟨t, ht, hx⟩ := Option.bind_eq_some_iff.mp h
  clear h
  by_cases htt : ¬ t = true
  · rw [if_neg htt] at hx; cases hx
  replace htt := Decidable.not_not.mp htt
  subst htt
  rw [if_pos rfl] at hx
  obtain rfl := Option.some.inj hx
  have HA := Aside0.mk ht
  clear hx ht hr1 hc1
  go_enter Try.func7, Try.ntmps7
  go_wp2
  go_loop [13] (fun a => ∃ i : Nat, i ≤ 2 ∧ a = .int .i64 i) (fun a => 2 - (intOf a).toNat)
  case atStart => exact ⟨0, by omega, rfl⟩
  case round =>
    obtain ⟨i, hi, rfl⟩ := hrel
    by_cases h2 : i = 2
    · subst h2
      go_wp2_with (first
        | (go_at_call 14; refine (trefoillaw20_awake.calls k true _ HA.out).mono ?_; rintro e w1 ⟨rfl, hb1⟩))
      go_ret
      exact ⟨rfl, below_step (below_alloc (below_alloc (Below.refl _ _) _) _) hb1⟩
    · have hi2 : i = 0 ∨ i = 1 := by omega
      rcases hi2 with rfl | rfl
      · go_wp2_with (first
          | (go_at_call 24; refine (all_nil _).mono ?_; rintro e w1 ⟨rfl, rfl⟩)
          | (go_at_call 25; refine (add_nil _ _ _).mono ?_; rintro e w1 ⟨rfl, rfl⟩)
          | (go_at_call 26; refine (left_nil _).mono ?_; rintro e w1 ⟨rfl, rfl⟩))
        go_round
        case rel => exact ⟨1, by omega, rfl⟩
        case measure => simp [intOf]
      · go_wp2_with (first
          | (go_at_call 24; refine (all_zero _ _ ?hc).mono ?_; (case hc => go_simp); rintro e w1 ⟨rfl, rfl⟩)
          | (go_at_call 25; refine (add_zero' _ _ _ _ ?hc).mono ?_; (case hc => go_simp); rintro e w1 ⟨rfl, rfl⟩)
          | (go_at_call 26; refine (left_zero _ _ ?hc).mono ?_; (case hc => go_simp); rintro e w1 ⟨rfl, rfl⟩))
        go_round
        case rel => exact ⟨2, by omega, rfl⟩
        case measure => simp [intOf]
end Go.Proofs.Ytojimoebbinhdaa.P
