/- A network that is none: what every call answers. -/
import Derived.Test.YtedhckojeephaaaNnPx0
import Derived.Test.YtedhckojeephaaaNnK1
import Derived.Test.YtedhckojeephaaaNnK5
namespace Go.Proofs.Ytedhckojeephaaa.P
open Go.RowKit Go.Proofs.YtedhckojeephaaaW.PrintWords Go.Proofs.YtedhckojeephaaaW.PrintLast Go.Proofs.YtedhckojeephaaaW.PrintMore
set_option linter.unusedVariables false
set_option linter.unusedSimpArgs false

/-! ### nobody: functions 27 to 39 -/
theorem send_nil (t : Int) (s : ByteArray) (w : World) : Calls Try.prog 27 #[.pointer none, .int .i64 t, .string s] w fun e w' => e = .returned (.int .i64 3) ∧ w = w' := by
  go_enter Try.func27, Try.ntmps27
  go_wp2_with (go_at_call 43; refine (ready_nil t _).mono ?_; rintro e w1 ⟨rfl, rfl⟩)
  go_ret
  exact ⟨rfl, rfl⟩
theorem take_nil (t i : Int) (w : World) : Calls Try.prog 28 #[.pointer none, .int .i64 t, .int .i64 i] w fun e w' => e = .returned (.tuple #[.string ⟨#[]⟩, .int .i64 3]) ∧ w = w' := by
  go_enter Try.func28, Try.ntmps28
  go_wp2_with (go_at_call 44; refine (at_nil t i _).mono ?_; rintro e w1 ⟨rfl, rfl⟩)
  go_ret2
  exact ⟨rfl, rfl⟩
theorem drop_nil (t i : Int) (w : World) : Calls Try.prog 30 #[.pointer none, .int .i64 t, .int .i64 i] w fun e w' => e = .returned (.int .i64 3) ∧ w = w' := by
  go_enter Try.func30, Try.ntmps30
  go_wp2_with (go_at_call 28; refine (take_nil t i _).mono ?_; rintro e w1 ⟨rfl, rfl⟩)
  go_ret
  exact ⟨rfl, rfl⟩
theorem double_nil (t i : Int) (w : World) : Calls Try.prog 31 #[.pointer none, .int .i64 t, .int .i64 i] w fun e w' => e = .returned (.int .i64 3) ∧ w = w' := by
  go_enter Try.func31, Try.ntmps31
  go_wp2_with (go_at_call 44; refine (at_nil t i _).mono ?_; rintro e w1 ⟨rfl, rfl⟩)
  go_ret
  exact ⟨rfl, rfl⟩
theorem swap_nil (t i k : Int) (w : World) : Calls Try.prog 32 #[.pointer none, .int .i64 t, .int .i64 i, .int .i64 k] w fun e w' => e = .returned (.int .i64 3) ∧ w = w' := by
  go_enter Try.func32, Try.ntmps32
  go_wp2_with (go_at_call 44; refine (at_nil t i _).mono ?_; rintro e w1 ⟨rfl, rfl⟩)
  go_ret
  exact ⟨rfl, rfl⟩
theorem forge_nil (t i : Int) (s : ByteArray) (w : World) : Calls Try.prog 37 #[.pointer none, .int .i64 t, .int .i64 i, .string s] w fun e w' => e = .returned (.int .i64 3) ∧ w = w' := by
  go_enter Try.func37, Try.ntmps37
  go_wp2_with (go_at_call 44; refine (at_nil t i _).mono ?_; rintro e w1 ⟨rfl, rfl⟩)
  go_ret
  exact ⟨rfl, rfl⟩
theorem turn_nil (t i k : Int) (b : Int) (w : World) : Calls Try.prog 38 #[.pointer none, .int .i64 t, .int .i64 i, .int .i64 k, .int .u8 b] w fun e w' => e = .returned (.int .i64 3) ∧ w = w' := by
  go_enter Try.func38, Try.ntmps38
  go_wp2_with (go_at_call 44; refine (at_nil t i _).mono ?_; rintro e w1 ⟨rfl, rfl⟩)
  go_ret
  exact ⟨rfl, rfl⟩
theorem clear_nil (t : Int) (w : World) : Calls Try.prog 39 #[.pointer none, .int .i64 t] w fun e w' => e = .returned (.int .i64 3) ∧ w = w' := by
  go_enter Try.func39, Try.ntmps39
  go_wp2_with (go_at_call 43; refine (ready_nil t _).mono ?_; rintro e w1 ⟨rfl, rfl⟩)
  go_ret
  exact ⟨rfl, rfl⟩
theorem len_nil (t : Int) (w : World) : Calls Try.prog 36 #[.pointer none, .int .i64 t] w fun e w' => e = .returned (.int .i64 0) ∧ w = w' := by
  go_enter Try.func36, Try.ntmps36
  go_wp2_with (go_at_call 43; refine (ready_nil t _).mono ?_; rintro e w1 ⟨rfl, rfl⟩)
  go_ret
  exact ⟨rfl, rfl⟩
theorem all_nil (t : Int) (w : World) : Calls Try.prog 33 #[.pointer none, .int .i64 t] w fun e w' => e = .returned (.slice none 0 0) ∧ w = w' := by
  go_enter Try.func33, Try.ntmps33
  go_wp2_with (go_at_call 43; refine (ready_nil t _).mono ?_; rintro e w1 ⟨rfl, rfl⟩)
  go_ret
  exact ⟨rfl, rfl⟩
theorem send_zero (g : Nat) (t : Int) (s : ByteArray) (w : World) (h : w.cell? ⟨g, 2, none⟩ = some (.bool false)) : Calls Try.prog 27 #[.pointer (some ⟨g, 0, none⟩), .int .i64 t, .string s] w fun e w' => e = .returned (.int .i64 3) ∧ w = w' := by
  go_enter Try.func27, Try.ntmps27
  go_wp2_with (go_at_call 43; refine (ready_zero g t _ h).mono ?_; rintro e w1 ⟨rfl, rfl⟩)
  go_ret
  exact ⟨rfl, rfl⟩
theorem take_zero (g : Nat) (t i : Int) (w : World) (h : w.cell? ⟨g, 2, none⟩ = some (.bool false)) : Calls Try.prog 28 #[.pointer (some ⟨g, 0, none⟩), .int .i64 t, .int .i64 i] w fun e w' => e = .returned (.tuple #[.string ⟨#[]⟩, .int .i64 3]) ∧ w = w' := by
  go_enter Try.func28, Try.ntmps28
  go_wp2_with (go_at_call 44; refine (at_zero g t i _ h).mono ?_; rintro e w1 ⟨rfl, rfl⟩)
  go_ret2
  exact ⟨rfl, rfl⟩
theorem drop_zero (g : Nat) (t i : Int) (w : World) (h : w.cell? ⟨g, 2, none⟩ = some (.bool false)) : Calls Try.prog 30 #[.pointer (some ⟨g, 0, none⟩), .int .i64 t, .int .i64 i] w fun e w' => e = .returned (.int .i64 3) ∧ w = w' := by
  go_enter Try.func30, Try.ntmps30
  go_wp2_with (go_at_call 28; refine (take_zero g t i _ h).mono ?_; rintro e w1 ⟨rfl, rfl⟩)
  go_ret
  exact ⟨rfl, rfl⟩
theorem double_zero (g : Nat) (t i : Int) (w : World) (h : w.cell? ⟨g, 2, none⟩ = some (.bool false)) : Calls Try.prog 31 #[.pointer (some ⟨g, 0, none⟩), .int .i64 t, .int .i64 i] w fun e w' => e = .returned (.int .i64 3) ∧ w = w' := by
  go_enter Try.func31, Try.ntmps31
  go_wp2_with (go_at_call 44; refine (at_zero g t i _ h).mono ?_; rintro e w1 ⟨rfl, rfl⟩)
  go_ret
  exact ⟨rfl, rfl⟩
theorem swap_zero (g : Nat) (t i k : Int) (w : World) (h : w.cell? ⟨g, 2, none⟩ = some (.bool false)) : Calls Try.prog 32 #[.pointer (some ⟨g, 0, none⟩), .int .i64 t, .int .i64 i, .int .i64 k] w fun e w' => e = .returned (.int .i64 3) ∧ w = w' := by
  go_enter Try.func32, Try.ntmps32
  go_wp2_with (go_at_call 44; refine (at_zero g t i _ h).mono ?_; rintro e w1 ⟨rfl, rfl⟩)
  go_ret
  exact ⟨rfl, rfl⟩
theorem forge_zero (g : Nat) (t i : Int) (s : ByteArray) (w : World) (h : w.cell? ⟨g, 2, none⟩ = some (.bool false)) : Calls Try.prog 37 #[.pointer (some ⟨g, 0, none⟩), .int .i64 t, .int .i64 i, .string s] w fun e w' => e = .returned (.int .i64 3) ∧ w = w' := by
  go_enter Try.func37, Try.ntmps37
  go_wp2_with (go_at_call 44; refine (at_zero g t i _ h).mono ?_; rintro e w1 ⟨rfl, rfl⟩)
  go_ret
  exact ⟨rfl, rfl⟩
theorem turn_zero (g : Nat) (t i k : Int) (b : Int) (w : World) (h : w.cell? ⟨g, 2, none⟩ = some (.bool false)) : Calls Try.prog 38 #[.pointer (some ⟨g, 0, none⟩), .int .i64 t, .int .i64 i, .int .i64 k, .int .u8 b] w fun e w' => e = .returned (.int .i64 3) ∧ w = w' := by
  go_enter Try.func38, Try.ntmps38
  go_wp2_with (go_at_call 44; refine (at_zero g t i _ h).mono ?_; rintro e w1 ⟨rfl, rfl⟩)
  go_ret
  exact ⟨rfl, rfl⟩
theorem clear_zero (g : Nat) (t : Int) (w : World) (h : w.cell? ⟨g, 2, none⟩ = some (.bool false)) : Calls Try.prog 39 #[.pointer (some ⟨g, 0, none⟩), .int .i64 t] w fun e w' => e = .returned (.int .i64 3) ∧ w = w' := by
  go_enter Try.func39, Try.ntmps39
  go_wp2_with (go_at_call 43; refine (ready_zero g t _ h).mono ?_; rintro e w1 ⟨rfl, rfl⟩)
  go_ret
  exact ⟨rfl, rfl⟩
theorem len_zero (g : Nat) (t : Int) (w : World) (h : w.cell? ⟨g, 2, none⟩ = some (.bool false)) : Calls Try.prog 36 #[.pointer (some ⟨g, 0, none⟩), .int .i64 t] w fun e w' => e = .returned (.int .i64 0) ∧ w = w' := by
  go_enter Try.func36, Try.ntmps36
  go_wp2_with (go_at_call 43; refine (ready_zero g t _ h).mono ?_; rintro e w1 ⟨rfl, rfl⟩)
  go_ret
  exact ⟨rfl, rfl⟩
theorem all_zero (g : Nat) (t : Int) (w : World) (h : w.cell? ⟨g, 2, none⟩ = some (.bool false)) : Calls Try.prog 33 #[.pointer (some ⟨g, 0, none⟩), .int .i64 t] w fun e w' => e = .returned (.slice none 0 0) ∧ w = w' := by
  go_enter Try.func33, Try.ntmps33
  go_wp2_with (go_at_call 43; refine (ready_zero g t _ h).mono ?_; rintro e w1 ⟨rfl, rfl⟩)
  go_ret
  exact ⟨rfl, rfl⟩

def trefoillaw12_NetNobody.f (a0_0 a0_1 a0_2 a0_3 : Int) (a0_4 : ByteArray) (a0_5 : Int) : Option Bool := some true
set_option maxHeartbeats 4000000 in
set_option maxRecDepth 100000 in
theorem trefoillaw12_NetNobody.calls (a0_0 a0_1 a0_2 a0_3 : Int) (a0_4 : ByteArray) (a0_5 : Int) (r : Bool) (w : World) (h : trefoillaw12_NetNobody.f a0_0 a0_1 a0_2 a0_3 a0_4 a0_5 = some r) :
    Calls Try.prog 7 #[.agg #[.int .i64 a0_0, .int .i64 a0_1, .int .i64 a0_2, .int .i64 a0_3, .string a0_4, .int .u8 a0_5]] w fun e w' => e = .returned (.bool r) ∧ Below w.heap.size w w' := by
  obtain rfl := Option.some.inj h
  clear h
  go_enter Try.func7, Try.ntmps7
  go_wp2
  go_loop [11] (fun a => ∃ i : Nat, i ≤ 2 ∧ a = .int .i64 i) (fun a => 2 - (intOf a).toNat)
  case atStart => exact ⟨0, by omega, rfl⟩
  case round =>
    obtain ⟨i, hi, rfl⟩ := hrel
    by_cases h2 : i = 2
    · subst h2
      go_wp2_with (go_at_call 34; refine (awake12.calls _).mono ?_; rintro e w1 ⟨rfl, hb1⟩)
      go_ret
      exact ⟨rfl, below_step (below_alloc (below_alloc (below_alloc (Below.refl _ _) _) _) _) hb1⟩
    · have hi2 : i = 0 ∨ i = 1 := by omega
      rcases hi2 with rfl | rfl
      · go_wp2_with (first
          | (go_at_call 27; refine (send_nil _ _ _).mono ?_; rintro e w1 ⟨rfl, rfl⟩)
          | (go_at_call 28; refine (take_nil _ _ _).mono ?_; rintro e w1 ⟨rfl, rfl⟩)
          | (go_at_call 30; refine (drop_nil _ _ _).mono ?_; rintro e w1 ⟨rfl, rfl⟩)
          | (go_at_call 31; refine (double_nil _ _ _).mono ?_; rintro e w1 ⟨rfl, rfl⟩)
          | (go_at_call 32; refine (swap_nil _ _ _ _).mono ?_; rintro e w1 ⟨rfl, rfl⟩)
          | (go_at_call 37; refine (forge_nil _ _ _ _).mono ?_; rintro e w1 ⟨rfl, rfl⟩)
          | (go_at_call 38; refine (turn_nil _ _ _ _ _).mono ?_; rintro e w1 ⟨rfl, rfl⟩)
          | (go_at_call 39; refine (clear_nil _ _).mono ?_; rintro e w1 ⟨rfl, rfl⟩)
          | (go_at_call 36; refine (len_nil _ _).mono ?_; rintro e w1 ⟨rfl, rfl⟩)
          | (go_at_call 33; refine (all_nil _ _).mono ?_; rintro e w1 ⟨rfl, rfl⟩))
        go_round
        case rel => exact ⟨1, by omega, rfl⟩
        case measure => simp [intOf]
      · go_wp2_with (first
          | (go_at_call 27; refine (send_zero _ _ _ _ ?hc).mono ?_; (case hc => go_simp); rintro e w1 ⟨rfl, rfl⟩)
          | (go_at_call 28; refine (take_zero _ _ _ _ ?hc).mono ?_; (case hc => go_simp); rintro e w1 ⟨rfl, rfl⟩)
          | (go_at_call 30; refine (drop_zero _ _ _ _ ?hc).mono ?_; (case hc => go_simp); rintro e w1 ⟨rfl, rfl⟩)
          | (go_at_call 31; refine (double_zero _ _ _ _ ?hc).mono ?_; (case hc => go_simp); rintro e w1 ⟨rfl, rfl⟩)
          | (go_at_call 32; refine (swap_zero _ _ _ _ _ ?hc).mono ?_; (case hc => go_simp); rintro e w1 ⟨rfl, rfl⟩)
          | (go_at_call 37; refine (forge_zero _ _ _ _ _ ?hc).mono ?_; (case hc => go_simp); rintro e w1 ⟨rfl, rfl⟩)
          | (go_at_call 38; refine (turn_zero _ _ _ _ _ _ ?hc).mono ?_; (case hc => go_simp); rintro e w1 ⟨rfl, rfl⟩)
          | (go_at_call 39; refine (clear_zero _ _ _ ?hc).mono ?_; (case hc => go_simp); rintro e w1 ⟨rfl, rfl⟩)
          | (go_at_call 36; refine (len_zero _ _ _ ?hc).mono ?_; (case hc => go_simp); rintro e w1 ⟨rfl, rfl⟩)
          | (go_at_call 33; refine (all_zero _ _ _ ?hc).mono ?_; (case hc => go_simp); rintro e w1 ⟨rfl, rfl⟩))
        go_round
        case rel => exact ⟨2, by omega, rfl⟩
        case measure => simp [intOf]
end Go.Proofs.Ytedhckojeephaaa.P
