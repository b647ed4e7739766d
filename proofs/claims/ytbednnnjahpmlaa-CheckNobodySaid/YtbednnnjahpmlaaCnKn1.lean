/- A trial that is none: what every call answers. -/
import Derived.Test.YtbednnnjahpmlaaCnK0
import Derived.Test.YtbednnnjahpmlaaCnChg
import Derived.Lib.Hide
import Derived.IntWalk
import Derived.WalkSpells
import Derived.Outline
import Derived.BigQuiet
import Derived.Deep.RegionHeld3
import Derived.Deep.DrawnRows
import Derived.Deep.RegionLaw
import Derived.Deep.AppendLies
namespace Go.Proofs.Ytbednnnjahpmlaa.P
open Go.RowKit Go.Maps Go.Proofs.YtbednnnjahpmlaaW.PrintWords Go.Proofs.YtbednnnjahpmlaaW.PrintLast Go.Proofs.YtbednnnjahpmlaaW.PrintMore
set_option linter.unusedVariables false
set_option linter.unusedSimpArgs false
attribute [local go_sem ↓] Go.wp_at_zero Go.wp_at_succ
/-- a trial that was not made, at g -/
def NoTrial (w : World) (g : Nat) : Prop := w.heap[g]? = some (.cells #[.int .i64 0, .int .i64 0, .int .i64 0, .int .i64 0, .int .i64 0, .slice none 0 0, .slice none 0 0, .slice none 0 0, .slice none 0 0, .bool false, .bool false] 28 (0, 0))
theorem NoTrial.cells {w : World} {g : Nat} (h : NoTrial w g) : w.cell? ⟨g, 0, none⟩ = some (.int .i64 0) ∧ w.cell? ⟨g, 1, none⟩ = some (.int .i64 0) ∧ w.cell? ⟨g, 2, none⟩ = some (.int .i64 0) ∧ w.cell? ⟨g, 3, none⟩ = some (.int .i64 0) ∧ w.cell? ⟨g, 4, none⟩ = some (.int .i64 0) := by
  refine ⟨?_, ?_, ?_, ?_, ?_⟩ <;> (rw [blk_cell h]; rfl)
theorem NoTrial.below {w w' : World} {g n : Nat} (h : NoTrial w g) (hb : Below n w w') (hn : g < n) : NoTrial w' g := (hb.block g hn).trans h
theorem made_nil (w : World) : Calls Try.prog 10 #[.pointer none] w fun e w' => e = .returned (.bool false) ∧ w = w' := by
  go_enter Try.func10, Try.ntmps10
  go_wp2
  go_ret
  exact ⟨rfl, rfl⟩
theorem made_zero (g : Nat) (w : World) (h : NoTrial w g) : Calls Try.prog 10 #[.pointer (some ⟨g, 0, none⟩)] w fun e w' => e = .returned (.bool false) ∧ Below w.heap.size w w' := by
  obtain ⟨h0, h1, h2, h3, h4⟩ := h.cells
  have HC := Lib.hid (fun W => shape_Check.calls 10 0 0 0 0 0 15 W (by kernel_rfl))
  go_enter Try.func10, Try.ntmps10
  go_wp2_with (go_at_call 14; (with_reducible refine (HC.out _).mono ?_); rintro e w1 ⟨rfl, hb⟩)
  go_ret
  exact ⟨rfl, by first | exact hb | exact hb.below⟩
theorem tkept_nil  (w : World) : Calls Try.prog 4 #[.pointer none] w fun e w' => e = .returned (.tuple #[.slice none 0 0, .bool false]) ∧ w = w' := by
  go_enter Try.func4, Try.ntmps4
  go_wp2_with (go_at_call 10; refine (made_nil _).mono ?_; rintro e w1 ⟨rfl, rfl⟩)
  go_ret2
  exact ⟨rfl, rfl⟩
theorem tlook_nil (a0 a1 a2 a3 a4 : Int) (l : Value) (w : World) : Calls Try.prog 5 #[.pointer none, .agg #[.int .i64 a0, .int .i64 a1, .int .i64 a2, .int .i64 a3, .int .i64 a4], l] w fun e w' => e = .returned (.int .i64 3) ∧ Below w.heap.size w w' := by
  go_enter Try.func5, Try.ntmps5
  go_wp2_with (go_at_call 10; refine (made_nil _).mono ?_; rintro e w1 ⟨rfl, rfl⟩)
  go_ret
  exact ⟨rfl, by first | exact Below.refl _ _ | exact below_alloc (Below.refl _ _) _⟩
theorem tpicked_nil  (w : World) : Calls Try.prog 6 #[.pointer none] w fun e w' => e = .returned (.slice none 0 0) ∧ w = w' := by
  go_enter Try.func6, Try.ntmps6
  go_wp2_with (go_at_call 10; refine (made_nil _).mono ?_; rintro e w1 ⟨rfl, rfl⟩)
  go_ret
  exact ⟨rfl, rfl⟩
theorem topen_nil  (w : World) : Calls Try.prog 7 #[.pointer none] w fun e w' => e = .returned (.slice none 0 0) ∧ w = w' := by
  go_enter Try.func7, Try.ntmps7
  go_wp2_with (go_at_call 10; refine (made_nil _).mono ?_; rintro e w1 ⟨rfl, rfl⟩)
  go_ret
  exact ⟨rfl, rfl⟩
theorem tbad_nil  (w : World) : Calls Try.prog 8 #[.pointer none] w fun e w' => e = .returned (.slice none 0 0) ∧ w = w' := by
  go_enter Try.func8, Try.ntmps8
  go_wp2_with (go_at_call 10; refine (made_nil _).mono ?_; rintro e w1 ⟨rfl, rfl⟩)
  go_ret
  exact ⟨rfl, rfl⟩
theorem tkept_zero (g : Nat)  (w : World) (h : NoTrial w g) : Calls Try.prog 4 #[.pointer (some ⟨g, 0, none⟩)] w fun e w' => e = .returned (.tuple #[.slice none 0 0, .bool false]) ∧ Below w.heap.size w w' := by
  go_enter Try.func4, Try.ntmps4
  go_wp2_with (go_at_call 10; refine (made_zero g _ (by first | exact h | exact blk_alloc h _)).mono ?_; rintro e w1 ⟨rfl, hb⟩)
  go_ret2
  first | exact ⟨rfl, hb⟩ | exact ⟨rfl, below_step (below_alloc (Below.refl _ _) _) hb⟩
theorem tlook_zero (g : Nat) (a0 a1 a2 a3 a4 : Int) (l : Value) (w : World) (h : NoTrial w g) : Calls Try.prog 5 #[.pointer (some ⟨g, 0, none⟩), .agg #[.int .i64 a0, .int .i64 a1, .int .i64 a2, .int .i64 a3, .int .i64 a4], l] w fun e w' => e = .returned (.int .i64 3) ∧ Below w.heap.size w w' := by
  go_enter Try.func5, Try.ntmps5
  go_wp2_with (go_at_call 10; refine (made_zero g _ (by first | exact h | exact blk_alloc h _)).mono ?_; rintro e w1 ⟨rfl, hb⟩)
  go_ret
  first | exact ⟨rfl, hb⟩ | exact ⟨rfl, below_step (below_alloc (Below.refl _ _) _) hb⟩
theorem tpicked_zero (g : Nat)  (w : World) (h : NoTrial w g) : Calls Try.prog 6 #[.pointer (some ⟨g, 0, none⟩)] w fun e w' => e = .returned (.slice none 0 0) ∧ Below w.heap.size w w' := by
  go_enter Try.func6, Try.ntmps6
  go_wp2_with (go_at_call 10; refine (made_zero g _ (by first | exact h | exact blk_alloc h _)).mono ?_; rintro e w1 ⟨rfl, hb⟩)
  go_ret
  first | exact ⟨rfl, hb⟩ | exact ⟨rfl, below_step (below_alloc (Below.refl _ _) _) hb⟩
theorem topen_zero (g : Nat)  (w : World) (h : NoTrial w g) : Calls Try.prog 7 #[.pointer (some ⟨g, 0, none⟩)] w fun e w' => e = .returned (.slice none 0 0) ∧ Below w.heap.size w w' := by
  go_enter Try.func7, Try.ntmps7
  go_wp2_with (go_at_call 10; refine (made_zero g _ (by first | exact h | exact blk_alloc h _)).mono ?_; rintro e w1 ⟨rfl, hb⟩)
  go_ret
  first | exact ⟨rfl, hb⟩ | exact ⟨rfl, below_step (below_alloc (Below.refl _ _) _) hb⟩
theorem tbad_zero (g : Nat)  (w : World) (h : NoTrial w g) : Calls Try.prog 8 #[.pointer (some ⟨g, 0, none⟩)] w fun e w' => e = .returned (.slice none 0 0) ∧ Below w.heap.size w w' := by
  go_enter Try.func8, Try.ntmps8
  go_wp2_with (go_at_call 10; refine (made_zero g _ (by first | exact h | exact blk_alloc h _)).mono ?_; rintro e w1 ⟨rfl, hb⟩)
  go_ret
  first | exact ⟨rfl, hb⟩ | exact ⟨rfl, below_step (below_alloc (Below.refl _ _) _) hb⟩
end Go.Proofs.Ytbednnnjahpmlaa.P
