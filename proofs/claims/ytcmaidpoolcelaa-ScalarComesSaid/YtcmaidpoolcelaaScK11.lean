/- trefoillaw22.ScalarComes: its contract in the print's shape. -/
import Derived.Test.YtcmaidpoolcelaaScL2
import Derived.Test.YtcmaidpoolcelaaScPx0
import Derived.Test.YtcmaidpoolcelaaScSh
namespace Go.Proofs.Ytcmaidpoolcelaa.P
open Go.RowKit Go.Proofs.Ytcmaidpoolcelaa.Lem Go.Proofs.YtcmaidpoolcelaaW.PrintWords Go.Proofs.YtcmaidpoolcelaaW.PrintLast Go.Proofs.YtcmaidpoolcelaaW.PrintMore
set_option linter.unusedVariables false
/-! ### trefoillaw22_ScalarComes: function 11 -/
def scU (l : List Int) : Bool := l.all fun x => decide (0 ≤ x ∧ x < 18446744073709551616)
theorem scU_iff {l : List Int} : scU l = true ↔ U64s l := by
  unfold scU U64s
  rw [List.all_eq_true]
  exact ⟨fun h x hx => of_decide_eq_true (h x hx), fun h x hx => decide_eq_true (h x hx)⟩
def trefoillaw22_ScalarComes.f (a0_0 a0_1 a0_2 a0_3 a0_4 a1 : Int) (l2 l3 l4 : List Int) : Option Bool := if (0 ≤ a1 ∧ a1 < 256) ∧ scU l2 = true ∧ scU l3 = true ∧ scU l4 = true then some true else none
theorem trefoillaw22_ScalarComes.calls (a0_0 : Int) (a0_1 : Int) (a0_2 : Int) (a0_3 : Int) (a0_4 : Int) (a1 : Int) (A2 : Option Addr) (c2 : Nat) (l2 : List Int) (A3 : Option Addr) (c3 : Nat) (l3 : List Int) (A4 : Option Addr) (c4 : Nat) (l4 : List Int) (r : Bool) (w : World) (hr2 : Kd.C (Kd.int .u64) w A2 l2.length l2) (hc2 : l2.length ≤ c2) (hr3 : Kd.C (Kd.int .u64) w A3 l3.length l3) (hc3 : l3.length ≤ c3) (hr4 : Kd.C (Kd.int .u64) w A4 l4.length l4) (hc4 : l4.length ≤ c4) (h : trefoillaw22_ScalarComes.f a0_0 a0_1 a0_2 a0_3 a0_4 a1 l2 l3 l4 = some r) :
  Calls Try.prog 11 #[.agg #[.int .i64 a0_0, .int .i64 a0_1, .int .i64 a0_2, .int .i64 a0_3, .int .i64 a0_4], .int .u8 a1, .slice A2 l2.length c2, .slice A3 l3.length c3, .slice A4 l4.length c4] w fun e w' => e = .returned (.bool r) ∧ Below w.heap.size w w' := by
  unfold trefoillaw22_ScalarComes.f at h
  by_cases hg : (0 ≤ a1 ∧ a1 < 256) ∧ scU l2 = true ∧ scU l3 = true ∧ scU l4 = true
  · rw [if_pos hg] at h
    obtain rfl := Option.some.inj h
    exact scComes_ok a0_0 a0_1 a0_2 a0_3 a0_4 a1 hg.1 A2 c2 l2 A3 c3 l3 A4 c4 l4 w hr2 hc2 hr3 hc3 hr4 hc4 (scU_iff.1 hg.2.1) (scU_iff.1 hg.2.2.1) (scU_iff.1 hg.2.2.2)
  · rw [if_neg hg] at h
    cases h
end Go.Proofs.Ytcmaidpoolcelaa.P
