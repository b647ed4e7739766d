/- trefoillaw23.MatrixComes: its contract in the print's shape. -/
import Derived.Test.YtcmaidpoolcelaaMcL2
import Derived.Test.YtcmaidpoolcelaaMcPx0
import Derived.Test.YtcmaidpoolcelaaMcSh
namespace Go.Proofs.Ytcmaidpoolcelaa.P
open Go.RowKit Go.Proofs.Ytcmaidpoolcelaa.Lem Go.Proofs.YtcmaidpoolcelaaW.PrintWords Go.Proofs.YtcmaidpoolcelaaW.PrintLast Go.Proofs.YtcmaidpoolcelaaW.PrintMore
set_option linter.unusedVariables false
/-! ### trefoillaw23_MatrixComes: function 13 -/
def mcU (l : List Int) : Bool := l.all fun x => decide (0 ≤ x ∧ x < 18446744073709551616)
theorem mcU_iff {l : List Int} : mcU l = true ↔ U64s l := by
  unfold mcU U64s
  rw [List.all_eq_true]
  exact ⟨fun h x hx => of_decide_eq_true (h x hx), fun h x hx => decide_eq_true (h x hx)⟩
def trefoillaw23_MatrixComes.f (a0_0 a0_1 a0_2 a0_3 a0_4 a1 : Int) (l2 l3 l4 : List Int) : Option Bool := if (0 ≤ a1 ∧ a1 < 256) ∧ mcU l2 = true ∧ mcU l3 = true ∧ mcU l4 = true then some true else none
theorem trefoillaw23_MatrixComes.calls (a0_0 : Int) (a0_1 : Int) (a0_2 : Int) (a0_3 : Int) (a0_4 : Int) (a1 : Int) (A2 : Option Addr) (c2 : Nat) (l2 : List Int) (A3 : Option Addr) (c3 : Nat) (l3 : List Int) (A4 : Option Addr) (c4 : Nat) (l4 : List Int) (r : Bool) (w : World) (hr2 : Kd.C (Kd.int .u64) w A2 l2.length l2) (hc2 : l2.length ≤ c2) (hr3 : Kd.C (Kd.int .u64) w A3 l3.length l3) (hc3 : l3.length ≤ c3) (hr4 : Kd.C (Kd.int .u64) w A4 l4.length l4) (hc4 : l4.length ≤ c4) (h : trefoillaw23_MatrixComes.f a0_0 a0_1 a0_2 a0_3 a0_4 a1 l2 l3 l4 = some r) :
  Calls Try.prog 13 #[.agg #[.int .i64 a0_0, .int .i64 a0_1, .int .i64 a0_2, .int .i64 a0_3, .int .i64 a0_4], .int .u8 a1, .slice A2 l2.length c2, .slice A3 l3.length c3, .slice A4 l4.length c4] w fun e w' => e = .returned (.bool r) ∧ Below w.heap.size w w' := by
  unfold trefoillaw23_MatrixComes.f at h
  by_cases hg : (0 ≤ a1 ∧ a1 < 256) ∧ mcU l2 = true ∧ mcU l3 = true ∧ mcU l4 = true
  · rw [if_pos hg] at h
    obtain rfl := Option.some.inj h
    exact mcComes_ok a0_0 a0_1 a0_2 a0_3 a0_4 a1 hg.1 A2 c2 l2 A3 c3 l3 A4 c4 l4 w hr2 hc2 hr3 hc3 hr4 hc4 (mcU_iff.1 hg.2.1) (mcU_iff.1 hg.2.2.1) (mcU_iff.1 hg.2.2.2)
  · rw [if_neg hg] at h
    cases h
end Go.Proofs.Ytcmaidpoolcelaa.P
