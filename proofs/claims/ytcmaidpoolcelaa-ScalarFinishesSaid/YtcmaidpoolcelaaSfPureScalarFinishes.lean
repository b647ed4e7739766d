/- ScalarFinishes, the plain part: the shares of single products are the document's. -/
import Derived.Test.YtcmaidpoolcelaaSfK12
import Derived.Test.YtcmaidpoolcelaaSfLemFin2
import Derived.Test.YtcmaidpoolcelaaSfLemSame
import Derived.Test.YtcmaidpoolcelaaSfPureScalarSides
namespace Go.Proofs.Ytcmaidpoolcelaa.Pure
open Go.RowKit Go.Proofs.Ytcmaidpoolcelaa.P Go.Proofs.Ytcmaidpoolcelaa.Lem Go.Proofs.Ytcmaidpoolcelaa.Num Go.Proofs.Ytcmaidpoolcelaa.Ops Go.Proofs.YtcmaidpoolcelaaW.PrintWords Go.Proofs.YtcmaidpoolcelaaW.PrintMore
set_option linter.unusedVariables false
open DabitRightsL ScalarSidesL

/-- The plain statement of ScalarFinishes. -/
theorem ScalarFinishes (x0 : S23) (x1 : List (S26)) (x2 : List (Int)) (x3 : List (Int)) (w0 : wf23 x0) (w1 : x1.length ≤ maxLen ∧ ∀ y ∈ x1, wf26 y) (w2 : x2.length ≤ maxLen ∧ ∀ y ∈ x2, (Lit.int .u64 y).wf = true) (w3 : x3.length ≤ maxLen ∧ ∀ y ∈ x3, (Lit.int .u64 y).wf = true) :
    ∃ k, trefoillaw22_ScalarFinishes.f k x0.f0 x0.f1 x0.f2 x0.f3 x0.f4 x1 x2 x3 = some true := by
  refine ⟨1000004, ?_⟩
  obtain ⟨k, hk⟩ : ∃ k, k = 1000003 := ⟨_, rfl⟩
  rw [show 1000004 = k + 1 by omega]
  have awk : ∀ c0 c1 c2 c3 c4, trefoillaw22_ScalarFinishes.j0 (k + 1) x1 x2 x3 true c0 c1 c2 c3 c4 = some true := by
    intro c0 c1 c2 c3 c4
    simp only [trefoillaw22_ScalarFinishes.j0]
    rw [if_pos trivial, awake22 k (by omega)]
    rfl
  obtain ⟨b, eb, hb⟩ := small_f (k + 1) (by omega) x1
  unfold trefoillaw22_ScalarFinishes.f
  rw [eb, Option.bind_some]
  by_cases hbt : b = true
  · rw [if_pos hbt]
    by_cases h2 : (x2.length : Int) > 3000
    · rw [if_pos h2]; exact awk _ _ _ _ _
    rw [if_neg h2]
    by_cases h3 : (x3.length : Int) > 3000
    · rw [decide_eq_true h3]; exact awk _ _ _ _ _
    rw [decide_eq_false h3]
    obtain ⟨hn, hs⟩ := hb hbt
    have hx : Few x1 := ⟨hn, fun s h => ⟨u64s_of (w1.2 s h).1, u64s_of (w1.2 s h).2.1, u64s_of (w1.2 s h).2.2, (hs s h).1, (hs s h).2.1, (hs s h).2.2⟩⟩
    generalize x0.f0 = c0
    generalize x0.f1 = c1
    generalize x0.f2 = c2
    generalize x0.f3 = c3
    generalize x0.f4 = c4
    obtain ⟨s1, s2⟩ := finR_short (swrong c0 c1 c2 c3 c4 x1) c1.toNat 1 1 1 x1 hx (fun _ => ⟨by omega, by omega⟩) x2 x3
    simp only [trefoillaw22_ScalarFinishes.j0]
    rw [if_neg (by simp), sfin_f k (by omega) c0 c1 c2 c3 c4 x1 hx x2 x3 (u64s_of w2) (u64s_of w3) (by omega) (by omega), Option.bind_some,
      sfin_r k (by omega) c0 c1 c2 c3 c4 x1 hx x2 x3 (u64s_of w2) (u64s_of w3) (by omega) (by omega), Option.bind_some]
    rw [shares_f _ k s1 s2 (by omega), Option.bind_some, if_pos rfl, if_pos rfl, awake22 k (by omega)]
    rfl
  · rw [if_neg hbt]; exact awk _ _ _ _ _
end Go.Proofs.Ytcmaidpoolcelaa.Pure
