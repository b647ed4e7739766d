/- MatrixFinishes, the plain part: the shares of products of matrices are the document's. -/
import Derived.Test.YtcmaidpoolcelaaMfK12
import Derived.Test.YtcmaidpoolcelaaMfLemFin3
import Derived.Test.YtcmaidpoolcelaaMfLemSame
import Derived.Test.YtcmaidpoolcelaaMfPureMatrixSides
namespace Go.Proofs.Ytcmaidpoolcelaa.Pure
open Go.RowKit Go.Proofs.Ytcmaidpoolcelaa.P Go.Proofs.Ytcmaidpoolcelaa.Lem Go.Proofs.Ytcmaidpoolcelaa.Num Go.Proofs.Ytcmaidpoolcelaa.Ops Go.Proofs.YtcmaidpoolcelaaW.PrintWords Go.Proofs.YtcmaidpoolcelaaW.PrintMore
set_option linter.unusedVariables false
open DabitRightsL MatrixSidesL

/-- The plain statement of MatrixFinishes. -/
theorem MatrixFinishes (x0 : S23) (x1 : List (S26)) (x2 : List (Int)) (x3 : List (Int)) (w0 : wf23 x0) (w1 : x1.length ≤ maxLen ∧ ∀ y ∈ x1, wf26 y) (w2 : x2.length ≤ maxLen ∧ ∀ y ∈ x2, (Lit.int .u64 y).wf = true) (w3 : x3.length ≤ maxLen ∧ ∀ y ∈ x3, (Lit.int .u64 y).wf = true) :
    ∃ k, trefoillaw23_MatrixFinishes.f k x0.f0 x0.f1 x0.f2 x0.f3 x0.f4 x1 x2 x3 = some true := by
  refine ⟨1000004, ?_⟩
  obtain ⟨k, hk⟩ : ∃ k, k = 1000003 := ⟨_, rfl⟩
  rw [show 1000004 = k + 1 by omega]
  have awk : ∀ c0 c1 c2 c3 c4, trefoillaw23_MatrixFinishes.j0 (k + 1) x1 x2 x3 true c0 c1 c2 c3 c4 = some true := by
    intro c0 c1 c2 c3 c4
    simp only [trefoillaw23_MatrixFinishes.j0]
    rw [if_pos trivial, awake23 k (by omega)]
    rfl
  obtain ⟨b, eb, hb⟩ := small_f (k + 1) (by omega) x1
  unfold trefoillaw23_MatrixFinishes.f
  rw [eb, Option.bind_some]
  by_cases hbt : b = true
  · rw [if_pos hbt]
    by_cases h2 : (x2.length : Int) > 3000
    · rw [if_pos h2]; exact awk _ _ _ _ _
    rw [if_neg h2]
    by_cases h3 : (x3.length : Int) > 3000
    · rw [decide_eq_true h3]; exact awk _ _ _ _ _
    rw [decide_eq_false h3]
    obtain ⟨hn, hs⟩ := hb hbt
    have hx : Few x1 := ⟨hn, fun s h => ⟨u64s_of (w1.2 s h).1, u64s_of (w1.2 s h).2.1, u64s_of (w1.2 s h).2.2, (hs s h).1, (hs s h).2.1, (hs s h).2.2⟩⟩
    generalize x0.f0 = c0
    generalize x0.f1 = c1
    generalize x0.f2 = c2
    generalize x0.f3 = c3
    generalize x0.f4 = c4
    obtain ⟨s1, s2⟩ := finR_short (mwrong c0 c1 c2 c3 c4 x1) c1.toNat c2.toNat c3.toNat c4.toNat x1 hx (fun hW => by
      obtain ⟨hck, ho⟩ := wrong_all hW
      obtain ⟨hcz, h1⟩ := mchk_zero hck
      obtain ⟨d1, d2, d3, d4, d5, d6⟩ := chk_sides hcz h1
      omega) x2 x3
    simp only [trefoillaw23_MatrixFinishes.j0]
    rw [if_neg (by simp), mfin_f k (by omega) c0 c1 c2 c3 c4 x1 hx x2 x3 (u64s_of w2) (u64s_of w3) (by omega) (by omega), Option.bind_some,
      mfin_r k (by omega) c0 c1 c2 c3 c4 x1 hx x2 x3 (u64s_of w2) (u64s_of w3) (by omega) (by omega), Option.bind_some]
    rw [shares_f _ k s1 s2 (by omega), Option.bind_some, if_pos rfl, if_pos rfl, awake23 k (by omega)]
    rfl
  · rw [if_neg hbt]; exact awk _ _ _ _ _
end Go.Proofs.Ytcmaidpoolcelaa.Pure
