/- MatrixSides, the plain part: the bits chosen and the numbers spread for products of matrices are the document's. -/
import Derived.Test.YtcmaidpoolcelaaMfK3
import Derived.Test.YtcmaidpoolcelaaMfK5
import Derived.Test.YtcmaidpoolcelaaMfPx0
import Derived.Test.YtcmaidpoolcelaaMfLemSides2
import Derived.Test.YtcmaidpoolcelaaMfPureDabitRights
namespace Go.Proofs.Ytcmaidpoolcelaa.Pure
open Go.RowKit Go.Proofs.Ytcmaidpoolcelaa.P Go.Proofs.Ytcmaidpoolcelaa.Lem Go.Proofs.Ytcmaidpoolcelaa.Num Go.Proofs.Ytcmaidpoolcelaa.Ops Go.Proofs.YtcmaidpoolcelaaW.PrintWords Go.Proofs.YtcmaidpoolcelaaW.PrintMore
set_option linter.unusedVariables false
namespace MatrixSidesL
open DabitRightsL

theorem awake23 (k : Nat) (hk : 200 ≤ k) : trefoillaw23_awake.f k = some true := by
  obtain ⟨d, rfl⟩ : ∃ d, k = 200 + d := ⟨k - 200, by omega⟩
  clear hk
  induction d with
  | zero => kernel_rfl
  | succ d ih => exact trefoillaw23_awake.mono (200 + d) true ih

def Sized (s : S26) : Prop := s.f0.length ≤ 60 ∧ s.f1.length ≤ 60 ∧ s.f2.length ≤ 60
theorem small_loop (xs : List S26) (d : Nat) : ∀ (k i : Nat), i + d = 31 → 2 * d + 2 < k → (∀ j (h : j < xs.length), j < i → Sized xs[j]) →
    ∃ b, trefoillaw23_small.l0 k xs (i : Int) = some b ∧ (b = true → xs.length ≤ 30 ∧ ∀ j (h : j < xs.length), Sized xs[j]) := by
  induction d with
  | zero =>
    intro k i hi hk hb
    obtain ⟨k, rfl⟩ : ∃ q, k = q + 1 + 1 := ⟨k - 2, by omega⟩
    refine ⟨decide ((xs.length : Int) ≤ 30), ?_, fun h => ?_⟩
    · have hi31 : ¬ (i : Int) ≤ 30 := by omega
      by_cases h : (i : Int) < (xs.length : Int)
      · simp [trefoillaw23_small.l0, trefoillaw23_small.j1, h, hi31]
      · simp [trefoillaw23_small.l0, trefoillaw23_small.j1, h]
    · have h := of_decide_eq_true h
      exact ⟨by omega, fun j hj => hb j hj (by omega)⟩
  | succ d ih =>
    intro k i hi hk hb
    obtain ⟨k, rfl⟩ : ∃ q, k = q + 1 + 1 := ⟨k - 2, by omega⟩
    obtain ⟨K, hK⟩ : ∃ K, K = k + 1 := ⟨_, rfl⟩
    rw [← hK]
    simp only [trefoillaw23_small.l0]
    rw [hK]
    by_cases h : (i : Int) < (xs.length : Int)
    · have hil : i < xs.length := by omega
      have hi30 : (i : Int) ≤ 30 := by omega
      have t2 : (0 : Int) ≤ (i : Int) := by omega
      have e5 := w_succ i (by omega)
      rw [if_pos h, decide_eq_true hi30]
      simp only [trefoillaw23_small.j1]
      rw [if_pos trivial, if_pos t2, if_pos h, sh_at xs i hil]
      by_cases h0 : ((xs[i].f0.length : Nat) : Int) > 60
      · rw [if_pos h0]; exact ⟨false, rfl, fun e => by simp at e⟩
      rw [if_neg h0]
      by_cases h1 : ((xs[i].f1.length : Nat) : Int) > 60
      · rw [if_pos h1]; exact ⟨false, rfl, fun e => by simp at e⟩
      rw [if_neg h1]
      by_cases h2 : ((xs[i].f2.length : Nat) : Int) > 60
      · rw [if_pos h2]; exact ⟨false, rfl, fun e => by simp at e⟩
      rw [if_neg h2, e5]
      refine ih k (i + 1) (by omega) (by omega) (fun j hj hlt => ?_)
      by_cases hji : j = i
      · subst hji; exact ⟨by omega, by omega, by omega⟩
      · exact hb j hj (by omega)
    · refine ⟨decide ((xs.length : Int) ≤ 30), ?_, fun hd => ?_⟩
      · rw [if_neg h]
        simp [trefoillaw23_small.j1]
      · have hd := of_decide_eq_true hd
        exact ⟨by omega, fun j hj => hb j hj (by omega)⟩
theorem small_f (k : Nat) (hk : 100 ≤ k) (xs : List S26) : ∃ b, trefoillaw23_small.f k xs = some b ∧ (b = true → xs.length ≤ 30 ∧ ∀ s ∈ xs, Sized s) := by
  unfold trefoillaw23_small.f
  obtain ⟨b, e, h⟩ := small_loop xs 31 k 0 (by omega) (by omega) (fun j h h0 => by omega)
  refine ⟨b, e, fun hb => ⟨(h hb).1, fun s hs => ?_⟩⟩
  obtain ⟨j, hj, rfl⟩ := List.getElem_of_mem hs
  exact (h hb).2 j hj

end MatrixSidesL
open MatrixSidesL DabitRightsL

end Go.Proofs.Ytcmaidpoolcelaa.Pure
