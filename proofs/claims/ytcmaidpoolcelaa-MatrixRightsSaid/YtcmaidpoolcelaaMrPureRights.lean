/- ScalarRights and MatrixRights, the plain part: whether two shares come to a triple, the program and the document say the same. -/
import Derived.Test.YtcmaidpoolcelaaMrK2
import Derived.Test.YtcmaidpoolcelaaMrK4
import Derived.Test.YtcmaidpoolcelaaMrK6
import Derived.Test.YtcmaidpoolcelaaMrLemRights
import Derived.Test.YtcmaidpoolcelaaMrPureDabitRights
namespace Go.Proofs.Ytcmaidpoolcelaa.Pure
open Go.RowKit Go.Proofs.Ytcmaidpoolcelaa.P Go.Proofs.Ytcmaidpoolcelaa.Lem Go.Proofs.Ytcmaidpoolcelaa.Num Go.Proofs.Ytcmaidpoolcelaa.Ops Go.Proofs.YtcmaidpoolcelaaW.PrintWords Go.Proofs.YtcmaidpoolcelaaW.PrintMore
set_option linter.unusedVariables false
namespace RightsL
open DabitRightsL

/-- a class that is no bit's: the sizes of all parts -/
theorem sizes_of {c0 c1 c2 c3 c4 : Int} {a b d : List Int} (h4 : ¬ c0 = 4) (h : fitsOf c0 c1 c2 c3 c4 a b d = true) :
    chk c0 c1 c2 c3 c4 = 0 ∧ (a.length : Int) = sz0 c0 c2 c3 ∧ (b.length : Int) = sz1 c0 c3 c4 ∧ (d.length : Int) = sz2 c0 c2 c4 := by
  unfold fitsOf at h
  rw [Bool.and_eq_true, Bool.and_eq_true, Bool.and_eq_true, decide_eq_true_eq] at h
  obtain ⟨hc, ha, hb, hd⟩ := h
  exact ⟨hc, fit_len ha, fit_len hb, fit_len hd⟩

theorem both23 (k : Nat) (hk : 20001 ≤ k) (c0 c1 c2 c3 c4 : Int) (a b d e f g : List Int) (ha : U64s a) (hb : U64s b) (hd : U64s d) (he : U64s e) (hf : U64s f) (hg : U64s g)
    (la : a.length ≤ 1000) (lb : b.length ≤ 1000) (ld : d.length ≤ 1000) (le : e.length ≤ 1000) (lf : f.length ≤ 1000) (lg : g.length ≤ 1000) :
    ∃ r, matrix_Right.f k c0 c1 c2 c3 c4 a b d e f g = some r ∧ trefoilref22_Right.f k c0 c1 c2 c3 c4 2 a b d e f g = some r := by
  obtain ⟨k, rfl⟩ : ∃ q, k = q + 1 := ⟨k - 1, by omega⟩
  have no_s : matrix_Right.j0 (k + 1) true c0 c1 c2 c3 c4 a b d e f g = some false := by simp only [matrix_Right.j0]; rw [if_pos trivial]
  have no_r : trefoilref22_Right.j0 (k + 1) true c0 c1 c2 c3 c4 a b d e f g = some false := by simp only [trefoilref22_Right.j0]; rw [if_pos trivial]
  unfold matrix_Right.f trefoilref22_Right.f
  by_cases h4 : c0 = 2
  · rw [if_pos h4, if_pos h4, shareFits_f _ (by omega) c0 c1 c2 c3 c4 a b d ha hb hd la lb ld, shareFits_r _ (by omega) c0 c1 c2 c3 c4 a b d ha hb hd la lb ld, Option.bind_some, Option.bind_some]
    by_cases h1 : fitsOf c0 c1 c2 c3 c4 a b d = true
    · rw [if_pos h1, if_pos h1, shareFits_f _ (by omega) c0 c1 c2 c3 c4 e f g he hf hg le lf lg, shareFits_r _ (by omega) c0 c1 c2 c3 c4 e f g he hf hg le lf lg, Option.bind_some, Option.bind_some]
      by_cases h2 : fitsOf c0 c1 c2 c3 c4 e f g = true
      · rw [h2]
        obtain ⟨hc, s1, s2, s3⟩ := sizes_of (by omega) h1
        obtain ⟨_, s4, s5, s6⟩ := sizes_of (by omega) h2
        obtain ⟨p1, p2, _, _⟩ := chk_bits hc
        obtain ⟨q1, q2, q3, q4, q5, q6⟩ := chk_sides hc h4
        obtain ⟨l, rfl⟩ := nat_of (show 0 ≤ c1 by omega)
        obtain ⟨m, rfl⟩ := nat_of (show 0 ≤ c2 by omega)
        obtain ⟨n, rfl⟩ := nat_of (show 0 ≤ c3 by omega)
        obtain ⟨r, rfl⟩ := nat_of (show 0 ≤ c4 by omega)
        have hs : trefoilref22_Sides.f c0 (l : Int) (m : Int) (n : Int) (r : Int) = some ((m : Int), (n : Int), (r : Int)) := by unfold trefoilref22_Sides.f; rw [if_pos h4]
        unfold sz0 at s1 s4
        unfold sz1 at s2 s5
        unfold sz2 at s3 s6
        rw [if_pos h4] at s1 s2 s3 s4 s5 s6
        rw [← Int.natCast_mul] at s1 s2 s3 s4 s5 s6
        have w1 := Int.ofNat.inj s1
        have w2 := Int.ofNat.inj s2
        have w3 := Int.ofNat.inj s3
        have w4 := Int.ofNat.inj s4
        have w5 := Int.ofNat.inj s5
        have w6 := Int.ofNat.inj s6
        refine ⟨_, right_m k l m n r (by omega) (by omega) (by omega) (by omega) (by omega) (by omega) (by omega) (by omega) (by omega) a b d e f g ha hb he hf w1 w2 w3 w4 w5 w6 c0, ?_⟩
        exact right_r k l m n r (by omega) (by omega) (by omega) (by omega) (by omega) (by omega) (by omega) (by omega) (by omega) a b d e f g ha hb hd he hf hg w1 w2 w3 w4 w5 w6 c0 (m : Int) (n : Int) (r : Int) hs
      · have h2 : fitsOf c0 c1 c2 c3 c4 e f g = false := by simpa using h2
        rw [h2]
        exact ⟨false, no_s, no_r⟩
    · rw [if_neg h1, if_neg h1]
      exact ⟨false, no_s, no_r⟩
  · rw [if_neg h4, if_neg h4]
    exact ⟨false, no_s, no_r⟩
end RightsL
end Go.Proofs.Ytcmaidpoolcelaa.Pure
