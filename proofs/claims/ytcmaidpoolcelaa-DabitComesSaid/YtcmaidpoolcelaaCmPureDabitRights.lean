/- DabitRights, the plain part: whether two shares are of one bit, the program and the document say the same. -/
import Derived.Test.YtcmaidpoolcelaaCmK1
import Derived.Test.YtcmaidpoolcelaaCmK4
import Derived.Test.YtcmaidpoolcelaaCmLemFits
import Derived.Test.YtcmaidpoolcelaaCmLemRing
import Derived.Test.YtcmaidpoolcelaaCmOps
namespace Go.Proofs.Ytcmaidpoolcelaa.Pure
open Go.RowKit Go.Proofs.Ytcmaidpoolcelaa.P Go.Proofs.Ytcmaidpoolcelaa.Lem Go.Proofs.Ytcmaidpoolcelaa.Num Go.Proofs.Ytcmaidpoolcelaa.Ops Go.Proofs.YtcmaidpoolcelaaW.PrintWords Go.Proofs.YtcmaidpoolcelaaW.PrintMore
set_option linter.unusedVariables false
namespace DabitRightsL

theorem u64s_of {l : List Int} (h : l.length ≤ maxLen ∧ ∀ y ∈ l, (Lit.int .u64 y).wf = true) : U64s l := fun x hx => by
  have := bounds_u64 (h.2 x hx)
  omega

theorem fit_len {n w : Int} {l : List Int} (h : fit n w l = true) : (l.length : Int) = n := by
  unfold fit at h
  rw [Bool.and_eq_true, decide_eq_true_eq] at h
  exact h.1
theorem fit_low {n w : Int} {l : List Int} (h : fit n w l = true) : lows w.toNat l = true := by
  unfold fit at h
  rw [Bool.and_eq_true] at h
  exact h.2

/-- a class of such bits: one number of each of the first two parts -/
theorem parts_of {c0 c1 c2 c3 c4 : Int} {a b d : List Int} (h4 : c0 = 4) (h : fitsOf c0 c1 c2 c3 c4 a b d = true) :
    1 ≤ c1 ∧ c1 ≤ 64 ∧ (∃ x, a = [x] ∧ x < 2) ∧ (∃ y, b = [y]) := by
  unfold fitsOf at h
  rw [Bool.and_eq_true, Bool.and_eq_true, Bool.and_eq_true, decide_eq_true_eq] at h
  obtain ⟨hc, ha, hb, hd⟩ := h
  obtain ⟨h1, h2, _, _⟩ := chk_bits hc
  have la := fit_len ha
  have lb := fit_len hb
  have lo := fit_low ha
  unfold sz0 at la
  unfold sz1 at lb
  unfold wd0 at lo
  rw [if_neg (by omega)] at la lb
  rw [if_pos h4] at lo
  refine ⟨h1, h2, ?_, ?_⟩
  · match a, la with
    | [x], _ =>
      refine ⟨x, rfl, ?_⟩
      simp [lows] at lo
      exact lo
  · match b, lb with
    | [y], _ => exact ⟨y, rfl⟩

theorem xor_bit (x y : Nat) (hx : x < 2) (hy : y < 2) : Go.bits .xor .u64 (x : Int) (y : Int) = if x = y then 0 else 1 := by
  have h1 : x = 0 ∨ x = 1 := by omega
  have h2 : y = 0 ∨ y = 1 := by omega
  rcases h1 with rfl | rfl <;> rcases h2 with rfl | rfl <;> decide

theorem add_r' (k l a b : Nat) (hk : 100 ≤ k) (h1 : l ≤ 64) (ha : a < 18446744073709551616) (hb : b < 18446744073709551616) : trefoilref03_Add.f k (l : Int) (a : Int) (b : Int) = some (((a + b) % 2 ^ l : Nat) : Int) := by
  rw [add_r k hk l a b ha hb, min64 h1]

/-- both say the same -/
theorem both (k : Nat) (hk : 4001 ≤ k) (c0 c1 c2 c3 c4 : Int) (a b d e f g : List Int) (ha : U64s a) (hb : U64s b) (hd : U64s d) (he : U64s e) (hf : U64s f) (hg : U64s g)
    (la : a.length ≤ 1000) (lb : b.length ≤ 1000) (ld : d.length ≤ 1000) (le : e.length ≤ 1000) (lf : f.length ≤ 1000) (lg : g.length ≤ 1000) :
    ∃ r, dabit_Right.f k c0 c1 c2 c3 c4 a b d e f g = some r ∧ trefoilref25_Right.f k c0 c1 c2 c3 c4 a b d e f g = some r := by
  obtain ⟨k, rfl⟩ : ∃ q, k = q + 1 := ⟨k - 1, by omega⟩
  unfold dabit_Right.f trefoilref25_Right.f
  by_cases h4 : c0 = 4
  · rw [if_pos h4, if_pos h4, shareFits_f _ (by omega) c0 c1 c2 c3 c4 a b d ha hb hd la lb ld, shareFits_r _ (by omega) c0 c1 c2 c3 c4 a b d ha hb hd la lb ld, Option.bind_some, Option.bind_some]
    by_cases h1 : fitsOf c0 c1 c2 c3 c4 a b d = true
    · rw [if_pos h1, if_pos h1, shareFits_f _ (by omega) c0 c1 c2 c3 c4 e f g he hf hg le lf lg, shareFits_r _ (by omega) c0 c1 c2 c3 c4 e f g he hf hg le lf lg, Option.bind_some, Option.bind_some]
      by_cases h2 : fitsOf c0 c1 c2 c3 c4 e f g = true
      · rw [if_pos h2, h2]
        obtain ⟨p1, p2, ⟨x, rfl, hx⟩, ⟨y, rfl⟩⟩ := parts_of h4 h1
        obtain ⟨_, _, ⟨u, rfl, hu⟩, ⟨v, rfl⟩⟩ := parts_of h4 h2
        obtain ⟨l, rfl⟩ := nat_of (show 0 ≤ c1 by omega)
        obtain ⟨x, rfl⟩ := nat_of (ha x (by simp)).1
        obtain ⟨u, rfl⟩ := nat_of (he u (by simp)).1
        obtain ⟨y, rfl, hy⟩ := nat_of64 (hb y (by simp)).1 (hb y (by simp)).2
        obtain ⟨v, rfl, hv⟩ := nat_of64 (hf v (by simp)).1 (hf v (by simp)).2
        have e1 := add_f l y v (by omega) (by omega)
        have e2 := add_r' k l y v (by omega) (by omega) hy hv
        have e3 := xor_bit x u (by omega) (by omega)
        simp only [trefoilref25_Right.j0, rd, Int.toNat_zero, List.getD_cons_zero, List.length_cons, List.length_nil, e1, e2, e3, Option.bind_some]
        refine ⟨_, rfl, ?_⟩
        by_cases hxu : x = u
        · subst hxu; simp
        · have : ¬ ((x : Int) = (u : Int)) := by omega
          simp [this, hxu]
      · rw [if_neg h2]
        refine ⟨false, rfl, ?_⟩
        simp only [trefoilref25_Right.j0]
        rw [if_pos (by simpa using h2)]
    · rw [if_neg h1, if_neg h1]
      refine ⟨false, rfl, ?_⟩
      simp only [trefoilref25_Right.j0]
      rw [if_pos trivial]
  · rw [if_neg h4, if_neg h4]
    refine ⟨false, rfl, ?_⟩
    simp only [trefoilref25_Right.j0]
    rw [if_pos trivial]

theorem awake_f (k : Nat) (hk : 4001 ≤ k) : trefoillaw25_awake.f k = some true := by
  unfold trefoillaw25_awake.f
  have u1 : U64s [1] := by intro x hx; simp at hx; omega
  have u3 : U64s [3] := by intro x hx; simp at hx; omega
  have u253 : U64s [253] := by intro x hx; simp at hx; omega
  have u0 : U64s [] := by intro x hx; simp at hx
  have e : dabit_Right.f k 4 8 0 0 0 [1] [3] [] [1] [253] [] = some true := by
    unfold dabit_Right.f
    rw [if_pos rfl, shareFits_f _ (by omega) _ _ _ _ _ _ _ _ u1 u3 u0 (by simp) (by simp) (by simp), Option.bind_some, if_pos (by decide),
      shareFits_f _ (by omega) _ _ _ _ _ _ _ _ u1 u253 u0 (by simp) (by simp) (by simp), Option.bind_some, if_pos (by decide)]
    have e1 := add_f 8 3 253 (by omega) (by omega)
    have e2 := xor_bit 1 1 (by omega) (by omega)
    rw [if_pos (by simp), if_pos (by simp)]
    refine Eq.trans (congrArg (fun z => Option.bind z _) e1) ?_
    rw [Option.bind_some, if_pos (by simp), if_pos (by simp)]
    decide
  rw [e]; rfl

end DabitRightsL
open DabitRightsL

end Go.Proofs.Ytcmaidpoolcelaa.Pure
