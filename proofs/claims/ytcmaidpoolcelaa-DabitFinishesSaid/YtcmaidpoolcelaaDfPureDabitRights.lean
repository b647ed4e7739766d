/- DabitRights, the plain part: whether two shares are of one bit, the program and the document say the same. -/
import Derived.Test.YtcmaidpoolcelaaDfK1
import Derived.Test.YtcmaidpoolcelaaDfLemFits
import Derived.Test.YtcmaidpoolcelaaDfLemRing
import Derived.Test.YtcmaidpoolcelaaDfOps
namespace Go.Proofs.Ytcmaidpoolcelaa.Pure
open Go.RowKit Go.Proofs.Ytcmaidpoolcelaa.P Go.Proofs.Ytcmaidpoolcelaa.Lem Go.Proofs.Ytcmaidpoolcelaa.Num Go.Proofs.Ytcmaidpoolcelaa.Ops Go.Proofs.YtcmaidpoolcelaaW.PrintWords Go.Proofs.YtcmaidpoolcelaaW.PrintMore
set_option linter.unusedVariables false
namespace DabitRightsL

theorem u64s_of {l : List Int} (h : l.length ≤ maxLen ∧ ∀ y ∈ l, (Lit.int .u64 y).wf = true) : U64s l := fun x hx => by
  have := bounds_u64 (h.2 x hx)
  omega

theorem xor_bit (x y : Nat) (hx : x < 2) (hy : y < 2) : Go.bits .xor .u64 (x : Int) (y : Int) = if x = y then 0 else 1 := by
  have h1 : x = 0 ∨ x = 1 := by omega
  have h2 : y = 0 ∨ y = 1 := by omega
  rcases h1 with rfl | rfl <;> rcases h2 with rfl | rfl <;> decide

theorem add_r' (k l a b : Nat) (hk : 100 ≤ k) (h1 : l ≤ 64) (ha : a < 18446744073709551616) (hb : b < 18446744073709551616) : trefoilref03_Add.f k (l : Int) (a : Int) (b : Int) = some (((a + b) % 2 ^ l : Nat) : Int) := by
  rw [add_r k hk l a b ha hb, min64 h1]

theorem awake_f (k : Nat) (hk : 4001 ≤ k) : trefoillaw25_awake.f k = some true := by
  unfold trefoillaw25_awake.f
  have u1 : U64s [1] := by intro x hx; simp at hx; omega
  have u3 : U64s [3] := by intro x hx; simp at hx; omega
  have u253 : U64s [253] := by intro x hx; simp at hx; omega
  have u0 : U64s [] := by intro x hx; simp at hx
  have e : dabit_Right.f k 4 8 0 0 0 [1] [3] [] [1] [253] [] = some true := by
    unfold dabit_Right.f
    rw [if_pos rfl, shareFits_f _ (by omega) _ _ _ _ _ _ _ _ u1 u3 u0 (by simp) (by simp) (by simp), Option.bind_some, if_pos (by decide),
      shareFits_f _ (by omega) _ _ _ _ _ _ _ _ u1 u253 u0 (by simp) (by simp) (by simp), Option.bind_some, if_pos (by decide)]
    have e1 := add_f 8 3 253 (by omega) (by omega)
    have e2 := xor_bit 1 1 (by omega) (by omega)
    rw [if_pos (by simp), if_pos (by simp)]
    refine Eq.trans (congrArg (fun z => Option.bind z _) e1) ?_
    rw [Option.bind_some, if_pos (by simp), if_pos (by simp)]
    decide
  rw [e]; rfl

end DabitRightsL
open DabitRightsL

end Go.Proofs.Ytcmaidpoolcelaa.Pure
