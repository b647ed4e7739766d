/- Gilboa's trick: what the program and the document choose and spread is the same. -/
import Derived.Test.YtcmaidpoolcelaaMfK3
import Derived.Test.YtcmaidpoolcelaaMfK7
import Derived.Test.YtcmaidpoolcelaaMfK9
import Derived.Test.YtcmaidpoolcelaaMfLemRing2
import Derived.Test.YtcmaidpoolcelaaMfLemSame
import Derived.Test.YtcmaidpoolcelaaMfNum
import Derived.Test.YtcmaidpoolcelaaMfLemFits
namespace Go.Proofs.Ytcmaidpoolcelaa.Lem
open Go.RowKit Go.Proofs.Ytcmaidpoolcelaa.P Go.Proofs.Ytcmaidpoolcelaa.Num Go.Proofs.YtcmaidpoolcelaaW.PrintWords Go.Proofs.YtcmaidpoolcelaaW.PrintMore
set_option linter.unusedVariables false

theorem good_f {l n : Int} (h0 : 1 ≤ l) (h1 : l ≤ 64) (h2 : 1 ≤ n) (h3 : n ≤ 6) : gilboa_good.f l n = some true := by
  unfold gilboa_good.f
  rw [if_pos (by omega), if_pos (by omega), if_pos (by omega), decide_eq_true h3]
theorem wrong21_f {l n : Int} (h0 : 1 ≤ l) (h1 : l ≤ 64) (h2 : 1 ≤ n) (h3 : n ≤ 6) : trefoilref21_Wrong.f l n = some false := by
  unfold trefoilref21_Wrong.f
  rw [if_neg (by omega), if_neg (by omega), if_neg (by omega), decide_eq_false (by omega)]

/-- the document's test -/
theorem fits19_loop (l : Nat) (hl : l ≤ 64) (xs : List Int) (hx : U64s xs) (hn : xs.length ≤ 10000) (d : Nat) : ∀ (k i : Nat), i + d = xs.length → d + 100 < k →
    trefoilref19_Fits.l0 k (l : Int) xs (i : Int) = some (lows l (xs.drop i)) := by
  induction d with
  | zero =>
    intro k i hi hk
    obtain ⟨k, rfl⟩ : ∃ q, k = q + 1 := ⟨k - 1, by omega⟩
    simp only [trefoilref19_Fits.l0]
    rw [if_neg (by omega), List.drop_eq_nil_of_le (by omega)]; rfl
  | succ d ih =>
    intro k i hi hk
    obtain ⟨k, rfl⟩ : ∃ q, k = q + 1 := ⟨k - 1, by omega⟩
    have hil : i < xs.length := by omega
    have e5 : wrap64 ((i : Int) + 1) = ((i + 1 : Nat) : Int) := by rw [w64 (by omega) (by omega)]; omega
    have nx := ih k (i + 1) (by omega) (by omega)
    obtain ⟨x, ex, hx1⟩ := nat_of64 (hx _ (rd_mem xs i hil)).1 (hx _ (rd_mem xs i hil)).2
    simp only [trefoilref19_Fits.l0]
    rw [if_pos (by omega), if_pos (by omega), lows_drop l xs i hil, ex, fit_r k (by omega) l x hl hx1, Option.bind_some, e5]
    by_cases hz : x < 2 ^ l
    · rw [Nat.mod_eq_of_lt hz, if_pos rfl, decide_eq_true (Int.ofNat_lt.2 hz), Bool.true_and]; exact nx
    · have hne : ¬ x % 2 ^ l = x := fun e => hz (by rw [← e]; exact Nat.mod_lt _ (pow_pos l))
      rw [if_neg (fun e => hne (Int.ofNat_inj.1 e)), decide_eq_false (fun c => hz (Int.ofNat_lt.1 c)), Bool.false_and]

theorem fits19_f (k l : Nat) (hl : l ≤ 64) (xs : List Int) (hx : U64s xs) (hn : xs.length ≤ 10000) (hk : 10200 ≤ k) : trefoilref19_Fits.f k (l : Int) xs = some (lows l xs) := by
  unfold trefoilref19_Fits.f
  have := fits19_loop l hl xs hx hn xs.length k 0 (by omega) (by omega)
  rwa [List.drop_zero] at this

end Go.Proofs.Ytcmaidpoolcelaa.Lem
