/- Numbers of so many bits: the program's sums and the document's, bit by bit, come to the same. -/
import Derived.Test.YtcmaidpoolcelaaCmK1
import Derived.Test.YtcmaidpoolcelaaCmNum
namespace Go.Proofs.Ytcmaidpoolcelaa.Lem
open Go.RowKit Go.Proofs.Ytcmaidpoolcelaa.P Go.Proofs.Ytcmaidpoolcelaa.Num Go.Proofs.YtcmaidpoolcelaaW.PrintWords Go.Proofs.YtcmaidpoolcelaaW.PrintMore
set_option linter.unusedVariables false

theorem mask_f (l : Nat) (h0 : 1 ≤ l) (h1 : l ≤ 64) : ring_mask.f (l : Int) = some ((2 ^ l - 1 : Nat) : Int) := by
  unfold ring_mask.f ring_Mask.f
  have e : 0 ≤ IntKind.u64.wrap (wrap64 (64 - (l : Int))) := by rw [w64 (by omega) (by omega), wu64 (by omega) (by omega)]; omega
  rw [if_neg (by omega), if_neg (by omega), if_pos e, mask_nat l h0 h1]; rfl

theorem add_f (l a b : Nat) (h0 : 1 ≤ l) (h1 : l ≤ 64) : ring_Add.f (l : Int) (a : Int) (b : Int) = some (((a + b) % 2 ^ l : Nat) : Int) := by
  unfold ring_Add.f
  rw [mask_f l h0 h1, Option.bind_some]
  have e : (a : Int) + (b : Int) = ((a + b : Nat) : Int) := by omega
  rw [e, wu64_nat, and_mask_nat _ l (Nat.mod_lt _ (by decide)) h1]
  have hd : 2 ^ l ∣ 18446744073709551616 := ⟨2 ^ (64 - l), by rw [← Nat.pow_add, show l + (64 - l) = 64 by omega]⟩
  rw [Nat.mod_mod_of_dvd _ hd]

theorem add_loop (l : Int) (a b : Nat) (ha : a < 18446744073709551616) (hb : b < 18446744073709551616) (d : Nat) : ∀ (k i : Nat), i + d = min 64 l.toNat → d < k →
    trefoilref03_Add.l0 k l a b (((a + b) % 2 ^ i : Nat) : Int) (((a % 2 ^ i + b % 2 ^ i) / 2 ^ i : Nat) : Int) i = some (((a + b) % 2 ^ (min 64 l.toNat) : Nat) : Int) := by
  induction d with
  | zero =>
    intro k i hi hk
    obtain ⟨k, rfl⟩ : ∃ q, k = q + 1 := ⟨k - 1, by omega⟩
    simp only [trefoilref03_Add.l0]
    rw [← hi, Nat.add_zero]
    by_cases h : (i : Int) < 64
    · rw [if_pos h, if_neg (by omega)]
    · rw [if_neg h]
  | succ d ih =>
    intro k i hi hk
    obtain ⟨k, rfl⟩ : ∃ q, k = q + 1 := ⟨k - 1, by omega⟩
    have hi64 : i < 64 := by omega
    have hk2 : d < k := by omega
    have hi2 : i + 1 + d = min 64 l.toNat := by omega
    have e5 : wrap64 ((i : Int) + 1) = ((i + 1 : Nat) : Int) := by rw [w64 (by omega) (by omega)]; omega
    simp only [trefoilref03_Add.l0]
    rw [if_pos (by omega), if_pos (by omega), wu64_nat' (n := i) (by omega), if_pos (by omega), shr_nat a i (by omega), shr_nat b i (by omega), tmod2_nat, tmod2_nat]
    have hc := carry_le a b (2 ^ i) (pow_pos i)
    have hx : a / 2 ^ i % 2 < 2 := Nat.mod_lt _ (by decide)
    have hy : b / 2 ^ i % 2 < 2 := Nat.mod_lt _ (by decide)
    have e1 : ((a / 2 ^ i % 2 : Nat) : Int) + ((b / 2 ^ i % 2 : Nat) : Int) = ((a / 2 ^ i % 2 + b / 2 ^ i % 2 : Nat) : Int) := by omega
    rw [e1, wu64_nat' (n := a / 2 ^ i % 2 + b / 2 ^ i % 2) (by omega)]
    have e2 : ((a / 2 ^ i % 2 + b / 2 ^ i % 2 : Nat) : Int) + (((a % 2 ^ i + b % 2 ^ i) / 2 ^ i : Nat) : Int) = ((a / 2 ^ i % 2 + b / 2 ^ i % 2 + (a % 2 ^ i + b % 2 ^ i) / 2 ^ i : Nat) : Int) := by omega
    rw [e2, wu64_nat' (n := a / 2 ^ i % 2 + b / 2 ^ i % 2 + (a % 2 ^ i + b % 2 ^ i) / 2 ^ i) (by omega), tmod2_nat, tdiv2_nat, wu64_nat' (n := (a / 2 ^ i % 2 + b / 2 ^ i % 2 + (a % 2 ^ i + b % 2 ^ i) / 2 ^ i) / 2) (by omega),
      ← digit_sum, ← carry_succ, shl_nat _ i (by omega)]
    have hm := Nat.mod_lt (a + b) (pow_pos (i + 1))
    have hp := pow_le_64 (show i + 1 ≤ 64 by omega)
    have e3 := mod_pow_succ (a + b) i
    have e4 : (a + b) / 2 ^ i % 2 * 2 ^ i % 18446744073709551616 = (a + b) / 2 ^ i % 2 * 2 ^ i := Nat.mod_eq_of_lt (by omega)
    rw [e4, or_join_nat _ _ i (Nat.mod_lt _ (pow_pos i)) (by omega), ← e3]
    rw [e5]
    exact ih k (i + 1) hi2 hk2

theorem add_r (k : Nat) (hk : 100 ≤ k) (l : Int) (a b : Nat) (ha : a < 18446744073709551616) (hb : b < 18446744073709551616) : trefoilref03_Add.f k l a b = some (((a + b) % 2 ^ (min 64 l.toNat) : Nat) : Int) := by
  have hk' : min 64 l.toNat < k := by omega
  have h := add_loop l a b ha hb (min 64 l.toNat) k 0 (Nat.zero_add _) hk'
  have e1 : (((a + b) % 2 ^ 0 : Nat) : Int) = 0 := by rw [Nat.pow_zero, Nat.mod_one]; rfl
  have e2 : (((a % 2 ^ 0 + b % 2 ^ 0) / 2 ^ 0 : Nat) : Int) = 0 := by rw [Nat.pow_zero, Nat.mod_one, Nat.mod_one]; rfl
  rw [e1, e2] at h
  unfold trefoilref03_Add.f
  exact h

theorem min64 {l : Nat} (h : l ≤ 64) : min 64 (l : Int).toNat = l := by rw [Int.toNat_natCast]; exact Nat.min_eq_right h
end Go.Proofs.Ytcmaidpoolcelaa.Lem
