/- Numbers of so many bits, as Go's operators tell them: masks, shifts, bits put together. No program in sight. -/
import Derived.Test.YtdgngpcfikgoeaaDoorWMore
import Derived.Laws.BitsLemmas
import Derived.Laws.BitsAllLaws
import Derived.Laws.Bits64
import Derived.IntWalk
import Derived.OpenShut
namespace Go.Proofs.YtdgngpcfikgoeaaDoor.Num
open Go.RowKit Go.Proofs.YtdgngpcfikgoeaaDoorW.PrintWords Go.Proofs.YtdgngpcfikgoeaaDoorW.PrintMore

theorem w64 {n : Int} (h0 : -9223372036854775808 ≤ n) (h1 : n ≤ 9223372036854775807) : wrap64 n = n := by unfold wrap64; omega
theorem wu64 {n : Int} (h0 : 0 ≤ n) (h1 : n ≤ 18446744073709551615) : IntKind.u64.wrap n = n := IntWalk.u64_in n ⟨h0, h1⟩
theorem wu64_mod (n : Int) : IntKind.u64.wrap n = n % 18446744073709551616 := IntKind.wrap_u64 n
theorem wu64_nat (n : Nat) : IntKind.u64.wrap (n : Int) = ((n % 18446744073709551616 : Nat) : Int) := by rw [IntKind.wrap_u64]; omega
theorem wu64_nat' {n : Nat} (h : n < 18446744073709551616) : IntKind.u64.wrap (n : Int) = (n : Int) := by rw [wu64_nat, Nat.mod_eq_of_lt h]

theorem shr_nat (x i : Nat) (hi : i ≤ 64) : shr .u64 (x : Int) (i : Int) = ((x / 2 ^ i : Nat) : Int) := by
  unfold shr
  have e : min (i : Int).toNat IntKind.u64.bits = i := by rw [Int.toNat_natCast]; exact Nat.min_eq_left hi
  rw [e]
  simp

theorem shl_nat (x i : Nat) (hi : i ≤ 64) : shl .u64 (x : Int) (i : Int) = ((x * 2 ^ i % 18446744073709551616 : Nat) : Int) := by
  unfold shl
  have e : min (i : Int).toNat IntKind.u64.bits = i := by rw [Int.toNat_natCast]; exact Nat.min_eq_left hi
  rw [e, ← wu64_nat]
  simp

theorem tmod_nat (x m : Nat) : Int.tmod (x : Int) (m : Int) = ((x % m : Nat) : Int) := by rw [Int.tmod_eq_emod_of_nonneg (by omega)]; simp
theorem tdiv_nat (x m : Nat) : Int.tdiv (x : Int) (m : Int) = ((x / m : Nat) : Int) := by rw [Int.tdiv_eq_ediv_of_nonneg (by omega)]; simp
theorem tmod2_nat (x : Nat) : Int.tmod (x : Int) 2 = ((x % 2 : Nat) : Int) := tmod_nat x 2
theorem tdiv2_nat (x : Nat) : Int.tdiv (x : Int) 2 = ((x / 2 : Nat) : Int) := tdiv_nat x 2

theorem pow_le_64 {i : Nat} (hi : i ≤ 64) : 2 ^ i ≤ 18446744073709551616 := Nat.pow_le_pow_right (n := 2) (by decide) hi
theorem pow_pos (i : Nat) : 0 < 2 ^ i := Nat.two_pow_pos i
theorem pow_succ' (i : Nat) : 2 ^ (i + 1) = 2 ^ i * 2 := Nat.pow_succ 2 i

/-- a mask of l bits -/
theorem mask_nat (l : Nat) (h0 : 1 ≤ l) (h1 : l ≤ 64) : shr .u64 18446744073709551615 (IntKind.u64.wrap (wrap64 (64 - (l : Int)))) = ((2 ^ l - 1 : Nat) : Int) := by
  rw [w64 (by omega) (by omega)]
  have e : (64 - (l : Int)) = ((64 - l : Nat) : Int) := by omega
  rw [e, wu64_nat' (by omega)]
  have h := shr_nat 18446744073709551615 (64 - l) (by omega)
  refine h.trans ?_
  congr 1
  have hp : 2 ^ l * 2 ^ (64 - l) = 18446744073709551616 := by rw [← Nat.pow_add, show l + (64 - l) = 64 by omega]
  have hq := pow_pos (64 - l)
  have hl := pow_pos l
  rw [Nat.div_eq_iff hq]
  generalize 2 ^ (64 - l) = q at *
  generalize 2 ^ l = p at *
  obtain ⟨p, rfl⟩ : ∃ r, p = r + 1 := ⟨p - 1, by omega⟩
  rw [Nat.add_mul, Nat.one_mul] at hp
  rw [Nat.add_sub_cancel]
  omega

theorem and_mask_nat (x l : Nat) (hx : x < 18446744073709551616) (hl : l ≤ 64) : Go.bits .and .u64 (x : Int) ((2 ^ l - 1 : Nat) : Int) = ((x % 2 ^ l : Nat) : Int) := by
  have hp := pow_le_64 hl
  have h0 := pow_pos l
  rw [u64_and_nat x _ hx (by omega), Nat.and_two_pow_sub_one_eq_mod]

theorem or_join_nat (x s i : Nat) (hx : x < 2 ^ i) (h : x + s * 2 ^ i < 18446744073709551616) : Go.bits .or .u64 (x : Int) ((s * 2 ^ i : Nat) : Int) = ((x + s * 2 ^ i : Nat) : Int) := by
  rw [u64_or_nat x _ (by omega) (by omega), Nat.or_comm, nat_join i _ _ (Nat.mul_mod_left _ _) hx, Nat.add_comm]

/-- the lower bits of a sum, one more -/
theorem mod_pow_succ (n i : Nat) : n % 2 ^ (i + 1) = n % 2 ^ i + (n / 2 ^ i % 2) * 2 ^ i := by
  rw [Nat.pow_succ, Nat.mod_mul, Nat.mul_comm (2 ^ i)]

theorem div_sum (a b q : Nat) (hq : 0 < q) : (a + b) / q = a / q + b / q + (a % q + b % q) / q := by
  have ea := Nat.div_add_mod a q
  have eb := Nat.div_add_mod b q
  have : a + b = q * (a / q + b / q) + (a % q + b % q) := by rw [Nat.mul_add]; omega
  rw [this, Nat.mul_add_div hq]

/-- what is carried, one place on -/
theorem carry_succ (a b i : Nat) : (a % 2 ^ (i + 1) + b % 2 ^ (i + 1)) / 2 ^ (i + 1) = (a / 2 ^ i % 2 + b / 2 ^ i % 2 + (a % 2 ^ i + b % 2 ^ i) / 2 ^ i) / 2 := by
  rw [mod_pow_succ a, mod_pow_succ b, Nat.pow_succ, ← Nat.div_div_eq_div_mul]
  congr 1
  have : a % 2 ^ i + a / 2 ^ i % 2 * 2 ^ i + (b % 2 ^ i + b / 2 ^ i % 2 * 2 ^ i) = 2 ^ i * (a / 2 ^ i % 2 + b / 2 ^ i % 2) + (a % 2 ^ i + b % 2 ^ i) := by
    rw [Nat.mul_add, Nat.mul_comm (2 ^ i), Nat.mul_comm (2 ^ i)]; omega
  rw [this, Nat.mul_add_div (pow_pos i)]

theorem digit_sum (a b i : Nat) : (a + b) / 2 ^ i % 2 = (a / 2 ^ i % 2 + b / 2 ^ i % 2 + (a % 2 ^ i + b % 2 ^ i) / 2 ^ i) % 2 := by
  rw [div_sum a b _ (pow_pos i)]
  omega

theorem carry_le (a b q : Nat) (hq : 0 < q) : (a % q + b % q) / q ≤ 1 := by
  have h1 := Nat.mod_lt a hq
  have h2 := Nat.mod_lt b hq
  have : (a % q + b % q) / q < 2 := by rw [Nat.div_lt_iff_lt_mul hq]; omega
  omega

theorem nat_of {n : Int} (h0 : 0 ≤ n) : ∃ m : Nat, n = (m : Int) := ⟨n.toNat, by omega⟩
theorem nat_of64 {n : Int} (h0 : 0 ≤ n) (h1 : n < 18446744073709551616) : ∃ m : Nat, n = (m : Int) ∧ m < 18446744073709551616 := ⟨n.toNat, by omega, by omega⟩
theorem half64 {m : Nat} (h : m < 18446744073709551616) : m / 2 < 18446744073709551616 := by omega
end Go.Proofs.YtdgngpcfikgoeaaDoor.Num
