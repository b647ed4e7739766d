/- Numbers of so many bits, as Go's operators tell them: masks, shifts, bits put together. No program in sight. -/
import Derived.Test.YtdgngpcfikgoeaaDoorMdWMore
import Derived.Laws.BitsLemmas
import Derived.Laws.BitsAllLaws
import Derived.Laws.Bits64
import Derived.IntWalk
import Derived.OpenShut
namespace Go.Proofs.YtdgngpcfikgoeaaDoor.Num
open Go.RowKit Go.Proofs.YtdgngpcfikgoeaaDoorW.PrintWords Go.Proofs.YtdgngpcfikgoeaaDoorW.PrintMore

theorem w64 {n : Int} (h0 : -9223372036854775808 ≤ n) (h1 : n ≤ 9223372036854775807) : wrap64 n = n := by unfold wrap64; omega
theorem wu64_nat (n : Nat) : IntKind.u64.wrap (n : Int) = ((n % 18446744073709551616 : Nat) : Int) := by rw [IntKind.wrap_u64]; omega
theorem wu64_nat' {n : Nat} (h : n < 18446744073709551616) : IntKind.u64.wrap (n : Int) = (n : Int) := by rw [wu64_nat, Nat.mod_eq_of_lt h]

theorem shr_nat (x i : Nat) (hi : i ≤ 64) : shr .u64 (x : Int) (i : Int) = ((x / 2 ^ i : Nat) : Int) := by
  unfold shr
  have e : min (i : Int).toNat IntKind.u64.bits = i := by rw [Int.toNat_natCast]; exact Nat.min_eq_left hi
  rw [e]
  simp

theorem pow_le_64 {i : Nat} (hi : i ≤ 64) : 2 ^ i ≤ 18446744073709551616 := Nat.pow_le_pow_right (n := 2) (by decide) hi
theorem pow_pos (i : Nat) : 0 < 2 ^ i := Nat.two_pow_pos i
/-- a mask of l bits -/
theorem mask_nat (l : Nat) (h0 : 1 ≤ l) (h1 : l ≤ 64) : shr .u64 18446744073709551615 (IntKind.u64.wrap (wrap64 (64 - (l : Int)))) = ((2 ^ l - 1 : Nat) : Int) := by
  rw [w64 (by omega) (by omega)]
  have e : (64 - (l : Int)) = ((64 - l : Nat) : Int) := by omega
  rw [e, wu64_nat' (by omega)]
  have h := shr_nat 18446744073709551615 (64 - l) (by omega)
  refine h.trans ?_
  congr 1
  have hp : 2 ^ l * 2 ^ (64 - l) = 18446744073709551616 := by rw [← Nat.pow_add, show l + (64 - l) = 64 by omega]
  have hq := pow_pos (64 - l)
  have hl := pow_pos l
  rw [Nat.div_eq_iff hq]
  generalize 2 ^ (64 - l) = q at *
  generalize 2 ^ l = p at *
  obtain ⟨p, rfl⟩ : ∃ r, p = r + 1 := ⟨p - 1, by omega⟩
  rw [Nat.add_mul, Nat.one_mul] at hp
  rw [Nat.add_sub_cancel]
  omega

theorem and_mask_nat (x l : Nat) (hx : x < 18446744073709551616) (hl : l ≤ 64) : Go.bits .and .u64 (x : Int) ((2 ^ l - 1 : Nat) : Int) = ((x % 2 ^ l : Nat) : Int) := by
  have hp := pow_le_64 hl
  have h0 := pow_pos l
  rw [u64_and_nat x _ hx (by omega), Nat.and_two_pow_sub_one_eq_mod]

end Go.Proofs.YtdgngpcfikgoeaaDoor.Num
