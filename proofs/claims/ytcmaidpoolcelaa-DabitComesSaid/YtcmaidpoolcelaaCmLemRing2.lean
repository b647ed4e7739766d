/- Differences, products, cut numbers: the program's and the document's come to the same. -/
import Derived.Test.YtcmaidpoolcelaaCmK1
import Derived.Test.YtcmaidpoolcelaaCmK4
import Derived.Test.YtcmaidpoolcelaaCmK7
import Derived.Test.YtcmaidpoolcelaaCmLemRing
import Derived.Test.YtcmaidpoolcelaaCmLemFits
namespace Go.Proofs.Ytcmaidpoolcelaa.Lem
open Go.RowKit Go.Proofs.Ytcmaidpoolcelaa.P Go.Proofs.Ytcmaidpoolcelaa.Num Go.Proofs.YtcmaidpoolcelaaW.PrintWords Go.Proofs.YtcmaidpoolcelaaW.PrintMore
set_option linter.unusedVariables false

theorem dvd64 {l : Nat} (h1 : l ≤ 64) : 2 ^ l ∣ 18446744073709551616 := ⟨2 ^ (64 - l), by rw [← Nat.pow_add, show l + (64 - l) = 64 by omega]⟩
theorem mod64 {l : Nat} (h1 : l ≤ 64) (n : Nat) : n % 18446744073709551616 % 2 ^ l = n % 2 ^ l := Nat.mod_mod_of_dvd _ (dvd64 h1)
theorem add_mod64 {l : Nat} (h1 : l ≤ 64) (a n : Nat) : (a + n % 18446744073709551616) % 2 ^ l = (a + n) % 2 ^ l := by
  rw [Nat.add_mod, mod64 h1, ← Nat.add_mod]
theorem lt64 {l n : Nat} (h1 : l ≤ 64) : n % 2 ^ l < 18446744073709551616 := Nat.lt_of_lt_of_le (Nat.mod_lt _ (pow_pos l)) (pow_le_64 h1)

/-- the difference, cut to l bits -/
def subN (l a b : Nat) : Nat := (a + (18446744073709551616 - b)) % 2 ^ l

theorem sub_cast (a b : Nat) (hb : b ≤ 18446744073709551616) : IntKind.u64.wrap ((a : Int) - (b : Int)) = (((a + (18446744073709551616 - b)) % 18446744073709551616 : Nat) : Int) := by
  rw [wu64_mod]; omega

theorem sub_f (l a b : Nat) (h0 : 1 ≤ l) (h1 : l ≤ 64) (hb : b < 18446744073709551616) : ring_Sub.f (l : Int) (a : Int) (b : Int) = some ((subN l a b : Nat) : Int) := by
  unfold ring_Sub.f subN
  rw [mask_f l h0 h1, Option.bind_some, sub_cast a b (Nat.le_of_lt hb), and_mask_nat _ l (Nat.mod_lt _ (by decide)) h1, mod64 h1]

theorem mul_f (l a b : Nat) (h0 : 1 ≤ l) (h1 : l ≤ 64) : ring_Mul.f (l : Int) (a : Int) (b : Int) = some ((a * b % 2 ^ l : Nat) : Int) := by
  unfold ring_Mul.f
  have e : (a : Int) * (b : Int) = ((a * b : Nat) : Int) := by simp
  rw [mask_f l h0 h1, Option.bind_some, e, wu64_nat, and_mask_nat _ l (Nat.mod_lt _ (by decide)) h1, mod64 h1]

theorem add_r' (k l a b : Nat) (hk : 100 ≤ k) (h1 : l ≤ 64) (ha : a < 18446744073709551616) (hb : b < 18446744073709551616) : trefoilref03_Add.f k (l : Int) (a : Int) (b : Int) = some (((a + b) % 2 ^ l : Nat) : Int) := by
  rw [add_r k hk l a b ha hb, min64 h1]

theorem neg_cast (b : Nat) (hb : b < 18446744073709551616) : IntKind.u64.wrap (18446744073709551615 - (b : Int)) = ((18446744073709551615 - b : Nat) : Int) := by
  rw [wu64_mod]; omega

theorem neg_r (k b : Nat) (hk : 100 ≤ k) (hb : b < 18446744073709551616) : trefoilref03_Neg.f k 64 (b : Int) = some (((18446744073709551616 - b) % 18446744073709551616 : Nat) : Int) := by
  unfold trefoilref03_Neg.f
  rw [neg_cast b hb]
  have h := add_r' k 64 (18446744073709551615 - b) 1 hk (Nat.le_refl _) (by omega) (by decide)
  have e : 18446744073709551615 - b + 1 = 18446744073709551616 - b := by omega
  rw [e] at h
  rw [show (trefoilref03_Add.f k 64 ((18446744073709551615 - b : Nat) : Int) 1) = some (((18446744073709551616 - b) % 18446744073709551616 : Nat) : Int) from h]; rfl

theorem sub_r (k l a b : Nat) (hk : 100 ≤ k) (h1 : l ≤ 64) (ha : a < 18446744073709551616) (hb : b < 18446744073709551616) : trefoilref03_Sub.f k (l : Int) (a : Int) (b : Int) = some ((subN l a b : Nat) : Int) := by
  unfold trefoilref03_Sub.f subN
  rw [neg_r k b hk hb, Option.bind_some, add_r' k l a _ hk h1 ha (Nat.mod_lt _ (by decide)), Option.bind_some, add_mod64 h1]

theorem and_bit_nat (x i : Nat) (hx : x < 18446744073709551616) (hi : i < 64) : Go.bits .and .u64 (x : Int) (shl .u64 1 (i : Int)) = ((x / 2 ^ i % 2 * 2 ^ i : Nat) : Int) := by
  have hp : 2 ^ i < 18446744073709551616 := Nat.pow_lt_pow_right (a := 2) (by decide) (show i < 64 from hi)
  have e := shl_nat 1 i (by omega)
  rw [Nat.one_mul, Nat.mod_eq_of_lt hp] at e
  rw [show shl .u64 1 (i : Int) = ((2 ^ i : Nat) : Int) from e, u64_and_nat x _ hx hp, nat_bit]

theorem fit_loop (l : Int) (x : Nat) (hx : x < 18446744073709551616) (d : Nat) : ∀ (k i : Nat), i + d = min 64 l.toNat → d < k →
    trefoilref03_Fit.l0 k l x ((x % 2 ^ i : Nat) : Int) i = some ((x % 2 ^ (min 64 l.toNat) : Nat) : Int) := by
  induction d with
  | zero =>
    intro k i hi hk
    obtain ⟨k, rfl⟩ : ∃ q, k = q + 1 := ⟨k - 1, by omega⟩
    simp only [trefoilref03_Fit.l0]
    rw [← hi, Nat.add_zero]
    by_cases h : (i : Int) < 64
    · rw [if_pos h, if_neg (by omega)]
    · rw [if_neg h]
  | succ d ih =>
    intro k i hi hk
    obtain ⟨k, rfl⟩ : ∃ q, k = q + 1 := ⟨k - 1, by omega⟩
    have hi64 : i < 64 := by omega
    have hk2 : d < k := by omega
    have hi2 : i + 1 + d = min 64 l.toNat := by omega
    have t1 : (i : Int) < 64 := by omega
    have t2 : (i : Int) < l := by omega
    have t3 : (0 : Int) ≤ (i : Int) := by omega
    have t4 : i < 18446744073709551616 := by omega
    have e5 : wrap64 ((i : Int) + 1) = ((i + 1 : Nat) : Int) := by rw [w64 (by omega) (by omega)]; omega
    have nx := ih k (i + 1) hi2 hk2
    have hp := pow_le_64 (show i + 1 ≤ 64 from hi64)
    have hm := Nat.mod_lt x (pow_pos (i + 1))
    have e3 := mod_pow_succ x i
    have hlt : x % 2 ^ i + x / 2 ^ i % 2 * 2 ^ i < 18446744073709551616 := by rw [← e3]; exact Nat.lt_of_lt_of_le hm hp
    simp only [trefoilref03_Fit.l0]
    rw [if_pos t1, if_pos t2, wu64_nat' t4, if_pos t3, and_bit_nat x i hx hi64, or_join_nat _ _ i (Nat.mod_lt _ (pow_pos i)) hlt, ← e3, e5]
    exact nx

theorem fit_r (k : Nat) (hk : 100 ≤ k) (l x : Nat) (h1 : l ≤ 64) (hx : x < 18446744073709551616) : trefoilref03_Fit.f k (l : Int) (x : Int) = some ((x % 2 ^ l : Nat) : Int) := by
  have hk' : min 64 (l : Int).toNat < k := by omega
  have h := fit_loop (l : Int) x hx (min 64 (l : Int).toNat) k 0 (Nat.zero_add _) hk'
  have e1 : ((x % 2 ^ 0 : Nat) : Int) = 0 := by rw [Nat.pow_zero, Nat.mod_one]; rfl
  rw [e1, min64 h1] at h
  unfold trefoilref03_Fit.f
  exact h

/-- no bits above the l-th one -/
theorem andNot_zero (x l : Nat) (hx : x < 18446744073709551616) (hl : l ≤ 64) : x &&& (18446744073709551615 - (2 ^ l - 1)) = 0 ↔ x < 2 ^ l := by
  have hp := pow_le_64 hl
  have h0 := pow_pos l
  have e : 18446744073709551615 - (2 ^ l - 1) = (2 ^ (64 - l) - 1) <<< l := by
    rw [Nat.shiftLeft_eq, Nat.sub_mul, Nat.one_mul, ← Nat.pow_add, show 64 - l + l = 64 by omega]
    have : (2 : Nat) ^ 64 = 18446744073709551616 := by decide
    omega
  rw [e]
  constructor
  · intro h
    have h2 : (x &&& (2 ^ (64 - l) - 1) <<< l) / 2 ^ l = 0 := by rw [h]; exact Nat.zero_div _
    rw [Nat.and_div_two_pow, Nat.shiftLeft_eq, Nat.mul_div_cancel _ h0, Nat.and_two_pow_sub_one_eq_mod] at h2
    have h3 : x / 2 ^ l < 2 ^ (64 - l) := by
      rw [Nat.div_lt_iff_lt_mul h0, ← Nat.pow_add, show 64 - l + l = 64 by omega]
      exact hx
    rw [Nat.mod_eq_of_lt h3] at h2
    exact (Nat.div_eq_zero_iff_lt h0).1 h2
  · intro h
    apply Nat.eq_of_testBit_eq
    intro i
    rw [Nat.testBit_and, Nat.testBit_shiftLeft, Nat.zero_testBit]
    by_cases hi : l ≤ i
    · have : x < 2 ^ i := Nat.lt_of_lt_of_le h (Nat.pow_le_pow_right (by decide) hi)
      rw [Nat.testBit_lt_two_pow this, Bool.false_and]
    · rw [decide_eq_false (by omega), Bool.false_and, Bool.and_false]

theorem over_nat (x : Int) (l : Nat) (h0 : 0 ≤ x) (h1 : x < 18446744073709551616) (hl : l ≤ 64) : over ((2 ^ l - 1 : Nat) : Int) x = !decide (x < ((2 ^ l : Nat) : Int)) := by
  obtain ⟨m, rfl, hm⟩ := nat_of64 h0 h1
  have hp := pow_le_64 hl
  have h0 := pow_pos l
  have hq : 2 ^ l - 1 < 18446744073709551616 := by omega
  unfold over
  rw [u64_andNot_nat m _ hm hq]
  have key := andNot_zero m l hm hl
  by_cases h : m < 2 ^ l
  · rw [key.2 h, decide_eq_true (Int.ofNat_lt.2 h)]; rfl
  · rw [decide_eq_false (fun c => h (Int.ofNat_lt.1 c))]
    have hne : m &&& (18446744073709551615 - (2 ^ l - 1)) ≠ 0 := fun c => h (key.1 c)
    generalize m &&& (18446744073709551615 - (2 ^ l - 1)) = z at hne ⊢
    simp
    omega

theorem ringFits_f (l : Nat) (h0 : 1 ≤ l) (h1 : l ≤ 64) (xs : List Int) (hx : U64s xs) : ring_Fits.f (l : Int) xs = some (lows l xs) := by
  unfold ring_Fits.f lows
  rw [mask_f l h0 h1, Option.bind_some]
  congr 1
  rw [Bool.eq_iff_iff, Bool.not_eq_true', List.any_eq_false, List.all_eq_true]
  constructor
  · intro h x hxx
    have := h x hxx
    rw [over_nat x l (hx x hxx).1 (hx x hxx).2 h1] at this
    simpa using this
  · intro h x hxx
    have := h x hxx
    rw [over_nat x l (hx x hxx).1 (hx x hxx).2 h1]
    simpa using this
end Go.Proofs.Ytcmaidpoolcelaa.Lem
