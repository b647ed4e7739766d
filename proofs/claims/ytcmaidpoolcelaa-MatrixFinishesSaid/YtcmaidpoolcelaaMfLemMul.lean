/- Numbers and matrices multiplied: the program's way and the document's come to the same numbers. -/
import Derived.Test.YtcmaidpoolcelaaMfK3
import Derived.Test.YtcmaidpoolcelaaMfLemRing2
namespace Go.Proofs.Ytcmaidpoolcelaa.Lem
open Go.RowKit Go.Proofs.Ytcmaidpoolcelaa.P Go.Proofs.Ytcmaidpoolcelaa.Num Go.Proofs.YtcmaidpoolcelaaW.PrintWords Go.Proofs.YtcmaidpoolcelaaW.PrintMore
set_option linter.unusedVariables false

theorem mulstep (a b l i : Nat) (hl : l ≤ 64) : (a * (b % 2 ^ i) % 2 ^ l + a * 2 ^ i % 18446744073709551616) % 2 ^ l = a * (b % 2 ^ i + 2 ^ i) % 2 ^ l := by
  rw [add_mod64 hl, Nat.mod_add_mod, Nat.mul_add]
theorem dblmul (a i : Nat) : (a * 2 ^ i % 18446744073709551616 + a * 2 ^ i % 18446744073709551616) % 18446744073709551616 = a * 2 ^ (i + 1) % 18446744073709551616 := by
  rw [← Nat.add_mod, Nat.pow_succ, ← Nat.mul_assoc, Nat.mul_two]
theorem mul_loop (l a b : Nat) (hl : l ≤ 64) (ha : a < 18446744073709551616) (hb : b < 18446744073709551616) (d : Nat) : ∀ (k i : Nat), i + d = l → 2 * d + 103 < k →
    trefoilref03_Mul.l0 k (l : Int) ((a * 2 ^ i % 18446744073709551616 : Nat) : Int) (b : Int) ((a * (b % 2 ^ i) % 2 ^ l : Nat) : Int) (i : Int) = some ((a * b % 2 ^ l : Nat) : Int) := by
  induction d with
  | zero =>
    intro k i hi hk
    obtain ⟨k, rfl⟩ : ∃ q, k = q + 1 + 1 := ⟨k - 2, by omega⟩
    obtain ⟨K, hK⟩ : ∃ K, K = k + 1 := ⟨_, rfl⟩
    rw [← hK]
    simp only [trefoilref03_Mul.l0]
    rw [hK]
    obtain rfl : i = l := by omega
    have e : a * (b % 2 ^ i) % 2 ^ i = a * b % 2 ^ i := by rw [Nat.mul_mod_mod]
    have hlt : ¬ ((i : Int) < (i : Int)) := by omega
    by_cases h : (i : Int) < 64
    · rw [if_pos h, decide_eq_false hlt, e]
      simp only [trefoilref03_Mul.j1]
      rfl
    · rw [if_neg h, e]
      simp only [trefoilref03_Mul.j1]
      rfl
  | succ d ih =>
    intro k i hi hk
    obtain ⟨k, rfl⟩ : ∃ q, k = q + 1 + 1 := ⟨k - 2, by omega⟩
    obtain ⟨K, hK⟩ : ∃ K, K = k + 1 := ⟨_, rfl⟩
    rw [← hK]
    simp only [trefoilref03_Mul.l0]
    rw [hK]
    have hi64 : i < 64 := by omega
    have t1 : (i : Int) < 64 := by omega
    have t2 : (i : Int) < (l : Int) := by omega
    have t3 : (0 : Int) ≤ (i : Int) := by omega
    have hk2 : 2 * d + 103 < k := by omega
    have hk3 : 100 ≤ k := by omega
    have hi2 : i + 1 + d = l := by omega
    have nx := ih k (i + 1) hi2 hk2
    have e5 : wrap64 ((i : Int) + 1) = ((i + 1 : Nat) : Int) := by rw [w64 (by omega) (by omega)]; omega
    have m1 : a * 2 ^ i % 18446744073709551616 < 18446744073709551616 := Nat.mod_lt _ (by decide)
    have m2 : a * (b % 2 ^ i) % 2 ^ l < 18446744073709551616 := lt64 hl
    have a1 := add_r' k l _ _ hk3 hl m2 m1
    have a2 := add_r' k 64 _ _ hk3 (Nat.le_refl _) m1 m1
    rw [show ((64 : Nat) : Int) = 64 by rfl, show (2 : Nat) ^ 64 = 18446744073709551616 by decide, dblmul] at a2
    rw [mulstep a b l i hl] at a1
    rw [if_pos t1, decide_eq_true t2]
    simp only [trefoilref03_Mul.j1]
    have hbit : b / 2 ^ i % 2 < 2 := Nat.mod_lt _ (by decide)
    have hs := mod_pow_succ b i
    rw [if_pos trivial, wu64_nat' (n := i) (by omega), if_pos t3, shr_nat b i (by omega), tmod2_nat]
    by_cases hb1 : b / 2 ^ i % 2 = 1
    · rw [hb1, Nat.one_mul] at hs
      rw [hb1, if_pos (by rfl), a1, Option.bind_some, a2, Option.bind_some, e5, ← hs]
      exact nx
    · have hb0 : b / 2 ^ i % 2 = 0 := by omega
      rw [hb0, Nat.zero_mul] at hs
      rw [hs] at nx
      rw [hb0, if_neg (by decide), a2, Option.bind_some, e5]
      exact nx
theorem mul_r (k l a b : Nat) (hk : 300 ≤ k) (hl : l ≤ 64) (ha : a < 18446744073709551616) (hb : b < 18446744073709551616) : trefoilref03_Mul.f k (l : Int) (a : Int) (b : Int) = some ((a * b % 2 ^ l : Nat) : Int) := by
  have h := mul_loop l a b hl ha hb l k 0 (by omega) (by omega)
  rw [Nat.pow_zero, Nat.mul_one, Nat.mod_one, Nat.mul_zero, Nat.zero_mod, Nat.mod_eq_of_lt ha] at h
  exact h

/-- a sum of products: the numbers of a row from p on with those of a column, from q on, n apart -/
def prods (a b : List Int) (p q n : Nat) : Nat → Nat
  | 0 => 0
  | t + 1 => prods a b p q n t + (rd a ((p + t : Nat) : Int)).toNat * (rd b ((t * n + q : Nat) : Int)).toNat
theorem u64_rd {xs : List Int} (h : U64s xs) (i : Nat) (hi : i < xs.length) : ∃ m : Nat, rd xs (i : Int) = (m : Int) ∧ m < 18446744073709551616 := by
  have := h _ (rd_mem xs i hi)
  exact nat_of64 this.1 this.2
def entry_ (l : Nat) (a b : List Int) (k n q : Nat) : Int := ((prods a b (q / n * k) (q % n) n k % 2 ^ l : Nat) : Int)
/-- a product of matrices, row by row -/
def mm (l m k n : Nat) (a b : List Int) : List Int := (List.range (m * n)).map (entry_ l a b k n)
theorem mm_len (l m k n : Nat) (a b : List Int) : (mm l m k n a b).length = m * n := by simp [mm]
theorem mm_take (l m k n : Nat) (a b : List Int) (p : Nat) (h : p ≤ m * n) : (mm l m k n a b).take p = (List.range p).map (entry_ l a b k n) := by
  unfold mm
  rw [← List.map_take, List.take_range, Nat.min_eq_left h]
theorem mm_snoc (l m k n : Nat) (a b : List Int) (p : Nat) (h : p < m * n) : (mm l m k n a b).take p ++ [entry_ l a b k n p] = (mm l m k n a b).take (p + 1) := by
  rw [mm_take l m k n a b p (by omega), mm_take l m k n a b (p + 1) (by omega), List.range_succ, List.map_append]; rfl
theorem place (i j n : Nat) (h : j < n) : (i * n + j) / n = i ∧ (i * n + j) % n = j := by
  constructor
  · rw [Nat.mul_comm, Nat.mul_add_div (by omega), Nat.div_eq_of_lt h, Nat.add_zero]
  · rw [Nat.mul_comm, Nat.mul_add_mod, Nat.mod_eq_of_lt h]
theorem place_lt {i j m n : Nat} (hi : i < m) (hj : j < n) : i * n + j < m * n := by
  have : (i + 1) * n ≤ m * n := Nat.mul_le_mul_right n hi
  rw [Nat.succ_mul] at this
  omega
theorem sixes {i m : Nat} (h : i ≤ m) (hm : m ≤ 6) {n : Nat} (hn : n ≤ 6) : i * n ≤ 36 := Nat.le_trans (Nat.mul_le_mul (Nat.le_trans h hm) hn) (by decide)

theorem cut_len (a : List Int) (p k : Nat) (h : p + k ≤ a.length) : ((a.take (p + k)).drop p).length = k := by
  rw [List.length_drop, List.length_take]; omega
theorem cut_rd (a : List Int) (p k t : Nat) (h : p + k ≤ a.length) (ht : t < k) : rd ((a.take (p + k)).drop p) (t : Int) = rd a ((p + t : Nat) : Int) := by
  show ((a.take (p + k)).drop p).getD (t : Int).toNat 0 = a.getD (((p + t : Nat) : Int)).toNat 0
  rw [Int.toNat_natCast, Int.toNat_natCast, List.getD_eq_getElem?_getD, List.getD_eq_getElem?_getD, List.getElem?_drop, List.getElem?_take]
  rw [if_pos (by omega)]
theorem cut_u64 (a : List Int) (ha : U64s a) (p k : Nat) : U64s ((a.take (p + k)).drop p) := fun x hx => ha x (List.mem_of_mem_take (List.mem_of_mem_drop hx))

theorem mulw (x y : Nat) (h : x * y ≤ 1000000) : wrap64 ((x : Int) * (y : Int)) = ((x * y : Nat) : Int) := by rw [← Int.natCast_mul]; exact w64 (by omega) (by omega)
theorem addw (x y : Nat) (h : x + y ≤ 1000000) : wrap64 ((x : Int) + (y : Int)) = ((x + y : Nat) : Int) := by rw [← Int.natCast_add]; exact w64 (by omega) (by omega)
theorem succw (x : Nat) (h : x ≤ 1000000) : wrap64 ((x : Int) + 1) = ((x + 1 : Nat) : Int) := by rw [w64 (by omega) (by omega)]; omega
section
variable (l m k n : Nat) (hl : l ≤ 64) (hm : m ≤ 6) (hk6 : k ≤ 6) (hn : n ≤ 6) (a b : List Int) (ha : U64s a) (hb : U64s b) (la : a.length = m * k) (lb : b.length = k * n)
include hl hm hk6 hn ha hb la lb
end
end Go.Proofs.Ytcmaidpoolcelaa.Lem
