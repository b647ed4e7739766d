/- Numbers and matrices multiplied: the program's way and the document's come to the same numbers. -/
import Derived.Test.YtcmaidpoolcelaaCmLemRing2
namespace Go.Proofs.Ytcmaidpoolcelaa.Lem
open Go.RowKit Go.Proofs.Ytcmaidpoolcelaa.P Go.Proofs.Ytcmaidpoolcelaa.Num Go.Proofs.YtcmaidpoolcelaaW.PrintWords Go.Proofs.YtcmaidpoolcelaaW.PrintMore
set_option linter.unusedVariables false

/-- a sum of products: the numbers of a row from p on with those of a column, from q on, n apart -/
def prods (a b : List Int) (p q n : Nat) : Nat → Nat
  | 0 => 0
  | t + 1 => prods a b p q n t + (rd a ((p + t : Nat) : Int)).toNat * (rd b ((t * n + q : Nat) : Int)).toNat
theorem u64_rd {xs : List Int} (h : U64s xs) (i : Nat) (hi : i < xs.length) : ∃ m : Nat, rd xs (i : Int) = (m : Int) ∧ m < 18446744073709551616 := by
  have := h _ (rd_mem xs i hi)
  exact nat_of64 this.1 this.2
def entry_ (l : Nat) (a b : List Int) (k n q : Nat) : Int := ((prods a b (q / n * k) (q % n) n k % 2 ^ l : Nat) : Int)
/-- a product of matrices, row by row -/
def mm (l m k n : Nat) (a b : List Int) : List Int := (List.range (m * n)).map (entry_ l a b k n)
theorem mm_len (l m k n : Nat) (a b : List Int) : (mm l m k n a b).length = m * n := by simp [mm]
theorem mm_take (l m k n : Nat) (a b : List Int) (p : Nat) (h : p ≤ m * n) : (mm l m k n a b).take p = (List.range p).map (entry_ l a b k n) := by
  unfold mm
  rw [← List.map_take, List.take_range, Nat.min_eq_left h]
theorem mm_snoc (l m k n : Nat) (a b : List Int) (p : Nat) (h : p < m * n) : (mm l m k n a b).take p ++ [entry_ l a b k n p] = (mm l m k n a b).take (p + 1) := by
  rw [mm_take l m k n a b p (by omega), mm_take l m k n a b (p + 1) (by omega), List.range_succ, List.map_append]; rfl
theorem place (i j n : Nat) (h : j < n) : (i * n + j) / n = i ∧ (i * n + j) % n = j := by
  constructor
  · rw [Nat.mul_comm, Nat.mul_add_div (by omega), Nat.div_eq_of_lt h, Nat.add_zero]
  · rw [Nat.mul_comm, Nat.mul_add_mod, Nat.mod_eq_of_lt h]
theorem place_lt {i j m n : Nat} (hi : i < m) (hj : j < n) : i * n + j < m * n := by
  have : (i + 1) * n ≤ m * n := Nat.mul_le_mul_right n hi
  rw [Nat.succ_mul] at this
  omega
theorem sixes {i m : Nat} (h : i ≤ m) (hm : m ≤ 6) {n : Nat} (hn : n ≤ 6) : i * n ≤ 36 := Nat.le_trans (Nat.mul_le_mul (Nat.le_trans h hm) hn) (by decide)

theorem mulw (x y : Nat) (h : x * y ≤ 1000000) : wrap64 ((x : Int) * (y : Int)) = ((x * y : Nat) : Int) := by rw [← Int.natCast_mul]; exact w64 (by omega) (by omega)
theorem addw (x y : Nat) (h : x + y ≤ 1000000) : wrap64 ((x : Int) + (y : Int)) = ((x + y : Nat) : Int) := by rw [← Int.natCast_add]; exact w64 (by omega) (by omega)
theorem succw (x : Nat) (h : x ≤ 1000000) : wrap64 ((x : Int) + 1) = ((x + 1 : Nat) : Int) := by rw [w64 (by omega) (by omega)]; omega
section
variable (l m k n : Nat) (hl : l ≤ 64) (hm : m ≤ 6) (hk6 : k ≤ 6) (hn : n ≤ 6) (a b : List Int) (ha : U64s a) (hb : U64s b) (la : a.length = m * k) (lb : b.length = k * n)
include hl hm hk6 hn ha hb la lb
end
end Go.Proofs.Ytcmaidpoolcelaa.Lem
