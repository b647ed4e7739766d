/- Numbers and matrices multiplied: the program's way and the document's come to the same numbers. -/
import Derived.Test.YtcmaidpoolcelaaMrK2
import Derived.Test.YtcmaidpoolcelaaMrK3
import Derived.Test.YtcmaidpoolcelaaMrLemRing2
namespace Go.Proofs.Ytcmaidpoolcelaa.Lem
open Go.RowKit Go.Proofs.Ytcmaidpoolcelaa.P Go.Proofs.Ytcmaidpoolcelaa.Num Go.Proofs.YtcmaidpoolcelaaW.PrintWords Go.Proofs.YtcmaidpoolcelaaW.PrintMore
set_option linter.unusedVariables false

theorem mulstep (a b l i : Nat) (hl : l ≤ 64) : (a * (b % 2 ^ i) % 2 ^ l + a * 2 ^ i % 18446744073709551616) % 2 ^ l = a * (b % 2 ^ i + 2 ^ i) % 2 ^ l := by
  rw [add_mod64 hl, Nat.mod_add_mod, Nat.mul_add]
theorem dblmul (a i : Nat) : (a * 2 ^ i % 18446744073709551616 + a * 2 ^ i % 18446744073709551616) % 18446744073709551616 = a * 2 ^ (i + 1) % 18446744073709551616 := by
  rw [← Nat.add_mod, Nat.pow_succ, ← Nat.mul_assoc, Nat.mul_two]
theorem mul_loop (l a b : Nat) (hl : l ≤ 64) (ha : a < 18446744073709551616) (hb : b < 18446744073709551616) (d : Nat) : ∀ (k i : Nat), i + d = l → 2 * d + 103 < k →
    trefoilref03_Mul.l0 k (l : Int) ((a * 2 ^ i % 18446744073709551616 : Nat) : Int) (b : Int) ((a * (b % 2 ^ i) % 2 ^ l : Nat) : Int) (i : Int) = some ((a * b % 2 ^ l : Nat) : Int) := by
  induction d with
  | zero =>
    intro k i hi hk
    obtain ⟨k, rfl⟩ : ∃ q, k = q + 1 + 1 := ⟨k - 2, by omega⟩
    obtain ⟨K, hK⟩ : ∃ K, K = k + 1 := ⟨_, rfl⟩
    rw [← hK]
    simp only [trefoilref03_Mul.l0]
    rw [hK]
    obtain rfl : i = l := by omega
    have e : a * (b % 2 ^ i) % 2 ^ i = a * b % 2 ^ i := by rw [Nat.mul_mod_mod]
    have hlt : ¬ ((i : Int) < (i : Int)) := by omega
    by_cases h : (i : Int) < 64
    · rw [if_pos h, decide_eq_false hlt, e]
      simp only [trefoilref03_Mul.j1]
      rfl
    · rw [if_neg h, e]
      simp only [trefoilref03_Mul.j1]
      rfl
  | succ d ih =>
    intro k i hi hk
    obtain ⟨k, rfl⟩ : ∃ q, k = q + 1 + 1 := ⟨k - 2, by omega⟩
    obtain ⟨K, hK⟩ : ∃ K, K = k + 1 := ⟨_, rfl⟩
    rw [← hK]
    simp only [trefoilref03_Mul.l0]
    rw [hK]
    have hi64 : i < 64 := by omega
    have t1 : (i : Int) < 64 := by omega
    have t2 : (i : Int) < (l : Int) := by omega
    have t3 : (0 : Int) ≤ (i : Int) := by omega
    have hk2 : 2 * d + 103 < k := by omega
    have hk3 : 100 ≤ k := by omega
    have hi2 : i + 1 + d = l := by omega
    have nx := ih k (i + 1) hi2 hk2
    have e5 : wrap64 ((i : Int) + 1) = ((i + 1 : Nat) : Int) := by rw [w64 (by omega) (by omega)]; omega
    have m1 : a * 2 ^ i % 18446744073709551616 < 18446744073709551616 := Nat.mod_lt _ (by decide)
    have m2 : a * (b % 2 ^ i) % 2 ^ l < 18446744073709551616 := lt64 hl
    have a1 := add_r' k l _ _ hk3 hl m2 m1
    have a2 := add_r' k 64 _ _ hk3 (Nat.le_refl _) m1 m1
    rw [show ((64 : Nat) : Int) = 64 by rfl, show (2 : Nat) ^ 64 = 18446744073709551616 by decide, dblmul] at a2
    rw [mulstep a b l i hl] at a1
    rw [if_pos t1, decide_eq_true t2]
    simp only [trefoilref03_Mul.j1]
    have hbit : b / 2 ^ i % 2 < 2 := Nat.mod_lt _ (by decide)
    have hs := mod_pow_succ b i
    rw [if_pos trivial, wu64_nat' (n := i) (by omega), if_pos t3, shr_nat b i (by omega), tmod2_nat]
    by_cases hb1 : b / 2 ^ i % 2 = 1
    · rw [hb1, Nat.one_mul] at hs
      rw [hb1, if_pos (by rfl), a1, Option.bind_some, a2, Option.bind_some, e5, ← hs]
      exact nx
    · have hb0 : b / 2 ^ i % 2 = 0 := by omega
      rw [hb0, Nat.zero_mul] at hs
      rw [hs] at nx
      rw [hb0, if_neg (by decide), a2, Option.bind_some, e5]
      exact nx
theorem mul_r (k l a b : Nat) (hk : 300 ≤ k) (hl : l ≤ 64) (ha : a < 18446744073709551616) (hb : b < 18446744073709551616) : trefoilref03_Mul.f k (l : Int) (a : Int) (b : Int) = some ((a * b % 2 ^ l : Nat) : Int) := by
  have h := mul_loop l a b hl ha hb l k 0 (by omega) (by omega)
  rw [Nat.pow_zero, Nat.mul_one, Nat.mod_one, Nat.mul_zero, Nat.zero_mod, Nat.mod_eq_of_lt ha] at h
  exact h

/-- a sum of products: the numbers of a row from p on with those of a column, from q on, n apart -/
def prods (a b : List Int) (p q n : Nat) : Nat → Nat
  | 0 => 0
  | t + 1 => prods a b p q n t + (rd a ((p + t : Nat) : Int)).toNat * (rd b ((t * n + q : Nat) : Int)).toNat
theorem u64_rd {xs : List Int} (h : U64s xs) (i : Nat) (hi : i < xs.length) : ∃ m : Nat, rd xs (i : Int) = (m : Int) ∧ m < 18446744073709551616 := by
  have := h _ (rd_mem xs i hi)
  exact nat_of64 this.1 this.2
theorem sum_mod (x y l : Nat) : (x % 2 ^ l + y % 2 ^ l) % 2 ^ l = (x + y) % 2 ^ l := (Nat.add_mod _ _ _).symm

/-- the document's sum of products of two lists -/
theorem dot_loop (l : Nat) (hl : l ≤ 64) (a b c d : List Int) (p q n : Nat) (hc : U64s c) (hd : U64s d) (hlen : d.length = c.length) (hn : c.length ≤ 1000)
    (ec : ∀ t : Nat, t < c.length → rd c (t : Int) = rd a ((p + t : Nat) : Int)) (ed : ∀ t : Nat, t < c.length → rd d (t : Int) = rd b ((t * n + q : Nat) : Int)) (r : Nat) : ∀ (k i : Nat), i + r = c.length → r + 301 < k →
    trefoilref03_Dot.l0 k (l : Int) c d ((prods a b p q n i % 2 ^ l : Nat) : Int) (i : Int) = some (((prods a b p q n c.length % 2 ^ l : Nat) : Int), 0) := by
  induction r with
  | zero =>
    intro k i hi hk
    obtain ⟨k, rfl⟩ : ∃ q, k = q + 1 := ⟨k - 1, by omega⟩
    have t1 : ¬ ((i : Int) < (c.length : Int)) := by omega
    simp only [trefoilref03_Dot.l0]
    rw [if_neg t1, show i = c.length by omega]
  | succ r ih =>
    intro k i hi hk
    obtain ⟨k, rfl⟩ : ∃ q, k = q + 1 := ⟨k - 1, by omega⟩
    have hic : i < c.length := by omega
    have nx := ih k (i + 1) (by omega) (by omega)
    have t1 : (i : Int) < (c.length : Int) := by omega
    have t2 : (0 : Int) ≤ (i : Int) := by omega
    have t3 : (i : Int) < (d.length : Int) := by omega
    have hk3 : 300 ≤ k := by omega
    have hk4 : 100 ≤ k := by omega
    have e5 : wrap64 ((i : Int) + 1) = ((i + 1 : Nat) : Int) := by rw [w64 (by omega) (by omega)]; omega
    obtain ⟨x, ex, hx⟩ := u64_rd hc i hic
    obtain ⟨y, ey, hy⟩ := u64_rd hd i (by omega)
    have hs : prods a b p q n (i + 1) = prods a b p q n i + x * y := by
      show prods a b p q n i + _ * _ = _
      rw [← ec i hic, ← ed i hic, ex, ey]; rfl
    simp only [trefoilref03_Dot.l0]
    rw [if_pos t1, if_pos t2, if_pos t3, ex, ey, mul_r k l x y hk3 hl hx hy, Option.bind_some, add_r' k l _ _ hk4 hl (lt64 hl) (lt64 hl), Option.bind_some, sum_mod, ← hs, e5]
    exact nx
theorem dot_r (k l : Nat) (hk : 2000 ≤ k) (hl : l ≤ 64) (a b c d : List Int) (p q n : Nat) (hc : U64s c) (hd : U64s d) (hlen : d.length = c.length) (hn : c.length ≤ 1000)
    (ec : ∀ t : Nat, t < c.length → rd c (t : Int) = rd a ((p + t : Nat) : Int)) (ed : ∀ t : Nat, t < c.length → rd d (t : Int) = rd b ((t * n + q : Nat) : Int)) :
    trefoilref03_Dot.f k (l : Int) c d = some (((prods a b p q n c.length % 2 ^ l : Nat) : Int), 0) := by
  unfold trefoilref03_Dot.f
  rw [if_pos (by omega)]
  have h := dot_loop l hl a b c d p q n hc hd hlen hn ec ed c.length k 0 (by omega) (by omega)
  rw [show prods a b p q n 0 = 0 by rfl, Nat.zero_mod] at h
  exact h

def entry_ (l : Nat) (a b : List Int) (k n q : Nat) : Int := ((prods a b (q / n * k) (q % n) n k % 2 ^ l : Nat) : Int)
/-- a product of matrices, row by row -/
def mm (l m k n : Nat) (a b : List Int) : List Int := (List.range (m * n)).map (entry_ l a b k n)
theorem mm_len (l m k n : Nat) (a b : List Int) : (mm l m k n a b).length = m * n := by simp [mm]
theorem mm_take (l m k n : Nat) (a b : List Int) (p : Nat) (h : p ≤ m * n) : (mm l m k n a b).take p = (List.range p).map (entry_ l a b k n) := by
  unfold mm
  rw [← List.map_take, List.take_range, Nat.min_eq_left h]
theorem mm_snoc (l m k n : Nat) (a b : List Int) (p : Nat) (h : p < m * n) : (mm l m k n a b).take p ++ [entry_ l a b k n p] = (mm l m k n a b).take (p + 1) := by
  rw [mm_take l m k n a b p (by omega), mm_take l m k n a b (p + 1) (by omega), List.range_succ, List.map_append]; rfl
theorem place (i j n : Nat) (h : j < n) : (i * n + j) / n = i ∧ (i * n + j) % n = j := by
  constructor
  · rw [Nat.mul_comm, Nat.mul_add_div (by omega), Nat.div_eq_of_lt h, Nat.add_zero]
  · rw [Nat.mul_comm, Nat.mul_add_mod, Nat.mod_eq_of_lt h]
theorem place_lt {i j m n : Nat} (hi : i < m) (hj : j < n) : i * n + j < m * n := by
  have : (i + 1) * n ≤ m * n := Nat.mul_le_mul_right n hi
  rw [Nat.succ_mul] at this
  omega
theorem sixes {i m : Nat} (h : i ≤ m) (hm : m ≤ 6) {n : Nat} (hn : n ≤ 6) : i * n ≤ 36 := Nat.le_trans (Nat.mul_le_mul (Nat.le_trans h hm) hn) (by decide)

/-- the document's column -/
def colOf (b : List Int) (n q t : Nat) : List Int := (List.range t).map fun s => rd b ((s * n + q : Nat) : Int)
theorem col_len (b : List Int) (n q t : Nat) : (colOf b n q t).length = t := by simp [colOf]
theorem col_snoc (b : List Int) (n q t : Nat) : colOf b n q t ++ [rd b ((t * n + q : Nat) : Int)] = colOf b n q (t + 1) := by
  unfold colOf; rw [List.range_succ, List.map_append]; rfl
theorem col_rd (b : List Int) (n q t s : Nat) (h : s < t) : rd (colOf b n q t) (s : Int) = rd b ((s * n + q : Nat) : Int) := by
  have hl : s < (colOf b n q t).length := by rw [col_len]; exact h
  show (colOf b n q t).getD (s : Int).toNat 0 = _
  rw [Int.toNat_natCast, List.getD_eq_getElem?_getD, List.getElem?_eq_getElem hl]
  simp [colOf]
theorem col_u64 (b : List Int) (hb : U64s b) (n q t : Nat) (hq : ∀ s, s < t → s * n + q < b.length) : U64s (colOf b n q t) := by
  intro x hx
  unfold colOf at hx
  obtain ⟨s, hs, rfl⟩ := List.mem_map.1 hx
  exact hb _ (rd_mem b _ (hq s (List.mem_range.1 hs)))

theorem cut_len (a : List Int) (p k : Nat) (h : p + k ≤ a.length) : ((a.take (p + k)).drop p).length = k := by
  rw [List.length_drop, List.length_take]; omega
theorem cut_rd (a : List Int) (p k t : Nat) (h : p + k ≤ a.length) (ht : t < k) : rd ((a.take (p + k)).drop p) (t : Int) = rd a ((p + t : Nat) : Int) := by
  show ((a.take (p + k)).drop p).getD (t : Int).toNat 0 = a.getD (((p + t : Nat) : Int)).toNat 0
  rw [Int.toNat_natCast, Int.toNat_natCast, List.getD_eq_getElem?_getD, List.getD_eq_getElem?_getD, List.getElem?_drop, List.getElem?_take]
  rw [if_pos (by omega)]
theorem cut_u64 (a : List Int) (ha : U64s a) (p k : Nat) : U64s ((a.take (p + k)).drop p) := fun x hx => ha x (List.mem_of_mem_take (List.mem_of_mem_drop hx))

theorem mulw (x y : Nat) (h : x * y ≤ 1000000) : wrap64 ((x : Int) * (y : Int)) = ((x * y : Nat) : Int) := by rw [← Int.natCast_mul]; exact w64 (by omega) (by omega)
theorem addw (x y : Nat) (h : x + y ≤ 1000000) : wrap64 ((x : Int) + (y : Int)) = ((x + y : Nat) : Int) := by rw [← Int.natCast_add]; exact w64 (by omega) (by omega)
theorem succw (x : Nat) (h : x ≤ 1000000) : wrap64 ((x : Int) + 1) = ((x + 1 : Nat) : Int) := by rw [w64 (by omega) (by omega)]; omega
section
variable (l m k n : Nat) (hl : l ≤ 64) (hm : m ≤ 6) (hk6 : k ≤ 6) (hn : n ≤ 6) (a b : List Int) (ha : U64s a) (hb : U64s b) (la : a.length = m * k) (lb : b.length = k * n)
include hl hm hk6 hn ha hb la lb
theorem rmm_col (i j : Nat) (hi : i < m) (hj : j < n) (out : List Int) (ho : out.length ≤ 40) (d : Nat) : ∀ (f t : Nat), t + d = k → d + 2100 < f →
    trefoilref03_MatMul.l2 f (l : Int) (m : Int) (k : Int) (n : Int) a b out (i : Int) (j : Int) (colOf b n j t) (t : Int) =
      trefoilref03_MatMul.l1 (f - d - 1) (l : Int) (m : Int) (k : Int) (n : Int) a b (out ++ [entry_ l a b k n (i * n + j)]) (i : Int) ((j + 1 : Nat) : Int) := by
  induction d with
  | zero =>
    intro f t ht hf
    obtain ⟨f, rfl⟩ : ∃ q, f = q + 1 := ⟨f - 1, by omega⟩
    obtain rfl : t = k := by omega
    have t1 : ¬ ((t : Int) < (t : Int)) := by omega
    have c1 : i * t ≤ 36 := sixes (Nat.le_of_lt hi) hm hk6
    have c2 : (i + 1) * t ≤ m * t := Nat.mul_le_mul_right t hi
    rw [Nat.succ_mul] at c2
    have b1 : i * t ≤ 1000000 := by omega
    have b2 : i * t + t ≤ 1000000 := by omega
    have b3 : j ≤ 1000000 := by omega
    have t2 : (0 : Int) ≤ ((i * t : Nat) : Int) := by omega
    have t3 : ((i * t : Nat) : Int) ≤ ((i * t + t : Nat) : Int) := by omega
    have t4 : ((i * t + t : Nat) : Int) ≤ (a.length : Int) := by omega
    have t5 : out.length < 17592186044416 := by omega
    have cl := cut_len a (i * t) t (by omega)
    have hq : ∀ s, s < t → s * n + j < b.length := fun s hs => by rw [lb]; exact place_lt hs hj
    have dt := dot_r f l (by omega) hl a b ((a.take (i * t + t)).drop (i * t)) (colOf b n j t) (i * t) j n (cut_u64 a ha _ _) (col_u64 b hb n j t hq) (by rw [col_len, cl]) (by omega)
      (fun s hs => cut_rd a (i * t) t s (by omega) (by omega)) (fun s hs => col_rd b n j t s (by omega))
    rw [cl] at dt
    have pl := place i j n hj
    have en : entry_ l a b t n (i * n + j) = ((prods a b (i * t) j n t % 2 ^ l : Nat) : Int) := by unfold entry_; rw [pl.1, pl.2]
    simp only [trefoilref03_MatMul.l2]
    rw [if_neg t1, mulw i t b1, addw (i * t) t b2, if_pos t2, if_pos t3, if_pos t4, Int.toNat_natCast, Int.toNat_natCast, dt, Option.bind_some, if_pos t5, succw j b3, en]
    rfl
  | succ d ih =>
    intro f t ht hf
    obtain ⟨f, rfl⟩ : ∃ q, f = q + 1 := ⟨f - 1, by omega⟩
    have nx := ih f (t + 1) (by omega) (by omega)
    have htk : t < k := by omega
    have t1 : (t : Int) < (k : Int) := by omega
    have c1 : t * n ≤ 36 := sixes (Nat.le_of_lt htk) hk6 hn
    have c2 := place_lt htk hj
    have b1 : t * n ≤ 1000000 := by omega
    have b2 : t * n + j ≤ 1000000 := by omega
    have b3 : t ≤ 1000000 := by omega
    have t2 : (0 : Int) ≤ ((t * n + j : Nat) : Int) := by omega
    have t3 : ((t * n + j : Nat) : Int) < (b.length : Int) := by omega
    have t4 : (colOf b n j t).length < 17592186044416 := by rw [col_len]; omega
    have ef : f - d - 1 = f + 1 - (d + 1) - 1 := by omega
    simp only [trefoilref03_MatMul.l2]
    rw [if_pos t1, mulw t n b1, addw (t * n) j b2, if_pos t2, if_pos t3, if_pos t4, col_snoc, succw t b3, nx, ef]
theorem rmm_row (i : Nat) (hi : i < m) (d : Nat) : ∀ (f j : Nat), j + d = n → d * (k + 2) + 2200 < f →
    trefoilref03_MatMul.l1 f (l : Int) (m : Int) (k : Int) (n : Int) a b ((mm l m k n a b).take (i * n + j)) (i : Int) (j : Int) =
      trefoilref03_MatMul.l0 (f - d * (k + 2) - 1) (l : Int) (m : Int) (k : Int) (n : Int) a b ((mm l m k n a b).take ((i + 1) * n)) ((i + 1 : Nat) : Int) := by
  induction d with
  | zero =>
    intro f j hj hf
    obtain ⟨f, rfl⟩ : ∃ q, f = q + 1 := ⟨f - 1, by omega⟩
    obtain rfl : j = n := by omega
    have t1 : ¬ ((j : Int) < (j : Int)) := by omega
    have b3 : i ≤ 1000000 := by omega
    simp only [trefoilref03_MatMul.l1]
    rw [if_neg t1, succw i b3, Nat.succ_mul, Nat.zero_mul]
    rfl
  | succ d ih =>
    intro f j hj hf
    rw [Nat.succ_mul] at hf
    obtain ⟨f, rfl⟩ : ∃ q, f = q + 1 := ⟨f - 1, by omega⟩
    have hjn : j < n := by omega
    have t1 : (j : Int) < (n : Int) := by omega
    have c2 := place_lt hi hjn
    have c3 := sixes (Nat.le_refl m) hm hn
    have cl := rmm_col l m k n hl hm hk6 hn a b ha hb la lb i j hi hjn ((mm l m k n a b).take (i * n + j)) (by rw [List.length_take]; omega) k f 0 (by omega) (by omega)
    have nx := ih (f - k - 1) (j + 1) (by omega) (by omega)
    have ef : f - k - 1 - d * (k + 2) - 1 = f + 1 - (d + 1) * (k + 2) - 1 := by rw [Nat.succ_mul]; omega
    simp only [trefoilref03_MatMul.l1]
    rw [if_pos t1]
    refine cl.trans ?_
    rw [mm_snoc l m k n a b _ c2, Nat.add_assoc, nx, ef]
theorem rmm_loop (d : Nat) : ∀ (f i : Nat), i + d = m → d * (n * (k + 2) + 2) + 2300 < f →
    trefoilref03_MatMul.l0 f (l : Int) (m : Int) (k : Int) (n : Int) a b ((mm l m k n a b).take (i * n)) (i : Int) = some (mm l m k n a b, 0) := by
  induction d with
  | zero =>
    intro f i hi hf
    obtain ⟨f, rfl⟩ : ∃ q, f = q + 1 := ⟨f - 1, by omega⟩
    obtain rfl : i = m := by omega
    have t1 : ¬ ((i : Int) < (i : Int)) := by omega
    simp only [trefoilref03_MatMul.l0]
    rw [if_neg t1, List.take_of_length_le (by rw [mm_len]; exact Nat.le_refl _)]
  | succ d ih =>
    intro f i hi hf
    rw [Nat.succ_mul] at hf
    obtain ⟨f, rfl⟩ : ∃ q, f = q + 1 := ⟨f - 1, by omega⟩
    have him : i < m := by omega
    have t1 : (i : Int) < (m : Int) := by omega
    have rw_ := rmm_row l m k n hl hm hk6 hn a b ha hb la lb i him n f 0 (by omega) (by omega)
    have nx := ih (f - n * (k + 2) - 1) (i + 1) (by omega) (by omega)
    rw [Nat.add_zero] at rw_
    simp only [trefoilref03_MatMul.l0]
    rw [if_pos t1]
    exact rw_.trans nx
end
theorem rmm_f (f l m k n : Nat) (hf : 5000 ≤ f) (h1 : 1 ≤ l) (hl : l ≤ 64) (hm1 : 1 ≤ m) (hm : m ≤ 6) (hk1 : 1 ≤ k) (hk : k ≤ 6) (hn1 : 1 ≤ n) (hn : n ≤ 6) (a b : List Int) (ha : U64s a) (hb : U64s b) (la : a.length = m * k) (lb : b.length = k * n) :
    trefoilref03_MatMul.f f (l : Int) (m : Int) (k : Int) (n : Int) a b = some (mm l m k n a b, 0) := by
  have c1 := sixes (Nat.le_refl m) hm hk
  have c2 := sixes (Nat.le_refl k) hk hn
  have c3 : n * (k + 2) ≤ 48 := Nat.le_trans (Nat.mul_le_mul hn (show k + 2 ≤ 8 by omega)) (by decide)
  have c4 : m * (n * (k + 2) + 2) ≤ 300 := Nat.le_trans (Nat.mul_le_mul hm (show n * (k + 2) + 2 ≤ 50 by omega)) (by decide)
  have b1 : m * k ≤ 1000000 := by omega
  have b2 : k * n ≤ 1000000 := by omega
  have g : trefoilref03_Good.f (l : Int) = some true := by unfold trefoilref03_Good.f; rw [if_pos (by omega), decide_eq_true (by omega)]
  have s1 : trefoilref03_Sized.f (m : Int) (k : Int) = some true := by unfold trefoilref03_Sized.f; rw [if_pos (by omega), if_pos (by omega), if_pos (by omega), decide_eq_true (by omega)]
  have s2 : trefoilref03_Sized.f (k : Int) (n : Int) = some true := by unfold trefoilref03_Sized.f; rw [if_pos (by omega), if_pos (by omega), if_pos (by omega), decide_eq_true (by omega)]
  have hle : (a.length : Int) = ((m * k : Nat) : Int) := by omega
  have hne : ((b.length : Int) != ((k * n : Nat) : Int)) = false := by rw [bne_eq_false_iff_eq]; omega
  obtain ⟨f, rfl⟩ : ∃ q, f = q + 1 := ⟨f - 1, by omega⟩
  have lp := rmm_loop l m k n hl hm hk hn a b ha hb la lb m f 0 (by omega) (by omega)
  rw [Nat.zero_mul, List.take_zero] at lp
  unfold trefoilref03_MatMul.f
  rw [g, Option.bind_some, if_pos rfl, s1, Option.bind_some, if_pos rfl, s2, Option.bind_some, if_pos rfl, mulw m k b1, if_pos hle, mulw k n b2, hne]
  simp only [trefoilref03_MatMul.j0]
  exact lp
end Go.Proofs.Ytcmaidpoolcelaa.Lem
