/- Which two shares come to a triple: the program's way and the document's. -/
import Derived.Test.YtcmaidpoolcelaaCmK4
import Derived.Test.YtcmaidpoolcelaaCmK5
import Derived.Test.YtcmaidpoolcelaaCmK6
import Derived.Test.YtcmaidpoolcelaaCmLemMul
import Derived.Test.YtcmaidpoolcelaaCmLemFits
import Derived.Test.YtcmaidpoolcelaaCmLemRing2
import Derived.Test.YtcmaidpoolcelaaCmPx0
import Derived.Test.YtcmaidpoolcelaaCmNum
namespace Go.Proofs.Ytcmaidpoolcelaa.Lem
open Go.RowKit Go.Proofs.Ytcmaidpoolcelaa.P Go.Proofs.Ytcmaidpoolcelaa.Num Go.Proofs.YtcmaidpoolcelaaW.PrintWords Go.Proofs.YtcmaidpoolcelaaW.PrintMore
set_option linter.unusedVariables false

theorem fit_f (l : Nat) (h1l : 1 ≤ l) (hl : l ≤ 64) (s : Nat) (hs : s < 18446744073709551616) : ring_Fit.f (l : Int) (s : Int) = some ((s % 2 ^ l : Nat) : Int) := by
  unfold ring_Fit.f
  rw [mask_f l h1l hl, Option.bind_some, and_mask_nat s l hs hl]
/-! the program's product of matrices -/
section
variable (l m k n : Nat) (h1l : 1 ≤ l) (hl : l ≤ 64) (hm : m ≤ 6) (hk6 : k ≤ 6) (hn : n ≤ 6) (a b : List Int) (ha : U64s a) (hb : U64s b) (la : a.length = m * k) (lb : b.length = k * n)
include h1l hl hm hk6 hn ha hb la lb
/-- what stands when the first p entries are made -/
def made (p : Nat) : List Int := (mm l m k n a b).take p ++ List.replicate (m * n - p) 0
omit h1l hl hm hk6 hn ha hb la lb in
theorem made_len (p : Nat) (h : p ≤ m * n) : (made l m k n a b p).length = m * n := by
  unfold made
  rw [List.length_append, List.length_replicate, List.length_take, mm_len]; omega
omit h1l hl hm hk6 hn ha hb la lb in
theorem made_set (p : Nat) (h : p < m * n) : (made l m k n a b p).set p (entry_ l a b k n p) = made l m k n a b (p + 1) := by
  unfold made
  have ht : ((mm l m k n a b).take p).length = p := by rw [List.length_take, mm_len]; omega
  rw [List.set_append_right _ _ (by omega), ht, Nat.sub_self, ← mm_snoc l m k n a b p h]
  obtain ⟨q, hq⟩ : ∃ q, m * n - p = q + 1 := ⟨m * n - p - 1, by omega⟩
  have hq2 : m * n - (p + 1) = q := by omega
  rw [hq, hq2, List.replicate_succ, List.set_cons_zero, List.append_assoc]
  rfl
omit h1l hl in
theorem gmm_in (i j : Nat) (hi : i < m) (hj : j < n) (out : List Int) (c0 c1 c2 c3 : Int) (d : Nat) : ∀ (f t : Nat), t + d = k → d + 10 < f →
    ring_MatMul.l2 f (l : Int) (k : Int) (n : Int) a b out (i : Int) (j : Int) ((prods a b (i * k) j n t % 18446744073709551616 : Nat) : Int) c0 c1 c2 c3 (k : Int) (t : Int) =
      (ring_Fit.f (l : Int) ((prods a b (i * k) j n k % 18446744073709551616 : Nat) : Int)).bind fun t327 => (if 0 ≤ (wrap64 ((wrap64 ((i : Int) * (n : Int))) + (j : Int))) then (if (wrap64 ((wrap64 ((i : Int) * (n : Int))) + (j : Int))) < (out.length : Int) then (ring_MatMul.l1 (f - d - 1) (l : Int) (k : Int) (n : Int) a b (out.set ((wrap64 ((wrap64 ((i : Int) * (n : Int))) + (j : Int))) : Int).toNat t327) (i : Int) c0 c1 c2 (wrap64 (c3 + 1))) else (none)) else (none)) := by
  induction d with
  | zero =>
    intro f t ht hf
    obtain ⟨f, rfl⟩ : ∃ q, f = q + 1 := ⟨f - 1, by omega⟩
    obtain rfl : t = k := by omega
    have t1 : ¬ ((t : Int) < (t : Int)) := by omega
    simp only [ring_MatMul.l2]
    rw [if_neg t1]
    rfl
  | succ d ih =>
    intro f t ht hf
    obtain ⟨f, rfl⟩ : ∃ q, f = q + 1 := ⟨f - 1, by omega⟩
    have nx := ih f (t + 1) (by omega) (by omega)
    have htk : t < k := by omega
    have t1 : (t : Int) < (k : Int) := by omega
    have c1' : i * k ≤ 36 := sixes (Nat.le_of_lt hi) hm hk6
    have c2' : t * n ≤ 36 := sixes (Nat.le_of_lt htk) hk6 hn
    have c3' := place_lt hi htk
    have c4' := place_lt htk hj
    have b1 : i * k ≤ 1000000 := by omega
    have b2 : i * k + t ≤ 1000000 := by omega
    have b3 : t * n ≤ 1000000 := by omega
    have b4 : t * n + j ≤ 1000000 := by omega
    have b5 : t ≤ 1000000 := by omega
    have t2 : (0 : Int) ≤ ((i * k + t : Nat) : Int) := by omega
    have t3 : ((i * k + t : Nat) : Int) < (a.length : Int) := by omega
    have t4 : (0 : Int) ≤ ((t * n + j : Nat) : Int) := by omega
    have t5 : ((t * n + j : Nat) : Int) < (b.length : Int) := by omega
    obtain ⟨x, ex, hx⟩ := u64_rd ha (i * k + t) (by omega)
    obtain ⟨y, ey, hy⟩ := u64_rd hb (t * n + j) (by omega)
    have hs : prods a b (i * k) j n (t + 1) = prods a b (i * k) j n t + x * y := by
      show prods a b (i * k) j n t + _ * _ = _
      rw [ex, ey]; rfl
    have ew : IntKind.u64.wrap (((prods a b (i * k) j n t % 18446744073709551616 : Nat) : Int) + IntKind.u64.wrap ((x : Int) * (y : Int))) = ((prods a b (i * k) j n (t + 1) % 18446744073709551616 : Nat) : Int) := by
      rw [← Int.natCast_mul, wu64_nat, ← Int.natCast_add, wu64_nat, hs, ← Nat.add_mod]
    have ef : f - d - 1 = f + 1 - (d + 1) - 1 := by omega
    simp only [ring_MatMul.l2]
    rw [if_pos t1, mulw i k b1, addw (i * k) t b2, if_pos t2, if_pos t3, mulw t n b3, addw (t * n) j b4, if_pos t4, if_pos t5, ex, ey, ew, succw t b5, nx, ef]
theorem gmm_col (i : Nat) (hi : i < m) (c0 c1 : Int) (d : Nat) : ∀ (f j : Nat), j + d = n → d * (k + 2) + 30 < f →
    ring_MatMul.l1 f (l : Int) (k : Int) (n : Int) a b (made l m k n a b (i * n + j)) (i : Int) c0 c1 (n : Int) (j : Int) =
      ring_MatMul.l0 (f - d * (k + 2) - 1) (l : Int) (k : Int) (n : Int) a b (made l m k n a b ((i + 1) * n)) c0 (wrap64 (c1 + 1)) := by
  induction d with
  | zero =>
    intro f j hj hf
    obtain ⟨f, rfl⟩ : ∃ q, f = q + 1 := ⟨f - 1, by omega⟩
    obtain rfl : j = n := by omega
    have t1 : ¬ ((j : Int) < (j : Int)) := by omega
    simp only [ring_MatMul.l1]
    rw [if_neg t1, Nat.succ_mul, Nat.zero_mul]
    rfl
  | succ d ih =>
    intro f j hj hf
    rw [Nat.succ_mul] at hf
    obtain ⟨f, rfl⟩ : ∃ q, f = q + 1 := ⟨f - 1, by omega⟩
    have hjn : j < n := by omega
    have t1 : (j : Int) < (n : Int) := by omega
    have c2 := place_lt hi hjn
    have c3 := sixes (Nat.le_refl m) hm hn
    have b1 : i * n ≤ 1000000 := by omega
    have b2 : i * n + j ≤ 1000000 := by omega
    have b3 : j ≤ 1000000 := by omega
    have t2 : (0 : Int) ≤ ((i * n + j : Nat) : Int) := by omega
    have t3 : ((i * n + j : Nat) : Int) < ((made l m k n a b (i * n + j)).length : Int) := by rw [made_len l m k n a b _ (by omega)]; omega
    have cl := gmm_in l m k n hm hk6 hn a b ha hb la lb i j hi hjn (made l m k n a b (i * n + j)) c0 c1 (n : Int) (j : Int) k f 0 (by omega) (by omega)
    have nx := ih (f - k - 1) (j + 1) (by omega) (by omega)
    have ft := fit_f l h1l hl _ (Nat.mod_lt (prods a b (i * k) j n k) (show 0 < 18446744073709551616 by decide))
    rw [mod64 hl] at ft
    have pl := place i j n hjn
    have en : ((prods a b (i * k) j n k % 2 ^ l : Nat) : Int) = entry_ l a b k n (i * n + j) := by unfold entry_; rw [pl.1, pl.2]
    have ef : f - k - 1 - d * (k + 2) - 1 = f + 1 - (d + 1) * (k + 2) - 1 := by rw [Nat.succ_mul]; omega
    simp only [ring_MatMul.l1]
    rw [if_pos t1]
    refine cl.trans ?_
    rw [ft, Option.bind_some, mulw i n b1, addw (i * n) j b2, if_pos t2, if_pos t3, Int.toNat_natCast, en, made_set l m k n a b _ c2, succw j b3, Nat.add_assoc, nx, ef]
theorem gmm_loop (d : Nat) : ∀ (f i : Nat), i + d = m → d * (n * (k + 2) + 2) + 60 < f →
    ring_MatMul.l0 f (l : Int) (k : Int) (n : Int) a b (made l m k n a b (i * n)) (m : Int) (i : Int) = some (mm l m k n a b, 0) := by
  induction d with
  | zero =>
    intro f i hi hf
    obtain ⟨f, rfl⟩ : ∃ q, f = q + 1 := ⟨f - 1, by omega⟩
    obtain rfl : i = m := by omega
    have t1 : ¬ ((i : Int) < (i : Int)) := by omega
    simp only [ring_MatMul.l0]
    rw [if_neg t1]
    unfold made
    rw [Nat.sub_self, List.replicate_zero, List.append_nil, List.take_of_length_le (by rw [mm_len]; exact Nat.le_refl _)]
  | succ d ih =>
    intro f i hi hf
    rw [Nat.succ_mul] at hf
    obtain ⟨f, rfl⟩ : ∃ q, f = q + 1 := ⟨f - 1, by omega⟩
    have him : i < m := by omega
    have t1 : (i : Int) < (m : Int) := by omega
    have b3 : i ≤ 1000000 := by omega
    have rw_ := gmm_col l m k n h1l hl hm hk6 hn a b ha hb la lb i him (m : Int) (i : Int) n f 0 (by omega) (by omega)
    have nx := ih (f - n * (k + 2) - 1) (i + 1) (by omega) (by omega)
    rw [Nat.add_zero, succw i b3] at rw_
    simp only [ring_MatMul.l0]
    rw [if_pos t1]
    exact rw_.trans nx
end
theorem gmm_f (f l m k n : Nat) (hf : 1000 ≤ f) (h1 : 1 ≤ l) (hl : l ≤ 64) (hm1 : 1 ≤ m) (hm : m ≤ 6) (hk1 : 1 ≤ k) (hk : k ≤ 6) (hn1 : 1 ≤ n) (hn : n ≤ 6) (a b : List Int) (ha : U64s a) (hb : U64s b) (la : a.length = m * k) (lb : b.length = k * n) :
    ring_MatMul.f f (l : Int) (m : Int) (k : Int) (n : Int) a b = some (mm l m k n a b, 0) := by
  have c1 := sixes (Nat.le_refl m) hm hk
  have c2 := sixes (Nat.le_refl k) hk hn
  have c5 := sixes (Nat.le_refl m) hm hn
  have c3 : n * (k + 2) ≤ 48 := Nat.le_trans (Nat.mul_le_mul hn (show k + 2 ≤ 8 by omega)) (by decide)
  have c4 : m * (n * (k + 2) + 2) ≤ 300 := Nat.le_trans (Nat.mul_le_mul hm (show n * (k + 2) + 2 ≤ 50 by omega)) (by decide)
  have b1 : m * k ≤ 1000000 := by omega
  have b2 : k * n ≤ 1000000 := by omega
  have b3 : m * n ≤ 1000000 := by omega
  have s1 : ring_sized.f (m : Int) (k : Int) = some true := by unfold ring_sized.f; rw [if_pos (by omega), if_pos (by omega), if_pos (by omega), decide_eq_true (by omega)]
  have s2 : ring_sized.f (k : Int) (n : Int) = some true := by unfold ring_sized.f; rw [if_pos (by omega), if_pos (by omega), if_pos (by omega), decide_eq_true (by omega)]
  have hle : (a.length : Int) = ((m * k : Nat) : Int) := by omega
  have hle2 : (b.length : Int) = ((k * n : Nat) : Int) := by omega
  have hp : 2 ^ 1 ≤ 2 ^ l := Nat.pow_le_pow_right (n := 2) (by decide) h1
  have hm0 : (((2 ^ l - 1 : Nat) : Int) == 0) = false := by rw [beq_eq_false_iff_ne]; omega
  have t2 : (0 : Int) ≤ ((m * n : Nat) : Int) := by omega
  have t3 : m * n ≤ 35184372088832 := by omega
  obtain ⟨f, rfl⟩ : ∃ q, f = q + 1 := ⟨f - 1, by omega⟩
  have lp := gmm_loop l m k n h1 hl hm hk hn a b ha hb la lb m f 0 (by omega) (by omega)
  rw [Nat.zero_mul] at lp
  unfold ring_MatMul.f
  rw [s1, Option.bind_some, if_pos rfl, s2, Option.bind_some, if_pos rfl, mulw m k b1, if_pos hle, mulw k n b2, if_pos hle2, mask_f l h1 hl, Option.bind_some, hm0]
  simp only [ring_MatMul.j0]
  rw [if_neg (by decide), mulw m n b3, if_pos t2, Int.toNat_natCast, if_pos t3]
  unfold made at lp
  rw [List.take_zero, List.nil_append, Nat.sub_zero] at lp
  exact lp

/-! two lists added -/
def sumAll (l : Nat) (xs ys : List Int) : List Int := addsTo (l : Int) xs ys xs.length xs.length
theorem addOf_nat (l x y : Nat) (h0 : 1 ≤ l) (h1 : l ≤ 64) : addOf (l : Int) (x : Int) (y : Int) = (((x + y) % 2 ^ l : Nat) : Int) := by
  have h := addOf_eq (l : Int) (x : Int) (y : Int)
  rw [add_f l x y h0 h1] at h
  exact (Option.some.inj h).symm
theorem sumAll_len (l : Nat) (xs ys : List Int) : (sumAll l xs ys).length = xs.length := addsTo_len ..
theorem sumAll_rd (l : Nat) (xs ys : List Int) (i : Nat) (h : i < xs.length) : (sumAll l xs ys)[i]'(by rw [sumAll_len]; exact h) = addOf (l : Int) (rd xs i) (rd ys i) := by
  simp only [sumAll, addsTo, List.getElem_map, List.getElem_range]
  rw [if_pos h]
theorem sumAll_low (l : Nat) (h0 : 1 ≤ l) (h1 : l ≤ 64) (xs ys : List Int) (hx : U64s xs) (hy : U64s ys) (hl : ys.length = xs.length) : ∀ x ∈ sumAll l xs ys, 0 ≤ x ∧ x < ((2 ^ l : Nat) : Int) := by
  intro x hm
  obtain ⟨i, hi, rfl⟩ := List.getElem_of_mem hm
  have hi' : i < xs.length := by rw [sumAll_len] at hi; exact hi
  rw [sumAll_rd l xs ys i hi']
  obtain ⟨p, ep, _⟩ := u64_rd hx i hi'
  obtain ⟨q, eq, _⟩ := u64_rd hy i (by omega)
  rw [ep, eq, addOf_nat l p q h0 h1]
  have := Nat.mod_lt (p + q) (pow_pos l)
  omega
theorem low_u64 {l : Nat} (h1 : l ≤ 64) {xs : List Int} (h : ∀ x ∈ xs, 0 ≤ x ∧ x < ((2 ^ l : Nat) : Int)) : U64s xs := fun x hx => by
  have := h x hx
  have hp := pow_le_64 h1
  omega
theorem addall_f (l : Nat) (xs ys : List Int) (hl : ys.length = xs.length) (hn : xs.length ≤ 1000) : ring_AddAll.f (l : Int) xs ys = some (sumAll l xs ys, 0) := by
  unfold ring_AddAll.f
  rw [if_pos (by omega), if_pos (by omega)]; rfl
/-! two lists held against each other -/
theorem drop_eq (xs ys : List Int) (i : Nat) (h : i < xs.length) (h' : i < ys.length) : decide (xs.drop i = ys.drop i) = (decide (rd xs (i : Int) = rd ys (i : Int)) && decide (xs.drop (i + 1) = ys.drop (i + 1))) := by
  rw [rd_drop xs i h, rd_drop ys i h']
  simp only [List.cons.injEq]
  rw [Bool.decide_and]
theorem held_loop (xs ys : List Int) (hl : ys.length = xs.length) (hn : xs.length ≤ 1000) (d : Nat) : ∀ (k i : Nat), i + d = xs.length → d < k →
    matrix_Right.l0 k ys xs (xs.length : Int) (i : Int) = some (decide (xs.drop i = ys.drop i)) := by
  induction d with
  | zero =>
    intro k i hi hk
    obtain ⟨k, rfl⟩ : ∃ q, k = q + 1 := ⟨k - 1, by omega⟩
    have t1 : ¬ ((i : Int) < (xs.length : Int)) := by omega
    simp only [matrix_Right.l0]
    rw [if_neg t1, List.drop_eq_nil_of_le (by omega), List.drop_eq_nil_of_le (by omega)]
    rfl
  | succ d ih =>
    intro k i hi hk
    obtain ⟨k, rfl⟩ : ∃ q, k = q + 1 := ⟨k - 1, by omega⟩
    have hil : i < xs.length := by omega
    have nx := ih k (i + 1) (by omega) (by omega)
    have t1 : (i : Int) < (xs.length : Int) := by omega
    have t2 : (i : Int) < (ys.length : Int) := by omega
    have t3 : (0 : Int) ≤ (i : Int) := by omega
    have b : i ≤ 1000000 := by omega
    simp only [matrix_Right.l0]
    rw [if_pos t1, if_pos t3, if_pos t1, if_pos t2, drop_eq xs ys i hil (by omega)]
    by_cases e : rd xs (i : Int) = rd ys (i : Int)
    · rw [if_pos e, decide_eq_true e, Bool.true_and, succw i b, nx]
    · rw [if_neg e, decide_eq_false e, Bool.false_and]

/-! which two come to a triple -/
def tripleOf (l m k n : Nat) (a b d e f g : List Int) : Bool := decide (mm l m k n (sumAll l a e) (sumAll l b f) = sumAll l d g)
section
variable (q l m k n : Nat) (hq : 20000 ≤ q) (h1 : 1 ≤ l) (hl : l ≤ 64) (hm1 : 1 ≤ m) (hm : m ≤ 6) (hk1 : 1 ≤ k) (hk : k ≤ 6) (hn1 : 1 ≤ n) (hn : n ≤ 6) (a b d e f g : List Int) (ha : U64s a) (hb : U64s b) (hd : U64s d) (he : U64s e) (hf : U64s f) (hg : U64s g)
  (la : a.length = m * k) (lb : b.length = k * n) (ld : d.length = m * n) (le : e.length = m * k) (lf : f.length = k * n) (lg : g.length = m * n)
include hq h1 hl hm1 hm hk1 hk hn1 hn ha hb hd he hf hg la lb ld le lf lg
omit hd hg in
theorem right_m (c0 : Int) : matrix_Right.j0 (q + 1) false c0 (l : Int) (m : Int) (k : Int) (n : Int) a b d e f g = some (tripleOf l m k n a b d e f g) := by
  have c1 := sixes (Nat.le_refl m) hm hk
  have c2 := sixes (Nat.le_refl k) hk hn
  have c5 := sixes (Nat.le_refl m) hm hn
  have u1 := low_u64 hl (sumAll_low l h1 hl a e ha he (by omega))
  have u2 := low_u64 hl (sumAll_low l h1 hl b f hb hf (by omega))
  have g1 := gmm_f q l m k n (by omega) h1 hl hm1 hm hk1 hk hn1 hn (sumAll l a e) (sumAll l b f) u1 u2 (by rw [sumAll_len]; exact la) (by rw [sumAll_len]; exact lb)
  have hp := held_loop (mm l m k n (sumAll l a e) (sumAll l b f)) (sumAll l d g) (by rw [mm_len, sumAll_len]; omega) (by rw [mm_len]; omega) (m * n) q 0 (by rw [mm_len]; omega) (by omega)
  rw [List.drop_zero, List.drop_zero] at hp
  simp only [matrix_Right.j0]
  rw [if_neg (by decide), addall_f l a e (by omega) (by omega), addall_f l b f (by omega) (by omega), addall_f l d g (by omega) (by omega), Option.bind_some, Option.bind_some, Option.bind_some, g1, Option.bind_some, if_pos rfl]
  exact hp
end
end Go.Proofs.Ytcmaidpoolcelaa.Lem
