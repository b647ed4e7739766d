/- Sums of rows (gilboa's Fold): the program's way and the document's come to the same numbers. -/
import Derived.Test.YtcmaidpoolcelaaMfK3
import Derived.Test.YtcmaidpoolcelaaMfK7
import Derived.Test.YtcmaidpoolcelaaMfK9
import Derived.Test.YtcmaidpoolcelaaMfLemRights
import Derived.Test.YtcmaidpoolcelaaMfLemGil
namespace Go.Proofs.Ytcmaidpoolcelaa.Lem
open Go.RowKit Go.Proofs.Ytcmaidpoolcelaa.P Go.Proofs.Ytcmaidpoolcelaa.Num Go.Proofs.YtcmaidpoolcelaaW.PrintWords Go.Proofs.YtcmaidpoolcelaaW.PrintMore
set_option linter.unusedVariables false
set_option linter.unusedSectionVars false

/-- one number of a row as a natural number -/
def nv (xs : List Int) (i : Nat) : Nat := (rd xs (i : Int)).toNat
theorem nv_eq {xs : List Int} (h : U64s xs) (i : Nat) (hi : i < xs.length) : rd xs (i : Int) = ((nv xs i : Nat) : Int) ∧ nv xs i < 18446744073709551616 := by
  obtain ⟨m, hm, hl⟩ := u64_rd h i hi
  unfold nv
  rw [hm, Int.toNat_natCast]
  exact ⟨rfl, hl⟩
/-- the sum of t numbers of a column -/
def sumF (xs : List Int) (n p : Nat) : Nat → Nat
  | 0 => 0
  | t + 1 => sumF xs n p t + nv xs (p + t * n)
def cellF (l : Nat) (xs : List Int) (n p t : Nat) : Int := ((sumF xs n p t % 2 ^ l : Nat) : Int)
def rowF (l : Nat) (xs : List Int) (n at_ t : Nat) : List Int := (List.range n).map fun j => cellF l xs n (at_ + j) t
def foldF (l : Nat) (xs : List Int) (n m : Nat) : List Int := (List.range m).flatMap fun i => rowF l xs n (i * (l * n)) l
theorem rowF_len (l : Nat) (xs : List Int) (n at_ t : Nat) : (rowF l xs n at_ t).length = n := by simp [rowF]
theorem rowF_rd (l : Nat) (xs : List Int) (n at_ t j : Nat) (h : j < n) : rd (rowF l xs n at_ t) (j : Int) = cellF l xs n (at_ + j) t := by
  unfold rd rowF
  rw [Int.toNat_natCast, List.getD_eq_getElem?_getD, List.getElem?_map, List.getElem?_range h]
  rfl
theorem foldF_succ (l : Nat) (xs : List Int) (n m : Nat) : foldF l xs n (m + 1) = foldF l xs n m ++ rowF l xs n (m * (l * n)) l := by
  unfold foldF
  rw [List.range_succ, List.flatMap_append, List.flatMap_cons, List.flatMap_nil, List.append_nil]
theorem foldF_len (l : Nat) (xs : List Int) (n : Nat) : ∀ m, (foldF l xs n m).length = m * n
  | 0 => by simp [foldF]
  | m + 1 => by rw [foldF_succ, List.length_append, foldF_len l xs n m, rowF_len, Nat.succ_mul]
theorem rowF_zero (l : Nat) (xs : List Int) (n at_ : Nat) : List.replicate n (0 : Int) = rowF l xs n at_ 0 := by
  apply List.ext_getElem
  · simp [rowF]
  · intro i h1 h2
    simp [rowF, cellF, sumF]
theorem cellF_u64 {l : Nat} (hl : l ≤ 64) (xs : List Int) (n p t : Nat) : 0 ≤ cellF l xs n p t ∧ cellF l xs n p t < 18446744073709551616 := by
  unfold cellF
  have := lt64 (l := l) (n := sumF xs n p t) hl
  omega
theorem rowF_u64 {l : Nat} (hl : l ≤ 64) (xs : List Int) (n at_ t : Nat) : U64s (rowF l xs n at_ t) := fun x hx => by
  unfold rowF at hx
  obtain ⟨j, -, rfl⟩ := List.mem_map.1 hx
  exact cellF_u64 hl xs n _ t
theorem foldF_u64 {l : Nat} (hl : l ≤ 64) (xs : List Int) (n m : Nat) : U64s (foldF l xs n m) := fun x hx => by
  unfold foldF at hx
  obtain ⟨j, -, hx⟩ := List.mem_flatMap.1 hx
  exact rowF_u64 hl xs n _ l x hx
theorem cellF_add {l : Nat} (xs : List Int) (n p t : Nat) (h0 : 1 ≤ l) (hl : l ≤ 64) (hx : U64s xs) (hp : p + t * n < xs.length) : addOf (l : Int) (cellF l xs n p t) (rd xs ((p + t * n : Nat) : Int)) = cellF l xs n p (t + 1) := by
  rw [(nv_eq hx _ hp).1]
  unfold cellF
  rw [addOf_nat l _ _ h0 hl, Nat.mod_add_mod]
  rfl
/-- a row, and one row more -/
theorem rowF_add {l : Nat} (xs : List Int) (n at_ t : Nat) (h0 : 1 ≤ l) (hl : l ≤ 64) (hx : U64s xs) (hp : at_ + (t + 1) * n ≤ xs.length) : sumAll l (rowF l xs n at_ t) ((xs.take (at_ + (t + 1) * n)).drop (at_ + t * n)) = rowF l xs n at_ (t + 1) := by
  have hs : (t + 1) * n = t * n + n := Nat.succ_mul t n
  apply List.ext_getElem
  · rw [sumAll_len, rowF_len, rowF_len]
  · intro j h1 h2
    have hj : j < n := by rw [rowF_len] at h2; exact h2
    rw [sumAll_rd l _ _ j (by rw [rowF_len]; exact hj), rowF_rd l xs n at_ t j hj, show at_ + (t + 1) * n = (at_ + t * n) + n by omega, cut_rd xs (at_ + t * n) n j (by omega) hj, show at_ + t * n + j = (at_ + j) + t * n by omega, cellF_add xs n (at_ + j) t h0 hl hx (by omega)]
    have := rowF_rd l xs n at_ (t + 1) j hj
    unfold rd at this
    rw [Int.toNat_natCast, List.getD_eq_getElem?_getD, List.getElem?_eq_getElem h2] at this
    exact this.symm
section
variable {l n m : Nat} (h0 : 1 ≤ l) (hl : l ≤ 64) (hn0 : 1 ≤ n) (hn : n ≤ 6) {xs : List Int} (hx : U64s xs) (hm : xs.length = m * (l * n)) (hs : xs.length ≤ 3000)
include h0 hl hn0 hn hx hs hm
/-- the program: a group's rows -/
theorem gf_in (i : Nat) (hi : i < m) (acc : List Int) (ha : acc.length ≤ 100000) (R : Option (List Int × Int)) (d : Nat) : ∀ (k t : Nat), t + d = l → d + 1 < k →
    (∀ k2, k ≤ k2 + d + 1 → gilboa_Fold.l0 k2 (l : Int) (n : Int) xs (acc ++ rowF l xs n (i * (l * n)) l) (((i + 1) * (l * n) : Nat) : Int) = R) →
    gilboa_Fold.l1 k (l : Int) (n : Int) xs acc ((i * (l * n) : Nat) : Int) (rowF l xs n (i * (l * n)) t) (l : Int) (t : Int) = R := by
  have hln : l * n ≤ 384 := by
    have := Nat.mul_le_mul hl hn
    omega
  have him : i * (l * n) + l * n ≤ xs.length := by
    rw [hm, ← Nat.succ_mul]
    exact Nat.mul_le_mul_right _ hi
  have e1 : (i + 1) * (l * n) = i * (l * n) + l * n := Nat.succ_mul i (l * n)
  induction d with
  | zero =>
    intro k t ht hk hR
    obtain rfl : t = l := by omega
    obtain ⟨k, rfl⟩ : ∃ q, k = q + 1 := ⟨k - 1, by omega⟩
    simp only [gilboa_Fold.l1]
    rw [if_neg (by omega), if_pos (by rw [rowF_len]; omega), mulw t n (by omega), addw (i * (t * n)) (t * n) (by omega), ← e1]
    exact hR k (by omega)
  | succ d ih =>
    intro k t ht hk hR
    obtain ⟨k, rfl⟩ : ∃ q, k = q + 1 := ⟨k - 1, by omega⟩
    have htl : t < l := by omega
    have e2 : (t + 1) * n = t * n + n := Nat.succ_mul t n
    have h3 : (t + 1) * n ≤ l * n := Nat.mul_le_mul_right _ htl
    simp only [gilboa_Fold.l1]
    rw [if_pos (by omega), mulw t n (by omega), addw (i * (l * n)) (t * n) (by omega), if_pos (by omega), succw t (by omega), mulw (t + 1) n (by omega), addw (i * (l * n)) ((t + 1) * n) (by omega), if_pos (by omega), if_pos (by omega), Int.toNat_natCast, Int.toNat_natCast]
    rw [addall_f l _ _ (by rw [rowF_len, List.length_drop, List.length_take]; omega) (by rw [rowF_len]; omega), Option.bind_some]
    show gilboa_Fold.l1 k (l : Int) (n : Int) xs acc ((i * (l * n) : Nat) : Int) (sumAll l (rowF l xs n (i * (l * n)) t) ((xs.take (i * (l * n) + (t + 1) * n)).drop (i * (l * n) + t * n))) (l : Int) ((t + 1 : Nat) : Int) = R
    rw [rowF_add xs n (i * (l * n)) t h0 hl hx (by omega)]
    exact ih k (t + 1) (by omega) (by omega) (fun k2 h => hR k2 (by omega))
theorem gf_out (d : Nat) : ∀ (k i : Nat), i + d = m → d * (l + 2) + 2 < k →
    gilboa_Fold.l0 k (l : Int) (n : Int) xs (foldF l xs n i) ((i * (l * n) : Nat) : Int) = some (foldF l xs n m, 0) := by
  have hpos : 1 ≤ l * n := Nat.mul_pos h0 hn0
  induction d with
  | zero =>
    intro k i hi hk
    obtain rfl : i = m := by omega
    obtain ⟨k, rfl⟩ : ∃ q, k = q + 1 := ⟨k - 1, by omega⟩
    simp only [gilboa_Fold.l0]
    rw [if_neg (by omega)]
  | succ d ih =>
    intro k i hi hk
    obtain ⟨k, rfl⟩ : ∃ q, k = q + 1 := ⟨k - 1, by omega⟩
    have him : i < m := by omega
    have hlt : i * (l * n) < xs.length := by
      rw [hm]
      exact Nat.mul_lt_mul_of_pos_right him (by omega)
    have hil : i * (l * n) + l * n ≤ xs.length := by
      rw [hm, ← Nat.succ_mul]
      exact Nat.mul_le_mul_right _ him
    have hfl : (foldF l xs n i).length ≤ 100000 := by
      rw [foldF_len]
      have h1 : i * n ≤ i * (l * n) := Nat.mul_le_mul_left _ (Nat.le_mul_of_pos_left _ h0)
      omega
    have e3 : (d + 1) * (l + 2) = d * (l + 2) + (l + 2) := Nat.succ_mul _ _
    simp only [gilboa_Fold.l0]
    rw [if_pos (by omega), if_pos (by omega), if_pos (by rw [Int.toNat_natCast]; omega), Int.toNat_natCast, rowF_zero l xs n (i * (l * n))]
    refine gf_in h0 hl hn0 hn hx hm hs i him _ hfl _ l k 0 (by omega) (by omega) (fun k2 h => ?_)
    rw [← foldF_succ]
    exact ih k2 (i + 1) (by omega) (by omega)
/-- the document: a number -/
theorem rf_in (i j : Nat) (hi : i < m) (hj : j < n) (acc : List Int) (ha : acc.length ≤ 100000) (R : Option (List Int × Int)) (d : Nat) : ∀ (k t : Nat), t + d = l → d + 110 < k →
    (∀ k2, k ≤ k2 + d + 1 → trefoilref21_Fold.l1 k2 (l : Int) (n : Int) xs (acc ++ [cellF l xs n (i * (l * n) + j) l]) (i : Int) ((j + 1 : Nat) : Int) = R) →
    trefoilref21_Fold.l2 k (l : Int) (n : Int) xs acc (i : Int) (j : Int) (cellF l xs n (i * (l * n) + j) t) (t : Int) = R := by
  have hln : l * n ≤ 384 := by
    have := Nat.mul_le_mul hl hn
    omega
  have him : i * (l * n) + l * n ≤ xs.length := by
    rw [hm, ← Nat.succ_mul]
    exact Nat.mul_le_mul_right _ hi
  have e0 : (i * l) * n = i * (l * n) := Nat.mul_assoc _ _ _
  have hil : i * l ≤ 3000 := by
    have : i * l ≤ (i * l) * n := Nat.le_mul_of_pos_right _ hn0
    omega
  induction d with
  | zero =>
    intro k t ht hk hR
    obtain rfl : t = l := by omega
    obtain ⟨k, rfl⟩ : ∃ q, k = q + 1 := ⟨k - 1, by omega⟩
    simp only [trefoilref21_Fold.l2]
    rw [if_neg (by omega), if_pos (by omega), succw j (by omega)]
    exact hR k (by omega)
  | succ d ih =>
    intro k t ht hk hR
    obtain ⟨k, rfl⟩ : ∃ q, k = q + 1 := ⟨k - 1, by omega⟩
    have htl : t < l := by omega
    have h3 : (t + 1) * n ≤ l * n := Nat.mul_le_mul_right _ htl
    have e2 : (t + 1) * n = t * n + n := Nat.succ_mul t n
    have e4 : (i * l + t) * n = i * (l * n) + t * n := by rw [Nat.add_mul, e0]
    have hp : i * (l * n) + j + t * n < xs.length := by omega
    simp only [trefoilref21_Fold.l2]
    rw [if_pos (by omega), mulw i l (by omega), addw (i * l) t (by omega), mulw (i * l + t) n (by rw [e4]; omega), addw ((i * l + t) * n) j (by rw [e4]; omega), if_pos (by omega), if_pos (by rw [e4]; omega), show (i * l + t) * n + j = i * (l * n) + j + t * n by rw [e4]; omega]
    obtain ⟨q1, q2⟩ := nv_eq hx _ hp
    have q3 := lt64 (l := l) (n := sumF xs n (i * (l * n) + j) t) hl
    rw [q1]
    unfold cellF
    rw [add_r k (by omega) (l : Int) _ _ q3 q2, Option.bind_some, min64 hl, Nat.mod_add_mod, succw t (by omega)]
    exact ih k (t + 1) (by omega) (by omega) (fun k2 h => hR k2 (by omega))
theorem rf_row (i : Nat) (hi : i < m) (acc : List Int) (ha : acc.length ≤ 90000) (R : Option (List Int × Int)) (d : Nat) : ∀ (k j : Nat), j + d = n → d * (l + 2) + 112 < k →
    (∀ k2, k ≤ k2 + d * (l + 2) + 1 → trefoilref21_Fold.l0 k2 (l : Int) (n : Int) xs (acc ++ rowF l xs n (i * (l * n)) l) ((i + 1 : Nat) : Int) = R) →
    trefoilref21_Fold.l1 k (l : Int) (n : Int) xs (acc ++ (rowF l xs n (i * (l * n)) l).take j) (i : Int) (j : Int) = R := by
  have hil : i ≤ 3000 := by
    have h1 : i * 1 ≤ i * (l * n) := Nat.mul_le_mul_left _ (Nat.mul_pos h0 hn0)
    have h2 : i * (l * n) ≤ xs.length := by rw [hm]; exact Nat.mul_le_mul_right _ (by omega)
    omega
  induction d with
  | zero =>
    intro k j hj hk hR
    obtain rfl : j = n := by omega
    obtain ⟨k, rfl⟩ : ∃ q, k = q + 1 := ⟨k - 1, by omega⟩
    simp only [trefoilref21_Fold.l1]
    rw [if_neg (by omega), succw i (by omega), List.take_of_length_le (by rw [rowF_len]; omega)]
    exact hR k (by omega)
  | succ d ih =>
    intro k j hj hk hR
    obtain ⟨k, rfl⟩ : ∃ q, k = q + 1 := ⟨k - 1, by omega⟩
    have hjn : j < n := by omega
    have e3 : (d + 1) * (l + 2) = d * (l + 2) + (l + 2) := Nat.succ_mul _ _
    simp only [trefoilref21_Fold.l1]
    rw [if_pos (by omega)]
    have hz : (0 : Int) = cellF l xs n (i * (l * n) + j) 0 := by simp [cellF, sumF]
    have hlen : (acc ++ (rowF l xs n (i * (l * n)) l).take j).length ≤ 100000 := by
      rw [List.length_append, List.length_take, rowF_len]
      omega
    have hz2 := rf_in h0 hl hn0 hn hx hm hs i j hi hjn (acc ++ (rowF l xs n (i * (l * n)) l).take j) hlen R l k 0 (by omega) (by omega) (fun k2 h => by
      have hjl : j < (rowF l xs n (i * (l * n)) l).length := by rw [rowF_len]; exact hjn
      have hrd := rowF_rd l xs n (i * (l * n)) l j hjn
      unfold rd at hrd
      rw [Int.toNat_natCast, List.getD_eq_getElem?_getD, List.getElem?_eq_getElem hjl] at hrd
      have hrd2 : (rowF l xs n (i * (l * n)) l)[j] = cellF l xs n (i * (l * n) + j) l := hrd
      rw [List.append_assoc, ← hrd2, ← List.take_succ_eq_append_getElem hjl]
      exact ih k2 (j + 1) (by omega) (by omega) (fun k3 h3 => hR k3 (by omega)))
    rw [← hz] at hz2
    exact hz2
theorem rf_out (d : Nat) : ∀ (k i : Nat), i + d = m → d * (n * (l + 2) + 3) + 130 < k →
    trefoilref21_Fold.l0 k (l : Int) (n : Int) xs (foldF l xs n i) (i : Int) = some (foldF l xs n m, 0) := by
  have hpos : 1 ≤ l * n := Nat.mul_pos h0 hn0
  have hln : l * n ≤ 384 := by
    have := Nat.mul_le_mul hl hn
    omega
  have hdiv : wrap64 ((xs.length : Int) / wrap64 ((l : Int) * (n : Int))) = ((m : Nat) : Int) := by
    rw [mulw l n (by omega), hm]
    have h1 : ((m * (l * n) : Nat) : Int) / ((l * n : Nat) : Int) = ((m : Nat) : Int) := by
      rw [← Int.natCast_ediv, Nat.mul_div_cancel _ (by omega)]
    rw [h1]
    have h2 : m * 1 ≤ m * (l * n) := Nat.mul_le_mul_left _ hpos
    exact w64 (by omega) (by omega)
  induction d with
  | zero =>
    intro k i hi hk
    obtain rfl : i = m := by omega
    obtain ⟨k, rfl⟩ : ∃ q, k = q + 1 := ⟨k - 1, by omega⟩
    simp only [trefoilref21_Fold.l0]
    rw [hdiv, if_neg (by rw [mulw l n (by omega)]; omega), if_neg (by omega)]
  | succ d ih =>
    intro k i hi hk
    obtain ⟨k, rfl⟩ : ∃ q, k = q + 1 := ⟨k - 1, by omega⟩
    have him : i < m := by omega
    have hlt : i * (l * n) < xs.length := by
      rw [hm]
      exact Nat.mul_lt_mul_of_pos_right him (by omega)
    have hfl : (foldF l xs n i).length ≤ 90000 := by
      rw [foldF_len]
      have h1 : i * n ≤ i * (l * n) := Nat.mul_le_mul_left _ (Nat.le_mul_of_pos_left _ h0)
      omega
    have e3 : (d + 1) * (n * (l + 2) + 3) = d * (n * (l + 2) + 3) + (n * (l + 2) + 3) := Nat.succ_mul _ _
    simp only [trefoilref21_Fold.l0]
    rw [hdiv, if_neg (by rw [mulw l n (by omega)]; omega), if_pos (by omega)]
    have := rf_row h0 hl hn0 hn hx hm hs i him (foldF l xs n i) hfl (some (foldF l xs n m, 0)) n k 0 (by omega) (by omega) (fun k2 h => by
      rw [← foldF_succ]
      exact ih k2 (i + 1) (by omega) (by omega))
    simpa using this
end
/-- is what is folded in order, and what does it come to -/
def okFold (l n : Nat) (xs : List Int) : Bool := decide (xs.length % (l * n) = 0) && lows l xs
def foldR (l n : Nat) (xs : List Int) : List Int × Int := if okFold l n xs = true then (foldF l xs n (xs.length / (l * n)), 0) else ([], 11)
theorem fold_bounds {l n m : Nat} (h0 : 1 ≤ l) (hl : l ≤ 64) (hn0 : 1 ≤ n) (hn : n ≤ 6) (hs : m * (l * n) ≤ 3000) : m ≤ 3000 ∧ m * (l + 2) ≤ 9000 ∧ m * (n * (l + 2) + 3) ≤ 18000 := by
  have hpos : 1 ≤ l * n := Nat.mul_pos h0 hn0
  have a1 : m * 1 ≤ m * (l * n) := Nat.mul_le_mul_left _ hpos
  have a2 : m * l ≤ m * (l * n) := Nat.mul_le_mul_left _ (Nat.le_mul_of_pos_right _ hn0)
  have a3 : m * n ≤ m * (l * n) := Nat.mul_le_mul_left _ (Nat.le_mul_of_pos_left _ h0)
  have e1 : m * (l + 2) = m * l + m * 2 := Nat.mul_add _ _ _
  have e2 : m * (n * (l + 2) + 3) = m * (l * n) + m * n * 2 + m * 3 := by
    rw [Nat.mul_add, Nat.mul_add, Nat.mul_add, Nat.mul_comm n l, Nat.mul_assoc m n 2]
  omega
theorem gfold_f (k l n : Nat) (hk : 20000 ≤ k) (h0 : 1 ≤ l) (hl : l ≤ 64) (hn0 : 1 ≤ n) (hn : n ≤ 6) (xs : List Int) (hx : U64s xs) (hs : xs.length ≤ 3000) : gilboa_Fold.f k (l : Int) (n : Int) xs = some (foldR l n xs) := by
  have hln : l * n ≤ 384 := by
    have := Nat.mul_le_mul hl hn
    omega
  have hpos : 1 ≤ l * n := Nat.mul_pos h0 hn0
  obtain ⟨k, rfl⟩ : ∃ q, k = q + 1 := ⟨k - 1, by omega⟩
  unfold gilboa_Fold.f
  rw [good_f (l := (l : Int)) (n := (n : Int)) (by omega) (by omega) (by omega) (by omega), Option.bind_some, if_pos rfl, mulw l n (by omega), if_neg (by omega), ← Int.natCast_emod, ringFits_f l h0 hl xs hx]
  unfold foldR okFold
  by_cases hd : xs.length % (l * n) = 0
  · rw [if_pos (by omega), Option.bind_some]
    by_cases hlo : lows l xs = true
    · rw [hlo, decide_eq_true hd, if_pos (by rfl)]
      simp only [gilboa_Fold.j0]
      have hdn : (xs.length : Int) / (l : Int) = ((xs.length / l : Nat) : Int) := (Int.natCast_ediv xs.length l).symm
      have hdl := Nat.div_le_self xs.length l
      obtain ⟨z, hz⟩ : ∃ z, z = xs.length / l := ⟨_, rfl⟩
      rw [← hz] at hdn hdl
      have hq : wrap64 ((xs.length : Int) / (l : Int)) = (z : Int) := by
        rw [hdn]
        exact w64 (by omega) (by omega)
      rw [if_neg (by simp), if_neg (by omega), hq, if_pos (by omega), if_pos (by rw [Int.toNat_natCast]; omega)]
      have hm : xs.length = xs.length / (l * n) * (l * n) := (Nat.div_mul_cancel (Nat.dvd_of_mod_eq_zero hd)).symm
      have hb := fold_bounds (m := xs.length / (l * n)) h0 hl hn0 hn (by omega)
      have hg := gf_out h0 hl hn0 hn hx hm hs (xs.length / (l * n)) k 0 (by omega) (by omega)
      simpa [foldF] using hg
    · rw [Bool.not_eq_true] at hlo
      rw [hlo, if_neg (by simp)]
      simp only [gilboa_Fold.j0]
      rw [if_pos (by rfl)]
  · rw [if_neg (by omega), decide_eq_false hd, if_neg (by simp)]
    simp only [gilboa_Fold.j0]
    rw [if_pos trivial]
theorem rfold_f (k l n : Nat) (hk : 20000 ≤ k) (h0 : 1 ≤ l) (hl : l ≤ 64) (hn0 : 1 ≤ n) (hn : n ≤ 6) (xs : List Int) (hx : U64s xs) (hs : xs.length ≤ 3000) : trefoilref21_Fold.f k (l : Int) (n : Int) xs = some (foldR l n xs) := by
  have hln : l * n ≤ 384 := by
    have := Nat.mul_le_mul hl hn
    omega
  have hpos : 1 ≤ l * n := Nat.mul_pos h0 hn0
  unfold trefoilref21_Fold.f
  rw [wrong21_f (l := (l : Int)) (n := (n : Int)) (by omega) (by omega) (by omega) (by omega), Option.bind_some, if_neg (by simp), mulw l n (by omega), if_neg (by omega), ← Int.natCast_emod, fits19_f k l hl xs hx (by omega) (by omega)]
  obtain ⟨k, rfl⟩ : ∃ q, k = q + 1 := ⟨k - 1, by omega⟩
  unfold foldR okFold
  by_cases hd : xs.length % (l * n) = 0
  · rw [if_pos (by omega), Option.bind_some]
    by_cases hlo : lows l xs = true
    · rw [hlo, decide_eq_true hd, if_pos (by rfl)]
      simp only [trefoilref21_Fold.j0]
      rw [if_neg (by simp)]
      have hm : xs.length = xs.length / (l * n) * (l * n) := (Nat.div_mul_cancel (Nat.dvd_of_mod_eq_zero hd)).symm
      have hb := fold_bounds (m := xs.length / (l * n)) h0 hl hn0 hn (by omega)
      have hg := rf_out h0 hl hn0 hn hx hm hs (xs.length / (l * n)) k 0 (by omega) (by omega)
      simpa [foldF] using hg
    · rw [Bool.not_eq_true] at hlo
      rw [hlo, if_neg (by simp)]
      simp only [trefoilref21_Fold.j0]
      rw [if_pos (by rfl)]
  · rw [if_neg (by omega), decide_eq_false hd, if_neg (by simp)]
    simp only [trefoilref21_Fold.j0]
    rw [if_pos trivial]
end Go.Proofs.Ytcmaidpoolcelaa.Lem
