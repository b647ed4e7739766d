/- Gilboa's trick: what the program and the document choose and spread is the same. -/
import Derived.Test.YtcmaidpoolcelaaMsK1
import Derived.Test.YtcmaidpoolcelaaMsK4
import Derived.Test.YtcmaidpoolcelaaMsK6
import Derived.Test.YtcmaidpoolcelaaMsLemRing2
import Derived.Test.YtcmaidpoolcelaaMsLemSame
import Derived.Test.YtcmaidpoolcelaaMsLemBits
import Derived.Test.YtcmaidpoolcelaaMsLemFits
namespace Go.Proofs.Ytcmaidpoolcelaa.Lem
open Go.RowKit Go.Proofs.Ytcmaidpoolcelaa.P Go.Proofs.Ytcmaidpoolcelaa.Num Go.Proofs.YtcmaidpoolcelaaW.PrintWords Go.Proofs.YtcmaidpoolcelaaW.PrintMore
set_option linter.unusedVariables false

/-- one bit of a number, as the program takes it -/
theorem bit_one (m i : Nat) (hm : m < 18446744073709551616) (hi : i ≤ 64) : ((Go.bits .and .u64 (shr .u64 (m : Int) (i : Int)) 1) == 1) = m.testBit i := by
  rw [shr_nat m i hi]
  have hd : m / 2 ^ i < 18446744073709551616 := Nat.lt_of_le_of_lt (Nat.div_le_self _ _) hm
  have e := u64_and_nat (m / 2 ^ i) 1 hd (by decide)
  rw [show Go.bits .and .u64 ((m / 2 ^ i : Nat) : Int) 1 = ((m / 2 ^ i &&& 1 : Nat) : Int) from e, nat_mask1, Nat.testBit_eq_decide_div_mod_eq]
  rw [Bool.eq_iff_iff, beq_iff_eq, decide_eq_true_eq]
  omega
/-- and as the document does -/
theorem bit_two (m i : Nat) (hi : i ≤ 64) : ((Int.tmod (shr .u64 (m : Int) (i : Int)) 2) == 1) = m.testBit i := by
  rw [shr_nat m i hi, tmod2_nat, Nat.testBit_eq_decide_div_mod_eq, Bool.eq_iff_iff, beq_iff_eq, decide_eq_true_eq]
  omega

def numBits (l : Nat) (x : Int) : List Bool := (List.range l).map fun j => x.toNat.testBit j
def allBits (l : Nat) (xs : List Int) : List Bool := xs.flatMap (numBits l)
theorem numBits_len (l : Nat) (x : Int) : (numBits l x).length = l := by simp [numBits]
theorem allBits_len (l : Nat) (xs : List Int) : (allBits l xs).length = xs.length * l := by
  induction xs with
  | nil => simp [allBits]
  | cons x xs ih =>
    have : (allBits l (x :: xs)).length = (numBits l x).length + (allBits l xs).length := by simp [allBits]
    rw [this, ih, numBits_len, List.length_cons, Nat.succ_mul, Nat.add_comm]
theorem allBits_snoc (l : Nat) (xs : List Int) (i : Nat) (h : i < xs.length) : allBits l (xs.take i) ++ numBits l (rd xs (i : Int)) = allBits l (xs.take (i + 1)) := by
  have e7 : rd xs (i : Int) = xs[i] := by simp [rd, h]
  rw [e7, List.take_succ_eq_append_getElem h]
  unfold allBits
  rw [List.flatMap_append, List.flatMap_cons, List.flatMap_nil, List.append_nil]
theorem numBits_snoc (l : Nat) (x : Int) (j : Nat) (h : j < l) : (numBits l x).take j ++ [x.toNat.testBit j] = (numBits l x).take (j + 1) := by
  have hj : j < (numBits l x).length := by rw [numBits_len]; exact h
  rw [List.take_succ_eq_append_getElem hj]
  simp [numBits]

theorem bits_loop (l x : Nat) (hl : l ≤ 64) (hx : x < 18446744073709551616) (d : Nat) : ∀ (k i : Nat) (L : List Bool), i + d = l → d < k → L.length = l → (∀ j, j < i → L[j]? = some (x.testBit j)) →
    ring_Bits.l0 k (x : Int) L (l : Int) (i : Int) = some (numBits l (x : Int)) := by
  induction d with
  | zero =>
    intro k i L hi hk hL hb
    obtain ⟨k, rfl⟩ : ∃ q, k = q + 1 := ⟨k - 1, by omega⟩
    simp only [ring_Bits.l0]
    rw [if_neg (by omega)]
    congr 1
    apply List.ext_getElem?
    intro j
    by_cases hj : j < l
    · rw [hb j (by omega)]; simp [numBits, hj]
    · rw [List.getElem?_eq_none (by omega), List.getElem?_eq_none (by rw [numBits_len]; omega)]
  | succ d ih =>
    intro k i L hi hk hL hb
    obtain ⟨k, rfl⟩ : ∃ q, k = q + 1 := ⟨k - 1, by omega⟩
    have e5 : wrap64 ((i : Int) + 1) = ((i + 1 : Nat) : Int) := by rw [w64 (by omega) (by omega)]; omega
    have e6 : IntKind.u64.wrap (i : Int) = (i : Int) := wu64_nat' (by omega)
    have nx := ih k (i + 1) (L.set i (x.testBit i)) (by omega) (by omega) (by rw [List.length_set]; exact hL) (by
      intro j hj
      by_cases h : i = j
      · subst h; rw [List.getElem?_set_self (by omega)]
      · rw [List.getElem?_set_ne h]; exact hb j (by omega))
    simp only [ring_Bits.l0]
    rw [if_pos (by omega), e6, if_pos (by omega), if_pos (by omega), if_pos (by omega), bit_one x i hx (by omega), Int.toNat_natCast, e5]
    exact nx

theorem bits_f (k l x : Nat) (h0 : 1 ≤ l) (hl : l ≤ 64) (hx : x < 18446744073709551616) (hk : 100 ≤ k) : ring_Bits.f k (l : Int) (x : Int) = some (numBits l (x : Int)) := by
  unfold ring_Bits.f
  have hp := Nat.pow_lt_pow_right (a := 2) (by decide) (show 0 < l by omega)
  rw [mask_f l h0 hl, Option.bind_some, if_neg (by omega), if_pos (by omega), if_pos (by omega), Option.bind_some, Int.toNat_natCast, List.length_replicate]
  exact bits_loop l x hl hx l k 0 _ (by omega) (by omega) (by simp) (by intro j hj; omega)

/-- the program's choices for numbers -/
theorem gch_loop (l : Nat) (h0 : 1 ≤ l) (hl : l ≤ 64) (xs : List Int) (hx : U64s xs) (hn : xs.length ≤ 10000) (d : Nat) : ∀ (k i : Nat), i + d = xs.length → d + 100 < k →
    gilboa_Choices.l0 k (l : Int) (allBits l (xs.take i)) xs (xs.length : Int) (i : Int) = (bits_Of.f (k - d - 1) (allBits l xs)).bind fun b => some (b.1, b.2.1, b.2.2) := by
  induction d with
  | zero =>
    intro k i hi hk
    obtain ⟨k, rfl⟩ : ∃ q, k = q + 1 := ⟨k - 1, by omega⟩
    simp only [gilboa_Choices.l0]
    rw [if_neg (by omega), List.take_of_length_le (by omega)]; rfl
  | succ d ih =>
    intro k i hi hk
    obtain ⟨k, rfl⟩ : ∃ q, k = q + 1 := ⟨k - 1, by omega⟩
    have hil : i < xs.length := by omega
    have e5 : wrap64 ((i : Int) + 1) = ((i + 1 : Nat) : Int) := by rw [w64 (by omega) (by omega)]; omega
    have nx := ih k (i + 1) (by omega) (by omega)
    obtain ⟨x, ex, hx1⟩ := nat_of64 (hx _ (rd_mem xs i hil)).1 (hx _ (rd_mem xs i hil)).2
    have sn := allBits_snoc l xs i hil
    rw [ex] at sn
    have h1 := allBits_len l (xs.take i)
    have h2 : (xs.take i).length ≤ 10000 := by rw [List.length_take]; omega
    have h3 : (xs.take i).length * l ≤ 10000 * 64 := Nat.mul_le_mul h2 hl
    have hlen : (allBits l (xs.take i)).length + (numBits l (x : Int)).length < 140737488355328 := by rw [numBits_len]; omega
    simp only [gilboa_Choices.l0]
    rw [if_pos (by omega), if_pos (by omega), if_pos (by omega), ex, bits_f k l x h0 hl hx1 (by omega), Option.bind_some, if_pos hlen, sn, e5, nx]
    congr 2
    omega

theorem good_f {l n : Int} (h0 : 1 ≤ l) (h1 : l ≤ 64) (h2 : 1 ≤ n) (h3 : n ≤ 6) : gilboa_good.f l n = some true := by
  unfold gilboa_good.f
  rw [if_pos (by omega), if_pos (by omega), if_pos (by omega), decide_eq_true h3]
theorem wrong21_f {l n : Int} (h0 : 1 ≤ l) (h1 : l ≤ 64) (h2 : 1 ≤ n) (h3 : n ≤ 6) : trefoilref21_Wrong.f l n = some false := by
  unfold trefoilref21_Wrong.f
  rw [if_neg (by omega), if_neg (by omega), if_neg (by omega), decide_eq_false (by omega)]

theorem gch_f (k l : Nat) (h0 : 1 ≤ l) (hl : l ≤ 64) (xs : List Int) (hx : U64s xs) (hlo : lows l xs = true) (hn : xs.length ≤ 10000) (hk : 700000 ≤ k) :
    ∃ V, gilboa_Choices.f k (l : Int) xs = some (((allBits l xs).length : Int), V, 0) ∧ Words64 V ∧ V.length = wordsOf (allBits l xs).length ∧ (∀ j, bitAt V j = (allBits l xs).getD j false) := by
  have hlen : (allBits l xs).length ≤ 10000 * 64 := by rw [allBits_len]; exact Nat.mul_le_mul hn hl
  obtain ⟨k, rfl⟩ : ∃ q, k = q + 1 := ⟨k - 1, by omega⟩
  obtain ⟨V, h1, h2, h3, h4⟩ := of_f (allBits l xs) (k - xs.length - 1) (by omega) (by omega)
  refine ⟨V, ?_, h2, h3, h4⟩
  unfold gilboa_Choices.f
  rw [good_f (by omega) (by omega) (by omega) (by omega), Option.bind_some, if_pos rfl, ringFits_f l h0 hl xs hx, Option.bind_some, hlo]
  simp only [gilboa_Choices.j0]
  rw [if_neg (by simp)]
  have := gch_loop l h0 hl xs hx hn xs.length k 0 (by omega) (by omega)
  rw [List.take_zero] at this
  refine (show gilboa_Choices.l0 k (l : Int) [] xs (xs.length : Int) 0 = _ from this).trans ?_
  rw [h1, Option.bind_some]

/-- the document's test -/
theorem fits19_loop (l : Nat) (hl : l ≤ 64) (xs : List Int) (hx : U64s xs) (hn : xs.length ≤ 10000) (d : Nat) : ∀ (k i : Nat), i + d = xs.length → d + 100 < k →
    trefoilref19_Fits.l0 k (l : Int) xs (i : Int) = some (lows l (xs.drop i)) := by
  induction d with
  | zero =>
    intro k i hi hk
    obtain ⟨k, rfl⟩ : ∃ q, k = q + 1 := ⟨k - 1, by omega⟩
    simp only [trefoilref19_Fits.l0]
    rw [if_neg (by omega), List.drop_eq_nil_of_le (by omega)]; rfl
  | succ d ih =>
    intro k i hi hk
    obtain ⟨k, rfl⟩ : ∃ q, k = q + 1 := ⟨k - 1, by omega⟩
    have hil : i < xs.length := by omega
    have e5 : wrap64 ((i : Int) + 1) = ((i + 1 : Nat) : Int) := by rw [w64 (by omega) (by omega)]; omega
    have nx := ih k (i + 1) (by omega) (by omega)
    obtain ⟨x, ex, hx1⟩ := nat_of64 (hx _ (rd_mem xs i hil)).1 (hx _ (rd_mem xs i hil)).2
    simp only [trefoilref19_Fits.l0]
    rw [if_pos (by omega), if_pos (by omega), lows_drop l xs i hil, ex, fit_r k (by omega) l x hl hx1, Option.bind_some, e5]
    by_cases hz : x < 2 ^ l
    · rw [Nat.mod_eq_of_lt hz, if_pos rfl, decide_eq_true (Int.ofNat_lt.2 hz), Bool.true_and]; exact nx
    · have hne : ¬ x % 2 ^ l = x := fun e => hz (by rw [← e]; exact Nat.mod_lt _ (pow_pos l))
      rw [if_neg (fun e => hne (Int.ofNat_inj.1 e)), decide_eq_false (fun c => hz (Int.ofNat_lt.1 c)), Bool.false_and]

theorem fits19_f (k l : Nat) (hl : l ≤ 64) (xs : List Int) (hx : U64s xs) (hn : xs.length ≤ 10000) (hk : 10200 ≤ k) : trefoilref19_Fits.f k (l : Int) xs = some (lows l xs) := by
  unfold trefoilref19_Fits.f
  have := fits19_loop l hl xs hx hn xs.length k 0 (by omega) (by omega)
  rwa [List.drop_zero] at this

/-- the document's choices for numbers -/
theorem rch_in (l : Nat) (hl : l ≤ 64) (xs : List Int) (x : Nat) (acc : List Bool) (ha : acc.length ≤ 1000000) (i : Nat) (hi : i < xs.length) (hn : xs.length ≤ 10000) (ex : rd xs (i : Int) = (x : Int)) (d : Nat) : ∀ (q k j : Nat), j + d = l → q = k + d + 1 →
    trefoilref21_Choices.l1 q (l : Int) xs (acc ++ (numBits l (x : Int)).take j) (i : Int) (j : Int) = trefoilref21_Choices.l0 k (l : Int) xs (acc ++ numBits l (x : Int)) ((i + 1 : Nat) : Int) := by
  induction d with
  | zero =>
    intro q k j hj hq
    have e5 : wrap64 ((i : Int) + 1) = ((i + 1 : Nat) : Int) := by rw [w64 (by omega) (by omega)]; omega
    subst hq
    simp only [trefoilref21_Choices.l1]
    rw [if_neg (by omega), List.take_of_length_le (by rw [numBits_len]; omega), e5]
  | succ d ih =>
    intro q k j hj hq
    obtain ⟨q, rfl⟩ : ∃ p, q = p + 1 := ⟨q - 1, by omega⟩
    have nx := ih q k (j + 1) (by omega) (by omega)
    have hj64 : j ≤ 64 := by omega
    have t1 : (j : Int) < (l : Int) := by omega
    have t2 : (0 : Int) ≤ (i : Int) := by omega
    have t3 : (i : Int) < (xs.length : Int) := by omega
    have t4 : (0 : Int) ≤ (j : Int) := by omega
    have hlen : (acc ++ (numBits l (x : Int)).take j).length < 140737488355328 := by rw [List.length_append, List.length_take, numBits_len]; omega
    have sn := numBits_snoc l (x : Int) j (by omega)
    rw [Int.toNat_natCast] at sn
    have e6 : wrap64 ((j : Int) + 1) = ((j + 1 : Nat) : Int) := by rw [w64 (by omega) (by omega)]; omega
    have e7 : IntKind.u64.wrap (j : Int) = (j : Int) := wu64_nat' (Nat.lt_of_le_of_lt hj64 (by decide))
    simp only [trefoilref21_Choices.l1]
    rw [if_pos t1, if_pos t2, if_pos t3, e7, if_pos t4, if_pos hlen, ex, bit_two x j hj64, e6, List.append_assoc, sn]
    exact nx

theorem rch_loop (l : Nat) (hl : l ≤ 64) (xs : List Int) (hx : U64s xs) (hn : xs.length ≤ 10000) (d : Nat) : ∀ (k i : Nat), i + d = xs.length → d * 70 < k →
    trefoilref21_Choices.l0 k (l : Int) xs (allBits l (xs.take i)) (i : Int) = some (allBits l xs, 0) := by
  induction d with
  | zero =>
    intro k i hi hk
    obtain ⟨k, rfl⟩ : ∃ q, k = q + 1 := ⟨k - 1, by omega⟩
    simp only [trefoilref21_Choices.l0]
    rw [if_neg (by omega), List.take_of_length_le (by omega)]
  | succ d ih =>
    intro k i hi hk
    obtain ⟨k, rfl⟩ : ∃ q, k = q + 1 := ⟨k - 1, by omega⟩
    have hil : i < xs.length := by omega
    obtain ⟨x, ex, hx1⟩ := nat_of64 (hx _ (rd_mem xs i hil)).1 (hx _ (rd_mem xs i hil)).2
    have sn := allBits_snoc l xs i hil
    rw [ex] at sn
    have h1 := allBits_len l (xs.take i)
    have h2 : (xs.take i).length ≤ 10000 := by rw [List.length_take]; omega
    have h3 : (xs.take i).length * l ≤ 10000 * 64 := Nat.mul_le_mul h2 hl
    have st := rch_in l hl xs x (allBits l (xs.take i)) (by omega) i hil hn ex l k (k - l - 1) 0 (by omega) (by omega)
    rw [List.take_zero, List.append_nil, sn] at st
    simp only [trefoilref21_Choices.l0]
    rw [if_pos (by omega)]
    refine (show trefoilref21_Choices.l1 k (l : Int) xs (allBits l (xs.take i)) (i : Int) 0 = _ from st).trans ?_
    exact ih (k - l - 1) (i + 1) (by omega) (by omega)

theorem rch_f (k l : Nat) (h0 : 1 ≤ l) (hl : l ≤ 64) (xs : List Int) (hx : U64s xs) (hlo : lows l xs = true) (hn : xs.length ≤ 10000) (hk : 700010 ≤ k) : trefoilref21_Choices.f k (l : Int) xs = some (allBits l xs, 0) := by
  obtain ⟨k, rfl⟩ : ∃ q, k = q + 1 := ⟨k - 1, by omega⟩
  unfold trefoilref21_Choices.f
  rw [wrong21_f (by omega) (by omega) (by omega) (by omega), Option.bind_some, if_neg (by simp), fits19_f (k + 1) l hl xs hx hn (by omega), Option.bind_some, hlo]
  simp only [trefoilref21_Choices.j0]
  rw [if_neg (by simp)]
  have := rch_loop l hl xs hx hn xs.length k 0 (by omega) (by omega)
  rwa [List.take_zero] at this
end Go.Proofs.Ytcmaidpoolcelaa.Lem
