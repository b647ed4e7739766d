/- Numbers of so many bits, as Go's operators tell them: masks, shifts, bits put together. No program in sight. -/
import Derived.Test.YtcmaidpoolcelaaMcWMore
import Derived.Laws.BitsLemmas
import Derived.Laws.BitsAllLaws
import Derived.Laws.Bits64
import Derived.IntWalk
import Derived.OpenShut
import Derived.Test.YtcmaidpoolcelaaMcK7
import Derived.Test.YtcmaidpoolcelaaMcK1
import Derived.Test.YtcmaidpoolcelaaMcK0
import Derived.Test.YtcmaidpoolcelaaMcPx0
import Derived.Test.YtcmaidpoolcelaaMcK2
import Derived.Test.YtcmaidpoolcelaaMcK3
import Derived.Test.YtcmaidpoolcelaaMcK6
import Derived.Test.YtcmaidpoolcelaaMcK8
import Derived.Test.YtcmaidpoolcelaaMcK4
import Derived.Test.YtcmaidpoolcelaaMcK5
namespace Go.Proofs.Ytcmaidpoolcelaa.Num
open Go.RowKit Go.Proofs.YtcmaidpoolcelaaW.PrintWords Go.Proofs.YtcmaidpoolcelaaW.PrintMore

theorem w64 {n : Int} (h0 : -9223372036854775808 ≤ n) (h1 : n ≤ 9223372036854775807) : wrap64 n = n := by unfold wrap64; omega
theorem wu64 {n : Int} (h0 : 0 ≤ n) (h1 : n ≤ 18446744073709551615) : IntKind.u64.wrap n = n := IntWalk.u64_in n ⟨h0, h1⟩
theorem wu64_mod (n : Int) : IntKind.u64.wrap n = n % 18446744073709551616 := IntKind.wrap_u64 n
theorem wu64_nat (n : Nat) : IntKind.u64.wrap (n : Int) = ((n % 18446744073709551616 : Nat) : Int) := by rw [IntKind.wrap_u64]; omega
theorem wu64_nat' {n : Nat} (h : n < 18446744073709551616) : IntKind.u64.wrap (n : Int) = (n : Int) := by rw [wu64_nat, Nat.mod_eq_of_lt h]

theorem shr_nat (x i : Nat) (hi : i ≤ 64) : shr .u64 (x : Int) (i : Int) = ((x / 2 ^ i : Nat) : Int) := by
  unfold shr
  have e : min (i : Int).toNat IntKind.u64.bits = i := by rw [Int.toNat_natCast]; exact Nat.min_eq_left hi
  rw [e]
  simp

theorem shl_nat (x i : Nat) (hi : i ≤ 64) : shl .u64 (x : Int) (i : Int) = ((x * 2 ^ i % 18446744073709551616 : Nat) : Int) := by
  unfold shl
  have e : min (i : Int).toNat IntKind.u64.bits = i := by rw [Int.toNat_natCast]; exact Nat.min_eq_left hi
  rw [e, ← wu64_nat]
  simp

theorem tmod_nat (x m : Nat) : Int.tmod (x : Int) (m : Int) = ((x % m : Nat) : Int) := by rw [Int.tmod_eq_emod_of_nonneg (by omega)]; simp
theorem tdiv_nat (x m : Nat) : Int.tdiv (x : Int) (m : Int) = ((x / m : Nat) : Int) := by rw [Int.tdiv_eq_ediv_of_nonneg (by omega)]; simp
theorem tmod2_nat (x : Nat) : Int.tmod (x : Int) 2 = ((x % 2 : Nat) : Int) := tmod_nat x 2
theorem tdiv2_nat (x : Nat) : Int.tdiv (x : Int) 2 = ((x / 2 : Nat) : Int) := tdiv_nat x 2

theorem pow_le_64 {i : Nat} (hi : i ≤ 64) : 2 ^ i ≤ 18446744073709551616 := Nat.pow_le_pow_right (n := 2) (by decide) hi
theorem pow_pos (i : Nat) : 0 < 2 ^ i := Nat.two_pow_pos i
/-- a mask of l bits -/
theorem mask_nat (l : Nat) (h0 : 1 ≤ l) (h1 : l ≤ 64) : shr .u64 18446744073709551615 (IntKind.u64.wrap (wrap64 (64 - (l : Int)))) = ((2 ^ l - 1 : Nat) : Int) := by
  rw [w64 (by omega) (by omega)]
  have e : (64 - (l : Int)) = ((64 - l : Nat) : Int) := by omega
  rw [e, wu64_nat' (by omega)]
  have h := shr_nat 18446744073709551615 (64 - l) (by omega)
  refine h.trans ?_
  congr 1
  have hp : 2 ^ l * 2 ^ (64 - l) = 18446744073709551616 := by rw [← Nat.pow_add, show l + (64 - l) = 64 by omega]
  have hq := pow_pos (64 - l)
  have hl := pow_pos l
  rw [Nat.div_eq_iff hq]
  generalize 2 ^ (64 - l) = q at *
  generalize 2 ^ l = p at *
  obtain ⟨p, rfl⟩ : ∃ r, p = r + 1 := ⟨p - 1, by omega⟩
  rw [Nat.add_mul, Nat.one_mul] at hp
  rw [Nat.add_sub_cancel]
  omega

theorem and_mask_nat (x l : Nat) (hx : x < 18446744073709551616) (hl : l ≤ 64) : Go.bits .and .u64 (x : Int) ((2 ^ l - 1 : Nat) : Int) = ((x % 2 ^ l : Nat) : Int) := by
  have hp := pow_le_64 hl
  have h0 := pow_pos l
  rw [u64_and_nat x _ hx (by omega), Nat.and_two_pow_sub_one_eq_mod]

theorem or_join_nat (x s i : Nat) (hx : x < 2 ^ i) (h : x + s * 2 ^ i < 18446744073709551616) : Go.bits .or .u64 (x : Int) ((s * 2 ^ i : Nat) : Int) = ((x + s * 2 ^ i : Nat) : Int) := by
  rw [u64_or_nat x _ (by omega) (by omega), Nat.or_comm, nat_join i _ _ (Nat.mul_mod_left _ _) hx, Nat.add_comm]

/-- the lower bits of a sum, one more -/
theorem mod_pow_succ (n i : Nat) : n % 2 ^ (i + 1) = n % 2 ^ i + (n / 2 ^ i % 2) * 2 ^ i := by
  rw [Nat.pow_succ, Nat.mod_mul, Nat.mul_comm (2 ^ i)]

theorem div_sum (a b q : Nat) (hq : 0 < q) : (a + b) / q = a / q + b / q + (a % q + b % q) / q := by
  have ea := Nat.div_add_mod a q
  have eb := Nat.div_add_mod b q
  have : a + b = q * (a / q + b / q) + (a % q + b % q) := by rw [Nat.mul_add]; omega
  rw [this, Nat.mul_add_div hq]

/-- what is carried, one place on -/
theorem carry_succ (a b i : Nat) : (a % 2 ^ (i + 1) + b % 2 ^ (i + 1)) / 2 ^ (i + 1) = (a / 2 ^ i % 2 + b / 2 ^ i % 2 + (a % 2 ^ i + b % 2 ^ i) / 2 ^ i) / 2 := by
  rw [mod_pow_succ a, mod_pow_succ b, Nat.pow_succ, ← Nat.div_div_eq_div_mul]
  congr 1
  have : a % 2 ^ i + a / 2 ^ i % 2 * 2 ^ i + (b % 2 ^ i + b / 2 ^ i % 2 * 2 ^ i) = 2 ^ i * (a / 2 ^ i % 2 + b / 2 ^ i % 2) + (a % 2 ^ i + b % 2 ^ i) := by
    rw [Nat.mul_add, Nat.mul_comm (2 ^ i), Nat.mul_comm (2 ^ i)]; omega
  rw [this, Nat.mul_add_div (pow_pos i)]

theorem digit_sum (a b i : Nat) : (a + b) / 2 ^ i % 2 = (a / 2 ^ i % 2 + b / 2 ^ i % 2 + (a % 2 ^ i + b % 2 ^ i) / 2 ^ i) % 2 := by
  rw [div_sum a b _ (pow_pos i)]
  omega

theorem carry_le (a b q : Nat) (hq : 0 < q) : (a % q + b % q) / q ≤ 1 := by
  have h1 := Nat.mod_lt a hq
  have h2 := Nat.mod_lt b hq
  have : (a % q + b % q) / q < 2 := by rw [Nat.div_lt_iff_lt_mul hq]; omega
  omega

theorem nat_of {n : Int} (h0 : 0 ≤ n) : ∃ m : Nat, n = (m : Int) := ⟨n.toNat, by omega⟩
theorem nat_of64 {n : Int} (h0 : 0 ≤ n) (h1 : n < 18446744073709551616) : ∃ m : Nat, n = (m : Int) ∧ m < 18446744073709551616 := ⟨n.toNat, by omega, by omega⟩
theorem half64 {m : Nat} (h : m < 18446744073709551616) : m / 2 < 18446744073709551616 := by omega
end Go.Proofs.Ytcmaidpoolcelaa.Num
namespace Go.Proofs.Ytcmaidpoolcelaa.Lem
open Go.RowKit Go.Proofs.Ytcmaidpoolcelaa.P Go.Proofs.Ytcmaidpoolcelaa.Num Go.Proofs.YtcmaidpoolcelaaW.PrintWords Go.Proofs.YtcmaidpoolcelaaW.PrintMore
set_option linter.unusedVariables false

/-- words of 64 bits -/
def Words64 (W : List Int) : Prop := ∀ x ∈ W, 0 ≤ x ∧ x < 18446744073709551616
/-- bit i of words -/
def bitAt (W : List Int) (i : Nat) : Bool := (rd W ((i / 64 : Nat) : Int)).toNat.testBit (i % 64)

theorem rd_lt (W : List Int) (h : Words64 W) (q : Nat) : ∃ m : Nat, rd W (q : Int) = (m : Int) ∧ m < 18446744073709551616 := by
  by_cases hq : q < W.length
  · have hx : rd W (q : Int) ∈ W := by
      simp only [rd, Int.toNat_natCast]
      rw [List.getD_eq_getElem?_getD, List.getElem?_eq_getElem hq]
      exact List.getElem_mem hq
    exact nat_of64 (h _ hx).1 (h _ hx).2
  · refine ⟨0, ?_, by decide⟩
    simp only [rd, Int.toNat_natCast]
    rw [List.getD_eq_getElem?_getD, List.getElem?_eq_none (by omega)]; rfl

theorem rd_set (W : List Int) (q p : Nat) (v : Int) (hq : q < W.length) : rd (W.set q v) (p : Int) = if p = q then v else rd W (p : Int) := by
  simp only [rd, Int.toNat_natCast]
  rw [List.getD_eq_getElem?_getD, List.getD_eq_getElem?_getD, List.getElem?_set]
  by_cases h : p = q
  · subst h; rw [if_pos rfl, if_pos rfl, if_pos hq]; rfl
  · rw [if_neg h, if_neg (fun e => h e.symm)]

theorem div64 (i : Nat) (h : i ≤ 4194304) : wrap64 (Int.tdiv (i : Int) 64) = ((i / 64 : Nat) : Int) := by
  have e := tdiv_nat i 64
  rw [show Int.tdiv (i : Int) 64 = ((i / 64 : Nat) : Int) from e, w64 (by omega) (by omega)]
theorem mod64' (i : Nat) : IntKind.u64.wrap (Int.tmod (i : Int) 64) = ((i % 64 : Nat) : Int) := by
  have e := tmod_nat i 64
  rw [show Int.tmod (i : Int) 64 = ((i % 64 : Nat) : Int) from e, wu64_nat' (by omega)]

theorem get_f (n i : Nat) (W : List Int) (hW : Words64 W) (hi : i < n) (hn : n ≤ 4194304) (hl : n ≤ 64 * W.length) : bits_Vec_Get.f (n : Int) W (i : Int) = some (bitAt W i) := by
  unfold bits_Vec_Get.f bitAt
  obtain ⟨m, em, hm⟩ := rd_lt W hW (i / 64)
  rw [if_neg (by omega), if_neg (by omega), div64 i (by omega), mod64' i, if_pos (by omega), if_pos (by omega), if_pos (by omega), em, shr_nat m _ (by omega)]
  congr 1
  have hd : m / 2 ^ (i % 64) < 18446744073709551616 := Nat.lt_of_le_of_lt (Nat.div_le_self _ _) hm
  have e := u64_and_nat (m / 2 ^ (i % 64)) 1 hd (by decide)
  rw [show Go.bits .and .u64 ((m / 2 ^ (i % 64) : Nat) : Int) 1 = ((m / 2 ^ (i % 64) &&& 1 : Nat) : Int) from e, nat_mask1, Int.toNat_natCast, Nat.testBit_eq_decide_div_mod_eq]
  rw [Bool.eq_iff_iff, beq_iff_eq, decide_eq_true_eq]
  omega

/-- the word count -/
def wordsOf (n : Nat) : Nat := (n + 63) / 64
theorem words_f (n : Nat) (h : n ≤ 4194304) : bits_words.f (n : Int) = some ((wordsOf n : Nat) : Int) := by
  unfold bits_words.f wordsOf
  have e1 : wrap64 ((n : Int) + 63) = ((n + 63 : Nat) : Int) := by rw [w64 (by omega) (by omega)]; omega
  have e2 := tdiv_nat (n + 63) 64
  rw [e1, show Int.tdiv ((n + 63 : Nat) : Int) 64 = (((n + 63) / 64 : Nat) : Int) from e2, w64 (by omega) (by omega)]
theorem new_f (n : Nat) (h : n ≤ 4194304) : bits_New.f (n : Int) = some ((n : Int), List.replicate (wordsOf n) 0, 0) := by
  unfold bits_New.f
  rw [if_neg (by omega), if_neg (by omega), words_f n h, Option.bind_some, if_pos (by omega), if_pos (by rw [Int.toNat_natCast]; unfold wordsOf; omega), Int.toNat_natCast]

theorem zeros_words (n : Nat) : Words64 (List.replicate n 0) := fun x hx => by
  rw [(List.mem_replicate.1 hx).2]; omega
theorem zeros_bit (n i : Nat) : bitAt (List.replicate n 0) i = false := by
  unfold bitAt
  have : rd (List.replicate n 0) ((i / 64 : Nat) : Int) = 0 := by
    simp only [rd, Int.toNat_natCast]
    rw [List.getD_eq_getElem?_getD, List.getElem?_replicate]
    split <;> rfl
  rw [this]
  simp

theorem or_bit (W : List Int) (hW : Words64 W) (i : Nat) (hl : i / 64 < W.length) (m : Nat) (em : rd W ((i / 64 : Nat) : Int) = (m : Int)) (hm : m < 18446744073709551616) :
    Go.bits .or .u64 (rd W ((i / 64 : Nat) : Int)) (shl .u64 1 ((i % 64 : Nat) : Int)) = ((m ||| 2 ^ (i % 64) : Nat) : Int) ∧ m ||| 2 ^ (i % 64) < 18446744073709551616 := by
  have hp : 2 ^ (i % 64) < 18446744073709551616 := Nat.pow_lt_pow_right (a := 2) (by decide) (show i % 64 < 64 by omega)
  have e := shl_nat 1 (i % 64) (by omega)
  rw [Nat.one_mul, Nat.mod_eq_of_lt hp] at e
  rw [show shl .u64 1 ((i % 64 : Nat) : Int) = ((2 ^ (i % 64) : Nat) : Int) from e, em, u64_or_nat m _ hm hp]
  exact ⟨rfl, Nat.or_lt_two_pow (n := 64) hm hp⟩

theorem set_words (W : List Int) (hW : Words64 W) (q z : Nat) (hz : z < 18446744073709551616) : Words64 (W.set q (z : Int)) := fun x hx => by
  rcases List.mem_or_eq_of_mem_set hx with h | h
  · exact hW x h
  · subst h; omega

theorem set_bit (W : List Int) (i m : Nat) (hl : i / 64 < W.length) (em : rd W ((i / 64 : Nat) : Int) = (m : Int)) (j : Nat) :
    bitAt (W.set (i / 64) ((m ||| 2 ^ (i % 64) : Nat) : Int)) j = (decide (j = i) || bitAt W j) := by
  unfold bitAt
  rw [rd_set W _ _ _ hl]
  by_cases h : j / 64 = i / 64
  · rw [if_pos h, Int.toNat_natCast, Nat.testBit_or, Nat.testBit_two_pow, h, em, Int.toNat_natCast, Bool.or_comm]
    congr 1
    apply decide_eq_decide.2
    omega
  · rw [if_neg h, decide_eq_false (by intro e; subst e; exact h rfl), Bool.false_or]

theorem of_loop (l : List Bool) (hn : l.length ≤ 4194304) (d : Nat) : ∀ (k i : Nat) (W : List Int), i + d = l.length → d < k → Words64 W → W.length = wordsOf l.length → (∀ j, j < i → bitAt W j = l.getD j false) → (∀ j, i ≤ j → bitAt W j = false) →
    ∃ V, bits_Of.l0 k l (l.length : Int) (i : Int) (l.length : Int) W = some ((l.length : Int), V, 0) ∧ Words64 V ∧ V.length = wordsOf l.length ∧ (∀ j, bitAt V j = l.getD j false) := by
  induction d with
  | zero =>
    intro k i W hi hk hW hlen hlo hhi
    obtain ⟨k, rfl⟩ : ∃ q, k = q + 1 := ⟨k - 1, by omega⟩
    simp only [bits_Of.l0]
    rw [if_neg (by omega)]
    refine ⟨W, rfl, hW, hlen, fun j => ?_⟩
    by_cases hj : j < i
    · exact hlo j hj
    · rw [hhi j (by omega), List.getD_eq_getElem?_getD, List.getElem?_eq_none (by omega)]; rfl
  | succ d ih =>
    intro k i W hi hk hW hlen hlo hhi
    obtain ⟨k, rfl⟩ : ∃ q, k = q + 1 := ⟨k - 1, by omega⟩
    have hil : i < l.length := by omega
    have hq : i / 64 < W.length := by rw [hlen]; unfold wordsOf; omega
    have e5 : wrap64 ((i : Int) + 1) = ((i + 1 : Nat) : Int) := by rw [w64 (by omega) (by omega)]; omega
    obtain ⟨m, em, hm⟩ := rd_lt W hW (i / 64)
    obtain ⟨eo, ho⟩ := or_bit W hW i hq m em hm
    have er : rdOf false l (i : Int) = l.getD i false := by simp [rdOf]
    simp only [bits_Of.l0]
    rw [if_pos (by omega), if_pos (by omega), if_pos (by omega), er, e5]
    by_cases hb : l.getD i false = true
    · rw [if_pos hb, div64 i (by omega), mod64' i, if_pos (by omega), if_pos (by omega), if_pos (by omega), eo, Int.toNat_natCast]
      refine ih k (i + 1) _ (by omega) (by omega) (set_words W hW _ _ ho) (by rw [List.length_set]; exact hlen) ?_ ?_
      · intro j hj
        rw [set_bit W i m hq em j]
        by_cases e : j = i
        · subst e; rw [decide_eq_true rfl, Bool.true_or, hb]
        · rw [decide_eq_false e, Bool.false_or]; exact hlo j (by omega)
      · intro j hj
        rw [set_bit W i m hq em j, decide_eq_false (by omega), Bool.false_or]
        exact hhi j (by omega)
    · rw [if_neg hb]
      refine ih k (i + 1) W (by omega) (by omega) hW hlen ?_ (fun j hj => hhi j (by omega))
      intro j hj
      by_cases e : j = i
      · subst e; rw [hhi j (Nat.le_refl _)]; simpa using hb
      · exact hlo j (by omega)

theorem of_f (l : List Bool) (k : Nat) (hn : l.length ≤ 4194304) (hk : l.length < k) : ∃ V, bits_Of.f k l = some ((l.length : Int), V, 0) ∧ Words64 V ∧ V.length = wordsOf l.length ∧ (∀ j, bitAt V j = l.getD j false) := by
  unfold bits_Of.f
  rw [new_f _ hn, Option.bind_some, if_pos rfl]
  exact of_loop l hn l.length k 0 _ (by omega) hk (zeros_words _) (by simp) (fun j hj => by omega) (fun j _ => zeros_bit _ j)
theorem words_len (n : Nat) : n ≤ 64 * wordsOf n := by unfold wordsOf; omega
end Go.Proofs.Ytcmaidpoolcelaa.Lem
namespace Go.Proofs.Ytcmaidpoolcelaa.Lem
open Go.RowKit Go.Proofs.Ytcmaidpoolcelaa.P Go.Proofs.Ytcmaidpoolcelaa.Num Go.Proofs.YtcmaidpoolcelaaW.PrintWords Go.Proofs.YtcmaidpoolcelaaW.PrintMore
set_option linter.unusedVariables false

theorem mask_f (l : Nat) (h0 : 1 ≤ l) (h1 : l ≤ 64) : ring_mask.f (l : Int) = some ((2 ^ l - 1 : Nat) : Int) := by
  unfold ring_mask.f ring_Mask.f
  have e : 0 ≤ IntKind.u64.wrap (wrap64 (64 - (l : Int))) := by rw [w64 (by omega) (by omega), wu64 (by omega) (by omega)]; omega
  rw [if_neg (by omega), if_neg (by omega), if_pos e, mask_nat l h0 h1]; rfl

theorem add_f (l a b : Nat) (h0 : 1 ≤ l) (h1 : l ≤ 64) : ring_Add.f (l : Int) (a : Int) (b : Int) = some (((a + b) % 2 ^ l : Nat) : Int) := by
  unfold ring_Add.f
  rw [mask_f l h0 h1, Option.bind_some]
  have e : (a : Int) + (b : Int) = ((a + b : Nat) : Int) := by omega
  rw [e, wu64_nat, and_mask_nat _ l (Nat.mod_lt _ (by decide)) h1]
  have hd : 2 ^ l ∣ 18446744073709551616 := ⟨2 ^ (64 - l), by rw [← Nat.pow_add, show l + (64 - l) = 64 by omega]⟩
  rw [Nat.mod_mod_of_dvd _ hd]

theorem add_loop (l : Int) (a b : Nat) (ha : a < 18446744073709551616) (hb : b < 18446744073709551616) (d : Nat) : ∀ (k i : Nat), i + d = min 64 l.toNat → d < k →
    trefoilref03_Add.l0 k l a b (((a + b) % 2 ^ i : Nat) : Int) (((a % 2 ^ i + b % 2 ^ i) / 2 ^ i : Nat) : Int) i = some (((a + b) % 2 ^ (min 64 l.toNat) : Nat) : Int) := by
  induction d with
  | zero =>
    intro k i hi hk
    obtain ⟨k, rfl⟩ : ∃ q, k = q + 1 := ⟨k - 1, by omega⟩
    simp only [trefoilref03_Add.l0]
    rw [← hi, Nat.add_zero]
    by_cases h : (i : Int) < 64
    · rw [if_pos h, if_neg (by omega)]
    · rw [if_neg h]
  | succ d ih =>
    intro k i hi hk
    obtain ⟨k, rfl⟩ : ∃ q, k = q + 1 := ⟨k - 1, by omega⟩
    have hi64 : i < 64 := by omega
    have hk2 : d < k := by omega
    have hi2 : i + 1 + d = min 64 l.toNat := by omega
    have e5 : wrap64 ((i : Int) + 1) = ((i + 1 : Nat) : Int) := by rw [w64 (by omega) (by omega)]; omega
    simp only [trefoilref03_Add.l0]
    rw [if_pos (by omega), if_pos (by omega), wu64_nat' (n := i) (by omega), if_pos (by omega), shr_nat a i (by omega), shr_nat b i (by omega), tmod2_nat, tmod2_nat]
    have hc := carry_le a b (2 ^ i) (pow_pos i)
    have hx : a / 2 ^ i % 2 < 2 := Nat.mod_lt _ (by decide)
    have hy : b / 2 ^ i % 2 < 2 := Nat.mod_lt _ (by decide)
    have e1 : ((a / 2 ^ i % 2 : Nat) : Int) + ((b / 2 ^ i % 2 : Nat) : Int) = ((a / 2 ^ i % 2 + b / 2 ^ i % 2 : Nat) : Int) := by omega
    rw [e1, wu64_nat' (n := a / 2 ^ i % 2 + b / 2 ^ i % 2) (by omega)]
    have e2 : ((a / 2 ^ i % 2 + b / 2 ^ i % 2 : Nat) : Int) + (((a % 2 ^ i + b % 2 ^ i) / 2 ^ i : Nat) : Int) = ((a / 2 ^ i % 2 + b / 2 ^ i % 2 + (a % 2 ^ i + b % 2 ^ i) / 2 ^ i : Nat) : Int) := by omega
    rw [e2, wu64_nat' (n := a / 2 ^ i % 2 + b / 2 ^ i % 2 + (a % 2 ^ i + b % 2 ^ i) / 2 ^ i) (by omega), tmod2_nat, tdiv2_nat, wu64_nat' (n := (a / 2 ^ i % 2 + b / 2 ^ i % 2 + (a % 2 ^ i + b % 2 ^ i) / 2 ^ i) / 2) (by omega),
      ← digit_sum, ← carry_succ, shl_nat _ i (by omega)]
    have hm := Nat.mod_lt (a + b) (pow_pos (i + 1))
    have hp := pow_le_64 (show i + 1 ≤ 64 by omega)
    have e3 := mod_pow_succ (a + b) i
    have e4 : (a + b) / 2 ^ i % 2 * 2 ^ i % 18446744073709551616 = (a + b) / 2 ^ i % 2 * 2 ^ i := Nat.mod_eq_of_lt (by omega)
    rw [e4, or_join_nat _ _ i (Nat.mod_lt _ (pow_pos i)) (by omega), ← e3]
    rw [e5]
    exact ih k (i + 1) hi2 hk2

theorem add_r (k : Nat) (hk : 100 ≤ k) (l : Int) (a b : Nat) (ha : a < 18446744073709551616) (hb : b < 18446744073709551616) : trefoilref03_Add.f k l a b = some (((a + b) % 2 ^ (min 64 l.toNat) : Nat) : Int) := by
  have hk' : min 64 l.toNat < k := by omega
  have h := add_loop l a b ha hb (min 64 l.toNat) k 0 (Nat.zero_add _) hk'
  have e1 : (((a + b) % 2 ^ 0 : Nat) : Int) = 0 := by rw [Nat.pow_zero, Nat.mod_one]; rfl
  have e2 : (((a % 2 ^ 0 + b % 2 ^ 0) / 2 ^ 0 : Nat) : Int) = 0 := by rw [Nat.pow_zero, Nat.mod_one, Nat.mod_one]; rfl
  rw [e1, e2] at h
  unfold trefoilref03_Add.f
  exact h

theorem min64 {l : Nat} (h : l ≤ 64) : min 64 (l : Int).toNat = l := by rw [Int.toNat_natCast]; exact Nat.min_eq_right h
end Go.Proofs.Ytcmaidpoolcelaa.Lem
namespace Go.Proofs.Ytcmaidpoolcelaa.Lem
open Go.RowKit Go.Proofs.Ytcmaidpoolcelaa.P Go.Proofs.Ytcmaidpoolcelaa.Num Go.Proofs.YtcmaidpoolcelaaW.PrintWords Go.Proofs.YtcmaidpoolcelaaW.PrintMore
set_option linter.unusedVariables false

/-- what a class's check tells -/
def chk (c0 c1 c2 c3 c4 : Int) : Int :=
  if c0 < 1 ∨ 4 < c0 then 15 else if c1 < 1 ∨ 64 < c1 ∨ (c0 = 3 ∧ c1 ≠ 1) then 11
  else if c0 = 2 then (if 1 ≤ c2 ∧ c2 ≤ 6 ∧ 1 ≤ c3 ∧ c3 ≤ 6 ∧ 1 ≤ c4 ∧ c4 ≤ 6 then 0 else 11) else if c2 = 0 ∧ c3 = 0 ∧ c4 = 0 then 0 else 11

theorem side_f (a : Int) : shape_side.f a = some (decide (1 ≤ a ∧ a ≤ 6)) := by
  unfold shape_side.f
  by_cases h : a ≥ 1
  · rw [if_pos h]; congr 1; apply decide_eq_decide.2; omega
  · rw [if_neg h]; congr 1; symm; apply decide_eq_false; omega

theorem in_f (a m : Int) : trefoilref09_in.f a m = some (decide (1 ≤ a ∧ a ≤ m)) := by
  unfold trefoilref09_in.f
  by_cases h : a ≥ 1
  · rw [if_pos h]; congr 1; apply decide_eq_decide.2; omega
  · rw [if_neg h]; congr 1; symm; apply decide_eq_false; omega

theorem check_j2 (k : Nat) (b : Bool) (c0 c1 c2 c3 c4 : Int) : shape_Check.j2 (k + 2) b c0 c1 c2 c3 c4 = some (if b = true ∧ 1 ≤ c1 ∧ c1 ≤ 64 then 0 else 11) := by
  simp only [shape_Check.j2]
  cases b with
  | false => simp [shape_Check.j3]
  | true =>
    rw [if_pos rfl]
    by_cases h : c1 < 1
    · rw [if_pos h]; simp only [shape_Check.j3]; rw [if_pos trivial, if_neg (by omega)]
    · rw [if_neg h]; simp only [shape_Check.j3]
      by_cases h2 : c1 > 64
      · rw [if_pos (by simpa using h2), if_neg (by omega)]
      · rw [if_neg (by simpa using h2), if_pos ⟨trivial, by omega, by omega⟩]

theorem check_f (k : Nat) (hk : 10 ≤ k) (c0 c1 c2 c3 c4 : Int) : shape_Check.f k c0 c1 c2 c3 c4 = some (chk c0 c1 c2 c3 c4) := by
  obtain ⟨k, rfl⟩ : ∃ q, k = q + 2 + 1 + 1 := ⟨k - 4, by omega⟩
  have main : ∀ b : Bool, (b = decide (c2 = 0 ∧ c3 = 0 ∧ c4 = 0)) → shape_Check.j0 (k + 2 + 1 + 1) b c0 c1 c2 c3 c4 = some (chk c0 c1 c2 c3 c4) := by
    intro b hb
    simp only [shape_Check.j0]
    by_cases h2 : c0 = 2
    · rw [if_pos h2]
      simp only [side_f, Option.bind_some]
      have key : ∀ t : Bool, (t = decide (1 ≤ c2 ∧ c2 ≤ 6 ∧ 1 ≤ c3 ∧ c3 ≤ 6 ∧ 1 ≤ c4 ∧ c4 ≤ 6)) → shape_Check.j2 (k + 2 + 1) t c0 c1 c2 c3 c4 = some (chk c0 c1 c2 c3 c4) := by
        intro t ht
        rw [show k + 2 + 1 = (k + 1) + 2 from by omega, check_j2]
        subst ht
        congr 1
        unfold chk
        simp only [decide_eq_true_eq]
        rw [if_neg (show ¬ (c0 < 1 ∨ 4 < c0) by omega), if_pos h2]
        by_cases hb : c1 < 1 ∨ 64 < c1 ∨ (c0 = 3 ∧ c1 ≠ 1)
        · rw [if_pos hb, if_neg (by omega)]
        · rw [if_neg hb]
          by_cases hd : 1 ≤ c2 ∧ c2 ≤ 6 ∧ 1 ≤ c3 ∧ c3 ≤ 6 ∧ 1 ≤ c4 ∧ c4 ≤ 6
          · rw [if_pos hd, if_pos ⟨hd, by omega, by omega⟩]
          · rw [if_neg hd, if_neg (fun h => hd h.1)]
      simp only [decide_eq_true_eq]
      by_cases ha : 1 ≤ c2 ∧ c2 ≤ 6
      · rw [if_pos ha]
        by_cases hc : 1 ≤ c3 ∧ c3 ≤ 6
        · rw [if_pos hc]
          exact key _ (decide_eq_decide.2 (by omega))
        · rw [if_neg hc]
          exact key _ (decide_eq_false (by omega)).symm
      · rw [if_neg ha]
        exact key _ (decide_eq_false (by omega)).symm
    · rw [if_neg h2]
      have key : ∀ t : Bool, (t = decide (c0 = 1 ∨ c0 = 4)) → shape_Check.j1 (k + 2 + 1) b c0 t c0 c1 c2 c3 c4 = some (chk c0 c1 c2 c3 c4) := by
        intro t ht
        simp only [shape_Check.j1]
        subst ht
        simp only [decide_eq_true_eq]
        unfold chk
        by_cases h14 : c0 = 1 ∨ c0 = 4
        · rw [if_pos h14, check_j2]
          rw [if_neg (show ¬ (c0 < 1 ∨ 4 < c0) by omega), if_neg h2]
          congr 1
          subst hb
          simp only [decide_eq_true_eq]
          by_cases hb : c1 < 1 ∨ 64 < c1 ∨ (c0 = 3 ∧ c1 ≠ 1)
          · rw [if_pos hb, if_neg (by omega)]
          · rw [if_neg hb]
            by_cases hd : c2 = 0 ∧ c3 = 0 ∧ c4 = 0
            · rw [if_pos hd, if_pos ⟨hd, by omega, by omega⟩]
            · rw [if_neg hd, if_neg (fun h => hd h.1)]
        · rw [if_neg h14]
          by_cases h3 : c0 = 3
          · rw [if_pos h3, if_neg (show ¬ (c0 < 1 ∨ 4 < c0) by omega), if_neg h2]
            subst hb
            simp only [decide_eq_true_eq]
            by_cases hd : c2 = 0 ∧ c3 = 0 ∧ c4 = 0
            · rw [if_pos hd]
              by_cases hc : c1 = 1
              · rw [if_pos hc, if_neg (by omega), if_pos hd]
              · rw [if_neg hc, if_pos (by omega)]
            · rw [if_neg hd]
              by_cases hc : c1 < 1 ∨ 64 < c1 ∨ (c0 = 3 ∧ c1 ≠ 1)
              · rw [if_pos hc]
              · rw [if_neg hc, if_neg hd]
          · rw [if_neg h3, if_pos (show c0 < 1 ∨ 4 < c0 by omega)]
      by_cases h1 : c0 = 1
      · rw [if_pos h1]
        exact key _ (by rw [beq_iff_eq.2 h1]; exact (decide_eq_true (Or.inl h1)).symm)
      · rw [if_neg h1]
        refine key _ ?_
        rw [Bool.eq_iff_iff]; simp [h1]
  unfold shape_Check.f
  by_cases ha : c2 = 0
  · rw [if_pos ha]
    by_cases hc : c3 = 0
    · rw [if_pos hc]
      refine main _ ?_
      rw [Bool.eq_iff_iff]; simp [ha, hc]
    · rw [if_neg hc]; exact main _ (decide_eq_false (by omega)).symm
  · rw [if_neg ha]; exact main _ (decide_eq_false (by omega)).symm

theorem check_r (k : Nat) (hk : 10 ≤ k) (c0 c1 c2 c3 c4 : Int) : trefoilref09_Check.f k c0 c1 c2 c3 c4 = some (chk c0 c1 c2 c3 c4) := by
  obtain ⟨k, rfl⟩ : ∃ q, k = q + 1 := ⟨k - 1, by omega⟩
  unfold trefoilref09_Check.f chk
  simp only [in_f, Option.bind_some, decide_eq_true_eq]
  have main : ∀ b : Bool, trefoilref09_Check.j0 (k + 1) b c0 c1 c2 c3 c4 = some (if b = true then 11 else if c0 = 2 then (if 1 ≤ c2 ∧ c2 ≤ 6 ∧ 1 ≤ c3 ∧ c3 ≤ 6 ∧ 1 ≤ c4 ∧ c4 ≤ 6 then 0 else 11) else if c2 = 0 ∧ c3 = 0 ∧ c4 = 0 then 0 else 11) := by
    intro b
    simp only [trefoilref09_Check.j0, in_f, Option.bind_some, decide_eq_true_eq]
    by_cases hb : b = true
    · rw [if_pos hb, if_pos hb]
    · rw [if_neg hb, if_neg hb]
      by_cases h2 : c0 = 2
      · rw [if_pos h2, if_pos h2]
        by_cases ha : 1 ≤ c2 ∧ c2 ≤ 6
        · rw [if_pos ha]
          by_cases hc : 1 ≤ c3 ∧ c3 ≤ 6
          · rw [if_pos hc]
            by_cases hd : 1 ≤ c4 ∧ c4 ≤ 6
            · rw [if_pos hd, if_pos (by omega)]
            · rw [if_neg hd, if_neg (by omega)]
          · rw [if_neg hc, if_neg (by omega)]
        · rw [if_neg ha, if_neg (by omega)]
      · rw [if_neg h2, if_neg h2]
        by_cases ha : c2 = 0
        · rw [if_pos ha]
          by_cases hc : c3 = 0
          · rw [if_pos hc]
            by_cases hd : c4 = 0
            · rw [if_pos hd, if_pos (by omega)]
            · rw [if_neg hd, if_neg (by omega)]
          · rw [if_neg hc, if_neg (by omega)]
        · rw [if_neg ha, if_neg (by omega)]
  by_cases h0 : c0 < 1 ∨ 4 < c0
  · rw [if_pos h0, if_neg (by omega)]
  · rw [if_neg h0, if_pos (show 1 ≤ c0 ∧ c0 ≤ 4 by omega)]
    by_cases h1 : 1 ≤ c1 ∧ c1 ≤ 64
    · rw [if_pos h1]
      by_cases h3 : c0 = 3
      · rw [if_pos h3, main]
        by_cases hc : c1 = 1
        · rw [if_neg (by simpa using hc), if_neg (show ¬ (c1 < 1 ∨ 64 < c1 ∨ (c0 = 3 ∧ c1 ≠ 1)) by omega)]
        · rw [if_pos (by simpa using hc), if_pos (by omega)]
      · rw [if_neg h3, main, if_neg (by simp), if_neg (show ¬ (c1 < 1 ∨ 64 < c1 ∨ (c0 = 3 ∧ c1 ≠ 1)) by omega)]
    · rw [if_neg h1, main, if_pos rfl, if_pos (by omega)]

theorem chk_bits {c0 c1 c2 c3 c4 : Int} (h : chk c0 c1 c2 c3 c4 = 0) : 1 ≤ c1 ∧ c1 ≤ 64 ∧ 1 ≤ c0 ∧ c0 ≤ 4 := by
  unfold chk at h
  by_cases h0 : c0 < 1 ∨ 4 < c0
  · rw [if_pos h0] at h; omega
  · rw [if_neg h0] at h
    by_cases h1 : c1 < 1 ∨ 64 < c1 ∨ (c0 = 3 ∧ c1 ≠ 1)
    · rw [if_pos h1] at h; omega
    · omega
theorem chk_sides {c0 c1 c2 c3 c4 : Int} (h : chk c0 c1 c2 c3 c4 = 0) (h2 : c0 = 2) : 1 ≤ c2 ∧ c2 ≤ 6 ∧ 1 ≤ c3 ∧ c3 ≤ 6 ∧ 1 ≤ c4 ∧ c4 ≤ 6 := by
  have hb := chk_bits h
  unfold chk at h
  rw [if_neg (by omega), if_neg (by omega), if_pos h2] at h
  by_cases hd : 1 ≤ c2 ∧ c2 ≤ 6 ∧ 1 ≤ c3 ∧ c3 ≤ 6 ∧ 1 ≤ c4 ∧ c4 ≤ 6
  · exact hd
  · rw [if_neg hd] at h; omega
end Go.Proofs.Ytcmaidpoolcelaa.Lem
namespace Go.Proofs.Ytcmaidpoolcelaa.Lem
open Go.RowKit Go.Proofs.Ytcmaidpoolcelaa.P Go.Proofs.Ytcmaidpoolcelaa.Num Go.Proofs.YtcmaidpoolcelaaW.PrintWords Go.Proofs.YtcmaidpoolcelaaW.PrintMore
set_option linter.unusedVariables false

/-- every number is one of 64 bits -/
def U64s (l : List Int) : Prop := ∀ x ∈ l, 0 ≤ x ∧ x < 18446744073709551616

def lows (w : Nat) (l : List Int) : Bool := l.all fun x => decide (x < ((2 ^ w : Nat) : Int))
def fit (n : Int) (w : Int) (l : List Int) : Bool := decide ((l.length : Int) = n) && lows w.toNat l

theorem rd_drop (l : List Int) (i : Nat) (h : i < l.length) : l.drop i = rd l (i : Int) :: l.drop (i + 1) := by
  rw [List.drop_eq_getElem_cons h]
  congr 1
  simp [rd, h]
theorem rd_mem (l : List Int) (i : Nat) (h : i < l.length) : rd l (i : Int) ∈ l := by
  simp only [rd, Int.toNat_natCast]
  rw [List.getD_eq_getElem?_getD, List.getElem?_eq_getElem h]
  exact List.getElem_mem h
theorem lows_drop (w : Nat) (l : List Int) (i : Nat) (h : i < l.length) : lows w (l.drop i) = (decide (rd l (i : Int) < ((2 ^ w : Nat) : Int)) && lows w (l.drop (i + 1))) := by
  rw [rd_drop l i h]; rfl
theorem shr_zero (x : Int) (w : Nat) (h0 : 0 ≤ x) (hw : w ≤ 64) : shr .u64 x (w : Int) = 0 ↔ x < ((2 ^ w : Nat) : Int) := by
  obtain ⟨m, rfl⟩ := nat_of h0
  rw [shr_nat m w hw]
  have hp := pow_pos w
  constructor
  · intro h
    have h1 : m / 2 ^ w = 0 := by omega
    have := (Nat.div_eq_zero_iff_lt hp).1 h1
    omega
  · intro h
    have h1 : m / 2 ^ w = 0 := (Nat.div_eq_zero_iff_lt hp).2 (by omega)
    rw [h1]; rfl

theorem fits_loop (l : List Int) (hl : U64s l) (hs : l.length ≤ 1000) (w : Nat) (hw0 : 1 ≤ w) (hw : w ≤ 64) (d : Nat) : ∀ (k i : Nat), i + d = l.length → d < k →
    shape_fits.l0 k (w : Int) l (l.length : Int) (i : Int) = some (lows w (l.drop i)) := by
  induction d with
  | zero =>
    intro k i hi hk
    obtain ⟨k, rfl⟩ : ∃ q, k = q + 1 := ⟨k - 1, by omega⟩
    simp only [shape_fits.l0]
    rw [if_neg (by omega), List.drop_eq_nil_of_le (by omega)]; rfl
  | succ d ih =>
    intro k i hi hk
    obtain ⟨k, rfl⟩ : ∃ q, k = q + 1 := ⟨k - 1, by omega⟩
    have hil : i < l.length := by omega
    have e5 : wrap64 ((i : Int) + 1) = ((i + 1 : Nat) : Int) := by rw [w64 (by omega) (by omega)]; omega
    have nx := ih k (i + 1) (by omega) (by omega)
    have hx := (hl _ (rd_mem l i hil))
    simp only [shape_fits.l0]
    rw [if_pos (by omega), if_pos (by omega), if_pos (by omega), e5, nx, lows_drop w l i hil]
    by_cases h64 : (w : Int) < 64
    · rw [if_pos h64, wu64_nat' (n := w) (by omega), if_pos (by omega)]
      by_cases hz : shr .u64 (rd l (i : Int)) (w : Int) = 0
      · rw [if_pos hz, decide_eq_true ((shr_zero _ w hx.1 hw).1 hz), Bool.true_and]
      · rw [if_neg hz, decide_eq_false (fun h => hz ((shr_zero _ w hx.1 hw).2 h)), Bool.false_and]
    · rw [if_neg h64]
      obtain rfl : w = 64 := by omega
      have e : rd l (i : Int) < ((2 ^ 64 : Nat) : Int) := hx.2
      rw [decide_eq_true e, Bool.true_and]

theorem fits_f (k : Nat) (n w : Int) (l : List Int) (hl : U64s l) (hs : l.length ≤ 1000) (hk : l.length < k) (hw0 : 1 ≤ w) (hw : w ≤ 64) : shape_fits.f k n w l = some (fit n w l) := by
  obtain ⟨m, rfl⟩ := nat_of (show 0 ≤ w by omega)
  unfold shape_fits.f fit
  by_cases h : (l.length : Int) = n
  · rw [if_pos h, decide_eq_true h, Bool.true_and, Int.toNat_natCast]
    have := fits_loop l hl hs m (by omega) (by omega) l.length k 0 (by omega) hk
    rw [List.drop_zero] at this
    exact this
  · rw [if_neg h, decide_eq_false h, Bool.false_and]

/-- how many numbers the parts have, and of how many bits -/
def sz0 (c0 c2 c3 : Int) : Int := if c0 = 2 then c2 * c3 else 1
def sz1 (c0 c3 c4 : Int) : Int := if c0 = 2 then c3 * c4 else 1
def sz2 (c0 c2 c4 : Int) : Int := if c0 = 2 then c2 * c4 else if c0 = 4 then 0 else 1
def wd0 (c0 c1 : Int) : Int := if c0 = 4 then 1 else c1
/-- is a share one of a class -/
def fitsOf (c0 c1 c2 c3 c4 : Int) (a b d : List Int) : Bool :=
  decide (chk c0 c1 c2 c3 c4 = 0) && (fit (sz0 c0 c2 c3) (wd0 c0 c1) a && (fit (sz1 c0 c3 c4) c1 b && fit (sz2 c0 c2 c4) c1 d))

theorem prod_small {a b : Int} (h0 : 1 ≤ a) (h1 : a ≤ 6) (h2 : 1 ≤ b) (h3 : b ≤ 6) : 1 ≤ a * b ∧ a * b ≤ 36 := by
  have ha : a = 1 ∨ a = 2 ∨ a = 3 ∨ a = 4 ∨ a = 5 ∨ a = 6 := by omega
  rcases ha with rfl | rfl | rfl | rfl | rfl | rfl <;> omega

theorem sizes_f (k : Nat) (hk : 10 ≤ k) (c0 c1 c2 c3 c4 : Int) (h : chk c0 c1 c2 c3 c4 = 0) : shape_Sizes.f k c0 c1 c2 c3 c4 = some (sz0 c0 c2 c3, sz1 c0 c3 c4, sz2 c0 c2 c4) := by
  unfold shape_Sizes.f sz0 sz1 sz2
  rw [check_f k hk, Option.bind_some, if_pos h]
  by_cases h2 : c0 = 2
  · obtain ⟨a, b, c, d, e, f⟩ := chk_sides h h2
    have p1 := prod_small a b c d
    have p2 := prod_small c d e f
    have p3 := prod_small a b e f
    rw [if_pos h2, if_pos h2, if_pos h2, if_pos h2, w64 (by omega) (by omega), w64 (by omega) (by omega), w64 (by omega) (by omega)]
  · rw [if_neg h2, if_neg h2, if_neg h2, if_neg h2]
    by_cases h4 : c0 = 4
    · rw [if_pos h4, if_pos h4]
    · rw [if_neg h4, if_neg h4]

theorem widths_f (k : Nat) (hk : 10 ≤ k) (c0 c1 c2 c3 c4 : Int) (h : chk c0 c1 c2 c3 c4 = 0) : shape_Widths.f k c0 c1 c2 c3 c4 = some (wd0 c0 c1, c1, c1) := by
  unfold shape_Widths.f wd0
  rw [check_f k hk, Option.bind_some, if_pos h]
  by_cases h4 : c0 = 4
  · rw [if_pos h4, if_pos h4]
  · rw [if_neg h4, if_neg h4]

theorem wd0_in {c0 c1 : Int} (h0 : 1 ≤ c1) (h1 : c1 ≤ 64) : 1 ≤ wd0 c0 c1 ∧ wd0 c0 c1 ≤ 64 := by
  unfold wd0
  by_cases h4 : c0 = 4
  · rw [if_pos h4]; omega
  · rw [if_neg h4]; omega

theorem shareFits_f (k : Nat) (hk : 1100 ≤ k) (c0 c1 c2 c3 c4 : Int) (a b d : List Int) (ha : U64s a) (hb : U64s b) (hd : U64s d) (la : a.length ≤ 1000) (lb : b.length ≤ 1000) (ld : d.length ≤ 1000) :
    shape_Fits.f k c0 c1 c2 c3 c4 a b d = some (fitsOf c0 c1 c2 c3 c4 a b d) := by
  unfold shape_Fits.f fitsOf
  rw [check_f k (by omega), Option.bind_some]
  by_cases h : chk c0 c1 c2 c3 c4 = 0
  · obtain ⟨h1, h2, _, _⟩ := chk_bits h
    have hw := wd0_in (c0 := c0) h1 h2
    rw [if_pos h, decide_eq_true h, Bool.true_and, sizes_f k (by omega) _ _ _ _ _ h, Option.bind_some, widths_f k (by omega) _ _ _ _ _ h, Option.bind_some]
    simp only
    rw [fits_f k _ _ a ha la (by omega) hw.1 hw.2, Option.bind_some]
    cases fit (sz0 c0 c2 c3) (wd0 c0 c1) a with
    | false => simp
    | true =>
      rw [if_pos rfl, fits_f k _ _ b hb lb (by omega) h1 h2, Option.bind_some, Bool.true_and]
      cases fit (sz1 c0 c3 c4) c1 b with
      | false => simp
      | true =>
        rw [if_pos rfl, fits_f k _ _ d hd ld (by omega) h1 h2, Option.bind_some, Bool.true_and]
  · rw [if_neg h, decide_eq_false h, Bool.false_and]

theorem sizes_r (k : Nat) (hk : 10 ≤ k) (c0 c1 c2 c3 c4 : Int) (h : chk c0 c1 c2 c3 c4 = 0) : trefoilref09_Sizes.f k c0 c1 c2 c3 c4 = some [sz0 c0 c2 c3, sz1 c0 c3 c4, sz2 c0 c2 c4] := by
  unfold trefoilref09_Sizes.f sz0 sz1 sz2
  rw [check_r k hk, Option.bind_some, if_pos h]
  by_cases h2 : c0 = 2
  · obtain ⟨a, b, c, d, e, f⟩ := chk_sides h h2
    have p1 := prod_small a b c d
    have p2 := prod_small c d e f
    have p3 := prod_small a b e f
    rw [if_pos h2, if_pos h2, if_pos h2, if_pos h2, w64 (by omega) (by omega), w64 (by omega) (by omega), w64 (by omega) (by omega)]
  · rw [if_neg h2, if_neg h2, if_neg h2, if_neg h2]
    by_cases h4 : c0 = 4
    · rw [if_pos h4, if_pos h4]
    · rw [if_neg h4, if_neg h4]

theorem widths_r (k : Nat) (hk : 10 ≤ k) (c0 c1 c2 c3 c4 : Int) (h : chk c0 c1 c2 c3 c4 = 0) : trefoilref09_Widths.f k c0 c1 c2 c3 c4 = some [wd0 c0 c1, c1, c1] := by
  unfold trefoilref09_Widths.f wd0
  rw [check_r k hk, Option.bind_some, if_pos h]
  by_cases h4 : c0 = 4
  · rw [if_pos h4, if_pos h4]
  · rw [if_neg h4, if_neg h4]

theorem ref_inner (ns ws : List Int) (ls : List (List Int)) (i : Nat) (p : List Int) (w : Nat) (hi : i < ls.length) (hi2 : i < ws.length) (h3 : ls.length ≤ 10)
    (ep : rd_L2 ls (i : Int) = p) (ew : rd ws (i : Int) = (w : Int)) (hl : U64s p) (hs : p.length ≤ 1000) (hw0 : 1 ≤ w) (hw : w ≤ 64) (d : Nat) : ∀ (k j : Nat), j + d = p.length →
    trefoilref09_Fits.l1 (k + d + 1) ns ws ls (i : Int) (j : Int) = if lows w (p.drop j) = true then trefoilref09_Fits.l0 k ns ws ls ((i + 1 : Nat) : Int) else some false := by
  have t1 : (0 : Int) ≤ (i : Int) := by omega
  have t2 : (i : Int) < (ls.length : Int) := by omega
  have t5 : (i : Int) < (ws.length : Int) := by omega
  have t6 : (0 : Int) ≤ ((w - 1 : Nat) : Int) := by omega
  have t7 : w - 1 ≤ 64 := by omega
  have t8 : w - 1 + 1 = w := by omega
  have e6 : wrap64 ((i : Int) + 1) = ((i + 1 : Nat) : Int) := by rw [w64 (by omega) (by omega)]; omega
  have e7 : IntKind.u64.wrap (wrap64 ((w : Int) - 1)) = ((w - 1 : Nat) : Int) := by rw [w64 (by omega) (by omega), wu64 (by omega) (by omega)]; omega
  induction d with
  | zero =>
    intro k j hj
    simp only [trefoilref09_Fits.l1, ep]
    rw [if_pos t1, if_pos t2, if_neg (by omega), List.drop_eq_nil_of_le (by omega), e6]; rfl
  | succ d ih =>
    intro k j hj
    have hjl : j < p.length := by omega
    have e5 : wrap64 ((j : Int) + 1) = ((j + 1 : Nat) : Int) := by rw [w64 (by omega) (by omega)]; omega
    have hx := (hl _ (rd_mem p j hjl))
    obtain ⟨m, hm, hm2⟩ := nat_of64 hx.1 hx.2
    clear hx
    have t9 := half64 hm2
    have t3 : (j : Int) < (p.length : Int) := Int.ofNat_lt.2 hjl
    have t4 : (0 : Int) ≤ (j : Int) := Int.natCast_nonneg _
    clear hm2
    have nx := ih k (j + 1) (by omega)
    rw [show k + (d + 1) + 1 = (k + d + 1) + 1 from by omega]
    generalize k + d + 1 = K at nx ⊢
    have e8 : m / 2 / 2 ^ (w - 1) = m / 2 ^ w := by
      rw [Nat.div_div_eq_div_mul]
      congr 1
      rw [Nat.mul_comm, ← Nat.pow_succ, Nat.succ_eq_add_one, t8]
    simp only [trefoilref09_Fits.l1, ep, ew]
    rw [if_pos t1, if_pos t2, if_pos t3, if_pos t4, if_pos t5, e7, if_pos t6, e5, nx, lows_drop w p j hjl, hm, tdiv2_nat, wu64_nat' t9, shr_nat _ _ t7, e8]
    by_cases hz : m / 2 ^ w = 0
    · have h1 : m < 2 ^ w := (Nat.div_eq_zero_iff_lt (pow_pos w)).1 hz
      rw [hz, if_pos (show ((0 : Nat) : Int) = 0 from rfl), decide_eq_true (Int.ofNat_lt.2 h1), Bool.true_and]
    · have h1 : ¬ m < 2 ^ w := fun h => hz ((Nat.div_eq_zero_iff_lt (pow_pos w)).2 h)
      rw [if_neg (show ¬ ((m / 2 ^ w : Nat) : Int) = 0 from fun h => hz (Int.ofNat_inj.1 (h.trans (show (0 : Int) = ((0 : Nat) : Int) from rfl)))), decide_eq_false (fun h => h1 (Int.ofNat_lt.1 h)), Bool.false_and, if_neg (by simp)]

theorem shareFits_r (k : Nat) (hk : 4000 ≤ k) (c0 c1 c2 c3 c4 : Int) (a b d : List Int) (ha : U64s a) (hb : U64s b) (hd : U64s d) (la : a.length ≤ 1000) (lb : b.length ≤ 1000) (ld : d.length ≤ 1000) :
    trefoilref09_Fits.f k c0 c1 c2 c3 c4 a b d = some (fitsOf c0 c1 c2 c3 c4 a b d) := by
  unfold trefoilref09_Fits.f fitsOf
  rw [check_r k (by omega), Option.bind_some]
  by_cases h : chk c0 c1 c2 c3 c4 = 0
  · obtain ⟨h1, h2, _, _⟩ := chk_bits h
    have hw := wd0_in (c0 := c0) h1 h2
    rw [if_pos h, decide_eq_true h, Bool.true_and, sizes_r k (by omega) _ _ _ _ _ h, Option.bind_some, widths_r k (by omega) _ _ _ _ _ h, Option.bind_some]
    obtain ⟨wa, ewa⟩ := nat_of (show 0 ≤ wd0 c0 c1 by omega)
    obtain ⟨wb, ewb⟩ := nat_of (show 0 ≤ c1 by omega)
    have bwa : 1 ≤ wa ∧ wa ≤ 64 := by omega
    have bwb : 1 ≤ wb ∧ wb ≤ 64 := by omega
    rw [ewa, ewb]
    unfold fit
    rw [Int.toNat_natCast, Int.toNat_natCast]
    generalize sz0 c0 c2 c3 = n0
    generalize sz1 c0 c3 c4 = n1
    generalize sz2 c0 c2 c4 = n2
    have r0 := ref_inner [n0, n1, n2] [(wa : Int), wb, wb] [a, b, d] 0 a wa (by simp) (by simp) (by simp) rfl rfl ha la bwa.1 bwa.2
    have r1 := ref_inner [n0, n1, n2] [(wa : Int), wb, wb] [a, b, d] 1 b wb (by simp) (by simp) (by simp) rfl rfl hb lb bwb.1 bwb.2
    have r2 := ref_inner [n0, n1, n2] [(wa : Int), wb, wb] [a, b, d] 2 d wb (by simp) (by simp) (by simp) rfl rfl hd ld bwb.1 bwb.2
    obtain ⟨k, rfl⟩ : ∃ q, k = q + 1 + d.length + 1 + 1 + b.length + 1 + 1 + a.length + 1 + 1 := ⟨k - a.length - b.length - d.length - 7, by omega⟩
    have s0 : ∀ K, trefoilref09_Fits.l0 (K + 1) [n0, n1, n2] [(wa : Int), wb, wb] [a, b, d] 0 = if (a.length : Int) = n0 then trefoilref09_Fits.l1 K [n0, n1, n2] [(wa : Int), wb, wb] [a, b, d] 0 0 else some false := by
      intro K; simp only [trefoilref09_Fits.l0]; rfl
    have s1 : ∀ K, trefoilref09_Fits.l0 (K + 1) [n0, n1, n2] [(wa : Int), wb, wb] [a, b, d] 1 = if (b.length : Int) = n1 then trefoilref09_Fits.l1 K [n0, n1, n2] [(wa : Int), wb, wb] [a, b, d] 1 0 else some false := by
      intro K; simp only [trefoilref09_Fits.l0]; rfl
    have s2 : ∀ K, trefoilref09_Fits.l0 (K + 1) [n0, n1, n2] [(wa : Int), wb, wb] [a, b, d] 2 = if (d.length : Int) = n2 then trefoilref09_Fits.l1 K [n0, n1, n2] [(wa : Int), wb, wb] [a, b, d] 2 0 else some false := by
      intro K; simp only [trefoilref09_Fits.l0]; rfl
    have s3 : ∀ K, trefoilref09_Fits.l0 (K + 1) [n0, n1, n2] [(wa : Int), wb, wb] [a, b, d] 3 = some true := by
      intro K; simp only [trefoilref09_Fits.l0]; rfl
    rw [s0]
    by_cases ea : (a.length : Int) = n0
    · rw [if_pos ea, decide_eq_true ea, Bool.true_and]
      have q0 := r0 a.length (k + 1 + d.length + 1 + 1 + b.length + 1 + 1) 0 (by omega)
      rw [List.drop_zero] at q0
      refine q0.trans ?_
      cases lows wa a with
      | false => simp
      | true =>
        rw [if_pos rfl, Bool.true_and]
        refine (s1 _).trans ?_
        by_cases eb : (b.length : Int) = n1
        · rw [if_pos eb, decide_eq_true eb, Bool.true_and]
          have q1 := r1 b.length (k + 1 + d.length + 1 + 1) 0 (by omega)
          rw [List.drop_zero] at q1
          refine q1.trans ?_
          cases lows wb b with
          | false => simp
          | true =>
            rw [if_pos rfl, Bool.true_and]
            refine (s2 _).trans ?_
            by_cases ed : (d.length : Int) = n2
            · rw [if_pos ed, decide_eq_true ed, Bool.true_and]
              have q2 := r2 d.length (k + 1) 0 (by omega)
              rw [List.drop_zero] at q2
              refine q2.trans ?_
              cases lows wb d with
              | false => simp
              | true => rw [if_pos rfl]; exact s3 k
            · rw [if_neg ed, decide_eq_false ed, Bool.false_and]
        · rw [if_neg eb, decide_eq_false eb, Bool.false_and, Bool.false_and]
    · rw [if_neg ea, decide_eq_false ea, Bool.false_and, Bool.false_and]
  · rw [if_neg h, decide_eq_false h, Bool.false_and]
end Go.Proofs.Ytcmaidpoolcelaa.Lem
namespace Go.Proofs.Ytcmaidpoolcelaa.Lem
open Go.RowKit Go.Proofs.Ytcmaidpoolcelaa.P Go.Proofs.Ytcmaidpoolcelaa.Num Go.Proofs.YtcmaidpoolcelaaW.PrintWords Go.Proofs.YtcmaidpoolcelaaW.PrintMore
set_option linter.unusedVariables false

theorem dvd64 {l : Nat} (h1 : l ≤ 64) : 2 ^ l ∣ 18446744073709551616 := ⟨2 ^ (64 - l), by rw [← Nat.pow_add, show l + (64 - l) = 64 by omega]⟩
theorem mod64 {l : Nat} (h1 : l ≤ 64) (n : Nat) : n % 18446744073709551616 % 2 ^ l = n % 2 ^ l := Nat.mod_mod_of_dvd _ (dvd64 h1)
theorem add_mod64 {l : Nat} (h1 : l ≤ 64) (a n : Nat) : (a + n % 18446744073709551616) % 2 ^ l = (a + n) % 2 ^ l := by
  rw [Nat.add_mod, mod64 h1, ← Nat.add_mod]
theorem lt64 {l n : Nat} (h1 : l ≤ 64) : n % 2 ^ l < 18446744073709551616 := Nat.lt_of_lt_of_le (Nat.mod_lt _ (pow_pos l)) (pow_le_64 h1)

/-- the difference, cut to l bits -/
def subN (l a b : Nat) : Nat := (a + (18446744073709551616 - b)) % 2 ^ l

theorem mul_f (l a b : Nat) (h0 : 1 ≤ l) (h1 : l ≤ 64) : ring_Mul.f (l : Int) (a : Int) (b : Int) = some ((a * b % 2 ^ l : Nat) : Int) := by
  unfold ring_Mul.f
  have e : (a : Int) * (b : Int) = ((a * b : Nat) : Int) := by simp
  rw [mask_f l h0 h1, Option.bind_some, e, wu64_nat, and_mask_nat _ l (Nat.mod_lt _ (by decide)) h1, mod64 h1]

theorem add_r' (k l a b : Nat) (hk : 100 ≤ k) (h1 : l ≤ 64) (ha : a < 18446744073709551616) (hb : b < 18446744073709551616) : trefoilref03_Add.f k (l : Int) (a : Int) (b : Int) = some (((a + b) % 2 ^ l : Nat) : Int) := by
  rw [add_r k hk l a b ha hb, min64 h1]

theorem neg_cast (b : Nat) (hb : b < 18446744073709551616) : IntKind.u64.wrap (18446744073709551615 - (b : Int)) = ((18446744073709551615 - b : Nat) : Int) := by
  rw [wu64_mod]; omega

theorem neg_r (k b : Nat) (hk : 100 ≤ k) (hb : b < 18446744073709551616) : trefoilref03_Neg.f k 64 (b : Int) = some (((18446744073709551616 - b) % 18446744073709551616 : Nat) : Int) := by
  unfold trefoilref03_Neg.f
  rw [neg_cast b hb]
  have h := add_r' k 64 (18446744073709551615 - b) 1 hk (Nat.le_refl _) (by omega) (by decide)
  have e : 18446744073709551615 - b + 1 = 18446744073709551616 - b := by omega
  rw [e] at h
  rw [show (trefoilref03_Add.f k 64 ((18446744073709551615 - b : Nat) : Int) 1) = some (((18446744073709551616 - b) % 18446744073709551616 : Nat) : Int) from h]; rfl

theorem sub_r (k l a b : Nat) (hk : 100 ≤ k) (h1 : l ≤ 64) (ha : a < 18446744073709551616) (hb : b < 18446744073709551616) : trefoilref03_Sub.f k (l : Int) (a : Int) (b : Int) = some ((subN l a b : Nat) : Int) := by
  unfold trefoilref03_Sub.f subN
  rw [neg_r k b hk hb, Option.bind_some, add_r' k l a _ hk h1 ha (Nat.mod_lt _ (by decide)), Option.bind_some, add_mod64 h1]

theorem and_bit_nat (x i : Nat) (hx : x < 18446744073709551616) (hi : i < 64) : Go.bits .and .u64 (x : Int) (shl .u64 1 (i : Int)) = ((x / 2 ^ i % 2 * 2 ^ i : Nat) : Int) := by
  have hp : 2 ^ i < 18446744073709551616 := Nat.pow_lt_pow_right (a := 2) (by decide) (show i < 64 from hi)
  have e := shl_nat 1 i (by omega)
  rw [Nat.one_mul, Nat.mod_eq_of_lt hp] at e
  rw [show shl .u64 1 (i : Int) = ((2 ^ i : Nat) : Int) from e, u64_and_nat x _ hx hp, nat_bit]

theorem fit_loop (l : Int) (x : Nat) (hx : x < 18446744073709551616) (d : Nat) : ∀ (k i : Nat), i + d = min 64 l.toNat → d < k →
    trefoilref03_Fit.l0 k l x ((x % 2 ^ i : Nat) : Int) i = some ((x % 2 ^ (min 64 l.toNat) : Nat) : Int) := by
  induction d with
  | zero =>
    intro k i hi hk
    obtain ⟨k, rfl⟩ : ∃ q, k = q + 1 := ⟨k - 1, by omega⟩
    simp only [trefoilref03_Fit.l0]
    rw [← hi, Nat.add_zero]
    by_cases h : (i : Int) < 64
    · rw [if_pos h, if_neg (by omega)]
    · rw [if_neg h]
  | succ d ih =>
    intro k i hi hk
    obtain ⟨k, rfl⟩ : ∃ q, k = q + 1 := ⟨k - 1, by omega⟩
    have hi64 : i < 64 := by omega
    have hk2 : d < k := by omega
    have hi2 : i + 1 + d = min 64 l.toNat := by omega
    have t1 : (i : Int) < 64 := by omega
    have t2 : (i : Int) < l := by omega
    have t3 : (0 : Int) ≤ (i : Int) := by omega
    have t4 : i < 18446744073709551616 := by omega
    have e5 : wrap64 ((i : Int) + 1) = ((i + 1 : Nat) : Int) := by rw [w64 (by omega) (by omega)]; omega
    have nx := ih k (i + 1) hi2 hk2
    have hp := pow_le_64 (show i + 1 ≤ 64 from hi64)
    have hm := Nat.mod_lt x (pow_pos (i + 1))
    have e3 := mod_pow_succ x i
    have hlt : x % 2 ^ i + x / 2 ^ i % 2 * 2 ^ i < 18446744073709551616 := by rw [← e3]; exact Nat.lt_of_lt_of_le hm hp
    simp only [trefoilref03_Fit.l0]
    rw [if_pos t1, if_pos t2, wu64_nat' t4, if_pos t3, and_bit_nat x i hx hi64, or_join_nat _ _ i (Nat.mod_lt _ (pow_pos i)) hlt, ← e3, e5]
    exact nx

theorem fit_r (k : Nat) (hk : 100 ≤ k) (l x : Nat) (h1 : l ≤ 64) (hx : x < 18446744073709551616) : trefoilref03_Fit.f k (l : Int) (x : Int) = some ((x % 2 ^ l : Nat) : Int) := by
  have hk' : min 64 (l : Int).toNat < k := by omega
  have h := fit_loop (l : Int) x hx (min 64 (l : Int).toNat) k 0 (Nat.zero_add _) hk'
  have e1 : ((x % 2 ^ 0 : Nat) : Int) = 0 := by rw [Nat.pow_zero, Nat.mod_one]; rfl
  rw [e1, min64 h1] at h
  unfold trefoilref03_Fit.f
  exact h

/-- no bits above the l-th one -/
theorem andNot_zero (x l : Nat) (hx : x < 18446744073709551616) (hl : l ≤ 64) : x &&& (18446744073709551615 - (2 ^ l - 1)) = 0 ↔ x < 2 ^ l := by
  have hp := pow_le_64 hl
  have h0 := pow_pos l
  have e : 18446744073709551615 - (2 ^ l - 1) = (2 ^ (64 - l) - 1) <<< l := by
    rw [Nat.shiftLeft_eq, Nat.sub_mul, Nat.one_mul, ← Nat.pow_add, show 64 - l + l = 64 by omega]
    have : (2 : Nat) ^ 64 = 18446744073709551616 := by decide
    omega
  rw [e]
  constructor
  · intro h
    have h2 : (x &&& (2 ^ (64 - l) - 1) <<< l) / 2 ^ l = 0 := by rw [h]; exact Nat.zero_div _
    rw [Nat.and_div_two_pow, Nat.shiftLeft_eq, Nat.mul_div_cancel _ h0, Nat.and_two_pow_sub_one_eq_mod] at h2
    have h3 : x / 2 ^ l < 2 ^ (64 - l) := by
      rw [Nat.div_lt_iff_lt_mul h0, ← Nat.pow_add, show 64 - l + l = 64 by omega]
      exact hx
    rw [Nat.mod_eq_of_lt h3] at h2
    exact (Nat.div_eq_zero_iff_lt h0).1 h2
  · intro h
    apply Nat.eq_of_testBit_eq
    intro i
    rw [Nat.testBit_and, Nat.testBit_shiftLeft, Nat.zero_testBit]
    by_cases hi : l ≤ i
    · have : x < 2 ^ i := Nat.lt_of_lt_of_le h (Nat.pow_le_pow_right (by decide) hi)
      rw [Nat.testBit_lt_two_pow this, Bool.false_and]
    · rw [decide_eq_false (by omega), Bool.false_and, Bool.and_false]

theorem over_nat (x : Int) (l : Nat) (h0 : 0 ≤ x) (h1 : x < 18446744073709551616) (hl : l ≤ 64) : over ((2 ^ l - 1 : Nat) : Int) x = !decide (x < ((2 ^ l : Nat) : Int)) := by
  obtain ⟨m, rfl, hm⟩ := nat_of64 h0 h1
  have hp := pow_le_64 hl
  have h0 := pow_pos l
  have hq : 2 ^ l - 1 < 18446744073709551616 := by omega
  unfold over
  rw [u64_andNot_nat m _ hm hq]
  have key := andNot_zero m l hm hl
  by_cases h : m < 2 ^ l
  · rw [key.2 h, decide_eq_true (Int.ofNat_lt.2 h)]; rfl
  · rw [decide_eq_false (fun c => h (Int.ofNat_lt.1 c))]
    have hne : m &&& (18446744073709551615 - (2 ^ l - 1)) ≠ 0 := fun c => h (key.1 c)
    generalize m &&& (18446744073709551615 - (2 ^ l - 1)) = z at hne ⊢
    simp
    omega

theorem ringFits_f (l : Nat) (h0 : 1 ≤ l) (h1 : l ≤ 64) (xs : List Int) (hx : U64s xs) : ring_Fits.f (l : Int) xs = some (lows l xs) := by
  unfold ring_Fits.f lows
  rw [mask_f l h0 h1, Option.bind_some]
  congr 1
  rw [Bool.eq_iff_iff, Bool.not_eq_true', List.any_eq_false, List.all_eq_true]
  constructor
  · intro h x hxx
    have := h x hxx
    rw [over_nat x l (hx x hxx).1 (hx x hxx).2 h1] at this
    simpa using this
  · intro h x hxx
    have := h x hxx
    rw [over_nat x l (hx x hxx).1 (hx x hxx).2 h1]
    simpa using this
end Go.Proofs.Ytcmaidpoolcelaa.Lem
namespace Go.Proofs.Ytcmaidpoolcelaa.Lem
open Go.RowKit Go.Proofs.Ytcmaidpoolcelaa.P Go.Proofs.Ytcmaidpoolcelaa.Num Go.Proofs.YtcmaidpoolcelaaW.PrintWords Go.Proofs.YtcmaidpoolcelaaW.PrintMore
set_option linter.unusedVariables false

/-- one bit of a number, as the program takes it -/
theorem bit_one (m i : Nat) (hm : m < 18446744073709551616) (hi : i ≤ 64) : ((Go.bits .and .u64 (shr .u64 (m : Int) (i : Int)) 1) == 1) = m.testBit i := by
  rw [shr_nat m i hi]
  have hd : m / 2 ^ i < 18446744073709551616 := Nat.lt_of_le_of_lt (Nat.div_le_self _ _) hm
  have e := u64_and_nat (m / 2 ^ i) 1 hd (by decide)
  rw [show Go.bits .and .u64 ((m / 2 ^ i : Nat) : Int) 1 = ((m / 2 ^ i &&& 1 : Nat) : Int) from e, nat_mask1, Nat.testBit_eq_decide_div_mod_eq]
  rw [Bool.eq_iff_iff, beq_iff_eq, decide_eq_true_eq]
  omega
def numBits (l : Nat) (x : Int) : List Bool := (List.range l).map fun j => x.toNat.testBit j
def allBits (l : Nat) (xs : List Int) : List Bool := xs.flatMap (numBits l)
theorem numBits_len (l : Nat) (x : Int) : (numBits l x).length = l := by simp [numBits]
theorem allBits_len (l : Nat) (xs : List Int) : (allBits l xs).length = xs.length * l := by
  induction xs with
  | nil => simp [allBits]
  | cons x xs ih =>
    have : (allBits l (x :: xs)).length = (numBits l x).length + (allBits l xs).length := by simp [allBits]
    rw [this, ih, numBits_len, List.length_cons, Nat.succ_mul, Nat.add_comm]
theorem allBits_snoc (l : Nat) (xs : List Int) (i : Nat) (h : i < xs.length) : allBits l (xs.take i) ++ numBits l (rd xs (i : Int)) = allBits l (xs.take (i + 1)) := by
  have e7 : rd xs (i : Int) = xs[i] := by simp [rd, h]
  rw [e7, List.take_succ_eq_append_getElem h]
  unfold allBits
  rw [List.flatMap_append, List.flatMap_cons, List.flatMap_nil, List.append_nil]
theorem bits_loop (l x : Nat) (hl : l ≤ 64) (hx : x < 18446744073709551616) (d : Nat) : ∀ (k i : Nat) (L : List Bool), i + d = l → d < k → L.length = l → (∀ j, j < i → L[j]? = some (x.testBit j)) →
    ring_Bits.l0 k (x : Int) L (l : Int) (i : Int) = some (numBits l (x : Int)) := by
  induction d with
  | zero =>
    intro k i L hi hk hL hb
    obtain ⟨k, rfl⟩ : ∃ q, k = q + 1 := ⟨k - 1, by omega⟩
    simp only [ring_Bits.l0]
    rw [if_neg (by omega)]
    congr 1
    apply List.ext_getElem?
    intro j
    by_cases hj : j < l
    · rw [hb j (by omega)]; simp [numBits, hj]
    · rw [List.getElem?_eq_none (by omega), List.getElem?_eq_none (by rw [numBits_len]; omega)]
  | succ d ih =>
    intro k i L hi hk hL hb
    obtain ⟨k, rfl⟩ : ∃ q, k = q + 1 := ⟨k - 1, by omega⟩
    have e5 : wrap64 ((i : Int) + 1) = ((i + 1 : Nat) : Int) := by rw [w64 (by omega) (by omega)]; omega
    have e6 : IntKind.u64.wrap (i : Int) = (i : Int) := wu64_nat' (by omega)
    have nx := ih k (i + 1) (L.set i (x.testBit i)) (by omega) (by omega) (by rw [List.length_set]; exact hL) (by
      intro j hj
      by_cases h : i = j
      · subst h; rw [List.getElem?_set_self (by omega)]
      · rw [List.getElem?_set_ne h]; exact hb j (by omega))
    simp only [ring_Bits.l0]
    rw [if_pos (by omega), e6, if_pos (by omega), if_pos (by omega), if_pos (by omega), bit_one x i hx (by omega), Int.toNat_natCast, e5]
    exact nx

theorem bits_f (k l x : Nat) (h0 : 1 ≤ l) (hl : l ≤ 64) (hx : x < 18446744073709551616) (hk : 100 ≤ k) : ring_Bits.f k (l : Int) (x : Int) = some (numBits l (x : Int)) := by
  unfold ring_Bits.f
  have hp := Nat.pow_lt_pow_right (a := 2) (by decide) (show 0 < l by omega)
  rw [mask_f l h0 hl, Option.bind_some, if_neg (by omega), if_pos (by omega), if_pos (by omega), Option.bind_some, Int.toNat_natCast, List.length_replicate]
  exact bits_loop l x hl hx l k 0 _ (by omega) (by omega) (by simp) (by intro j hj; omega)

/-- the program's choices for numbers -/
theorem gch_loop (l : Nat) (h0 : 1 ≤ l) (hl : l ≤ 64) (xs : List Int) (hx : U64s xs) (hn : xs.length ≤ 10000) (d : Nat) : ∀ (k i : Nat), i + d = xs.length → d + 100 < k →
    gilboa_Choices.l0 k (l : Int) (allBits l (xs.take i)) xs (xs.length : Int) (i : Int) = (bits_Of.f (k - d - 1) (allBits l xs)).bind fun b => some (b.1, b.2.1, b.2.2) := by
  induction d with
  | zero =>
    intro k i hi hk
    obtain ⟨k, rfl⟩ : ∃ q, k = q + 1 := ⟨k - 1, by omega⟩
    simp only [gilboa_Choices.l0]
    rw [if_neg (by omega), List.take_of_length_le (by omega)]; rfl
  | succ d ih =>
    intro k i hi hk
    obtain ⟨k, rfl⟩ : ∃ q, k = q + 1 := ⟨k - 1, by omega⟩
    have hil : i < xs.length := by omega
    have e5 : wrap64 ((i : Int) + 1) = ((i + 1 : Nat) : Int) := by rw [w64 (by omega) (by omega)]; omega
    have nx := ih k (i + 1) (by omega) (by omega)
    obtain ⟨x, ex, hx1⟩ := nat_of64 (hx _ (rd_mem xs i hil)).1 (hx _ (rd_mem xs i hil)).2
    have sn := allBits_snoc l xs i hil
    rw [ex] at sn
    have h1 := allBits_len l (xs.take i)
    have h2 : (xs.take i).length ≤ 10000 := by rw [List.length_take]; omega
    have h3 : (xs.take i).length * l ≤ 10000 * 64 := Nat.mul_le_mul h2 hl
    have hlen : (allBits l (xs.take i)).length + (numBits l (x : Int)).length < 140737488355328 := by rw [numBits_len]; omega
    simp only [gilboa_Choices.l0]
    rw [if_pos (by omega), if_pos (by omega), if_pos (by omega), ex, bits_f k l x h0 hl hx1 (by omega), Option.bind_some, if_pos hlen, sn, e5, nx]
    congr 2
    omega

theorem good_f {l n : Int} (h0 : 1 ≤ l) (h1 : l ≤ 64) (h2 : 1 ≤ n) (h3 : n ≤ 6) : gilboa_good.f l n = some true := by
  unfold gilboa_good.f
  rw [if_pos (by omega), if_pos (by omega), if_pos (by omega), decide_eq_true h3]
theorem gch_f (k l : Nat) (h0 : 1 ≤ l) (hl : l ≤ 64) (xs : List Int) (hx : U64s xs) (hlo : lows l xs = true) (hn : xs.length ≤ 10000) (hk : 700000 ≤ k) :
    ∃ V, gilboa_Choices.f k (l : Int) xs = some (((allBits l xs).length : Int), V, 0) ∧ Words64 V ∧ V.length = wordsOf (allBits l xs).length ∧ (∀ j, bitAt V j = (allBits l xs).getD j false) := by
  have hlen : (allBits l xs).length ≤ 10000 * 64 := by rw [allBits_len]; exact Nat.mul_le_mul hn hl
  obtain ⟨k, rfl⟩ : ∃ q, k = q + 1 := ⟨k - 1, by omega⟩
  obtain ⟨V, h1, h2, h3, h4⟩ := of_f (allBits l xs) (k - xs.length - 1) (by omega) (by omega)
  refine ⟨V, ?_, h2, h3, h4⟩
  unfold gilboa_Choices.f
  rw [good_f (by omega) (by omega) (by omega) (by omega), Option.bind_some, if_pos rfl, ringFits_f l h0 hl xs hx, Option.bind_some, hlo]
  simp only [gilboa_Choices.j0]
  rw [if_neg (by simp)]
  have := gch_loop l h0 hl xs hx hn xs.length k 0 (by omega) (by omega)
  rw [List.take_zero] at this
  refine (show gilboa_Choices.l0 k (l : Int) [] xs (xs.length : Int) 0 = _ from this).trans ?_
  rw [h1, Option.bind_some]

/-- the document's test -/
theorem fits19_loop (l : Nat) (hl : l ≤ 64) (xs : List Int) (hx : U64s xs) (hn : xs.length ≤ 10000) (d : Nat) : ∀ (k i : Nat), i + d = xs.length → d + 100 < k →
    trefoilref19_Fits.l0 k (l : Int) xs (i : Int) = some (lows l (xs.drop i)) := by
  induction d with
  | zero =>
    intro k i hi hk
    obtain ⟨k, rfl⟩ : ∃ q, k = q + 1 := ⟨k - 1, by omega⟩
    simp only [trefoilref19_Fits.l0]
    rw [if_neg (by omega), List.drop_eq_nil_of_le (by omega)]; rfl
  | succ d ih =>
    intro k i hi hk
    obtain ⟨k, rfl⟩ : ∃ q, k = q + 1 := ⟨k - 1, by omega⟩
    have hil : i < xs.length := by omega
    have e5 : wrap64 ((i : Int) + 1) = ((i + 1 : Nat) : Int) := by rw [w64 (by omega) (by omega)]; omega
    have nx := ih k (i + 1) (by omega) (by omega)
    obtain ⟨x, ex, hx1⟩ := nat_of64 (hx _ (rd_mem xs i hil)).1 (hx _ (rd_mem xs i hil)).2
    simp only [trefoilref19_Fits.l0]
    rw [if_pos (by omega), if_pos (by omega), lows_drop l xs i hil, ex, fit_r k (by omega) l x hl hx1, Option.bind_some, e5]
    by_cases hz : x < 2 ^ l
    · rw [Nat.mod_eq_of_lt hz, if_pos rfl, decide_eq_true (Int.ofNat_lt.2 hz), Bool.true_and]; exact nx
    · have hne : ¬ x % 2 ^ l = x := fun e => hz (by rw [← e]; exact Nat.mod_lt _ (pow_pos l))
      rw [if_neg (fun e => hne (Int.ofNat_inj.1 e)), decide_eq_false (fun c => hz (Int.ofNat_lt.1 c)), Bool.false_and]

theorem fits19_f (k l : Nat) (hl : l ≤ 64) (xs : List Int) (hx : U64s xs) (hn : xs.length ≤ 10000) (hk : 10200 ≤ k) : trefoilref19_Fits.f k (l : Int) xs = some (lows l xs) := by
  unfold trefoilref19_Fits.f
  have := fits19_loop l hl xs hx hn xs.length k 0 (by omega) (by omega)
  rwa [List.drop_zero] at this

end Go.Proofs.Ytcmaidpoolcelaa.Lem
namespace Go.Proofs.Ytcmaidpoolcelaa.Lem
open Go.RowKit Go.Proofs.Ytcmaidpoolcelaa.P Go.Proofs.Ytcmaidpoolcelaa.Num Go.Proofs.YtcmaidpoolcelaaW.PrintWords Go.Proofs.YtcmaidpoolcelaaW.PrintMore
set_option linter.unusedVariables false

theorem mulstep (a b l i : Nat) (hl : l ≤ 64) : (a * (b % 2 ^ i) % 2 ^ l + a * 2 ^ i % 18446744073709551616) % 2 ^ l = a * (b % 2 ^ i + 2 ^ i) % 2 ^ l := by
  rw [add_mod64 hl, Nat.mod_add_mod, Nat.mul_add]
theorem dblmul (a i : Nat) : (a * 2 ^ i % 18446744073709551616 + a * 2 ^ i % 18446744073709551616) % 18446744073709551616 = a * 2 ^ (i + 1) % 18446744073709551616 := by
  rw [← Nat.add_mod, Nat.pow_succ, ← Nat.mul_assoc, Nat.mul_two]
theorem mul_loop (l a b : Nat) (hl : l ≤ 64) (ha : a < 18446744073709551616) (hb : b < 18446744073709551616) (d : Nat) : ∀ (k i : Nat), i + d = l → 2 * d + 103 < k →
    trefoilref03_Mul.l0 k (l : Int) ((a * 2 ^ i % 18446744073709551616 : Nat) : Int) (b : Int) ((a * (b % 2 ^ i) % 2 ^ l : Nat) : Int) (i : Int) = some ((a * b % 2 ^ l : Nat) : Int) := by
  induction d with
  | zero =>
    intro k i hi hk
    obtain ⟨k, rfl⟩ : ∃ q, k = q + 1 + 1 := ⟨k - 2, by omega⟩
    obtain ⟨K, hK⟩ : ∃ K, K = k + 1 := ⟨_, rfl⟩
    rw [← hK]
    simp only [trefoilref03_Mul.l0]
    rw [hK]
    obtain rfl : i = l := by omega
    have e : a * (b % 2 ^ i) % 2 ^ i = a * b % 2 ^ i := by rw [Nat.mul_mod_mod]
    have hlt : ¬ ((i : Int) < (i : Int)) := by omega
    by_cases h : (i : Int) < 64
    · rw [if_pos h, decide_eq_false hlt, e]
      simp only [trefoilref03_Mul.j1]
      rfl
    · rw [if_neg h, e]
      simp only [trefoilref03_Mul.j1]
      rfl
  | succ d ih =>
    intro k i hi hk
    obtain ⟨k, rfl⟩ : ∃ q, k = q + 1 + 1 := ⟨k - 2, by omega⟩
    obtain ⟨K, hK⟩ : ∃ K, K = k + 1 := ⟨_, rfl⟩
    rw [← hK]
    simp only [trefoilref03_Mul.l0]
    rw [hK]
    have hi64 : i < 64 := by omega
    have t1 : (i : Int) < 64 := by omega
    have t2 : (i : Int) < (l : Int) := by omega
    have t3 : (0 : Int) ≤ (i : Int) := by omega
    have hk2 : 2 * d + 103 < k := by omega
    have hk3 : 100 ≤ k := by omega
    have hi2 : i + 1 + d = l := by omega
    have nx := ih k (i + 1) hi2 hk2
    have e5 : wrap64 ((i : Int) + 1) = ((i + 1 : Nat) : Int) := by rw [w64 (by omega) (by omega)]; omega
    have m1 : a * 2 ^ i % 18446744073709551616 < 18446744073709551616 := Nat.mod_lt _ (by decide)
    have m2 : a * (b % 2 ^ i) % 2 ^ l < 18446744073709551616 := lt64 hl
    have a1 := add_r' k l _ _ hk3 hl m2 m1
    have a2 := add_r' k 64 _ _ hk3 (Nat.le_refl _) m1 m1
    rw [show ((64 : Nat) : Int) = 64 by rfl, show (2 : Nat) ^ 64 = 18446744073709551616 by decide, dblmul] at a2
    rw [mulstep a b l i hl] at a1
    rw [if_pos t1, decide_eq_true t2]
    simp only [trefoilref03_Mul.j1]
    have hbit : b / 2 ^ i % 2 < 2 := Nat.mod_lt _ (by decide)
    have hs := mod_pow_succ b i
    rw [if_pos trivial, wu64_nat' (n := i) (by omega), if_pos t3, shr_nat b i (by omega), tmod2_nat]
    by_cases hb1 : b / 2 ^ i % 2 = 1
    · rw [hb1, Nat.one_mul] at hs
      rw [hb1, if_pos (by rfl), a1, Option.bind_some, a2, Option.bind_some, e5, ← hs]
      exact nx
    · have hb0 : b / 2 ^ i % 2 = 0 := by omega
      rw [hb0, Nat.zero_mul] at hs
      rw [hs] at nx
      rw [hb0, if_neg (by decide), a2, Option.bind_some, e5]
      exact nx
theorem mul_r (k l a b : Nat) (hk : 300 ≤ k) (hl : l ≤ 64) (ha : a < 18446744073709551616) (hb : b < 18446744073709551616) : trefoilref03_Mul.f k (l : Int) (a : Int) (b : Int) = some ((a * b % 2 ^ l : Nat) : Int) := by
  have h := mul_loop l a b hl ha hb l k 0 (by omega) (by omega)
  rw [Nat.pow_zero, Nat.mul_one, Nat.mod_one, Nat.mul_zero, Nat.zero_mod, Nat.mod_eq_of_lt ha] at h
  exact h

/-- a sum of products: the numbers of a row from p on with those of a column, from q on, n apart -/
def prods (a b : List Int) (p q n : Nat) : Nat → Nat
  | 0 => 0
  | t + 1 => prods a b p q n t + (rd a ((p + t : Nat) : Int)).toNat * (rd b ((t * n + q : Nat) : Int)).toNat
theorem u64_rd {xs : List Int} (h : U64s xs) (i : Nat) (hi : i < xs.length) : ∃ m : Nat, rd xs (i : Int) = (m : Int) ∧ m < 18446744073709551616 := by
  have := h _ (rd_mem xs i hi)
  exact nat_of64 this.1 this.2
theorem sum_mod (x y l : Nat) : (x % 2 ^ l + y % 2 ^ l) % 2 ^ l = (x + y) % 2 ^ l := (Nat.add_mod _ _ _).symm

/-- the document's sum of products of two lists -/
theorem dot_loop (l : Nat) (hl : l ≤ 64) (a b c d : List Int) (p q n : Nat) (hc : U64s c) (hd : U64s d) (hlen : d.length = c.length) (hn : c.length ≤ 1000)
    (ec : ∀ t : Nat, t < c.length → rd c (t : Int) = rd a ((p + t : Nat) : Int)) (ed : ∀ t : Nat, t < c.length → rd d (t : Int) = rd b ((t * n + q : Nat) : Int)) (r : Nat) : ∀ (k i : Nat), i + r = c.length → r + 301 < k →
    trefoilref03_Dot.l0 k (l : Int) c d ((prods a b p q n i % 2 ^ l : Nat) : Int) (i : Int) = some (((prods a b p q n c.length % 2 ^ l : Nat) : Int), 0) := by
  induction r with
  | zero =>
    intro k i hi hk
    obtain ⟨k, rfl⟩ : ∃ q, k = q + 1 := ⟨k - 1, by omega⟩
    have t1 : ¬ ((i : Int) < (c.length : Int)) := by omega
    simp only [trefoilref03_Dot.l0]
    rw [if_neg t1, show i = c.length by omega]
  | succ r ih =>
    intro k i hi hk
    obtain ⟨k, rfl⟩ : ∃ q, k = q + 1 := ⟨k - 1, by omega⟩
    have hic : i < c.length := by omega
    have nx := ih k (i + 1) (by omega) (by omega)
    have t1 : (i : Int) < (c.length : Int) := by omega
    have t2 : (0 : Int) ≤ (i : Int) := by omega
    have t3 : (i : Int) < (d.length : Int) := by omega
    have hk3 : 300 ≤ k := by omega
    have hk4 : 100 ≤ k := by omega
    have e5 : wrap64 ((i : Int) + 1) = ((i + 1 : Nat) : Int) := by rw [w64 (by omega) (by omega)]; omega
    obtain ⟨x, ex, hx⟩ := u64_rd hc i hic
    obtain ⟨y, ey, hy⟩ := u64_rd hd i (by omega)
    have hs : prods a b p q n (i + 1) = prods a b p q n i + x * y := by
      show prods a b p q n i + _ * _ = _
      rw [← ec i hic, ← ed i hic, ex, ey]; rfl
    simp only [trefoilref03_Dot.l0]
    rw [if_pos t1, if_pos t2, if_pos t3, ex, ey, mul_r k l x y hk3 hl hx hy, Option.bind_some, add_r' k l _ _ hk4 hl (lt64 hl) (lt64 hl), Option.bind_some, sum_mod, ← hs, e5]
    exact nx
theorem dot_r (k l : Nat) (hk : 2000 ≤ k) (hl : l ≤ 64) (a b c d : List Int) (p q n : Nat) (hc : U64s c) (hd : U64s d) (hlen : d.length = c.length) (hn : c.length ≤ 1000)
    (ec : ∀ t : Nat, t < c.length → rd c (t : Int) = rd a ((p + t : Nat) : Int)) (ed : ∀ t : Nat, t < c.length → rd d (t : Int) = rd b ((t * n + q : Nat) : Int)) :
    trefoilref03_Dot.f k (l : Int) c d = some (((prods a b p q n c.length % 2 ^ l : Nat) : Int), 0) := by
  unfold trefoilref03_Dot.f
  rw [if_pos (by omega)]
  have h := dot_loop l hl a b c d p q n hc hd hlen hn ec ed c.length k 0 (by omega) (by omega)
  rw [show prods a b p q n 0 = 0 by rfl, Nat.zero_mod] at h
  exact h

def entry_ (l : Nat) (a b : List Int) (k n q : Nat) : Int := ((prods a b (q / n * k) (q % n) n k % 2 ^ l : Nat) : Int)
/-- a product of matrices, row by row -/
def mm (l m k n : Nat) (a b : List Int) : List Int := (List.range (m * n)).map (entry_ l a b k n)
theorem mm_len (l m k n : Nat) (a b : List Int) : (mm l m k n a b).length = m * n := by simp [mm]
theorem mm_take (l m k n : Nat) (a b : List Int) (p : Nat) (h : p ≤ m * n) : (mm l m k n a b).take p = (List.range p).map (entry_ l a b k n) := by
  unfold mm
  rw [← List.map_take, List.take_range, Nat.min_eq_left h]
theorem mm_snoc (l m k n : Nat) (a b : List Int) (p : Nat) (h : p < m * n) : (mm l m k n a b).take p ++ [entry_ l a b k n p] = (mm l m k n a b).take (p + 1) := by
  rw [mm_take l m k n a b p (by omega), mm_take l m k n a b (p + 1) (by omega), List.range_succ, List.map_append]; rfl
theorem place (i j n : Nat) (h : j < n) : (i * n + j) / n = i ∧ (i * n + j) % n = j := by
  constructor
  · rw [Nat.mul_comm, Nat.mul_add_div (by omega), Nat.div_eq_of_lt h, Nat.add_zero]
  · rw [Nat.mul_comm, Nat.mul_add_mod, Nat.mod_eq_of_lt h]
theorem place_lt {i j m n : Nat} (hi : i < m) (hj : j < n) : i * n + j < m * n := by
  have : (i + 1) * n ≤ m * n := Nat.mul_le_mul_right n hi
  rw [Nat.succ_mul] at this
  omega
theorem sixes {i m : Nat} (h : i ≤ m) (hm : m ≤ 6) {n : Nat} (hn : n ≤ 6) : i * n ≤ 36 := Nat.le_trans (Nat.mul_le_mul (Nat.le_trans h hm) hn) (by decide)

/-- the document's column -/
def colOf (b : List Int) (n q t : Nat) : List Int := (List.range t).map fun s => rd b ((s * n + q : Nat) : Int)
theorem col_len (b : List Int) (n q t : Nat) : (colOf b n q t).length = t := by simp [colOf]
theorem col_snoc (b : List Int) (n q t : Nat) : colOf b n q t ++ [rd b ((t * n + q : Nat) : Int)] = colOf b n q (t + 1) := by
  unfold colOf; rw [List.range_succ, List.map_append]; rfl
theorem col_rd (b : List Int) (n q t s : Nat) (h : s < t) : rd (colOf b n q t) (s : Int) = rd b ((s * n + q : Nat) : Int) := by
  have hl : s < (colOf b n q t).length := by rw [col_len]; exact h
  show (colOf b n q t).getD (s : Int).toNat 0 = _
  rw [Int.toNat_natCast, List.getD_eq_getElem?_getD, List.getElem?_eq_getElem hl]
  simp [colOf]
theorem col_u64 (b : List Int) (hb : U64s b) (n q t : Nat) (hq : ∀ s, s < t → s * n + q < b.length) : U64s (colOf b n q t) := by
  intro x hx
  unfold colOf at hx
  obtain ⟨s, hs, rfl⟩ := List.mem_map.1 hx
  exact hb _ (rd_mem b _ (hq s (List.mem_range.1 hs)))

theorem cut_len (a : List Int) (p k : Nat) (h : p + k ≤ a.length) : ((a.take (p + k)).drop p).length = k := by
  rw [List.length_drop, List.length_take]; omega
theorem cut_rd (a : List Int) (p k t : Nat) (h : p + k ≤ a.length) (ht : t < k) : rd ((a.take (p + k)).drop p) (t : Int) = rd a ((p + t : Nat) : Int) := by
  show ((a.take (p + k)).drop p).getD (t : Int).toNat 0 = a.getD (((p + t : Nat) : Int)).toNat 0
  rw [Int.toNat_natCast, Int.toNat_natCast, List.getD_eq_getElem?_getD, List.getD_eq_getElem?_getD, List.getElem?_drop, List.getElem?_take]
  rw [if_pos (by omega)]
theorem cut_u64 (a : List Int) (ha : U64s a) (p k : Nat) : U64s ((a.take (p + k)).drop p) := fun x hx => ha x (List.mem_of_mem_take (List.mem_of_mem_drop hx))

theorem mulw (x y : Nat) (h : x * y ≤ 1000000) : wrap64 ((x : Int) * (y : Int)) = ((x * y : Nat) : Int) := by rw [← Int.natCast_mul]; exact w64 (by omega) (by omega)
theorem addw (x y : Nat) (h : x + y ≤ 1000000) : wrap64 ((x : Int) + (y : Int)) = ((x + y : Nat) : Int) := by rw [← Int.natCast_add]; exact w64 (by omega) (by omega)
theorem succw (x : Nat) (h : x ≤ 1000000) : wrap64 ((x : Int) + 1) = ((x + 1 : Nat) : Int) := by rw [w64 (by omega) (by omega)]; omega
section
variable (l m k n : Nat) (hl : l ≤ 64) (hm : m ≤ 6) (hk6 : k ≤ 6) (hn : n ≤ 6) (a b : List Int) (ha : U64s a) (hb : U64s b) (la : a.length = m * k) (lb : b.length = k * n)
include hl hm hk6 hn ha hb la lb
theorem rmm_col (i j : Nat) (hi : i < m) (hj : j < n) (out : List Int) (ho : out.length ≤ 40) (d : Nat) : ∀ (f t : Nat), t + d = k → d + 2100 < f →
    trefoilref03_MatMul.l2 f (l : Int) (m : Int) (k : Int) (n : Int) a b out (i : Int) (j : Int) (colOf b n j t) (t : Int) =
      trefoilref03_MatMul.l1 (f - d - 1) (l : Int) (m : Int) (k : Int) (n : Int) a b (out ++ [entry_ l a b k n (i * n + j)]) (i : Int) ((j + 1 : Nat) : Int) := by
  induction d with
  | zero =>
    intro f t ht hf
    obtain ⟨f, rfl⟩ : ∃ q, f = q + 1 := ⟨f - 1, by omega⟩
    obtain rfl : t = k := by omega
    have t1 : ¬ ((t : Int) < (t : Int)) := by omega
    have c1 : i * t ≤ 36 := sixes (Nat.le_of_lt hi) hm hk6
    have c2 : (i + 1) * t ≤ m * t := Nat.mul_le_mul_right t hi
    rw [Nat.succ_mul] at c2
    have b1 : i * t ≤ 1000000 := by omega
    have b2 : i * t + t ≤ 1000000 := by omega
    have b3 : j ≤ 1000000 := by omega
    have t2 : (0 : Int) ≤ ((i * t : Nat) : Int) := by omega
    have t3 : ((i * t : Nat) : Int) ≤ ((i * t + t : Nat) : Int) := by omega
    have t4 : ((i * t + t : Nat) : Int) ≤ (a.length : Int) := by omega
    have t5 : out.length < 17592186044416 := by omega
    have cl := cut_len a (i * t) t (by omega)
    have hq : ∀ s, s < t → s * n + j < b.length := fun s hs => by rw [lb]; exact place_lt hs hj
    have dt := dot_r f l (by omega) hl a b ((a.take (i * t + t)).drop (i * t)) (colOf b n j t) (i * t) j n (cut_u64 a ha _ _) (col_u64 b hb n j t hq) (by rw [col_len, cl]) (by omega)
      (fun s hs => cut_rd a (i * t) t s (by omega) (by omega)) (fun s hs => col_rd b n j t s (by omega))
    rw [cl] at dt
    have pl := place i j n hj
    have en : entry_ l a b t n (i * n + j) = ((prods a b (i * t) j n t % 2 ^ l : Nat) : Int) := by unfold entry_; rw [pl.1, pl.2]
    simp only [trefoilref03_MatMul.l2]
    rw [if_neg t1, mulw i t b1, addw (i * t) t b2, if_pos t2, if_pos t3, if_pos t4, Int.toNat_natCast, Int.toNat_natCast, dt, Option.bind_some, if_pos t5, succw j b3, en]
    rfl
  | succ d ih =>
    intro f t ht hf
    obtain ⟨f, rfl⟩ : ∃ q, f = q + 1 := ⟨f - 1, by omega⟩
    have nx := ih f (t + 1) (by omega) (by omega)
    have htk : t < k := by omega
    have t1 : (t : Int) < (k : Int) := by omega
    have c1 : t * n ≤ 36 := sixes (Nat.le_of_lt htk) hk6 hn
    have c2 := place_lt htk hj
    have b1 : t * n ≤ 1000000 := by omega
    have b2 : t * n + j ≤ 1000000 := by omega
    have b3 : t ≤ 1000000 := by omega
    have t2 : (0 : Int) ≤ ((t * n + j : Nat) : Int) := by omega
    have t3 : ((t * n + j : Nat) : Int) < (b.length : Int) := by omega
    have t4 : (colOf b n j t).length < 17592186044416 := by rw [col_len]; omega
    have ef : f - d - 1 = f + 1 - (d + 1) - 1 := by omega
    simp only [trefoilref03_MatMul.l2]
    rw [if_pos t1, mulw t n b1, addw (t * n) j b2, if_pos t2, if_pos t3, if_pos t4, col_snoc, succw t b3, nx, ef]
theorem rmm_row (i : Nat) (hi : i < m) (d : Nat) : ∀ (f j : Nat), j + d = n → d * (k + 2) + 2200 < f →
    trefoilref03_MatMul.l1 f (l : Int) (m : Int) (k : Int) (n : Int) a b ((mm l m k n a b).take (i * n + j)) (i : Int) (j : Int) =
      trefoilref03_MatMul.l0 (f - d * (k + 2) - 1) (l : Int) (m : Int) (k : Int) (n : Int) a b ((mm l m k n a b).take ((i + 1) * n)) ((i + 1 : Nat) : Int) := by
  induction d with
  | zero =>
    intro f j hj hf
    obtain ⟨f, rfl⟩ : ∃ q, f = q + 1 := ⟨f - 1, by omega⟩
    obtain rfl : j = n := by omega
    have t1 : ¬ ((j : Int) < (j : Int)) := by omega
    have b3 : i ≤ 1000000 := by omega
    simp only [trefoilref03_MatMul.l1]
    rw [if_neg t1, succw i b3, Nat.succ_mul, Nat.zero_mul]
    rfl
  | succ d ih =>
    intro f j hj hf
    rw [Nat.succ_mul] at hf
    obtain ⟨f, rfl⟩ : ∃ q, f = q + 1 := ⟨f - 1, by omega⟩
    have hjn : j < n := by omega
    have t1 : (j : Int) < (n : Int) := by omega
    have c2 := place_lt hi hjn
    have c3 := sixes (Nat.le_refl m) hm hn
    have cl := rmm_col l m k n hl hm hk6 hn a b ha hb la lb i j hi hjn ((mm l m k n a b).take (i * n + j)) (by rw [List.length_take]; omega) k f 0 (by omega) (by omega)
    have nx := ih (f - k - 1) (j + 1) (by omega) (by omega)
    have ef : f - k - 1 - d * (k + 2) - 1 = f + 1 - (d + 1) * (k + 2) - 1 := by rw [Nat.succ_mul]; omega
    simp only [trefoilref03_MatMul.l1]
    rw [if_pos t1]
    refine cl.trans ?_
    rw [mm_snoc l m k n a b _ c2, Nat.add_assoc, nx, ef]
theorem rmm_loop (d : Nat) : ∀ (f i : Nat), i + d = m → d * (n * (k + 2) + 2) + 2300 < f →
    trefoilref03_MatMul.l0 f (l : Int) (m : Int) (k : Int) (n : Int) a b ((mm l m k n a b).take (i * n)) (i : Int) = some (mm l m k n a b, 0) := by
  induction d with
  | zero =>
    intro f i hi hf
    obtain ⟨f, rfl⟩ : ∃ q, f = q + 1 := ⟨f - 1, by omega⟩
    obtain rfl : i = m := by omega
    have t1 : ¬ ((i : Int) < (i : Int)) := by omega
    simp only [trefoilref03_MatMul.l0]
    rw [if_neg t1, List.take_of_length_le (by rw [mm_len]; exact Nat.le_refl _)]
  | succ d ih =>
    intro f i hi hf
    rw [Nat.succ_mul] at hf
    obtain ⟨f, rfl⟩ : ∃ q, f = q + 1 := ⟨f - 1, by omega⟩
    have him : i < m := by omega
    have t1 : (i : Int) < (m : Int) := by omega
    have rw_ := rmm_row l m k n hl hm hk6 hn a b ha hb la lb i him n f 0 (by omega) (by omega)
    have nx := ih (f - n * (k + 2) - 1) (i + 1) (by omega) (by omega)
    rw [Nat.add_zero] at rw_
    simp only [trefoilref03_MatMul.l0]
    rw [if_pos t1]
    exact rw_.trans nx
end
theorem rmm_f (f l m k n : Nat) (hf : 5000 ≤ f) (h1 : 1 ≤ l) (hl : l ≤ 64) (hm1 : 1 ≤ m) (hm : m ≤ 6) (hk1 : 1 ≤ k) (hk : k ≤ 6) (hn1 : 1 ≤ n) (hn : n ≤ 6) (a b : List Int) (ha : U64s a) (hb : U64s b) (la : a.length = m * k) (lb : b.length = k * n) :
    trefoilref03_MatMul.f f (l : Int) (m : Int) (k : Int) (n : Int) a b = some (mm l m k n a b, 0) := by
  have c1 := sixes (Nat.le_refl m) hm hk
  have c2 := sixes (Nat.le_refl k) hk hn
  have c3 : n * (k + 2) ≤ 48 := Nat.le_trans (Nat.mul_le_mul hn (show k + 2 ≤ 8 by omega)) (by decide)
  have c4 : m * (n * (k + 2) + 2) ≤ 300 := Nat.le_trans (Nat.mul_le_mul hm (show n * (k + 2) + 2 ≤ 50 by omega)) (by decide)
  have b1 : m * k ≤ 1000000 := by omega
  have b2 : k * n ≤ 1000000 := by omega
  have g : trefoilref03_Good.f (l : Int) = some true := by unfold trefoilref03_Good.f; rw [if_pos (by omega), decide_eq_true (by omega)]
  have s1 : trefoilref03_Sized.f (m : Int) (k : Int) = some true := by unfold trefoilref03_Sized.f; rw [if_pos (by omega), if_pos (by omega), if_pos (by omega), decide_eq_true (by omega)]
  have s2 : trefoilref03_Sized.f (k : Int) (n : Int) = some true := by unfold trefoilref03_Sized.f; rw [if_pos (by omega), if_pos (by omega), if_pos (by omega), decide_eq_true (by omega)]
  have hle : (a.length : Int) = ((m * k : Nat) : Int) := by omega
  have hne : ((b.length : Int) != ((k * n : Nat) : Int)) = false := by rw [bne_eq_false_iff_eq]; omega
  obtain ⟨f, rfl⟩ : ∃ q, f = q + 1 := ⟨f - 1, by omega⟩
  have lp := rmm_loop l m k n hl hm hk hn a b ha hb la lb m f 0 (by omega) (by omega)
  rw [Nat.zero_mul, List.take_zero] at lp
  unfold trefoilref03_MatMul.f
  rw [g, Option.bind_some, if_pos rfl, s1, Option.bind_some, if_pos rfl, s2, Option.bind_some, if_pos rfl, mulw m k b1, if_pos hle, mulw k n b2, hne]
  simp only [trefoilref03_MatMul.j0]
  exact lp
end Go.Proofs.Ytcmaidpoolcelaa.Lem
namespace Go.Proofs.Ytcmaidpoolcelaa.Lem
open Go.RowKit Go.Proofs.Ytcmaidpoolcelaa.P Go.Proofs.Ytcmaidpoolcelaa.Num Go.Proofs.YtcmaidpoolcelaaW.PrintWords Go.Proofs.YtcmaidpoolcelaaW.PrintMore
set_option linter.unusedVariables false

theorem fit_f (l : Nat) (h1l : 1 ≤ l) (hl : l ≤ 64) (s : Nat) (hs : s < 18446744073709551616) : ring_Fit.f (l : Int) (s : Int) = some ((s % 2 ^ l : Nat) : Int) := by
  unfold ring_Fit.f
  rw [mask_f l h1l hl, Option.bind_some, and_mask_nat s l hs hl]
/-! the program's product of matrices -/
section
variable (l m k n : Nat) (h1l : 1 ≤ l) (hl : l ≤ 64) (hm : m ≤ 6) (hk6 : k ≤ 6) (hn : n ≤ 6) (a b : List Int) (ha : U64s a) (hb : U64s b) (la : a.length = m * k) (lb : b.length = k * n)
include h1l hl hm hk6 hn ha hb la lb
/-- what stands when the first p entries are made -/
def made (p : Nat) : List Int := (mm l m k n a b).take p ++ List.replicate (m * n - p) 0
omit h1l hl hm hk6 hn ha hb la lb in
theorem made_len (p : Nat) (h : p ≤ m * n) : (made l m k n a b p).length = m * n := by
  unfold made
  rw [List.length_append, List.length_replicate, List.length_take, mm_len]; omega
omit h1l hl hm hk6 hn ha hb la lb in
theorem made_set (p : Nat) (h : p < m * n) : (made l m k n a b p).set p (entry_ l a b k n p) = made l m k n a b (p + 1) := by
  unfold made
  have ht : ((mm l m k n a b).take p).length = p := by rw [List.length_take, mm_len]; omega
  rw [List.set_append_right _ _ (by omega), ht, Nat.sub_self, ← mm_snoc l m k n a b p h]
  obtain ⟨q, hq⟩ : ∃ q, m * n - p = q + 1 := ⟨m * n - p - 1, by omega⟩
  have hq2 : m * n - (p + 1) = q := by omega
  rw [hq, hq2, List.replicate_succ, List.set_cons_zero, List.append_assoc]
  rfl
omit h1l hl in
theorem gmm_in (i j : Nat) (hi : i < m) (hj : j < n) (out : List Int) (c0 c1 c2 c3 : Int) (d : Nat) : ∀ (f t : Nat), t + d = k → d + 10 < f →
    ring_MatMul.l2 f (l : Int) (k : Int) (n : Int) a b out (i : Int) (j : Int) ((prods a b (i * k) j n t % 18446744073709551616 : Nat) : Int) c0 c1 c2 c3 (k : Int) (t : Int) =
      (ring_Fit.f (l : Int) ((prods a b (i * k) j n k % 18446744073709551616 : Nat) : Int)).bind fun t327 => (if 0 ≤ (wrap64 ((wrap64 ((i : Int) * (n : Int))) + (j : Int))) then (if (wrap64 ((wrap64 ((i : Int) * (n : Int))) + (j : Int))) < (out.length : Int) then (ring_MatMul.l1 (f - d - 1) (l : Int) (k : Int) (n : Int) a b (out.set ((wrap64 ((wrap64 ((i : Int) * (n : Int))) + (j : Int))) : Int).toNat t327) (i : Int) c0 c1 c2 (wrap64 (c3 + 1))) else (none)) else (none)) := by
  induction d with
  | zero =>
    intro f t ht hf
    obtain ⟨f, rfl⟩ : ∃ q, f = q + 1 := ⟨f - 1, by omega⟩
    obtain rfl : t = k := by omega
    have t1 : ¬ ((t : Int) < (t : Int)) := by omega
    simp only [ring_MatMul.l2]
    rw [if_neg t1]
    rfl
  | succ d ih =>
    intro f t ht hf
    obtain ⟨f, rfl⟩ : ∃ q, f = q + 1 := ⟨f - 1, by omega⟩
    have nx := ih f (t + 1) (by omega) (by omega)
    have htk : t < k := by omega
    have t1 : (t : Int) < (k : Int) := by omega
    have c1' : i * k ≤ 36 := sixes (Nat.le_of_lt hi) hm hk6
    have c2' : t * n ≤ 36 := sixes (Nat.le_of_lt htk) hk6 hn
    have c3' := place_lt hi htk
    have c4' := place_lt htk hj
    have b1 : i * k ≤ 1000000 := by omega
    have b2 : i * k + t ≤ 1000000 := by omega
    have b3 : t * n ≤ 1000000 := by omega
    have b4 : t * n + j ≤ 1000000 := by omega
    have b5 : t ≤ 1000000 := by omega
    have t2 : (0 : Int) ≤ ((i * k + t : Nat) : Int) := by omega
    have t3 : ((i * k + t : Nat) : Int) < (a.length : Int) := by omega
    have t4 : (0 : Int) ≤ ((t * n + j : Nat) : Int) := by omega
    have t5 : ((t * n + j : Nat) : Int) < (b.length : Int) := by omega
    obtain ⟨x, ex, hx⟩ := u64_rd ha (i * k + t) (by omega)
    obtain ⟨y, ey, hy⟩ := u64_rd hb (t * n + j) (by omega)
    have hs : prods a b (i * k) j n (t + 1) = prods a b (i * k) j n t + x * y := by
      show prods a b (i * k) j n t + _ * _ = _
      rw [ex, ey]; rfl
    have ew : IntKind.u64.wrap (((prods a b (i * k) j n t % 18446744073709551616 : Nat) : Int) + IntKind.u64.wrap ((x : Int) * (y : Int))) = ((prods a b (i * k) j n (t + 1) % 18446744073709551616 : Nat) : Int) := by
      rw [← Int.natCast_mul, wu64_nat, ← Int.natCast_add, wu64_nat, hs, ← Nat.add_mod]
    have ef : f - d - 1 = f + 1 - (d + 1) - 1 := by omega
    simp only [ring_MatMul.l2]
    rw [if_pos t1, mulw i k b1, addw (i * k) t b2, if_pos t2, if_pos t3, mulw t n b3, addw (t * n) j b4, if_pos t4, if_pos t5, ex, ey, ew, succw t b5, nx, ef]
theorem gmm_col (i : Nat) (hi : i < m) (c0 c1 : Int) (d : Nat) : ∀ (f j : Nat), j + d = n → d * (k + 2) + 30 < f →
    ring_MatMul.l1 f (l : Int) (k : Int) (n : Int) a b (made l m k n a b (i * n + j)) (i : Int) c0 c1 (n : Int) (j : Int) =
      ring_MatMul.l0 (f - d * (k + 2) - 1) (l : Int) (k : Int) (n : Int) a b (made l m k n a b ((i + 1) * n)) c0 (wrap64 (c1 + 1)) := by
  induction d with
  | zero =>
    intro f j hj hf
    obtain ⟨f, rfl⟩ : ∃ q, f = q + 1 := ⟨f - 1, by omega⟩
    obtain rfl : j = n := by omega
    have t1 : ¬ ((j : Int) < (j : Int)) := by omega
    simp only [ring_MatMul.l1]
    rw [if_neg t1, Nat.succ_mul, Nat.zero_mul]
    rfl
  | succ d ih =>
    intro f j hj hf
    rw [Nat.succ_mul] at hf
    obtain ⟨f, rfl⟩ : ∃ q, f = q + 1 := ⟨f - 1, by omega⟩
    have hjn : j < n := by omega
    have t1 : (j : Int) < (n : Int) := by omega
    have c2 := place_lt hi hjn
    have c3 := sixes (Nat.le_refl m) hm hn
    have b1 : i * n ≤ 1000000 := by omega
    have b2 : i * n + j ≤ 1000000 := by omega
    have b3 : j ≤ 1000000 := by omega
    have t2 : (0 : Int) ≤ ((i * n + j : Nat) : Int) := by omega
    have t3 : ((i * n + j : Nat) : Int) < ((made l m k n a b (i * n + j)).length : Int) := by rw [made_len l m k n a b _ (by omega)]; omega
    have cl := gmm_in l m k n hm hk6 hn a b ha hb la lb i j hi hjn (made l m k n a b (i * n + j)) c0 c1 (n : Int) (j : Int) k f 0 (by omega) (by omega)
    have nx := ih (f - k - 1) (j + 1) (by omega) (by omega)
    have ft := fit_f l h1l hl _ (Nat.mod_lt (prods a b (i * k) j n k) (show 0 < 18446744073709551616 by decide))
    rw [mod64 hl] at ft
    have pl := place i j n hjn
    have en : ((prods a b (i * k) j n k % 2 ^ l : Nat) : Int) = entry_ l a b k n (i * n + j) := by unfold entry_; rw [pl.1, pl.2]
    have ef : f - k - 1 - d * (k + 2) - 1 = f + 1 - (d + 1) * (k + 2) - 1 := by rw [Nat.succ_mul]; omega
    simp only [ring_MatMul.l1]
    rw [if_pos t1]
    refine cl.trans ?_
    rw [ft, Option.bind_some, mulw i n b1, addw (i * n) j b2, if_pos t2, if_pos t3, Int.toNat_natCast, en, made_set l m k n a b _ c2, succw j b3, Nat.add_assoc, nx, ef]
theorem gmm_loop (d : Nat) : ∀ (f i : Nat), i + d = m → d * (n * (k + 2) + 2) + 60 < f →
    ring_MatMul.l0 f (l : Int) (k : Int) (n : Int) a b (made l m k n a b (i * n)) (m : Int) (i : Int) = some (mm l m k n a b, 0) := by
  induction d with
  | zero =>
    intro f i hi hf
    obtain ⟨f, rfl⟩ : ∃ q, f = q + 1 := ⟨f - 1, by omega⟩
    obtain rfl : i = m := by omega
    have t1 : ¬ ((i : Int) < (i : Int)) := by omega
    simp only [ring_MatMul.l0]
    rw [if_neg t1]
    unfold made
    rw [Nat.sub_self, List.replicate_zero, List.append_nil, List.take_of_length_le (by rw [mm_len]; exact Nat.le_refl _)]
  | succ d ih =>
    intro f i hi hf
    rw [Nat.succ_mul] at hf
    obtain ⟨f, rfl⟩ : ∃ q, f = q + 1 := ⟨f - 1, by omega⟩
    have him : i < m := by omega
    have t1 : (i : Int) < (m : Int) := by omega
    have b3 : i ≤ 1000000 := by omega
    have rw_ := gmm_col l m k n h1l hl hm hk6 hn a b ha hb la lb i him (m : Int) (i : Int) n f 0 (by omega) (by omega)
    have nx := ih (f - n * (k + 2) - 1) (i + 1) (by omega) (by omega)
    rw [Nat.add_zero, succw i b3] at rw_
    simp only [ring_MatMul.l0]
    rw [if_pos t1]
    exact rw_.trans nx
end
theorem gmm_f (f l m k n : Nat) (hf : 1000 ≤ f) (h1 : 1 ≤ l) (hl : l ≤ 64) (hm1 : 1 ≤ m) (hm : m ≤ 6) (hk1 : 1 ≤ k) (hk : k ≤ 6) (hn1 : 1 ≤ n) (hn : n ≤ 6) (a b : List Int) (ha : U64s a) (hb : U64s b) (la : a.length = m * k) (lb : b.length = k * n) :
    ring_MatMul.f f (l : Int) (m : Int) (k : Int) (n : Int) a b = some (mm l m k n a b, 0) := by
  have c1 := sixes (Nat.le_refl m) hm hk
  have c2 := sixes (Nat.le_refl k) hk hn
  have c5 := sixes (Nat.le_refl m) hm hn
  have c3 : n * (k + 2) ≤ 48 := Nat.le_trans (Nat.mul_le_mul hn (show k + 2 ≤ 8 by omega)) (by decide)
  have c4 : m * (n * (k + 2) + 2) ≤ 300 := Nat.le_trans (Nat.mul_le_mul hm (show n * (k + 2) + 2 ≤ 50 by omega)) (by decide)
  have b1 : m * k ≤ 1000000 := by omega
  have b2 : k * n ≤ 1000000 := by omega
  have b3 : m * n ≤ 1000000 := by omega
  have s1 : ring_sized.f (m : Int) (k : Int) = some true := by unfold ring_sized.f; rw [if_pos (by omega), if_pos (by omega), if_pos (by omega), decide_eq_true (by omega)]
  have s2 : ring_sized.f (k : Int) (n : Int) = some true := by unfold ring_sized.f; rw [if_pos (by omega), if_pos (by omega), if_pos (by omega), decide_eq_true (by omega)]
  have hle : (a.length : Int) = ((m * k : Nat) : Int) := by omega
  have hle2 : (b.length : Int) = ((k * n : Nat) : Int) := by omega
  have hp : 2 ^ 1 ≤ 2 ^ l := Nat.pow_le_pow_right (n := 2) (by decide) h1
  have hm0 : (((2 ^ l - 1 : Nat) : Int) == 0) = false := by rw [beq_eq_false_iff_ne]; omega
  have t2 : (0 : Int) ≤ ((m * n : Nat) : Int) := by omega
  have t3 : m * n ≤ 35184372088832 := by omega
  obtain ⟨f, rfl⟩ : ∃ q, f = q + 1 := ⟨f - 1, by omega⟩
  have lp := gmm_loop l m k n h1 hl hm hk hn a b ha hb la lb m f 0 (by omega) (by omega)
  rw [Nat.zero_mul] at lp
  unfold ring_MatMul.f
  rw [s1, Option.bind_some, if_pos rfl, s2, Option.bind_some, if_pos rfl, mulw m k b1, if_pos hle, mulw k n b2, if_pos hle2, mask_f l h1 hl, Option.bind_some, hm0]
  simp only [ring_MatMul.j0]
  rw [if_neg (by decide), mulw m n b3, if_pos t2, Int.toNat_natCast, if_pos t3]
  unfold made at lp
  rw [List.take_zero, List.nil_append, Nat.sub_zero] at lp
  exact lp

/-! two lists added -/
def sumAll (l : Nat) (xs ys : List Int) : List Int := addsTo (l : Int) xs ys xs.length xs.length
theorem addOf_nat (l x y : Nat) (h0 : 1 ≤ l) (h1 : l ≤ 64) : addOf (l : Int) (x : Int) (y : Int) = (((x + y) % 2 ^ l : Nat) : Int) := by
  have h := addOf_eq (l : Int) (x : Int) (y : Int)
  rw [add_f l x y h0 h1] at h
  exact (Option.some.inj h).symm
theorem sumAll_len (l : Nat) (xs ys : List Int) : (sumAll l xs ys).length = xs.length := addsTo_len ..
theorem sumAll_rd (l : Nat) (xs ys : List Int) (i : Nat) (h : i < xs.length) : (sumAll l xs ys)[i]'(by rw [sumAll_len]; exact h) = addOf (l : Int) (rd xs i) (rd ys i) := by
  simp only [sumAll, addsTo, List.getElem_map, List.getElem_range]
  rw [if_pos h]
theorem sumAll_take (l : Nat) (xs ys : List Int) (i : Nat) (h : i < xs.length) : (sumAll l xs ys).take i ++ [addOf (l : Int) (rd xs i) (rd ys i)] = (sumAll l xs ys).take (i + 1) := by
  have hl : i < (sumAll l xs ys).length := by rw [sumAll_len]; exact h
  rw [List.take_succ_eq_append_getElem hl, sumAll_rd l xs ys i h]
theorem sumAll_low (l : Nat) (h0 : 1 ≤ l) (h1 : l ≤ 64) (xs ys : List Int) (hx : U64s xs) (hy : U64s ys) (hl : ys.length = xs.length) : ∀ x ∈ sumAll l xs ys, 0 ≤ x ∧ x < ((2 ^ l : Nat) : Int) := by
  intro x hm
  obtain ⟨i, hi, rfl⟩ := List.getElem_of_mem hm
  have hi' : i < xs.length := by rw [sumAll_len] at hi; exact hi
  rw [sumAll_rd l xs ys i hi']
  obtain ⟨p, ep, _⟩ := u64_rd hx i hi'
  obtain ⟨q, eq, _⟩ := u64_rd hy i (by omega)
  rw [ep, eq, addOf_nat l p q h0 h1]
  have := Nat.mod_lt (p + q) (pow_pos l)
  omega
theorem low_u64 {l : Nat} (h1 : l ≤ 64) {xs : List Int} (h : ∀ x ∈ xs, 0 ≤ x ∧ x < ((2 ^ l : Nat) : Int)) : U64s xs := fun x hx => by
  have := h x hx
  have hp := pow_le_64 h1
  omega
theorem addall_f (l : Nat) (xs ys : List Int) (hl : ys.length = xs.length) (hn : xs.length ≤ 1000) : ring_AddAll.f (l : Int) xs ys = some (sumAll l xs ys, 0) := by
  unfold ring_AddAll.f
  rw [if_pos (by omega), if_pos (by omega)]; rfl
theorem sum_loop (l : Nat) (h0 : 1 ≤ l) (h1 : l ≤ 64) (xs ys : List Int) (hx : U64s xs) (hy : U64s ys) (hl : ys.length = xs.length) (hn : xs.length ≤ 1000) (d : Nat) : ∀ (k i : Nat), i + d = xs.length → d + 110 < k →
    trefoilref22_Sum.l0 k (l : Int) xs ys ((sumAll l xs ys).take i) (i : Int) = some (sumAll l xs ys) := by
  induction d with
  | zero =>
    intro k i hi hk
    obtain ⟨k, rfl⟩ : ∃ q, k = q + 1 := ⟨k - 1, by omega⟩
    have t1 : ¬ ((i : Int) < (xs.length : Int)) := by omega
    simp only [trefoilref22_Sum.l0]
    rw [if_neg t1, List.take_of_length_le (by rw [sumAll_len]; omega)]
  | succ d ih =>
    intro k i hi hk
    obtain ⟨k, rfl⟩ : ∃ q, k = q + 1 := ⟨k - 1, by omega⟩
    have hil : i < xs.length := by omega
    have nx := ih k (i + 1) (by omega) (by omega)
    have t1 : (i : Int) < (xs.length : Int) := by omega
    have t2 : (i : Int) < (ys.length : Int) := by omega
    have t3 : (0 : Int) ≤ (i : Int) := by omega
    have t4 : ((sumAll l xs ys).take i).length < 17592186044416 := by rw [List.length_take, sumAll_len]; omega
    have b : i ≤ 1000000 := by omega
    obtain ⟨p, ep, hp⟩ := u64_rd hx i hil
    obtain ⟨q, eq, hq⟩ := u64_rd hy i (by omega)
    have ad := add_r' k l p q (by omega) h1 hp hq
    have st := sumAll_take l xs ys i hil
    rw [ep, eq, addOf_nat l p q h0 h1] at st
    simp only [trefoilref22_Sum.l0]
    rw [if_pos t1, if_pos t2, if_pos t3, ep, eq, ad, Option.bind_some, if_pos t4, st, succw i b, nx]
theorem sum_r (k l : Nat) (hk : 2000 ≤ k) (h0 : 1 ≤ l) (h1 : l ≤ 64) (xs ys : List Int) (hx : U64s xs) (hy : U64s ys) (hl : ys.length = xs.length) (hn : xs.length ≤ 1000) : trefoilref22_Sum.f k (l : Int) xs ys = some (sumAll l xs ys) := by
  have := sum_loop l h0 h1 xs ys hx hy hl hn xs.length k 0 (by omega) (by omega)
  rw [List.take_zero] at this
  exact this

/-! two lists held against each other -/
theorem drop_eq (xs ys : List Int) (i : Nat) (h : i < xs.length) (h' : i < ys.length) : decide (xs.drop i = ys.drop i) = (decide (rd xs (i : Int) = rd ys (i : Int)) && decide (xs.drop (i + 1) = ys.drop (i + 1))) := by
  rw [rd_drop xs i h, rd_drop ys i h']
  simp only [List.cons.injEq]
  rw [Bool.decide_and]
theorem equal_loop (xs ys : List Int) (hl : ys.length = xs.length) (hn : xs.length ≤ 1000) (d : Nat) : ∀ (k i : Nat), i + d = xs.length → d < k →
    trefoilref22_equal.l0 k xs ys (i : Int) = some (decide (xs.drop i = ys.drop i)) := by
  induction d with
  | zero =>
    intro k i hi hk
    obtain ⟨k, rfl⟩ : ∃ q, k = q + 1 := ⟨k - 1, by omega⟩
    have t1 : ¬ ((i : Int) < (xs.length : Int)) := by omega
    simp only [trefoilref22_equal.l0]
    rw [if_neg t1, List.drop_eq_nil_of_le (by omega), List.drop_eq_nil_of_le (by omega)]
    rfl
  | succ d ih =>
    intro k i hi hk
    obtain ⟨k, rfl⟩ : ∃ q, k = q + 1 := ⟨k - 1, by omega⟩
    have hil : i < xs.length := by omega
    have nx := ih k (i + 1) (by omega) (by omega)
    have t1 : (i : Int) < (xs.length : Int) := by omega
    have t2 : (i : Int) < (ys.length : Int) := by omega
    have t3 : (0 : Int) ≤ (i : Int) := by omega
    have b : i ≤ 1000000 := by omega
    simp only [trefoilref22_equal.l0]
    rw [if_pos t1, if_pos t3, if_pos t2, drop_eq xs ys i hil (by omega)]
    by_cases e : rd xs (i : Int) = rd ys (i : Int)
    · rw [if_pos e, decide_eq_true e, Bool.true_and, succw i b, nx]
    · rw [if_neg e, decide_eq_false e, Bool.false_and]
theorem equal_f (k : Nat) (hk : 2000 ≤ k) (xs ys : List Int) (hl : ys.length = xs.length) (hn : xs.length ≤ 1000) : trefoilref22_equal.f k xs ys = some (decide (xs = ys)) := by
  unfold trefoilref22_equal.f
  rw [if_pos (by omega)]
  have := equal_loop xs ys hl hn xs.length k 0 (by omega) (by omega)
  rw [List.drop_zero, List.drop_zero] at this
  exact this
theorem held_loop (xs ys : List Int) (hl : ys.length = xs.length) (hn : xs.length ≤ 1000) (d : Nat) : ∀ (k i : Nat), i + d = xs.length → d < k →
    matrix_Right.l0 k ys xs (xs.length : Int) (i : Int) = some (decide (xs.drop i = ys.drop i)) := by
  induction d with
  | zero =>
    intro k i hi hk
    obtain ⟨k, rfl⟩ : ∃ q, k = q + 1 := ⟨k - 1, by omega⟩
    have t1 : ¬ ((i : Int) < (xs.length : Int)) := by omega
    simp only [matrix_Right.l0]
    rw [if_neg t1, List.drop_eq_nil_of_le (by omega), List.drop_eq_nil_of_le (by omega)]
    rfl
  | succ d ih =>
    intro k i hi hk
    obtain ⟨k, rfl⟩ : ∃ q, k = q + 1 := ⟨k - 1, by omega⟩
    have hil : i < xs.length := by omega
    have nx := ih k (i + 1) (by omega) (by omega)
    have t1 : (i : Int) < (xs.length : Int) := by omega
    have t2 : (i : Int) < (ys.length : Int) := by omega
    have t3 : (0 : Int) ≤ (i : Int) := by omega
    have b : i ≤ 1000000 := by omega
    simp only [matrix_Right.l0]
    rw [if_pos t1, if_pos t3, if_pos t1, if_pos t2, drop_eq xs ys i hil (by omega)]
    by_cases e : rd xs (i : Int) = rd ys (i : Int)
    · rw [if_pos e, decide_eq_true e, Bool.true_and, succw i b, nx]
    · rw [if_neg e, decide_eq_false e, Bool.false_and]

theorem mm_low (l m k n : Nat) (a b : List Int) : lows l (mm l m k n a b) = true := by
  unfold lows mm
  rw [List.all_eq_true]
  intro x hx
  obtain ⟨q, _, rfl⟩ := List.mem_map.1 hx
  have := Nat.mod_lt (prods a b (q / n * k) (q % n) n k) (pow_pos l)
  rw [decide_eq_true_eq]
  unfold entry_
  omega
theorem mm_u64 (l m k n : Nat) (hl : l ≤ 64) (a b : List Int) : U64s (mm l m k n a b) := by
  intro x hx
  obtain ⟨q, _, rfl⟩ := List.mem_map.1 hx
  have h1 := Nat.mod_lt (prods a b (q / n * k) (q % n) n k) (pow_pos l)
  have h2 := pow_le_64 hl
  unfold entry_
  omega

/-! which two come to a triple -/
def tripleOf (l m k n : Nat) (a b d e f g : List Int) : Bool := decide (mm l m k n (sumAll l a e) (sumAll l b f) = sumAll l d g)
section
variable (q l m k n : Nat) (hq : 20000 ≤ q) (h1 : 1 ≤ l) (hl : l ≤ 64) (hm1 : 1 ≤ m) (hm : m ≤ 6) (hk1 : 1 ≤ k) (hk : k ≤ 6) (hn1 : 1 ≤ n) (hn : n ≤ 6) (a b d e f g : List Int) (ha : U64s a) (hb : U64s b) (hd : U64s d) (he : U64s e) (hf : U64s f) (hg : U64s g)
  (la : a.length = m * k) (lb : b.length = k * n) (ld : d.length = m * n) (le : e.length = m * k) (lf : f.length = k * n) (lg : g.length = m * n)
include hq h1 hl hm1 hm hk1 hk hn1 hn ha hb hd he hf hg la lb ld le lf lg
omit hd hg in
theorem right_m (c0 : Int) : matrix_Right.j0 (q + 1) false c0 (l : Int) (m : Int) (k : Int) (n : Int) a b d e f g = some (tripleOf l m k n a b d e f g) := by
  have c1 := sixes (Nat.le_refl m) hm hk
  have c2 := sixes (Nat.le_refl k) hk hn
  have c5 := sixes (Nat.le_refl m) hm hn
  have u1 := low_u64 hl (sumAll_low l h1 hl a e ha he (by omega))
  have u2 := low_u64 hl (sumAll_low l h1 hl b f hb hf (by omega))
  have g1 := gmm_f q l m k n (by omega) h1 hl hm1 hm hk1 hk hn1 hn (sumAll l a e) (sumAll l b f) u1 u2 (by rw [sumAll_len]; exact la) (by rw [sumAll_len]; exact lb)
  have hp := held_loop (mm l m k n (sumAll l a e) (sumAll l b f)) (sumAll l d g) (by rw [mm_len, sumAll_len]; omega) (by rw [mm_len]; omega) (m * n) q 0 (by rw [mm_len]; omega) (by omega)
  rw [List.drop_zero, List.drop_zero] at hp
  simp only [matrix_Right.j0]
  rw [if_neg (by decide), addall_f l a e (by omega) (by omega), addall_f l b f (by omega) (by omega), addall_f l d g (by omega) (by omega), Option.bind_some, Option.bind_some, Option.bind_some, g1, Option.bind_some, if_pos rfl]
  exact hp
theorem right_r (c0 c2 c3 c4 : Int) (hs : trefoilref22_Sides.f c0 (l : Int) c2 c3 c4 = some ((m : Int), (k : Int), (n : Int))) : trefoilref22_Right.j0 (q + 1) false c0 (l : Int) c2 c3 c4 a b d e f g = some (tripleOf l m k n a b d e f g) := by
  have c1 := sixes (Nat.le_refl m) hm hk
  have c2' := sixes (Nat.le_refl k) hk hn
  have c5 := sixes (Nat.le_refl m) hm hn
  have u1 := low_u64 hl (sumAll_low l h1 hl a e ha he (by omega))
  have u2 := low_u64 hl (sumAll_low l h1 hl b f hb hf (by omega))
  have g1 := rmm_f q l m k n (by omega) h1 hl hm1 hm hk1 hk hn1 hn (sumAll l a e) (sumAll l b f) u1 u2 (by rw [sumAll_len]; exact la) (by rw [sumAll_len]; exact lb)
  have f1 := fits19_f q l hl (mm l m k n (sumAll l a e) (sumAll l b f)) (mm_u64 l m k n hl _ _) (by rw [mm_len]; omega) (by omega)
  rw [mm_low] at f1
  have hp := equal_f q (by omega) (mm l m k n (sumAll l a e) (sumAll l b f)) (sumAll l d g) (by rw [mm_len, sumAll_len]; omega) (by rw [mm_len]; omega)
  simp only [trefoilref22_Right.j0]
  rw [if_neg (by decide), hs, Option.bind_some, sum_r q l (by omega) h1 hl a e ha he (by omega) (by omega), Option.bind_some, sum_r q l (by omega) h1 hl b f hb hf (by omega) (by omega), Option.bind_some, g1, Option.bind_some, f1, Option.bind_some, if_pos rfl, sum_r q l (by omega) h1 hl d g hd hg (by omega) (by omega), Option.bind_some, hp]
  rfl
end
end Go.Proofs.Ytcmaidpoolcelaa.Lem
namespace Go.Proofs.Ytcmaidpoolcelaa.Lem
open Go.RowKit Go.Proofs.Ytcmaidpoolcelaa.P Go.Proofs.Ytcmaidpoolcelaa.Num Go.Proofs.YtcmaidpoolcelaaW.PrintWords Go.Proofs.YtcmaidpoolcelaaW.PrintMore
set_option linter.unusedVariables false
set_option linter.unusedSectionVars false

/-- one number of a row as a natural number -/
def nv (xs : List Int) (i : Nat) : Nat := (rd xs (i : Int)).toNat
theorem nv_eq {xs : List Int} (h : U64s xs) (i : Nat) (hi : i < xs.length) : rd xs (i : Int) = ((nv xs i : Nat) : Int) ∧ nv xs i < 18446744073709551616 := by
  obtain ⟨m, hm, hl⟩ := u64_rd h i hi
  unfold nv
  rw [hm, Int.toNat_natCast]
  exact ⟨rfl, hl⟩
/-- the sum of t numbers of a column -/
def sumF (xs : List Int) (n p : Nat) : Nat → Nat
  | 0 => 0
  | t + 1 => sumF xs n p t + nv xs (p + t * n)
def cellF (l : Nat) (xs : List Int) (n p t : Nat) : Int := ((sumF xs n p t % 2 ^ l : Nat) : Int)
def rowF (l : Nat) (xs : List Int) (n at_ t : Nat) : List Int := (List.range n).map fun j => cellF l xs n (at_ + j) t
def foldF (l : Nat) (xs : List Int) (n m : Nat) : List Int := (List.range m).flatMap fun i => rowF l xs n (i * (l * n)) l
theorem rowF_len (l : Nat) (xs : List Int) (n at_ t : Nat) : (rowF l xs n at_ t).length = n := by simp [rowF]
theorem rowF_rd (l : Nat) (xs : List Int) (n at_ t j : Nat) (h : j < n) : rd (rowF l xs n at_ t) (j : Int) = cellF l xs n (at_ + j) t := by
  unfold rd rowF
  rw [Int.toNat_natCast, List.getD_eq_getElem?_getD, List.getElem?_map, List.getElem?_range h]
  rfl
theorem foldF_succ (l : Nat) (xs : List Int) (n m : Nat) : foldF l xs n (m + 1) = foldF l xs n m ++ rowF l xs n (m * (l * n)) l := by
  unfold foldF
  rw [List.range_succ, List.flatMap_append, List.flatMap_cons, List.flatMap_nil, List.append_nil]
theorem foldF_len (l : Nat) (xs : List Int) (n : Nat) : ∀ m, (foldF l xs n m).length = m * n
  | 0 => by simp [foldF]
  | m + 1 => by rw [foldF_succ, List.length_append, foldF_len l xs n m, rowF_len, Nat.succ_mul]
theorem rowF_zero (l : Nat) (xs : List Int) (n at_ : Nat) : List.replicate n (0 : Int) = rowF l xs n at_ 0 := by
  apply List.ext_getElem
  · simp [rowF]
  · intro i h1 h2
    simp [rowF, cellF, sumF]
theorem cellF_u64 {l : Nat} (hl : l ≤ 64) (xs : List Int) (n p t : Nat) : 0 ≤ cellF l xs n p t ∧ cellF l xs n p t < 18446744073709551616 := by
  unfold cellF
  have := lt64 (l := l) (n := sumF xs n p t) hl
  omega
theorem rowF_u64 {l : Nat} (hl : l ≤ 64) (xs : List Int) (n at_ t : Nat) : U64s (rowF l xs n at_ t) := fun x hx => by
  unfold rowF at hx
  obtain ⟨j, -, rfl⟩ := List.mem_map.1 hx
  exact cellF_u64 hl xs n _ t
theorem foldF_u64 {l : Nat} (hl : l ≤ 64) (xs : List Int) (n m : Nat) : U64s (foldF l xs n m) := fun x hx => by
  unfold foldF at hx
  obtain ⟨j, -, hx⟩ := List.mem_flatMap.1 hx
  exact rowF_u64 hl xs n _ l x hx
theorem cellF_add {l : Nat} (xs : List Int) (n p t : Nat) (h0 : 1 ≤ l) (hl : l ≤ 64) (hx : U64s xs) (hp : p + t * n < xs.length) : addOf (l : Int) (cellF l xs n p t) (rd xs ((p + t * n : Nat) : Int)) = cellF l xs n p (t + 1) := by
  rw [(nv_eq hx _ hp).1]
  unfold cellF
  rw [addOf_nat l _ _ h0 hl, Nat.mod_add_mod]
  rfl
/-- a row, and one row more -/
theorem rowF_add {l : Nat} (xs : List Int) (n at_ t : Nat) (h0 : 1 ≤ l) (hl : l ≤ 64) (hx : U64s xs) (hp : at_ + (t + 1) * n ≤ xs.length) : sumAll l (rowF l xs n at_ t) ((xs.take (at_ + (t + 1) * n)).drop (at_ + t * n)) = rowF l xs n at_ (t + 1) := by
  have hs : (t + 1) * n = t * n + n := Nat.succ_mul t n
  apply List.ext_getElem
  · rw [sumAll_len, rowF_len, rowF_len]
  · intro j h1 h2
    have hj : j < n := by rw [rowF_len] at h2; exact h2
    rw [sumAll_rd l _ _ j (by rw [rowF_len]; exact hj), rowF_rd l xs n at_ t j hj, show at_ + (t + 1) * n = (at_ + t * n) + n by omega, cut_rd xs (at_ + t * n) n j (by omega) hj, show at_ + t * n + j = (at_ + j) + t * n by omega, cellF_add xs n (at_ + j) t h0 hl hx (by omega)]
    have := rowF_rd l xs n at_ (t + 1) j hj
    unfold rd at this
    rw [Int.toNat_natCast, List.getD_eq_getElem?_getD, List.getElem?_eq_getElem h2] at this
    exact this.symm
section
variable {l n m : Nat} (h0 : 1 ≤ l) (hl : l ≤ 64) (hn0 : 1 ≤ n) (hn : n ≤ 6) {xs : List Int} (hx : U64s xs) (hm : xs.length = m * (l * n)) (hs : xs.length ≤ 30000)
include h0 hl hn0 hn hx hs hm
/-- the program: a group's rows -/
theorem gf_in (i : Nat) (hi : i < m) (acc : List Int) (ha : acc.length ≤ 100000) (R : Option (List Int × Int)) (d : Nat) : ∀ (k t : Nat), t + d = l → d + 1 < k →
    (∀ k2, k ≤ k2 + d + 1 → gilboa_Fold.l0 k2 (l : Int) (n : Int) xs (acc ++ rowF l xs n (i * (l * n)) l) (((i + 1) * (l * n) : Nat) : Int) = R) →
    gilboa_Fold.l1 k (l : Int) (n : Int) xs acc ((i * (l * n) : Nat) : Int) (rowF l xs n (i * (l * n)) t) (l : Int) (t : Int) = R := by
  have hln : l * n ≤ 384 := by
    have := Nat.mul_le_mul hl hn
    omega
  have him : i * (l * n) + l * n ≤ xs.length := by
    rw [hm, ← Nat.succ_mul]
    exact Nat.mul_le_mul_right _ hi
  have e1 : (i + 1) * (l * n) = i * (l * n) + l * n := Nat.succ_mul i (l * n)
  induction d with
  | zero =>
    intro k t ht hk hR
    obtain rfl : t = l := by omega
    obtain ⟨k, rfl⟩ : ∃ q, k = q + 1 := ⟨k - 1, by omega⟩
    simp only [gilboa_Fold.l1]
    rw [if_neg (by omega), if_pos (by rw [rowF_len]; omega), mulw t n (by omega), addw (i * (t * n)) (t * n) (by omega), ← e1]
    exact hR k (by omega)
  | succ d ih =>
    intro k t ht hk hR
    obtain ⟨k, rfl⟩ : ∃ q, k = q + 1 := ⟨k - 1, by omega⟩
    have htl : t < l := by omega
    have e2 : (t + 1) * n = t * n + n := Nat.succ_mul t n
    have h3 : (t + 1) * n ≤ l * n := Nat.mul_le_mul_right _ htl
    simp only [gilboa_Fold.l1]
    rw [if_pos (by omega), mulw t n (by omega), addw (i * (l * n)) (t * n) (by omega), if_pos (by omega), succw t (by omega), mulw (t + 1) n (by omega), addw (i * (l * n)) ((t + 1) * n) (by omega), if_pos (by omega), if_pos (by omega), Int.toNat_natCast, Int.toNat_natCast]
    rw [addall_f l _ _ (by rw [rowF_len, List.length_drop, List.length_take]; omega) (by rw [rowF_len]; omega), Option.bind_some]
    show gilboa_Fold.l1 k (l : Int) (n : Int) xs acc ((i * (l * n) : Nat) : Int) (sumAll l (rowF l xs n (i * (l * n)) t) ((xs.take (i * (l * n) + (t + 1) * n)).drop (i * (l * n) + t * n))) (l : Int) ((t + 1 : Nat) : Int) = R
    rw [rowF_add xs n (i * (l * n)) t h0 hl hx (by omega)]
    exact ih k (t + 1) (by omega) (by omega) (fun k2 h => hR k2 (by omega))
theorem gf_out (d : Nat) : ∀ (k i : Nat), i + d = m → d * (l + 2) + 2 < k →
    gilboa_Fold.l0 k (l : Int) (n : Int) xs (foldF l xs n i) ((i * (l * n) : Nat) : Int) = some (foldF l xs n m, 0) := by
  have hpos : 1 ≤ l * n := Nat.mul_pos h0 hn0
  induction d with
  | zero =>
    intro k i hi hk
    obtain rfl : i = m := by omega
    obtain ⟨k, rfl⟩ : ∃ q, k = q + 1 := ⟨k - 1, by omega⟩
    simp only [gilboa_Fold.l0]
    rw [if_neg (by omega)]
  | succ d ih =>
    intro k i hi hk
    obtain ⟨k, rfl⟩ : ∃ q, k = q + 1 := ⟨k - 1, by omega⟩
    have him : i < m := by omega
    have hlt : i * (l * n) < xs.length := by
      rw [hm]
      exact Nat.mul_lt_mul_of_pos_right him (by omega)
    have hil : i * (l * n) + l * n ≤ xs.length := by
      rw [hm, ← Nat.succ_mul]
      exact Nat.mul_le_mul_right _ him
    have hfl : (foldF l xs n i).length ≤ 100000 := by
      rw [foldF_len]
      have h1 : i * n ≤ i * (l * n) := Nat.mul_le_mul_left _ (Nat.le_mul_of_pos_left _ h0)
      omega
    have e3 : (d + 1) * (l + 2) = d * (l + 2) + (l + 2) := Nat.succ_mul _ _
    simp only [gilboa_Fold.l0]
    rw [if_pos (by omega), if_pos (by omega), if_pos (by rw [Int.toNat_natCast]; omega), Int.toNat_natCast, rowF_zero l xs n (i * (l * n))]
    refine gf_in h0 hl hn0 hn hx hm hs i him _ hfl _ l k 0 (by omega) (by omega) (fun k2 h => ?_)
    rw [← foldF_succ]
    exact ih k2 (i + 1) (by omega) (by omega)
end
/-- is what is folded in order, and what does it come to -/
def okFold (l n : Nat) (xs : List Int) : Bool := decide (xs.length % (l * n) = 0) && lows l xs
def foldR (l n : Nat) (xs : List Int) : List Int × Int := if okFold l n xs = true then (foldF l xs n (xs.length / (l * n)), 0) else ([], 11)
theorem fold_bounds {l n m : Nat} (h0 : 1 ≤ l) (hl : l ≤ 64) (hn0 : 1 ≤ n) (hn : n ≤ 6) (hs : m * (l * n) ≤ 30000) : m ≤ 30000 ∧ m * (l + 2) ≤ 90000 ∧ m * (n * (l + 2) + 3) ≤ 180000 := by
  have hpos : 1 ≤ l * n := Nat.mul_pos h0 hn0
  have a1 : m * 1 ≤ m * (l * n) := Nat.mul_le_mul_left _ hpos
  have a2 : m * l ≤ m * (l * n) := Nat.mul_le_mul_left _ (Nat.le_mul_of_pos_right _ hn0)
  have a3 : m * n ≤ m * (l * n) := Nat.mul_le_mul_left _ (Nat.le_mul_of_pos_left _ h0)
  have e1 : m * (l + 2) = m * l + m * 2 := Nat.mul_add _ _ _
  have e2 : m * (n * (l + 2) + 3) = m * (l * n) + m * n * 2 + m * 3 := by
    rw [Nat.mul_add, Nat.mul_add, Nat.mul_add, Nat.mul_comm n l, Nat.mul_assoc m n 2]
  omega
theorem gfold_f (k l n : Nat) (hk : 200000 ≤ k) (h0 : 1 ≤ l) (hl : l ≤ 64) (hn0 : 1 ≤ n) (hn : n ≤ 6) (xs : List Int) (hx : U64s xs) (hs : xs.length ≤ 30000) : gilboa_Fold.f k (l : Int) (n : Int) xs = some (foldR l n xs) := by
  have hln : l * n ≤ 384 := by
    have := Nat.mul_le_mul hl hn
    omega
  have hpos : 1 ≤ l * n := Nat.mul_pos h0 hn0
  obtain ⟨k, rfl⟩ : ∃ q, k = q + 1 := ⟨k - 1, by omega⟩
  unfold gilboa_Fold.f
  rw [good_f (l := (l : Int)) (n := (n : Int)) (by omega) (by omega) (by omega) (by omega), Option.bind_some, if_pos rfl, mulw l n (by omega), if_neg (by omega), ← Int.natCast_emod, ringFits_f l h0 hl xs hx]
  unfold foldR okFold
  by_cases hd : xs.length % (l * n) = 0
  · rw [if_pos (by omega), Option.bind_some]
    by_cases hlo : lows l xs = true
    · rw [hlo, decide_eq_true hd, if_pos (by rfl)]
      simp only [gilboa_Fold.j0]
      have hdn : (xs.length : Int) / (l : Int) = ((xs.length / l : Nat) : Int) := (Int.natCast_ediv xs.length l).symm
      have hdl := Nat.div_le_self xs.length l
      obtain ⟨z, hz⟩ : ∃ z, z = xs.length / l := ⟨_, rfl⟩
      rw [← hz] at hdn hdl
      have hq : wrap64 ((xs.length : Int) / (l : Int)) = (z : Int) := by
        rw [hdn]
        exact w64 (by omega) (by omega)
      rw [if_neg (by simp), if_neg (by omega), hq, if_pos (by omega), if_pos (by rw [Int.toNat_natCast]; omega)]
      have hm : xs.length = xs.length / (l * n) * (l * n) := (Nat.div_mul_cancel (Nat.dvd_of_mod_eq_zero hd)).symm
      have hb := fold_bounds (m := xs.length / (l * n)) h0 hl hn0 hn (by omega)
      have hg := gf_out h0 hl hn0 hn hx hm hs (xs.length / (l * n)) k 0 (by omega) (by omega)
      simpa [foldF] using hg
    · rw [Bool.not_eq_true] at hlo
      rw [hlo, if_neg (by simp)]
      simp only [gilboa_Fold.j0]
      rw [if_pos (by rfl)]
  · rw [if_neg (by omega), decide_eq_false hd, if_neg (by simp)]
    simp only [gilboa_Fold.j0]
    rw [if_pos trivial]
end Go.Proofs.Ytcmaidpoolcelaa.Lem
