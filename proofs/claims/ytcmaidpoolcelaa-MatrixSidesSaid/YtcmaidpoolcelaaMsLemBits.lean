/- Bits of truths: what is put into words is read out of them again. -/
import Derived.Test.YtcmaidpoolcelaaMsK4
import Derived.Test.YtcmaidpoolcelaaMsNum
namespace Go.Proofs.Ytcmaidpoolcelaa.Lem
open Go.RowKit Go.Proofs.Ytcmaidpoolcelaa.P Go.Proofs.Ytcmaidpoolcelaa.Num Go.Proofs.YtcmaidpoolcelaaW.PrintWords Go.Proofs.YtcmaidpoolcelaaW.PrintMore
set_option linter.unusedVariables false

/-- words of 64 bits -/
def Words64 (W : List Int) : Prop := ∀ x ∈ W, 0 ≤ x ∧ x < 18446744073709551616
/-- bit i of words -/
def bitAt (W : List Int) (i : Nat) : Bool := (rd W ((i / 64 : Nat) : Int)).toNat.testBit (i % 64)

theorem rd_lt (W : List Int) (h : Words64 W) (q : Nat) : ∃ m : Nat, rd W (q : Int) = (m : Int) ∧ m < 18446744073709551616 := by
  by_cases hq : q < W.length
  · have hx : rd W (q : Int) ∈ W := by
      simp only [rd, Int.toNat_natCast]
      rw [List.getD_eq_getElem?_getD, List.getElem?_eq_getElem hq]
      exact List.getElem_mem hq
    exact nat_of64 (h _ hx).1 (h _ hx).2
  · refine ⟨0, ?_, by decide⟩
    simp only [rd, Int.toNat_natCast]
    rw [List.getD_eq_getElem?_getD, List.getElem?_eq_none (by omega)]; rfl

theorem rd_set (W : List Int) (q p : Nat) (v : Int) (hq : q < W.length) : rd (W.set q v) (p : Int) = if p = q then v else rd W (p : Int) := by
  simp only [rd, Int.toNat_natCast]
  rw [List.getD_eq_getElem?_getD, List.getD_eq_getElem?_getD, List.getElem?_set]
  by_cases h : p = q
  · subst h; rw [if_pos rfl, if_pos rfl, if_pos hq]; rfl
  · rw [if_neg h, if_neg (fun e => h e.symm)]

theorem div64 (i : Nat) (h : i ≤ 4194304) : wrap64 (Int.tdiv (i : Int) 64) = ((i / 64 : Nat) : Int) := by
  have e := tdiv_nat i 64
  rw [show Int.tdiv (i : Int) 64 = ((i / 64 : Nat) : Int) from e, w64 (by omega) (by omega)]
theorem mod64' (i : Nat) : IntKind.u64.wrap (Int.tmod (i : Int) 64) = ((i % 64 : Nat) : Int) := by
  have e := tmod_nat i 64
  rw [show Int.tmod (i : Int) 64 = ((i % 64 : Nat) : Int) from e, wu64_nat' (by omega)]

theorem get_f (n i : Nat) (W : List Int) (hW : Words64 W) (hi : i < n) (hn : n ≤ 4194304) (hl : n ≤ 64 * W.length) : bits_Vec_Get.f (n : Int) W (i : Int) = some (bitAt W i) := by
  unfold bits_Vec_Get.f bitAt
  obtain ⟨m, em, hm⟩ := rd_lt W hW (i / 64)
  rw [if_neg (by omega), if_neg (by omega), div64 i (by omega), mod64' i, if_pos (by omega), if_pos (by omega), if_pos (by omega), em, shr_nat m _ (by omega)]
  congr 1
  have hd : m / 2 ^ (i % 64) < 18446744073709551616 := Nat.lt_of_le_of_lt (Nat.div_le_self _ _) hm
  have e := u64_and_nat (m / 2 ^ (i % 64)) 1 hd (by decide)
  rw [show Go.bits .and .u64 ((m / 2 ^ (i % 64) : Nat) : Int) 1 = ((m / 2 ^ (i % 64) &&& 1 : Nat) : Int) from e, nat_mask1, Int.toNat_natCast, Nat.testBit_eq_decide_div_mod_eq]
  rw [Bool.eq_iff_iff, beq_iff_eq, decide_eq_true_eq]
  omega

/-- the word count -/
def wordsOf (n : Nat) : Nat := (n + 63) / 64
theorem words_f (n : Nat) (h : n ≤ 4194304) : bits_words.f (n : Int) = some ((wordsOf n : Nat) : Int) := by
  unfold bits_words.f wordsOf
  have e1 : wrap64 ((n : Int) + 63) = ((n + 63 : Nat) : Int) := by rw [w64 (by omega) (by omega)]; omega
  have e2 := tdiv_nat (n + 63) 64
  rw [e1, show Int.tdiv ((n + 63 : Nat) : Int) 64 = (((n + 63) / 64 : Nat) : Int) from e2, w64 (by omega) (by omega)]
theorem new_f (n : Nat) (h : n ≤ 4194304) : bits_New.f (n : Int) = some ((n : Int), List.replicate (wordsOf n) 0, 0) := by
  unfold bits_New.f
  rw [if_neg (by omega), if_neg (by omega), words_f n h, Option.bind_some, if_pos (by omega), if_pos (by rw [Int.toNat_natCast]; unfold wordsOf; omega), Int.toNat_natCast]

theorem zeros_words (n : Nat) : Words64 (List.replicate n 0) := fun x hx => by
  rw [(List.mem_replicate.1 hx).2]; omega
theorem zeros_bit (n i : Nat) : bitAt (List.replicate n 0) i = false := by
  unfold bitAt
  have : rd (List.replicate n 0) ((i / 64 : Nat) : Int) = 0 := by
    simp only [rd, Int.toNat_natCast]
    rw [List.getD_eq_getElem?_getD, List.getElem?_replicate]
    split <;> rfl
  rw [this]
  simp

theorem or_bit (W : List Int) (hW : Words64 W) (i : Nat) (hl : i / 64 < W.length) (m : Nat) (em : rd W ((i / 64 : Nat) : Int) = (m : Int)) (hm : m < 18446744073709551616) :
    Go.bits .or .u64 (rd W ((i / 64 : Nat) : Int)) (shl .u64 1 ((i % 64 : Nat) : Int)) = ((m ||| 2 ^ (i % 64) : Nat) : Int) ∧ m ||| 2 ^ (i % 64) < 18446744073709551616 := by
  have hp : 2 ^ (i % 64) < 18446744073709551616 := Nat.pow_lt_pow_right (a := 2) (by decide) (show i % 64 < 64 by omega)
  have e := shl_nat 1 (i % 64) (by omega)
  rw [Nat.one_mul, Nat.mod_eq_of_lt hp] at e
  rw [show shl .u64 1 ((i % 64 : Nat) : Int) = ((2 ^ (i % 64) : Nat) : Int) from e, em, u64_or_nat m _ hm hp]
  exact ⟨rfl, Nat.or_lt_two_pow (n := 64) hm hp⟩

theorem set_words (W : List Int) (hW : Words64 W) (q z : Nat) (hz : z < 18446744073709551616) : Words64 (W.set q (z : Int)) := fun x hx => by
  rcases List.mem_or_eq_of_mem_set hx with h | h
  · exact hW x h
  · subst h; omega

theorem set_bit (W : List Int) (i m : Nat) (hl : i / 64 < W.length) (em : rd W ((i / 64 : Nat) : Int) = (m : Int)) (j : Nat) :
    bitAt (W.set (i / 64) ((m ||| 2 ^ (i % 64) : Nat) : Int)) j = (decide (j = i) || bitAt W j) := by
  unfold bitAt
  rw [rd_set W _ _ _ hl]
  by_cases h : j / 64 = i / 64
  · rw [if_pos h, Int.toNat_natCast, Nat.testBit_or, Nat.testBit_two_pow, h, em, Int.toNat_natCast, Bool.or_comm]
    congr 1
    apply decide_eq_decide.2
    omega
  · rw [if_neg h, decide_eq_false (by intro e; subst e; exact h rfl), Bool.false_or]

theorem of_loop (l : List Bool) (hn : l.length ≤ 4194304) (d : Nat) : ∀ (k i : Nat) (W : List Int), i + d = l.length → d < k → Words64 W → W.length = wordsOf l.length → (∀ j, j < i → bitAt W j = l.getD j false) → (∀ j, i ≤ j → bitAt W j = false) →
    ∃ V, bits_Of.l0 k l (l.length : Int) (i : Int) (l.length : Int) W = some ((l.length : Int), V, 0) ∧ Words64 V ∧ V.length = wordsOf l.length ∧ (∀ j, bitAt V j = l.getD j false) := by
  induction d with
  | zero =>
    intro k i W hi hk hW hlen hlo hhi
    obtain ⟨k, rfl⟩ : ∃ q, k = q + 1 := ⟨k - 1, by omega⟩
    simp only [bits_Of.l0]
    rw [if_neg (by omega)]
    refine ⟨W, rfl, hW, hlen, fun j => ?_⟩
    by_cases hj : j < i
    · exact hlo j hj
    · rw [hhi j (by omega), List.getD_eq_getElem?_getD, List.getElem?_eq_none (by omega)]; rfl
  | succ d ih =>
    intro k i W hi hk hW hlen hlo hhi
    obtain ⟨k, rfl⟩ : ∃ q, k = q + 1 := ⟨k - 1, by omega⟩
    have hil : i < l.length := by omega
    have hq : i / 64 < W.length := by rw [hlen]; unfold wordsOf; omega
    have e5 : wrap64 ((i : Int) + 1) = ((i + 1 : Nat) : Int) := by rw [w64 (by omega) (by omega)]; omega
    obtain ⟨m, em, hm⟩ := rd_lt W hW (i / 64)
    obtain ⟨eo, ho⟩ := or_bit W hW i hq m em hm
    have er : rdOf false l (i : Int) = l.getD i false := by simp [rdOf]
    simp only [bits_Of.l0]
    rw [if_pos (by omega), if_pos (by omega), if_pos (by omega), er, e5]
    by_cases hb : l.getD i false = true
    · rw [if_pos hb, div64 i (by omega), mod64' i, if_pos (by omega), if_pos (by omega), if_pos (by omega), eo, Int.toNat_natCast]
      refine ih k (i + 1) _ (by omega) (by omega) (set_words W hW _ _ ho) (by rw [List.length_set]; exact hlen) ?_ ?_
      · intro j hj
        rw [set_bit W i m hq em j]
        by_cases e : j = i
        · subst e; rw [decide_eq_true rfl, Bool.true_or, hb]
        · rw [decide_eq_false e, Bool.false_or]; exact hlo j (by omega)
      · intro j hj
        rw [set_bit W i m hq em j, decide_eq_false (by omega), Bool.false_or]
        exact hhi j (by omega)
    · rw [if_neg hb]
      refine ih k (i + 1) W (by omega) (by omega) hW hlen ?_ (fun j hj => hhi j (by omega))
      intro j hj
      by_cases e : j = i
      · subst e; rw [hhi j (Nat.le_refl _)]; simpa using hb
      · exact hlo j (by omega)

theorem of_f (l : List Bool) (k : Nat) (hn : l.length ≤ 4194304) (hk : l.length < k) : ∃ V, bits_Of.f k l = some ((l.length : Int), V, 0) ∧ Words64 V ∧ V.length = wordsOf l.length ∧ (∀ j, bitAt V j = l.getD j false) := by
  unfold bits_Of.f
  rw [new_f _ hn, Option.bind_some, if_pos rfl]
  exact of_loop l hn l.length k 0 _ (by omega) hk (zeros_words _) (by simp) (fun j hj => by omega) (fun j _ => zeros_bit _ j)
theorem words_len (n : Nat) : n ≤ 64 * wordsOf n := by unfold wordsOf; omega
end Go.Proofs.Ytcmaidpoolcelaa.Lem
