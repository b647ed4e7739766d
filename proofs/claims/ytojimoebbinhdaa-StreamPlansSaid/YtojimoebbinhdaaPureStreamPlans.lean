/- StreamPlans, the plain part: what the program's plan and the document's plan come to is the same list of chunks, for every first number and count. -/
import Derived.Test.YtojimoebbinhdaaPStreamPlansx2
import Derived.IntWalk
import Derived.OpenShut
namespace Go.Proofs.Ytojimoebbinhdaa.Pure
open Go.RowKit Go.Proofs.Ytojimoebbinhdaa.PStreamPlans Go.Proofs.YtojimoebbinhdaaW.PrintWords Go.Proofs.YtojimoebbinhdaaW.PrintLast
namespace StreamPlansL

theorem wr {n : Int} (h0 : 0 ≤ n) (h1 : n ≤ 18446744073709551615) : IntKind.u64.wrap n = n := IntWalk.u64_in n ⟨h0, h1⟩

def chunkAt (from_ n : Int) (j : Nat) : S32 := ⟨from_ + 512 * j, if n - 512 * j < 512 then n - 512 * j else 512, 512 * j⟩
def refAt (from_ n : Int) (j : Nat) : S84 := ⟨from_ + 512 * j, if n - 512 * j < 512 then n - 512 * j else 512, 512 * j⟩
def chunks (from_ n : Int) (m : Nat) : List S32 := (List.range m).map (chunkAt from_ n)
def refs (from_ n : Int) (m : Nat) : List S84 := (List.range m).map (refAt from_ n)
def many (n : Int) : Nat := ((n + 511) / 512).toNat

theorem chunks_snoc (a n : Int) (m : Nat) : chunks a n (m + 1) = chunks a n m ++ [chunkAt a n m] := by
  unfold chunks; rw [List.range_succ, List.map_append]; rfl
theorem chunks_len (a n : Int) (m : Nat) : (chunks a n m).length = m := by simp [chunks]
theorem refs_len (a n : Int) (m : Nat) : (refs a n m).length = m := by simp [refs]

theorem plan_loop (a n : Int) (ha : 0 ≤ a) (ha' : a ≤ 67108864) (hn : 0 ≤ n) (hn' : n ≤ 4096) (d : Nat) : ∀ (k : Nat) (m : Nat), m + d = many n → d < k →
    stream_Plan.l0 k a n (chunks a n m) (512 * m) = some (chunks a n (many n), 0) := by
  induction d with
  | zero =>
    intro k m hm hk
    obtain ⟨k, rfl⟩ : ∃ q, k = q + 1 := ⟨k - 1, by omega⟩
    unfold many at hm ⊢
    simp only [stream_Plan.l0]
    rw [if_neg (by omega)]
    obtain rfl : m = ((n + 511) / 512).toNat := by omega
    rfl
  | succ d ih =>
    intro k m hm hk
    obtain ⟨k, rfl⟩ : ∃ q, k = q + 1 := ⟨k - 1, by omega⟩
    have hmm : (512 : Int) * m < n := by unfold many at hm; omega
    simp only [stream_Plan.l0]
    rw [if_pos hmm, if_pos (by rw [chunks_len]; omega)]
    have e1 : wrap64 (512 * (m : Int) + 512) = 512 * ((m + 1 : Nat) : Int) := by unfold wrap64; omega
    have e2 : wrap64 (n - 512 * (m : Int)) = n - 512 * (m : Int) := by unfold wrap64; omega
    rw [e1, e2, wr (n := 512 * (m : Int)) (by omega) (by omega), wr (n := a + 512 * (m : Int)) (by omega) (by omega)]
    have e3 : (⟨a + 512 * (m : Int), mn 512 (n - 512 * (m : Int)), 512 * (m : Int)⟩ : S32) = chunkAt a n m := by
      unfold chunkAt mn; rfl
    rw [e3, ← chunks_snoc]
    exact ih k (m + 1) (by omega) (by omega)

theorem plan_f (a n : Int) (k : Nat) (hk : 20 ≤ k) (ha : 0 ≤ a) (hw : a ≤ 18446744073709551615) (hn1 : -9223372036854775808 ≤ n) (hn2 : n ≤ 9223372036854775807) :
    stream_Plan.f k a n = some (if n < 0 ∨ 4096 < n then ([], 2) else if 67108864 - n < a then ([], 24) else (chunks a n (many n), 0)) := by
  obtain ⟨k, rfl⟩ : ∃ q, k = q + 1 := ⟨k - 1, by omega⟩
  unfold stream_Plan.f
  by_cases h1 : n < 0
  · rw [if_pos h1]; simp only [stream_Plan.j0]; rw [if_pos trivial, if_pos (.inl h1)]
  · rw [if_neg h1]; simp only [stream_Plan.j0]
    by_cases h2 : n > 4096
    · rw [if_pos (by simpa using h2), if_pos (.inr h2)]
    · rw [if_neg (by simpa using h2), if_neg (show ¬ (n < 0 ∨ 4096 < n) by omega), wr (n := n) (by omega) (by omega), wr (n := 67108864 - n) (by omega) (by omega)]
      by_cases h3 : a > 67108864 - n
      · rw [if_pos h3, if_pos h3]
      · rw [if_neg h3, if_neg h3]
        exact plan_loop a n ha (by omega) (by omega) (by omega) (many n) k 0 (by omega) (by unfold many; omega)

/-- the document's list behind i transfers -/
theorem refs_first (a : Int) (i : Int) (hi : 0 ≤ i) (h : i % 512 = 0) : refs a (i + 1) (many (i + 1)) = refs a i (many i) ++ [⟨a + i, 1, i⟩] := by
  have e : many (i + 1) = many i + 1 := by unfold many; omega
  have em : (512 : Int) * (many i : Nat) = i := by unfold many; omega
  unfold refs
  rw [e, List.range_succ, List.map_append]
  congr 1
  · apply List.map_congr_left
    intro j hj
    have hj' : j < many i := List.mem_range.1 hj
    unfold refAt
    have : 512 * ((j : Int) + 1) ≤ i := by omega
    rw [if_neg (by omega), if_neg (by omega)]
  · simp only [List.map_cons, List.map_nil, refAt]
    rw [em, if_pos (by omega)]
    congr 3; omega

theorem refs_more (a : Int) (i : Int) (hi : 0 ≤ i) (h : ¬ i % 512 = 0) : refs a (i + 1) (many (i + 1)) = (refs a i (many i)).set (many i - 1) ⟨a + 512 * ((many i - 1 : Nat) : Int), i - 512 * ((many i - 1 : Nat) : Int) + 1, 512 * ((many i - 1 : Nat) : Int)⟩ := by
  have e : many (i + 1) = many i := by unfold many; omega
  have h1 : 1 ≤ many i := by unfold many; omega
  rw [e]
  apply List.ext_getElem
  · simp [refs_len]
  · intro j hj1 hj2
    rw [List.getElem_set]
    have hj : j < many i := by simpa [refs_len] using hj1
    simp only [refs, List.getElem_map, List.getElem_range]
    by_cases hjm : many i - 1 = j
    · rw [if_pos hjm]
      subst hjm
      unfold refAt
      have h2 : i - 512 * ((many i - 1 : Nat) : Int) < 512 := by unfold many; omega
      have h3 : i + 1 - 512 * ((many i - 1 : Nat) : Int) ≤ 512 := by omega
      congr 1
      split <;> omega
    · rw [if_neg hjm]
      unfold refAt
      have h2 : 512 * ((j : Int) + 1) < i := by unfold many at hj hjm; omega
      rw [if_neg (by omega), if_neg (by omega)]

theorem rd_refs (a i : Int) (h1 : 1 ≤ many i) : rd_T84 (refs a i (many i)) ((many i : Int) - 1) = refAt a i (many i - 1) := by
  unfold rd_T84
  rw [List.getD_eq_getElem?_getD, List.getElem?_eq_getElem (by rw [refs_len]; omega)]
  simp only [refs, List.getElem_map, List.getElem_range, Option.getD_some]
  congr 1; omega

theorem ref_loop (a n : Int) (ha : 0 ≤ a) (ha' : a ≤ 67108864) (hn : 0 ≤ n) (hn' : n ≤ 4096) (d : Nat) : ∀ (k : Nat) (i : Int), 0 ≤ i → i + d = n → d < k →
    trefoilref20_Plan.l0 k a n (refs a i (many i)) i = some (refs a n (many n), 0) := by
  induction d with
  | zero =>
    intro k i h0 hm hk
    obtain ⟨k, rfl⟩ : ∃ q, k = q + 1 := ⟨k - 1, by omega⟩
    simp only [trefoilref20_Plan.l0]
    obtain rfl : i = n := by omega
    rw [if_neg (by omega)]
  | succ d ih =>
    intro k i h0 hm hk
    obtain ⟨k, rfl⟩ : ∃ q, k = q + 1 := ⟨k - 1, by omega⟩
    have hlt : i < n := by omega
    have hmany : many i ≤ 8 := by unfold many; omega
    simp only [trefoilref20_Plan.l0]
    rw [if_pos hlt]
    have et : Int.tmod i 512 = i % 512 := Int.tmod_eq_emod_of_nonneg h0
    have e1 : wrap64 (i + 1) = i + 1 := by unfold wrap64; omega
    rw [et, e1, wr (n := i) (by omega) (by omega), wr (n := a + i) (by omega) (by omega)]
    by_cases hc : i % 512 = 0
    · rw [if_pos hc, if_pos (by rw [refs_len]; omega)]
      simp only [Option.bind_some]
      have hl : ((refs a i (many i) ++ [(⟨a + i, 0, i⟩ : S84)]).length : Int) = many i + 1 := by simp [refs_len]
      have e2 : wrap64 ((many i : Int) + 1 - 1) = many i := by unfold wrap64; omega
      rw [hl, e2, if_pos (by omega), if_pos (by omega)]
      have e3 : rd_T84 (refs a i (many i) ++ [(⟨a + i, 0, i⟩ : S84)]) (many i : Int) = ⟨a + i, 0, i⟩ := by
        unfold rd_T84
        rw [List.getD_eq_getElem?_getD, List.getElem?_append_right (by rw [refs_len]; omega)]
        simp [refs_len]
      rw [e3]
      have e4 : (refs a i (many i) ++ [(⟨a + i, 0, i⟩ : S84)]).set ((many i : Int)).toNat ⟨a + i, wrap64 (0 + 1), i⟩ = refs a (i + 1) (many (i + 1)) := by
        rw [refs_first a i h0 hc, List.set_append_right _ _ (by rw [refs_len]; omega)]
        simp [refs_len, wrap64]
      have e5 := ih k (i + 1) (by omega) (by omega) (by omega)
      rw [← e4] at e5
      exact e5
    · rw [if_neg hc, refs_len]
      have h1 : 1 ≤ many i := by unfold many; omega
      have e2 : wrap64 ((many i : Int) - 1) = (many i : Int) - 1 := by unfold wrap64; omega
      rw [e2, if_pos (by omega), if_pos (by omega), rd_refs a i h1]
      have e4 : (refs a i (many i)).set ((many i : Int) - 1).toNat ⟨(refAt a i (many i - 1)).f0, wrap64 ((refAt a i (many i - 1)).f1 + 1), (refAt a i (many i - 1)).f2⟩ = refs a (i + 1) (many (i + 1)) := by
        rw [refs_more a i h0 hc]
        have : ((many i : Int) - 1).toNat = many i - 1 := by omega
        rw [this]
        congr 1
        unfold refAt
        have h2 : i - 512 * ((many i - 1 : Nat) : Int) < 512 := by unfold many; omega
        have h3 : 0 ≤ i - 512 * ((many i - 1 : Nat) : Int) := by unfold many; omega
        simp only
        rw [if_pos h2]
        congr 1
        unfold wrap64; omega
      have e5 := ih k (i + 1) (by omega) (by omega) (by omega)
      rw [← e4] at e5
      exact e5

theorem ref_f (a n : Int) (k : Nat) (hk : 4200 ≤ k) (ha : 0 ≤ a) (hw : a ≤ 18446744073709551615) (hn1 : -9223372036854775808 ≤ n) (hn2 : n ≤ 9223372036854775807) :
    trefoilref20_Plan.f k a n = some (if n < 0 ∨ 4096 < n then ([], 2) else if 67108864 - n < a then ([], 24) else (refs a n (many n), 0)) := by
  obtain ⟨k, rfl⟩ : ∃ q, k = q + 2 := ⟨k - 2, by omega⟩
  unfold trefoilref20_Plan.f
  by_cases h1 : n < 0
  · rw [if_pos h1]; simp only [trefoilref20_Plan.j0]; rw [if_pos trivial, if_pos (.inl h1)]
  · rw [if_neg h1]; simp only [trefoilref20_Plan.j0]
    by_cases h2 : n > 4096
    · rw [if_pos (by simpa using h2), if_pos (.inr h2)]
    · rw [if_neg (by simpa using h2), if_neg (show ¬ (n < 0 ∨ 4096 < n) by omega)]
      by_cases h3 : a > 67108864
      · rw [if_pos h3]; simp only [trefoilref20_Plan.j1]; rw [if_pos trivial, if_pos (show 67108864 - n < a by omega)]
      · rw [if_neg h3]
        have e1 : wrap64 a = a := by unfold wrap64; omega
        have e2 : wrap64 (a + n) = a + n := by unfold wrap64; omega
        rw [e1, e2]; simp only [trefoilref20_Plan.j1]
        by_cases h4 : a + n > 67108864
        · rw [if_pos (by simpa using h4), if_pos (show 67108864 - n < a by omega)]
        · rw [if_neg (by simpa using h4), if_neg (show ¬ 67108864 - n < a by omega)]
          have := ref_loop a n ha (by omega) (by omega) (by omega) n.toNat k 0 (by omega) (by omega) (by omega)
          have e3 : refs a 0 (many 0) = [] := by simp [refs, many]
          rw [e3] at this
          exact this

theorem same_loop (a : List S32) (b : List S84) (hl : a.length = b.length) (hm : a.length ≤ 100)
    (hs : ∀ i : Nat, i < a.length → (rd_T32 a i).f0 = (rd_T84 b i).f0 ∧ (rd_T32 a i).f1 = (rd_T84 b i).f1 ∧ (rd_T32 a i).f2 = (rd_T84 b i).f2) (d : Nat) :
    ∀ (k : Nat) (i : Nat), i + d = a.length → d < k → trefoillaw20_same.l0 k a b i = some true := by
  induction d with
  | zero =>
    intro k i hi hk
    obtain ⟨k, rfl⟩ : ∃ q, k = q + 1 := ⟨k - 1, by omega⟩
    simp only [trefoillaw20_same.l0]; rw [if_neg (by omega)]
  | succ d ih =>
    intro k i hi hk
    obtain ⟨k, rfl⟩ : ∃ q, k = q + 1 := ⟨k - 1, by omega⟩
    obtain ⟨x, y, z⟩ := hs i (by omega)
    simp only [trefoillaw20_same.l0]
    rw [if_pos (by omega), if_pos (by omega), if_pos (by omega), if_pos x, if_pos y, if_pos z]
    have : wrap64 ((i : Int) + 1) = ((i + 1 : Nat) : Int) := by unfold wrap64; omega
    rw [this]
    exact ih k (i + 1) (by omega) (by omega)

theorem rd_chunks (a n : Int) (m i : Nat) (h : i < m) : rd_T32 (chunks a n m) i = chunkAt a n i := by
  unfold rd_T32
  rw [List.getD_eq_getElem?_getD, List.getElem?_eq_getElem (by rw [chunks_len]; omega)]
  simp [chunks]
theorem rd_refs' (a n : Int) (m i : Nat) (h : i < m) : rd_T84 (refs a n m) i = refAt a n i := by
  unfold rd_T84
  rw [List.getD_eq_getElem?_getD, List.getElem?_eq_getElem (by rw [refs_len]; omega)]
  simp [refs]

theorem same_of (a n : Int) (m k : Nat) (hm : m ≤ 9) (hk : 20 ≤ k) : trefoillaw20_same.f k (chunks a n m) (refs a n m) = some true := by
  unfold trefoillaw20_same.f
  rw [if_pos (by rw [chunks_len, refs_len])]
  refine same_loop _ _ (by rw [chunks_len, refs_len]) (by rw [chunks_len]; omega) ?_ m k 0 (by rw [chunks_len]; omega) (by omega)
  intro i hi
  rw [chunks_len] at hi
  rw [rd_chunks a n m i hi, rd_refs' a n m i hi]
  exact ⟨rfl, rfl, rfl⟩

theorem same_nil (k : Nat) (hk : 1 ≤ k) : trefoillaw20_same.f k [] [] = some true := by
  obtain ⟨k, rfl⟩ : ∃ q, k = q + 1 := ⟨k - 1, by omega⟩
  unfold trefoillaw20_same.f
  simp [trefoillaw20_same.l0]

theorem awake_f (k : Nat) (hk : 20 ≤ k) : trefoillaw20_awake.f k = some true := by
  unfold trefoillaw20_awake.f
  rw [plan_f 5 600 k hk (by omega) (by omega) (by omega) (by omega)]
  have e : ([(⟨5, 512, 0⟩ : S84), (⟨517, 88, 512⟩ : S84)] : List S84) = refs 5 600 2 := by
    simp [refs, refAt, List.range_succ]
  have m2 : many 600 = 2 := by unfold many; omega
  rw [if_neg (by omega), if_neg (by omega), m2, e]
  simp only [Option.bind_some, if_true]
  rw [same_of 5 600 2 k (by omega) hk]; rfl

theorem law_loop (a n : Int) (ha : 0 ≤ a) (hn : 0 ≤ n) (hn' : n ≤ 4096) (hs : a + n ≤ 67108864) (d : Nat) : ∀ (k : Nat) (i : Nat), i + d = many n → d + 21 < k →
    trefoillaw20_StreamPlans.l0 k n (chunks a n (many n)) 0 (if 512 * (i : Int) < n then a + 512 * i else a + n) (if 512 * (i : Int) < n then 512 * (i : Int) else n) i = some true := by
  induction d with
  | zero =>
    intro k i hi hk
    obtain ⟨k, rfl⟩ : ∃ q, k = q + 1 := ⟨k - 1, by omega⟩
    have : ¬ 512 * (i : Int) < n := by unfold many at hi; omega
    simp only [trefoillaw20_StreamPlans.l0]
    rw [chunks_len, if_neg (by omega), if_pos trivial, if_neg this, if_pos rfl, awake_f k (by omega)]; rfl
  | succ d ih =>
    intro k i hi hk
    obtain ⟨k, rfl⟩ : ∃ q, k = q + 1 := ⟨k - 1, by omega⟩
    have hlt : 512 * (i : Int) < n := by unfold many at hi; omega
    simp only [trefoillaw20_StreamPlans.l0]
    rw [chunks_len, if_pos (by omega), if_pos (by omega), if_pos hlt, if_pos hlt, rd_chunks a n _ i (by omega)]
    have b1 : 1 ≤ (chunkAt a n i).f1 ∧ (chunkAt a n i).f1 ≤ 512 := by unfold chunkAt; simp only; split <;> omega
    rw [if_pos (show (chunkAt a n i).f0 = a + 512 * (i : Int) from rfl), if_pos (show (chunkAt a n i).f2 = 512 * (i : Int) from rfl), if_neg (by omega), if_neg (by omega), wr (n := (chunkAt a n i).f1) (by omega) (by omega)]
    have e1 : a + 512 * (i : Int) + (chunkAt a n i).f1 = if 512 * ((i + 1 : Nat) : Int) < n then a + 512 * ((i + 1 : Nat) : Int) else a + n := by
      unfold chunkAt; simp only; split <;> split <;> omega
    have e2 : 512 * (i : Int) + (chunkAt a n i).f1 = if 512 * ((i + 1 : Nat) : Int) < n then 512 * ((i + 1 : Nat) : Int) else n := by
      unfold chunkAt; simp only; split <;> split <;> omega
    have e3 : wrap64 ((i : Int) + 1) = ((i + 1 : Nat) : Int) := by unfold many at hi; unfold wrap64; omega
    rw [wr (n := a + 512 * (i : Int) + (chunkAt a n i).f1) (by omega) (by omega), IntWalk.wrap64_in (512 * (i : Int) + (chunkAt a n i).f1) ⟨by omega, by omega⟩, e1, e2, e3]
    exact ih k (i + 1) (by omega) (by omega)

theorem end_bad (a n e : Int) (he : e ≠ 0) : trefoillaw20_StreamPlans.j0 5000 a n [] e (e != e) = some true := by
  obtain ⟨k, hk⟩ : ∃ q, 5000 = q + 1 + 1 := ⟨4998, rfl⟩
  rw [hk]
  simp only [trefoillaw20_StreamPlans.j0]
  rw [if_neg (by simp)]
  simp only [trefoillaw20_StreamPlans.l0]
  rw [if_neg (by simp), if_neg he, awake_f k (by omega)]; rfl

end StreamPlansL
open StreamPlansL

/-- The plain statement of StreamPlans. -/
theorem StreamPlans : trefoillaw20_StreamPlans.Pure := by
  intro a n ha hn
  have ⟨ha0, ha1⟩ : 0 ≤ a ∧ a ≤ 18446744073709551615 := bounds_u64 ha
  have ⟨hn0, hn1⟩ : -9223372036854775808 ≤ n ∧ n ≤ 9223372036854775807 := bounds_i64 hn
  refine ⟨5000, ?_⟩
  unfold trefoillaw20_StreamPlans.f
  rw [plan_f a n 5000 (by omega) ha0 ha1 hn0 hn1, ref_f a n 5000 (by omega) ha0 ha1 hn0 hn1]
  simp only [Option.bind_some]
  by_cases h1 : n < 0 ∨ 4096 < n
  · rw [if_pos h1, if_pos h1]
    rw [same_nil 5000 (by omega)]
    simp only [Option.bind_some, if_true]
    exact end_bad a n 2 (by decide)
  · rw [if_neg h1, if_neg h1]
    by_cases h2 : 67108864 - n < a
    · rw [if_pos h2, if_pos h2]
      rw [same_nil 5000 (by omega)]
      simp only [Option.bind_some, if_true]
      exact end_bad a n 24 (by decide)
    · rw [if_neg h2, if_neg h2, same_of a n _ 5000 (by unfold many; omega) (by omega)]
      simp only [Option.bind_some, if_true]
      have := law_loop a n ha0 (by omega) (by omega) (by omega) (many n) 4999 0 (by omega) (by unfold many; omega)
      obtain ⟨k, hk⟩ : ∃ q, 4999 = q := ⟨_, rfl⟩
      rw [show (5000 : Nat) = k + 1 by omega]
      rw [hk] at this
      simp only [trefoillaw20_StreamPlans.j0]
      rw [if_neg (by simp)]
      by_cases h3 : (512 * ((0 : Nat) : Int)) < n
      · rw [if_pos h3, if_pos h3] at this
        simpa using this
      · rw [if_neg h3, if_neg h3] at this
        have hn0 : n = 0 := by omega
        subst hn0
        simpa using this

end Go.Proofs.Ytojimoebbinhdaa.Pure
