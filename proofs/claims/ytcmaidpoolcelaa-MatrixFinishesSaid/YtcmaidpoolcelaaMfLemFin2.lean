/- The part C of shares, whole: the document's Finish, and that of triples of numbers. -/
import Derived.Test.YtcmaidpoolcelaaMfPx0
import Derived.Test.YtcmaidpoolcelaaMfK3
import Derived.Test.YtcmaidpoolcelaaMfK8
import Derived.Test.YtcmaidpoolcelaaMfK10
import Derived.Test.YtcmaidpoolcelaaMfLemFin
import Derived.Test.YtcmaidpoolcelaaMfLemSides2
namespace Go.Proofs.Ytcmaidpoolcelaa.Lem
open Go.RowKit Go.Proofs.Ytcmaidpoolcelaa.P Go.Proofs.Ytcmaidpoolcelaa.Num Go.Proofs.YtcmaidpoolcelaaW.PrintWords Go.Proofs.YtcmaidpoolcelaaW.PrintMore
set_option linter.unusedVariables false
set_option linter.unusedSectionVars false

def finR (W : Int) (l r q c : Nat) (xs : List S26) (sent got : List Int) : List S26 × Int :=
  if W = 0 then (if okFold l c sent = true then (if okFold l c got = true then (if (foldF l sent c (sent.length / (l * c))).length = r * q * c * xs.length ∧ (foldF l got c (got.length / (l * c))).length = r * q * c * xs.length then (finP l r q c xs (foldF l sent c (sent.length / (l * c))) (foldF l got c (got.length / (l * c))) xs.length, 0) else ([], 11)) else ([], 11)) else ([], 11)) else ([], W)
theorem foldR_ok {l n : Nat} {xs : List Int} (h : okFold l n xs = true) : foldR l n xs = (foldF l xs n (xs.length / (l * n)), 0) := if_pos h
theorem foldR_no {l n : Nat} {xs : List Int} (h : ¬ okFold l n xs = true) : foldR l n xs = ([], 11) := if_neg h
theorem rfinish_f (k : Nat) (hk : 30000 ≤ k) (kind c0 c1 c2 c3 c4 W : Int) (l r q c : Nat) (xs : List S26) (hx : Few xs) (sent got : List Int) (hs : U64s sent) (hg : U64s got) (ls : sent.length ≤ 3000) (lg : got.length ≤ 3000)
    (hw : trefoilref22_Wrong.f k c0 c1 c2 c3 c4 kind xs = some W) (hsd : W = 0 → c1 = (l : Int) ∧ trefoilref22_Sides.f c0 c1 c2 c3 c4 = some ((r : Int), (q : Int), (c : Int)) ∧ 1 ≤ l ∧ l ≤ 64 ∧ 1 ≤ r ∧ r ≤ 6 ∧ 1 ≤ q ∧ q ≤ 6 ∧ 1 ≤ c ∧ c ≤ 6 ∧ xs.all (okSh l r q c) = true) :
    trefoilref22_Finish.f k c0 c1 c2 c3 c4 kind xs sent got = some (finR W l r q c xs sent got) := by
  unfold trefoilref22_Finish.f finR
  rw [hw, Option.bind_some, Option.bind_some]
  by_cases hW : W = 0
  · obtain ⟨rfl, hS, h0, hl, r0, hr, q0, hq, n0, hc, ho⟩ := hsd hW
    rw [if_pos hW, if_pos hW, hS, Option.bind_some]
    simp only
    rw [rfold_f k l c (by omega) h0 hl n0 hc sent hs ls, Option.bind_some]
    by_cases h1 : okFold l c sent = true
    · rw [foldR_ok h1, if_pos h1]
      simp only
      rw [if_pos trivial, rfold_f k l c (by omega) h0 hl n0 hc got hg lg, Option.bind_some]
      by_cases h2 : okFold l c got = true
      · rw [foldR_ok h2, if_pos h2]
        simp only
        obtain ⟨X, eX⟩ : ∃ X, X = foldF l sent c (sent.length / (l * c)) := ⟨_, rfl⟩
        obtain ⟨Y, eY⟩ : ∃ Y, Y = foldF l got c (got.length / (l * c)) := ⟨_, rfl⟩
        have hX : U64s X := by rw [eX]; exact foldF_u64 hl _ _ _
        have hY : U64s Y := by rw [eY]; exact foldF_u64 hl _ _ _
        rw [← eX, ← eY]
        have b1 : r * q ≤ 36 := Nat.le_trans (Nat.mul_le_mul hr hq) (by decide)
        have b2 : r * q * c ≤ 216 := Nat.le_trans (Nat.mul_le_mul b1 hc) (by decide)
        have b3 : r * q * c * xs.length ≤ 6480 := Nat.le_trans (Nat.mul_le_mul b2 hx.1) (by decide)
        rw [if_pos trivial, mulw r q (by omega), mulw (r * q) c (by omega), mulw (r * q * c) xs.length (by omega)]
        obtain ⟨k, rfl⟩ : ∃ p, k = p + 1 := ⟨k - 1, by omega⟩
        by_cases h3 : X.length = r * q * c * xs.length ∧ Y.length = r * q * c * xs.length
        · obtain ⟨h4, h5⟩ := h3
          rw [if_pos (show X.length = r * q * c * xs.length ∧ Y.length = r * q * c * xs.length from ⟨h4, h5⟩), if_pos (by omega), show ((Y.length : Int) != (X.length : Int)) = false by rw [bne_eq_false_iff_eq]; omega]
          simp only [trefoilref22_Finish.j0]
          rw [if_neg (by simp)]
          have e : r * q * c * xs.length = xs.length * r * q * c := by rw [Nat.mul_comm, Nat.mul_assoc xs.length r q, Nat.mul_assoc xs.length (r * q) c]
          have b4 : q + 2 ≤ 8 := by omega
          have b5 : c * (q + 2) + 3 ≤ 51 := by have := Nat.mul_le_mul hc b4; omega
          have b6 : r * (c * (q + 2) + 3) + 3 ≤ 309 := by have := Nat.mul_le_mul hr b5; omega
          have b7 : xs.length * (r * (c * (q + 2) + 3) + 3) ≤ 30 * 309 := Nat.mul_le_mul hx.1 b6
          have := rfin_i h0 hl hr hq hc c0 c2 c3 c4 hx ho hX hY (by omega) (by omega) xs.length k 0 (by omega) (by omega)
          simpa [finP] using this
        · rw [if_neg h3]
          by_cases h4 : X.length = r * q * c * xs.length
          · rw [if_pos (by omega), show ((Y.length : Int) != (X.length : Int)) = true by rw [bne_iff_ne]; omega]
            simp only [trefoilref22_Finish.j0]
            rw [if_pos trivial]
          · rw [if_neg (by omega)]
            simp only [trefoilref22_Finish.j0]
            rw [if_pos trivial]
      · rw [foldR_no h2, if_neg h2]
        simp only
        rw [if_neg (by decide)]
    · rw [foldR_no h1, if_neg h1]
      simp only
      rw [if_neg (by decide)]
  · rw [if_neg hW, if_neg hW]
theorem finR_short (W : Int) (l r q c : Nat) (xs : List S26) (hx : Few xs) (hr : W = 0 → r ≤ 6 ∧ c ≤ 6) (sent got : List Int) : (finR W l r q c xs sent got).1.length ≤ 1000 ∧ Shorts (finR W l r q c xs sent got).1 := by
  have hn := hx.1
  have hnil : ([] : List S26).length ≤ 1000 ∧ Shorts [] := ⟨by simp, fun s hs => by cases hs⟩
  unfold finR
  by_cases hW : W = 0
  · rw [if_pos hW]
    split
    · split
      · split
        · refine ⟨by rw [finP_len]; omega, fun s hs => ?_⟩
          unfold finP at hs
          obtain ⟨i, hi, rfl⟩ := List.mem_map.1 hs
          have hi2 := List.mem_range.1 hi
          have h6 := hx.2 _ (sh_mem xs i hi2)
          have := Nat.mul_le_mul (hr hW).1 (hr hW).2
          refine ⟨?_, ?_, ?_⟩
          · show (rd_T26 xs (i : Int)).f0.length ≤ _; omega
          · show (rd_T26 xs (i : Int)).f1.length ≤ _; omega
          · show (rowP _ _ _ _ _ _ _ _ _).length ≤ _; rw [rowP_len]; omega
        · exact hnil
      · exact hnil
    · exact hnil
  · rw [if_neg hW]
    exact hnil
end Go.Proofs.Ytcmaidpoolcelaa.Lem
