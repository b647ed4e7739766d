/- The part C of shares, whole: the document's Finish, and that of triples of numbers. -/
import Derived.Test.YtcmaidpoolcelaaSfPx0
import Derived.Test.YtcmaidpoolcelaaSfK3
import Derived.Test.YtcmaidpoolcelaaSfK8
import Derived.Test.YtcmaidpoolcelaaSfK9
import Derived.Test.YtcmaidpoolcelaaSfK11
import Derived.Test.YtcmaidpoolcelaaSfLemFin
import Derived.Test.YtcmaidpoolcelaaSfLemSides2
namespace Go.Proofs.Ytcmaidpoolcelaa.Lem
open Go.RowKit Go.Proofs.Ytcmaidpoolcelaa.P Go.Proofs.Ytcmaidpoolcelaa.Num Go.Proofs.YtcmaidpoolcelaaW.PrintWords Go.Proofs.YtcmaidpoolcelaaW.PrintMore
set_option linter.unusedVariables false
set_option linter.unusedSectionVars false

def finR (W : Int) (l r q c : Nat) (xs : List S26) (sent got : List Int) : List S26 × Int :=
  if W = 0 then (if okFold l c sent = true then (if okFold l c got = true then (if (foldF l sent c (sent.length / (l * c))).length = r * q * c * xs.length ∧ (foldF l got c (got.length / (l * c))).length = r * q * c * xs.length then (finP l r q c xs (foldF l sent c (sent.length / (l * c))) (foldF l got c (got.length / (l * c))) xs.length, 0) else ([], 11)) else ([], 11)) else ([], 11)) else ([], W)
theorem foldR_ok {l n : Nat} {xs : List Int} (h : okFold l n xs = true) : foldR l n xs = (foldF l xs n (xs.length / (l * n)), 0) := if_pos h
theorem foldR_no {l n : Nat} {xs : List Int} (h : ¬ okFold l n xs = true) : foldR l n xs = ([], 11) := if_neg h
theorem rfinish_f (k : Nat) (hk : 30000 ≤ k) (kind c0 c1 c2 c3 c4 W : Int) (l r q c : Nat) (xs : List S26) (hx : Few xs) (sent got : List Int) (hs : U64s sent) (hg : U64s got) (ls : sent.length ≤ 3000) (lg : got.length ≤ 3000)
    (hw : trefoilref22_Wrong.f k c0 c1 c2 c3 c4 kind xs = some W) (hsd : W = 0 → c1 = (l : Int) ∧ trefoilref22_Sides.f c0 c1 c2 c3 c4 = some ((r : Int), (q : Int), (c : Int)) ∧ 1 ≤ l ∧ l ≤ 64 ∧ 1 ≤ r ∧ r ≤ 6 ∧ 1 ≤ q ∧ q ≤ 6 ∧ 1 ≤ c ∧ c ≤ 6 ∧ xs.all (okSh l r q c) = true) :
    trefoilref22_Finish.f k c0 c1 c2 c3 c4 kind xs sent got = some (finR W l r q c xs sent got) := by
  unfold trefoilref22_Finish.f finR
  rw [hw, Option.bind_some, Option.bind_some]
  by_cases hW : W = 0
  · obtain ⟨rfl, hS, h0, hl, r0, hr, q0, hq, n0, hc, ho⟩ := hsd hW
    rw [if_pos hW, if_pos hW, hS, Option.bind_some]
    simp only
    rw [rfold_f k l c (by omega) h0 hl n0 hc sent hs ls, Option.bind_some]
    by_cases h1 : okFold l c sent = true
    · rw [foldR_ok h1, if_pos h1]
      simp only
      rw [if_pos trivial, rfold_f k l c (by omega) h0 hl n0 hc got hg lg, Option.bind_some]
      by_cases h2 : okFold l c got = true
      · rw [foldR_ok h2, if_pos h2]
        simp only
        obtain ⟨X, eX⟩ : ∃ X, X = foldF l sent c (sent.length / (l * c)) := ⟨_, rfl⟩
        obtain ⟨Y, eY⟩ : ∃ Y, Y = foldF l got c (got.length / (l * c)) := ⟨_, rfl⟩
        have hX : U64s X := by rw [eX]; exact foldF_u64 hl _ _ _
        have hY : U64s Y := by rw [eY]; exact foldF_u64 hl _ _ _
        rw [← eX, ← eY]
        have b1 : r * q ≤ 36 := Nat.le_trans (Nat.mul_le_mul hr hq) (by decide)
        have b2 : r * q * c ≤ 216 := Nat.le_trans (Nat.mul_le_mul b1 hc) (by decide)
        have b3 : r * q * c * xs.length ≤ 6480 := Nat.le_trans (Nat.mul_le_mul b2 hx.1) (by decide)
        rw [if_pos trivial, mulw r q (by omega), mulw (r * q) c (by omega), mulw (r * q * c) xs.length (by omega)]
        obtain ⟨k, rfl⟩ : ∃ p, k = p + 1 := ⟨k - 1, by omega⟩
        by_cases h3 : X.length = r * q * c * xs.length ∧ Y.length = r * q * c * xs.length
        · obtain ⟨h4, h5⟩ := h3
          rw [if_pos (show X.length = r * q * c * xs.length ∧ Y.length = r * q * c * xs.length from ⟨h4, h5⟩), if_pos (by omega), show ((Y.length : Int) != (X.length : Int)) = false by rw [bne_eq_false_iff_eq]; omega]
          simp only [trefoilref22_Finish.j0]
          rw [if_neg (by simp)]
          have e : r * q * c * xs.length = xs.length * r * q * c := by rw [Nat.mul_comm, Nat.mul_assoc xs.length r q, Nat.mul_assoc xs.length (r * q) c]
          have b4 : q + 2 ≤ 8 := by omega
          have b5 : c * (q + 2) + 3 ≤ 51 := by have := Nat.mul_le_mul hc b4; omega
          have b6 : r * (c * (q + 2) + 3) + 3 ≤ 309 := by have := Nat.mul_le_mul hr b5; omega
          have b7 : xs.length * (r * (c * (q + 2) + 3) + 3) ≤ 30 * 309 := Nat.mul_le_mul hx.1 b6
          have := rfin_i h0 hl hr hq hc c0 c2 c3 c4 hx ho hX hY (by omega) (by omega) xs.length k 0 (by omega) (by omega)
          simpa [finP] using this
        · rw [if_neg h3]
          by_cases h4 : X.length = r * q * c * xs.length
          · rw [if_pos (by omega), show ((Y.length : Int) != (X.length : Int)) = true by rw [bne_iff_ne]; omega]
            simp only [trefoilref22_Finish.j0]
            rw [if_pos trivial]
          · rw [if_neg (by omega)]
            simp only [trefoilref22_Finish.j0]
            rw [if_pos trivial]
      · rw [foldR_no h2, if_neg h2]
        simp only
        rw [if_neg (by decide)]
    · rw [foldR_no h1, if_neg h1]
      simp only
      rw [if_neg (by decide)]
  · rw [if_neg hW, if_neg hW]
/-- lists of one number -/
theorem flat_one (f : S26 → List Int) (xs : List S26) (h : ∀ s ∈ xs, (f s).length = 1) : xs.flatMap f = xs.map fun s => rd (f s) 0 := by
  induction xs with
  | nil => rfl
  | cons x xs ih =>
    rw [List.flatMap_cons, List.map_cons, ih (fun s hs => h s (List.mem_cons_of_mem _ hs)), ← one_of (h x (List.mem_cons_self ..))]
    simp [rd]
theorem flat_rd (f : S26 → List Int) (xs : List S26) (h : ∀ s ∈ xs, (f s).length = 1) (i : Nat) (hi : i < xs.length) : rd (xs.flatMap f) (i : Int) = rd (f (rd_T26 xs (i : Int))) 0 := by
  rw [flat_one f xs h, sh_at xs i hi]
  unfold rd
  rw [Int.toNat_natCast, List.getD_eq_getElem?_getD, List.getElem?_map, List.getElem?_eq_getElem hi]
  rfl
theorem flat_one_len (f : S26 → List Int) (xs : List S26) (h : ∀ s ∈ xs, (f s).length = 1) : (xs.flatMap f).length = xs.length := by rw [flat_one f xs h, List.length_map]
theorem sfin_loop (l : Nat) (h0 : 1 ≤ l) (hl : l ≤ 64) (c0 c2 c3 c4 : Int) {xs : List S26} (hx : Few xs) (ho : xs.all (okSh l 1 1 1) = true) {X Y : List Int} (hX : U64s X) (hY : U64s Y) (lX : X.length = xs.length) (lY : Y.length = xs.length) (d : Nat) : ∀ (k i : Nat), i + d = xs.length → d < k →
    scalar_Finish.l0 k (xs.flatMap fun s => s.f0) (xs.flatMap fun s => s.f1) X Y (finP l 1 1 1 xs X Y i) (xs.length : Int) (i : Int) c0 (l : Int) c2 c3 c4 = some (finP l 1 1 1 xs X Y xs.length, 0) := by
  have hn := hx.1
  have l0 : ∀ s ∈ xs, s.f0.length = 1 := fun s hs => (okSh_iff (List.all_eq_true.1 ho s hs)).1
  have l1 : ∀ s ∈ xs, s.f1.length = 1 := fun s hs => (okSh_iff (List.all_eq_true.1 ho s hs)).2.1
  induction d with
  | zero =>
    intro k i hi hk
    obtain rfl : i = xs.length := by omega
    obtain ⟨k, rfl⟩ : ∃ p, k = p + 1 := ⟨k - 1, by omega⟩
    simp only [scalar_Finish.l0]
    rw [if_neg (by omega)]
  | succ d ih =>
    intro k i hi hk
    obtain ⟨k, rfl⟩ : ∃ p, k = p + 1 := ⟨k - 1, by omega⟩
    have hi2 : i < xs.length := by omega
    have hs := sh_mem xs i hi2
    obtain ⟨hA, hB, -⟩ := hx.2 _ hs
    simp only [scalar_Finish.l0]
    rw [if_pos (by omega), if_pos (by omega), if_pos (by rw [flat_one_len _ xs l0]; omega), if_pos (by rw [flat_one_len _ xs l1]; omega), flat_rd (fun s => s.f0) xs l0 i hi2, flat_rd (fun s => s.f1) xs l1 i hi2]
    have m0 := l0 _ hs
    have m1 := l1 _ hs
    have hsh : shP l 1 1 1 xs X Y i = ⟨[rd (rd_T26 xs (i : Int)).f0 0], [rd (rd_T26 xs (i : Int)).f1 0], [cellP l 1 1 (rd_T26 xs (i : Int)).f0 (rd_T26 xs (i : Int)).f1 X Y i 0 0 1]⟩ := by
      unfold shP
      rw [one_of m0, one_of m1, Nat.mul_one, Nat.mul_one, Nat.mul_one]
      rfl
    obtain ⟨A, eA⟩ : ∃ A, A = (rd_T26 xs (i : Int)).f0 := ⟨_, rfl⟩
    obtain ⟨B, eB⟩ : ∃ B, B = (rd_T26 xs (i : Int)).f1 := ⟨_, rfl⟩
    rw [← eA] at hA m0 hsh
    rw [← eB] at hB m1 hsh
    rw [← eA, ← eB]
    obtain ⟨n1, n1'⟩ := nv_eq hA 0 (by omega)
    obtain ⟨n2, n2'⟩ := nv_eq hB 0 (by omega)
    obtain ⟨n3, n3'⟩ := nv_eq hX i (by omega)
    obtain ⟨n4, n4'⟩ := nv_eq hY i (by omega)
    have z1 : rd A 0 = ((nv A 0 : Nat) : Int) := n1
    have z2 : rd B 0 = ((nv B 0 : Nat) : Int) := n2
    have hcell : cellP l 1 1 A B X Y i 0 0 1 = (((nv A 0 * nv B 0 % 2 ^ l + (nv X i + nv Y i) % 2 ^ l) % 2 ^ l : Nat) : Int) := by
      unfold cellP
      rw [← Nat.add_mod]
      simp [prodF]
    rw [hcell, z1, z2] at hsh
    rw [z1, z2, mul_f l _ _ h0 hl, Option.bind_some, if_pos (by omega), if_pos (by omega), n3, n4, add_f l _ _ h0 hl, Option.bind_some, add_f l _ _ h0 hl, Option.bind_some, if_pos (by rw [finP_len]; omega), succw i (by omega), ← hsh, finP_succ]
    exact ih k (i + 1) (by omega) (by omega)
theorem sfin_f (k : Nat) (hk : 30000 ≤ k) (c0 c1 c2 c3 c4 : Int) (xs : List S26) (hx : Few xs) (sent got : List Int) (hs : U64s sent) (hg : U64s got) (ls : sent.length ≤ 3000) (lg : got.length ≤ 3000) :
    scalar_Finish.f k c0 c1 c2 c3 c4 xs sent got = some (finR (swrong c0 c1 c2 c3 c4 xs) c1.toNat 1 1 1 xs sent got) := by
  unfold scalar_Finish.f finR
  rw [parts_f k (by omega) c0 c1 c2 c3 c4 xs hx, Option.bind_some]
  by_cases hW : swrong c0 c1 c2 c3 c4 xs = 0
  · obtain ⟨hck, ho⟩ := wrong_all hW
    obtain ⟨hc, h1⟩ := schk_zero hck
    obtain ⟨b1, b2, _, _⟩ := chk_bits hc
    obtain ⟨l, rfl⟩ := nat_of (show 0 ≤ c1 by omega)
    rw [Int.toNat_natCast] at ho ⊢
    have h0 : 1 ≤ l := by omega
    have hl : l ≤ 64 := by omega
    rw [if_pos hW, if_pos hW]
    simp only
    rw [if_pos trivial]
    have f1 := gfold_f k l 1 (by omega) h0 hl (by omega) (by omega) sent hs ls
    have f2 := gfold_f k l 1 (by omega) h0 hl (by omega) (by omega) got hg lg
    rw [show gilboa_Fold.f k (l : Int) 1 sent = _ from f1, Option.bind_some]
    by_cases h1 : okFold l 1 sent = true
    · rw [foldR_ok h1, if_pos h1]
      simp only
      rw [if_pos trivial, show gilboa_Fold.f k (l : Int) 1 got = _ from f2, Option.bind_some]
      by_cases h2 : okFold l 1 got = true
      · rw [foldR_ok h2, if_pos h2]
        simp only
        obtain ⟨X, eX⟩ : ∃ X, X = foldF l sent 1 (sent.length / (l * 1)) := ⟨_, rfl⟩
        obtain ⟨Y, eY⟩ : ∃ Y, Y = foldF l got 1 (got.length / (l * 1)) := ⟨_, rfl⟩
        have hX : U64s X := by rw [eX]; exact foldF_u64 hl _ _ _
        have hY : U64s Y := by rw [eY]; exact foldF_u64 hl _ _ _
        rw [← eX, ← eY, if_pos trivial]
        obtain ⟨k, rfl⟩ : ∃ p, k = p + 1 := ⟨k - 1, by omega⟩
        have hn := hx.1
        by_cases h3 : X.length = 1 * 1 * 1 * xs.length ∧ Y.length = 1 * 1 * 1 * xs.length
        · obtain ⟨h4, h5⟩ := h3
          rw [if_pos (show X.length = 1 * 1 * 1 * xs.length ∧ Y.length = 1 * 1 * 1 * xs.length from ⟨h4, h5⟩), if_pos (by omega), show ((Y.length : Int) != (xs.length : Int)) = false by rw [bne_eq_false_iff_eq]; omega]
          simp only [scalar_Finish.j0]
          rw [if_neg (by simp), if_pos (by omega), if_pos (by rw [Int.toNat_natCast]; omega)]
          have := sfin_loop l h0 hl c0 c2 c3 c4 hx ho hX hY (by omega) (by omega) xs.length k 0 (by omega) (by omega)
          simpa [finP] using this
        · rw [if_neg h3]
          by_cases h4 : X.length = xs.length
          · rw [if_pos (by omega), show ((Y.length : Int) != (xs.length : Int)) = true by rw [bne_iff_ne]; omega]
            simp only [scalar_Finish.j0]
            rw [if_pos trivial]
          · rw [if_neg (by omega)]
            simp only [scalar_Finish.j0]
            rw [if_pos trivial]
      · rw [foldR_no h2, if_neg h2]
        simp only
        rw [if_neg (by decide)]
    · rw [foldR_no h1, if_neg h1]
      simp only
      rw [if_neg (by decide)]
  · rw [if_neg hW, if_neg hW]
    simp only
    rw [if_neg hW]
theorem sfin_r (k : Nat) (hk : 30000 ≤ k) (c0 c1 c2 c3 c4 : Int) (xs : List S26) (hx : Few xs) (sent got : List Int) (hs : U64s sent) (hg : U64s got) (ls : sent.length ≤ 3000) (lg : got.length ≤ 3000) :
    trefoilref22_Finish.f k c0 c1 c2 c3 c4 1 xs sent got = some (finR (swrong c0 c1 c2 c3 c4 xs) c1.toNat 1 1 1 xs sent got) := by
  refine rfinish_f k hk 1 c0 c1 c2 c3 c4 _ c1.toNat 1 1 1 xs hx sent got hs hg ls lg (swrong_r k (by omega) c0 c1 c2 c3 c4 xs hx) (fun hW => ?_)
  obtain ⟨hck, ho⟩ := wrong_all hW
  obtain ⟨hc, h1⟩ := schk_zero hck
  obtain ⟨b1, b2, _, _⟩ := chk_bits hc
  refine ⟨by omega, ?_, by omega, by omega, by omega, by omega, by omega, by omega, by omega, by omega, ho⟩
  unfold trefoilref22_Sides.f
  rw [if_neg (by omega)]
  rfl
theorem finR_short (W : Int) (l r q c : Nat) (xs : List S26) (hx : Few xs) (hr : W = 0 → r ≤ 6 ∧ c ≤ 6) (sent got : List Int) : (finR W l r q c xs sent got).1.length ≤ 1000 ∧ Shorts (finR W l r q c xs sent got).1 := by
  have hn := hx.1
  have hnil : ([] : List S26).length ≤ 1000 ∧ Shorts [] := ⟨by simp, fun s hs => by cases hs⟩
  unfold finR
  by_cases hW : W = 0
  · rw [if_pos hW]
    split
    · split
      · split
        · refine ⟨by rw [finP_len]; omega, fun s hs => ?_⟩
          unfold finP at hs
          obtain ⟨i, hi, rfl⟩ := List.mem_map.1 hs
          have hi2 := List.mem_range.1 hi
          have h6 := hx.2 _ (sh_mem xs i hi2)
          have := Nat.mul_le_mul (hr hW).1 (hr hW).2
          refine ⟨?_, ?_, ?_⟩
          · show (rd_T26 xs (i : Int)).f0.length ≤ _; omega
          · show (rd_T26 xs (i : Int)).f1.length ≤ _; omega
          · show (rowP _ _ _ _ _ _ _ _ _).length ≤ _; rw [rowP_len]; omega
        · exact hnil
      · exact hnil
    · exact hnil
  · rw [if_neg hW]
    exact hnil
end Go.Proofs.Ytcmaidpoolcelaa.Lem
