/- The part C of shares, for matrices: the program's way comes to the document's shares. -/
import Derived.Test.YtcmaidpoolcelaaMfPx0
import Derived.Test.YtcmaidpoolcelaaMfK3
import Derived.Test.YtcmaidpoolcelaaMfK10
import Derived.Test.YtcmaidpoolcelaaMfK11
import Derived.Test.YtcmaidpoolcelaaMfK12
import Derived.Test.YtcmaidpoolcelaaMfLemFin2
import Derived.Test.YtcmaidpoolcelaaMfLemRights
namespace Go.Proofs.Ytcmaidpoolcelaa.Lem
open Go.RowKit Go.Proofs.Ytcmaidpoolcelaa.P Go.Proofs.Ytcmaidpoolcelaa.Num Go.Proofs.YtcmaidpoolcelaaW.PrintWords Go.Proofs.YtcmaidpoolcelaaW.PrintMore
set_option linter.unusedVariables false
set_option linter.unusedSectionVars false

/-- what is gathered of a list that was folded: row by row, column by column -/
def gathF (l : Nat) (xs : List Int) (q c z : Nat) : List Int := (List.range z).map fun p => cellF l xs c (p / c * (q * c) + p % c) q
theorem gathF_len (l : Nat) (xs : List Int) (q c z : Nat) : (gathF l xs q c z).length = z := by simp [gathF]
theorem gathF_succ (l : Nat) (xs : List Int) (q c i : Nat) : gathF l xs q c (i * c) ++ rowF l xs c (i * (q * c)) q = gathF l xs q c ((i + 1) * c) := by
  unfold gathF rowF
  rw [Nat.succ_mul, List.range_add, List.map_append, List.map_map]
  congr 1
  apply List.map_congr_left
  intro j hj
  have hj := List.mem_range.1 hj
  show _ = cellF l xs c ((i * c + j) / c * (q * c) + (i * c + j) % c) q
  rw [(place i j c hj).1, (place i j c hj).2]
theorem map_rd (f : Nat → Int) (n i : Nat) (h : i < n) : rd ((List.range n).map f) (i : Int) = f i := by
  show ((List.range n).map f).getD (i : Int).toNat 0 = _
  rw [Int.toNat_natCast, List.getD_eq_getElem?_getD, List.getElem?_eq_getElem (by simp; exact h)]
  simp
theorem sumAll_at (l : Nat) (xs ys : List Int) (i : Nat) (h : i < xs.length) : rd (sumAll l xs ys) (i : Int) = addOf (l : Int) (rd xs i) (rd ys i) := by
  rw [← sumAll_rd l xs ys i h]
  show (sumAll l xs ys).getD (i : Int).toNat 0 = _
  rw [Int.toNat_natCast, List.getD_eq_getElem?_getD, List.getElem?_eq_getElem (by rw [sumAll_len]; exact h)]
  rfl
theorem ext_rd {xs ys : List Int} (hl : xs.length = ys.length) (h : ∀ i, i < xs.length → rd xs (i : Int) = rd ys (i : Int)) : xs = ys := by
  apply List.ext_getElem hl
  intro i h1 h2
  have := h i h1
  unfold rd at this
  rw [Int.toNat_natCast, List.getD_eq_getElem?_getD, List.getD_eq_getElem?_getD, List.getElem?_eq_getElem h1, List.getElem?_eq_getElem h2] at this
  exact this
section
variable {l r q c : Nat} (h0 : 1 ≤ l) (hl : l ≤ 64) (hr : r ≤ 6) (hq : q ≤ 6) (hc : c ≤ 6) (c0 : Int) {xs : List Int} (hx : U64s xs) (hm : xs.length = r * q * c)
include h0 hl hr hq hc hx hm
theorem gth_in (i : Nat) (hi : i < r) (acc : List Int) (ha : acc.length ≤ 1000) (R : Option (List Int)) (d : Nat) : ∀ (k t : Nat), t + d = q → d + 1 < k →
    (∀ k2, k ≤ k2 + d + 1 → matrix_gather.l0 k2 xs (acc ++ rowF l xs c (i * (q * c)) q) (r : Int) ((i + 1 : Nat) : Int) c0 (l : Int) (r : Int) (q : Int) (c : Int) = R) →
    matrix_gather.l1 k xs acc (i : Int) (rowF l xs c (i * (q * c)) t) (r : Int) (i : Int) (q : Int) (t : Int) c0 (l : Int) (r : Int) (q : Int) (c : Int) = R := by
  have hiq : i * q ≤ 36 := sixes (Nat.le_of_lt hi) hr hq
  induction d with
  | zero =>
    intro k t ht hk hR
    obtain rfl : t = q := by omega
    obtain ⟨k, rfl⟩ : ∃ p, k = p + 1 := ⟨k - 1, by omega⟩
    simp only [matrix_gather.l1]
    rw [if_neg (by omega), if_pos (by rw [rowF_len]; omega), succw i (by omega)]
    exact hR k (by omega)
  | succ d ih =>
    intro k t ht hk hR
    obtain ⟨k, rfl⟩ : ∃ p, k = p + 1 := ⟨k - 1, by omega⟩
    have htq : t < q := by omega
    have b1 : i * q + t < r * q := place_lt hi htq
    have b2 : (i * q + t + 1) * c ≤ r * q * c := Nat.mul_le_mul_right _ b1
    have b3 : (i * q + t + 1) * c = (i * q + t) * c + c := Nat.succ_mul _ _
    have b4 : r * q ≤ 36 := sixes (Nat.le_refl r) hr hq
    have b5 : r * q * c ≤ 216 := Nat.le_trans (Nat.mul_le_mul b4 hc) (by decide)
    have e1 : (i * q + t) * c = i * (q * c) + t * c := by rw [Nat.add_mul, Nat.mul_assoc]
    have e2 : (t + 1) * c = t * c + c := Nat.succ_mul t c
    simp only [matrix_gather.l1]
    rw [if_pos (by omega), mulw i q (by omega), addw (i * q) t (by omega), mulw (i * q + t) c (by omega), addw ((i * q + t) * c) c (by omega), if_pos (by omega), if_pos (by omega), if_pos (by omega), Int.toNat_natCast, Int.toNat_natCast]
    rw [addall_f l _ _ (by rw [rowF_len, List.length_drop, List.length_take]; omega) (by rw [rowF_len]; omega), Option.bind_some, succw t (by omega)]
    show matrix_gather.l1 k xs acc (i : Int) (sumAll l (rowF l xs c (i * (q * c)) t) ((xs.take ((i * q + t) * c + c)).drop ((i * q + t) * c))) (r : Int) (i : Int) (q : Int) ((t + 1 : Nat) : Int) c0 (l : Int) (r : Int) (q : Int) (c : Int) = R
    rw [show (i * q + t) * c + c = i * (q * c) + (t + 1) * c by omega, e1, rowF_add xs c (i * (q * c)) t h0 hl hx (by omega)]
    exact ih k (t + 1) (by omega) (by omega) (fun k2 h => hR k2 (by omega))
theorem gth_out (d : Nat) : ∀ (k i : Nat), i + d = r → d * (q + 2) + 2 < k →
    matrix_gather.l0 k xs (gathF l xs q c (i * c)) (r : Int) (i : Int) c0 (l : Int) (r : Int) (q : Int) (c : Int) = some (gathF l xs q c (r * c)) := by
  induction d with
  | zero =>
    intro k i hi hk
    obtain rfl : i = r := by omega
    obtain ⟨k, rfl⟩ : ∃ p, k = p + 1 := ⟨k - 1, by omega⟩
    simp only [matrix_gather.l0]
    rw [if_neg (by omega)]
  | succ d ih =>
    intro k i hi hk
    obtain ⟨k, rfl⟩ : ∃ p, k = p + 1 := ⟨k - 1, by omega⟩
    have hir : i < r := by omega
    have hic : i * c ≤ 36 := sixes (Nat.le_of_lt hir) hr hc
    have e3 : (d + 1) * (q + 2) = d * (q + 2) + (q + 2) := Nat.succ_mul _ _
    simp only [matrix_gather.l0]
    rw [if_pos (by omega), if_pos (by omega), if_pos (by rw [Int.toNat_natCast]; omega), Int.toNat_natCast, rowF_zero l xs c (i * (q * c))]
    refine gth_in h0 hl hr hq hc c0 hx hm i hir _ (by rw [gathF_len]; omega) _ q k 0 (by omega) (by omega) (fun k2 h => ?_)
    rw [gathF_succ]
    exact ih k2 (i + 1) (by omega) (by omega)
theorem gth_f (k : Nat) (hk : 100 ≤ k) : matrix_gather.f k c0 (l : Int) (r : Int) (q : Int) (c : Int) xs = some (gathF l xs q c (r * c)) := by
  have b : r * c ≤ 36 := sixes (Nat.le_refl r) hr hc
  have b2 : r * (q + 2) ≤ 48 := Nat.le_trans (Nat.mul_le_mul hr (show q + 2 ≤ 8 by omega)) (by decide)
  unfold matrix_gather.f
  rw [mulw r c (by omega), if_pos (by omega), if_pos (by rw [Int.toNat_natCast]; omega)]
  have := gth_out h0 hl hr hq hc c0 hx hm r k 0 (by omega) (by omega)
  simpa [gathF] using this
end
/-- entry by entry -/
theorem prodF_sum (q c : Nat) (A B X Y X1 Y1 : List Int) (at_ a b n : Nat) (hn : ∀ t, t < n → nv X1 (a * (q * c) + b + t * c) = nv X (at_ + (a * q + t) * c + b) ∧ nv Y1 (a * (q * c) + b + t * c) = nv Y (at_ + (a * q + t) * c + b)) : ∀ t, t ≤ n →
    prodF q c A B X Y at_ a b t = prods A B (a * q) b c t + sumF X1 c (a * (q * c) + b) t + sumF Y1 c (a * (q * c) + b) t := by
  intro t
  induction t with
  | zero => intro _; rfl
  | succ t ih =>
    intro ht
    have := ih (by omega)
    obtain ⟨e1, e2⟩ := hn t (by omega)
    simp only [prodF, prods, sumF]
    rw [this, e1, e2]
    show _ = _ + nv A (a * q + t) * nv B (t * c + b) + _ + _
    omega
theorem step3 (n x y z : Nat) : ((x % n + y % n) % n + z % n) % n = (x + y + z) % n := by rw [← Nat.add_mod x y, ← Nat.add_mod (x + y) z]
theorem cut_nv (X : List Int) (p k j : Nat) (h : p + k ≤ X.length) (hj : j < k) : nv ((X.take (p + k)).drop p) j = nv X (p + j) := by
  unfold nv
  rw [cut_rd X p k j h hj]
theorem whole_row (l r q c : Nat) (h0 : 1 ≤ l) (hl : l ≤ 64) (A B X Y : List Int) (at_ : Nat) (hX : at_ + r * q * c ≤ X.length) (hY : at_ + r * q * c ≤ Y.length) :
    sumAll l (sumAll l (mm l r q c A B) (gathF l ((X.take (at_ + r * q * c)).drop at_) q c (r * c))) (gathF l ((Y.take (at_ + r * q * c)).drop at_) q c (r * c)) = rowP l q c A B X Y at_ (r * c) := by
  apply ext_rd
  · rw [sumAll_len, sumAll_len, mm_len, rowP_len]
  intro z hz
  rw [sumAll_len, sumAll_len, mm_len] at hz
  have hc : 0 < c := by
    rcases Nat.eq_zero_or_pos c with h | h
    · rw [h, Nat.mul_zero] at hz; omega
    · exact h
  have hb : z % c < c := Nat.mod_lt _ hc
  have ha : z / c < r := Nat.div_lt_of_lt_mul (by rw [Nat.mul_comm]; exact hz)
  rw [sumAll_at l _ _ z (by rw [sumAll_len, mm_len]; exact hz), sumAll_at l _ _ z (by rw [mm_len]; exact hz)]
  unfold mm gathF rowP
  rw [map_rd _ _ z hz, map_rd _ _ z hz, map_rd _ _ z hz, map_rd _ _ z hz]
  unfold entry_ cellF entP cellP
  rw [addOf_nat l _ _ h0 hl, addOf_nat l _ _ h0 hl, step3]
  rw [prodF_sum q c A B X Y ((X.take (at_ + r * q * c)).drop at_) ((Y.take (at_ + r * q * c)).drop at_) at_ (z / c) (z % c) q (fun t ht => ?_) q (Nat.le_refl q)]
  have hlt : z / c * (q * c) + z % c + t * c < r * q * c := by
    have := place_lt (place_lt ha ht) hb
    rw [Nat.add_mul, Nat.mul_assoc] at this
    omega
  have e : at_ + (z / c * (q * c) + z % c + t * c) = at_ + (z / c * q + t) * c + z % c := by
    rw [Nat.add_mul, Nat.mul_assoc]
    omega
  rw [cut_nv X at_ (r * q * c) _ hX hlt, cut_nv Y at_ (r * q * c) _ hY hlt, e]
  exact ⟨rfl, rfl⟩
theorem mfin_loop (l r q c : Nat) (h0 : 1 ≤ l) (hl : l ≤ 64) (r0 : 1 ≤ r) (hr : r ≤ 6) (q0 : 1 ≤ q) (hq : q ≤ 6) (n0 : 1 ≤ c) (hc : c ≤ 6) (c0 : Int) {xs : List S26} (hx : Few xs) (ho : xs.all (okSh l r q c) = true) {X Y : List Int} (hX : U64s X) (hY : U64s Y) (lX : X.length = xs.length * (r * q * c)) (lY : Y.length = xs.length * (r * q * c)) (d : Nat) : ∀ (k i : Nat), i + d = xs.length → d + 5100 < k →
    matrix_Finish.l0 k X Y ((r * q * c : Nat) : Int) (finP l r q c xs X Y i) xs (xs.length : Int) (i : Int) c0 (l : Int) (r : Int) (q : Int) (c : Int) = some (finP l r q c xs X Y xs.length, 0) := by
  have hn := hx.1
  have b4 : r * q ≤ 36 := sixes (Nat.le_refl r) hr hq
  have b5 : r * q * c ≤ 216 := Nat.le_trans (Nat.mul_le_mul b4 hc) (by decide)
  have b6 : r * c ≤ 36 := sixes (Nat.le_refl r) hr hc
  induction d with
  | zero =>
    intro k i hi hk
    obtain rfl : i = xs.length := by omega
    obtain ⟨k, rfl⟩ : ∃ p, k = p + 1 := ⟨k - 1, by omega⟩
    simp only [matrix_Finish.l0]
    rw [if_neg (by omega)]
  | succ d ih =>
    intro k i hi hk
    obtain ⟨k, rfl⟩ : ∃ p, k = p + 1 := ⟨k - 1, by omega⟩
    have hi2 : i < xs.length := by omega
    have hs := sh_mem xs i hi2
    obtain ⟨hA, hB, -, s0, s1, -⟩ := hx.2 _ hs
    obtain ⟨lA, lB, -, -⟩ := okSh_iff (List.all_eq_true.1 ho _ hs)
    have b7 : (i + 1) * (r * q * c) ≤ xs.length * (r * q * c) := Nat.mul_le_mul_right _ hi2
    have b8 : (i + 1) * (r * q * c) = i * (r * q * c) + r * q * c := Nat.succ_mul _ _
    have b9 : i * (r * q * c) ≤ 30 * 216 := Nat.mul_le_mul (by omega) b5
    have cX := cut_len X (i * (r * q * c)) (r * q * c) (by omega)
    have cY := cut_len Y (i * (r * q * c)) (r * q * c) (by omega)
    have uX := cut_u64 X hX (i * (r * q * c)) (r * q * c)
    have uY := cut_u64 Y hY (i * (r * q * c)) (r * q * c)
    simp only [matrix_Finish.l0]
    rw [if_pos (by omega), if_pos (by omega), if_pos (by omega), gmm_f k l r q c (by omega) h0 hl r0 hr q0 hq n0 hc _ _ hA hB lA lB, Option.bind_some]
    simp only
    rw [if_pos trivial, mulw i (r * q * c) (by omega), succw i (by omega), mulw (i + 1) (r * q * c) (by omega), if_pos (by omega), if_pos (by omega), if_pos (by omega), Int.toNat_natCast, Int.toNat_natCast, b8,
      gth_f h0 hl hr hq hc c0 uX cX k (by omega), Option.bind_some, addall_f l _ _ (by rw [gathF_len, mm_len]) (by rw [mm_len]; omega), Option.bind_some]
    simp only
    rw [if_pos (by omega), gth_f h0 hl hr hq hc c0 uY cY k (by omega), Option.bind_some, addall_f l _ _ (by rw [gathF_len, sumAll_len, mm_len]) (by rw [sumAll_len, mm_len]; omega), Option.bind_some]
    simp only
    rw [whole_row l r q c h0 hl _ _ X Y (i * (r * q * c)) (by omega) (by omega),
      if_pos (by simp; omega), if_pos (by simp; omega), if_pos (by rw [finP_len]; omega)]
    have e : i * (r * q * c) = i * r * q * c := by rw [Nat.mul_assoc i r q, Nat.mul_assoc i (r * q) c]
    have hsh : (⟨([] : List Int) ++ (rd_T26 xs (i : Int)).f0, ([] : List Int) ++ (rd_T26 xs (i : Int)).f1, rowP l q c (rd_T26 xs (i : Int)).f0 (rd_T26 xs (i : Int)).f1 X Y (i * (r * q * c)) (r * c)⟩ : S26) = shP l r q c xs X Y i := by
      unfold shP
      rw [e]
      rfl
    rw [hsh, finP_succ]
    exact ih k (i + 1) (by omega) (by omega)
theorem mfin_f (k : Nat) (hk : 30000 ≤ k) (c0 c1 c2 c3 c4 : Int) (xs : List S26) (hx : Few xs) (sent got : List Int) (hs : U64s sent) (hg : U64s got) (ls : sent.length ≤ 3000) (lg : got.length ≤ 3000) :
    matrix_Finish.f k c0 c1 c2 c3 c4 xs sent got = some (finR (mwrong c0 c1 c2 c3 c4 xs) c1.toNat c2.toNat c3.toNat c4.toNat xs sent got) := by
  unfold matrix_Finish.f finR
  rw [mwrong_f k (by omega) c0 c1 c2 c3 c4 xs hx, Option.bind_some]
  by_cases hW : mwrong c0 c1 c2 c3 c4 xs = 0
  · obtain ⟨hck, ho⟩ := wrong_all hW
    obtain ⟨hcz, h1⟩ := mchk_zero hck
    obtain ⟨b1, b2, _, _⟩ := chk_bits hcz
    obtain ⟨d1, d2, d3, d4, d5, d6⟩ := chk_sides hcz h1
    obtain ⟨l, rfl⟩ := nat_of (show 0 ≤ c1 by omega)
    obtain ⟨r, rfl⟩ := nat_of (show 0 ≤ c2 by omega)
    obtain ⟨q, rfl⟩ := nat_of (show 0 ≤ c3 by omega)
    obtain ⟨c, rfl⟩ := nat_of (show 0 ≤ c4 by omega)
    simp only [Int.toNat_natCast] at ho ⊢
    have h0 : 1 ≤ l := by omega
    have hl : l ≤ 64 := by omega
    have r0 : 1 ≤ r := by omega
    have hr : r ≤ 6 := by omega
    have q0 : 1 ≤ q := by omega
    have hq : q ≤ 6 := by omega
    have n0 : 1 ≤ c := by omega
    have hc : c ≤ 6 := by omega
    rw [if_pos hW, if_pos hW, gfold_f k l c (by omega) h0 hl n0 hc sent hs ls, Option.bind_some]
    by_cases h1 : okFold l c sent = true
    · rw [foldR_ok h1, if_pos h1]
      simp only
      rw [if_pos trivial, gfold_f k l c (by omega) h0 hl n0 hc got hg lg, Option.bind_some]
      by_cases h2 : okFold l c got = true
      · rw [foldR_ok h2, if_pos h2]
        simp only
        obtain ⟨X, eX⟩ : ∃ X, X = foldF l sent c (sent.length / (l * c)) := ⟨_, rfl⟩
        obtain ⟨Y, eY⟩ : ∃ Y, Y = foldF l got c (got.length / (l * c)) := ⟨_, rfl⟩
        have hX : U64s X := by rw [eX]; exact foldF_u64 hl _ _ _
        have hY : U64s Y := by rw [eY]; exact foldF_u64 hl _ _ _
        rw [← eX, ← eY]
        have b1 : r * q ≤ 36 := Nat.le_trans (Nat.mul_le_mul hr hq) (by decide)
        have b2 : r * q * c ≤ 216 := Nat.le_trans (Nat.mul_le_mul b1 hc) (by decide)
        have b3 : r * q * c * xs.length ≤ 6480 := Nat.le_trans (Nat.mul_le_mul b2 hx.1) (by decide)
        rw [if_pos trivial, mulw r q (by omega), mulw (r * q) c (by omega), mulw (r * q * c) xs.length (by omega)]
        obtain ⟨k, rfl⟩ : ∃ p, k = p + 1 := ⟨k - 1, by omega⟩
        have hn := hx.1
        by_cases h3 : X.length = r * q * c * xs.length ∧ Y.length = r * q * c * xs.length
        · obtain ⟨h4, h5⟩ := h3
          rw [if_pos (show X.length = r * q * c * xs.length ∧ Y.length = r * q * c * xs.length from ⟨h4, h5⟩), if_pos (by omega), show ((Y.length : Int) != ((r * q * c * xs.length : Nat) : Int)) = false by rw [bne_eq_false_iff_eq]; omega]
          simp only [matrix_Finish.j0]
          rw [if_neg (by simp), if_pos (by omega), if_pos (by rw [Int.toNat_natCast]; omega)]
          have e : r * q * c * xs.length = xs.length * (r * q * c) := Nat.mul_comm _ _
          have := mfin_loop l r q c h0 hl r0 hr q0 hq n0 hc c0 hx ho hX hY (by omega) (by omega) xs.length k 0 (by omega) (by omega)
          simpa [finP] using this
        · rw [if_neg h3]
          by_cases h4 : X.length = r * q * c * xs.length
          · rw [if_pos (by omega), show ((Y.length : Int) != ((r * q * c * xs.length : Nat) : Int)) = true by rw [bne_iff_ne]; omega]
            simp only [matrix_Finish.j0]
            rw [if_pos trivial]
          · rw [if_neg (by omega)]
            simp only [matrix_Finish.j0]
            rw [if_pos trivial]
      · rw [foldR_no h2, if_neg h2]
        simp only
        rw [if_neg (by decide)]
    · rw [foldR_no h1, if_neg h1]
      simp only
      rw [if_neg (by decide)]
  · rw [if_neg hW, if_neg hW]
theorem mfin_r (k : Nat) (hk : 30000 ≤ k) (c0 c1 c2 c3 c4 : Int) (xs : List S26) (hx : Few xs) (sent got : List Int) (hs : U64s sent) (hg : U64s got) (ls : sent.length ≤ 3000) (lg : got.length ≤ 3000) :
    trefoilref22_Finish.f k c0 c1 c2 c3 c4 2 xs sent got = some (finR (mwrong c0 c1 c2 c3 c4 xs) c1.toNat c2.toNat c3.toNat c4.toNat xs sent got) := by
  refine rfinish_f k hk 2 c0 c1 c2 c3 c4 _ c1.toNat c2.toNat c3.toNat c4.toNat xs hx sent got hs hg ls lg (mwrong_r k (by omega) c0 c1 c2 c3 c4 xs hx) (fun hW => ?_)
  obtain ⟨hck, ho⟩ := wrong_all hW
  obtain ⟨hcz, h1⟩ := mchk_zero hck
  obtain ⟨b1, b2, _, _⟩ := chk_bits hcz
  obtain ⟨d1, d2, d3, d4, d5, d6⟩ := chk_sides hcz h1
  refine ⟨by omega, ?_, by omega, by omega, by omega, by omega, by omega, by omega, by omega, by omega, ho⟩
  unfold trefoilref22_Sides.f
  rw [if_pos (by omega), Int.toNat_of_nonneg (by omega), Int.toNat_of_nonneg (by omega), Int.toNat_of_nonneg (by omega)]
end Go.Proofs.Ytcmaidpoolcelaa.Lem
