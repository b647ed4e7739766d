/- Shares of products: what is wrong with them, what is chosen and what is spread; the program and the document do the same. -/
import Derived.Test.YtcmaidpoolcelaaMfPx0
import Derived.Test.YtcmaidpoolcelaaMfK3
import Derived.Test.YtcmaidpoolcelaaMfK7
import Derived.Test.YtcmaidpoolcelaaMfK8
import Derived.Test.YtcmaidpoolcelaaMfK11
import Derived.Test.YtcmaidpoolcelaaMfLemSpread
namespace Go.Proofs.Ytcmaidpoolcelaa.Lem
open Go.RowKit Go.Proofs.Ytcmaidpoolcelaa.P Go.Proofs.Ytcmaidpoolcelaa.Num Go.Proofs.YtcmaidpoolcelaaW.PrintWords Go.Proofs.YtcmaidpoolcelaaW.PrintMore
set_option linter.unusedVariables false

/-- few shares, all short -/
def Few (xs : List S26) : Prop := xs.length ≤ 30 ∧ ∀ s ∈ xs, U64s s.f0 ∧ U64s s.f1 ∧ U64s s.f2 ∧ s.f0.length ≤ 60 ∧ s.f1.length ≤ 60 ∧ s.f2.length ≤ 60
theorem sh_at (xs : List S26) (i : Nat) (h : i < xs.length) : rd_T26 xs (i : Int) = xs[i] := by
  simp only [rd_T26, Int.toNat_natCast]
  rw [List.getD_eq_getElem?_getD, List.getElem?_eq_getElem h]; rfl
theorem sh_mem (xs : List S26) (i : Nat) (h : i < xs.length) : rd_T26 xs (i : Int) ∈ xs := by rw [sh_at xs i h]; exact List.getElem_mem h
theorem sh_drop (p : S26 → Bool) (xs : List S26) (i : Nat) (h : i < xs.length) : (xs.drop i).all p = (p (rd_T26 xs (i : Int)) && (xs.drop (i + 1)).all p) := by
  rw [List.drop_eq_getElem_cons h, sh_at xs i h]; rfl
theorem w_succ (i : Nat) (h : i ≤ 100000) : wrap64 ((i : Int) + 1) = ((i + 1 : Nat) : Int) := by rw [w64 (by omega) (by omega)]; omega
theorem mul_w (a b : Nat) (h : a * b ≤ 6 * 6) : wrap64 ((a : Int) * (b : Int)) = ((a * b : Nat) : Int) := by
  rw [← Int.natCast_mul]
  exact w64 (by omega) (by omega)
def okSh (l r q c : Nat) (s : S26) : Bool := decide (s.f0.length = r * q) && (decide (s.f1.length = q * c) && (lows l s.f0 && lows l s.f1))
theorem okSh_iff {l r q c : Nat} {s : S26} (h : okSh l r q c s = true) : s.f0.length = r * q ∧ s.f1.length = q * c ∧ lows l s.f0 = true ∧ lows l s.f1 = true := by
  unfold okSh at h
  rw [Bool.and_eq_true, Bool.and_eq_true, Bool.and_eq_true, decide_eq_true_eq, decide_eq_true_eq] at h
  exact h

def mchk (c0 c1 c2 c3 c4 n : Int) : Int := if chk c0 c1 c2 c3 c4 = 0 then (if c0 = 2 then (if n < 1 then 2 else (if n > 24 then 2 else (if wrap64 (wrap64 (wrap64 (n * c2) * c3) * c1) > 4096 then 2 else 0))) else 15) else chk c0 c1 c2 c3 c4
theorem mchk_f (k : Nat) (hk : 10 ≤ k) (c0 c1 c2 c3 c4 n : Int) : matrix_check.f k c0 c1 c2 c3 c4 n = some (mchk c0 c1 c2 c3 c4 n) := by
  unfold matrix_check.f mchk
  rw [check_f k hk, Option.bind_some]
  repeat' split
  all_goals rfl
theorem mchk_r (k : Nat) (hk : 10 ≤ k) (c0 c1 c2 c3 c4 n : Int) : trefoilref22_Check.f k c0 c1 c2 c3 c4 2 n = some (mchk c0 c1 c2 c3 c4 n) := by
  unfold trefoilref22_Check.f mchk
  rw [check_r k hk, Option.bind_some, Option.bind_some]
  by_cases h : chk c0 c1 c2 c3 c4 = 0
  · rw [if_pos h, if_pos h]
    by_cases h1 : c0 = 2
    · rw [if_pos h1, if_pos h1]
      unfold trefoilref22_Sides.f
      rw [if_pos h1, Option.bind_some]
      repeat' split
      all_goals rfl
    · rw [if_neg h1, if_neg h1]
  · rw [if_neg h, if_neg h]
theorem mchk_zero {c0 c1 c2 c3 c4 n : Int} (h : mchk c0 c1 c2 c3 c4 n = 0) : chk c0 c1 c2 c3 c4 = 0 ∧ c0 = 2 := by
  unfold mchk at h
  by_cases h1 : chk c0 c1 c2 c3 c4 = 0
  · rw [if_pos h1] at h
    by_cases h2 : c0 = 2
    · exact ⟨h1, h2⟩
    · rw [if_neg h2] at h; omega
  · rw [if_neg h1] at h; exact absurd h h1

/-- what is wrong -/
def wrongOf (ck : Int) (l r q c : Nat) (xs : List S26) : Int := if ck = 0 then (if xs.all (okSh l r q c) = true then 0 else 11) else ck

theorem rw_loop (l r q c : Nat) (hl : l ≤ 64) (hr : r ≤ 6) (hq : q ≤ 6) (hc : c ≤ 6) (c0 c2 c3 c4 : Int) (xs : List S26) (hx : Few xs) (d : Nat) : ∀ (k i : Nat), i + d = xs.length → d + 10300 < k →
    trefoilref22_Wrong.l0 k xs (r : Int) (q : Int) (c : Int) (i : Int) c0 (l : Int) c2 c3 c4 = some (if (xs.drop i).all (okSh l r q c) = true then 0 else 11) := by
  have hrq : r * q ≤ 6 * 6 := Nat.mul_le_mul hr hq
  have hqc : q * c ≤ 6 * 6 := Nat.mul_le_mul hq hc
  obtain ⟨hx0, hx1⟩ := hx
  induction d with
  | zero =>
    intro k i hi hk
    obtain ⟨k, rfl⟩ : ∃ q, k = q + 1 := ⟨k - 1, by omega⟩
    simp only [trefoilref22_Wrong.l0]
    rw [if_neg (by omega), List.drop_eq_nil_of_le (by omega)]; rfl
  | succ d ih =>
    intro k i hi hk
    obtain ⟨k, rfl⟩ : ∃ q, k = q + 1 := ⟨k - 1, by omega⟩
    have hil : i < xs.length := by omega
    have nx := ih k (i + 1) (by omega) (by omega)
    have t1 : (i : Int) < (xs.length : Int) := by omega
    have t2 : (0 : Int) ≤ (i : Int) := by omega
    have hk2 : 10200 ≤ k := by omega
    have e5 := w_succ i (by omega)
    obtain ⟨u0, u1, u2, l0, l1, l2⟩ := hx1 _ (sh_mem xs i hil)
    simp only [trefoilref22_Wrong.l0]
    rw [if_pos t1, if_pos t2, sh_drop _ xs i hil, mul_w r q hrq, mul_w q c hqc, fits19_f k l hl _ u0 (Nat.le_trans l0 (by decide)) hk2, fits19_f k l hl _ u1 (Nat.le_trans l1 (by decide)) hk2, Option.bind_some, Option.bind_some, e5, nx]
    unfold okSh
    by_cases h1 : (rd_T26 xs (i : Int)).f0.length = r * q
    · rw [if_pos (Int.ofNat_inj.2 h1), decide_eq_true h1, Bool.true_and]
      by_cases h2 : (rd_T26 xs (i : Int)).f1.length = q * c
      · rw [if_pos (Int.ofNat_inj.2 h2), decide_eq_true h2, Bool.true_and]
        by_cases h3 : lows l (rd_T26 xs (i : Int)).f0 = true
        · rw [if_pos h3, h3, Bool.true_and]
          by_cases h4 : lows l (rd_T26 xs (i : Int)).f1 = true
          · rw [if_pos h4, h4, Bool.true_and]
          · rw [if_neg h4, Bool.eq_false_iff.2 h4, Bool.false_and, if_neg (by simp)]
        · rw [if_neg h3, Bool.eq_false_iff.2 h3, Bool.false_and, Bool.false_and, if_neg (by simp)]
      · rw [if_neg (fun e => h2 (Int.ofNat_inj.1 e)), decide_eq_false h2, Bool.false_and, Bool.false_and, if_neg (by simp)]
    · rw [if_neg (fun e => h1 (Int.ofNat_inj.1 e)), decide_eq_false h1, Bool.false_and, Bool.false_and, if_neg (by simp)]

def mwrong (c0 c1 c2 c3 c4 : Int) (xs : List S26) : Int := wrongOf (mchk c0 c1 c2 c3 c4 (xs.length : Int)) c1.toNat c2.toNat c3.toNat c4.toNat xs

theorem mwrong_r (k : Nat) (hk : 20000 ≤ k) (c0 c1 c2 c3 c4 : Int) (xs : List S26) (hx : Few xs) : trefoilref22_Wrong.f k c0 c1 c2 c3 c4 2 xs = some (mwrong c0 c1 c2 c3 c4 xs) := by
  unfold trefoilref22_Wrong.f mwrong wrongOf
  rw [mchk_r k (by omega), Option.bind_some, Option.bind_some]
  by_cases h : mchk c0 c1 c2 c3 c4 (xs.length : Int) = 0
  · obtain ⟨hc, h1⟩ := mchk_zero h
    obtain ⟨b1, b2, _, _⟩ := chk_bits hc
    obtain ⟨s1, s2, s3, s4, s5, s6⟩ := chk_sides hc h1
    rw [if_pos h, if_pos h]
    unfold trefoilref22_Sides.f
    rw [if_pos h1, Option.bind_some]
    obtain ⟨l, rfl⟩ := nat_of (show 0 ≤ c1 by omega)
    obtain ⟨r, rfl⟩ := nat_of (show 0 ≤ c2 by omega)
    obtain ⟨q, rfl⟩ := nat_of (show 0 ≤ c3 by omega)
    obtain ⟨c, rfl⟩ := nat_of (show 0 ≤ c4 by omega)
    simp only [Int.toNat_natCast]
    have hx' := hx.1
    have := rw_loop l r q c (by omega) (by omega) (by omega) (by omega) c0 r q c xs hx xs.length k 0 (by omega) (by omega)
    rw [List.drop_zero] at this
    exact this
  · rw [if_neg h, if_neg h]

/-- the program's parts of single products -/
theorem one_of {a : List Int} (h : a.length = 1) : [rd a 0] = a := by
  match a, h with
  | [x], _ => rfl
/-- and of products of matrices -/
theorem mw_loop (l r q c : Nat) (h0 : 1 ≤ l) (hl : l ≤ 64) (hr : r ≤ 6) (hq : q ≤ 6) (hc : c ≤ 6) (c0 : Int) (xs : List S26) (hx : Few xs) (d : Nat) : ∀ (k i : Nat), i + d = xs.length → d < k →
    matrix_wrong.l0 k xs (xs.length : Int) (i : Int) c0 (l : Int) (r : Int) (q : Int) (c : Int) = some (if (xs.drop i).all (okSh l r q c) = true then 0 else 11) := by
  have hrq : r * q ≤ 6 * 6 := Nat.mul_le_mul hr hq
  have hqc : q * c ≤ 6 * 6 := Nat.mul_le_mul hq hc
  obtain ⟨hx0, hx1⟩ := hx
  induction d with
  | zero =>
    intro k i hi hk
    obtain ⟨k, rfl⟩ : ∃ q, k = q + 1 := ⟨k - 1, by omega⟩
    simp only [matrix_wrong.l0]
    rw [if_neg (by omega), List.drop_eq_nil_of_le (by omega)]; rfl
  | succ d ih =>
    intro k i hi hk
    obtain ⟨k, rfl⟩ : ∃ q, k = q + 1 := ⟨k - 1, by omega⟩
    have hil : i < xs.length := by omega
    have nx := ih k (i + 1) (by omega) (by omega)
    have t1 : (i : Int) < (xs.length : Int) := by omega
    have t2 : (0 : Int) ≤ (i : Int) := by omega
    have e5 := w_succ i (by omega)
    obtain ⟨u0, u1, u2, l0, l1, l2⟩ := hx1 _ (sh_mem xs i hil)
    simp only [matrix_wrong.l0]
    rw [if_pos t1, if_pos t2, if_pos t1, sh_drop _ xs i hil, mul_w r q hrq, mul_w q c hqc, ringFits_f l h0 hl _ u0, ringFits_f l h0 hl _ u1, Option.bind_some, Option.bind_some, e5, nx]
    unfold okSh
    by_cases h1 : (rd_T26 xs (i : Int)).f0.length = r * q
    · rw [if_pos (Int.ofNat_inj.2 h1), decide_eq_true h1, Bool.true_and]
      by_cases h2 : (rd_T26 xs (i : Int)).f1.length = q * c
      · rw [if_pos (Int.ofNat_inj.2 h2), decide_eq_true h2, Bool.true_and]
        by_cases h3 : lows l (rd_T26 xs (i : Int)).f0 = true
        · rw [if_pos h3, h3, Bool.true_and]
          by_cases h4 : lows l (rd_T26 xs (i : Int)).f1 = true
          · rw [if_pos h4, h4, Bool.true_and]
          · rw [if_neg h4, Bool.eq_false_iff.2 h4, Bool.false_and, if_neg (by simp)]
        · rw [if_neg h3, Bool.eq_false_iff.2 h3, Bool.false_and, Bool.false_and, if_neg (by simp)]
      · rw [if_neg (fun e => h2 (Int.ofNat_inj.1 e)), decide_eq_false h2, Bool.false_and, Bool.false_and, if_neg (by simp)]
    · rw [if_neg (fun e => h1 (Int.ofNat_inj.1 e)), decide_eq_false h1, Bool.false_and, Bool.false_and, if_neg (by simp)]

theorem mwrong_f (k : Nat) (hk : 20000 ≤ k) (c0 c1 c2 c3 c4 : Int) (xs : List S26) (hx : Few xs) : matrix_wrong.f k c0 c1 c2 c3 c4 xs = some (mwrong c0 c1 c2 c3 c4 xs) := by
  unfold matrix_wrong.f mwrong wrongOf
  rw [mchk_f k (by omega), Option.bind_some]
  by_cases h : mchk c0 c1 c2 c3 c4 (xs.length : Int) = 0
  · obtain ⟨hc, h1⟩ := mchk_zero h
    obtain ⟨b1, b2, _, _⟩ := chk_bits hc
    obtain ⟨s1, s2, s3, s4, s5, s6⟩ := chk_sides hc h1
    rw [if_pos h, if_pos h]
    obtain ⟨l, rfl⟩ := nat_of (show 0 ≤ c1 by omega)
    obtain ⟨r, rfl⟩ := nat_of (show 0 ≤ c2 by omega)
    obtain ⟨q, rfl⟩ := nat_of (show 0 ≤ c3 by omega)
    obtain ⟨c, rfl⟩ := nat_of (show 0 ≤ c4 by omega)
    simp only [Int.toNat_natCast]
    have hx' := hx.1
    have := mw_loop l r q c (by omega) (by omega) (by omega) (by omega) (by omega) c0 xs hx xs.length k 0 (by omega) (by omega)
    rw [List.drop_zero] at this
    exact this
  · rw [if_neg h, if_neg h]
end Go.Proofs.Ytcmaidpoolcelaa.Lem
