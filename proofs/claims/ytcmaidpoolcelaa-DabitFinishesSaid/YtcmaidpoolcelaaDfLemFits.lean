/- Which shares are of a class: the program's check and the document's come to the same. -/
import Derived.Test.YtcmaidpoolcelaaDfPx0
import Derived.Test.YtcmaidpoolcelaaDfK0
import Derived.Test.YtcmaidpoolcelaaDfLemShape
namespace Go.Proofs.Ytcmaidpoolcelaa.Lem
open Go.RowKit Go.Proofs.Ytcmaidpoolcelaa.P Go.Proofs.Ytcmaidpoolcelaa.Num Go.Proofs.YtcmaidpoolcelaaW.PrintWords Go.Proofs.YtcmaidpoolcelaaW.PrintMore
set_option linter.unusedVariables false

/-- every number is one of 64 bits -/
def U64s (l : List Int) : Prop := ∀ x ∈ l, 0 ≤ x ∧ x < 18446744073709551616

def lows (w : Nat) (l : List Int) : Bool := l.all fun x => decide (x < ((2 ^ w : Nat) : Int))
def fit (n : Int) (w : Int) (l : List Int) : Bool := decide ((l.length : Int) = n) && lows w.toNat l

theorem rd_drop (l : List Int) (i : Nat) (h : i < l.length) : l.drop i = rd l (i : Int) :: l.drop (i + 1) := by
  rw [List.drop_eq_getElem_cons h]
  congr 1
  simp [rd, h]
theorem rd_mem (l : List Int) (i : Nat) (h : i < l.length) : rd l (i : Int) ∈ l := by
  simp only [rd, Int.toNat_natCast]
  rw [List.getD_eq_getElem?_getD, List.getElem?_eq_getElem h]
  exact List.getElem_mem h
theorem lows_drop (w : Nat) (l : List Int) (i : Nat) (h : i < l.length) : lows w (l.drop i) = (decide (rd l (i : Int) < ((2 ^ w : Nat) : Int)) && lows w (l.drop (i + 1))) := by
  rw [rd_drop l i h]; rfl
theorem shr_zero (x : Int) (w : Nat) (h0 : 0 ≤ x) (hw : w ≤ 64) : shr .u64 x (w : Int) = 0 ↔ x < ((2 ^ w : Nat) : Int) := by
  obtain ⟨m, rfl⟩ := nat_of h0
  rw [shr_nat m w hw]
  have hp := pow_pos w
  constructor
  · intro h
    have h1 : m / 2 ^ w = 0 := by omega
    have := (Nat.div_eq_zero_iff_lt hp).1 h1
    omega
  · intro h
    have h1 : m / 2 ^ w = 0 := (Nat.div_eq_zero_iff_lt hp).2 (by omega)
    rw [h1]; rfl

theorem fits_loop (l : List Int) (hl : U64s l) (hs : l.length ≤ 1000) (w : Nat) (hw0 : 1 ≤ w) (hw : w ≤ 64) (d : Nat) : ∀ (k i : Nat), i + d = l.length → d < k →
    shape_fits.l0 k (w : Int) l (l.length : Int) (i : Int) = some (lows w (l.drop i)) := by
  induction d with
  | zero =>
    intro k i hi hk
    obtain ⟨k, rfl⟩ : ∃ q, k = q + 1 := ⟨k - 1, by omega⟩
    simp only [shape_fits.l0]
    rw [if_neg (by omega), List.drop_eq_nil_of_le (by omega)]; rfl
  | succ d ih =>
    intro k i hi hk
    obtain ⟨k, rfl⟩ : ∃ q, k = q + 1 := ⟨k - 1, by omega⟩
    have hil : i < l.length := by omega
    have e5 : wrap64 ((i : Int) + 1) = ((i + 1 : Nat) : Int) := by rw [w64 (by omega) (by omega)]; omega
    have nx := ih k (i + 1) (by omega) (by omega)
    have hx := (hl _ (rd_mem l i hil))
    simp only [shape_fits.l0]
    rw [if_pos (by omega), if_pos (by omega), if_pos (by omega), e5, nx, lows_drop w l i hil]
    by_cases h64 : (w : Int) < 64
    · rw [if_pos h64, wu64_nat' (n := w) (by omega), if_pos (by omega)]
      by_cases hz : shr .u64 (rd l (i : Int)) (w : Int) = 0
      · rw [if_pos hz, decide_eq_true ((shr_zero _ w hx.1 hw).1 hz), Bool.true_and]
      · rw [if_neg hz, decide_eq_false (fun h => hz ((shr_zero _ w hx.1 hw).2 h)), Bool.false_and]
    · rw [if_neg h64]
      obtain rfl : w = 64 := by omega
      have e : rd l (i : Int) < ((2 ^ 64 : Nat) : Int) := hx.2
      rw [decide_eq_true e, Bool.true_and]

theorem fits_f (k : Nat) (n w : Int) (l : List Int) (hl : U64s l) (hs : l.length ≤ 1000) (hk : l.length < k) (hw0 : 1 ≤ w) (hw : w ≤ 64) : shape_fits.f k n w l = some (fit n w l) := by
  obtain ⟨m, rfl⟩ := nat_of (show 0 ≤ w by omega)
  unfold shape_fits.f fit
  by_cases h : (l.length : Int) = n
  · rw [if_pos h, decide_eq_true h, Bool.true_and, Int.toNat_natCast]
    have := fits_loop l hl hs m (by omega) (by omega) l.length k 0 (by omega) hk
    rw [List.drop_zero] at this
    exact this
  · rw [if_neg h, decide_eq_false h, Bool.false_and]

/-- how many numbers the parts have, and of how many bits -/
def sz0 (c0 c2 c3 : Int) : Int := if c0 = 2 then c2 * c3 else 1
def sz1 (c0 c3 c4 : Int) : Int := if c0 = 2 then c3 * c4 else 1
def sz2 (c0 c2 c4 : Int) : Int := if c0 = 2 then c2 * c4 else if c0 = 4 then 0 else 1
def wd0 (c0 c1 : Int) : Int := if c0 = 4 then 1 else c1
/-- is a share one of a class -/
def fitsOf (c0 c1 c2 c3 c4 : Int) (a b d : List Int) : Bool :=
  decide (chk c0 c1 c2 c3 c4 = 0) && (fit (sz0 c0 c2 c3) (wd0 c0 c1) a && (fit (sz1 c0 c3 c4) c1 b && fit (sz2 c0 c2 c4) c1 d))

theorem prod_small {a b : Int} (h0 : 1 ≤ a) (h1 : a ≤ 6) (h2 : 1 ≤ b) (h3 : b ≤ 6) : 1 ≤ a * b ∧ a * b ≤ 36 := by
  have ha : a = 1 ∨ a = 2 ∨ a = 3 ∨ a = 4 ∨ a = 5 ∨ a = 6 := by omega
  rcases ha with rfl | rfl | rfl | rfl | rfl | rfl <;> omega

theorem sizes_f (k : Nat) (hk : 10 ≤ k) (c0 c1 c2 c3 c4 : Int) (h : chk c0 c1 c2 c3 c4 = 0) : shape_Sizes.f k c0 c1 c2 c3 c4 = some (sz0 c0 c2 c3, sz1 c0 c3 c4, sz2 c0 c2 c4) := by
  unfold shape_Sizes.f sz0 sz1 sz2
  rw [check_f k hk, Option.bind_some, if_pos h]
  by_cases h2 : c0 = 2
  · obtain ⟨a, b, c, d, e, f⟩ := chk_sides h h2
    have p1 := prod_small a b c d
    have p2 := prod_small c d e f
    have p3 := prod_small a b e f
    rw [if_pos h2, if_pos h2, if_pos h2, if_pos h2, w64 (by omega) (by omega), w64 (by omega) (by omega), w64 (by omega) (by omega)]
  · rw [if_neg h2, if_neg h2, if_neg h2, if_neg h2]
    by_cases h4 : c0 = 4
    · rw [if_pos h4, if_pos h4]
    · rw [if_neg h4, if_neg h4]

theorem widths_f (k : Nat) (hk : 10 ≤ k) (c0 c1 c2 c3 c4 : Int) (h : chk c0 c1 c2 c3 c4 = 0) : shape_Widths.f k c0 c1 c2 c3 c4 = some (wd0 c0 c1, c1, c1) := by
  unfold shape_Widths.f wd0
  rw [check_f k hk, Option.bind_some, if_pos h]
  by_cases h4 : c0 = 4
  · rw [if_pos h4, if_pos h4]
  · rw [if_neg h4, if_neg h4]

theorem wd0_in {c0 c1 : Int} (h0 : 1 ≤ c1) (h1 : c1 ≤ 64) : 1 ≤ wd0 c0 c1 ∧ wd0 c0 c1 ≤ 64 := by
  unfold wd0
  by_cases h4 : c0 = 4
  · rw [if_pos h4]; omega
  · rw [if_neg h4]; omega

theorem shareFits_f (k : Nat) (hk : 1100 ≤ k) (c0 c1 c2 c3 c4 : Int) (a b d : List Int) (ha : U64s a) (hb : U64s b) (hd : U64s d) (la : a.length ≤ 1000) (lb : b.length ≤ 1000) (ld : d.length ≤ 1000) :
    shape_Fits.f k c0 c1 c2 c3 c4 a b d = some (fitsOf c0 c1 c2 c3 c4 a b d) := by
  unfold shape_Fits.f fitsOf
  rw [check_f k (by omega), Option.bind_some]
  by_cases h : chk c0 c1 c2 c3 c4 = 0
  · obtain ⟨h1, h2, _, _⟩ := chk_bits h
    have hw := wd0_in (c0 := c0) h1 h2
    rw [if_pos h, decide_eq_true h, Bool.true_and, sizes_f k (by omega) _ _ _ _ _ h, Option.bind_some, widths_f k (by omega) _ _ _ _ _ h, Option.bind_some]
    simp only
    rw [fits_f k _ _ a ha la (by omega) hw.1 hw.2, Option.bind_some]
    cases fit (sz0 c0 c2 c3) (wd0 c0 c1) a with
    | false => simp
    | true =>
      rw [if_pos rfl, fits_f k _ _ b hb lb (by omega) h1 h2, Option.bind_some, Bool.true_and]
      cases fit (sz1 c0 c3 c4) c1 b with
      | false => simp
      | true =>
        rw [if_pos rfl, fits_f k _ _ d hd ld (by omega) h1 h2, Option.bind_some, Bool.true_and]
  · rw [if_neg h, decide_eq_false h, Bool.false_and]

end Go.Proofs.Ytcmaidpoolcelaa.Lem
