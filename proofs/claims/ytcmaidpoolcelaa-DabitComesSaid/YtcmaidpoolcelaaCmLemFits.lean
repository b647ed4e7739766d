/- Which shares are of a class: the program's check and the document's come to the same. -/
import Derived.Test.YtcmaidpoolcelaaCmPx0
import Derived.Test.YtcmaidpoolcelaaCmK0
import Derived.Test.YtcmaidpoolcelaaCmK2
import Derived.Test.YtcmaidpoolcelaaCmK3
import Derived.Test.YtcmaidpoolcelaaCmLemShape
namespace Go.Proofs.Ytcmaidpoolcelaa.Lem
open Go.RowKit Go.Proofs.Ytcmaidpoolcelaa.P Go.Proofs.Ytcmaidpoolcelaa.Num Go.Proofs.YtcmaidpoolcelaaW.PrintWords Go.Proofs.YtcmaidpoolcelaaW.PrintMore
set_option linter.unusedVariables false

/-- every number is one of 64 bits -/
def U64s (l : List Int) : Prop := ∀ x ∈ l, 0 ≤ x ∧ x < 18446744073709551616

def lows (w : Nat) (l : List Int) : Bool := l.all fun x => decide (x < ((2 ^ w : Nat) : Int))
def fit (n : Int) (w : Int) (l : List Int) : Bool := decide ((l.length : Int) = n) && lows w.toNat l

theorem rd_drop (l : List Int) (i : Nat) (h : i < l.length) : l.drop i = rd l (i : Int) :: l.drop (i + 1) := by
  rw [List.drop_eq_getElem_cons h]
  congr 1
  simp [rd, h]
theorem rd_mem (l : List Int) (i : Nat) (h : i < l.length) : rd l (i : Int) ∈ l := by
  simp only [rd, Int.toNat_natCast]
  rw [List.getD_eq_getElem?_getD, List.getElem?_eq_getElem h]
  exact List.getElem_mem h
theorem lows_drop (w : Nat) (l : List Int) (i : Nat) (h : i < l.length) : lows w (l.drop i) = (decide (rd l (i : Int) < ((2 ^ w : Nat) : Int)) && lows w (l.drop (i + 1))) := by
  rw [rd_drop l i h]; rfl
theorem shr_zero (x : Int) (w : Nat) (h0 : 0 ≤ x) (hw : w ≤ 64) : shr .u64 x (w : Int) = 0 ↔ x < ((2 ^ w : Nat) : Int) := by
  obtain ⟨m, rfl⟩ := nat_of h0
  rw [shr_nat m w hw]
  have hp := pow_pos w
  constructor
  · intro h
    have h1 : m / 2 ^ w = 0 := by omega
    have := (Nat.div_eq_zero_iff_lt hp).1 h1
    omega
  · intro h
    have h1 : m / 2 ^ w = 0 := (Nat.div_eq_zero_iff_lt hp).2 (by omega)
    rw [h1]; rfl

theorem fits_loop (l : List Int) (hl : U64s l) (hs : l.length ≤ 1000) (w : Nat) (hw0 : 1 ≤ w) (hw : w ≤ 64) (d : Nat) : ∀ (k i : Nat), i + d = l.length → d < k →
    shape_fits.l0 k (w : Int) l (l.length : Int) (i : Int) = some (lows w (l.drop i)) := by
  induction d with
  | zero =>
    intro k i hi hk
    obtain ⟨k, rfl⟩ : ∃ q, k = q + 1 := ⟨k - 1, by omega⟩
    simp only [shape_fits.l0]
    rw [if_neg (by omega), List.drop_eq_nil_of_le (by omega)]; rfl
  | succ d ih =>
    intro k i hi hk
    obtain ⟨k, rfl⟩ : ∃ q, k = q + 1 := ⟨k - 1, by omega⟩
    have hil : i < l.length := by omega
    have e5 : wrap64 ((i : Int) + 1) = ((i + 1 : Nat) : Int) := by rw [w64 (by omega) (by omega)]; omega
    have nx := ih k (i + 1) (by omega) (by omega)
    have hx := (hl _ (rd_mem l i hil))
    simp only [shape_fits.l0]
    rw [if_pos (by omega), if_pos (by omega), if_pos (by omega), e5, nx, lows_drop w l i hil]
    by_cases h64 : (w : Int) < 64
    · rw [if_pos h64, wu64_nat' (n := w) (by omega), if_pos (by omega)]
      by_cases hz : shr .u64 (rd l (i : Int)) (w : Int) = 0
      · rw [if_pos hz, decide_eq_true ((shr_zero _ w hx.1 hw).1 hz), Bool.true_and]
      · rw [if_neg hz, decide_eq_false (fun h => hz ((shr_zero _ w hx.1 hw).2 h)), Bool.false_and]
    · rw [if_neg h64]
      obtain rfl : w = 64 := by omega
      have e : rd l (i : Int) < ((2 ^ 64 : Nat) : Int) := hx.2
      rw [decide_eq_true e, Bool.true_and]

theorem fits_f (k : Nat) (n w : Int) (l : List Int) (hl : U64s l) (hs : l.length ≤ 1000) (hk : l.length < k) (hw0 : 1 ≤ w) (hw : w ≤ 64) : shape_fits.f k n w l = some (fit n w l) := by
  obtain ⟨m, rfl⟩ := nat_of (show 0 ≤ w by omega)
  unfold shape_fits.f fit
  by_cases h : (l.length : Int) = n
  · rw [if_pos h, decide_eq_true h, Bool.true_and, Int.toNat_natCast]
    have := fits_loop l hl hs m (by omega) (by omega) l.length k 0 (by omega) hk
    rw [List.drop_zero] at this
    exact this
  · rw [if_neg h, decide_eq_false h, Bool.false_and]

/-- how many numbers the parts have, and of how many bits -/
def sz0 (c0 c2 c3 : Int) : Int := if c0 = 2 then c2 * c3 else 1
def sz1 (c0 c3 c4 : Int) : Int := if c0 = 2 then c3 * c4 else 1
def sz2 (c0 c2 c4 : Int) : Int := if c0 = 2 then c2 * c4 else if c0 = 4 then 0 else 1
def wd0 (c0 c1 : Int) : Int := if c0 = 4 then 1 else c1
/-- is a share one of a class -/
def fitsOf (c0 c1 c2 c3 c4 : Int) (a b d : List Int) : Bool :=
  decide (chk c0 c1 c2 c3 c4 = 0) && (fit (sz0 c0 c2 c3) (wd0 c0 c1) a && (fit (sz1 c0 c3 c4) c1 b && fit (sz2 c0 c2 c4) c1 d))

theorem prod_small {a b : Int} (h0 : 1 ≤ a) (h1 : a ≤ 6) (h2 : 1 ≤ b) (h3 : b ≤ 6) : 1 ≤ a * b ∧ a * b ≤ 36 := by
  have ha : a = 1 ∨ a = 2 ∨ a = 3 ∨ a = 4 ∨ a = 5 ∨ a = 6 := by omega
  rcases ha with rfl | rfl | rfl | rfl | rfl | rfl <;> omega

theorem sizes_f (k : Nat) (hk : 10 ≤ k) (c0 c1 c2 c3 c4 : Int) (h : chk c0 c1 c2 c3 c4 = 0) : shape_Sizes.f k c0 c1 c2 c3 c4 = some (sz0 c0 c2 c3, sz1 c0 c3 c4, sz2 c0 c2 c4) := by
  unfold shape_Sizes.f sz0 sz1 sz2
  rw [check_f k hk, Option.bind_some, if_pos h]
  by_cases h2 : c0 = 2
  · obtain ⟨a, b, c, d, e, f⟩ := chk_sides h h2
    have p1 := prod_small a b c d
    have p2 := prod_small c d e f
    have p3 := prod_small a b e f
    rw [if_pos h2, if_pos h2, if_pos h2, if_pos h2, w64 (by omega) (by omega), w64 (by omega) (by omega), w64 (by omega) (by omega)]
  · rw [if_neg h2, if_neg h2, if_neg h2, if_neg h2]
    by_cases h4 : c0 = 4
    · rw [if_pos h4, if_pos h4]
    · rw [if_neg h4, if_neg h4]

theorem widths_f (k : Nat) (hk : 10 ≤ k) (c0 c1 c2 c3 c4 : Int) (h : chk c0 c1 c2 c3 c4 = 0) : shape_Widths.f k c0 c1 c2 c3 c4 = some (wd0 c0 c1, c1, c1) := by
  unfold shape_Widths.f wd0
  rw [check_f k hk, Option.bind_some, if_pos h]
  by_cases h4 : c0 = 4
  · rw [if_pos h4, if_pos h4]
  · rw [if_neg h4, if_neg h4]

theorem wd0_in {c0 c1 : Int} (h0 : 1 ≤ c1) (h1 : c1 ≤ 64) : 1 ≤ wd0 c0 c1 ∧ wd0 c0 c1 ≤ 64 := by
  unfold wd0
  by_cases h4 : c0 = 4
  · rw [if_pos h4]; omega
  · rw [if_neg h4]; omega

theorem shareFits_f (k : Nat) (hk : 1100 ≤ k) (c0 c1 c2 c3 c4 : Int) (a b d : List Int) (ha : U64s a) (hb : U64s b) (hd : U64s d) (la : a.length ≤ 1000) (lb : b.length ≤ 1000) (ld : d.length ≤ 1000) :
    shape_Fits.f k c0 c1 c2 c3 c4 a b d = some (fitsOf c0 c1 c2 c3 c4 a b d) := by
  unfold shape_Fits.f fitsOf
  rw [check_f k (by omega), Option.bind_some]
  by_cases h : chk c0 c1 c2 c3 c4 = 0
  · obtain ⟨h1, h2, _, _⟩ := chk_bits h
    have hw := wd0_in (c0 := c0) h1 h2
    rw [if_pos h, decide_eq_true h, Bool.true_and, sizes_f k (by omega) _ _ _ _ _ h, Option.bind_some, widths_f k (by omega) _ _ _ _ _ h, Option.bind_some]
    simp only
    rw [fits_f k _ _ a ha la (by omega) hw.1 hw.2, Option.bind_some]
    cases fit (sz0 c0 c2 c3) (wd0 c0 c1) a with
    | false => simp
    | true =>
      rw [if_pos rfl, fits_f k _ _ b hb lb (by omega) h1 h2, Option.bind_some, Bool.true_and]
      cases fit (sz1 c0 c3 c4) c1 b with
      | false => simp
      | true =>
        rw [if_pos rfl, fits_f k _ _ d hd ld (by omega) h1 h2, Option.bind_some, Bool.true_and]
  · rw [if_neg h, decide_eq_false h, Bool.false_and]

theorem sizes_r (k : Nat) (hk : 10 ≤ k) (c0 c1 c2 c3 c4 : Int) (h : chk c0 c1 c2 c3 c4 = 0) : trefoilref09_Sizes.f k c0 c1 c2 c3 c4 = some [sz0 c0 c2 c3, sz1 c0 c3 c4, sz2 c0 c2 c4] := by
  unfold trefoilref09_Sizes.f sz0 sz1 sz2
  rw [check_r k hk, Option.bind_some, if_pos h]
  by_cases h2 : c0 = 2
  · obtain ⟨a, b, c, d, e, f⟩ := chk_sides h h2
    have p1 := prod_small a b c d
    have p2 := prod_small c d e f
    have p3 := prod_small a b e f
    rw [if_pos h2, if_pos h2, if_pos h2, if_pos h2, w64 (by omega) (by omega), w64 (by omega) (by omega), w64 (by omega) (by omega)]
  · rw [if_neg h2, if_neg h2, if_neg h2, if_neg h2]
    by_cases h4 : c0 = 4
    · rw [if_pos h4, if_pos h4]
    · rw [if_neg h4, if_neg h4]

theorem widths_r (k : Nat) (hk : 10 ≤ k) (c0 c1 c2 c3 c4 : Int) (h : chk c0 c1 c2 c3 c4 = 0) : trefoilref09_Widths.f k c0 c1 c2 c3 c4 = some [wd0 c0 c1, c1, c1] := by
  unfold trefoilref09_Widths.f wd0
  rw [check_r k hk, Option.bind_some, if_pos h]
  by_cases h4 : c0 = 4
  · rw [if_pos h4, if_pos h4]
  · rw [if_neg h4, if_neg h4]

theorem ref_inner (ns ws : List Int) (ls : List (List Int)) (i : Nat) (p : List Int) (w : Nat) (hi : i < ls.length) (hi2 : i < ws.length) (h3 : ls.length ≤ 10)
    (ep : rd_L2 ls (i : Int) = p) (ew : rd ws (i : Int) = (w : Int)) (hl : U64s p) (hs : p.length ≤ 1000) (hw0 : 1 ≤ w) (hw : w ≤ 64) (d : Nat) : ∀ (k j : Nat), j + d = p.length →
    trefoilref09_Fits.l1 (k + d + 1) ns ws ls (i : Int) (j : Int) = if lows w (p.drop j) = true then trefoilref09_Fits.l0 k ns ws ls ((i + 1 : Nat) : Int) else some false := by
  have t1 : (0 : Int) ≤ (i : Int) := by omega
  have t2 : (i : Int) < (ls.length : Int) := by omega
  have t5 : (i : Int) < (ws.length : Int) := by omega
  have t6 : (0 : Int) ≤ ((w - 1 : Nat) : Int) := by omega
  have t7 : w - 1 ≤ 64 := by omega
  have t8 : w - 1 + 1 = w := by omega
  have e6 : wrap64 ((i : Int) + 1) = ((i + 1 : Nat) : Int) := by rw [w64 (by omega) (by omega)]; omega
  have e7 : IntKind.u64.wrap (wrap64 ((w : Int) - 1)) = ((w - 1 : Nat) : Int) := by rw [w64 (by omega) (by omega), wu64 (by omega) (by omega)]; omega
  induction d with
  | zero =>
    intro k j hj
    simp only [trefoilref09_Fits.l1, ep]
    rw [if_pos t1, if_pos t2, if_neg (by omega), List.drop_eq_nil_of_le (by omega), e6]; rfl
  | succ d ih =>
    intro k j hj
    have hjl : j < p.length := by omega
    have e5 : wrap64 ((j : Int) + 1) = ((j + 1 : Nat) : Int) := by rw [w64 (by omega) (by omega)]; omega
    have hx := (hl _ (rd_mem p j hjl))
    obtain ⟨m, hm, hm2⟩ := nat_of64 hx.1 hx.2
    clear hx
    have t9 := half64 hm2
    have t3 : (j : Int) < (p.length : Int) := Int.ofNat_lt.2 hjl
    have t4 : (0 : Int) ≤ (j : Int) := Int.natCast_nonneg _
    clear hm2
    have nx := ih k (j + 1) (by omega)
    rw [show k + (d + 1) + 1 = (k + d + 1) + 1 from by omega]
    generalize k + d + 1 = K at nx ⊢
    have e8 : m / 2 / 2 ^ (w - 1) = m / 2 ^ w := by
      rw [Nat.div_div_eq_div_mul]
      congr 1
      rw [Nat.mul_comm, ← Nat.pow_succ, Nat.succ_eq_add_one, t8]
    simp only [trefoilref09_Fits.l1, ep, ew]
    rw [if_pos t1, if_pos t2, if_pos t3, if_pos t4, if_pos t5, e7, if_pos t6, e5, nx, lows_drop w p j hjl, hm, tdiv2_nat, wu64_nat' t9, shr_nat _ _ t7, e8]
    by_cases hz : m / 2 ^ w = 0
    · have h1 : m < 2 ^ w := (Nat.div_eq_zero_iff_lt (pow_pos w)).1 hz
      rw [hz, if_pos (show ((0 : Nat) : Int) = 0 from rfl), decide_eq_true (Int.ofNat_lt.2 h1), Bool.true_and]
    · have h1 : ¬ m < 2 ^ w := fun h => hz ((Nat.div_eq_zero_iff_lt (pow_pos w)).2 h)
      rw [if_neg (show ¬ ((m / 2 ^ w : Nat) : Int) = 0 from fun h => hz (Int.ofNat_inj.1 (h.trans (show (0 : Int) = ((0 : Nat) : Int) from rfl)))), decide_eq_false (fun h => h1 (Int.ofNat_lt.1 h)), Bool.false_and, if_neg (by simp)]

theorem shareFits_r (k : Nat) (hk : 4000 ≤ k) (c0 c1 c2 c3 c4 : Int) (a b d : List Int) (ha : U64s a) (hb : U64s b) (hd : U64s d) (la : a.length ≤ 1000) (lb : b.length ≤ 1000) (ld : d.length ≤ 1000) :
    trefoilref09_Fits.f k c0 c1 c2 c3 c4 a b d = some (fitsOf c0 c1 c2 c3 c4 a b d) := by
  unfold trefoilref09_Fits.f fitsOf
  rw [check_r k (by omega), Option.bind_some]
  by_cases h : chk c0 c1 c2 c3 c4 = 0
  · obtain ⟨h1, h2, _, _⟩ := chk_bits h
    have hw := wd0_in (c0 := c0) h1 h2
    rw [if_pos h, decide_eq_true h, Bool.true_and, sizes_r k (by omega) _ _ _ _ _ h, Option.bind_some, widths_r k (by omega) _ _ _ _ _ h, Option.bind_some]
    obtain ⟨wa, ewa⟩ := nat_of (show 0 ≤ wd0 c0 c1 by omega)
    obtain ⟨wb, ewb⟩ := nat_of (show 0 ≤ c1 by omega)
    have bwa : 1 ≤ wa ∧ wa ≤ 64 := by omega
    have bwb : 1 ≤ wb ∧ wb ≤ 64 := by omega
    rw [ewa, ewb]
    unfold fit
    rw [Int.toNat_natCast, Int.toNat_natCast]
    generalize sz0 c0 c2 c3 = n0
    generalize sz1 c0 c3 c4 = n1
    generalize sz2 c0 c2 c4 = n2
    have r0 := ref_inner [n0, n1, n2] [(wa : Int), wb, wb] [a, b, d] 0 a wa (by simp) (by simp) (by simp) rfl rfl ha la bwa.1 bwa.2
    have r1 := ref_inner [n0, n1, n2] [(wa : Int), wb, wb] [a, b, d] 1 b wb (by simp) (by simp) (by simp) rfl rfl hb lb bwb.1 bwb.2
    have r2 := ref_inner [n0, n1, n2] [(wa : Int), wb, wb] [a, b, d] 2 d wb (by simp) (by simp) (by simp) rfl rfl hd ld bwb.1 bwb.2
    obtain ⟨k, rfl⟩ : ∃ q, k = q + 1 + d.length + 1 + 1 + b.length + 1 + 1 + a.length + 1 + 1 := ⟨k - a.length - b.length - d.length - 7, by omega⟩
    have s0 : ∀ K, trefoilref09_Fits.l0 (K + 1) [n0, n1, n2] [(wa : Int), wb, wb] [a, b, d] 0 = if (a.length : Int) = n0 then trefoilref09_Fits.l1 K [n0, n1, n2] [(wa : Int), wb, wb] [a, b, d] 0 0 else some false := by
      intro K; simp only [trefoilref09_Fits.l0]; rfl
    have s1 : ∀ K, trefoilref09_Fits.l0 (K + 1) [n0, n1, n2] [(wa : Int), wb, wb] [a, b, d] 1 = if (b.length : Int) = n1 then trefoilref09_Fits.l1 K [n0, n1, n2] [(wa : Int), wb, wb] [a, b, d] 1 0 else some false := by
      intro K; simp only [trefoilref09_Fits.l0]; rfl
    have s2 : ∀ K, trefoilref09_Fits.l0 (K + 1) [n0, n1, n2] [(wa : Int), wb, wb] [a, b, d] 2 = if (d.length : Int) = n2 then trefoilref09_Fits.l1 K [n0, n1, n2] [(wa : Int), wb, wb] [a, b, d] 2 0 else some false := by
      intro K; simp only [trefoilref09_Fits.l0]; rfl
    have s3 : ∀ K, trefoilref09_Fits.l0 (K + 1) [n0, n1, n2] [(wa : Int), wb, wb] [a, b, d] 3 = some true := by
      intro K; simp only [trefoilref09_Fits.l0]; rfl
    rw [s0]
    by_cases ea : (a.length : Int) = n0
    · rw [if_pos ea, decide_eq_true ea, Bool.true_and]
      have q0 := r0 a.length (k + 1 + d.length + 1 + 1 + b.length + 1 + 1) 0 (by omega)
      rw [List.drop_zero] at q0
      refine q0.trans ?_
      cases lows wa a with
      | false => simp
      | true =>
        rw [if_pos rfl, Bool.true_and]
        refine (s1 _).trans ?_
        by_cases eb : (b.length : Int) = n1
        · rw [if_pos eb, decide_eq_true eb, Bool.true_and]
          have q1 := r1 b.length (k + 1 + d.length + 1 + 1) 0 (by omega)
          rw [List.drop_zero] at q1
          refine q1.trans ?_
          cases lows wb b with
          | false => simp
          | true =>
            rw [if_pos rfl, Bool.true_and]
            refine (s2 _).trans ?_
            by_cases ed : (d.length : Int) = n2
            · rw [if_pos ed, decide_eq_true ed, Bool.true_and]
              have q2 := r2 d.length (k + 1) 0 (by omega)
              rw [List.drop_zero] at q2
              refine q2.trans ?_
              cases lows wb d with
              | false => simp
              | true => rw [if_pos rfl]; exact s3 k
            · rw [if_neg ed, decide_eq_false ed, Bool.false_and]
        · rw [if_neg eb, decide_eq_false eb, Bool.false_and, Bool.false_and]
    · rw [if_neg ea, decide_eq_false ea, Bool.false_and, Bool.false_and]
  · rw [if_neg h, decide_eq_false h, Bool.false_and]
end Go.Proofs.Ytcmaidpoolcelaa.Lem
