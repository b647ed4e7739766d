/- Shares of products of matrices: what is chosen and spread. -/
import Derived.Test.YtcmaidpoolcelaaMsPx0
import Derived.Test.YtcmaidpoolcelaaMsK1
import Derived.Test.YtcmaidpoolcelaaMsK6
import Derived.Test.YtcmaidpoolcelaaMsK7
import Derived.Test.YtcmaidpoolcelaaMsK9
import Derived.Test.YtcmaidpoolcelaaMsK10
import Derived.Test.YtcmaidpoolcelaaMsLemSides2
namespace Go.Proofs.Ytcmaidpoolcelaa.Lem
open Go.RowKit Go.Proofs.Ytcmaidpoolcelaa.P Go.Proofs.Ytcmaidpoolcelaa.Num Go.Proofs.YtcmaidpoolcelaaW.PrintWords Go.Proofs.YtcmaidpoolcelaaW.PrintMore
set_option linter.unusedVariables false

theorem flatten_len (n : Nat) (gs : List (List Int)) (h : ∀ g ∈ gs, g.length = n) : gs.flatten.length = gs.length * n := by
  induction gs with
  | nil => simp
  | cons g gs ih => rw [List.flatten_cons, List.length_append, ih (fun x hx => h x (List.mem_cons_of_mem _ hx)), h g (List.mem_cons_self ..), List.length_cons, Nat.succ_mul, Nat.add_comm]

theorem mch_loop (l : Nat) (c0 c2 c3 c4 : Int) (xs : List S26) (hx : Few xs) (d : Nat) : ∀ (k i : Nat), i + d = xs.length → d < k →
    matrix_Choices.l0 k (fst0 (xs.take i)) xs (xs.length : Int) (i : Int) c0 (l : Int) c2 c3 c4 = (gilboa_Choices.f (k - d - 1) (l : Int) (fst0 xs)).bind fun b => some (b.1, b.2.1, b.2.2) := by
  induction d with
  | zero =>
    intro k i hi hk
    obtain ⟨k, rfl⟩ : ∃ q, k = q + 1 := ⟨k - 1, by omega⟩
    have t1 : ¬ ((i : Int) < (xs.length : Int)) := by omega
    simp only [matrix_Choices.l0]
    rw [if_neg t1, List.take_of_length_le (by omega)]; rfl
  | succ d ih =>
    intro k i hi hk
    obtain ⟨k, rfl⟩ : ∃ q, k = q + 1 := ⟨k - 1, by omega⟩
    have hil : i < xs.length := by omega
    have nx := ih k (i + 1) (by omega) (by omega)
    have t1 : (i : Int) < (xs.length : Int) := by omega
    have t2 : (0 : Int) ≤ (i : Int) := by omega
    have hk3 : k + 1 - (d + 1) - 1 = k - d - 1 := by omega
    have hi5 : i ≤ 100000 := by have := hx.1; omega
    have fl := fst0_len (few_take hx i)
    have a0 := (hx.2 _ (sh_mem xs i hil)).2.2.2.1
    have hlen : (fst0 (xs.take i)).length + (rd_T26 xs (i : Int)).f0.length < 17592186044416 := by omega
    simp only [matrix_Choices.l0]
    rw [if_pos t1, if_pos t2, if_pos t1, if_pos hlen, fst0_snoc xs i hil, w_succ i hi5, nx, hk3]

theorem rows_loop (r : Nat) (hr : r ≤ 6) (a : List Int) (ha : a.length ≤ 60) (d : Nat) : ∀ (k i : Nat), i + d = r → d < k →
    matrix_rows.l0 k a (List.replicate i a).flatten (r : Int) (i : Int) = some (List.replicate r a).flatten := by
  induction d with
  | zero =>
    intro k i hi hk
    obtain ⟨k, rfl⟩ : ∃ q, k = q + 1 := ⟨k - 1, by omega⟩
    have t1 : ¬ ((i : Int) < (r : Int)) := by omega
    simp only [matrix_rows.l0]
    rw [if_neg t1, show i = r by omega]
  | succ d ih =>
    intro k i hi hk
    obtain ⟨k, rfl⟩ : ∃ q, k = q + 1 := ⟨k - 1, by omega⟩
    have nx := ih k (i + 1) (by omega) (by omega)
    have t1 : (i : Int) < (r : Int) := by omega
    have hi5 : i ≤ 100000 := by omega
    have hfl := flatten_len a.length (List.replicate i a) (fun g hg => by rw [(List.mem_replicate.1 hg).2])
    rw [List.length_replicate] at hfl
    have hm : i * a.length ≤ 6 * 60 := Nat.mul_le_mul (by omega) ha
    have hlen : (List.replicate i a).flatten.length + a.length < 17592186044416 := by omega
    have sn : (List.replicate i a).flatten ++ a = (List.replicate (i + 1) a).flatten := by
      rw [List.replicate_succ', List.flatten_append, List.flatten_cons, List.flatten_nil, List.append_nil]
    simp only [matrix_rows.l0]
    rw [if_pos t1, if_pos hlen, sn, w_succ i hi5]
    exact nx
theorem rows_f (k r : Nat) (hk : 100 ≤ k) (hr : r ≤ 6) (c0 c1 c3 c4 : Int) (a : List Int) (ha : a.length ≤ 60) : matrix_rows.f k c0 c1 (r : Int) c3 c4 a = some (List.replicate r a).flatten := by
  unfold matrix_rows.f
  exact rows_loop r hr a ha r k 0 (by omega) (by omega)

def rowsAll (r : Nat) (xs : List S26) : List Int := xs.flatMap fun s => (List.replicate r s.f1).flatten
theorem rowsAll_snoc (r : Nat) (xs : List S26) (i : Nat) (h : i < xs.length) : rowsAll r (xs.take i) ++ (List.replicate r (rd_T26 xs (i : Int)).f1).flatten = rowsAll r (xs.take (i + 1)) := sh_snoc (fun s => (List.replicate r s.f1).flatten) xs i h
theorem rep_len (r : Nat) (hr : r ≤ 6) (a : List Int) (ha : a.length ≤ 60) : (List.replicate r a).flatten.length ≤ 360 := by
  have hfl := flatten_len a.length (List.replicate r a) (fun g hg => by rw [(List.mem_replicate.1 hg).2])
  rw [List.length_replicate] at hfl
  have hm : r * a.length ≤ 6 * 60 := Nat.mul_le_mul hr ha
  omega
theorem msp_loop (l r : Nat) (hr : r ≤ 6) (c0 c3 c4 : Int) (xs : List S26) (hx : Few xs) (d : Nat) : ∀ (k i : Nat), i + d = xs.length → d + 200 < k →
    matrix_Spread.l0 k (rowsAll r (xs.take i)) xs (xs.length : Int) (i : Int) c0 (l : Int) (r : Int) c3 c4 = (gilboa_Spread.f (k - d - 1) (l : Int) c4 (rowsAll r xs)).bind fun b => some (b.1, b.2) := by
  induction d with
  | zero =>
    intro k i hi hk
    obtain ⟨k, rfl⟩ : ∃ q, k = q + 1 := ⟨k - 1, by omega⟩
    have t1 : ¬ ((i : Int) < (xs.length : Int)) := by omega
    simp only [matrix_Spread.l0]
    rw [if_neg t1, List.take_of_length_le (by omega)]; rfl
  | succ d ih =>
    intro k i hi hk
    obtain ⟨k, rfl⟩ : ∃ q, k = q + 1 := ⟨k - 1, by omega⟩
    have hil : i < xs.length := by omega
    have nx := ih k (i + 1) (by omega) (by omega)
    have t1 : (i : Int) < (xs.length : Int) := by omega
    have t2 : (0 : Int) ≤ (i : Int) := by omega
    have hk3 : k + 1 - (d + 1) - 1 = k - d - 1 := by omega
    have hk4 : 100 ≤ k := by omega
    have hi5 : i ≤ 100000 := by have := hx.1; omega
    have a1 := (hx.2 _ (sh_mem xs i hil)).2.2.2.2.1
    have f1 := flat_take (fun s => (List.replicate r s.f1).flatten) 360 xs i hx.1 (fun s hs => rep_len r hr s.f1 (hx.2 s hs).2.2.2.2.1)
    have f2 := rep_len r hr _ a1
    have f3 : (rowsAll r (xs.take i)).length ≤ 30 * 360 := f1
    have hlen : (rowsAll r (xs.take i)).length + (List.replicate r (rd_T26 xs (i : Int)).f1).flatten.length < 17592186044416 := by omega
    simp only [matrix_Spread.l0]
    rw [if_pos t1, if_pos t2, if_pos t1, rows_f k r hk4 hr _ _ _ _ _ a1, Option.bind_some, if_pos hlen, rowsAll_snoc r xs i hil, w_succ i hi5, nx, hk3]

theorem mch_f (k : Nat) (hk : 700100 ≤ k) (c0 c1 c2 c3 c4 : Int) (xs : List S26) (hx : Few xs) :
    ∃ t, matrix_Choices.f k c0 c1 c2 c3 c4 xs = some t ∧ Held t (chB (mwrong c0 c1 c2 c3 c4 xs) c1.toNat xs) (mwrong c0 c1 c2 c3 c4 xs) := by
  unfold matrix_Choices.f chB
  rw [mwrong_f k (by omega) c0 c1 c2 c3 c4 xs hx, Option.bind_some]
  by_cases h : mwrong c0 c1 c2 c3 c4 xs = 0
  · obtain ⟨hck, ho⟩ := wrong_all h
    obtain ⟨hc, h1⟩ := mchk_zero hck
    obtain ⟨b1, b2, _, _⟩ := chk_bits hc
    obtain ⟨l, rfl⟩ := nat_of (show 0 ≤ c1 by omega)
    rw [Int.toNat_natCast] at ho
    have hn := fst0_len hx
    have hx0 := hx.1
    obtain ⟨V, e, v1, v2, v3⟩ := gch_f (k - xs.length - 1) l (by omega) (by omega) (fst0 xs) (fst0_u64 hx) (fst0_lows (fun s hs => (okSh_iff (List.all_eq_true.1 ho s hs)).2.2.1)) (by omega) (by omega)
    have st := mch_loop l c0 c2 c3 c4 xs hx xs.length k 0 (by omega) (by omega)
    rw [e, Option.bind_some, List.take_zero] at st
    rw [if_pos h, if_pos h, h, Int.toNat_natCast]
    exact ⟨_, st, rfl, rfl, v1, v2, v3⟩
  · rw [if_neg h, if_neg h]
    exact ⟨_, rfl, held_none _⟩

theorem mch_r (k : Nat) (hk : 700100 ≤ k) (c0 c1 c2 c3 c4 : Int) (xs : List S26) (hx : Few xs) : trefoilref22_Choices.f k c0 c1 c2 c3 c4 2 xs = some (chB (mwrong c0 c1 c2 c3 c4 xs) c1.toNat xs, mwrong c0 c1 c2 c3 c4 xs) := by
  unfold trefoilref22_Choices.f chB
  rw [mwrong_r k (by omega) c0 c1 c2 c3 c4 xs hx, Option.bind_some, Option.bind_some]
  by_cases h : mwrong c0 c1 c2 c3 c4 xs = 0
  · obtain ⟨hck, ho⟩ := wrong_all h
    obtain ⟨hc, h1⟩ := mchk_zero hck
    obtain ⟨b1, b2, _, _⟩ := chk_bits hc
    obtain ⟨l, rfl⟩ := nat_of (show 0 ≤ c1 by omega)
    rw [Int.toNat_natCast] at ho
    have hx0 := hx.1
    have := rc_loop l (by omega) (by omega) c0 c2 c3 c4 xs hx (fun s hs => (okSh_iff (List.all_eq_true.1 ho s hs)).2.2.1) xs.length k 0 (by omega) (by omega)
    rw [List.take_zero] at this
    rw [if_pos h, if_pos h, h, Int.toNat_natCast]
    exact this
  · rw [if_neg h, if_neg h]

theorem msp_f (k : Nat) (hk : 900000 ≤ k) (c0 c1 c2 c3 c4 : Int) (xs : List S26) (hx : Few xs) :
    matrix_Spread.f k c0 c1 c2 c3 c4 xs = some (spB (mwrong c0 c1 c2 c3 c4 xs) c1.toNat c2.toNat c3.toNat c4.toNat xs, mwrong c0 c1 c2 c3 c4 xs) := by
  unfold matrix_Spread.f spB
  rw [mwrong_f k (by omega) c0 c1 c2 c3 c4 xs hx, Option.bind_some]
  by_cases h : mwrong c0 c1 c2 c3 c4 xs = 0
  · obtain ⟨hck, ho⟩ := wrong_all h
    obtain ⟨hc, h1⟩ := mchk_zero hck
    obtain ⟨b1, b2, _, _⟩ := chk_bits hc
    obtain ⟨s1, s2, s3, s4, s5, s6⟩ := chk_sides hc h1
    obtain ⟨l, rfl⟩ := nat_of (show 0 ≤ c1 by omega)
    obtain ⟨r, rfl⟩ := nat_of (show 0 ≤ c2 by omega)
    obtain ⟨q, rfl⟩ := nat_of (show 0 ≤ c3 by omega)
    obtain ⟨c, rfl⟩ := nat_of (show 0 ≤ c4 by omega)
    simp only [Int.toNat_natCast] at ho ⊢
    have hx0 := hx.1
    have hr : r ≤ 6 := by omega
    have hq : q ≤ 6 := by omega
    have hc6 : c ≤ 6 := by omega
    have hrq : r * q ≤ 6 * 6 := Nat.mul_le_mul hr hq
    have hfl : (allBlks r q c xs).flatten = rowsAll r xs := allBlks_flat l r q c xs ho
    have hok := allBlks_ok l r q c xs hx ho
    have hg := allBlks_len r q c xs hrq hx0
    have hn := flatten_len c (allBlks r q c xs) (fun g hg => (hok g hg).1)
    have hn2 : (allBlks r q c xs).length * c ≤ 1080 * 6 := Nat.mul_le_mul hg hc6
    have e := gsp_f (k - xs.length - 1) l (by omega) (by omega) c (by omega) hc6 (allBlks r q c xs) hok (by omega) (by omega) (by omega)
    rw [hfl] at e
    have st := msp_loop l r hr c0 (q : Int) (c : Int) xs hx xs.length k 0 (by omega) (by omega)
    rw [e, Option.bind_some, List.take_zero] at st
    rw [if_pos h, if_pos h, h]
    exact st
  · rw [if_neg h, if_neg h]

theorem msp_r (k : Nat) (hk : 900000 ≤ k) (c0 c1 c2 c3 c4 : Int) (xs : List S26) (hx : Few xs) :
    trefoilref22_Spread.f k c0 c1 c2 c3 c4 2 xs = some (spB (mwrong c0 c1 c2 c3 c4 xs) c1.toNat c2.toNat c3.toNat c4.toNat xs, mwrong c0 c1 c2 c3 c4 xs) := by
  unfold trefoilref22_Spread.f spB
  rw [mwrong_r k (by omega) c0 c1 c2 c3 c4 xs hx, Option.bind_some, Option.bind_some]
  by_cases h : mwrong c0 c1 c2 c3 c4 xs = 0
  · obtain ⟨hck, ho⟩ := wrong_all h
    obtain ⟨hc, h1⟩ := mchk_zero hck
    obtain ⟨b1, b2, _, _⟩ := chk_bits hc
    obtain ⟨s1, s2, s3, s4, s5, s6⟩ := chk_sides hc h1
    unfold trefoilref22_Sides.f
    rw [if_pos h1, Option.bind_some]
    obtain ⟨l, rfl⟩ := nat_of (show 0 ≤ c1 by omega)
    obtain ⟨r, rfl⟩ := nat_of (show 0 ≤ c2 by omega)
    obtain ⟨q, rfl⟩ := nat_of (show 0 ≤ c3 by omega)
    obtain ⟨c, rfl⟩ := nat_of (show 0 ≤ c4 by omega)
    simp only [Int.toNat_natCast] at ho ⊢
    have hx0 := hx.1
    have := rs_loop l r q c (by omega) (by omega) (by omega) (by omega) (by omega) (by omega) (by omega) c0 r q c xs hx ho xs.length k 0 (by omega) (by omega)
    rw [List.take_zero] at this
    rw [if_pos h, if_pos h, h]
    exact this
  · rw [if_neg h, if_neg h]
end Go.Proofs.Ytcmaidpoolcelaa.Lem
