/- Gilboa's trick: what the program and the document spread is the same. -/
import Derived.Test.YtcmaidpoolcelaaMcK2
import Derived.Test.YtcmaidpoolcelaaMcK8
import Derived.Test.YtcmaidpoolcelaaMcL0
import Derived.Test.YtcmaidpoolcelaaMcPx0
import Derived.Test.YtcmaidpoolcelaaMcK7
import Derived.Test.YtcmaidpoolcelaaMcK9
import Derived.Test.YtcmaidpoolcelaaMcK10
import Derived.Test.YtcmaidpoolcelaaMcK4
import Derived.Test.YtcmaidpoolcelaaMcK11
import Derived.Test.YtcmaidpoolcelaaMcK12
import Derived.Test.YtcmaidpoolcelaaMcWWords
import Derived.Deep.Slices
import Derived.Deep.Fields
import Derived.ChangeSame
import Derived.ChangeArms
import Derived.OpenShut
namespace Go.Proofs.Ytcmaidpoolcelaa.Lem
open Go.RowKit Go.Proofs.Ytcmaidpoolcelaa.P Go.Proofs.Ytcmaidpoolcelaa.Num Go.Proofs.YtcmaidpoolcelaaW.PrintWords Go.Proofs.YtcmaidpoolcelaaW.PrintMore
set_option linter.unusedVariables false

/-- numbers times a power of two -/
def dbl (l j : Nat) (g : List Int) : List Int := g.map fun x => ((x.toNat * 2 ^ j % 2 ^ l : Nat) : Int)
def spreadB (l : Nat) (g : List Int) : List Int := (List.range l).flatMap fun j => dbl l j g
def spreadAll (l : Nat) (gs : List (List Int)) : List Int := gs.flatMap (spreadB l)
theorem dbl_len (l j : Nat) (g : List Int) : (dbl l j g).length = g.length := by simp [dbl]
theorem part_len (l n : Nat) (g : List Int) : ((List.range n).flatMap fun j => dbl l j g).length = n * g.length := by
  induction n with
  | zero => simp
  | succ n ih => rw [List.range_succ, List.flatMap_append, List.length_append, ih, List.flatMap_cons, List.flatMap_nil, List.append_nil, dbl_len, Nat.succ_mul]
theorem spreadB_len (l : Nat) (g : List Int) : (spreadB l g).length = l * g.length := part_len l l g
theorem part_snoc (l n : Nat) (g : List Int) : ((List.range n).flatMap fun j => dbl l j g) ++ dbl l n g = (List.range (n + 1)).flatMap fun j => dbl l j g := by
  rw [List.range_succ, List.flatMap_append, List.flatMap_cons, List.flatMap_nil, List.append_nil]
theorem dbl_zero (l : Nat) (h1 : l ≤ 64) (g : List Int) (hg : U64s g) (hlo : lows l g = true) : dbl l 0 g = g := by
  unfold dbl
  refine (List.map_congr_left ?_).trans (List.map_id g)
  intro x hx
  unfold lows at hlo
  have h := List.all_eq_true.1 hlo x hx
  rw [decide_eq_true_eq] at h
  obtain ⟨m, rfl⟩ := nat_of (hg x hx).1
  have hm : m < 2 ^ l := Int.ofNat_lt.1 h
  rw [Int.toNat_natCast, Nat.pow_zero, Nat.mul_one, Nat.mod_eq_of_lt hm]; rfl
theorem dbl_u64 (l j : Nat) (h1 : l ≤ 64) (g : List Int) : U64s (dbl l j g) := by
  intro x hx
  unfold dbl at hx
  rw [List.mem_map] at hx
  obtain ⟨y, _, rfl⟩ := hx
  have := lt64 (n := y.toNat * 2 ^ j) h1
  omega
theorem dbl_at (l j : Nat) (g : List Int) (i : Nat) (h : i < g.length) : rd (dbl l j g) (i : Int) = (((rd g (i : Int)).toNat * 2 ^ j % 2 ^ l : Nat) : Int) := by
  simp [rd, dbl, h]
theorem dbl_succ (l j : Nat) (x : Nat) : 2 * (x * 2 ^ j % 2 ^ l) % 2 ^ l = x * 2 ^ (j + 1) % 2 ^ l := by
  rw [Nat.mul_comm 2, Nat.mod_mul_mod, Nat.mul_assoc, ← Nat.pow_succ]

theorem scale_loop (l : Nat) (h0 : 1 ≤ l) (h1 : l ≤ 64) (j : Nat) (g : List Int) (hn : g.length ≤ 10000) (d : Nat) : ∀ (k i : Nat) (L : List Int), i + d = g.length → d < k → L.length = g.length → (∀ q, q < i → L[q]? = (dbl l (j + 1) g)[q]?) →
    ring_Scale.l0 k (l : Int) 2 L (dbl l j g) (g.length : Int) (i : Int) = some (dbl l (j + 1) g) := by
  induction d with
  | zero =>
    intro k i L hi hk hL hb
    obtain ⟨k, rfl⟩ : ∃ q, k = q + 1 := ⟨k - 1, by omega⟩
    simp only [ring_Scale.l0]
    rw [if_neg (by omega)]
    congr 1
    apply List.ext_getElem?
    intro q
    by_cases hq : q < g.length
    · exact hb q (by omega)
    · rw [List.getElem?_eq_none (by omega), List.getElem?_eq_none (by rw [dbl_len]; omega)]
  | succ d ih =>
    intro k i L hi hk hL hb
    obtain ⟨k, rfl⟩ : ∃ q, k = q + 1 := ⟨k - 1, by omega⟩
    have hil : i < g.length := by omega
    have e5 : wrap64 ((i : Int) + 1) = ((i + 1 : Nat) : Int) := by rw [w64 (by omega) (by omega)]; omega
    have em := mul_f l 2 ((rd g (i : Int)).toNat * 2 ^ j % 2 ^ l) h0 h1
    rw [dbl_succ] at em
    have hv : (dbl l (j + 1) g)[i]? = some (((rd g (i : Int)).toNat * 2 ^ (j + 1) % 2 ^ l : Nat) : Int) := by simp [dbl, rd, hil]
    have nx := ih k (i + 1) (L.set i (((rd g (i : Int)).toNat * 2 ^ (j + 1) % 2 ^ l : Nat) : Int)) (by omega) (by omega) (by rw [List.length_set]; exact hL) (by
      intro q hq
      by_cases h : i = q
      · subst h; rw [List.getElem?_set_self (by omega), hv]
      · rw [List.getElem?_set_ne h]; exact hb q (by omega))
    have t1 : (i : Int) < (g.length : Int) := by omega
    have t2 : (0 : Int) ≤ (i : Int) := by omega
    have t3 : (i : Int) < ((dbl l j g).length : Int) := by rw [dbl_len]; exact t1
    have t4 : (i : Int) < (L.length : Int) := by omega
    simp only [ring_Scale.l0]
    rw [if_pos t1, if_pos t2, if_pos t3, dbl_at l j g i hil, show ring_Mul.f (l : Int) 2 _ = _ from em, Option.bind_some, if_pos t4, Int.toNat_natCast, e5]
    exact nx

theorem scale_f (k l : Nat) (h0 : 1 ≤ l) (h1 : l ≤ 64) (j : Nat) (g : List Int) (hn : g.length ≤ 10000) (hk : 10001 ≤ k) : ring_Scale.f k (l : Int) 2 (dbl l j g) = some (dbl l (j + 1) g) := by
  unfold ring_Scale.f
  rw [if_pos (by omega), if_pos (by rw [Int.toNat_natCast, dbl_len]; omega), Int.toNat_natCast, dbl_len]
  exact scale_loop l h0 h1 j g hn g.length k 0 _ (by omega) (by omega) (by simp) (by intro q hq; omega)

/-- one block in the program -/
theorem gsp_in (l : Nat) (h0 : 1 ≤ l) (h1 : l ≤ 64) (n : Int) (xs g acc : List Int) (i m : Int) (e5 : wrap64 (i + n) = m) (hg : g.length ≤ 6) (ha : acc.length ≤ 10000000) (d : Nat) : ∀ (q k j : Nat), j + d = l → q = k + d + 1 → 10001 ≤ k →
    gilboa_Spread.l1 q (l : Int) n xs (acc ++ (List.range j).flatMap fun j => dbl l j g) i (dbl l j g) (l : Int) (j : Int) = gilboa_Spread.l0 k (l : Int) n xs (acc ++ spreadB l g) m := by
  induction d with
  | zero =>
    intro q k j hj hq hk
    subst hq
    simp only [gilboa_Spread.l1]
    rw [if_neg (by omega), e5, show j = l by omega]; rfl
  | succ d ih =>
    intro q k j hj hq hk
    obtain ⟨q, rfl⟩ : ∃ p, q = p + 1 := ⟨q - 1, by omega⟩
    have nx := ih q k (j + 1) (by omega) (by omega) hk
    have e6 : wrap64 ((j : Int) + 1) = ((j + 1 : Nat) : Int) := by rw [w64 (by omega) (by omega)]; omega
    have hm : j * g.length ≤ 64 * 6 := Nat.mul_le_mul (by omega) hg
    have hlen : (acc ++ (List.range j).flatMap fun j => dbl l j g).length + (dbl l j g).length < 17592186044416 := by rw [List.length_append, part_len, dbl_len]; omega
    simp only [gilboa_Spread.l1]
    rw [if_pos (by omega), if_pos hlen, scale_f q l h0 h1 j g (by omega) (by omega), Option.bind_some, e6, List.append_assoc, part_snoc]
    exact nx

theorem cut_mid (pre g rest : List Int) : ((pre ++ (g ++ rest)).take (pre.length + g.length)).drop pre.length = g := by
  rw [← List.append_assoc, List.take_left' (by rw [List.length_append]), List.drop_left]
theorem gsp_loop (l : Nat) (h0 : 1 ≤ l) (h1 : l ≤ 64) (n : Nat) (hn0 : 1 ≤ n) (hn : n ≤ 6) (xs : List Int) (hx : xs.length ≤ 10000) (gs : List (List Int)) : ∀ (k : Nat) (pre acc : List Int), (∀ g ∈ gs, g.length = n ∧ U64s g ∧ lows l g = true) → xs = pre ++ gs.flatten → gs.length * 70 + 20000 < k → acc.length + gs.length * 384 ≤ 9000000 →
    gilboa_Spread.l0 k (l : Int) (n : Int) xs acc (pre.length : Int) = some (acc ++ spreadAll l gs, 0) := by
  induction gs with
  | nil =>
    intro k pre acc hg hxs hk ha
    obtain ⟨k, rfl⟩ : ∃ q, k = q + 1 := ⟨k - 1, by simp at hk; omega⟩
    simp only [gilboa_Spread.l0]
    rw [List.flatten_nil, List.append_nil] at hxs
    rw [if_neg (by rw [hxs]; omega)]
    simp [spreadAll]
  | cons g gs ih =>
    intro k pre acc hg hxs hk ha
    rw [List.length_cons] at hk ha
    obtain ⟨k, rfl⟩ : ∃ q, k = q + 1 := ⟨k - 1, by omega⟩
    obtain ⟨g1, g2, g3⟩ := hg g (List.mem_cons_self ..)
    rw [List.flatten_cons] at hxs
    have hlen : xs.length = pre.length + (g.length + gs.flatten.length) := by rw [hxs]; simp
    have e5 : wrap64 ((pre.length : Int) + (n : Int)) = (((pre ++ g).length : Nat) : Int) := by rw [w64 (by omega) (by omega), List.length_append]; omega
    have e6 : ((((pre ++ g).length : Nat) : Int)).toNat = pre.length + g.length := by rw [Int.toNat_natCast, List.length_append]
    have hcut : (xs.take ((((pre ++ g).length : Nat) : Int)).toNat).drop ((pre.length : Int)).toNat = g := by rw [e6, Int.toNat_natCast, hxs]; exact cut_mid pre g _
    have t1 : (pre.length : Int) < (xs.length : Int) := by omega
    have t2 : (pre.length : Int) ≤ (((pre ++ g).length : Nat) : Int) := by rw [List.length_append]; omega
    have t3 : (((pre ++ g).length : Nat) : Int) ≤ (xs.length : Int) := by rw [List.length_append]; omega
    have st := gsp_in l h0 h1 (n : Int) xs g acc (pre.length : Int) _ e5 (by omega) (by omega) l k (k - l - 1) 0 (by omega) (by omega) (by omega)
    rw [List.range_zero, List.flatMap_nil, List.append_nil, dbl_zero l h1 g g2 g3] at st
    have sl := spreadB_len l g
    have sm : l * g.length ≤ 64 * 6 := Nat.mul_le_mul h1 (by omega)
    have nx := ih (k - l - 1) (pre ++ g) (acc ++ spreadB l g) (fun x hx => hg x (List.mem_cons_of_mem _ hx)) (by rw [hxs, List.append_assoc]) (by omega) (by rw [List.length_append]; omega)
    simp only [gilboa_Spread.l0]
    rw [if_pos t1, if_pos (by omega), e5, if_pos t2, if_pos t3, hcut]
    refine (show gilboa_Spread.l1 k (l : Int) (n : Int) xs acc (pre.length : Int) g (l : Int) 0 = _ from st).trans ?_
    rw [nx, List.append_assoc]
    congr 2

theorem gsp_f (k l : Nat) (h0 : 1 ≤ l) (h1 : l ≤ 64) (n : Nat) (hn0 : 1 ≤ n) (hn : n ≤ 6) (gs : List (List Int)) (hg : ∀ g ∈ gs, g.length = n ∧ U64s g ∧ lows l g = true) (hx : gs.flatten.length ≤ 10000) (hgl : gs.length ≤ 10000) (hk : 800000 ≤ k) :
    gilboa_Spread.f k (l : Int) (n : Int) gs.flatten = some (spreadAll l gs, 0) := by
  have hu : U64s gs.flatten := by
    intro x hx
    rw [List.mem_flatten] at hx
    obtain ⟨g, hg1, hg2⟩ := hx
    exact (hg g hg1).2.1 x hg2
  have hl : lows l gs.flatten = true := by
    unfold lows
    rw [List.all_eq_true]
    intro x hx
    rw [List.mem_flatten] at hx
    obtain ⟨g, hg1, hg2⟩ := hx
    have := (hg g hg1).2.2
    unfold lows at this
    exact List.all_eq_true.1 this x hg2
  have hm : gs.flatten.length = gs.length * n := by
    clear hu hl hx hgl
    induction gs with
    | nil => simp
    | cons g gs ih =>
      rw [List.flatten_cons, List.length_append, ih (fun x hx => hg x (List.mem_cons_of_mem _ hx)), (hg g (List.mem_cons_self ..)).1, List.length_cons, Nat.succ_mul, Nat.add_comm]
  have hd : (gs.flatten.length : Int) % (n : Int) = 0 := by
    rw [hm]
    have : (gs.length * n) % n = 0 := Nat.mul_mod_left _ _
    omega
  obtain ⟨k, rfl⟩ : ∃ q, k = q + 1 := ⟨k - 1, by omega⟩
  have hm2 : l * gs.flatten.length ≤ 64 * 10000 := Nat.mul_le_mul h1 hx
  have ec : wrap64 ((l : Int) * (gs.flatten.length : Int)) = ((l * gs.flatten.length : Nat) : Int) := by rw [w64 (by omega) (by omega)]; simp
  unfold gilboa_Spread.f
  rw [good_f (by omega) (by omega) (by omega) (by omega), Option.bind_some, if_pos rfl, if_neg (show ¬ (n : Int) = 0 by omega), if_pos hd, ringFits_f l h0 h1 _ hu, Option.bind_some, hl]
  simp only [gilboa_Spread.j0]
  rw [if_neg (by simp), ec, if_pos (by omega), if_pos (by omega)]
  have := gsp_loop l h0 h1 n hn0 hn gs.flatten hx gs k [] [] hg (by simp) (by omega) (by simp; omega)
  rwa [List.nil_append] at this

end Go.Proofs.Ytcmaidpoolcelaa.Lem
namespace Go.Proofs.Ytcmaidpoolcelaa.Lem
open Go.RowKit Go.Proofs.Ytcmaidpoolcelaa.P Go.Proofs.Ytcmaidpoolcelaa.Num Go.Proofs.YtcmaidpoolcelaaW.PrintWords Go.Proofs.YtcmaidpoolcelaaW.PrintMore
set_option linter.unusedVariables false

/-- few shares, all short -/
def Few (xs : List S26) : Prop := xs.length ≤ 30 ∧ ∀ s ∈ xs, U64s s.f0 ∧ U64s s.f1 ∧ U64s s.f2 ∧ s.f0.length ≤ 60 ∧ s.f1.length ≤ 60 ∧ s.f2.length ≤ 60
theorem sh_at (xs : List S26) (i : Nat) (h : i < xs.length) : rd_T26 xs (i : Int) = xs[i] := by
  simp only [rd_T26, Int.toNat_natCast]
  rw [List.getD_eq_getElem?_getD, List.getElem?_eq_getElem h]; rfl
theorem sh_mem (xs : List S26) (i : Nat) (h : i < xs.length) : rd_T26 xs (i : Int) ∈ xs := by rw [sh_at xs i h]; exact List.getElem_mem h
theorem sh_drop (p : S26 → Bool) (xs : List S26) (i : Nat) (h : i < xs.length) : (xs.drop i).all p = (p (rd_T26 xs (i : Int)) && (xs.drop (i + 1)).all p) := by
  rw [List.drop_eq_getElem_cons h, sh_at xs i h]; rfl
theorem sh_snoc {β : Type} (f : S26 → List β) (xs : List S26) (i : Nat) (h : i < xs.length) : (xs.take i).flatMap f ++ f (rd_T26 xs (i : Int)) = (xs.take (i + 1)).flatMap f := by
  rw [sh_at xs i h, List.take_succ_eq_append_getElem h, List.flatMap_append, List.flatMap_cons, List.flatMap_nil, List.append_nil]
theorem flat_len {β : Type} (f : S26 → List β) (m : Nat) (xs : List S26) (h : ∀ s ∈ xs, (f s).length ≤ m) : (xs.flatMap f).length ≤ xs.length * m := by
  induction xs with
  | nil => simp
  | cons x xs ih =>
    rw [List.flatMap_cons, List.length_append, List.length_cons, Nat.succ_mul]
    have := ih (fun s hs => h s (List.mem_cons_of_mem _ hs))
    have := h x (List.mem_cons_self ..)
    omega
theorem flat_take {β : Type} (f : S26 → List β) (m : Nat) (xs : List S26) (i : Nat) (hn : xs.length ≤ 30) (h : ∀ s ∈ xs, (f s).length ≤ m) : ((xs.take i).flatMap f).length ≤ 30 * m := by
  have := flat_len f m (xs.take i) (fun s hs => h s (List.mem_of_mem_take hs))
  have h2 : (xs.take i).length ≤ 30 := by rw [List.length_take]; omega
  exact Nat.le_trans this (Nat.mul_le_mul_right m h2)

theorem w_succ (i : Nat) (h : i ≤ 100000) : wrap64 ((i : Int) + 1) = ((i + 1 : Nat) : Int) := by rw [w64 (by omega) (by omega)]; omega
theorem mul_w (a b : Nat) (h : a * b ≤ 6 * 6) : wrap64 ((a : Int) * (b : Int)) = ((a * b : Nat) : Int) := by
  rw [← Int.natCast_mul]
  exact w64 (by omega) (by omega)
def okSh (l r q c : Nat) (s : S26) : Bool := decide (s.f0.length = r * q) && (decide (s.f1.length = q * c) && (lows l s.f0 && lows l s.f1))
theorem okSh_iff {l r q c : Nat} {s : S26} (h : okSh l r q c s = true) : s.f0.length = r * q ∧ s.f1.length = q * c ∧ lows l s.f0 = true ∧ lows l s.f1 = true := by
  unfold okSh at h
  rw [Bool.and_eq_true, Bool.and_eq_true, Bool.and_eq_true, decide_eq_true_eq, decide_eq_true_eq] at h
  exact h

def mchk (c0 c1 c2 c3 c4 n : Int) : Int := if chk c0 c1 c2 c3 c4 = 0 then (if c0 = 2 then (if n < 1 then 2 else (if n > 24 then 2 else (if wrap64 (wrap64 (wrap64 (n * c2) * c3) * c1) > 4096 then 2 else 0))) else 15) else chk c0 c1 c2 c3 c4
theorem mchk_f (k : Nat) (hk : 10 ≤ k) (c0 c1 c2 c3 c4 n : Int) : matrix_check.f k c0 c1 c2 c3 c4 n = some (mchk c0 c1 c2 c3 c4 n) := by
  unfold matrix_check.f mchk
  rw [check_f k hk, Option.bind_some]
  repeat' split
  all_goals rfl
theorem mchk_r (k : Nat) (hk : 10 ≤ k) (c0 c1 c2 c3 c4 n : Int) : trefoilref22_Check.f k c0 c1 c2 c3 c4 2 n = some (mchk c0 c1 c2 c3 c4 n) := by
  unfold trefoilref22_Check.f mchk
  rw [check_r k hk, Option.bind_some, Option.bind_some]
  by_cases h : chk c0 c1 c2 c3 c4 = 0
  · rw [if_pos h, if_pos h]
    by_cases h1 : c0 = 2
    · rw [if_pos h1, if_pos h1]
      unfold trefoilref22_Sides.f
      rw [if_pos h1, Option.bind_some]
      repeat' split
      all_goals rfl
    · rw [if_neg h1, if_neg h1]
  · rw [if_neg h, if_neg h]
theorem mchk_zero {c0 c1 c2 c3 c4 n : Int} (h : mchk c0 c1 c2 c3 c4 n = 0) : chk c0 c1 c2 c3 c4 = 0 ∧ c0 = 2 := by
  unfold mchk at h
  by_cases h1 : chk c0 c1 c2 c3 c4 = 0
  · rw [if_pos h1] at h
    by_cases h2 : c0 = 2
    · exact ⟨h1, h2⟩
    · rw [if_neg h2] at h; omega
  · rw [if_neg h1] at h; exact absurd h h1

/-- what is wrong -/
def wrongOf (ck : Int) (l r q c : Nat) (xs : List S26) : Int := if ck = 0 then (if xs.all (okSh l r q c) = true then 0 else 11) else ck

def mwrong (c0 c1 c2 c3 c4 : Int) (xs : List S26) : Int := wrongOf (mchk c0 c1 c2 c3 c4 (xs.length : Int)) c1.toNat c2.toNat c3.toNat c4.toNat xs

/-- the program's parts of single products -/
theorem one_of {a : List Int} (h : a.length = 1) : [rd a 0] = a := by
  match a, h with
  | [x], _ => rfl
/-- and of products of matrices -/
theorem mw_loop (l r q c : Nat) (h0 : 1 ≤ l) (hl : l ≤ 64) (hr : r ≤ 6) (hq : q ≤ 6) (hc : c ≤ 6) (c0 : Int) (xs : List S26) (hx : Few xs) (d : Nat) : ∀ (k i : Nat), i + d = xs.length → d < k →
    matrix_wrong.l0 k xs (xs.length : Int) (i : Int) c0 (l : Int) (r : Int) (q : Int) (c : Int) = some (if (xs.drop i).all (okSh l r q c) = true then 0 else 11) := by
  have hrq : r * q ≤ 6 * 6 := Nat.mul_le_mul hr hq
  have hqc : q * c ≤ 6 * 6 := Nat.mul_le_mul hq hc
  obtain ⟨hx0, hx1⟩ := hx
  induction d with
  | zero =>
    intro k i hi hk
    obtain ⟨k, rfl⟩ : ∃ q, k = q + 1 := ⟨k - 1, by omega⟩
    simp only [matrix_wrong.l0]
    rw [if_neg (by omega), List.drop_eq_nil_of_le (by omega)]; rfl
  | succ d ih =>
    intro k i hi hk
    obtain ⟨k, rfl⟩ : ∃ q, k = q + 1 := ⟨k - 1, by omega⟩
    have hil : i < xs.length := by omega
    have nx := ih k (i + 1) (by omega) (by omega)
    have t1 : (i : Int) < (xs.length : Int) := by omega
    have t2 : (0 : Int) ≤ (i : Int) := by omega
    have e5 := w_succ i (by omega)
    obtain ⟨u0, u1, u2, l0, l1, l2⟩ := hx1 _ (sh_mem xs i hil)
    simp only [matrix_wrong.l0]
    rw [if_pos t1, if_pos t2, if_pos t1, sh_drop _ xs i hil, mul_w r q hrq, mul_w q c hqc, ringFits_f l h0 hl _ u0, ringFits_f l h0 hl _ u1, Option.bind_some, Option.bind_some, e5, nx]
    unfold okSh
    by_cases h1 : (rd_T26 xs (i : Int)).f0.length = r * q
    · rw [if_pos (Int.ofNat_inj.2 h1), decide_eq_true h1, Bool.true_and]
      by_cases h2 : (rd_T26 xs (i : Int)).f1.length = q * c
      · rw [if_pos (Int.ofNat_inj.2 h2), decide_eq_true h2, Bool.true_and]
        by_cases h3 : lows l (rd_T26 xs (i : Int)).f0 = true
        · rw [if_pos h3, h3, Bool.true_and]
          by_cases h4 : lows l (rd_T26 xs (i : Int)).f1 = true
          · rw [if_pos h4, h4, Bool.true_and]
          · rw [if_neg h4, Bool.eq_false_iff.2 h4, Bool.false_and, if_neg (by simp)]
        · rw [if_neg h3, Bool.eq_false_iff.2 h3, Bool.false_and, Bool.false_and, if_neg (by simp)]
      · rw [if_neg (fun e => h2 (Int.ofNat_inj.1 e)), decide_eq_false h2, Bool.false_and, Bool.false_and, if_neg (by simp)]
    · rw [if_neg (fun e => h1 (Int.ofNat_inj.1 e)), decide_eq_false h1, Bool.false_and, Bool.false_and, if_neg (by simp)]

theorem mwrong_f (k : Nat) (hk : 20000 ≤ k) (c0 c1 c2 c3 c4 : Int) (xs : List S26) (hx : Few xs) : matrix_wrong.f k c0 c1 c2 c3 c4 xs = some (mwrong c0 c1 c2 c3 c4 xs) := by
  unfold matrix_wrong.f mwrong wrongOf
  rw [mchk_f k (by omega), Option.bind_some]
  by_cases h : mchk c0 c1 c2 c3 c4 (xs.length : Int) = 0
  · obtain ⟨hc, h1⟩ := mchk_zero h
    obtain ⟨b1, b2, _, _⟩ := chk_bits hc
    obtain ⟨s1, s2, s3, s4, s5, s6⟩ := chk_sides hc h1
    rw [if_pos h, if_pos h]
    obtain ⟨l, rfl⟩ := nat_of (show 0 ≤ c1 by omega)
    obtain ⟨r, rfl⟩ := nat_of (show 0 ≤ c2 by omega)
    obtain ⟨q, rfl⟩ := nat_of (show 0 ≤ c3 by omega)
    obtain ⟨c, rfl⟩ := nat_of (show 0 ≤ c4 by omega)
    simp only [Int.toNat_natCast]
    have hx' := hx.1
    have := mw_loop l r q c (by omega) (by omega) (by omega) (by omega) (by omega) c0 xs hx xs.length k 0 (by omega) (by omega)
    rw [List.drop_zero] at this
    exact this
  · rw [if_neg h, if_neg h]
end Go.Proofs.Ytcmaidpoolcelaa.Lem
namespace Go.Proofs.Ytcmaidpoolcelaa.Lem
open Go.RowKit Go.Proofs.Ytcmaidpoolcelaa.P Go.Proofs.Ytcmaidpoolcelaa.Num Go.Proofs.YtcmaidpoolcelaaW.PrintWords Go.Proofs.YtcmaidpoolcelaaW.PrintMore
set_option linter.unusedVariables false
set_option linter.unusedSectionVars false

/-- the sum of t products of a row and a column, and what was folded for them, from at_ on -/
def prodF (q c : Nat) (A B X Y : List Int) (at_ a b : Nat) : Nat → Nat
  | 0 => 0
  | t + 1 => prodF q c A B X Y at_ a b t + nv A (a * q + t) * nv B (t * c + b) + (nv X (at_ + (a * q + t) * c + b) + nv Y (at_ + (a * q + t) * c + b))
def cellP (l q c : Nat) (A B X Y : List Int) (at_ a b t : Nat) : Int := ((prodF q c A B X Y at_ a b t % 2 ^ l : Nat) : Int)
def entP (l q c : Nat) (A B X Y : List Int) (at_ z : Nat) : Int := cellP l q c A B X Y at_ (z / c) (z % c) q
def rowP (l q c : Nat) (A B X Y : List Int) (at_ z : Nat) : List Int := (List.range z).map (entP l q c A B X Y at_)
def shP (l r q c : Nat) (xs : List S26) (X Y : List Int) (i : Nat) : S26 :=
  ⟨(rd_T26 xs (i : Int)).f0, (rd_T26 xs (i : Int)).f1, rowP l q c (rd_T26 xs (i : Int)).f0 (rd_T26 xs (i : Int)).f1 X Y (i * r * q * c) (r * c)⟩
def finP (l r q c : Nat) (xs : List S26) (X Y : List Int) (m : Nat) : List S26 := (List.range m).map (shP l r q c xs X Y)
theorem rowP_len (l q c : Nat) (A B X Y : List Int) (at_ z : Nat) : (rowP l q c A B X Y at_ z).length = z := by simp [rowP]
theorem finP_succ (l r q c : Nat) (xs : List S26) (X Y : List Int) (m : Nat) : finP l r q c xs X Y m ++ [shP l r q c xs X Y m] = finP l r q c xs X Y (m + 1) := by
  unfold finP; rw [List.range_succ, List.map_append]; rfl
theorem finP_len (l r q c : Nat) (xs : List S26) (X Y : List Int) (m : Nat) : (finP l r q c xs X Y m).length = m := by simp [finP]
section
variable {l r q c : Nat} (h0 : 1 ≤ l) (hl : l ≤ 64) (hr : r ≤ 6) (hq : q ≤ 6) (hc : c ≤ 6) (c0 c2 c3 c4 : Int) {xs : List S26} (hx : Few xs) (ho : xs.all (okSh l r q c) = true)
  {X Y : List Int} (hX : U64s X) (hY : U64s Y) (lX : X.length = xs.length * r * q * c) (lY : Y.length = X.length)
include h0 hl hr hq hc hx ho hX hY lX lY
end
end Go.Proofs.Ytcmaidpoolcelaa.Lem
namespace Go.Proofs.Ytcmaidpoolcelaa.Lem
open Go.RowKit Go.Proofs.Ytcmaidpoolcelaa.P Go.Proofs.Ytcmaidpoolcelaa.Num Go.Proofs.YtcmaidpoolcelaaW.PrintWords Go.Proofs.YtcmaidpoolcelaaW.PrintMore
set_option linter.unusedVariables false

def fst0 (xs : List S26) : List Int := xs.flatMap fun s => s.f0
theorem fst0_u64 {xs : List S26} (h : Few xs) : U64s (fst0 xs) := by
  intro x hx
  unfold fst0 at hx
  rw [List.mem_flatMap] at hx
  obtain ⟨s, hs, hx⟩ := hx
  exact (h.2 s hs).1 x hx
theorem fst0_lows {l : Nat} {xs : List S26} (h : ∀ s ∈ xs, lows l s.f0 = true) : lows l (fst0 xs) = true := by
  unfold lows
  rw [List.all_eq_true]
  intro x hx
  unfold fst0 at hx
  rw [List.mem_flatMap] at hx
  obtain ⟨s, hs, hx⟩ := hx
  have := h s hs
  unfold lows at this
  exact List.all_eq_true.1 this x hx
theorem fst0_len {xs : List S26} (h : Few xs) : (fst0 xs).length ≤ 1800 := by
  have := flat_len (fun s : S26 => s.f0) 60 xs (fun s hs => (h.2 s hs).2.2.2.1)
  have h2 := h.1
  unfold fst0
  omega
theorem fst0_snoc (xs : List S26) (i : Nat) (h : i < xs.length) : fst0 (xs.take i) ++ (rd_T26 xs (i : Int)).f0 = fst0 (xs.take (i + 1)) := sh_snoc (fun s => s.f0) xs i h
theorem few_take {xs : List S26} (h : Few xs) (i : Nat) : Few (xs.take i) := ⟨by rw [List.length_take]; have := h.1; omega, fun s hs => h.2 s (List.mem_of_mem_take hs)⟩
theorem allBits_few {xs : List S26} (h : Few xs) (l : Nat) (hl : l ≤ 64) : (allBits l (fst0 xs)).length ≤ 1800 * 64 := by
  rw [allBits_len]; exact Nat.mul_le_mul (fst0_len h) hl

/-- the bits of a vector, as a list -/
theorem bools_loop (n : Nat) (W : List Int) (L : List Bool) (hW : Words64 W) (hL : L.length = n) (hn : n ≤ 200000) (hl : n ≤ 64 * W.length) (hb : ∀ j, bitAt W j = L.getD j false) (d : Nat) : ∀ (k i : Nat) (X : List Bool), i + d = n → d < k → X.length = n → (∀ j, j < i → X[j]? = L[j]?) →
    bits_Vec_Bools.l0 k X (n : Int) (i : Int) (n : Int) W = some L := by
  induction d with
  | zero =>
    intro k i X hi hk hX hq
    obtain ⟨k, rfl⟩ : ∃ q, k = q + 1 := ⟨k - 1, by omega⟩
    simp only [bits_Vec_Bools.l0]
    rw [if_neg (by omega)]
    congr 1
    apply List.ext_getElem?
    intro j
    by_cases hj : j < n
    · exact hq j (by omega)
    · rw [List.getElem?_eq_none (by omega), List.getElem?_eq_none (by omega)]
  | succ d ih =>
    intro k i X hi hk hX hq
    obtain ⟨k, rfl⟩ : ∃ q, k = q + 1 := ⟨k - 1, by omega⟩
    have hil : i < n := by omega
    have hiL : i < L.length := by omega
    have nx := ih k (i + 1) (X.set i (bitAt W i)) (by omega) (by omega) (by rw [List.length_set]; exact hX) (by
      intro j hj
      by_cases h : i = j
      · subst h; rw [List.getElem?_set_self (by omega), hb i, List.getElem?_eq_getElem hiL, List.getD_eq_getElem?_getD, List.getElem?_eq_getElem hiL]; rfl
      · rw [List.getElem?_set_ne h]; exact hq j (by omega))
    have t1 : (i : Int) < (n : Int) := by omega
    have t2 : (0 : Int) ≤ (i : Int) := by omega
    have t3 : (i : Int) < (X.length : Int) := by omega
    have g := get_f n i W hW hil (by omega) hl
    have e5 : wrap64 ((i : Int) + 1) = ((i + 1 : Nat) : Int) := by rw [w64 (by omega) (by omega)]; omega
    simp only [bits_Vec_Bools.l0]
    rw [if_pos t1, g, Option.bind_some, if_pos t2, if_pos t3, Int.toNat_natCast, e5]
    exact nx
theorem bools_f (k : Nat) (W : List Int) (L : List Bool) (hW : Words64 W) (hn : L.length ≤ 200000) (hl : W.length = wordsOf L.length) (hb : ∀ j, bitAt W j = L.getD j false) (hk : 200001 ≤ k) : bits_Vec_Bools.f k (L.length : Int) W = some L := by
  unfold bits_Vec_Bools.f
  have hw := words_len L.length
  rw [← hl] at hw
  rw [if_pos (by omega), if_pos (by rw [Int.toNat_natCast]; omega), Option.bind_some, Int.toNat_natCast, List.length_replicate]
  exact bools_loop L.length W L hW rfl hn hw hb L.length k 0 _ (by omega) (by omega) (by simp) (by intro j hj; omega)
/-- the blocks that are spread -/
def chop (q c : Nat) (a : List Int) : List (List Int) := (List.range q).map fun b => (a.drop (b * c)).take c
def blks (r q c : Nat) (s : S26) : List (List Int) := (List.replicate r (chop q c s.f1)).flatten
def allBlks (r q c : Nat) (xs : List S26) : List (List Int) := xs.flatMap (blks r q c)
theorem chop_len (q c : Nat) (a : List Int) : (chop q c a).length = q := by simp [chop]
theorem blks_len (r q c : Nat) (s : S26) : (blks r q c s).length = r * q := by
  unfold blks
  induction r with
  | zero => simp
  | succ r ih => rw [List.replicate_succ, List.flatten_cons, List.length_append, ih, chop_len, Nat.succ_mul, Nat.add_comm]
theorem rep_at (L : List (List Int)) (q : Nat) (hq : L.length = q) (h0 : 0 < q) : ∀ (r x : Nat), x < r * q → (List.replicate r L).flatten[x]? = L[x % q]? := by
  intro r
  induction r with
  | zero => intro x hx; omega
  | succ r ih =>
    intro x hx
    rw [List.replicate_succ, List.flatten_cons]
    by_cases h : x < q
    · rw [List.getElem?_append_left (by omega), Nat.mod_eq_of_lt h]
    · rw [Nat.succ_mul] at hx
      rw [List.getElem?_append_right (by omega), hq, ih (x - q) (by omega)]
      congr 1
      exact (Nat.mod_eq_sub_mod (by omega)).symm
theorem blks_at (r q c : Nat) (s : S26) (x : Nat) (hx : x < r * q) (h0 : 0 < q) : (blks r q c s)[x]? = some ((s.f1.drop (x % q * c)).take c) := by
  unfold blks
  rw [rep_at (chop q c s.f1) q (chop_len ..) h0 r x hx]
  simp [chop, Nat.mod_lt x h0]
theorem chop_flat (c : Nat) : ∀ (q : Nat) (a : List Int), a.length = q * c → (chop q c a).flatten = a := by
  intro q
  induction q with
  | zero => intro a h; rw [Nat.zero_mul] at h; rw [List.length_eq_zero_iff.1 h]; rfl
  | succ q ih =>
    intro a h
    rw [Nat.succ_mul] at h
    have e : chop (q + 1) c a = a.take c :: chop q c (a.drop c) := by
      unfold chop
      rw [List.range_succ_eq_map, List.map_cons, List.map_map]
      congr 1
      · simp
      · apply List.map_congr_left
        intro b _
        simp only [Function.comp, List.drop_drop]
        rw [Nat.succ_mul, Nat.add_comm c]
    rw [e, List.flatten_cons, ih (a.drop c) (by rw [List.length_drop]; omega), List.take_append_drop]
theorem blks_flat (r q c : Nat) (s : S26) (h : s.f1.length = q * c) : (blks r q c s).flatten = (List.replicate r s.f1).flatten := by
  unfold blks
  induction r with
  | zero => rfl
  | succ r ih => rw [List.replicate_succ, List.flatten_cons, List.flatten_append, chop_flat c q s.f1 h, ih, List.replicate_succ, List.flatten_cons]
theorem blks_ok (l r q c : Nat) (s : S26) (h : s.f1.length = q * c) (hu : U64s s.f1) (hl : lows l s.f1 = true) : ∀ g ∈ blks r q c s, g.length = c ∧ U64s g ∧ lows l g = true := by
  intro g hg
  unfold blks at hg
  rw [List.mem_flatten] at hg
  obtain ⟨L, hL, hg⟩ := hg
  rw [(List.mem_replicate.1 hL).2] at hg
  unfold chop at hg
  rw [List.mem_map] at hg
  obtain ⟨b, hb, rfl⟩ := hg
  rw [List.mem_range] at hb
  have hm : (b + 1) * c ≤ q * c := Nat.mul_le_mul_right c hb
  rw [Nat.succ_mul] at hm
  refine ⟨by rw [List.length_take, List.length_drop]; omega, fun x hx => hu x (List.mem_of_mem_drop (List.mem_of_mem_take hx)), ?_⟩
  unfold lows at hl ⊢
  rw [List.all_eq_true] at hl ⊢
  exact fun x hx => hl x (List.mem_of_mem_drop (List.mem_of_mem_take hx))
end Go.Proofs.Ytcmaidpoolcelaa.Lem
namespace Go.Proofs.Ytcmaidpoolcelaa.Lem
open Go.RowKit Go.Proofs.Ytcmaidpoolcelaa.P Go.Proofs.Ytcmaidpoolcelaa.Num Go.Proofs.YtcmaidpoolcelaaW.PrintWords Go.Proofs.YtcmaidpoolcelaaW.PrintMore
set_option linter.unusedVariables false

theorem allBlks_len (r q c : Nat) (xs : List S26) (hrq : r * q ≤ 6 * 6) (hx : xs.length ≤ 30) : (allBlks r q c xs).length ≤ 1080 := by
  have := flat_len (blks r q c) 36 xs (fun s _ => by rw [blks_len]; exact hrq)
  unfold allBlks
  omega
theorem allBlks_ok (l r q c : Nat) (xs : List S26) (hx : Few xs) (ho : xs.all (okSh l r q c) = true) : ∀ g ∈ allBlks r q c xs, g.length = c ∧ U64s g ∧ lows l g = true := by
  intro g hg
  unfold allBlks at hg
  rw [List.mem_flatMap] at hg
  obtain ⟨s, hs, hg⟩ := hg
  obtain ⟨_, b, _, e⟩ := okSh_iff (List.all_eq_true.1 ho s hs)
  exact blks_ok l r q c s b (hx.2 s hs).2.1 e g hg

theorem allBlks_flat (l r q c : Nat) (xs : List S26) (ho : xs.all (okSh l r q c) = true) : (allBlks r q c xs).flatten = xs.flatMap fun s => (List.replicate r s.f1).flatten := by
  induction xs with
  | nil => rfl
  | cons x xs ih =>
    rw [List.all_cons, Bool.and_eq_true] at ho
    have e : allBlks r q c (x :: xs) = blks r q c x ++ allBlks r q c xs := by unfold allBlks; rw [List.flatMap_cons]
    rw [e, List.flatten_append, ih ho.2, blks_flat r q c x (okSh_iff ho.1).2.1, List.flatMap_cons]

theorem wrong_all {ck : Int} {l r q c : Nat} {xs : List S26} (h : wrongOf ck l r q c xs = 0) : ck = 0 ∧ xs.all (okSh l r q c) = true := by
  unfold wrongOf at h
  by_cases h1 : ck = 0
  · rw [if_pos h1] at h
    by_cases h2 : xs.all (okSh l r q c) = true
    · exact ⟨h1, h2⟩
    · rw [if_neg h2] at h; omega
  · rw [if_neg h1] at h; exact absurd h h1

/-- what both choose: the bits, and the code -/
def chB (w : Int) (l : Nat) (xs : List S26) : List Bool := if w = 0 then allBits l (fst0 xs) else []
def spB (w : Int) (l r q c : Nat) (xs : List S26) : List Int := if w = 0 then spreadAll l (allBlks r q c xs) else []
def Held (t : Int × List Int × Int) (L : List Bool) (w : Int) : Prop := t.1 = (L.length : Int) ∧ t.2.2 = w ∧ Words64 t.2.1 ∧ t.2.1.length = wordsOf L.length ∧ ∀ j, bitAt t.2.1 j = L.getD j false
theorem held_none (w : Int) : Held (0, [], w) [] w := ⟨rfl, rfl, fun x hx => by simp at hx, by simp [wordsOf], by intro j; simp [bitAt, rd]⟩

end Go.Proofs.Ytcmaidpoolcelaa.Lem
namespace Go.Proofs.Ytcmaidpoolcelaa.Lem
open Go.RowKit Go.Proofs.Ytcmaidpoolcelaa.P Go.Proofs.Ytcmaidpoolcelaa.Num Go.Proofs.YtcmaidpoolcelaaW.PrintWords Go.Proofs.YtcmaidpoolcelaaW.PrintMore
set_option linter.unusedVariables false
set_option linter.unusedSectionVars false

def finR (W : Int) (l r q c : Nat) (xs : List S26) (sent got : List Int) : List S26 × Int :=
  if W = 0 then (if okFold l c sent = true then (if okFold l c got = true then (if (foldF l sent c (sent.length / (l * c))).length = r * q * c * xs.length ∧ (foldF l got c (got.length / (l * c))).length = r * q * c * xs.length then (finP l r q c xs (foldF l sent c (sent.length / (l * c))) (foldF l got c (got.length / (l * c))) xs.length, 0) else ([], 11)) else ([], 11)) else ([], 11)) else ([], W)
theorem foldR_ok {l n : Nat} {xs : List Int} (h : okFold l n xs = true) : foldR l n xs = (foldF l xs n (xs.length / (l * n)), 0) := if_pos h
theorem foldR_no {l n : Nat} {xs : List Int} (h : ¬ okFold l n xs = true) : foldR l n xs = ([], 11) := if_neg h
end Go.Proofs.Ytcmaidpoolcelaa.Lem
namespace Go.Proofs.Ytcmaidpoolcelaa.Lem
open Go.RowKit Go.Proofs.Ytcmaidpoolcelaa.P Go.Proofs.Ytcmaidpoolcelaa.Num Go.Proofs.YtcmaidpoolcelaaW.PrintWords Go.Proofs.YtcmaidpoolcelaaW.PrintMore
set_option linter.unusedVariables false
set_option linter.unusedSectionVars false

/-! numbers that are the same but for a modulus -/
def Cg (N a b : Nat) : Prop := a % N = b % N
theorem Cg.rfl_ {N a : Nat} : Cg N a a := rfl
theorem Cg.of_eq {N a b : Nat} (h : a = b) : Cg N a b := by rw [h]; exact rfl
theorem Cg.symm {N a b : Nat} (h : Cg N a b) : Cg N b a := Eq.symm h
theorem Cg.trans {N a b c : Nat} (h : Cg N a b) (h2 : Cg N b c) : Cg N a c := Eq.trans h h2
theorem Cg.add {N a b c d : Nat} (h : Cg N a b) (h2 : Cg N c d) : Cg N (a + c) (b + d) := by
  unfold Cg at *
  rw [Nat.add_mod, h, h2, ← Nat.add_mod]
theorem Cg.mul {N a b c d : Nat} (h : Cg N a b) (h2 : Cg N c d) : Cg N (a * c) (b * d) := by
  unfold Cg at *
  rw [Nat.mul_mod, h, h2, ← Nat.mul_mod]
theorem Cg.mod (N a : Nat) : Cg N (a % N) a := Nat.mod_mod _ _

/-! the document's Split -/
def minS (l : Nat) (noise : List Int) (k : Nat) : Nat := if noise.length = 0 then 0 else nv noise (k % noise.length) % 2 ^ l
def wantS (n : Nat) (s : List Int) (bs : List Bool) (k : Nat) : Nat := if rdOf false bs ((k / n : Nat) : Int) = true then nv s k else 0
def spP (l : Nat) (noise : List Int) (m : Nat) : List Int := (List.range m).map fun k => ((minS l noise k : Nat) : Int)
def spQ (l n : Nat) (s : List Int) (bs : List Bool) (noise : List Int) (m : Nat) : List Int := (List.range m).map fun k => ((subN l (wantS n s bs k) (minS l noise k) : Nat) : Int)
theorem spP_succ (l : Nat) (noise : List Int) (m : Nat) : spP l noise m ++ [((minS l noise m : Nat) : Int)] = spP l noise (m + 1) := by
  unfold spP
  rw [List.range_succ, List.map_append]
  rfl
theorem spQ_succ (l n : Nat) (s : List Int) (bs : List Bool) (noise : List Int) (m : Nat) : spQ l n s bs noise m ++ [((subN l (wantS n s bs m) (minS l noise m) : Nat) : Int)] = spQ l n s bs noise (m + 1) := by
  unfold spQ
  rw [List.range_succ, List.map_append]
  rfl
theorem spP_len (l : Nat) (noise : List Int) (m : Nat) : (spP l noise m).length = m := by simp [spP]
theorem spQ_len (l n : Nat) (s : List Int) (bs : List Bool) (noise : List Int) (m : Nat) : (spQ l n s bs noise m).length = m := by simp [spQ]
theorem minS_lt (l : Nat) (noise : List Int) (k : Nat) : minS l noise k < 2 ^ l := by
  unfold minS
  split
  · exact Nat.two_pow_pos l
  · exact Nat.mod_lt _ (Nat.two_pow_pos l)
theorem nv_map (f : Nat → Nat) (m k : Nat) (h : k < m) : nv ((List.range m).map fun k => ((f k : Nat) : Int)) k = f k := by
  unfold nv rd
  rw [Int.toNat_natCast, List.getD_eq_getElem?_getD, List.getElem?_map, List.getElem?_range h]
  exact Int.toNat_natCast _
theorem u64_of_lt (f : Nat → Nat) (m : Nat) (h : ∀ k, f k < 18446744073709551616) : U64s ((List.range m).map fun k => ((f k : Nat) : Int)) := by
  intro x hx
  obtain ⟨k, -, rfl⟩ := List.mem_map.1 hx
  have := h k
  omega
theorem low_of_lt (l : Nat) (f : Nat → Nat) (m : Nat) (h : ∀ k, f k < 2 ^ l) : lows l ((List.range m).map fun k => ((f k : Nat) : Int)) = true := by
  unfold lows
  rw [List.all_eq_true]
  intro x hx
  obtain ⟨k, -, rfl⟩ := List.mem_map.1 hx
  have := h k
  rw [decide_eq_true_eq]
  exact Int.ofNat_lt.2 this
theorem subN_lt' (l a b : Nat) : subN l a b < 2 ^ l := Nat.mod_lt _ (Nat.two_pow_pos l)
section
variable {l n : Nat} (hl : l ≤ 64) (hn : 1 ≤ n) {s : List Int} {bs : List Bool} {noise : List Int} (hs : U64s s) (hno : U64s noise) (ls : s.length ≤ 1000000) (lb : bs.length ≤ 1000000) (lno : noise.length ≤ 9223372036854775807)
include hl hn hs hno ls lb lno
theorem split_step (k i : Nat) (hk : 200 < k) (hi : i < s.length) (P Q : List Int) (hP : P.length ≤ 1000000) (hQ : Q.length ≤ 1000000) :
    trefoilref22_Split.l0 (k + 1) (l : Int) (n : Int) s bs noise P Q (i : Int) = trefoilref22_Split.l0 k (l : Int) (n : Int) s bs noise (P ++ [((minS l noise i : Nat) : Int)]) (Q ++ [((subN l (wantS n s bs i) (minS l noise i) : Nat) : Int)]) ((i + 1 : Nat) : Int) := by
  obtain ⟨v, hv⟩ : ∃ v, v = i / n := ⟨_, rfl⟩
  have hd : v ≤ i := by rw [hv]; exact Nat.div_le_self _ _
  obtain ⟨q1, q2⟩ := nv_eq hs i hi
  have hm := Nat.lt_of_lt_of_le (minS_lt l noise i) (pow_le_64 hl)
  have t1 : (i : Int) < (s.length : Int) := Int.ofNat_lt.2 hi
  have t2 : ¬ (n : Int) = 0 := by clear hv; omega
  have t3 : (0 : Int) ≤ (v : Int) := Int.natCast_nonneg _
  have t4 : (0 : Int) ≤ (i : Int) := Int.natCast_nonneg _
  have t5 : P.length < 17592186044416 := by clear hv; omega
  have t6 : Q.length < 17592186044416 := by clear hv; omega
  have hk1 : 100 ≤ k := by clear hv; omega
  have z0 : (0 : Int) = ((0 : Nat) : Int) := rfl
  have hvi : (v : Int) ≤ 9223372036854775807 := by clear hv; omega
  have hi1 : (i : Int) + 1 ≤ 9223372036854775807 := by clear hv; omega
  have hv0 : -9223372036854775808 ≤ (v : Int) := by clear hv; omega
  have hi0 : -9223372036854775808 ≤ (i : Int) + 1 := by clear hv; omega
  have hbt : v < bs.length → (v : Int) < (bs.length : Int) := fun h => Int.ofNat_lt.2 h
  have hbf : ¬ v < bs.length → ¬ (v : Int) < (bs.length : Int) := fun h h2 => h (Int.ofNat_lt.1 h2)
  have hzp : ¬ noise.length = 0 → 0 < noise.length := fun h => Nat.pos_of_ne_zero h
  have hnone : ¬ v < bs.length → ¬ rdOf false bs ((v : Nat) : Int) = true := fun h => by
    unfold rdOf
    rw [Int.toNat_natCast, List.getD_eq_getElem?_getD, List.getElem?_eq_none (Nat.le_of_not_lt h)]
    simp
  have hwant : ∀ x, rdOf false bs ((v : Nat) : Int) = x → wantS n s bs i = if x = true then nv s i else 0 := fun x hx => by unfold wantS; rw [← hv, hx]
  have e5 : wrap64 ((i : Int) + 1) = ((i + 1 : Nat) : Int) := (w64 hi0 hi1).trans (Int.natCast_add i 1).symm
  have e6 : wrap64 (Int.tdiv (i : Int) (n : Int)) = (v : Int) := by rw [tdiv_nat, ← hv]; exact w64 hv0 hvi
  clear hv hvi hi1 hv0 hi0
  simp only [trefoilref22_Split.l0]
  rw [if_pos t1, if_neg t2, e6]
  by_cases hz : noise.length = 0
  · have hm0 : minS l noise i = 0 := by unfold minS; rw [if_pos hz]
    have t7 : ¬ (noise.length : Int) > 0 := by rw [hz]; decide
    rw [if_neg t7, hm0]
    by_cases hb : v < bs.length
    · rw [if_pos (hbt hb), if_pos t3]
      by_cases hc : rdOf false bs ((v : Nat) : Int) = true
      · rw [hwant _ hc, if_pos hc, if_pos t4, if_pos t5, q1, z0, sub_r k l _ _ hk1 hl q2 (by decide), Option.bind_some, if_pos t6, e5, if_pos rfl]
      · rw [hwant _ rfl, if_neg hc, if_neg hc, if_pos t5, z0, sub_r k l _ _ hk1 hl (by decide) (by decide), Option.bind_some, if_pos t6, e5]
    · have hw : wantS n s bs i = 0 := by rw [hwant _ rfl, if_neg (hnone hb)]
      rw [hw, if_neg (hbf hb), if_pos t5, z0, sub_r k l _ _ hk1 hl (by decide) (by decide), Option.bind_some, if_pos t6, e5]
  · have hlt : i % noise.length < noise.length := Nat.mod_lt _ (hzp hz)
    obtain ⟨p1, p2⟩ := nv_eq hno _ hlt
    have hm0 : minS l noise i = nv noise (i % noise.length) % 2 ^ l := by unfold minS; rw [if_neg hz]
    have t7 : (noise.length : Int) > 0 := Int.ofNat_lt.2 (hzp hz)
    have t9 : ¬ (noise.length : Int) = 0 := fun h => hz (Int.ofNat.inj h)
    have u1 : (0 : Int) ≤ ((i % noise.length : Nat) : Int) := Int.natCast_nonneg _
    have u2 : ((i % noise.length : Nat) : Int) < (noise.length : Int) := Int.ofNat_lt.2 hlt
    rw [if_pos t7, if_neg t9, tmod_nat, if_pos u1, if_pos u2, p1, fit_r k hk1 l _ hl p2, Option.bind_some, ← hm0, if_neg t2]
    by_cases hb : v < bs.length
    · rw [if_pos (hbt hb), if_pos t3]
      by_cases hc : rdOf false bs ((v : Nat) : Int) = true
      · rw [hwant _ hc, if_pos hc, if_pos t4, if_pos t5, q1, sub_r k l _ _ hk1 hl q2 hm, Option.bind_some, if_pos t6, e5, if_pos rfl]
      · rw [hwant _ rfl, if_neg hc, if_neg hc, if_pos t5, z0, sub_r k l _ _ hk1 hl (by decide) hm, Option.bind_some, if_pos t6, e5]
    · have hw : wantS n s bs i = 0 := by rw [hwant _ rfl, if_neg (hnone hb)]
      rw [hw, if_neg (hbf hb), if_pos t5, z0, sub_r k l _ _ hk1 hl (by decide) hm, Option.bind_some, if_pos t6, e5]
theorem split_loop (d : Nat) : ∀ (k i : Nat), i + d = s.length → d + 300 < k →
    trefoilref22_Split.l0 k (l : Int) (n : Int) s bs noise (spP l noise i) (spQ l n s bs noise i) (i : Int) = some (spP l noise s.length, spQ l n s bs noise s.length) := by
  induction d with
  | zero =>
    intro k i hi hk
    obtain rfl : i = s.length := by omega
    obtain ⟨k, rfl⟩ : ∃ q, k = q + 1 := ⟨k - 1, by omega⟩
    simp only [trefoilref22_Split.l0]
    rw [if_neg (by omega)]
  | succ d ih =>
    intro k i hi hk
    obtain ⟨k, rfl⟩ : ∃ q, k = q + 1 := ⟨k - 1, by omega⟩
    rw [split_step hl hn hs hno ls lb lno k i (by omega) (by omega) _ _ (by rw [spP_len]; omega) (by rw [spQ_len]; omega), spP_succ, spQ_succ]
    exact ih k (i + 1) (by omega) (by omega)
theorem split_f (k : Nat) (hk : 1000400 ≤ k) : trefoilref22_Split.f k (l : Int) (n : Int) s bs noise = some (spP l noise s.length, spQ l n s bs noise s.length) :=
  split_loop hl hn hs hno ls lb lno s.length k 0 (by omega) (by omega)
end
/-! what is sent and what is got: together what was wanted -/
theorem min_sub (l w m : Nat) (hl : l ≤ 64) (hm : m ≤ 18446744073709551616) : Cg (2 ^ l) (m + subN l w m) w := by
  unfold subN
  refine (Cg.add (Cg.rfl_ (a := m)) (Cg.mod _ _)).trans ?_
  obtain ⟨t, ht⟩ := dvd64 hl
  have e : m + (w + (18446744073709551616 - m)) = w + 2 ^ l * t := by omega
  unfold Cg
  rw [e, Nat.add_mul_mod_self_left]
def sumN (f : Nat → Nat) : Nat → Nat
  | 0 => 0
  | t + 1 => sumN f t + f t
theorem sumN_cg (N : Nat) (f g : Nat → Nat) (t : Nat) (h : ∀ τ, τ < t → Cg N (f τ) (g τ)) : Cg N (sumN f t) (sumN g t) := by
  induction t with
  | zero => exact Cg.rfl_
  | succ t ih => exact (ih (fun τ hτ => h τ (by omega))).add (h t (by omega))
theorem sumF_pair (l n : Nat) (hl : l ≤ 64) (s : List Int) (bs : List Bool) (noise : List Int) (M p t : Nat) (h : ∀ τ, τ < t → p + τ * n < M) :
    Cg (2 ^ l) (sumF (spP l noise M) n p t + sumF (spQ l n s bs noise M) n p t) (sumN (fun τ => wantS n s bs (p + τ * n)) t) := by
  induction t with
  | zero => exact Cg.rfl_
  | succ t ih =>
    have h1 := ih (fun τ hτ => h τ (by omega))
    have h2 := h t (by omega)
    have e1 : nv (spP l noise M) (p + t * n) = minS l noise (p + t * n) := nv_map _ M _ h2
    have e2 : nv (spQ l n s bs noise M) (p + t * n) = subN l (wantS n s bs (p + t * n)) (minS l noise (p + t * n)) := nv_map _ M _ h2
    have h3 := min_sub l (wantS n s bs (p + t * n)) (minS l noise (p + t * n)) hl (Nat.le_of_lt (Nat.lt_of_lt_of_le (minS_lt l noise _) (pow_le_64 hl)))
    simp only [sumF, sumN]
    rw [e1, e2]
    refine Cg.trans (Cg.of_eq ?_) (h1.add h3)
    omega
/-- numbers doubled, where a bit is set: the product -/
theorem sum_bits (N a b t : Nat) : Cg N (sumN (fun τ => if a.testBit τ = true then b * 2 ^ τ % N else 0) t) (b * (a % 2 ^ t)) := by
  induction t with
  | zero => rw [Nat.pow_zero, Nat.mod_one, Nat.mul_zero]; exact Cg.rfl_
  | succ t ih =>
    rw [mod_pow_succ, Nat.mul_add]
    refine ih.add ?_
    show Cg N (if a.testBit t = true then b * 2 ^ t % N else 0) _
    rw [Nat.testBit_eq_decide_div_mod_eq]
    by_cases h : a / 2 ^ t % 2 = 1
    · rw [h]
      simp only [decide_true, if_true, Nat.one_mul]
      exact Cg.mod _ _
    · have h0 : a / 2 ^ t % 2 = 0 := by omega
      rw [h0]
      simp only [Nat.zero_mul, Nat.mul_zero]
      exact Cg.of_eq rfl
end Go.Proofs.Ytcmaidpoolcelaa.Lem
namespace Go.Proofs.Ytcmaidpoolcelaa.Lem
open Go.RowKit Go.Proofs.Ytcmaidpoolcelaa.P Go.Proofs.Ytcmaidpoolcelaa.Num Go.Proofs.YtcmaidpoolcelaaW.PrintWords Go.Proofs.YtcmaidpoolcelaaW.PrintMore
set_option linter.unusedVariables false
set_option linter.unusedSectionVars false

/-- lists of one length, one behind the other -/
theorem flat_at {α β : Type} (f : α → List β) (n : Nat) : ∀ (xs : List α) (h : ∀ x ∈ xs, (f x).length = n) (i j : Nat) (hj : j < n) (hi : i < xs.length), (xs.flatMap f)[i * n + j]? = (f xs[i])[j]?
  | [], _, i, j, _, hi => by simp at hi
  | x :: xs, h, 0, j, hj, _ => by
    rw [List.flatMap_cons, Nat.zero_mul, Nat.zero_add, List.getElem?_append_left (by rw [h x (List.mem_cons_self ..)]; exact hj)]
    rfl
  | x :: xs, h, i + 1, j, hj, hi => by
    have e := h x (List.mem_cons_self ..)
    rw [List.flatMap_cons, Nat.succ_mul, List.getElem?_append_right (by omega), e, show i * n + n + j - n = i * n + j by omega]
    exact flat_at f n xs (fun y hy => h y (List.mem_cons_of_mem _ hy)) i j hj (by simpa using hi)
theorem rd_get? (xs : List Int) (i : Nat) : rd xs (i : Int) = (xs[i]?).getD 0 := by
  unfold rd
  rw [Int.toNat_natCast, List.getD_eq_getElem?_getD]
section
variable {l r q c : Nat} {xs : List S26} (ho : xs.all (okSh l r q c) = true)
include ho
theorem fst_at (i z : Nat) (hi : i < xs.length) (hz : z < r * q) : (fst0 xs)[i * (r * q) + z]? = (rd_T26 xs (i : Int)).f0[z]? := by
  unfold fst0
  rw [flat_at (fun s : S26 => s.f0) (r * q) xs (fun s hs => (okSh_iff (List.all_eq_true.1 ho s hs)).1) i z hz hi, sh_at xs i hi]
theorem blk_at' (i z : Nat) (hi : i < xs.length) (hz : z < r * q) : (allBlks r q c xs)[i * (r * q) + z]? = some (((rd_T26 xs (i : Int)).f1.drop (z % q * c)).take c) := by
  unfold allBlks
  have hq : 0 < q := by
    rcases Nat.eq_zero_or_pos q with h | h
    · rw [h, Nat.mul_zero] at hz; omega
    · exact h
  rw [flat_at (blks r q c) (r * q) xs (fun s _ => blks_len r q c s) i z hz hi, blks_at r q c _ z hz hq, sh_at xs i hi]
theorem fst_len : (fst0 xs).length = xs.length * (r * q) := by
  unfold fst0
  have h : ∀ s ∈ xs, s.f0.length = r * q := fun s hs => (okSh_iff (List.all_eq_true.1 ho s hs)).1
  clear ho
  induction xs with
  | nil => simp
  | cons x xs ih => rw [List.flatMap_cons, List.length_append, h x (List.mem_cons_self ..), ih (fun s hs => h s (List.mem_cons_of_mem _ hs)), List.length_cons, Nat.succ_mul, Nat.add_comm]
omit ho in
theorem blks_len' : (allBlks r q c xs).length = xs.length * (r * q) := by
  unfold allBlks
  induction xs with
  | nil => simp
  | cons x xs ih => rw [List.flatMap_cons, List.length_append, blks_len, ih, List.length_cons, Nat.succ_mul, Nat.add_comm]
theorem blk_len' : ∀ g ∈ allBlks r q c xs, g.length = c := by
  intro g hg
  unfold allBlks at hg
  obtain ⟨s, hs, hg⟩ := List.mem_flatMap.1 hg
  obtain ⟨-, l1, -, -⟩ := okSh_iff (List.all_eq_true.1 ho s hs)
  unfold blks chop at hg
  obtain ⟨L, hL, hg⟩ := List.mem_flatten.1 hg
  rw [(List.mem_replicate.1 hL).2] at hg
  obtain ⟨b, hb, rfl⟩ := List.mem_map.1 hg
  have hm : (b + 1) * c ≤ q * c := Nat.mul_le_mul_right c (List.mem_range.1 hb)
  rw [Nat.succ_mul] at hm
  rw [List.length_take, List.length_drop]
  omega
theorem spread_len' : (spreadAll l (allBlks r q c xs)).length = xs.length * (r * q) * (l * c) := by
  rw [← blks_len' (c := c)]
  have h := blk_len' ho
  unfold spreadAll
  generalize allBlks r q c xs = gs at h ⊢
  clear ho
  induction gs with
  | nil => simp
  | cons g gs ih => rw [List.flatMap_cons, List.length_append, spreadB_len, h g (List.mem_cons_self ..), ih (fun s hs => h s (List.mem_cons_of_mem _ hs)), List.length_cons, Nat.succ_mul, Nat.add_comm]
/-- what is spread: a number of B, doubled -/
theorem spread_at (i z τ b : Nat) (hi : i < xs.length) (hz : z < r * q) (hτ : τ < l) (hb : b < c) : nv (spreadAll l (allBlks r q c xs)) (((i * (r * q) + z) * l + τ) * c + b) = nv (rd_T26 xs (i : Int)).f1 (z % q * c + b) * 2 ^ τ % 2 ^ l := by
  have hg := blk_len' ho
  have hbl := blk_at' ho i z hi hz
  have hgl : i * (r * q) + z < (allBlks r q c xs).length := by rw [blks_len']; exact place_lt hi hz
  obtain ⟨g, hgg⟩ : ∃ g, g = ((rd_T26 xs (i : Int)).f1.drop (z % q * c)).take c := ⟨_, rfl⟩
  rw [← hgg] at hbl
  have hge : (allBlks r q c xs)[i * (r * q) + z] = g := by
    rw [List.getElem?_eq_getElem hgl] at hbl
    exact Option.some.inj hbl
  have hgc : g.length = c := hg g (by rw [← hge]; exact List.getElem_mem hgl)
  have e1 : ((i * (r * q) + z) * l + τ) * c + b = (i * (r * q) + z) * (l * c) + (τ * c + b) := by rw [Nat.add_mul, Nat.mul_assoc, Nat.add_assoc]
  have hlt : τ * c + b < l * c := place_lt hτ hb
  have e2 : (spreadAll l (allBlks r q c xs))[(i * (r * q) + z) * (l * c) + (τ * c + b)]? = (dbl l τ g)[b]? := by
    unfold spreadAll
    rw [flat_at (spreadB l) (l * c) _ (fun g hgm => by rw [spreadB_len, hg g hgm]) _ _ hlt hgl, hge]
    unfold spreadB
    rw [flat_at (fun j => dbl l j g) c (List.range l) (fun j _ => by rw [dbl_len, hgc]) τ b hb (by rw [List.length_range]; exact hτ), List.getElem_range]
  unfold nv
  rw [e1, rd_get?, e2, ← rd_get?, dbl_at l τ g b (by rw [hgc]; exact hb), Int.toNat_natCast]
  congr 3
  rw [rd_get?, rd_get?, hgg, List.getElem?_take, if_pos hb, List.getElem?_drop]
/-- what is chosen by: a bit of A -/
theorem chosen_at (i z τ : Nat) (hi : i < xs.length) (hz : z < r * q) (hτ : τ < l) : rdOf false (allBits l (fst0 xs)) (((i * (r * q) + z) * l + τ : Nat) : Int) = (nv (rd_T26 xs (i : Int)).f0 z).testBit τ := by
  have hgl : i * (r * q) + z < (fst0 xs).length := by rw [fst_len ho]; exact place_lt hi hz
  have e2 : (allBits l (fst0 xs))[(i * (r * q) + z) * l + τ]? = some ((fst0 xs)[i * (r * q) + z].toNat.testBit τ) := by
    unfold allBits
    rw [flat_at (numBits l) l _ (fun x _ => numBits_len l x) _ _ hτ hgl]
    unfold numBits
    rw [List.getElem?_map, List.getElem?_range hτ]
    rfl
  have e3 := fst_at ho i z hi hz
  rw [List.getElem?_eq_getElem hgl] at e3
  unfold rdOf nv
  rw [Int.toNat_natCast, List.getD_eq_getElem?_getD, e2, rd_get?, ← e3]
  rfl
end
/-- a sum of a fold -/
theorem fold_at (l c G : Nat) (xs : List Int) (g b : Nat) (hg : g < G) (hb : b < c) : nv (foldF l xs c G) (g * c + b) = sumF xs c (g * (l * c) + b) l % 2 ^ l := by
  unfold nv foldF
  rw [rd_get?, flat_at (fun i => rowF l xs c (i * (l * c)) l) c (List.range G) (fun i _ => rowF_len ..) g b hb (by rw [List.length_range]; exact hg), List.getElem_range]
  unfold rowF
  rw [List.getElem?_map, List.getElem?_range hb]
  exact Int.toNat_natCast _
section
variable {l r q c : Nat} (hl : l ≤ 64) {xs ys : List S26} (hox : xs.all (okSh l r q c) = true) (hoy : ys.all (okSh l r q c) = true) (hlen : ys.length = xs.length) (hy : Few ys) (noise : List Int)
include hl hox hoy hlen hy
/-- what one sends and the other one gets, folded: the product of A of who chose, and B of who spread -/
theorem folds_prod (i z b : Nat) (hi : i < xs.length) (hz : z < r * q) (hb : b < c) (M : Nat) (hM : M = (spreadAll l (allBlks r q c xs)).length) :
    Cg (2 ^ l) (nv (foldF l (spP l noise M) c (xs.length * (r * q))) ((i * (r * q) + z) * c + b) + nv (foldF l (spQ l c (spreadAll l (allBlks r q c xs)) (allBits l (fst0 ys)) noise M) c (xs.length * (r * q))) ((i * (r * q) + z) * c + b)) (nv (rd_T26 ys (i : Int)).f0 z * nv (rd_T26 xs (i : Int)).f1 (z % q * c + b)) := by
  have hgl : i * (r * q) + z < xs.length * (r * q) := place_lt hi hz
  have hiy : i < ys.length := by rw [hlen]; exact hi
  rw [fold_at l c _ _ _ _ hgl hb, fold_at l c _ _ _ _ hgl hb]
  rw [spread_len' hox] at hM
  have e0 : ∀ g τ : Nat, g * (l * c) + b + τ * c = (g * l + τ) * c + b := fun g τ => by rw [Nat.add_mul, Nat.mul_assoc]; omega
  have e1 : ∀ τ, (i * (r * q) + z) * (l * c) + b + τ * c = ((i * (r * q) + z) * l + τ) * c + b := fun τ => e0 _ τ
  refine (Cg.add (Cg.mod _ _) (Cg.mod _ _)).trans ?_
  refine (sumF_pair l c hl _ _ noise M _ l (fun τ hτ => by
    rw [e1, hM]
    have h1 : (i * (r * q) + z) * l + τ < xs.length * (r * q) * l := place_lt hgl hτ
    rw [show xs.length * (r * q) * (l * c) = xs.length * (r * q) * l * c from (Nat.mul_assoc _ _ _).symm]
    exact place_lt h1 hb)).trans ?_
  obtain ⟨a, ha⟩ : ∃ a, a = nv (rd_T26 ys (i : Int)).f0 z := ⟨_, rfl⟩
  obtain ⟨x, hx⟩ : ∃ x, x = nv (rd_T26 xs (i : Int)).f1 (z % q * c + b) := ⟨_, rfl⟩
  rw [← ha, ← hx]
  refine (sumN_cg (2 ^ l) _ (fun τ => if a.testBit τ = true then x * 2 ^ τ % 2 ^ l else 0) l (fun τ hτ => Cg.of_eq ?_)).trans ?_
  · show wantS c _ _ ((i * (r * q) + z) * (l * c) + b + τ * c) = _
    rw [e1]
    unfold wantS
    rw [(place _ b c hb).1, chosen_at hoy i z τ hiy hz hτ, spread_at hox i z τ b hi hz hτ hb, ← ha, ← hx]
  · refine (sum_bits (2 ^ l) a x l).trans ?_
    have hs := sh_mem ys i hiy
    obtain ⟨l0, -, lo0, -⟩ := okSh_iff (List.all_eq_true.1 hoy _ hs)
    have hz0 : z < (rd_T26 ys (i : Int)).f0.length := by rw [l0]; exact hz
    obtain ⟨e3, -⟩ := nv_eq (hy.2 _ hs).1 z hz0
    have hm : rd (rd_T26 ys (i : Int)).f0 (z : Int) ∈ (rd_T26 ys (i : Int)).f0 := rd_mem _ z hz0
    unfold lows at lo0
    have h4 := List.all_eq_true.1 lo0 _ hm
    rw [decide_eq_true_eq, e3, ← ha] at h4
    rw [Nat.mod_eq_of_lt (Int.ofNat_lt.1 h4), Nat.mul_comm]
    exact Cg.rfl_
end
/-- both sums of products together: the product of the sums -/
theorem prod_pair (N q c : Nat) (A B X Y A' B' X' Y' SA SB : List Int) (at_ a b : Nat) (t : Nat)
    (hA : ∀ τ, τ < t → Cg N (rd SA ((a * q + τ : Nat) : Int)).toNat (nv A (a * q + τ) + nv A' (a * q + τ))) (hB : ∀ τ, τ < t → Cg N (rd SB ((τ * c + b : Nat) : Int)).toNat (nv B (τ * c + b) + nv B' (τ * c + b)))
    (h1 : ∀ τ, τ < t → Cg N (nv X (at_ + (a * q + τ) * c + b) + nv Y' (at_ + (a * q + τ) * c + b)) (nv A' (a * q + τ) * nv B (τ * c + b)))
    (h2 : ∀ τ, τ < t → Cg N (nv X' (at_ + (a * q + τ) * c + b) + nv Y (at_ + (a * q + τ) * c + b)) (nv A (a * q + τ) * nv B' (τ * c + b))) :
    Cg N (prodF q c A B X Y at_ a b t + prodF q c A' B' X' Y' at_ a b t) (prods SA SB (a * q) b c t) := by
  induction t with
  | zero => exact Cg.rfl_
  | succ t ih =>
    have i0 := ih (fun τ hτ => hA τ (by omega)) (fun τ hτ => hB τ (by omega)) (fun τ hτ => h1 τ (by omega)) (fun τ hτ => h2 τ (by omega))
    have i1 := (hA t (by omega)).mul (hB t (by omega))
    have i2 := h1 t (by omega)
    have i3 := h2 t (by omega)
    simp only [prodF, prods]
    generalize nv A (a * q + t) = u at *
    generalize nv A' (a * q + t) = u' at *
    generalize nv B (t * c + b) = v at *
    generalize nv B' (t * c + b) = v' at *
    generalize nv X (at_ + (a * q + t) * c + b) = x at *
    generalize nv Y (at_ + (a * q + t) * c + b) = y at *
    generalize nv X' (at_ + (a * q + t) * c + b) = x' at *
    generalize nv Y' (at_ + (a * q + t) * c + b) = y' at *
    generalize prodF q c A B X Y at_ a b t = s at *
    generalize prodF q c A' B' X' Y' at_ a b t = s' at *
    refine Cg.trans (Cg.of_eq (show s + u * v + (x + y) + (s' + u' * v' + (x' + y')) = (s + s') + ((u * v + u' * v') + ((x + y') + (x' + y))) by omega)) ?_
    refine i0.add (Cg.trans ?_ i1.symm)
    refine ((Cg.rfl_ (a := u * v + u' * v')).add (i2.add i3)).trans (Cg.of_eq ?_)
    rw [Nat.add_mul, Nat.mul_add, Nat.mul_add]
    omega
end Go.Proofs.Ytcmaidpoolcelaa.Lem
namespace Go.Proofs.Ytcmaidpoolcelaa.Lem
open Go.RowKit Go.Proofs.Ytcmaidpoolcelaa.P Go.Proofs.Ytcmaidpoolcelaa.Num Go.Proofs.YtcmaidpoolcelaaW.PrintWords Go.Proofs.YtcmaidpoolcelaaW.PrintMore
set_option linter.unusedVariables false
set_option linter.unusedSectionVars false

/-- what is gathered of a list that was folded: row by row, column by column -/
def gathF (l : Nat) (xs : List Int) (q c z : Nat) : List Int := (List.range z).map fun p => cellF l xs c (p / c * (q * c) + p % c) q
theorem gathF_len (l : Nat) (xs : List Int) (q c z : Nat) : (gathF l xs q c z).length = z := by simp [gathF]
theorem gathF_succ (l : Nat) (xs : List Int) (q c i : Nat) : gathF l xs q c (i * c) ++ rowF l xs c (i * (q * c)) q = gathF l xs q c ((i + 1) * c) := by
  unfold gathF rowF
  rw [Nat.succ_mul, List.range_add, List.map_append, List.map_map]
  congr 1
  apply List.map_congr_left
  intro j hj
  have hj := List.mem_range.1 hj
  show _ = cellF l xs c ((i * c + j) / c * (q * c) + (i * c + j) % c) q
  rw [(place i j c hj).1, (place i j c hj).2]
theorem map_rd (f : Nat → Int) (n i : Nat) (h : i < n) : rd ((List.range n).map f) (i : Int) = f i := by
  show ((List.range n).map f).getD (i : Int).toNat 0 = _
  rw [Int.toNat_natCast, List.getD_eq_getElem?_getD, List.getElem?_eq_getElem (by simp; exact h)]
  simp
theorem sumAll_at (l : Nat) (xs ys : List Int) (i : Nat) (h : i < xs.length) : rd (sumAll l xs ys) (i : Int) = addOf (l : Int) (rd xs i) (rd ys i) := by
  rw [← sumAll_rd l xs ys i h]
  show (sumAll l xs ys).getD (i : Int).toNat 0 = _
  rw [Int.toNat_natCast, List.getD_eq_getElem?_getD, List.getElem?_eq_getElem (by rw [sumAll_len]; exact h)]
  rfl
theorem ext_rd {xs ys : List Int} (hl : xs.length = ys.length) (h : ∀ i, i < xs.length → rd xs (i : Int) = rd ys (i : Int)) : xs = ys := by
  apply List.ext_getElem hl
  intro i h1 h2
  have := h i h1
  unfold rd at this
  rw [Int.toNat_natCast, List.getD_eq_getElem?_getD, List.getD_eq_getElem?_getD, List.getElem?_eq_getElem h1, List.getElem?_eq_getElem h2] at this
  exact this
section
variable {l r q c : Nat} (h0 : 1 ≤ l) (hl : l ≤ 64) (hr : r ≤ 6) (hq : q ≤ 6) (hc : c ≤ 6) (c0 : Int) {xs : List Int} (hx : U64s xs) (hm : xs.length = r * q * c)
include h0 hl hr hq hc hx hm
theorem gth_in (i : Nat) (hi : i < r) (acc : List Int) (ha : acc.length ≤ 1000) (R : Option (List Int)) (d : Nat) : ∀ (k t : Nat), t + d = q → d + 1 < k →
    (∀ k2, k ≤ k2 + d + 1 → matrix_gather.l0 k2 xs (acc ++ rowF l xs c (i * (q * c)) q) (r : Int) ((i + 1 : Nat) : Int) c0 (l : Int) (r : Int) (q : Int) (c : Int) = R) →
    matrix_gather.l1 k xs acc (i : Int) (rowF l xs c (i * (q * c)) t) (r : Int) (i : Int) (q : Int) (t : Int) c0 (l : Int) (r : Int) (q : Int) (c : Int) = R := by
  have hiq : i * q ≤ 36 := sixes (Nat.le_of_lt hi) hr hq
  induction d with
  | zero =>
    intro k t ht hk hR
    obtain rfl : t = q := by omega
    obtain ⟨k, rfl⟩ : ∃ p, k = p + 1 := ⟨k - 1, by omega⟩
    simp only [matrix_gather.l1]
    rw [if_neg (by omega), if_pos (by rw [rowF_len]; omega), succw i (by omega)]
    exact hR k (by omega)
  | succ d ih =>
    intro k t ht hk hR
    obtain ⟨k, rfl⟩ : ∃ p, k = p + 1 := ⟨k - 1, by omega⟩
    have htq : t < q := by omega
    have b1 : i * q + t < r * q := place_lt hi htq
    have b2 : (i * q + t + 1) * c ≤ r * q * c := Nat.mul_le_mul_right _ b1
    have b3 : (i * q + t + 1) * c = (i * q + t) * c + c := Nat.succ_mul _ _
    have b4 : r * q ≤ 36 := sixes (Nat.le_refl r) hr hq
    have b5 : r * q * c ≤ 216 := Nat.le_trans (Nat.mul_le_mul b4 hc) (by decide)
    have e1 : (i * q + t) * c = i * (q * c) + t * c := by rw [Nat.add_mul, Nat.mul_assoc]
    have e2 : (t + 1) * c = t * c + c := Nat.succ_mul t c
    simp only [matrix_gather.l1]
    rw [if_pos (by omega), mulw i q (by omega), addw (i * q) t (by omega), mulw (i * q + t) c (by omega), addw ((i * q + t) * c) c (by omega), if_pos (by omega), if_pos (by omega), if_pos (by omega), Int.toNat_natCast, Int.toNat_natCast]
    rw [addall_f l _ _ (by rw [rowF_len, List.length_drop, List.length_take]; omega) (by rw [rowF_len]; omega), Option.bind_some, succw t (by omega)]
    show matrix_gather.l1 k xs acc (i : Int) (sumAll l (rowF l xs c (i * (q * c)) t) ((xs.take ((i * q + t) * c + c)).drop ((i * q + t) * c))) (r : Int) (i : Int) (q : Int) ((t + 1 : Nat) : Int) c0 (l : Int) (r : Int) (q : Int) (c : Int) = R
    rw [show (i * q + t) * c + c = i * (q * c) + (t + 1) * c by omega, e1, rowF_add xs c (i * (q * c)) t h0 hl hx (by omega)]
    exact ih k (t + 1) (by omega) (by omega) (fun k2 h => hR k2 (by omega))
theorem gth_out (d : Nat) : ∀ (k i : Nat), i + d = r → d * (q + 2) + 2 < k →
    matrix_gather.l0 k xs (gathF l xs q c (i * c)) (r : Int) (i : Int) c0 (l : Int) (r : Int) (q : Int) (c : Int) = some (gathF l xs q c (r * c)) := by
  induction d with
  | zero =>
    intro k i hi hk
    obtain rfl : i = r := by omega
    obtain ⟨k, rfl⟩ : ∃ p, k = p + 1 := ⟨k - 1, by omega⟩
    simp only [matrix_gather.l0]
    rw [if_neg (by omega)]
  | succ d ih =>
    intro k i hi hk
    obtain ⟨k, rfl⟩ : ∃ p, k = p + 1 := ⟨k - 1, by omega⟩
    have hir : i < r := by omega
    have hic : i * c ≤ 36 := sixes (Nat.le_of_lt hir) hr hc
    have e3 : (d + 1) * (q + 2) = d * (q + 2) + (q + 2) := Nat.succ_mul _ _
    simp only [matrix_gather.l0]
    rw [if_pos (by omega), if_pos (by omega), if_pos (by rw [Int.toNat_natCast]; omega), Int.toNat_natCast, rowF_zero l xs c (i * (q * c))]
    refine gth_in h0 hl hr hq hc c0 hx hm i hir _ (by rw [gathF_len]; omega) _ q k 0 (by omega) (by omega) (fun k2 h => ?_)
    rw [gathF_succ]
    exact ih k2 (i + 1) (by omega) (by omega)
theorem gth_f (k : Nat) (hk : 100 ≤ k) : matrix_gather.f k c0 (l : Int) (r : Int) (q : Int) (c : Int) xs = some (gathF l xs q c (r * c)) := by
  have b : r * c ≤ 36 := sixes (Nat.le_refl r) hr hc
  have b2 : r * (q + 2) ≤ 48 := Nat.le_trans (Nat.mul_le_mul hr (show q + 2 ≤ 8 by omega)) (by decide)
  unfold matrix_gather.f
  rw [mulw r c (by omega), if_pos (by omega), if_pos (by rw [Int.toNat_natCast]; omega)]
  have := gth_out h0 hl hr hq hc c0 hx hm r k 0 (by omega) (by omega)
  simpa [gathF] using this
end
/-- entry by entry -/
theorem prodF_sum (q c : Nat) (A B X Y X1 Y1 : List Int) (at_ a b n : Nat) (hn : ∀ t, t < n → nv X1 (a * (q * c) + b + t * c) = nv X (at_ + (a * q + t) * c + b) ∧ nv Y1 (a * (q * c) + b + t * c) = nv Y (at_ + (a * q + t) * c + b)) : ∀ t, t ≤ n →
    prodF q c A B X Y at_ a b t = prods A B (a * q) b c t + sumF X1 c (a * (q * c) + b) t + sumF Y1 c (a * (q * c) + b) t := by
  intro t
  induction t with
  | zero => intro _; rfl
  | succ t ih =>
    intro ht
    have := ih (by omega)
    obtain ⟨e1, e2⟩ := hn t (by omega)
    simp only [prodF, prods, sumF]
    rw [this, e1, e2]
    show _ = _ + nv A (a * q + t) * nv B (t * c + b) + _ + _
    omega
theorem step3 (n x y z : Nat) : ((x % n + y % n) % n + z % n) % n = (x + y + z) % n := by rw [← Nat.add_mod x y, ← Nat.add_mod (x + y) z]
theorem cut_nv (X : List Int) (p k j : Nat) (h : p + k ≤ X.length) (hj : j < k) : nv ((X.take (p + k)).drop p) j = nv X (p + j) := by
  unfold nv
  rw [cut_rd X p k j h hj]
theorem whole_row (l r q c : Nat) (h0 : 1 ≤ l) (hl : l ≤ 64) (A B X Y : List Int) (at_ : Nat) (hX : at_ + r * q * c ≤ X.length) (hY : at_ + r * q * c ≤ Y.length) :
    sumAll l (sumAll l (mm l r q c A B) (gathF l ((X.take (at_ + r * q * c)).drop at_) q c (r * c))) (gathF l ((Y.take (at_ + r * q * c)).drop at_) q c (r * c)) = rowP l q c A B X Y at_ (r * c) := by
  apply ext_rd
  · rw [sumAll_len, sumAll_len, mm_len, rowP_len]
  intro z hz
  rw [sumAll_len, sumAll_len, mm_len] at hz
  have hc : 0 < c := by
    rcases Nat.eq_zero_or_pos c with h | h
    · rw [h, Nat.mul_zero] at hz; omega
    · exact h
  have hb : z % c < c := Nat.mod_lt _ hc
  have ha : z / c < r := Nat.div_lt_of_lt_mul (by rw [Nat.mul_comm]; exact hz)
  rw [sumAll_at l _ _ z (by rw [sumAll_len, mm_len]; exact hz), sumAll_at l _ _ z (by rw [mm_len]; exact hz)]
  unfold mm gathF rowP
  rw [map_rd _ _ z hz, map_rd _ _ z hz, map_rd _ _ z hz, map_rd _ _ z hz]
  unfold entry_ cellF entP cellP
  rw [addOf_nat l _ _ h0 hl, addOf_nat l _ _ h0 hl, step3]
  rw [prodF_sum q c A B X Y ((X.take (at_ + r * q * c)).drop at_) ((Y.take (at_ + r * q * c)).drop at_) at_ (z / c) (z % c) q (fun t ht => ?_) q (Nat.le_refl q)]
  have hlt : z / c * (q * c) + z % c + t * c < r * q * c := by
    have := place_lt (place_lt ha ht) hb
    rw [Nat.add_mul, Nat.mul_assoc] at this
    omega
  have e : at_ + (z / c * (q * c) + z % c + t * c) = at_ + (z / c * q + t) * c + z % c := by
    rw [Nat.add_mul, Nat.mul_assoc]
    omega
  rw [cut_nv X at_ (r * q * c) _ hX hlt, cut_nv Y at_ (r * q * c) _ hY hlt, e]
  exact ⟨rfl, rfl⟩
theorem mfin_loop (l r q c : Nat) (h0 : 1 ≤ l) (hl : l ≤ 64) (r0 : 1 ≤ r) (hr : r ≤ 6) (q0 : 1 ≤ q) (hq : q ≤ 6) (n0 : 1 ≤ c) (hc : c ≤ 6) (c0 : Int) {xs : List S26} (hx : Few xs) (ho : xs.all (okSh l r q c) = true) {X Y : List Int} (hX : U64s X) (hY : U64s Y) (lX : X.length = xs.length * (r * q * c)) (lY : Y.length = xs.length * (r * q * c)) (d : Nat) : ∀ (k i : Nat), i + d = xs.length → d + 5100 < k →
    matrix_Finish.l0 k X Y ((r * q * c : Nat) : Int) (finP l r q c xs X Y i) xs (xs.length : Int) (i : Int) c0 (l : Int) (r : Int) (q : Int) (c : Int) = some (finP l r q c xs X Y xs.length, 0) := by
  have hn := hx.1
  have b4 : r * q ≤ 36 := sixes (Nat.le_refl r) hr hq
  have b5 : r * q * c ≤ 216 := Nat.le_trans (Nat.mul_le_mul b4 hc) (by decide)
  have b6 : r * c ≤ 36 := sixes (Nat.le_refl r) hr hc
  induction d with
  | zero =>
    intro k i hi hk
    obtain rfl : i = xs.length := by omega
    obtain ⟨k, rfl⟩ : ∃ p, k = p + 1 := ⟨k - 1, by omega⟩
    simp only [matrix_Finish.l0]
    rw [if_neg (by omega)]
  | succ d ih =>
    intro k i hi hk
    obtain ⟨k, rfl⟩ : ∃ p, k = p + 1 := ⟨k - 1, by omega⟩
    have hi2 : i < xs.length := by omega
    have hs := sh_mem xs i hi2
    obtain ⟨hA, hB, -, s0, s1, -⟩ := hx.2 _ hs
    obtain ⟨lA, lB, -, -⟩ := okSh_iff (List.all_eq_true.1 ho _ hs)
    have b7 : (i + 1) * (r * q * c) ≤ xs.length * (r * q * c) := Nat.mul_le_mul_right _ hi2
    have b8 : (i + 1) * (r * q * c) = i * (r * q * c) + r * q * c := Nat.succ_mul _ _
    have b9 : i * (r * q * c) ≤ 30 * 216 := Nat.mul_le_mul (by omega) b5
    have cX := cut_len X (i * (r * q * c)) (r * q * c) (by omega)
    have cY := cut_len Y (i * (r * q * c)) (r * q * c) (by omega)
    have uX := cut_u64 X hX (i * (r * q * c)) (r * q * c)
    have uY := cut_u64 Y hY (i * (r * q * c)) (r * q * c)
    simp only [matrix_Finish.l0]
    rw [if_pos (by omega), if_pos (by omega), if_pos (by omega), gmm_f k l r q c (by omega) h0 hl r0 hr q0 hq n0 hc _ _ hA hB lA lB, Option.bind_some]
    simp only
    rw [if_pos trivial, mulw i (r * q * c) (by omega), succw i (by omega), mulw (i + 1) (r * q * c) (by omega), if_pos (by omega), if_pos (by omega), if_pos (by omega), Int.toNat_natCast, Int.toNat_natCast, b8,
      gth_f h0 hl hr hq hc c0 uX cX k (by omega), Option.bind_some, addall_f l _ _ (by rw [gathF_len, mm_len]) (by rw [mm_len]; omega), Option.bind_some]
    simp only
    rw [if_pos (by omega), gth_f h0 hl hr hq hc c0 uY cY k (by omega), Option.bind_some, addall_f l _ _ (by rw [gathF_len, sumAll_len, mm_len]) (by rw [sumAll_len, mm_len]; omega), Option.bind_some]
    simp only
    rw [whole_row l r q c h0 hl _ _ X Y (i * (r * q * c)) (by omega) (by omega),
      if_pos (by simp; omega), if_pos (by simp; omega), if_pos (by rw [finP_len]; omega)]
    have e : i * (r * q * c) = i * r * q * c := by rw [Nat.mul_assoc i r q, Nat.mul_assoc i (r * q) c]
    have hsh : (⟨([] : List Int) ++ (rd_T26 xs (i : Int)).f0, ([] : List Int) ++ (rd_T26 xs (i : Int)).f1, rowP l q c (rd_T26 xs (i : Int)).f0 (rd_T26 xs (i : Int)).f1 X Y (i * (r * q * c)) (r * c)⟩ : S26) = shP l r q c xs X Y i := by
      unfold shP
      rw [e]
      rfl
    rw [hsh, finP_succ]
    exact ih k (i + 1) (by omega) (by omega)
theorem mfin_f (k : Nat) (hk : 300000 ≤ k) (c0 c1 c2 c3 c4 : Int) (xs : List S26) (hx : Few xs) (sent got : List Int) (hs : U64s sent) (hg : U64s got) (ls : sent.length ≤ 30000) (lg : got.length ≤ 30000) :
    matrix_Finish.f k c0 c1 c2 c3 c4 xs sent got = some (finR (mwrong c0 c1 c2 c3 c4 xs) c1.toNat c2.toNat c3.toNat c4.toNat xs sent got) := by
  unfold matrix_Finish.f finR
  rw [mwrong_f k (by omega) c0 c1 c2 c3 c4 xs hx, Option.bind_some]
  by_cases hW : mwrong c0 c1 c2 c3 c4 xs = 0
  · obtain ⟨hck, ho⟩ := wrong_all hW
    obtain ⟨hcz, h1⟩ := mchk_zero hck
    obtain ⟨b1, b2, _, _⟩ := chk_bits hcz
    obtain ⟨d1, d2, d3, d4, d5, d6⟩ := chk_sides hcz h1
    obtain ⟨l, rfl⟩ := nat_of (show 0 ≤ c1 by omega)
    obtain ⟨r, rfl⟩ := nat_of (show 0 ≤ c2 by omega)
    obtain ⟨q, rfl⟩ := nat_of (show 0 ≤ c3 by omega)
    obtain ⟨c, rfl⟩ := nat_of (show 0 ≤ c4 by omega)
    simp only [Int.toNat_natCast] at ho ⊢
    have h0 : 1 ≤ l := by omega
    have hl : l ≤ 64 := by omega
    have r0 : 1 ≤ r := by omega
    have hr : r ≤ 6 := by omega
    have q0 : 1 ≤ q := by omega
    have hq : q ≤ 6 := by omega
    have n0 : 1 ≤ c := by omega
    have hc : c ≤ 6 := by omega
    rw [if_pos hW, if_pos hW, gfold_f k l c (by omega) h0 hl n0 hc sent hs ls, Option.bind_some]
    by_cases h1 : okFold l c sent = true
    · rw [foldR_ok h1, if_pos h1]
      simp only
      rw [if_pos trivial, gfold_f k l c (by omega) h0 hl n0 hc got hg lg, Option.bind_some]
      by_cases h2 : okFold l c got = true
      · rw [foldR_ok h2, if_pos h2]
        simp only
        obtain ⟨X, eX⟩ : ∃ X, X = foldF l sent c (sent.length / (l * c)) := ⟨_, rfl⟩
        obtain ⟨Y, eY⟩ : ∃ Y, Y = foldF l got c (got.length / (l * c)) := ⟨_, rfl⟩
        have hX : U64s X := by rw [eX]; exact foldF_u64 hl _ _ _
        have hY : U64s Y := by rw [eY]; exact foldF_u64 hl _ _ _
        rw [← eX, ← eY]
        have b1 : r * q ≤ 36 := Nat.le_trans (Nat.mul_le_mul hr hq) (by decide)
        have b2 : r * q * c ≤ 216 := Nat.le_trans (Nat.mul_le_mul b1 hc) (by decide)
        have b3 : r * q * c * xs.length ≤ 6480 := Nat.le_trans (Nat.mul_le_mul b2 hx.1) (by decide)
        rw [if_pos trivial, mulw r q (by omega), mulw (r * q) c (by omega), mulw (r * q * c) xs.length (by omega)]
        obtain ⟨k, rfl⟩ : ∃ p, k = p + 1 := ⟨k - 1, by omega⟩
        have hn := hx.1
        by_cases h3 : X.length = r * q * c * xs.length ∧ Y.length = r * q * c * xs.length
        · obtain ⟨h4, h5⟩ := h3
          rw [if_pos (show X.length = r * q * c * xs.length ∧ Y.length = r * q * c * xs.length from ⟨h4, h5⟩), if_pos (by omega), show ((Y.length : Int) != ((r * q * c * xs.length : Nat) : Int)) = false by rw [bne_eq_false_iff_eq]; omega]
          simp only [matrix_Finish.j0]
          rw [if_neg (by simp), if_pos (by omega), if_pos (by rw [Int.toNat_natCast]; omega)]
          have e : r * q * c * xs.length = xs.length * (r * q * c) := Nat.mul_comm _ _
          have := mfin_loop l r q c h0 hl r0 hr q0 hq n0 hc c0 hx ho hX hY (by omega) (by omega) xs.length k 0 (by omega) (by omega)
          simpa [finP] using this
        · rw [if_neg h3]
          by_cases h4 : X.length = r * q * c * xs.length
          · rw [if_pos (by omega), show ((Y.length : Int) != ((r * q * c * xs.length : Nat) : Int)) = true by rw [bne_iff_ne]; omega]
            simp only [matrix_Finish.j0]
            rw [if_pos trivial]
          · rw [if_neg (by omega)]
            simp only [matrix_Finish.j0]
            rw [if_pos trivial]
      · rw [foldR_no h2, if_neg h2]
        simp only
        rw [if_neg (by decide)]
    · rw [foldR_no h1, if_neg h1]
      simp only
      rw [if_neg (by decide)]
  · rw [if_neg hW, if_neg hW]
end Go.Proofs.Ytcmaidpoolcelaa.Lem
namespace Go.Proofs.Ytcmaidpoolcelaa.Lem
open Go.RowKit Go.Proofs.Ytcmaidpoolcelaa.P Go.Proofs.Ytcmaidpoolcelaa.Num Go.Proofs.YtcmaidpoolcelaaW.PrintWords Go.Proofs.YtcmaidpoolcelaaW.PrintMore
set_option linter.unusedVariables false

theorem flatten_len (n : Nat) (gs : List (List Int)) (h : ∀ g ∈ gs, g.length = n) : gs.flatten.length = gs.length * n := by
  induction gs with
  | nil => simp
  | cons g gs ih => rw [List.flatten_cons, List.length_append, ih (fun x hx => h x (List.mem_cons_of_mem _ hx)), h g (List.mem_cons_self ..), List.length_cons, Nat.succ_mul, Nat.add_comm]

theorem mch_loop (l : Nat) (c0 c2 c3 c4 : Int) (xs : List S26) (hx : Few xs) (d : Nat) : ∀ (k i : Nat), i + d = xs.length → d < k →
    matrix_Choices.l0 k (fst0 (xs.take i)) xs (xs.length : Int) (i : Int) c0 (l : Int) c2 c3 c4 = (gilboa_Choices.f (k - d - 1) (l : Int) (fst0 xs)).bind fun b => some (b.1, b.2.1, b.2.2) := by
  induction d with
  | zero =>
    intro k i hi hk
    obtain ⟨k, rfl⟩ : ∃ q, k = q + 1 := ⟨k - 1, by omega⟩
    have t1 : ¬ ((i : Int) < (xs.length : Int)) := by omega
    simp only [matrix_Choices.l0]
    rw [if_neg t1, List.take_of_length_le (by omega)]; rfl
  | succ d ih =>
    intro k i hi hk
    obtain ⟨k, rfl⟩ : ∃ q, k = q + 1 := ⟨k - 1, by omega⟩
    have hil : i < xs.length := by omega
    have nx := ih k (i + 1) (by omega) (by omega)
    have t1 : (i : Int) < (xs.length : Int) := by omega
    have t2 : (0 : Int) ≤ (i : Int) := by omega
    have hk3 : k + 1 - (d + 1) - 1 = k - d - 1 := by omega
    have hi5 : i ≤ 100000 := by have := hx.1; omega
    have fl := fst0_len (few_take hx i)
    have a0 := (hx.2 _ (sh_mem xs i hil)).2.2.2.1
    have hlen : (fst0 (xs.take i)).length + (rd_T26 xs (i : Int)).f0.length < 17592186044416 := by omega
    simp only [matrix_Choices.l0]
    rw [if_pos t1, if_pos t2, if_pos t1, if_pos hlen, fst0_snoc xs i hil, w_succ i hi5, nx, hk3]

theorem rows_loop (r : Nat) (hr : r ≤ 6) (a : List Int) (ha : a.length ≤ 60) (d : Nat) : ∀ (k i : Nat), i + d = r → d < k →
    matrix_rows.l0 k a (List.replicate i a).flatten (r : Int) (i : Int) = some (List.replicate r a).flatten := by
  induction d with
  | zero =>
    intro k i hi hk
    obtain ⟨k, rfl⟩ : ∃ q, k = q + 1 := ⟨k - 1, by omega⟩
    have t1 : ¬ ((i : Int) < (r : Int)) := by omega
    simp only [matrix_rows.l0]
    rw [if_neg t1, show i = r by omega]
  | succ d ih =>
    intro k i hi hk
    obtain ⟨k, rfl⟩ : ∃ q, k = q + 1 := ⟨k - 1, by omega⟩
    have nx := ih k (i + 1) (by omega) (by omega)
    have t1 : (i : Int) < (r : Int) := by omega
    have hi5 : i ≤ 100000 := by omega
    have hfl := flatten_len a.length (List.replicate i a) (fun g hg => by rw [(List.mem_replicate.1 hg).2])
    rw [List.length_replicate] at hfl
    have hm : i * a.length ≤ 6 * 60 := Nat.mul_le_mul (by omega) ha
    have hlen : (List.replicate i a).flatten.length + a.length < 17592186044416 := by omega
    have sn : (List.replicate i a).flatten ++ a = (List.replicate (i + 1) a).flatten := by
      rw [List.replicate_succ', List.flatten_append, List.flatten_cons, List.flatten_nil, List.append_nil]
    simp only [matrix_rows.l0]
    rw [if_pos t1, if_pos hlen, sn, w_succ i hi5]
    exact nx
theorem rows_f (k r : Nat) (hk : 100 ≤ k) (hr : r ≤ 6) (c0 c1 c3 c4 : Int) (a : List Int) (ha : a.length ≤ 60) : matrix_rows.f k c0 c1 (r : Int) c3 c4 a = some (List.replicate r a).flatten := by
  unfold matrix_rows.f
  exact rows_loop r hr a ha r k 0 (by omega) (by omega)

def rowsAll (r : Nat) (xs : List S26) : List Int := xs.flatMap fun s => (List.replicate r s.f1).flatten
theorem rowsAll_snoc (r : Nat) (xs : List S26) (i : Nat) (h : i < xs.length) : rowsAll r (xs.take i) ++ (List.replicate r (rd_T26 xs (i : Int)).f1).flatten = rowsAll r (xs.take (i + 1)) := sh_snoc (fun s => (List.replicate r s.f1).flatten) xs i h
theorem rep_len (r : Nat) (hr : r ≤ 6) (a : List Int) (ha : a.length ≤ 60) : (List.replicate r a).flatten.length ≤ 360 := by
  have hfl := flatten_len a.length (List.replicate r a) (fun g hg => by rw [(List.mem_replicate.1 hg).2])
  rw [List.length_replicate] at hfl
  have hm : r * a.length ≤ 6 * 60 := Nat.mul_le_mul hr ha
  omega
theorem msp_loop (l r : Nat) (hr : r ≤ 6) (c0 c3 c4 : Int) (xs : List S26) (hx : Few xs) (d : Nat) : ∀ (k i : Nat), i + d = xs.length → d + 200 < k →
    matrix_Spread.l0 k (rowsAll r (xs.take i)) xs (xs.length : Int) (i : Int) c0 (l : Int) (r : Int) c3 c4 = (gilboa_Spread.f (k - d - 1) (l : Int) c4 (rowsAll r xs)).bind fun b => some (b.1, b.2) := by
  induction d with
  | zero =>
    intro k i hi hk
    obtain ⟨k, rfl⟩ : ∃ q, k = q + 1 := ⟨k - 1, by omega⟩
    have t1 : ¬ ((i : Int) < (xs.length : Int)) := by omega
    simp only [matrix_Spread.l0]
    rw [if_neg t1, List.take_of_length_le (by omega)]; rfl
  | succ d ih =>
    intro k i hi hk
    obtain ⟨k, rfl⟩ : ∃ q, k = q + 1 := ⟨k - 1, by omega⟩
    have hil : i < xs.length := by omega
    have nx := ih k (i + 1) (by omega) (by omega)
    have t1 : (i : Int) < (xs.length : Int) := by omega
    have t2 : (0 : Int) ≤ (i : Int) := by omega
    have hk3 : k + 1 - (d + 1) - 1 = k - d - 1 := by omega
    have hk4 : 100 ≤ k := by omega
    have hi5 : i ≤ 100000 := by have := hx.1; omega
    have a1 := (hx.2 _ (sh_mem xs i hil)).2.2.2.2.1
    have f1 := flat_take (fun s => (List.replicate r s.f1).flatten) 360 xs i hx.1 (fun s hs => rep_len r hr s.f1 (hx.2 s hs).2.2.2.2.1)
    have f2 := rep_len r hr _ a1
    have f3 : (rowsAll r (xs.take i)).length ≤ 30 * 360 := f1
    have hlen : (rowsAll r (xs.take i)).length + (List.replicate r (rd_T26 xs (i : Int)).f1).flatten.length < 17592186044416 := by omega
    simp only [matrix_Spread.l0]
    rw [if_pos t1, if_pos t2, if_pos t1, rows_f k r hk4 hr _ _ _ _ _ a1, Option.bind_some, if_pos hlen, rowsAll_snoc r xs i hil, w_succ i hi5, nx, hk3]

theorem mch_f (k : Nat) (hk : 700100 ≤ k) (c0 c1 c2 c3 c4 : Int) (xs : List S26) (hx : Few xs) :
    ∃ t, matrix_Choices.f k c0 c1 c2 c3 c4 xs = some t ∧ Held t (chB (mwrong c0 c1 c2 c3 c4 xs) c1.toNat xs) (mwrong c0 c1 c2 c3 c4 xs) := by
  unfold matrix_Choices.f chB
  rw [mwrong_f k (by omega) c0 c1 c2 c3 c4 xs hx, Option.bind_some]
  by_cases h : mwrong c0 c1 c2 c3 c4 xs = 0
  · obtain ⟨hck, ho⟩ := wrong_all h
    obtain ⟨hc, h1⟩ := mchk_zero hck
    obtain ⟨b1, b2, _, _⟩ := chk_bits hc
    obtain ⟨l, rfl⟩ := nat_of (show 0 ≤ c1 by omega)
    rw [Int.toNat_natCast] at ho
    have hn := fst0_len hx
    have hx0 := hx.1
    obtain ⟨V, e, v1, v2, v3⟩ := gch_f (k - xs.length - 1) l (by omega) (by omega) (fst0 xs) (fst0_u64 hx) (fst0_lows (fun s hs => (okSh_iff (List.all_eq_true.1 ho s hs)).2.2.1)) (by omega) (by omega)
    have st := mch_loop l c0 c2 c3 c4 xs hx xs.length k 0 (by omega) (by omega)
    rw [e, Option.bind_some, List.take_zero] at st
    rw [if_pos h, if_pos h, h, Int.toNat_natCast]
    exact ⟨_, st, rfl, rfl, v1, v2, v3⟩
  · rw [if_neg h, if_neg h]
    exact ⟨_, rfl, held_none _⟩

theorem msp_f (k : Nat) (hk : 900000 ≤ k) (c0 c1 c2 c3 c4 : Int) (xs : List S26) (hx : Few xs) :
    matrix_Spread.f k c0 c1 c2 c3 c4 xs = some (spB (mwrong c0 c1 c2 c3 c4 xs) c1.toNat c2.toNat c3.toNat c4.toNat xs, mwrong c0 c1 c2 c3 c4 xs) := by
  unfold matrix_Spread.f spB
  rw [mwrong_f k (by omega) c0 c1 c2 c3 c4 xs hx, Option.bind_some]
  by_cases h : mwrong c0 c1 c2 c3 c4 xs = 0
  · obtain ⟨hck, ho⟩ := wrong_all h
    obtain ⟨hc, h1⟩ := mchk_zero hck
    obtain ⟨b1, b2, _, _⟩ := chk_bits hc
    obtain ⟨s1, s2, s3, s4, s5, s6⟩ := chk_sides hc h1
    obtain ⟨l, rfl⟩ := nat_of (show 0 ≤ c1 by omega)
    obtain ⟨r, rfl⟩ := nat_of (show 0 ≤ c2 by omega)
    obtain ⟨q, rfl⟩ := nat_of (show 0 ≤ c3 by omega)
    obtain ⟨c, rfl⟩ := nat_of (show 0 ≤ c4 by omega)
    simp only [Int.toNat_natCast] at ho ⊢
    have hx0 := hx.1
    have hr : r ≤ 6 := by omega
    have hq : q ≤ 6 := by omega
    have hc6 : c ≤ 6 := by omega
    have hrq : r * q ≤ 6 * 6 := Nat.mul_le_mul hr hq
    have hfl : (allBlks r q c xs).flatten = rowsAll r xs := allBlks_flat l r q c xs ho
    have hok := allBlks_ok l r q c xs hx ho
    have hg := allBlks_len r q c xs hrq hx0
    have hn := flatten_len c (allBlks r q c xs) (fun g hg => (hok g hg).1)
    have hn2 : (allBlks r q c xs).length * c ≤ 1080 * 6 := Nat.mul_le_mul hg hc6
    have e := gsp_f (k - xs.length - 1) l (by omega) (by omega) c (by omega) hc6 (allBlks r q c xs) hok (by omega) (by omega) (by omega)
    rw [hfl] at e
    have st := msp_loop l r hr c0 (q : Int) (c : Int) xs hx xs.length k 0 (by omega) (by omega)
    rw [e, Option.bind_some, List.take_zero] at st
    rw [if_pos h, if_pos h, h]
    exact st
  · rw [if_neg h, if_neg h]

end Go.Proofs.Ytcmaidpoolcelaa.Lem
namespace Go.Proofs.Ytcmaidpoolcelaa.Opens
open Go.ChangeShapes Go.WideShapes Go.Deep Go.RowKit Go.Proofs.YtcmaidpoolcelaaW.PrintWords

/-- What reads as data of type t is told by kind d, and what is told of it is well formed. -/
structure Opens {α : Type} (P : Program) (t : TypeId) (d : Kd α) (wf : α → Prop) : Prop where
  size : P.cellsOf t = d.sz
  read : ∀ {H : Type} {enc : TypeId × Value → H} {w : World} {base : Nat} {spare : Nat → Bool} {held : Bool} {fuel : Nat} {cs : List Value} {y : DataW H × List MemPlace},
    DataW.trod enc P w base spare held fuel t cs = some y → ∃ x : α, d.K w x cs ∧ wf x

section
variable {P : Program} {t e : TypeId}

theorem opens_int {k : IntKind} (hu : P.underlying t = some (.int k)) (hc : P.cellsOf t = 1) : Opens P t (Kd.int k) (fun x => (Lit.int k x).wf = true) where
  size := hc
  read := fun h => by
    obtain ⟨n, rfl, _, hw⟩ := DataW.trod_int hu h
    exact ⟨n, rfl, hw⟩

theorem gather {α : Type} {p : Nat → α → Prop} (n : Nat) (h : ∀ i, i < n → ∃ x, p i x) : ∃ xs : List α, xs.length = n ∧ ∀ i x, xs[i]? = some x → p i x := by
  induction n with
  | zero => exact ⟨[], rfl, fun i x hx => by simp at hx⟩
  | succ n ih =>
    obtain ⟨xs, hl, hx⟩ := ih (fun i hi => h i (by omega))
    obtain ⟨y, hy⟩ := h n (by omega)
    refine ⟨xs ++ [y], by rw [List.length_append, hl]; rfl, fun i x hi => ?_⟩
    by_cases hin : i < n
    · rw [List.getElem?_append_left (by omega)] at hi
      exact hx i x hi
    · have hil := (List.getElem?_eq_some_iff.1 hi).1
      rw [List.length_append, List.length_singleton] at hil
      obtain rfl : i = n := by omega
      rw [List.getElem?_append_right (by omega), hl] at hi
      simp at hi
      exact hi ▸ hy

theorem opens_slice {α : Type} {d : Kd α} {wf : α → Prop} (hu : P.underlying t = some (.slice e)) (hc : P.cellsOf t = 1) (he : Opens P e d wf) :
    Opens P t (Kd.slice e d) (fun xs => xs.length ≤ maxLen ∧ ∀ x ∈ xs, wf x) where
  size := hc
  read := fun {H enc w base spare held fuel cs y} h => by
    rcases open_slice hu h with ⟨rfl, rfl⟩ | ⟨a, len, cap, m, n, D, Pl, rfl, hb, hl, hm, hmm, hx, hi⟩
    · exact ⟨[], ⟨none, 0, rfl, Nat.le_refl _, Kd.C_nil _ _⟩, by simp, fun x hx => by simp at hx⟩
    · have hlm : len ≤ m := by rw [hmm]; split <;> omega
      obtain ⟨xs, hlen, hxs⟩ := gather (p := fun i x => (∃ c, c.length = d.sz ∧ d.K w x c ∧ ∀ j u, c[j]? = some u → w.cell? (a.add (i * d.sz + j)) = some u) ∧ wf x) len (fun i hil => by
        obtain ⟨cs', hcs, ht⟩ := hi i (by omega)
        rw [he.size] at hcs
        obtain ⟨x, hK, hw⟩ := he.read ht
        obtain ⟨_, hcl, hat⟩ := World.cells?_some hcs
        refine ⟨x, ⟨cs', hcl, hK, fun j u hj => ?_⟩, hw⟩
        have hjl := (List.getElem?_eq_some_iff.1 hj).1
        rw [← Go.Deep.add_add, hat j (by omega), hj])
      have hmx : maxLen = 9223372036854775807 := rfl
      refine ⟨xs, ⟨some a, cap, by rw [hlen], by omega, rfl, by rw [hlen]; omega, fun _ => ⟨a, rfl, fun j p hj => (hxs j p hj).1⟩⟩, by omega, fun x hx => ?_⟩
      obtain ⟨i, hi', rfl⟩ := List.getElem_of_mem hx
      exact (hxs i _ (List.getElem?_eq_getElem hi')).2

/-- The fields from offset o on, told together. -/
structure OpensFs {α : Type} (P : Program) (fs : List Field) (o : Nat) (d : Kd α) (wf : α → Prop) : Prop where
  read : ∀ {H : Type} {enc : TypeId × Value → H} {w : World} {base : Nat} {spare : Nat → Bool} {held : Bool} {fuel : Nat} {cs : List Value}, cs.length = o + d.sz →
    (∀ f ∈ fs, ∃ y, DataW.trod enc P w base spare held fuel f.type ((cs.drop f.offset).take (P.cellsOf f.type)) = some y) → ∃ x : α, d.K w x (cs.drop o) ∧ wf x

theorem opensFs_last {α : Type} {d : Kd α} {wf : α → Prop} {f : Field} {o : Nat} (ho : f.offset = o) (hf : Opens P f.type d wf) : OpensFs P [f] o d wf where
  read := fun {H enc w base spare held fuel cs} hl h => by
    obtain ⟨y, hy⟩ := h f List.mem_cons_self
    rw [ho, hf.size, List.take_of_length_le (by rw [List.length_drop]; omega)] at hy
    exact hf.read hy

theorem opensFs_cons {α β : Type} {d : Kd α} {d' : Kd β} {wf : α → Prop} {wf' : β → Prop} {f : Field} {fs : List Field} {o o' : Nat} (ho : f.offset = o) (ho' : o' = o + d.sz) (hf : Opens P f.type d wf) (hr : OpensFs P fs o' d' wf') :
    OpensFs P (f :: fs) o (Kd.pair d d') (fun x => wf x.1 ∧ wf' x.2) where
  read := fun {H enc w base spare held fuel cs} hl h => by
    have hsz : (Kd.pair d d').sz = d.sz + d'.sz := rfl
    obtain ⟨y, hy⟩ := h f List.mem_cons_self
    rw [ho, hf.size] at hy
    obtain ⟨x, hx, hw⟩ := hf.read hy
    obtain ⟨x', hx', hw'⟩ := hr.read (cs := cs) (by omega) (fun g hg => h g (List.mem_cons_of_mem _ hg))
    refine ⟨(x, x'), ⟨_, _, ?_, hx, hx'⟩, hw, hw'⟩
    rw [ho', ← List.drop_drop]
    exact (List.take_append_drop _ _).symm

/-- A struct: its fields' kinds, told as a record. -/
theorem opens_struct {α β : Type} {d : Kd α} {wf : α → Prop} {fs : Array Field} (f : β → α) (g : α → β) (hfg : ∀ x, f (g x) = x) (hu : P.underlying t = some (.struct fs)) (hc : P.cellsOf t = d.sz)
    (l : List Field) (hl : fs.toList = l) (hf : OpensFs P l 0 d wf) : Opens P t (Kd.iso d f) (fun x => wf (f x)) where
  size := hc
  read := fun {H enc w base spare held fuel cs y} h => by
    obtain ⟨xs, n, _, _, hlen, hxl, hat⟩ := DataW.trod_struct hu h
    obtain ⟨x, hK, hw⟩ := hf.read (cs := cs) (enc := enc) (w := w) (base := base) (spare := spare) (held := held) (fuel := n) (by omega) (fun q hq => by
      rw [← hl] at hq
      obtain ⟨i, hi, rfl⟩ := List.getElem_of_mem hq
      have hi' : i < fs.size := by simpa using hi
      have := hat i fs[i] (Array.getElem?_eq_getElem hi')
      refine ⟨xs[i]'(by omega), ?_⟩
      rw [Array.getElem_toList, this, List.getElem?_eq_getElem])
    exact ⟨g x, by show d.K w (f (g x)) cs; rw [hfg]; simpa using hK, by show wf (f (g x)); rw [hfg]; exact hw⟩

end
end Go.Proofs.Ytcmaidpoolcelaa.Opens
