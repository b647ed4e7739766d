/- Gilboa's trick: what the program and the document spread is the same. -/
import Derived.Test.YtcmaidpoolcelaaMsK1
import Derived.Test.YtcmaidpoolcelaaMsK6
import Derived.Test.YtcmaidpoolcelaaMsK7
import Derived.Test.YtcmaidpoolcelaaMsLemGil
namespace Go.Proofs.Ytcmaidpoolcelaa.Lem
open Go.RowKit Go.Proofs.Ytcmaidpoolcelaa.P Go.Proofs.Ytcmaidpoolcelaa.Num Go.Proofs.YtcmaidpoolcelaaW.PrintWords Go.Proofs.YtcmaidpoolcelaaW.PrintMore
set_option linter.unusedVariables false

/-- numbers times a power of two -/
def dbl (l j : Nat) (g : List Int) : List Int := g.map fun x => ((x.toNat * 2 ^ j % 2 ^ l : Nat) : Int)
def spreadB (l : Nat) (g : List Int) : List Int := (List.range l).flatMap fun j => dbl l j g
def spreadAll (l : Nat) (gs : List (List Int)) : List Int := gs.flatMap (spreadB l)
theorem dbl_len (l j : Nat) (g : List Int) : (dbl l j g).length = g.length := by simp [dbl]
theorem part_len (l n : Nat) (g : List Int) : ((List.range n).flatMap fun j => dbl l j g).length = n * g.length := by
  induction n with
  | zero => simp
  | succ n ih => rw [List.range_succ, List.flatMap_append, List.length_append, ih, List.flatMap_cons, List.flatMap_nil, List.append_nil, dbl_len, Nat.succ_mul]
theorem spreadB_len (l : Nat) (g : List Int) : (spreadB l g).length = l * g.length := part_len l l g
theorem part_snoc (l n : Nat) (g : List Int) : ((List.range n).flatMap fun j => dbl l j g) ++ dbl l n g = (List.range (n + 1)).flatMap fun j => dbl l j g := by
  rw [List.range_succ, List.flatMap_append, List.flatMap_cons, List.flatMap_nil, List.append_nil]
theorem dbl_zero (l : Nat) (h1 : l ≤ 64) (g : List Int) (hg : U64s g) (hlo : lows l g = true) : dbl l 0 g = g := by
  unfold dbl
  refine (List.map_congr_left ?_).trans (List.map_id g)
  intro x hx
  unfold lows at hlo
  have h := List.all_eq_true.1 hlo x hx
  rw [decide_eq_true_eq] at h
  obtain ⟨m, rfl⟩ := nat_of (hg x hx).1
  have hm : m < 2 ^ l := Int.ofNat_lt.1 h
  rw [Int.toNat_natCast, Nat.pow_zero, Nat.mul_one, Nat.mod_eq_of_lt hm]; rfl
theorem dbl_at (l j : Nat) (g : List Int) (i : Nat) (h : i < g.length) : rd (dbl l j g) (i : Int) = (((rd g (i : Int)).toNat * 2 ^ j % 2 ^ l : Nat) : Int) := by
  simp [rd, dbl, h]
theorem dbl_succ (l j : Nat) (x : Nat) : 2 * (x * 2 ^ j % 2 ^ l) % 2 ^ l = x * 2 ^ (j + 1) % 2 ^ l := by
  rw [Nat.mul_comm 2, Nat.mod_mul_mod, Nat.mul_assoc, ← Nat.pow_succ]

theorem scale_loop (l : Nat) (h0 : 1 ≤ l) (h1 : l ≤ 64) (j : Nat) (g : List Int) (hn : g.length ≤ 10000) (d : Nat) : ∀ (k i : Nat) (L : List Int), i + d = g.length → d < k → L.length = g.length → (∀ q, q < i → L[q]? = (dbl l (j + 1) g)[q]?) →
    ring_Scale.l0 k (l : Int) 2 L (dbl l j g) (g.length : Int) (i : Int) = some (dbl l (j + 1) g) := by
  induction d with
  | zero =>
    intro k i L hi hk hL hb
    obtain ⟨k, rfl⟩ : ∃ q, k = q + 1 := ⟨k - 1, by omega⟩
    simp only [ring_Scale.l0]
    rw [if_neg (by omega)]
    congr 1
    apply List.ext_getElem?
    intro q
    by_cases hq : q < g.length
    · exact hb q (by omega)
    · rw [List.getElem?_eq_none (by omega), List.getElem?_eq_none (by rw [dbl_len]; omega)]
  | succ d ih =>
    intro k i L hi hk hL hb
    obtain ⟨k, rfl⟩ : ∃ q, k = q + 1 := ⟨k - 1, by omega⟩
    have hil : i < g.length := by omega
    have e5 : wrap64 ((i : Int) + 1) = ((i + 1 : Nat) : Int) := by rw [w64 (by omega) (by omega)]; omega
    have em := mul_f l 2 ((rd g (i : Int)).toNat * 2 ^ j % 2 ^ l) h0 h1
    rw [dbl_succ] at em
    have hv : (dbl l (j + 1) g)[i]? = some (((rd g (i : Int)).toNat * 2 ^ (j + 1) % 2 ^ l : Nat) : Int) := by simp [dbl, rd, hil]
    have nx := ih k (i + 1) (L.set i (((rd g (i : Int)).toNat * 2 ^ (j + 1) % 2 ^ l : Nat) : Int)) (by omega) (by omega) (by rw [List.length_set]; exact hL) (by
      intro q hq
      by_cases h : i = q
      · subst h; rw [List.getElem?_set_self (by omega), hv]
      · rw [List.getElem?_set_ne h]; exact hb q (by omega))
    have t1 : (i : Int) < (g.length : Int) := by omega
    have t2 : (0 : Int) ≤ (i : Int) := by omega
    have t3 : (i : Int) < ((dbl l j g).length : Int) := by rw [dbl_len]; exact t1
    have t4 : (i : Int) < (L.length : Int) := by omega
    simp only [ring_Scale.l0]
    rw [if_pos t1, if_pos t2, if_pos t3, dbl_at l j g i hil, show ring_Mul.f (l : Int) 2 _ = _ from em, Option.bind_some, if_pos t4, Int.toNat_natCast, e5]
    exact nx

theorem scale_f (k l : Nat) (h0 : 1 ≤ l) (h1 : l ≤ 64) (j : Nat) (g : List Int) (hn : g.length ≤ 10000) (hk : 10001 ≤ k) : ring_Scale.f k (l : Int) 2 (dbl l j g) = some (dbl l (j + 1) g) := by
  unfold ring_Scale.f
  rw [if_pos (by omega), if_pos (by rw [Int.toNat_natCast, dbl_len]; omega), Int.toNat_natCast, dbl_len]
  exact scale_loop l h0 h1 j g hn g.length k 0 _ (by omega) (by omega) (by simp) (by intro q hq; omega)

/-- one block in the program -/
theorem gsp_in (l : Nat) (h0 : 1 ≤ l) (h1 : l ≤ 64) (n : Int) (xs g acc : List Int) (i m : Int) (e5 : wrap64 (i + n) = m) (hg : g.length ≤ 6) (ha : acc.length ≤ 10000000) (d : Nat) : ∀ (q k j : Nat), j + d = l → q = k + d + 1 → 10001 ≤ k →
    gilboa_Spread.l1 q (l : Int) n xs (acc ++ (List.range j).flatMap fun j => dbl l j g) i (dbl l j g) (l : Int) (j : Int) = gilboa_Spread.l0 k (l : Int) n xs (acc ++ spreadB l g) m := by
  induction d with
  | zero =>
    intro q k j hj hq hk
    subst hq
    simp only [gilboa_Spread.l1]
    rw [if_neg (by omega), e5, show j = l by omega]; rfl
  | succ d ih =>
    intro q k j hj hq hk
    obtain ⟨q, rfl⟩ : ∃ p, q = p + 1 := ⟨q - 1, by omega⟩
    have nx := ih q k (j + 1) (by omega) (by omega) hk
    have e6 : wrap64 ((j : Int) + 1) = ((j + 1 : Nat) : Int) := by rw [w64 (by omega) (by omega)]; omega
    have hm : j * g.length ≤ 64 * 6 := Nat.mul_le_mul (by omega) hg
    have hlen : (acc ++ (List.range j).flatMap fun j => dbl l j g).length + (dbl l j g).length < 17592186044416 := by rw [List.length_append, part_len, dbl_len]; omega
    simp only [gilboa_Spread.l1]
    rw [if_pos (by omega), if_pos hlen, scale_f q l h0 h1 j g (by omega) (by omega), Option.bind_some, e6, List.append_assoc, part_snoc]
    exact nx

theorem cut_mid (pre g rest : List Int) : ((pre ++ (g ++ rest)).take (pre.length + g.length)).drop pre.length = g := by
  rw [← List.append_assoc, List.take_left' (by rw [List.length_append]), List.drop_left]
theorem spreadAll_len (l n : Nat) (gs : List (List Int)) (h : ∀ g ∈ gs, g.length = n) : (spreadAll l gs).length = gs.length * (l * n) := by
  induction gs with
  | nil => simp [spreadAll]
  | cons g gs ih =>
    have : (spreadAll l (g :: gs)).length = (spreadB l g).length + (spreadAll l gs).length := by simp [spreadAll]
    rw [this, ih (fun x hx => h x (List.mem_cons_of_mem _ hx)), spreadB_len, h g (List.mem_cons_self ..), List.length_cons, Nat.succ_mul, Nat.add_comm]

theorem gsp_loop (l : Nat) (h0 : 1 ≤ l) (h1 : l ≤ 64) (n : Nat) (hn0 : 1 ≤ n) (hn : n ≤ 6) (xs : List Int) (hx : xs.length ≤ 10000) (gs : List (List Int)) : ∀ (k : Nat) (pre acc : List Int), (∀ g ∈ gs, g.length = n ∧ U64s g ∧ lows l g = true) → xs = pre ++ gs.flatten → gs.length * 70 + 20000 < k → acc.length + gs.length * 384 ≤ 9000000 →
    gilboa_Spread.l0 k (l : Int) (n : Int) xs acc (pre.length : Int) = some (acc ++ spreadAll l gs, 0) := by
  induction gs with
  | nil =>
    intro k pre acc hg hxs hk ha
    obtain ⟨k, rfl⟩ : ∃ q, k = q + 1 := ⟨k - 1, by simp at hk; omega⟩
    simp only [gilboa_Spread.l0]
    rw [List.flatten_nil, List.append_nil] at hxs
    rw [if_neg (by rw [hxs]; omega)]
    simp [spreadAll]
  | cons g gs ih =>
    intro k pre acc hg hxs hk ha
    rw [List.length_cons] at hk ha
    obtain ⟨k, rfl⟩ : ∃ q, k = q + 1 := ⟨k - 1, by omega⟩
    obtain ⟨g1, g2, g3⟩ := hg g (List.mem_cons_self ..)
    rw [List.flatten_cons] at hxs
    have hlen : xs.length = pre.length + (g.length + gs.flatten.length) := by rw [hxs]; simp
    have e5 : wrap64 ((pre.length : Int) + (n : Int)) = (((pre ++ g).length : Nat) : Int) := by rw [w64 (by omega) (by omega), List.length_append]; omega
    have e6 : ((((pre ++ g).length : Nat) : Int)).toNat = pre.length + g.length := by rw [Int.toNat_natCast, List.length_append]
    have hcut : (xs.take ((((pre ++ g).length : Nat) : Int)).toNat).drop ((pre.length : Int)).toNat = g := by rw [e6, Int.toNat_natCast, hxs]; exact cut_mid pre g _
    have t1 : (pre.length : Int) < (xs.length : Int) := by omega
    have t2 : (pre.length : Int) ≤ (((pre ++ g).length : Nat) : Int) := by rw [List.length_append]; omega
    have t3 : (((pre ++ g).length : Nat) : Int) ≤ (xs.length : Int) := by rw [List.length_append]; omega
    have st := gsp_in l h0 h1 (n : Int) xs g acc (pre.length : Int) _ e5 (by omega) (by omega) l k (k - l - 1) 0 (by omega) (by omega) (by omega)
    rw [List.range_zero, List.flatMap_nil, List.append_nil, dbl_zero l h1 g g2 g3] at st
    have sl := spreadB_len l g
    have sm : l * g.length ≤ 64 * 6 := Nat.mul_le_mul h1 (by omega)
    have nx := ih (k - l - 1) (pre ++ g) (acc ++ spreadB l g) (fun x hx => hg x (List.mem_cons_of_mem _ hx)) (by rw [hxs, List.append_assoc]) (by omega) (by rw [List.length_append]; omega)
    simp only [gilboa_Spread.l0]
    rw [if_pos t1, if_pos (by omega), e5, if_pos t2, if_pos t3, hcut]
    refine (show gilboa_Spread.l1 k (l : Int) (n : Int) xs acc (pre.length : Int) g (l : Int) 0 = _ from st).trans ?_
    rw [nx, List.append_assoc]
    congr 2

theorem gsp_f (k l : Nat) (h0 : 1 ≤ l) (h1 : l ≤ 64) (n : Nat) (hn0 : 1 ≤ n) (hn : n ≤ 6) (gs : List (List Int)) (hg : ∀ g ∈ gs, g.length = n ∧ U64s g ∧ lows l g = true) (hx : gs.flatten.length ≤ 10000) (hgl : gs.length ≤ 10000) (hk : 800000 ≤ k) :
    gilboa_Spread.f k (l : Int) (n : Int) gs.flatten = some (spreadAll l gs, 0) := by
  have hu : U64s gs.flatten := by
    intro x hx
    rw [List.mem_flatten] at hx
    obtain ⟨g, hg1, hg2⟩ := hx
    exact (hg g hg1).2.1 x hg2
  have hl : lows l gs.flatten = true := by
    unfold lows
    rw [List.all_eq_true]
    intro x hx
    rw [List.mem_flatten] at hx
    obtain ⟨g, hg1, hg2⟩ := hx
    have := (hg g hg1).2.2
    unfold lows at this
    exact List.all_eq_true.1 this x hg2
  have hm : gs.flatten.length = gs.length * n := by
    clear hu hl hx hgl
    induction gs with
    | nil => simp
    | cons g gs ih =>
      rw [List.flatten_cons, List.length_append, ih (fun x hx => hg x (List.mem_cons_of_mem _ hx)), (hg g (List.mem_cons_self ..)).1, List.length_cons, Nat.succ_mul, Nat.add_comm]
  have hd : (gs.flatten.length : Int) % (n : Int) = 0 := by
    rw [hm]
    have : (gs.length * n) % n = 0 := Nat.mul_mod_left _ _
    omega
  obtain ⟨k, rfl⟩ : ∃ q, k = q + 1 := ⟨k - 1, by omega⟩
  have hm2 : l * gs.flatten.length ≤ 64 * 10000 := Nat.mul_le_mul h1 hx
  have ec : wrap64 ((l : Int) * (gs.flatten.length : Int)) = ((l * gs.flatten.length : Nat) : Int) := by rw [w64 (by omega) (by omega)]; simp
  unfold gilboa_Spread.f
  rw [good_f (by omega) (by omega) (by omega) (by omega), Option.bind_some, if_pos rfl, if_neg (show ¬ (n : Int) = 0 by omega), if_pos hd, ringFits_f l h0 h1 _ hu, Option.bind_some, hl]
  simp only [gilboa_Spread.j0]
  rw [if_neg (by simp), ec, if_pos (by omega), if_pos (by omega)]
  have := gsp_loop l h0 h1 n hn0 hn gs.flatten hx gs k [] [] hg (by simp) (by omega) (by simp; omega)
  rwa [List.nil_append] at this

/-- one block in the document -/
theorem shl_fit (k l x j : Nat) (hk : 100 ≤ k) (h1 : l ≤ 64) (hj : j ≤ 64) (hx : x < 18446744073709551616) : trefoilref03_Fit.f k (l : Int) (shl .u64 (x : Int) (j : Int)) = some ((x * 2 ^ j % 2 ^ l : Nat) : Int) := by
  rw [shl_nat x j hj, fit_r k hk l _ h1 (by omega), mod64 h1]

theorem w0_add (n : Int) (i : Nat) (h : i ≤ 100000) : wrap64 (wrap64 (0 * n) + (i : Int)) = (i : Int) := by
  have e : wrap64 0 = 0 := w64 (by omega) (by omega)
  rw [Int.zero_mul, e, Int.zero_add]
  exact w64 (by omega) (by omega)
theorem rsp_2 (l : Nat) (h1 : l ≤ 64) (g acc : List Int) (hu : U64s g) (hg : g.length ≤ 6) (ha : acc.length ≤ 10000000) (j : Nat) (hj : j < l) (d : Nat) : ∀ (q k i : Nat), i + d = g.length → q = k + d + 1 → 100 ≤ k →
    trefoilref21_Spread.l2 q (l : Int) (g.length : Int) g (acc ++ (dbl l j g).take i) 0 (j : Int) (i : Int) = trefoilref21_Spread.l1 k (l : Int) (g.length : Int) g (acc ++ dbl l j g) 0 ((j + 1 : Nat) : Int) := by
  have e6 : wrap64 ((j : Int) + 1) = ((j + 1 : Nat) : Int) := by rw [w64 (by omega) (by omega)]; omega
  induction d with
  | zero =>
    intro q k i hi hq hk
    subst hq
    simp only [trefoilref21_Spread.l2]
    rw [if_neg (by omega), List.take_of_length_le (by rw [dbl_len]; omega), e6]
  | succ d ih =>
    intro q k i hi hq hk
    obtain ⟨q, rfl⟩ : ∃ p, q = p + 1 := ⟨q - 1, by omega⟩
    have hil : i < g.length := by omega
    have nx := ih q k (i + 1) (by omega) (by omega) hk
    have hj64 : j ≤ 64 := by omega
    have t1 : (i : Int) < (g.length : Int) := by omega
    have t2 : (0 : Int) ≤ (i : Int) := by omega
    have t4 : (0 : Int) ≤ (j : Int) := by omega
    have hkq : 100 ≤ q := by omega
    have hi6 : i ≤ 100000 := by omega
    have hlen : (acc ++ (dbl l j g).take i).length < 17592186044416 := by rw [List.length_append, List.length_take, dbl_len]; omega
    have e5 : wrap64 ((i : Int) + 1) = ((i + 1 : Nat) : Int) := by rw [w64 (by omega) (by omega)]; omega
    obtain ⟨x, ex, hx1⟩ := nat_of64 (hu _ (rd_mem g i hil)).1 (hu _ (rd_mem g i hil)).2
    have sn : (dbl l j g).take i ++ [((x * 2 ^ j % 2 ^ l : Nat) : Int)] = (dbl l j g).take (i + 1) := by
      have hd : i < (dbl l j g).length := by rw [dbl_len]; exact hil
      have e9 : (dbl l j g)[i] = ((x * 2 ^ j % 2 ^ l : Nat) : Int) := by
        have := dbl_at l j g i hil
        rw [ex, Int.toNat_natCast] at this
        rw [← this]; simp [rd, hd]
      rw [List.take_succ_eq_append_getElem hd, e9]
    have e8 := w0_add (g.length : Int) i hi6
    have e7 : IntKind.u64.wrap (j : Int) = (j : Int) := wu64_nat' (Nat.lt_of_le_of_lt hj64 (by decide))
    simp only [trefoilref21_Spread.l2]
    rw [if_pos t1, e8, if_pos t2, if_pos t1, e7, if_pos t4, ex, shl_fit q l x j hkq h1 hj64 hx1, Option.bind_some, if_pos hlen, e5, List.append_assoc, sn]
    exact nx

theorem rsp_1 (l : Nat) (h1 : l ≤ 64) (g : List Int) (hu : U64s g) (hg : g.length ≤ 6) (d : Nat) : ∀ (k j : Nat), j + d = l → d * 10 + 200 < k →
    ∃ q, k ≤ q + d * 10 + 1 ∧ trefoilref21_Spread.l1 k (l : Int) (g.length : Int) g ((List.range j).flatMap fun j => dbl l j g) 0 (j : Int) = trefoilref21_Spread.l0 q (l : Int) (g.length : Int) g (spreadB l g) 1 := by
  induction d with
  | zero =>
    intro k j hj hk
    obtain ⟨k, rfl⟩ : ∃ q, k = q + 1 := ⟨k - 1, by omega⟩
    refine ⟨k, by omega, ?_⟩
    simp only [trefoilref21_Spread.l1]
    rw [if_neg (by omega), show wrap64 (0 + 1) = 1 from w64 (by omega) (by omega), show j = l by omega]; rfl
  | succ d ih =>
    intro k j hj hk
    obtain ⟨k, rfl⟩ : ∃ q, k = q + 1 := ⟨k - 1, by omega⟩
    obtain ⟨q, hq, nx⟩ := ih (k - g.length - 1) (j + 1) (by omega) (by omega)
    refine ⟨q, by omega, ?_⟩
    have hm : j * g.length ≤ 64 * 6 := Nat.mul_le_mul (by omega) hg
    have st := rsp_2 l h1 g ((List.range j).flatMap fun j => dbl l j g) hu hg (by rw [part_len]; omega) j (by omega) g.length k (k - g.length - 1) 0 (by omega) (by omega) (by omega)
    rw [List.take_zero, List.append_nil, part_snoc] at st
    simp only [trefoilref21_Spread.l1]
    rw [if_pos (by omega)]
    exact (show trefoilref21_Spread.l2 k _ _ _ _ 0 (j : Int) 0 = _ from st).trans nx

theorem rsp_f (k l : Nat) (h0 : 1 ≤ l) (h1 : l ≤ 64) (g : List Int) (hu : U64s g) (hlo : lows l g = true) (hg0 : 1 ≤ g.length) (hg : g.length ≤ 6) (hk : 11000 ≤ k) : trefoilref21_Spread.f k (l : Int) (g.length : Int) g = some (spreadB l g, 0) := by
  obtain ⟨k, rfl⟩ : ∃ q, k = q + 2 := ⟨k - 2, by omega⟩
  have e1 : wrap64 ((g.length : Int) / (g.length : Int)) = 1 := by rw [Int.ediv_self (by omega)]; exact w64 (by omega) (by omega)
  have hne : ¬ (g.length : Int) = 0 := by omega
  unfold trefoilref21_Spread.f
  rw [wrong21_f (by omega) (by omega) (by omega) (by omega), Option.bind_some, if_neg (by simp), if_neg hne, if_pos (Int.emod_self ..), fits19_f (k + 2) l h1 g hu (by omega) (by omega), Option.bind_some, hlo]
  obtain ⟨q, hq, st⟩ := rsp_1 l h1 g hu hg l k 0 (by omega) (by omega)
  rw [List.range_zero, List.flatMap_nil] at st
  obtain ⟨q, rfl⟩ : ∃ p, q = p + 1 := ⟨q - 1, by omega⟩
  obtain ⟨K, hK⟩ : ∃ p, p = k + 1 := ⟨_, rfl⟩
  rw [show k + 2 = K + 1 by omega]
  simp only [trefoilref21_Spread.j0]
  rw [if_neg (by simp), hK]
  obtain ⟨R, hR⟩ : ∃ R, R = trefoilref21_Spread.l1 k (l : Int) (g.length : Int) g [] 0 0 := ⟨_, rfl⟩
  simp only [trefoilref21_Spread.l0]
  rw [if_neg hne, e1, if_pos (by omega)]
  refine (show trefoilref21_Spread.l1 k (l : Int) (g.length : Int) g [] 0 0 = _ from st).trans ?_
  simp only [trefoilref21_Spread.l0]
  rw [if_neg hne, e1, if_neg (by omega)]
end Go.Proofs.Ytcmaidpoolcelaa.Lem
