/- DabitComes, the plain part: the numbers of the first loop. -/
import Derived.Test.YtcmaidpoolcelaaCmK1
import Derived.Test.YtcmaidpoolcelaaCmK4
import Derived.Test.YtcmaidpoolcelaaCmK10
import Derived.Test.YtcmaidpoolcelaaCmLemFold
import Derived.Test.YtcmaidpoolcelaaCmLemDabit
import Derived.Test.YtcmaidpoolcelaaCmPureDabitRights
namespace Go.Proofs.Ytcmaidpoolcelaa.Lem
open Go.RowKit Go.Proofs.Ytcmaidpoolcelaa.P Go.Proofs.Ytcmaidpoolcelaa.Num Go.Proofs.YtcmaidpoolcelaaW.PrintWords Go.Proofs.YtcmaidpoolcelaaW.PrintMore
set_option linter.unusedVariables false

def bitN (b : Bool) : Nat := if b = true then 1 else 0
theorem bit01_eq (b : Bool) : bit01 b = ((bitN b : Nat) : Int) := by cases b <;> rfl
def mskF (l : Nat) (l3 : List Int) (n : Nat) : List Int := (List.range n).map fun (i : Nat) => ((nv l3 i % 2 ^ l : Nat) : Int)
def difF (l : Nat) (l1 l2 : List Bool) (l3 : List Int) (n : Nat) : List Int := (List.range n).map fun (i : Nat) => ((subN l (bitN (rdOf false l1 (i : Int) && rdOf false l2 (i : Int))) (nv l3 i % 2 ^ l) : Nat) : Int)
theorem mskF_succ (l : Nat) (l3 : List Int) (n : Nat) : mskF l l3 n ++ [((nv l3 n % 2 ^ l : Nat) : Int)] = mskF l l3 (n + 1) := by unfold mskF; rw [List.range_succ, List.map_append]; rfl
theorem difF_succ (l : Nat) (l1 l2 : List Bool) (l3 : List Int) (n : Nat) : difF l l1 l2 l3 n ++ [((subN l (bitN (rdOf false l1 (n : Int) && rdOf false l2 (n : Int))) (nv l3 n % 2 ^ l) : Nat) : Int)] = difF l l1 l2 l3 (n + 1) := by unfold difF; rw [List.range_succ, List.map_append]; rfl
theorem com_l0 (l : Nat) (hl : l ≤ 64) (l1 l2 : List Bool) (l3 : List Int) (h3 : U64s l3) (hn : l1.length ≤ l3.length) (d : Nat) : ∀ (k i : Nat), i + d = l1.length → d + 200 < k →
    trefoillaw25_DabitComes.l0 k (l : Int) l1 l2 l3 i (mskF l l3 i) (difF l l1 l2 l3 i) = some (mskF l l3 l1.length, difF l l1 l2 l3 l1.length) := by
  induction d with
  | zero =>
    intro k i hi hk
    obtain rfl : i = l1.length := by omega
    obtain ⟨k, rfl⟩ : ∃ p, k = p + 1 := ⟨k - 1, by omega⟩
    simp only [trefoillaw25_DabitComes.l0]
    rw [if_neg (by omega)]
  | succ d ih =>
    intro k i hi hk
    obtain ⟨k, rfl⟩ : ∃ p, k = p + 1 := ⟨k - 1, by omega⟩
    obtain ⟨e, hlt⟩ := nv_eq h3 i (by omega)
    have hb : bitN (rdOf false l1 (i : Int) && rdOf false l2 (i : Int)) < 18446744073709551616 := by unfold bitN; split <;> omega
    simp only [trefoillaw25_DabitComes.l0]
    rw [if_pos (by omega), e, fit_r k (by omega) l _ hl hlt, Option.bind_some, bit01_eq, sub_r k l _ _ (by omega) hl hb (lt64 hl), Option.bind_some, mskF_succ, difF_succ]
    exact ih k (i + 1) (by omega) (by omega)
theorem mskF_len (l : Nat) (l3 : List Int) (n : Nat) : (mskF l l3 n).length = n := by simp [mskF]
theorem difF_len (l : Nat) (l1 l2 : List Bool) (l3 : List Int) (n : Nat) : (difF l l1 l2 l3 n).length = n := by simp [difF]
theorem low_map (l n : Nat) (f : Nat → Nat) : lows l ((List.range n).map fun (i : Nat) => ((f i % 2 ^ l : Nat) : Int)) = true := by
  unfold lows
  rw [List.all_eq_true]
  intro x hx
  obtain ⟨i, -, rfl⟩ := List.mem_map.1 hx
  have := Nat.mod_lt (f i) (pow_pos l)
  simp only [decide_eq_true_eq]
  omega
theorem u64_map (l n : Nat) (hl : l ≤ 64) (f : Nat → Nat) : U64s ((List.range n).map fun (i : Nat) => ((f i % 2 ^ l : Nat) : Int)) := by
  intro x hx
  obtain ⟨i, -, rfl⟩ := List.mem_map.1 hx
  have : f i % 2 ^ l < 18446744073709551616 := lt64 hl
  omega
theorem mskF_low (l : Nat) (l3 : List Int) (n : Nat) : lows l (mskF l l3 n) = true := low_map l n fun i => nv l3 i
theorem mskF_u64 (l : Nat) (hl : l ≤ 64) (l3 : List Int) (n : Nat) : U64s (mskF l l3 n) := u64_map l n hl fun i => nv l3 i
theorem difF_low (l : Nat) (l1 l2 : List Bool) (l3 : List Int) (n : Nat) : lows l (difF l l1 l2 l3 n) = true := low_map l n fun i => bitN (rdOf false l1 (i : Int) && rdOf false l2 (i : Int)) + (18446744073709551616 - nv l3 i % 2 ^ l)
theorem difF_u64 (l : Nat) (hl : l ≤ 64) (l1 l2 : List Bool) (l3 : List Int) (n : Nat) : U64s (difF l l1 l2 l3 n) := u64_map l n hl fun i => bitN (rdOf false l1 (i : Int) && rdOf false l2 (i : Int)) + (18446744073709551616 - nv l3 i % 2 ^ l)
theorem own_shs (l : List Bool) : ownOf (shs l) = l.map bit01 := by unfold ownOf shs; rw [List.map_map]; rfl
theorem shs_len (l : List Bool) : (shs l).length = l.length := by simp [shs]
theorem own_u64 (l : List Bool) : U64s (ownOf (shs l)) := by
  intro x hx
  rw [own_shs] at hx
  obtain ⟨b, -, rfl⟩ := List.mem_map.1 hx
  cases b <;> simp [bit01]
theorem shs_right (c : Int) (l : List Bool) (h : dchk 4 c 0 0 0 (l.length : Int) = 0) : dwrong 4 c 0 0 0 (shs l) = 0 := by
  unfold dwrong
  rw [shs_len, if_pos h, if_pos]
  rw [List.all_eq_true]
  intro s hs
  unfold shs at hs
  obtain ⟨b, -, rfl⟩ := List.mem_map.1 hs
  cases b <;> rfl
theorem com_fin (l : Nat) (l1 : List Bool) (p : List Int) (h : dchk 4 (l : Int) 0 0 0 (l1.length : Int) = 0) (hp : p.length = l1.length) (hlo : lows l p = true) : finR 4 (l : Int) 0 0 0 (shs l1) p = (entries l (ownOf (shs l1)) p l1.length, 0) := by
  unfold finR
  rw [if_pos (shs_right _ l1 h), Int.toNat_natCast, if_pos ⟨by rw [shs_len]; exact hp, hlo⟩, shs_len]
theorem com_fits (l x y : Nat) (h : chk 4 (l : Int) 0 0 0 = 0) (hx : x < 2) (hy : y < 2 ^ l) : fitsOf 4 (l : Int) 0 0 0 [(x : Int)] [(y : Int)] [] = true := by
  have hx2 : (x : Int) < 2 := by omega
  have hy2 : (y : Int) < ((2 ^ l : Nat) : Int) := by omega
  unfold fitsOf fit lows sz0 sz1 sz2 wd0
  simp [h, hx2]
  exact_mod_cast hy
open Go.Proofs.Ytcmaidpoolcelaa.Pure.DabitRightsL in
theorem com_right (k l x u y v : Nat) (hk : 4001 ≤ k) (h : chk 4 (l : Int) 0 0 0 = 0) (h0 : 1 ≤ l) (hl : l ≤ 64) (hx : x < 2) (hu : u < 2) (hy : y < 2 ^ l) (hv : v < 2 ^ l) (hs : (y + v) % 2 ^ l = if x = u then 0 else 1) :
    dabit_Right.f k 4 (l : Int) 0 0 0 [(x : Int)] [(y : Int)] [] [(u : Int)] [(v : Int)] [] = some true ∧ trefoilref25_Right.f k 4 (l : Int) 0 0 0 [(x : Int)] [(y : Int)] [] [(u : Int)] [(v : Int)] [] = some true := by
  have hp := pow_le_64 hl
  have one : ∀ z : Nat, z < 18446744073709551616 → U64s [(z : Int)] := by intro z hz t ht; simp at ht; omega
  have no : U64s [] := by intro t ht; simp at ht
  have ux := one x (by omega)
  have uu := one u (by omega)
  have uy := one y (by omega)
  have uv := one v (by omega)
  obtain ⟨r, e1, e2⟩ := both k hk 4 (l : Int) 0 0 0 [(x : Int)] [(y : Int)] [] [(u : Int)] [(v : Int)] [] ux uy no uu uv no (by simp) (by simp) (by simp) (by simp) (by simp) (by simp)
  have e : dabit_Right.f k 4 (l : Int) 0 0 0 [(x : Int)] [(y : Int)] [] [(u : Int)] [(v : Int)] [] = some true := by
    unfold dabit_Right.f
    rw [if_pos rfl, shareFits_f _ (by omega) _ _ _ _ _ _ _ _ ux uy no (by simp) (by simp) (by simp), Option.bind_some, if_pos (com_fits l x y h hx hy),
      shareFits_f _ (by omega) _ _ _ _ _ _ _ _ uu uv no (by simp) (by simp) (by simp), Option.bind_some, if_pos (com_fits l u v h hu hv)]
    have q1 := add_f l y v h0 hl
    have q3 := xor_bit x u hx hu
    simp only [rd, Int.toNat_zero, List.getD_cons_zero, List.length_cons, List.length_nil, q1, q3, Option.bind_some, hs]
    by_cases hxu : x = u <;> simp [hxu]
  rw [e] at e1
  obtain rfl := Option.some.inj e1
  exact ⟨e, e2⟩
theorem sub_lin (l a b : Nat) (hl : l ≤ 64) (hb : b ≤ 18446744073709551616) : ∃ t : Int, ((subN l a b : Nat) : Int) = (a : Int) - (b : Int) + ((2 ^ l : Nat) : Int) * t := by
  obtain ⟨c, hc⟩ := dvd64 hl
  refine ⟨(c : Int) - (((a + (18446744073709551616 - b)) / 2 ^ l : Nat) : Int), ?_⟩
  have h := Nat.mod_add_div (a + (18446744073709551616 - b)) (2 ^ l)
  unfold subN
  generalize 2 ^ l = N at *
  generalize (a + (18446744073709551616 - b)) / N = q at *
  generalize (a + (18446744073709551616 - b)) % N = r at *
  rw [Int.mul_sub]
  have h1 : ((N : Nat) : Int) * ((c : Nat) : Int) = 18446744073709551616 := by
    have h3 := congrArg (fun z : Nat => (z : Int)) hc
    simp only [Int.natCast_mul] at h3
    exact h3.symm
  have h2 : ((r : Nat) : Int) + ((N : Nat) : Int) * ((q : Nat) : Int) = (a : Int) + (18446744073709551616 - (b : Int)) := by
    have := congrArg (fun z : Nat => (z : Int)) h
    simp only [Int.natCast_add, Int.natCast_mul] at this
    rw [this, Int.natCast_sub hb]
    rfl
  rw [h1]
  generalize ((N : Nat) : Int) * ((q : Nat) : Int) = z at *
  omega
theorem mod_lin (n N : Nat) : ∃ t : Int, ((n % N : Nat) : Int) = (n : Int) + (N : Int) * t := by
  refine ⟨-((n / N : Nat) : Int), ?_⟩
  have h := congrArg (fun z : Nat => (z : Int)) (Nat.mod_add_div n N)
  simp only [Int.natCast_add, Int.natCast_mul] at h
  rw [Int.mul_neg]
  generalize ((N : Nat) : Int) * ((n / N : Nat) : Int) = z at *
  omega
theorem com_sum (l : Nat) (h0 : 1 ≤ l) (hl : l ≤ 64) (b1 b2 : Bool) (p : Nat) (hp : p < 2 ^ l) :
    (subN l (bitN b1) ((p + p) % 2 ^ l) + subN l (bitN b2) ((subN l (bitN (b1 && b2)) p + subN l (bitN (b1 && b2)) p) % 2 ^ l)) % 2 ^ l = if bitN b1 = bitN b2 then 0 else 1 := by
  have h64 := pow_le_64 hl
  have hN : 2 ≤ 2 ^ l := by
    calc 2 = 2 ^ 1 := rfl
      _ ≤ 2 ^ l := Nat.pow_le_pow_right (by omega) h0
  obtain ⟨t1, e1⟩ := sub_lin l (bitN b1) ((p + p) % 2 ^ l) hl (Nat.le_of_lt (lt64 hl))
  obtain ⟨t2, e2⟩ := mod_lin (p + p) (2 ^ l)
  obtain ⟨t3, e3⟩ := sub_lin l (bitN (b1 && b2)) p hl (by omega)
  generalize hr : subN l (bitN (b1 && b2)) p = r at *
  obtain ⟨t4, e4⟩ := sub_lin l (bitN b2) ((r + r) % 2 ^ l) hl (Nat.le_of_lt (lt64 hl))
  obtain ⟨t5, e5⟩ := mod_lin (r + r) (2 ^ l)
  generalize subN l (bitN b1) ((p + p) % 2 ^ l) = y at *
  generalize subN l (bitN b2) ((r + r) % 2 ^ l) = v at *
  generalize (p + p) % 2 ^ l = q1 at *
  generalize (r + r) % 2 ^ l = q2 at *
  generalize 2 ^ l = N at *
  have key : ((y + v : Nat) : Int) = (((if bitN b1 = bitN b2 then 0 else 1 : Nat)) : Int) + (N : Int) * (t1 - t2 - 2 * t3 + t4 - t5) := by
    have hm : (N : Int) * (t1 - t2 - 2 * t3 + t4 - t5) = (N : Int) * t1 - (N : Int) * t2 - 2 * ((N : Int) * t3) + (N : Int) * t4 - (N : Int) * t5 := by
      rw [Int.mul_sub, Int.mul_add, Int.mul_sub, Int.mul_sub, Int.mul_left_comm]
    rw [hm]
    generalize (N : Int) * t1 = z1 at *
    generalize (N : Int) * t2 = z2 at *
    generalize (N : Int) * t3 = z3 at *
    generalize (N : Int) * t4 = z4 at *
    generalize (N : Int) * t5 = z5 at *
    have hz : ((bitN b1 : Nat) : Int) + ((bitN b2 : Nat) : Int) - 2 * ((bitN (b1 && b2) : Nat) : Int) = (((if bitN b1 = bitN b2 then 0 else 1 : Nat)) : Int) := by cases b1 <;> cases b2 <;> rfl
    rw [← hz]
    generalize bitN b1 = x1 at *
    generalize bitN b2 = x2 at *
    generalize bitN (b1 && b2) = x3 at *
    clear hz hm hN h64 hp hr
    omega
  have hlt : (if bitN b1 = bitN b2 then 0 else 1 : Nat) < N := by split <;> omega
  have := congrArg (fun z : Int => z % (N : Int)) key
  simp only [Int.add_mul_emod_self_left] at this
  rw [← Int.natCast_emod, ← Int.natCast_emod, Nat.mod_eq_of_lt hlt] at this
  exact Int.ofNat.inj this
theorem rd_ents (l : Nat) (a p : List Int) (m i : Nat) (h : i < m) : rd_T26 (entries l a p m) (i : Int) = entry l (rd a (i : Nat)) (rd p (i : Nat)) := by
  rw [rd_at _ i (by rw [entries_len]; exact h)]
  simp [entries]
theorem rd_mapr (f : Nat → Int) (n i : Nat) (h : i < n) : rd ((List.range n).map f) (i : Int) = f i := by
  unfold rd
  rw [Int.toNat_natCast, List.getD_eq_getElem?_getD, List.getElem?_map, List.getElem?_range h]
  rfl
theorem rd_own (l : List Bool) (i : Nat) (h : i < l.length) : rd (ownOf (shs l)) (i : Int) = ((bitN (rdOf false l (i : Int)) : Nat) : Int) := by
  rw [own_shs, ← bit01_eq]
  unfold rd rdOf
  simp only [Int.toNat_natCast]
  rw [List.getD_eq_getElem?_getD, List.getD_eq_getElem?_getD, List.getElem?_map, List.getElem?_eq_getElem h]
  rfl
theorem bitN_lt (b : Bool) : bitN b < 2 := by cases b <;> decide
theorem subN_lt (l a b : Nat) : subN l a b < 2 ^ l := Nat.mod_lt _ (pow_pos l)
open Go.Proofs.Ytcmaidpoolcelaa.Pure.DabitRightsL in
theorem com_l1 (l : Nat) (h0 : 1 ≤ l) (hl : l ≤ 64) (hc : chk 4 (l : Int) 0 0 0 = 0) (l1 l2 : List Bool) (l3 : List Int) (hn : l2.length = l1.length) (d : Nat) : ∀ (k i : Nat), i + d = l1.length → d + 5000 < k →
    trefoillaw25_DabitComes.l1 k (l : Int) (entries l (ownOf (shs l1)) (mskF l l3 l1.length) l1.length) (entries l (ownOf (shs l2)) (difF l l1 l2 l3 l1.length) l1.length) i = some true := by
  induction d with
  | zero =>
    intro k i hi hk
    obtain ⟨k, rfl⟩ : ∃ p, k = p + 1 := ⟨k - 1, by omega⟩
    simp only [trefoillaw25_DabitComes.l1, entries_len]
    rw [if_neg (by omega)]
    exact awake_f k (by omega)
  | succ d ih =>
    intro k i hi hk
    obtain ⟨k, rfl⟩ : ∃ p, k = p + 1 := ⟨k - 1, by omega⟩
    have hi1 : i < l1.length := by omega
    have e1 : rd (mskF l l3 l1.length) (i : Int) = ((nv l3 i % 2 ^ l : Nat) : Int) := rd_mapr _ _ _ hi1
    have e2 : rd (difF l l1 l2 l3 l1.length) (i : Int) = ((subN l (bitN (rdOf false l1 (i : Int) && rdOf false l2 (i : Int))) (nv l3 i % 2 ^ l) : Nat) : Int) := rd_mapr _ _ _ hi1
    simp only [trefoillaw25_DabitComes.l1, entries_len]
    rw [if_pos hi1, rd_ents _ _ _ _ _ hi1, rd_ents _ _ _ _ _ hi1, e1, e2, rd_own l1 i hi1, rd_own l2 i (by omega)]
    simp only [entry, Int.toNat_natCast]
    have hs := com_sum l h0 hl (rdOf false l1 (i : Int)) (rdOf false l2 (i : Int)) (nv l3 i % 2 ^ l) (Nat.mod_lt _ (pow_pos l))
    have z1 := subN_lt l (bitN (rdOf false l1 (i : Int))) ((nv l3 i % 2 ^ l + nv l3 i % 2 ^ l) % 2 ^ l)
    have z2 := subN_lt l (bitN (rdOf false l2 (i : Int))) ((subN l (bitN (rdOf false l1 (i : Int) && rdOf false l2 (i : Int))) (nv l3 i % 2 ^ l) + subN l (bitN (rdOf false l1 (i : Int) && rdOf false l2 (i : Int))) (nv l3 i % 2 ^ l)) % 2 ^ l)
    revert hs z1 z2
    generalize subN l (bitN (rdOf false l1 (i : Int))) ((nv l3 i % 2 ^ l + nv l3 i % 2 ^ l) % 2 ^ l) = y
    generalize subN l (bitN (rdOf false l2 (i : Int))) ((subN l (bitN (rdOf false l1 (i : Int) && rdOf false l2 (i : Int))) (nv l3 i % 2 ^ l) + subN l (bitN (rdOf false l1 (i : Int) && rdOf false l2 (i : Int))) (nv l3 i % 2 ^ l)) % 2 ^ l) = v
    intro hs z1 z2
    obtain ⟨r1, r2⟩ := com_right k l _ _ y v (by omega) hc h0 hl (bitN_lt (rdOf false l1 (i : Int))) (bitN_lt (rdOf false l2 (i : Int))) z1 z2 hs
    have h64 := pow_le_64 hl
    rw [r2, Option.bind_some, if_pos rfl, r1, Option.bind_some, if_pos rfl]
    refine Eq.trans (if_pos ⟨by simp, by simp⟩) ?_
    have ea : rd [((y : Nat) : Int)] 0 = ((y : Nat) : Int) := rfl
    have ev : rd [((v : Nat) : Int)] 0 = ((v : Nat) : Int) := rfl
    rw [ea, ev, add_r' k l y v (by omega) hl (by omega) (by omega), Option.bind_some, hs, if_neg (by split <;> decide)]
    exact ih k (i + 1) (by omega) (by omega)
open Go.Proofs.Ytcmaidpoolcelaa.Pure.DabitRightsL in
theorem com_f (k : Nat) (hk : 10000 ≤ k) (c : Int) (l1 l2 : List Bool) (l3 : List Int) (h3 : U64s l3) : trefoillaw25_DabitComes.f k c l1 l2 l3 = some true := by
  unfold trefoillaw25_DabitComes.f
  rw [dcheck_r k (by omega), Option.bind_some]
  by_cases hg : dchk 4 c 0 0 0 (l1.length : Int) = 0 ∧ l2.length = l1.length ∧ l1.length ≤ l3.length
  case neg => rw [if_neg hg]; exact awake_f k (by omega)
  case pos =>
    rw [if_pos hg]
    obtain ⟨hd, h2, h3l⟩ := hg
    obtain ⟨hc, -, hn1, hn2⟩ := dchk_zero hd
    obtain ⟨hb1, hb2, -, -⟩ := chk_bits hc
    obtain ⟨l, rfl⟩ : ∃ l : Nat, c = (l : Int) := ⟨c.toNat, by omega⟩
    have h0 : 1 ≤ l := by omega
    have hl : l ≤ 64 := by omega
    have hL := com_l0 l hl l1 l2 l3 h3 h3l l1.length k 0 (by omega) (by omega)
    have q1 : mskF l l3 0 = [] := rfl
    have q2 : difF l l1 l2 l3 0 = [] := rfl
    rw [q1, q2] at hL
    rw [if_pos (by omega), hL, Option.bind_some]
    have hd2 : dchk 4 (l : Int) 0 0 0 (l2.length : Int) = 0 := by rw [h2]; exact hd
    rw [finish_f k (by omega) _ _ _ _ _ _ _ (own_u64 l1) (mskF_u64 l hl l3 _) (by rw [shs_len]; omega),
      finish_f k (by omega) _ _ _ _ _ _ _ (own_u64 l2) (difF_u64 l hl l1 l2 l3 _) (by rw [shs_len]; omega),
      com_fin l l1 _ hd (mskF_len _ _ _) (mskF_low _ _ _), com_fin l l2 _ hd2 (by rw [difF_len, h2]) (difF_low _ _ _ _ _)]
    simp only [Option.bind_some, entries_len, h2]
    refine Eq.trans (if_pos (by simp)) ?_
    exact com_l1 l h0 hl hc l1 l2 l3 h2 l1.length k 0 (by omega) (by omega)
end Go.Proofs.Ytcmaidpoolcelaa.Lem
