/- Bits shared twice: what the program and the document make of any shares is the same. -/
import Derived.Test.YtcmaidpoolcelaaCmPx0
import Derived.Test.YtcmaidpoolcelaaCmK4
import Derived.Test.YtcmaidpoolcelaaCmK7
import Derived.Test.YtcmaidpoolcelaaCmK8
import Derived.Test.YtcmaidpoolcelaaCmLemRing2
import Derived.Test.YtcmaidpoolcelaaCmNum
namespace Go.Proofs.Ytcmaidpoolcelaa.Lem
open Go.RowKit Go.Proofs.Ytcmaidpoolcelaa.P Go.Proofs.Ytcmaidpoolcelaa.Num Go.Proofs.YtcmaidpoolcelaaW.PrintWords Go.Proofs.YtcmaidpoolcelaaW.PrintMore
set_option linter.unusedVariables false

def dchk (c0 c1 c2 c3 c4 n : Int) : Int := if chk c0 c1 c2 c3 c4 = 0 then (if c0 = 4 then (if n < 1 then 2 else if n > 24 then 2 else 0) else 15) else chk c0 c1 c2 c3 c4
theorem dcheck_f (k : Nat) (hk : 10 ≤ k) (c0 c1 c2 c3 c4 n : Int) : dabit_check.f k c0 c1 c2 c3 c4 n = some (dchk c0 c1 c2 c3 c4 n) := by
  unfold dabit_check.f dchk
  rw [check_f k hk, Option.bind_some]
  by_cases h : chk c0 c1 c2 c3 c4 = 0
  · rw [if_pos h, if_pos h]
    by_cases h4 : c0 = 4
    · rw [if_pos h4, if_pos h4]
      by_cases h1 : n < 1
      · rw [if_pos h1, if_pos h1]
      · rw [if_neg h1, if_neg h1]
        by_cases h2 : n > 24
        · rw [if_pos h2, if_pos h2]
        · rw [if_neg h2, if_neg h2]
    · rw [if_neg h4, if_neg h4]
  · rw [if_neg h, if_neg h]
theorem dcheck_r (k : Nat) (hk : 10 ≤ k) (c0 c1 c2 c3 c4 n : Int) : trefoilref25_Check.f k c0 c1 c2 c3 c4 n = some (dchk c0 c1 c2 c3 c4 n) := by
  unfold trefoilref25_Check.f dchk
  rw [check_r k hk, Option.bind_some, Option.bind_some]
  by_cases h : chk c0 c1 c2 c3 c4 = 0
  · rw [if_pos h, if_pos h]
    by_cases h4 : c0 = 4
    · rw [if_pos h4, if_pos h4]
      by_cases h1 : n < 1
      · rw [if_pos h1, if_pos h1]
      · rw [if_neg h1, if_neg h1]
        by_cases h2 : n > 24
        · rw [if_pos h2, if_pos h2]
        · rw [if_neg h2, if_neg h2]
    · rw [if_neg h4, if_neg h4]
  · rw [if_neg h, if_neg h]
theorem dchk_zero {c0 c1 c2 c3 c4 n : Int} (h : dchk c0 c1 c2 c3 c4 n = 0) : chk c0 c1 c2 c3 c4 = 0 ∧ c0 = 4 ∧ 1 ≤ n ∧ n ≤ 24 := by
  unfold dchk at h
  by_cases h1 : chk c0 c1 c2 c3 c4 = 0
  · rw [if_pos h1] at h
    by_cases h4 : c0 = 4
    · rw [if_pos h4] at h
      by_cases h2 : n < 1
      · rw [if_pos h2] at h; omega
      · rw [if_neg h2] at h
        by_cases h3 : n > 24
        · rw [if_pos h3] at h; omega
        · exact ⟨h1, h4, by omega, by omega⟩
    · rw [if_neg h4] at h; omega
  · rw [if_neg h1] at h; exact absurd h h1

/-- a share's bit is there, and a bit -/
def okBit (s : S26) : Bool := decide (s.f0.length = 1) && decide (rd s.f0 0 ≤ 1)
def ownOf (l : List S26) : List Int := l.map fun s => rd s.f0 0
theorem ownOf_len (l : List S26) : (ownOf l).length = l.length := by simp [ownOf]
theorem rd_at (l : List S26) (i : Nat) (h : i < l.length) : rd_T26 l (i : Int) = l[i] := by
  simp only [rd_T26, Int.toNat_natCast]
  rw [List.getD_eq_getElem?_getD, List.getElem?_eq_getElem h]; rfl
theorem ownOf_snoc (l : List S26) (i : Nat) (h : i < l.length) : ownOf (l.take i) ++ [rd (rd_T26 l (i : Int)).f0 0] = ownOf (l.take (i + 1)) := by
  rw [rd_at l i h, List.take_succ_eq_append_getElem h]; unfold ownOf; rw [List.map_append]; rfl
theorem all_drop (l : List S26) (i : Nat) (h : i < l.length) : (l.drop i).all okBit = (okBit (rd_T26 l (i : Int)) && (l.drop (i + 1)).all okBit) := by
  rw [List.drop_eq_getElem_cons h, rd_at l i h]; rfl

theorem own_loop (l : List S26) (hn : l.length ≤ 1000) (d : Nat) : ∀ (k i : Nat), i + d = l.length → d < k →
    dabit_own.l0 k (ownOf (l.take i)) l (l.length : Int) (i : Int) = some (if (l.drop i).all okBit = true then (ownOf l, 0) else ([], 11)) := by
  induction d with
  | zero =>
    intro k i hi hk
    obtain ⟨k, rfl⟩ : ∃ q, k = q + 1 := ⟨k - 1, by omega⟩
    simp only [dabit_own.l0]
    rw [if_neg (by omega), List.drop_eq_nil_of_le (by omega), List.take_of_length_le (by omega)]; rfl
  | succ d ih =>
    intro k i hi hk
    obtain ⟨k, rfl⟩ : ∃ q, k = q + 1 := ⟨k - 1, by omega⟩
    have hil : i < l.length := by omega
    have e5 : wrap64 ((i : Int) + 1) = ((i + 1 : Nat) : Int) := by rw [w64 (by omega) (by omega)]; omega
    have nx := ih k (i + 1) (by omega) (by omega)
    have hlen : (ownOf (l.take i)).length < 17592186044416 := by rw [ownOf_len, List.length_take]; omega
    simp only [dabit_own.l0]
    rw [if_pos (by omega), if_pos (by omega), if_pos (by omega), all_drop l i hil, ownOf_snoc l i hil, e5, nx]
    unfold okBit
    by_cases h1 : (rd_T26 l (i : Int)).f0.length = 1
    · rw [if_pos (by omega), if_pos (by omega), decide_eq_true h1, Bool.true_and]
      by_cases h2 : rd (rd_T26 l (i : Int)).f0 0 > 1
      · rw [if_pos h2, decide_eq_false (by omega), Bool.false_and, if_neg (by simp)]
      · rw [if_neg h2, if_pos hlen, decide_eq_true (by omega), Bool.true_and]
    · rw [if_neg (by omega), decide_eq_false h1, Bool.false_and, Bool.false_and, if_neg (by simp)]

/-- what is wrong with shares -/
def dwrong (c0 c1 c2 c3 c4 : Int) (l : List S26) : Int := if dchk c0 c1 c2 c3 c4 (l.length : Int) = 0 then (if l.all okBit = true then 0 else 11) else dchk c0 c1 c2 c3 c4 (l.length : Int)
def ownR (c0 c1 c2 c3 c4 : Int) (l : List S26) : List Int × Int := if dwrong c0 c1 c2 c3 c4 l = 0 then (ownOf l, 0) else ([], dwrong c0 c1 c2 c3 c4 l)

theorem own_f (k : Nat) (hk : 2000 ≤ k) (c0 c1 c2 c3 c4 : Int) (l : List S26) (hn : l.length ≤ 1000) : dabit_own.f k c0 c1 c2 c3 c4 l = some (ownR c0 c1 c2 c3 c4 l) := by
  unfold dabit_own.f ownR dwrong
  rw [dcheck_f k (by omega), Option.bind_some]
  by_cases h : dchk c0 c1 c2 c3 c4 (l.length : Int) = 0
  · rw [if_pos h, if_pos h]
    have := own_loop l hn l.length k 0 (by omega) (by omega)
    rw [List.take_zero, List.drop_zero] at this
    rw [show dabit_own.l0 k [] l (l.length : Int) 0 = _ from this]
    by_cases ha : l.all okBit = true
    · rw [if_pos ha, if_pos ha, if_pos rfl]
    · rw [if_neg ha, if_neg ha, if_neg (by omega)]
  · rw [if_neg h, if_neg h, if_neg h]

theorem dwrong_zero {c0 c1 c2 c3 c4 : Int} {l : List S26} (h : dwrong c0 c1 c2 c3 c4 l = 0) : chk c0 c1 c2 c3 c4 = 0 ∧ c0 = 4 ∧ 1 ≤ l.length ∧ l.length ≤ 24 ∧ ∀ s ∈ l, s.f0.length = 1 ∧ rd s.f0 0 ≤ 1 := by
  unfold dwrong at h
  by_cases h1 : dchk c0 c1 c2 c3 c4 (l.length : Int) = 0
  · rw [if_pos h1] at h
    obtain ⟨a, b, c, d⟩ := dchk_zero h1
    by_cases ha : l.all okBit = true
    · refine ⟨a, b, by omega, by omega, fun s hs => ?_⟩
      have := List.all_eq_true.1 ha s hs
      unfold okBit at this
      rw [Bool.and_eq_true, decide_eq_true_eq, decide_eq_true_eq] at this
      exact this
    · rw [if_neg ha] at h; omega
  · rw [if_neg h1] at h; exact absurd h h1

/-- the share of one bit, and of one number -/
def entry (l : Nat) (x p : Int) : S26 := ⟨[x], [((subN l x.toNat ((p.toNat + p.toNat) % 2 ^ l) : Nat) : Int)], []⟩
def entries (l : Nat) (a p : List Int) (m : Nat) : List S26 := (List.range m).map fun i => entry l (rd a (i : Nat)) (rd p (i : Nat))
theorem entries_len (l : Nat) (a p : List Int) (m : Nat) : (entries l a p m).length = m := by simp [entries]
theorem entries_snoc (l : Nat) (a p : List Int) (m : Nat) : entries l a p m ++ [entry l (rd a (m : Nat)) (rd p (m : Nat))] = entries l a p (m + 1) := by
  simp [entries, List.range_succ]

theorem fin_loop (c0 c2 c3 c4 : Int) (l : Nat) (h0 : 1 ≤ l) (h1 : l ≤ 64) (a p : List Int) (ha : U64s a) (hp : U64s p) (hl : p.length = a.length) (hn : a.length ≤ 1000) (d : Nat) : ∀ (k i : Nat), i + d = a.length → d < k →
    dabit_Finish.l0 k p (entries l a p i) a (a.length : Int) (i : Int) c0 (l : Int) c2 c3 c4 = some (entries l a p a.length, 0) := by
  induction d with
  | zero =>
    intro k i hi hk
    obtain ⟨k, rfl⟩ : ∃ q, k = q + 1 := ⟨k - 1, by omega⟩
    simp only [dabit_Finish.l0]
    rw [if_neg (by omega), show i = a.length by omega]
  | succ d ih =>
    intro k i hi hk
    obtain ⟨k, rfl⟩ : ∃ q, k = q + 1 := ⟨k - 1, by omega⟩
    have hil : i < a.length := by omega
    have hip : i < p.length := by omega
    have e5 : wrap64 ((i : Int) + 1) = ((i + 1 : Nat) : Int) := by rw [w64 (by omega) (by omega)]; omega
    have nx := ih k (i + 1) (by omega) (by omega)
    have t1 : (i : Int) < (a.length : Int) := by omega
    have t2 : (0 : Int) ≤ (i : Int) := by omega
    have t3 : (i : Int) < (p.length : Int) := by omega
    have hlen : (entries l a p i).length < 1954687338268 := by rw [entries_len]; omega
    obtain ⟨x, ex, hx⟩ := nat_of64 (ha _ (rd_mem a i hil)).1 (ha _ (rd_mem a i hil)).2
    obtain ⟨q, eq, hq⟩ := nat_of64 (hp _ (rd_mem p i hip)).1 (hp _ (rd_mem p i hip)).2
    have em := mul_f l 2 q h0 h1
    have es := sub_f l x (2 * q % 2 ^ l) h0 h1 (lt64 h1)
    simp only [dabit_Finish.l0]
    rw [if_pos t1, if_pos t2, if_pos t1, if_pos t3, ex, eq, show ring_Mul.f (l : Int) 2 (q : Int) = _ from em, Option.bind_some, es, Option.bind_some, if_pos hlen, e5]
    have e6 : entries l a p i ++ [(⟨[(x : Int)], [((subN l x (2 * q % 2 ^ l) : Nat) : Int)], []⟩ : S26)] = entries l a p (i + 1) := by
      rw [← entries_snoc, ex, eq]
      unfold entry
      rw [Int.toNat_natCast, Int.toNat_natCast, Nat.two_mul]
    rw [e6]
    exact nx

/-- what both come to -/
def finR (c0 c1 c2 c3 c4 : Int) (s : List S26) (p : List Int) : List S26 × Int :=
  if dwrong c0 c1 c2 c3 c4 s = 0 then (if p.length = s.length ∧ lows c1.toNat p = true then (entries c1.toNat (ownOf s) p s.length, 0) else ([], 11)) else ([], dwrong c0 c1 c2 c3 c4 s)

theorem finish_f (k : Nat) (hk : 4000 ≤ k) (c0 c1 c2 c3 c4 : Int) (s : List S26) (p : List Int) (ha : U64s (ownOf s)) (hp : U64s p) (hn : s.length ≤ 1000) : dabit_Finish.f k c0 c1 c2 c3 c4 s p = some (finR c0 c1 c2 c3 c4 s p) := by
  unfold dabit_Finish.f finR
  rw [own_f k (by omega) c0 c1 c2 c3 c4 s hn, Option.bind_some]
  unfold ownR
  obtain ⟨k, rfl⟩ : ∃ q, k = q + 1 := ⟨k - 1, by omega⟩
  by_cases h : dwrong c0 c1 c2 c3 c4 s = 0
  · obtain ⟨hc, h4, hl1, hl2, ho⟩ := dwrong_zero h
    obtain ⟨b1, b2, _, _⟩ := chk_bits hc
    obtain ⟨l, rfl⟩ := nat_of (show 0 ≤ c1 by omega)
    have h0 : 1 ≤ l := by omega
    have h1 : l ≤ 64 := by omega
    rw [if_pos h, if_pos h]
    simp only
    rw [if_pos trivial, ownOf_len, Int.toNat_natCast]
    by_cases hlen : p.length = s.length
    · rw [if_pos (by omega), ringFits_f l h0 h1 p hp, Option.bind_some]
      simp only [dabit_Finish.j0]
      by_cases hlo : lows l p = true
      · have hj := fin_loop c0 c2 c3 c4 l h0 h1 (ownOf s) p ha hp (by rw [ownOf_len]; exact hlen) (by rw [ownOf_len]; exact hn) (ownOf s).length k 0 (by omega) (by rw [ownOf_len]; omega)
        rw [hlo, if_neg (by simp), if_pos (show (0 : Int) ≤ (s.length : Int) by omega), if_pos (show ((s.length : Int)).toNat ≤ 3909374676536 by omega), if_pos (show p.length = s.length ∧ true = true from ⟨hlen, rfl⟩)]
        rw [ownOf_len] at hj ⊢
        exact hj
      · rw [if_pos (by simpa using hlo), if_neg (fun c => hlo c.2)]
    · rw [if_neg (by omega), if_neg (fun c => hlen c.1)]
      simp only [dabit_Finish.j0]
      rw [if_pos trivial]
  · rw [if_neg h, if_neg h]
    simp only
    rw [if_neg h]

end Go.Proofs.Ytcmaidpoolcelaa.Lem
