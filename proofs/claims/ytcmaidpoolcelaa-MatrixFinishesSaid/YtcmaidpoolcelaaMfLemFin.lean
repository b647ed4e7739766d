/- The part C of shares: the program's way and the document's come to the same shares. -/
import Derived.Test.YtcmaidpoolcelaaMfPx0
import Derived.Test.YtcmaidpoolcelaaMfK10
import Derived.Test.YtcmaidpoolcelaaMfLemFold
import Derived.Test.YtcmaidpoolcelaaMfLemPart
import Derived.Test.YtcmaidpoolcelaaMfLemSame
namespace Go.Proofs.Ytcmaidpoolcelaa.Lem
open Go.RowKit Go.Proofs.Ytcmaidpoolcelaa.P Go.Proofs.Ytcmaidpoolcelaa.Num Go.Proofs.YtcmaidpoolcelaaW.PrintWords Go.Proofs.YtcmaidpoolcelaaW.PrintMore
set_option linter.unusedVariables false
set_option linter.unusedSectionVars false

/-- the sum of t products of a row and a column, and what was folded for them, from at_ on -/
def prodF (q c : Nat) (A B X Y : List Int) (at_ a b : Nat) : Nat → Nat
  | 0 => 0
  | t + 1 => prodF q c A B X Y at_ a b t + nv A (a * q + t) * nv B (t * c + b) + (nv X (at_ + (a * q + t) * c + b) + nv Y (at_ + (a * q + t) * c + b))
def cellP (l q c : Nat) (A B X Y : List Int) (at_ a b t : Nat) : Int := ((prodF q c A B X Y at_ a b t % 2 ^ l : Nat) : Int)
def entP (l q c : Nat) (A B X Y : List Int) (at_ z : Nat) : Int := cellP l q c A B X Y at_ (z / c) (z % c) q
def rowP (l q c : Nat) (A B X Y : List Int) (at_ z : Nat) : List Int := (List.range z).map (entP l q c A B X Y at_)
def shP (l r q c : Nat) (xs : List S26) (X Y : List Int) (i : Nat) : S26 :=
  ⟨(rd_T26 xs (i : Int)).f0, (rd_T26 xs (i : Int)).f1, rowP l q c (rd_T26 xs (i : Int)).f0 (rd_T26 xs (i : Int)).f1 X Y (i * r * q * c) (r * c)⟩
def finP (l r q c : Nat) (xs : List S26) (X Y : List Int) (m : Nat) : List S26 := (List.range m).map (shP l r q c xs X Y)
theorem rowP_succ (l q c : Nat) (A B X Y : List Int) (at_ z : Nat) : rowP l q c A B X Y at_ z ++ [entP l q c A B X Y at_ z] = rowP l q c A B X Y at_ (z + 1) := by
  unfold rowP; rw [List.range_succ, List.map_append]; rfl
theorem rowP_len (l q c : Nat) (A B X Y : List Int) (at_ z : Nat) : (rowP l q c A B X Y at_ z).length = z := by simp [rowP]
theorem finP_succ (l r q c : Nat) (xs : List S26) (X Y : List Int) (m : Nat) : finP l r q c xs X Y m ++ [shP l r q c xs X Y m] = finP l r q c xs X Y (m + 1) := by
  unfold finP; rw [List.range_succ, List.map_append]; rfl
theorem finP_len (l r q c : Nat) (xs : List S26) (X Y : List Int) (m : Nat) : (finP l r q c xs X Y m).length = m := by simp [finP]
theorem entP_at (l q c : Nat) (A B X Y : List Int) (at_ a b : Nat) (hb : b < c) : entP l q c A B X Y at_ (a * c + b) = cellP l q c A B X Y at_ a b q := by
  unfold entP; rw [(place a b c hb).1, (place a b c hb).2]
theorem at_sum (i a t b r q c : Nat) : ((i * r + a) * q + t) * c + b = i * r * q * c + (a * q + t) * c + b := by
  simp only [Nat.add_mul, Nat.add_assoc]
theorem at_lt {i a t b n r q c : Nat} (hi : i < n) (ha : a < r) (ht : t < q) (hb : b < c) : i * r * q * c + (a * q + t) * c + b < n * r * q * c := by
  rw [← at_sum]
  exact place_lt (place_lt (place_lt hi ha) ht) hb
theorem step4 (l s a b x y : Nat) : ((s % 2 ^ l + a * b % 2 ^ l) % 2 ^ l + (x + y) % 2 ^ l) % 2 ^ l = (s + a * b + (x + y)) % 2 ^ l := by
  rw [← Nat.add_mod s, ← Nat.add_mod]
section
variable {l r q c : Nat} (h0 : 1 ≤ l) (hl : l ≤ 64) (hr : r ≤ 6) (hq : q ≤ 6) (hc : c ≤ 6) (c0 c2 c3 c4 : Int) {xs : List S26} (hx : Few xs) (ho : xs.all (okSh l r q c) = true)
  {X Y : List Int} (hX : U64s X) (hY : U64s Y) (lX : X.length = xs.length * r * q * c) (lY : Y.length = X.length)
include h0 hl hr hq hc hx ho hX hY lX lY
theorem rfin_t (i a b : Nat) (hi : i < xs.length) (ha : a < r) (hb : b < c) (acc : List S26) (R : Option (List S26 × Int)) (d : Nat) : ∀ (k t : Nat), t + d = q → d + 310 < k →
    (∀ k2, k ≤ k2 + d + 1 → trefoilref22_Finish.l2 k2 xs (r : Int) (q : Int) (c : Int) X Y acc (i : Int) (rowP l q c (rd_T26 xs (i : Int)).f0 (rd_T26 xs (i : Int)).f1 X Y (i * r * q * c) (a * c + b + 1)) (a : Int) ((b + 1 : Nat) : Int) c0 (l : Int) c2 c3 c4 = R) →
    trefoilref22_Finish.l3 k xs (r : Int) (q : Int) (c : Int) X Y acc (i : Int) (rowP l q c (rd_T26 xs (i : Int)).f0 (rd_T26 xs (i : Int)).f1 X Y (i * r * q * c) (a * c + b)) (a : Int) (b : Int) (cellP l q c (rd_T26 xs (i : Int)).f0 (rd_T26 xs (i : Int)).f1 X Y (i * r * q * c) a b t) (t : Int) c0 (l : Int) c2 c3 c4 = R := by
  have hs := sh_mem xs i hi
  obtain ⟨hA, hB, -⟩ := hx.2 _ hs
  obtain ⟨lA, lB, -, -⟩ := okSh_iff (List.all_eq_true.1 ho _ hs)
  have hn := hx.1
  have hac : a * c ≤ 36 := sixes (Nat.le_of_lt ha) hr hc
  have haq : a * q ≤ 36 := sixes (Nat.le_of_lt ha) hr hq
  have b1 : i * r ≤ 180 := Nat.le_trans (Nat.mul_le_mul (show i ≤ 30 by omega) hr) (by decide)
  have b2 : i * r * q ≤ 1080 := Nat.le_trans (Nat.mul_le_mul b1 hq) (by decide)
  have b3 : i * r * q * c ≤ 6480 := Nat.le_trans (Nat.mul_le_mul b2 hc) (by decide)
  obtain ⟨A, eA⟩ : ∃ A, A = (rd_T26 xs (i : Int)).f0 := ⟨_, rfl⟩
  obtain ⟨B, eB⟩ : ∃ B, B = (rd_T26 xs (i : Int)).f1 := ⟨_, rfl⟩
  rw [← eA] at hA lA
  rw [← eB] at hB lB
  rw [← eA, ← eB]
  induction d with
  | zero =>
    intro k t ht hk hR
    obtain rfl : t = q := by omega
    obtain ⟨k, rfl⟩ : ∃ p, k = p + 1 := ⟨k - 1, by omega⟩
    simp only [trefoilref22_Finish.l3]
    rw [if_neg (by omega), if_pos (by rw [rowP_len]; omega), ← entP_at l t c A B X Y (i * r * t * c) a b hb, rowP_succ, succw b (by omega)]
    exact hR k (by omega)
  | succ d ih =>
    intro k t ht hk hR
    obtain ⟨k, rfl⟩ : ∃ p, k = p + 1 := ⟨k - 1, by omega⟩
    have htq : t < q := by omega
    have htc : t * c ≤ 36 := sixes (Nat.le_of_lt htq) hq hc
    have b4 : (a * q + t) * c ≤ 300 := Nat.le_trans (Nat.mul_le_mul (show a * q + t ≤ 50 by omega) hc) (by decide)
    have p1 : a * q + t < A.length := by rw [lA]; exact place_lt ha htq
    have p2 : t * c + b < B.length := by rw [lB]; exact place_lt htq hb
    have p3 : i * r * q * c + (a * q + t) * c + b < X.length := by rw [lX]; exact at_lt hi ha htq hb
    simp only [trefoilref22_Finish.l3]
    rw [← eA, ← eB]
    rw [if_pos (by omega), if_pos (by omega), if_pos (by omega), mulw a q (by omega), addw (a * q) t (by omega), if_pos (by omega), if_pos (by omega), mulw t c (by omega), addw (t * c) b (by omega), if_pos (by omega), if_pos (by omega)]
    obtain ⟨n1, n1'⟩ := nv_eq hA _ p1
    obtain ⟨n2, n2'⟩ := nv_eq hB _ p2
    obtain ⟨n3, n3'⟩ := nv_eq hX _ p3
    obtain ⟨n4, n4'⟩ := nv_eq hY _ (show i * r * q * c + (a * q + t) * c + b < Y.length by rw [lY]; exact p3)
    rw [n1, n2, mul_r k l _ _ (by omega) hl n1' n2', Option.bind_some]
    unfold cellP
    rw [add_r k (by omega) (l : Int) _ _ (lt64 hl) (lt64 hl), Option.bind_some, min64 hl, mulw i r (by omega), mulw (i * r) q (by omega), mulw (i * r * q) c (by omega), mulw (a * q + t) c (by omega), addw (i * r * q * c) ((a * q + t) * c) (by omega), addw (i * r * q * c + (a * q + t) * c) b (by omega), if_pos (by omega), if_pos (by omega), if_pos (by omega), n3, n4]
    rw [add_r k (by omega) (l : Int) _ _ n3' n4', Option.bind_some, min64 hl, add_r k (by omega) (l : Int) _ _ (lt64 hl) (lt64 hl), Option.bind_some, min64 hl, step4, succw t (by omega)]
    exact ih k (t + 1) (by omega) (by omega) (fun k2 h => hR k2 (by omega))
theorem rfin_b (i a : Nat) (hi : i < xs.length) (ha : a < r) (acc : List S26) (R : Option (List S26 × Int)) (d : Nat) : ∀ (k b : Nat), b + d = c → d * (q + 2) + 312 < k →
    (∀ k2, k ≤ k2 + d * (q + 2) + 1 → trefoilref22_Finish.l1 k2 xs (r : Int) (q : Int) (c : Int) X Y acc (i : Int) (rowP l q c (rd_T26 xs (i : Int)).f0 (rd_T26 xs (i : Int)).f1 X Y (i * r * q * c) ((a + 1) * c)) ((a + 1 : Nat) : Int) c0 (l : Int) c2 c3 c4 = R) →
    trefoilref22_Finish.l2 k xs (r : Int) (q : Int) (c : Int) X Y acc (i : Int) (rowP l q c (rd_T26 xs (i : Int)).f0 (rd_T26 xs (i : Int)).f1 X Y (i * r * q * c) (a * c + b)) (a : Int) (b : Int) c0 (l : Int) c2 c3 c4 = R := by
  induction d with
  | zero =>
    intro k b hb hk hR
    obtain rfl : b = c := by omega
    obtain ⟨k, rfl⟩ : ∃ p, k = p + 1 := ⟨k - 1, by omega⟩
    simp only [trefoilref22_Finish.l2]
    rw [if_neg (by omega), succw a (by omega), ← Nat.succ_mul]
    exact hR k (by omega)
  | succ d ih =>
    intro k b hb hk hR
    obtain ⟨k, rfl⟩ : ∃ p, k = p + 1 := ⟨k - 1, by omega⟩
    have e3 : (d + 1) * (q + 2) = d * (q + 2) + (q + 2) := Nat.succ_mul _ _
    simp only [trefoilref22_Finish.l2]
    rw [if_pos (by omega)]
    have hz : (0 : Int) = cellP l q c (rd_T26 xs (i : Int)).f0 (rd_T26 xs (i : Int)).f1 X Y (i * r * q * c) a b 0 := by simp [cellP, prodF]
    have := rfin_t h0 hl hr hq hc c0 c2 c3 c4 hx ho hX hY lX lY i a b hi ha (by omega) acc R q k 0 (by omega) (by omega) (fun k2 h => ih k2 (b + 1) (by omega) (by omega) (fun k3 h3 => hR k3 (by omega)))
    rw [← hz] at this
    exact this
theorem rfin_a (i : Nat) (hi : i < xs.length) (acc : List S26) (hacc : acc.length ≤ 1000) (R : Option (List S26 × Int)) (d : Nat) : ∀ (k a : Nat), a + d = r → d * (c * (q + 2) + 3) + 320 < k →
    (∀ k2, k ≤ k2 + d * (c * (q + 2) + 3) + 1 → trefoilref22_Finish.l0 k2 xs (r : Int) (q : Int) (c : Int) X Y (acc ++ [shP l r q c xs X Y i]) ((i + 1 : Nat) : Int) c0 (l : Int) c2 c3 c4 = R) →
    trefoilref22_Finish.l1 k xs (r : Int) (q : Int) (c : Int) X Y acc (i : Int) (rowP l q c (rd_T26 xs (i : Int)).f0 (rd_T26 xs (i : Int)).f1 X Y (i * r * q * c) (a * c)) (a : Int) c0 (l : Int) c2 c3 c4 = R := by
  have hn := hx.1
  induction d with
  | zero =>
    intro k a ha hk hR
    obtain rfl : a = r := by omega
    obtain ⟨k, rfl⟩ : ∃ p, k = p + 1 := ⟨k - 1, by omega⟩
    simp only [trefoilref22_Finish.l1]
    rw [if_neg (by omega), if_pos (by omega), if_pos (by omega), if_pos (by omega), succw i (by omega)]
    exact hR k (by omega)
  | succ d ih =>
    intro k a ha hk hR
    obtain ⟨k, rfl⟩ : ∃ p, k = p + 1 := ⟨k - 1, by omega⟩
    have e3 : (d + 1) * (c * (q + 2) + 3) = d * (c * (q + 2) + 3) + (c * (q + 2) + 3) := Nat.succ_mul _ _
    simp only [trefoilref22_Finish.l1]
    rw [if_pos (by omega)]
    have := rfin_b h0 hl hr hq hc c0 c2 c3 c4 hx ho hX hY lX lY i a hi (by omega) acc R c k 0 (by omega) (by omega) (fun k2 h => ih k2 (a + 1) (by omega) (by omega) (fun k3 h3 => hR k3 (by omega)))
    exact this
theorem rfin_i (d : Nat) : ∀ (k i : Nat), i + d = xs.length → d * (r * (c * (q + 2) + 3) + 3) + 330 < k →
    trefoilref22_Finish.l0 k xs (r : Int) (q : Int) (c : Int) X Y (finP l r q c xs X Y i) (i : Int) c0 (l : Int) c2 c3 c4 = some (finP l r q c xs X Y xs.length, 0) := by
  have hn := hx.1
  induction d with
  | zero =>
    intro k i hi hk
    obtain rfl : i = xs.length := by omega
    obtain ⟨k, rfl⟩ : ∃ p, k = p + 1 := ⟨k - 1, by omega⟩
    simp only [trefoilref22_Finish.l0]
    rw [if_neg (by omega)]
  | succ d ih =>
    intro k i hi hk
    obtain ⟨k, rfl⟩ : ∃ p, k = p + 1 := ⟨k - 1, by omega⟩
    have e3 : (d + 1) * (r * (c * (q + 2) + 3) + 3) = d * (r * (c * (q + 2) + 3) + 3) + (r * (c * (q + 2) + 3) + 3) := Nat.succ_mul _ _
    simp only [trefoilref22_Finish.l0]
    rw [if_pos (by omega)]
    have := rfin_a h0 hl hr hq hc c0 c2 c3 c4 hx ho hX hY lX lY i (by omega) (finP l r q c xs X Y i) (by rw [finP_len]; omega) (some (finP l r q c xs X Y xs.length, 0)) r k 0 (by omega) (by omega) (fun k2 h => by
      rw [finP_succ]
      exact ih k2 (i + 1) (by omega) (by omega))
    simpa [rowP] using this
end
end Go.Proofs.Ytcmaidpoolcelaa.Lem
