/- Shares of products: what is wrong with them, what is chosen and what is spread; the program and the document do the same. -/
import Derived.Test.YtcmaidpoolcelaaScPx0
import Derived.Test.YtcmaidpoolcelaaScK3
import Derived.Test.YtcmaidpoolcelaaScK6
import Derived.Test.YtcmaidpoolcelaaScK7
import Derived.Test.YtcmaidpoolcelaaScK8
import Derived.Test.YtcmaidpoolcelaaScL0
import Derived.Test.YtcmaidpoolcelaaScK9
import Derived.Test.YtcmaidpoolcelaaScK10
import Derived.Test.YtcmaidpoolcelaaScWWords
import Derived.Deep.Slices
import Derived.Deep.Fields
import Derived.ChangeSame
import Derived.ChangeArms
import Derived.OpenShut
namespace Go.Proofs.Ytcmaidpoolcelaa.Lem
open Go.RowKit Go.Proofs.Ytcmaidpoolcelaa.P Go.Proofs.Ytcmaidpoolcelaa.Num Go.Proofs.YtcmaidpoolcelaaW.PrintWords Go.Proofs.YtcmaidpoolcelaaW.PrintMore
set_option linter.unusedVariables false

/-- few shares, all short -/
def Few (xs : List S26) : Prop := xs.length ≤ 30 ∧ ∀ s ∈ xs, U64s s.f0 ∧ U64s s.f1 ∧ U64s s.f2 ∧ s.f0.length ≤ 60 ∧ s.f1.length ≤ 60 ∧ s.f2.length ≤ 60
theorem sh_at (xs : List S26) (i : Nat) (h : i < xs.length) : rd_T26 xs (i : Int) = xs[i] := by
  simp only [rd_T26, Int.toNat_natCast]
  rw [List.getD_eq_getElem?_getD, List.getElem?_eq_getElem h]; rfl
theorem sh_mem (xs : List S26) (i : Nat) (h : i < xs.length) : rd_T26 xs (i : Int) ∈ xs := by rw [sh_at xs i h]; exact List.getElem_mem h
theorem sh_drop (p : S26 → Bool) (xs : List S26) (i : Nat) (h : i < xs.length) : (xs.drop i).all p = (p (rd_T26 xs (i : Int)) && (xs.drop (i + 1)).all p) := by
  rw [List.drop_eq_getElem_cons h, sh_at xs i h]; rfl
theorem sh_snoc {β : Type} (f : S26 → List β) (xs : List S26) (i : Nat) (h : i < xs.length) : (xs.take i).flatMap f ++ f (rd_T26 xs (i : Int)) = (xs.take (i + 1)).flatMap f := by
  rw [sh_at xs i h, List.take_succ_eq_append_getElem h, List.flatMap_append, List.flatMap_cons, List.flatMap_nil, List.append_nil]
theorem flat_len {β : Type} (f : S26 → List β) (m : Nat) (xs : List S26) (h : ∀ s ∈ xs, (f s).length ≤ m) : (xs.flatMap f).length ≤ xs.length * m := by
  induction xs with
  | nil => simp
  | cons x xs ih =>
    rw [List.flatMap_cons, List.length_append, List.length_cons, Nat.succ_mul]
    have := ih (fun s hs => h s (List.mem_cons_of_mem _ hs))
    have := h x (List.mem_cons_self ..)
    omega
theorem flat_take {β : Type} (f : S26 → List β) (m : Nat) (xs : List S26) (i : Nat) (hn : xs.length ≤ 30) (h : ∀ s ∈ xs, (f s).length ≤ m) : ((xs.take i).flatMap f).length ≤ 30 * m := by
  have := flat_len f m (xs.take i) (fun s hs => h s (List.mem_of_mem_take hs))
  have h2 : (xs.take i).length ≤ 30 := by rw [List.length_take]; omega
  exact Nat.le_trans this (Nat.mul_le_mul_right m h2)

theorem w_succ (i : Nat) (h : i ≤ 100000) : wrap64 ((i : Int) + 1) = ((i + 1 : Nat) : Int) := by rw [w64 (by omega) (by omega)]; omega
def okSh (l r q c : Nat) (s : S26) : Bool := decide (s.f0.length = r * q) && (decide (s.f1.length = q * c) && (lows l s.f0 && lows l s.f1))
theorem okSh_iff {l r q c : Nat} {s : S26} (h : okSh l r q c s = true) : s.f0.length = r * q ∧ s.f1.length = q * c ∧ lows l s.f0 = true ∧ lows l s.f1 = true := by
  unfold okSh at h
  rw [Bool.and_eq_true, Bool.and_eq_true, Bool.and_eq_true, decide_eq_true_eq, decide_eq_true_eq] at h
  exact h

/-- the checks -/
def schk (c0 c1 c2 c3 c4 n : Int) : Int := if chk c0 c1 c2 c3 c4 = 0 then (if c0 = 1 then (if n < 1 then 2 else (if n > 24 then 2 else 0)) else 15) else chk c0 c1 c2 c3 c4
theorem schk_f (k : Nat) (hk : 10 ≤ k) (c0 c1 c2 c3 c4 n : Int) : scalar_check.f k c0 c1 c2 c3 c4 n = some (schk c0 c1 c2 c3 c4 n) := by
  unfold scalar_check.f schk
  rw [check_f k hk, Option.bind_some]
  repeat' split
  all_goals rfl
theorem schk_r (k : Nat) (hk : 10 ≤ k) (c0 c1 c2 c3 c4 n : Int) : trefoilref22_Check.f k c0 c1 c2 c3 c4 1 n = some (schk c0 c1 c2 c3 c4 n) := by
  unfold trefoilref22_Check.f schk
  rw [check_r k hk, Option.bind_some, Option.bind_some]
  by_cases h : chk c0 c1 c2 c3 c4 = 0
  · obtain ⟨b1, b2, _, _⟩ := chk_bits h
    rw [if_pos h, if_pos h]
    by_cases h1 : c0 = 1
    · rw [if_pos h1, if_pos h1]
      unfold trefoilref22_Sides.f
      rw [if_neg (by omega), Option.bind_some]
      by_cases h2 : n < 1
      · rw [if_pos h2, if_pos h2]
      · rw [if_neg h2, if_neg h2]
        by_cases h3 : n > 24
        · rw [if_pos h3, if_pos h3]
        · rw [if_neg h3, if_neg h3]
          have e1 : wrap64 (n * 1) = n := by rw [Int.mul_one]; exact w64 (by omega) (by omega)
          have hm : n * c1 ≤ 24 * 64 := Int.mul_le_mul (by omega) b2 (by omega) (by omega)
          have hp : 0 ≤ n * c1 := Int.mul_nonneg (by omega) (by omega)
          have e2 : wrap64 (n * c1) = n * c1 := w64 (by omega) (by omega)
          simp only [e1, e2]
          rw [if_neg (by omega)]
    · rw [if_neg h1, if_neg h1]
  · rw [if_neg h, if_neg h]
theorem schk_zero {c0 c1 c2 c3 c4 n : Int} (h : schk c0 c1 c2 c3 c4 n = 0) : chk c0 c1 c2 c3 c4 = 0 ∧ c0 = 1 := by
  unfold schk at h
  by_cases h1 : chk c0 c1 c2 c3 c4 = 0
  · rw [if_pos h1] at h
    by_cases h2 : c0 = 1
    · exact ⟨h1, h2⟩
    · rw [if_neg h2] at h; omega
  · rw [if_neg h1] at h; exact absurd h h1
/-- what is wrong -/
def wrongOf (ck : Int) (l r q c : Nat) (xs : List S26) : Int := if ck = 0 then (if xs.all (okSh l r q c) = true then 0 else 11) else ck

def swrong (c0 c1 c2 c3 c4 : Int) (xs : List S26) : Int := wrongOf (schk c0 c1 c2 c3 c4 (xs.length : Int)) c1.toNat 1 1 1 xs
/-- the program's parts of single products -/
theorem one_of {a : List Int} (h : a.length = 1) : [rd a 0] = a := by
  match a, h with
  | [x], _ => rfl
theorem parts_loop (l : Nat) (h0 : 1 ≤ l) (hl : l ≤ 64) (c0 c2 c3 c4 : Int) (xs : List S26) (hx : Few xs) (d : Nat) : ∀ (k i : Nat), i + d = xs.length → d < k →
    scalar_parts.l0 k ((xs.take i).flatMap fun s => s.f0) ((xs.take i).flatMap fun s => s.f1) xs (xs.length : Int) (i : Int) c0 (l : Int) c2 c3 c4 = some (if (xs.drop i).all (okSh l 1 1 1) = true then (xs.flatMap (fun s => s.f0), xs.flatMap (fun s => s.f1), 0) else ([], [], 11)) := by
  obtain ⟨hx0, hx1⟩ := hx
  induction d with
  | zero =>
    intro k i hi hk
    obtain ⟨k, rfl⟩ : ∃ q, k = q + 1 := ⟨k - 1, by omega⟩
    simp only [scalar_parts.l0]
    rw [if_neg (by omega), List.drop_eq_nil_of_le (by omega), List.take_of_length_le (by omega)]; rfl
  | succ d ih =>
    intro k i hi hk
    obtain ⟨k, rfl⟩ : ∃ q, k = q + 1 := ⟨k - 1, by omega⟩
    have hil : i < xs.length := by omega
    have nx := ih k (i + 1) (by omega) (by omega)
    have t1 : (i : Int) < (xs.length : Int) := by omega
    have t2 : (0 : Int) ≤ (i : Int) := by omega
    have e5 := w_succ i (by omega)
    obtain ⟨u0, u1, u2, l0, l1, l2⟩ := hx1 _ (sh_mem xs i hil)
    have f0 := flat_take (fun s => s.f0) 60 xs i hx0 (fun s hs => (hx1 s hs).2.2.2.1)
    have f1 := flat_take (fun s => s.f1) 60 xs i hx0 (fun s hs => (hx1 s hs).2.2.2.2.1)
    have s0 := sh_snoc (fun s => s.f0) xs i hil
    have s1 := sh_snoc (fun s => s.f1) xs i hil
    simp only [scalar_parts.l0]
    rw [if_pos t1, if_pos t2, if_pos t1, ringFits_f l h0 hl _ u0, ringFits_f l h0 hl _ u1, Option.bind_some, Option.bind_some, sh_drop _ xs i hil]
    unfold okSh
    by_cases h1 : (rd_T26 xs (i : Int)).f0.length = 1 * 1
    · have h1' : ((rd_T26 xs (i : Int)).f0.length : Int) = 1 := by omega
      rw [if_pos h1', decide_eq_true h1, Bool.true_and]
      by_cases h2 : (rd_T26 xs (i : Int)).f1.length = 1 * 1
      · have h2' : ((rd_T26 xs (i : Int)).f1.length : Int) = 1 := by omega
        rw [if_pos h2', decide_eq_true h2, Bool.true_and]
        by_cases h3 : lows l (rd_T26 xs (i : Int)).f0 = true
        · rw [if_pos h3, h3, Bool.true_and]
          by_cases h4 : lows l (rd_T26 xs (i : Int)).f1 = true
          · rw [if_pos h4, h4, Bool.true_and, one_of (by omega), one_of (by omega), if_pos (by omega), Option.bind_some, if_pos (by omega), if_pos (by omega), Option.bind_some, if_pos (by omega), s0, s1, e5]
            exact nx
          · rw [if_neg h4, Bool.eq_false_iff.2 h4, Bool.false_and, if_neg (by simp)]
        · rw [if_neg h3, Bool.eq_false_iff.2 h3, Bool.false_and, Bool.false_and, if_neg (by simp)]
      · rw [if_neg (by omega), decide_eq_false h2, Bool.false_and, Bool.false_and, if_neg (by simp)]
    · rw [if_neg (by omega), decide_eq_false h1, Bool.false_and, Bool.false_and, if_neg (by simp)]

theorem parts_f (k : Nat) (hk : 20000 ≤ k) (c0 c1 c2 c3 c4 : Int) (xs : List S26) (hx : Few xs) : scalar_parts.f k c0 c1 c2 c3 c4 xs = some (if swrong c0 c1 c2 c3 c4 xs = 0 then (xs.flatMap (fun s => s.f0), xs.flatMap (fun s => s.f1), 0) else ([], [], swrong c0 c1 c2 c3 c4 xs)) := by
  unfold scalar_parts.f swrong wrongOf
  rw [schk_f k (by omega), Option.bind_some]
  by_cases h : schk c0 c1 c2 c3 c4 (xs.length : Int) = 0
  · obtain ⟨hc, h1⟩ := schk_zero h
    obtain ⟨b1, b2, _, _⟩ := chk_bits hc
    obtain ⟨l, rfl⟩ := nat_of (show 0 ≤ c1 by omega)
    rw [if_pos h, if_pos h, Int.toNat_natCast]
    have hx' := hx.1
    have := parts_loop l (by omega) (by omega) c0 c2 c3 c4 xs hx xs.length k 0 (by omega) (by omega)
    rw [List.drop_zero, List.take_zero, List.flatMap_nil, List.flatMap_nil] at this
    refine (show scalar_parts.l0 k [] [] xs (xs.length : Int) 0 c0 (l : Int) c2 c3 c4 = _ from this).trans ?_
    by_cases ha : xs.all (okSh l 1 1 1) = true
    · rw [if_pos ha, if_pos ha, if_pos rfl]
    · rw [if_neg ha, if_neg ha, if_neg (by omega)]
  · rw [if_neg h, if_neg h, if_neg h]

end Go.Proofs.Ytcmaidpoolcelaa.Lem
namespace Go.Proofs.Ytcmaidpoolcelaa.Lem
open Go.RowKit Go.Proofs.Ytcmaidpoolcelaa.P Go.Proofs.Ytcmaidpoolcelaa.Num Go.Proofs.YtcmaidpoolcelaaW.PrintWords Go.Proofs.YtcmaidpoolcelaaW.PrintMore
set_option linter.unusedVariables false
set_option linter.unusedSectionVars false

/-- the sum of t products of a row and a column, and what was folded for them, from at_ on -/
def prodF (q c : Nat) (A B X Y : List Int) (at_ a b : Nat) : Nat → Nat
  | 0 => 0
  | t + 1 => prodF q c A B X Y at_ a b t + nv A (a * q + t) * nv B (t * c + b) + (nv X (at_ + (a * q + t) * c + b) + nv Y (at_ + (a * q + t) * c + b))
def cellP (l q c : Nat) (A B X Y : List Int) (at_ a b t : Nat) : Int := ((prodF q c A B X Y at_ a b t % 2 ^ l : Nat) : Int)
def entP (l q c : Nat) (A B X Y : List Int) (at_ z : Nat) : Int := cellP l q c A B X Y at_ (z / c) (z % c) q
def rowP (l q c : Nat) (A B X Y : List Int) (at_ z : Nat) : List Int := (List.range z).map (entP l q c A B X Y at_)
def shP (l r q c : Nat) (xs : List S26) (X Y : List Int) (i : Nat) : S26 :=
  ⟨(rd_T26 xs (i : Int)).f0, (rd_T26 xs (i : Int)).f1, rowP l q c (rd_T26 xs (i : Int)).f0 (rd_T26 xs (i : Int)).f1 X Y (i * r * q * c) (r * c)⟩
def finP (l r q c : Nat) (xs : List S26) (X Y : List Int) (m : Nat) : List S26 := (List.range m).map (shP l r q c xs X Y)
theorem rowP_len (l q c : Nat) (A B X Y : List Int) (at_ z : Nat) : (rowP l q c A B X Y at_ z).length = z := by simp [rowP]
theorem finP_succ (l r q c : Nat) (xs : List S26) (X Y : List Int) (m : Nat) : finP l r q c xs X Y m ++ [shP l r q c xs X Y m] = finP l r q c xs X Y (m + 1) := by
  unfold finP; rw [List.range_succ, List.map_append]; rfl
theorem finP_len (l r q c : Nat) (xs : List S26) (X Y : List Int) (m : Nat) : (finP l r q c xs X Y m).length = m := by simp [finP]
section
variable {l r q c : Nat} (h0 : 1 ≤ l) (hl : l ≤ 64) (hr : r ≤ 6) (hq : q ≤ 6) (hc : c ≤ 6) (c0 c2 c3 c4 : Int) {xs : List S26} (hx : Few xs) (ho : xs.all (okSh l r q c) = true)
  {X Y : List Int} (hX : U64s X) (hY : U64s Y) (lX : X.length = xs.length * r * q * c) (lY : Y.length = X.length)
include h0 hl hr hq hc hx ho hX hY lX lY
end
end Go.Proofs.Ytcmaidpoolcelaa.Lem
namespace Go.Proofs.Ytcmaidpoolcelaa.Lem
open Go.RowKit Go.Proofs.Ytcmaidpoolcelaa.P Go.Proofs.Ytcmaidpoolcelaa.Num Go.Proofs.YtcmaidpoolcelaaW.PrintWords Go.Proofs.YtcmaidpoolcelaaW.PrintMore
set_option linter.unusedVariables false

def fst0 (xs : List S26) : List Int := xs.flatMap fun s => s.f0
theorem fst0_u64 {xs : List S26} (h : Few xs) : U64s (fst0 xs) := by
  intro x hx
  unfold fst0 at hx
  rw [List.mem_flatMap] at hx
  obtain ⟨s, hs, hx⟩ := hx
  exact (h.2 s hs).1 x hx
theorem fst0_lows {l : Nat} {xs : List S26} (h : ∀ s ∈ xs, lows l s.f0 = true) : lows l (fst0 xs) = true := by
  unfold lows
  rw [List.all_eq_true]
  intro x hx
  unfold fst0 at hx
  rw [List.mem_flatMap] at hx
  obtain ⟨s, hs, hx⟩ := hx
  have := h s hs
  unfold lows at this
  exact List.all_eq_true.1 this x hx
theorem fst0_len {xs : List S26} (h : Few xs) : (fst0 xs).length ≤ 1800 := by
  have := flat_len (fun s : S26 => s.f0) 60 xs (fun s hs => (h.2 s hs).2.2.2.1)
  have h2 := h.1
  unfold fst0
  omega
theorem allBits_few {xs : List S26} (h : Few xs) (l : Nat) (hl : l ≤ 64) : (allBits l (fst0 xs)).length ≤ 1800 * 64 := by
  rw [allBits_len]; exact Nat.mul_le_mul (fst0_len h) hl

/-- the bits of a vector, as a list -/
theorem bools_loop (n : Nat) (W : List Int) (L : List Bool) (hW : Words64 W) (hL : L.length = n) (hn : n ≤ 200000) (hl : n ≤ 64 * W.length) (hb : ∀ j, bitAt W j = L.getD j false) (d : Nat) : ∀ (k i : Nat) (X : List Bool), i + d = n → d < k → X.length = n → (∀ j, j < i → X[j]? = L[j]?) →
    bits_Vec_Bools.l0 k X (n : Int) (i : Int) (n : Int) W = some L := by
  induction d with
  | zero =>
    intro k i X hi hk hX hq
    obtain ⟨k, rfl⟩ : ∃ q, k = q + 1 := ⟨k - 1, by omega⟩
    simp only [bits_Vec_Bools.l0]
    rw [if_neg (by omega)]
    congr 1
    apply List.ext_getElem?
    intro j
    by_cases hj : j < n
    · exact hq j (by omega)
    · rw [List.getElem?_eq_none (by omega), List.getElem?_eq_none (by omega)]
  | succ d ih =>
    intro k i X hi hk hX hq
    obtain ⟨k, rfl⟩ : ∃ q, k = q + 1 := ⟨k - 1, by omega⟩
    have hil : i < n := by omega
    have hiL : i < L.length := by omega
    have nx := ih k (i + 1) (X.set i (bitAt W i)) (by omega) (by omega) (by rw [List.length_set]; exact hX) (by
      intro j hj
      by_cases h : i = j
      · subst h; rw [List.getElem?_set_self (by omega), hb i, List.getElem?_eq_getElem hiL, List.getD_eq_getElem?_getD, List.getElem?_eq_getElem hiL]; rfl
      · rw [List.getElem?_set_ne h]; exact hq j (by omega))
    have t1 : (i : Int) < (n : Int) := by omega
    have t2 : (0 : Int) ≤ (i : Int) := by omega
    have t3 : (i : Int) < (X.length : Int) := by omega
    have g := get_f n i W hW hil (by omega) hl
    have e5 : wrap64 ((i : Int) + 1) = ((i + 1 : Nat) : Int) := by rw [w64 (by omega) (by omega)]; omega
    simp only [bits_Vec_Bools.l0]
    rw [if_pos t1, g, Option.bind_some, if_pos t2, if_pos t3, Int.toNat_natCast, e5]
    exact nx
theorem bools_f (k : Nat) (W : List Int) (L : List Bool) (hW : Words64 W) (hn : L.length ≤ 200000) (hl : W.length = wordsOf L.length) (hb : ∀ j, bitAt W j = L.getD j false) (hk : 200001 ≤ k) : bits_Vec_Bools.f k (L.length : Int) W = some L := by
  unfold bits_Vec_Bools.f
  have hw := words_len L.length
  rw [← hl] at hw
  rw [if_pos (by omega), if_pos (by rw [Int.toNat_natCast]; omega), Option.bind_some, Int.toNat_natCast, List.length_replicate]
  exact bools_loop L.length W L hW rfl hn hw hb L.length k 0 _ (by omega) (by omega) (by simp) (by intro j hj; omega)
/-- the blocks that are spread -/
def chop (q c : Nat) (a : List Int) : List (List Int) := (List.range q).map fun b => (a.drop (b * c)).take c
def blks (r q c : Nat) (s : S26) : List (List Int) := (List.replicate r (chop q c s.f1)).flatten
def allBlks (r q c : Nat) (xs : List S26) : List (List Int) := xs.flatMap (blks r q c)
theorem chop_len (q c : Nat) (a : List Int) : (chop q c a).length = q := by simp [chop]
theorem blks_len (r q c : Nat) (s : S26) : (blks r q c s).length = r * q := by
  unfold blks
  induction r with
  | zero => simp
  | succ r ih => rw [List.replicate_succ, List.flatten_cons, List.length_append, ih, chop_len, Nat.succ_mul, Nat.add_comm]
theorem rep_at (L : List (List Int)) (q : Nat) (hq : L.length = q) (h0 : 0 < q) : ∀ (r x : Nat), x < r * q → (List.replicate r L).flatten[x]? = L[x % q]? := by
  intro r
  induction r with
  | zero => intro x hx; omega
  | succ r ih =>
    intro x hx
    rw [List.replicate_succ, List.flatten_cons]
    by_cases h : x < q
    · rw [List.getElem?_append_left (by omega), Nat.mod_eq_of_lt h]
    · rw [Nat.succ_mul] at hx
      rw [List.getElem?_append_right (by omega), hq, ih (x - q) (by omega)]
      congr 1
      exact (Nat.mod_eq_sub_mod (by omega)).symm
theorem blks_at (r q c : Nat) (s : S26) (x : Nat) (hx : x < r * q) (h0 : 0 < q) : (blks r q c s)[x]? = some ((s.f1.drop (x % q * c)).take c) := by
  unfold blks
  rw [rep_at (chop q c s.f1) q (chop_len ..) h0 r x hx]
  simp [chop, Nat.mod_lt x h0]
theorem chop_flat (c : Nat) : ∀ (q : Nat) (a : List Int), a.length = q * c → (chop q c a).flatten = a := by
  intro q
  induction q with
  | zero => intro a h; rw [Nat.zero_mul] at h; rw [List.length_eq_zero_iff.1 h]; rfl
  | succ q ih =>
    intro a h
    rw [Nat.succ_mul] at h
    have e : chop (q + 1) c a = a.take c :: chop q c (a.drop c) := by
      unfold chop
      rw [List.range_succ_eq_map, List.map_cons, List.map_map]
      congr 1
      · simp
      · apply List.map_congr_left
        intro b _
        simp only [Function.comp, List.drop_drop]
        rw [Nat.succ_mul, Nat.add_comm c]
    rw [e, List.flatten_cons, ih (a.drop c) (by rw [List.length_drop]; omega), List.take_append_drop]
theorem blks_flat (r q c : Nat) (s : S26) (h : s.f1.length = q * c) : (blks r q c s).flatten = (List.replicate r s.f1).flatten := by
  unfold blks
  induction r with
  | zero => rfl
  | succ r ih => rw [List.replicate_succ, List.flatten_cons, List.flatten_append, chop_flat c q s.f1 h, ih, List.replicate_succ, List.flatten_cons]
theorem blks_ok (l r q c : Nat) (s : S26) (h : s.f1.length = q * c) (hu : U64s s.f1) (hl : lows l s.f1 = true) : ∀ g ∈ blks r q c s, g.length = c ∧ U64s g ∧ lows l g = true := by
  intro g hg
  unfold blks at hg
  rw [List.mem_flatten] at hg
  obtain ⟨L, hL, hg⟩ := hg
  rw [(List.mem_replicate.1 hL).2] at hg
  unfold chop at hg
  rw [List.mem_map] at hg
  obtain ⟨b, hb, rfl⟩ := hg
  rw [List.mem_range] at hb
  have hm : (b + 1) * c ≤ q * c := Nat.mul_le_mul_right c hb
  rw [Nat.succ_mul] at hm
  refine ⟨by rw [List.length_take, List.length_drop]; omega, fun x hx => hu x (List.mem_of_mem_drop (List.mem_of_mem_take hx)), ?_⟩
  unfold lows at hl ⊢
  rw [List.all_eq_true] at hl ⊢
  exact fun x hx => hl x (List.mem_of_mem_drop (List.mem_of_mem_take hx))
end Go.Proofs.Ytcmaidpoolcelaa.Lem
namespace Go.Proofs.Ytcmaidpoolcelaa.Lem
open Go.RowKit Go.Proofs.Ytcmaidpoolcelaa.P Go.Proofs.Ytcmaidpoolcelaa.Num Go.Proofs.YtcmaidpoolcelaaW.PrintWords Go.Proofs.YtcmaidpoolcelaaW.PrintMore
set_option linter.unusedVariables false

theorem allBlks_len (r q c : Nat) (xs : List S26) (hrq : r * q ≤ 6 * 6) (hx : xs.length ≤ 30) : (allBlks r q c xs).length ≤ 1080 := by
  have := flat_len (blks r q c) 36 xs (fun s _ => by rw [blks_len]; exact hrq)
  unfold allBlks
  omega
theorem allBlks_ok (l r q c : Nat) (xs : List S26) (hx : Few xs) (ho : xs.all (okSh l r q c) = true) : ∀ g ∈ allBlks r q c xs, g.length = c ∧ U64s g ∧ lows l g = true := by
  intro g hg
  unfold allBlks at hg
  rw [List.mem_flatMap] at hg
  obtain ⟨s, hs, hg⟩ := hg
  obtain ⟨_, b, _, e⟩ := okSh_iff (List.all_eq_true.1 ho s hs)
  exact blks_ok l r q c s b (hx.2 s hs).2.1 e g hg

theorem allBlks_flat (l r q c : Nat) (xs : List S26) (ho : xs.all (okSh l r q c) = true) : (allBlks r q c xs).flatten = xs.flatMap fun s => (List.replicate r s.f1).flatten := by
  induction xs with
  | nil => rfl
  | cons x xs ih =>
    rw [List.all_cons, Bool.and_eq_true] at ho
    have e : allBlks r q c (x :: xs) = blks r q c x ++ allBlks r q c xs := by unfold allBlks; rw [List.flatMap_cons]
    rw [e, List.flatten_append, ih ho.2, blks_flat r q c x (okSh_iff ho.1).2.1, List.flatMap_cons]

theorem wrong_all {ck : Int} {l r q c : Nat} {xs : List S26} (h : wrongOf ck l r q c xs = 0) : ck = 0 ∧ xs.all (okSh l r q c) = true := by
  unfold wrongOf at h
  by_cases h1 : ck = 0
  · rw [if_pos h1] at h
    by_cases h2 : xs.all (okSh l r q c) = true
    · exact ⟨h1, h2⟩
    · rw [if_neg h2] at h; omega
  · rw [if_neg h1] at h; exact absurd h h1

/-- what both choose: the bits, and the code -/
def chB (w : Int) (l : Nat) (xs : List S26) : List Bool := if w = 0 then allBits l (fst0 xs) else []
def spB (w : Int) (l r q c : Nat) (xs : List S26) : List Int := if w = 0 then spreadAll l (allBlks r q c xs) else []
def Held (t : Int × List Int × Int) (L : List Bool) (w : Int) : Prop := t.1 = (L.length : Int) ∧ t.2.2 = w ∧ Words64 t.2.1 ∧ t.2.1.length = wordsOf L.length ∧ ∀ j, bitAt t.2.1 j = L.getD j false
theorem held_none (w : Int) : Held (0, [], w) [] w := ⟨rfl, rfl, fun x hx => by simp at hx, by simp [wordsOf], by intro j; simp [bitAt, rd]⟩

theorem sch_f (k : Nat) (hk : 700100 ≤ k) (c0 c1 c2 c3 c4 : Int) (xs : List S26) (hx : Few xs) :
    ∃ t, scalar_Choices.f k c0 c1 c2 c3 c4 xs = some t ∧ Held t (chB (swrong c0 c1 c2 c3 c4 xs) c1.toNat xs) (swrong c0 c1 c2 c3 c4 xs) := by
  unfold scalar_Choices.f chB
  rw [parts_f k (by omega) c0 c1 c2 c3 c4 xs hx, Option.bind_some]
  by_cases h : swrong c0 c1 c2 c3 c4 xs = 0
  · obtain ⟨hck, ho⟩ := wrong_all h
    obtain ⟨hc, h1⟩ := schk_zero hck
    obtain ⟨b1, b2, _, _⟩ := chk_bits hc
    obtain ⟨l, rfl⟩ := nat_of (show 0 ≤ c1 by omega)
    rw [Int.toNat_natCast] at ho
    have hn := fst0_len hx
    obtain ⟨V, e, v1, v2, v3⟩ := gch_f k l (by omega) (by omega) (fst0 xs) (fst0_u64 hx) (fst0_lows (fun s hs => (okSh_iff (List.all_eq_true.1 ho s hs)).2.2.1)) (by omega) (by omega)
    rw [if_pos h, if_pos h]
    simp only
    rw [if_pos trivial, show gilboa_Choices.f k (l : Int) (xs.flatMap fun s => s.f0) = _ from e, Option.bind_some, h, Int.toNat_natCast]
    exact ⟨_, rfl, rfl, rfl, v1, v2, v3⟩
  · rw [if_neg h, if_neg h]
    simp only
    rw [if_neg h]
    exact ⟨_, rfl, held_none _⟩

theorem ssp_f (k : Nat) (hk : 800000 ≤ k) (c0 c1 c2 c3 c4 : Int) (xs : List S26) (hx : Few xs) :
    scalar_Spread.f k c0 c1 c2 c3 c4 xs = some (spB (swrong c0 c1 c2 c3 c4 xs) c1.toNat 1 1 1 xs, swrong c0 c1 c2 c3 c4 xs) := by
  unfold scalar_Spread.f spB
  rw [parts_f k (by omega) c0 c1 c2 c3 c4 xs hx, Option.bind_some]
  by_cases h : swrong c0 c1 c2 c3 c4 xs = 0
  · obtain ⟨hck, ho⟩ := wrong_all h
    obtain ⟨hc, h1⟩ := schk_zero hck
    obtain ⟨b1, b2, _, _⟩ := chk_bits hc
    obtain ⟨l, rfl⟩ := nat_of (show 0 ≤ c1 by omega)
    rw [Int.toNat_natCast] at ho
    have hx0 := hx.1
    have hfl : (allBlks 1 1 1 xs).flatten = xs.flatMap fun s => s.f1 := by
      rw [allBlks_flat l 1 1 1 xs ho]
      congr 1
      funext s
      simp
    have hn : (xs.flatMap fun s => s.f1).length ≤ 1800 := by
      have := flat_len (fun s : S26 => s.f1) 60 xs (fun s hs => (hx.2 s hs).2.2.2.2.1)
      omega
    have hg := allBlks_len 1 1 1 xs (by omega) hx0
    have := gsp_f k l (by omega) (by omega) 1 (by omega) (by omega) (allBlks 1 1 1 xs) (allBlks_ok l 1 1 1 xs hx ho) (by rw [hfl]; omega) (by omega) hk
    rw [hfl] at this
    rw [if_pos h, if_pos h]
    simp only
    rw [if_pos trivial, show gilboa_Spread.f k (l : Int) 1 _ = _ from this, Option.bind_some, h, Int.toNat_natCast]
  · rw [if_neg h, if_neg h]
    simp only
    rw [if_neg h]

end Go.Proofs.Ytcmaidpoolcelaa.Lem
namespace Go.Proofs.Ytcmaidpoolcelaa.Lem
open Go.RowKit Go.Proofs.Ytcmaidpoolcelaa.P Go.Proofs.Ytcmaidpoolcelaa.Num Go.Proofs.YtcmaidpoolcelaaW.PrintWords Go.Proofs.YtcmaidpoolcelaaW.PrintMore
set_option linter.unusedVariables false
set_option linter.unusedSectionVars false

def finR (W : Int) (l r q c : Nat) (xs : List S26) (sent got : List Int) : List S26 × Int :=
  if W = 0 then (if okFold l c sent = true then (if okFold l c got = true then (if (foldF l sent c (sent.length / (l * c))).length = r * q * c * xs.length ∧ (foldF l got c (got.length / (l * c))).length = r * q * c * xs.length then (finP l r q c xs (foldF l sent c (sent.length / (l * c))) (foldF l got c (got.length / (l * c))) xs.length, 0) else ([], 11)) else ([], 11)) else ([], 11)) else ([], W)
theorem foldR_ok {l n : Nat} {xs : List Int} (h : okFold l n xs = true) : foldR l n xs = (foldF l xs n (xs.length / (l * n)), 0) := if_pos h
theorem foldR_no {l n : Nat} {xs : List Int} (h : ¬ okFold l n xs = true) : foldR l n xs = ([], 11) := if_neg h
/-- lists of one number -/
theorem flat_one (f : S26 → List Int) (xs : List S26) (h : ∀ s ∈ xs, (f s).length = 1) : xs.flatMap f = xs.map fun s => rd (f s) 0 := by
  induction xs with
  | nil => rfl
  | cons x xs ih =>
    rw [List.flatMap_cons, List.map_cons, ih (fun s hs => h s (List.mem_cons_of_mem _ hs)), ← one_of (h x (List.mem_cons_self ..))]
    simp [rd]
theorem flat_rd (f : S26 → List Int) (xs : List S26) (h : ∀ s ∈ xs, (f s).length = 1) (i : Nat) (hi : i < xs.length) : rd (xs.flatMap f) (i : Int) = rd (f (rd_T26 xs (i : Int))) 0 := by
  rw [flat_one f xs h, sh_at xs i hi]
  unfold rd
  rw [Int.toNat_natCast, List.getD_eq_getElem?_getD, List.getElem?_map, List.getElem?_eq_getElem hi]
  rfl
theorem flat_one_len (f : S26 → List Int) (xs : List S26) (h : ∀ s ∈ xs, (f s).length = 1) : (xs.flatMap f).length = xs.length := by rw [flat_one f xs h, List.length_map]
theorem sfin_loop (l : Nat) (h0 : 1 ≤ l) (hl : l ≤ 64) (c0 c2 c3 c4 : Int) {xs : List S26} (hx : Few xs) (ho : xs.all (okSh l 1 1 1) = true) {X Y : List Int} (hX : U64s X) (hY : U64s Y) (lX : X.length = xs.length) (lY : Y.length = xs.length) (d : Nat) : ∀ (k i : Nat), i + d = xs.length → d < k →
    scalar_Finish.l0 k (xs.flatMap fun s => s.f0) (xs.flatMap fun s => s.f1) X Y (finP l 1 1 1 xs X Y i) (xs.length : Int) (i : Int) c0 (l : Int) c2 c3 c4 = some (finP l 1 1 1 xs X Y xs.length, 0) := by
  have hn := hx.1
  have l0 : ∀ s ∈ xs, s.f0.length = 1 := fun s hs => (okSh_iff (List.all_eq_true.1 ho s hs)).1
  have l1 : ∀ s ∈ xs, s.f1.length = 1 := fun s hs => (okSh_iff (List.all_eq_true.1 ho s hs)).2.1
  induction d with
  | zero =>
    intro k i hi hk
    obtain rfl : i = xs.length := by omega
    obtain ⟨k, rfl⟩ : ∃ p, k = p + 1 := ⟨k - 1, by omega⟩
    simp only [scalar_Finish.l0]
    rw [if_neg (by omega)]
  | succ d ih =>
    intro k i hi hk
    obtain ⟨k, rfl⟩ : ∃ p, k = p + 1 := ⟨k - 1, by omega⟩
    have hi2 : i < xs.length := by omega
    have hs := sh_mem xs i hi2
    obtain ⟨hA, hB, -⟩ := hx.2 _ hs
    simp only [scalar_Finish.l0]
    rw [if_pos (by omega), if_pos (by omega), if_pos (by rw [flat_one_len _ xs l0]; omega), if_pos (by rw [flat_one_len _ xs l1]; omega), flat_rd (fun s => s.f0) xs l0 i hi2, flat_rd (fun s => s.f1) xs l1 i hi2]
    have m0 := l0 _ hs
    have m1 := l1 _ hs
    have hsh : shP l 1 1 1 xs X Y i = ⟨[rd (rd_T26 xs (i : Int)).f0 0], [rd (rd_T26 xs (i : Int)).f1 0], [cellP l 1 1 (rd_T26 xs (i : Int)).f0 (rd_T26 xs (i : Int)).f1 X Y i 0 0 1]⟩ := by
      unfold shP
      rw [one_of m0, one_of m1, Nat.mul_one, Nat.mul_one, Nat.mul_one]
      rfl
    obtain ⟨A, eA⟩ : ∃ A, A = (rd_T26 xs (i : Int)).f0 := ⟨_, rfl⟩
    obtain ⟨B, eB⟩ : ∃ B, B = (rd_T26 xs (i : Int)).f1 := ⟨_, rfl⟩
    rw [← eA] at hA m0 hsh
    rw [← eB] at hB m1 hsh
    rw [← eA, ← eB]
    obtain ⟨n1, n1'⟩ := nv_eq hA 0 (by omega)
    obtain ⟨n2, n2'⟩ := nv_eq hB 0 (by omega)
    obtain ⟨n3, n3'⟩ := nv_eq hX i (by omega)
    obtain ⟨n4, n4'⟩ := nv_eq hY i (by omega)
    have z1 : rd A 0 = ((nv A 0 : Nat) : Int) := n1
    have z2 : rd B 0 = ((nv B 0 : Nat) : Int) := n2
    have hcell : cellP l 1 1 A B X Y i 0 0 1 = (((nv A 0 * nv B 0 % 2 ^ l + (nv X i + nv Y i) % 2 ^ l) % 2 ^ l : Nat) : Int) := by
      unfold cellP
      rw [← Nat.add_mod]
      simp [prodF]
    rw [hcell, z1, z2] at hsh
    rw [z1, z2, mul_f l _ _ h0 hl, Option.bind_some, if_pos (by omega), if_pos (by omega), n3, n4, add_f l _ _ h0 hl, Option.bind_some, add_f l _ _ h0 hl, Option.bind_some, if_pos (by rw [finP_len]; omega), succw i (by omega), ← hsh, finP_succ]
    exact ih k (i + 1) (by omega) (by omega)
theorem sfin_f (k : Nat) (hk : 30000 ≤ k) (c0 c1 c2 c3 c4 : Int) (xs : List S26) (hx : Few xs) (sent got : List Int) (hs : U64s sent) (hg : U64s got) (ls : sent.length ≤ 3000) (lg : got.length ≤ 3000) :
    scalar_Finish.f k c0 c1 c2 c3 c4 xs sent got = some (finR (swrong c0 c1 c2 c3 c4 xs) c1.toNat 1 1 1 xs sent got) := by
  unfold scalar_Finish.f finR
  rw [parts_f k (by omega) c0 c1 c2 c3 c4 xs hx, Option.bind_some]
  by_cases hW : swrong c0 c1 c2 c3 c4 xs = 0
  · obtain ⟨hck, ho⟩ := wrong_all hW
    obtain ⟨hc, h1⟩ := schk_zero hck
    obtain ⟨b1, b2, _, _⟩ := chk_bits hc
    obtain ⟨l, rfl⟩ := nat_of (show 0 ≤ c1 by omega)
    rw [Int.toNat_natCast] at ho ⊢
    have h0 : 1 ≤ l := by omega
    have hl : l ≤ 64 := by omega
    rw [if_pos hW, if_pos hW]
    simp only
    rw [if_pos trivial]
    have f1 := gfold_f k l 1 (by omega) h0 hl (by omega) (by omega) sent hs ls
    have f2 := gfold_f k l 1 (by omega) h0 hl (by omega) (by omega) got hg lg
    rw [show gilboa_Fold.f k (l : Int) 1 sent = _ from f1, Option.bind_some]
    by_cases h1 : okFold l 1 sent = true
    · rw [foldR_ok h1, if_pos h1]
      simp only
      rw [if_pos trivial, show gilboa_Fold.f k (l : Int) 1 got = _ from f2, Option.bind_some]
      by_cases h2 : okFold l 1 got = true
      · rw [foldR_ok h2, if_pos h2]
        simp only
        obtain ⟨X, eX⟩ : ∃ X, X = foldF l sent 1 (sent.length / (l * 1)) := ⟨_, rfl⟩
        obtain ⟨Y, eY⟩ : ∃ Y, Y = foldF l got 1 (got.length / (l * 1)) := ⟨_, rfl⟩
        have hX : U64s X := by rw [eX]; exact foldF_u64 hl _ _ _
        have hY : U64s Y := by rw [eY]; exact foldF_u64 hl _ _ _
        rw [← eX, ← eY, if_pos trivial]
        obtain ⟨k, rfl⟩ : ∃ p, k = p + 1 := ⟨k - 1, by omega⟩
        have hn := hx.1
        by_cases h3 : X.length = 1 * 1 * 1 * xs.length ∧ Y.length = 1 * 1 * 1 * xs.length
        · obtain ⟨h4, h5⟩ := h3
          rw [if_pos (show X.length = 1 * 1 * 1 * xs.length ∧ Y.length = 1 * 1 * 1 * xs.length from ⟨h4, h5⟩), if_pos (by omega), show ((Y.length : Int) != (xs.length : Int)) = false by rw [bne_eq_false_iff_eq]; omega]
          simp only [scalar_Finish.j0]
          rw [if_neg (by simp), if_pos (by omega), if_pos (by rw [Int.toNat_natCast]; omega)]
          have := sfin_loop l h0 hl c0 c2 c3 c4 hx ho hX hY (by omega) (by omega) xs.length k 0 (by omega) (by omega)
          simpa [finP] using this
        · rw [if_neg h3]
          by_cases h4 : X.length = xs.length
          · rw [if_pos (by omega), show ((Y.length : Int) != (xs.length : Int)) = true by rw [bne_iff_ne]; omega]
            simp only [scalar_Finish.j0]
            rw [if_pos trivial]
          · rw [if_neg (by omega)]
            simp only [scalar_Finish.j0]
            rw [if_pos trivial]
      · rw [foldR_no h2, if_neg h2]
        simp only
        rw [if_neg (by decide)]
    · rw [foldR_no h1, if_neg h1]
      simp only
      rw [if_neg (by decide)]
  · rw [if_neg hW, if_neg hW]
    simp only
    rw [if_neg hW]
end Go.Proofs.Ytcmaidpoolcelaa.Lem
namespace Go.Proofs.Ytcmaidpoolcelaa.Lem
open Go.RowKit Go.Proofs.Ytcmaidpoolcelaa.P Go.Proofs.Ytcmaidpoolcelaa.Num Go.Proofs.YtcmaidpoolcelaaW.PrintWords Go.Proofs.YtcmaidpoolcelaaW.PrintMore
set_option linter.unusedVariables false
set_option linter.unusedSectionVars false

/-! numbers that are the same but for a modulus -/
def Cg (N a b : Nat) : Prop := a % N = b % N
theorem Cg.rfl_ {N a : Nat} : Cg N a a := rfl
theorem Cg.of_eq {N a b : Nat} (h : a = b) : Cg N a b := by rw [h]; exact rfl
theorem Cg.symm {N a b : Nat} (h : Cg N a b) : Cg N b a := Eq.symm h
theorem Cg.trans {N a b c : Nat} (h : Cg N a b) (h2 : Cg N b c) : Cg N a c := Eq.trans h h2
theorem Cg.add {N a b c d : Nat} (h : Cg N a b) (h2 : Cg N c d) : Cg N (a + c) (b + d) := by
  unfold Cg at *
  rw [Nat.add_mod, h, h2, ← Nat.add_mod]
theorem Cg.mul {N a b c d : Nat} (h : Cg N a b) (h2 : Cg N c d) : Cg N (a * c) (b * d) := by
  unfold Cg at *
  rw [Nat.mul_mod, h, h2, ← Nat.mul_mod]
theorem Cg.mod (N a : Nat) : Cg N (a % N) a := Nat.mod_mod _ _

/-! the document's Split -/
def minS (l : Nat) (noise : List Int) (k : Nat) : Nat := if noise.length = 0 then 0 else nv noise (k % noise.length) % 2 ^ l
def wantS (n : Nat) (s : List Int) (bs : List Bool) (k : Nat) : Nat := if rdOf false bs ((k / n : Nat) : Int) = true then nv s k else 0
def spP (l : Nat) (noise : List Int) (m : Nat) : List Int := (List.range m).map fun k => ((minS l noise k : Nat) : Int)
def spQ (l n : Nat) (s : List Int) (bs : List Bool) (noise : List Int) (m : Nat) : List Int := (List.range m).map fun k => ((subN l (wantS n s bs k) (minS l noise k) : Nat) : Int)
theorem spP_succ (l : Nat) (noise : List Int) (m : Nat) : spP l noise m ++ [((minS l noise m : Nat) : Int)] = spP l noise (m + 1) := by
  unfold spP
  rw [List.range_succ, List.map_append]
  rfl
theorem spQ_succ (l n : Nat) (s : List Int) (bs : List Bool) (noise : List Int) (m : Nat) : spQ l n s bs noise m ++ [((subN l (wantS n s bs m) (minS l noise m) : Nat) : Int)] = spQ l n s bs noise (m + 1) := by
  unfold spQ
  rw [List.range_succ, List.map_append]
  rfl
theorem spP_len (l : Nat) (noise : List Int) (m : Nat) : (spP l noise m).length = m := by simp [spP]
theorem spQ_len (l n : Nat) (s : List Int) (bs : List Bool) (noise : List Int) (m : Nat) : (spQ l n s bs noise m).length = m := by simp [spQ]
theorem minS_lt (l : Nat) (noise : List Int) (k : Nat) : minS l noise k < 2 ^ l := by
  unfold minS
  split
  · exact Nat.two_pow_pos l
  · exact Nat.mod_lt _ (Nat.two_pow_pos l)
theorem nv_map (f : Nat → Nat) (m k : Nat) (h : k < m) : nv ((List.range m).map fun k => ((f k : Nat) : Int)) k = f k := by
  unfold nv rd
  rw [Int.toNat_natCast, List.getD_eq_getElem?_getD, List.getElem?_map, List.getElem?_range h]
  exact Int.toNat_natCast _
theorem u64_of_lt (f : Nat → Nat) (m : Nat) (h : ∀ k, f k < 18446744073709551616) : U64s ((List.range m).map fun k => ((f k : Nat) : Int)) := by
  intro x hx
  obtain ⟨k, -, rfl⟩ := List.mem_map.1 hx
  have := h k
  omega
theorem low_of_lt (l : Nat) (f : Nat → Nat) (m : Nat) (h : ∀ k, f k < 2 ^ l) : lows l ((List.range m).map fun k => ((f k : Nat) : Int)) = true := by
  unfold lows
  rw [List.all_eq_true]
  intro x hx
  obtain ⟨k, -, rfl⟩ := List.mem_map.1 hx
  have := h k
  rw [decide_eq_true_eq]
  exact Int.ofNat_lt.2 this
theorem subN_lt' (l a b : Nat) : subN l a b < 2 ^ l := Nat.mod_lt _ (Nat.two_pow_pos l)
section
variable {l n : Nat} (hl : l ≤ 64) (hn : 1 ≤ n) {s : List Int} {bs : List Bool} {noise : List Int} (hs : U64s s) (hno : U64s noise) (ls : s.length ≤ 1000000) (lb : bs.length ≤ 1000000) (lno : noise.length ≤ 9223372036854775807)
include hl hn hs hno ls lb lno
theorem split_step (k i : Nat) (hk : 200 < k) (hi : i < s.length) (P Q : List Int) (hP : P.length ≤ 1000000) (hQ : Q.length ≤ 1000000) :
    trefoilref22_Split.l0 (k + 1) (l : Int) (n : Int) s bs noise P Q (i : Int) = trefoilref22_Split.l0 k (l : Int) (n : Int) s bs noise (P ++ [((minS l noise i : Nat) : Int)]) (Q ++ [((subN l (wantS n s bs i) (minS l noise i) : Nat) : Int)]) ((i + 1 : Nat) : Int) := by
  obtain ⟨v, hv⟩ : ∃ v, v = i / n := ⟨_, rfl⟩
  have hd : v ≤ i := by rw [hv]; exact Nat.div_le_self _ _
  obtain ⟨q1, q2⟩ := nv_eq hs i hi
  have hm := Nat.lt_of_lt_of_le (minS_lt l noise i) (pow_le_64 hl)
  have t1 : (i : Int) < (s.length : Int) := Int.ofNat_lt.2 hi
  have t2 : ¬ (n : Int) = 0 := by clear hv; omega
  have t3 : (0 : Int) ≤ (v : Int) := Int.natCast_nonneg _
  have t4 : (0 : Int) ≤ (i : Int) := Int.natCast_nonneg _
  have t5 : P.length < 17592186044416 := by clear hv; omega
  have t6 : Q.length < 17592186044416 := by clear hv; omega
  have hk1 : 100 ≤ k := by clear hv; omega
  have z0 : (0 : Int) = ((0 : Nat) : Int) := rfl
  have hvi : (v : Int) ≤ 9223372036854775807 := by clear hv; omega
  have hi1 : (i : Int) + 1 ≤ 9223372036854775807 := by clear hv; omega
  have hv0 : -9223372036854775808 ≤ (v : Int) := by clear hv; omega
  have hi0 : -9223372036854775808 ≤ (i : Int) + 1 := by clear hv; omega
  have hbt : v < bs.length → (v : Int) < (bs.length : Int) := fun h => Int.ofNat_lt.2 h
  have hbf : ¬ v < bs.length → ¬ (v : Int) < (bs.length : Int) := fun h h2 => h (Int.ofNat_lt.1 h2)
  have hzp : ¬ noise.length = 0 → 0 < noise.length := fun h => Nat.pos_of_ne_zero h
  have hnone : ¬ v < bs.length → ¬ rdOf false bs ((v : Nat) : Int) = true := fun h => by
    unfold rdOf
    rw [Int.toNat_natCast, List.getD_eq_getElem?_getD, List.getElem?_eq_none (Nat.le_of_not_lt h)]
    simp
  have hwant : ∀ x, rdOf false bs ((v : Nat) : Int) = x → wantS n s bs i = if x = true then nv s i else 0 := fun x hx => by unfold wantS; rw [← hv, hx]
  have e5 : wrap64 ((i : Int) + 1) = ((i + 1 : Nat) : Int) := (w64 hi0 hi1).trans (Int.natCast_add i 1).symm
  have e6 : wrap64 (Int.tdiv (i : Int) (n : Int)) = (v : Int) := by rw [tdiv_nat, ← hv]; exact w64 hv0 hvi
  clear hv hvi hi1 hv0 hi0
  simp only [trefoilref22_Split.l0]
  rw [if_pos t1, if_neg t2, e6]
  by_cases hz : noise.length = 0
  · have hm0 : minS l noise i = 0 := by unfold minS; rw [if_pos hz]
    have t7 : ¬ (noise.length : Int) > 0 := by rw [hz]; decide
    rw [if_neg t7, hm0]
    by_cases hb : v < bs.length
    · rw [if_pos (hbt hb), if_pos t3]
      by_cases hc : rdOf false bs ((v : Nat) : Int) = true
      · rw [hwant _ hc, if_pos hc, if_pos t4, if_pos t5, q1, z0, sub_r k l _ _ hk1 hl q2 (by decide), Option.bind_some, if_pos t6, e5, if_pos rfl]
      · rw [hwant _ rfl, if_neg hc, if_neg hc, if_pos t5, z0, sub_r k l _ _ hk1 hl (by decide) (by decide), Option.bind_some, if_pos t6, e5]
    · have hw : wantS n s bs i = 0 := by rw [hwant _ rfl, if_neg (hnone hb)]
      rw [hw, if_neg (hbf hb), if_pos t5, z0, sub_r k l _ _ hk1 hl (by decide) (by decide), Option.bind_some, if_pos t6, e5]
  · have hlt : i % noise.length < noise.length := Nat.mod_lt _ (hzp hz)
    obtain ⟨p1, p2⟩ := nv_eq hno _ hlt
    have hm0 : minS l noise i = nv noise (i % noise.length) % 2 ^ l := by unfold minS; rw [if_neg hz]
    have t7 : (noise.length : Int) > 0 := Int.ofNat_lt.2 (hzp hz)
    have t9 : ¬ (noise.length : Int) = 0 := fun h => hz (Int.ofNat.inj h)
    have u1 : (0 : Int) ≤ ((i % noise.length : Nat) : Int) := Int.natCast_nonneg _
    have u2 : ((i % noise.length : Nat) : Int) < (noise.length : Int) := Int.ofNat_lt.2 hlt
    rw [if_pos t7, if_neg t9, tmod_nat, if_pos u1, if_pos u2, p1, fit_r k hk1 l _ hl p2, Option.bind_some, ← hm0, if_neg t2]
    by_cases hb : v < bs.length
    · rw [if_pos (hbt hb), if_pos t3]
      by_cases hc : rdOf false bs ((v : Nat) : Int) = true
      · rw [hwant _ hc, if_pos hc, if_pos t4, if_pos t5, q1, sub_r k l _ _ hk1 hl q2 hm, Option.bind_some, if_pos t6, e5, if_pos rfl]
      · rw [hwant _ rfl, if_neg hc, if_neg hc, if_pos t5, z0, sub_r k l _ _ hk1 hl (by decide) hm, Option.bind_some, if_pos t6, e5]
    · have hw : wantS n s bs i = 0 := by rw [hwant _ rfl, if_neg (hnone hb)]
      rw [hw, if_neg (hbf hb), if_pos t5, z0, sub_r k l _ _ hk1 hl (by decide) hm, Option.bind_some, if_pos t6, e5]
theorem split_loop (d : Nat) : ∀ (k i : Nat), i + d = s.length → d + 300 < k →
    trefoilref22_Split.l0 k (l : Int) (n : Int) s bs noise (spP l noise i) (spQ l n s bs noise i) (i : Int) = some (spP l noise s.length, spQ l n s bs noise s.length) := by
  induction d with
  | zero =>
    intro k i hi hk
    obtain rfl : i = s.length := by omega
    obtain ⟨k, rfl⟩ : ∃ q, k = q + 1 := ⟨k - 1, by omega⟩
    simp only [trefoilref22_Split.l0]
    rw [if_neg (by omega)]
  | succ d ih =>
    intro k i hi hk
    obtain ⟨k, rfl⟩ : ∃ q, k = q + 1 := ⟨k - 1, by omega⟩
    rw [split_step hl hn hs hno ls lb lno k i (by omega) (by omega) _ _ (by rw [spP_len]; omega) (by rw [spQ_len]; omega), spP_succ, spQ_succ]
    exact ih k (i + 1) (by omega) (by omega)
theorem split_f (k : Nat) (hk : 1000400 ≤ k) : trefoilref22_Split.f k (l : Int) (n : Int) s bs noise = some (spP l noise s.length, spQ l n s bs noise s.length) :=
  split_loop hl hn hs hno ls lb lno s.length k 0 (by omega) (by omega)
end
/-! what is sent and what is got: together what was wanted -/
theorem min_sub (l w m : Nat) (hl : l ≤ 64) (hm : m ≤ 18446744073709551616) : Cg (2 ^ l) (m + subN l w m) w := by
  unfold subN
  refine (Cg.add (Cg.rfl_ (a := m)) (Cg.mod _ _)).trans ?_
  obtain ⟨t, ht⟩ := dvd64 hl
  have e : m + (w + (18446744073709551616 - m)) = w + 2 ^ l * t := by omega
  unfold Cg
  rw [e, Nat.add_mul_mod_self_left]
def sumN (f : Nat → Nat) : Nat → Nat
  | 0 => 0
  | t + 1 => sumN f t + f t
theorem sumN_cg (N : Nat) (f g : Nat → Nat) (t : Nat) (h : ∀ τ, τ < t → Cg N (f τ) (g τ)) : Cg N (sumN f t) (sumN g t) := by
  induction t with
  | zero => exact Cg.rfl_
  | succ t ih => exact (ih (fun τ hτ => h τ (by omega))).add (h t (by omega))
theorem sumF_pair (l n : Nat) (hl : l ≤ 64) (s : List Int) (bs : List Bool) (noise : List Int) (M p t : Nat) (h : ∀ τ, τ < t → p + τ * n < M) :
    Cg (2 ^ l) (sumF (spP l noise M) n p t + sumF (spQ l n s bs noise M) n p t) (sumN (fun τ => wantS n s bs (p + τ * n)) t) := by
  induction t with
  | zero => exact Cg.rfl_
  | succ t ih =>
    have h1 := ih (fun τ hτ => h τ (by omega))
    have h2 := h t (by omega)
    have e1 : nv (spP l noise M) (p + t * n) = minS l noise (p + t * n) := nv_map _ M _ h2
    have e2 : nv (spQ l n s bs noise M) (p + t * n) = subN l (wantS n s bs (p + t * n)) (minS l noise (p + t * n)) := nv_map _ M _ h2
    have h3 := min_sub l (wantS n s bs (p + t * n)) (minS l noise (p + t * n)) hl (Nat.le_of_lt (Nat.lt_of_lt_of_le (minS_lt l noise _) (pow_le_64 hl)))
    simp only [sumF, sumN]
    rw [e1, e2]
    refine Cg.trans (Cg.of_eq ?_) (h1.add h3)
    omega
/-- numbers doubled, where a bit is set: the product -/
theorem sum_bits (N a b t : Nat) : Cg N (sumN (fun τ => if a.testBit τ = true then b * 2 ^ τ % N else 0) t) (b * (a % 2 ^ t)) := by
  induction t with
  | zero => rw [Nat.pow_zero, Nat.mod_one, Nat.mul_zero]; exact Cg.rfl_
  | succ t ih =>
    rw [mod_pow_succ, Nat.mul_add]
    refine ih.add ?_
    show Cg N (if a.testBit t = true then b * 2 ^ t % N else 0) _
    rw [Nat.testBit_eq_decide_div_mod_eq]
    by_cases h : a / 2 ^ t % 2 = 1
    · rw [h]
      simp only [decide_true, if_true, Nat.one_mul]
      exact Cg.mod _ _
    · have h0 : a / 2 ^ t % 2 = 0 := by omega
      rw [h0]
      simp only [Nat.zero_mul, Nat.mul_zero]
      exact Cg.of_eq rfl
end Go.Proofs.Ytcmaidpoolcelaa.Lem
namespace Go.Proofs.Ytcmaidpoolcelaa.Lem
open Go.RowKit Go.Proofs.Ytcmaidpoolcelaa.P Go.Proofs.Ytcmaidpoolcelaa.Num Go.Proofs.YtcmaidpoolcelaaW.PrintWords Go.Proofs.YtcmaidpoolcelaaW.PrintMore
set_option linter.unusedVariables false
set_option linter.unusedSectionVars false

/-- lists of one length, one behind the other -/
theorem flat_at {α β : Type} (f : α → List β) (n : Nat) : ∀ (xs : List α) (h : ∀ x ∈ xs, (f x).length = n) (i j : Nat) (hj : j < n) (hi : i < xs.length), (xs.flatMap f)[i * n + j]? = (f xs[i])[j]?
  | [], _, i, j, _, hi => by simp at hi
  | x :: xs, h, 0, j, hj, _ => by
    rw [List.flatMap_cons, Nat.zero_mul, Nat.zero_add, List.getElem?_append_left (by rw [h x (List.mem_cons_self ..)]; exact hj)]
    rfl
  | x :: xs, h, i + 1, j, hj, hi => by
    have e := h x (List.mem_cons_self ..)
    rw [List.flatMap_cons, Nat.succ_mul, List.getElem?_append_right (by omega), e, show i * n + n + j - n = i * n + j by omega]
    exact flat_at f n xs (fun y hy => h y (List.mem_cons_of_mem _ hy)) i j hj (by simpa using hi)
theorem rd_get? (xs : List Int) (i : Nat) : rd xs (i : Int) = (xs[i]?).getD 0 := by
  unfold rd
  rw [Int.toNat_natCast, List.getD_eq_getElem?_getD]
section
variable {l r q c : Nat} {xs : List S26} (ho : xs.all (okSh l r q c) = true)
include ho
theorem fst_at (i z : Nat) (hi : i < xs.length) (hz : z < r * q) : (fst0 xs)[i * (r * q) + z]? = (rd_T26 xs (i : Int)).f0[z]? := by
  unfold fst0
  rw [flat_at (fun s : S26 => s.f0) (r * q) xs (fun s hs => (okSh_iff (List.all_eq_true.1 ho s hs)).1) i z hz hi, sh_at xs i hi]
theorem blk_at' (i z : Nat) (hi : i < xs.length) (hz : z < r * q) : (allBlks r q c xs)[i * (r * q) + z]? = some (((rd_T26 xs (i : Int)).f1.drop (z % q * c)).take c) := by
  unfold allBlks
  have hq : 0 < q := by
    rcases Nat.eq_zero_or_pos q with h | h
    · rw [h, Nat.mul_zero] at hz; omega
    · exact h
  rw [flat_at (blks r q c) (r * q) xs (fun s _ => blks_len r q c s) i z hz hi, blks_at r q c _ z hz hq, sh_at xs i hi]
theorem fst_len : (fst0 xs).length = xs.length * (r * q) := by
  unfold fst0
  have h : ∀ s ∈ xs, s.f0.length = r * q := fun s hs => (okSh_iff (List.all_eq_true.1 ho s hs)).1
  clear ho
  induction xs with
  | nil => simp
  | cons x xs ih => rw [List.flatMap_cons, List.length_append, h x (List.mem_cons_self ..), ih (fun s hs => h s (List.mem_cons_of_mem _ hs)), List.length_cons, Nat.succ_mul, Nat.add_comm]
omit ho in
theorem blks_len' : (allBlks r q c xs).length = xs.length * (r * q) := by
  unfold allBlks
  induction xs with
  | nil => simp
  | cons x xs ih => rw [List.flatMap_cons, List.length_append, blks_len, ih, List.length_cons, Nat.succ_mul, Nat.add_comm]
theorem blk_len' : ∀ g ∈ allBlks r q c xs, g.length = c := by
  intro g hg
  unfold allBlks at hg
  obtain ⟨s, hs, hg⟩ := List.mem_flatMap.1 hg
  obtain ⟨-, l1, -, -⟩ := okSh_iff (List.all_eq_true.1 ho s hs)
  unfold blks chop at hg
  obtain ⟨L, hL, hg⟩ := List.mem_flatten.1 hg
  rw [(List.mem_replicate.1 hL).2] at hg
  obtain ⟨b, hb, rfl⟩ := List.mem_map.1 hg
  have hm : (b + 1) * c ≤ q * c := Nat.mul_le_mul_right c (List.mem_range.1 hb)
  rw [Nat.succ_mul] at hm
  rw [List.length_take, List.length_drop]
  omega
theorem spread_len' : (spreadAll l (allBlks r q c xs)).length = xs.length * (r * q) * (l * c) := by
  rw [← blks_len' (c := c)]
  have h := blk_len' ho
  unfold spreadAll
  generalize allBlks r q c xs = gs at h ⊢
  clear ho
  induction gs with
  | nil => simp
  | cons g gs ih => rw [List.flatMap_cons, List.length_append, spreadB_len, h g (List.mem_cons_self ..), ih (fun s hs => h s (List.mem_cons_of_mem _ hs)), List.length_cons, Nat.succ_mul, Nat.add_comm]
/-- what is spread: a number of B, doubled -/
theorem spread_at (i z τ b : Nat) (hi : i < xs.length) (hz : z < r * q) (hτ : τ < l) (hb : b < c) : nv (spreadAll l (allBlks r q c xs)) (((i * (r * q) + z) * l + τ) * c + b) = nv (rd_T26 xs (i : Int)).f1 (z % q * c + b) * 2 ^ τ % 2 ^ l := by
  have hg := blk_len' ho
  have hbl := blk_at' ho i z hi hz
  have hgl : i * (r * q) + z < (allBlks r q c xs).length := by rw [blks_len']; exact place_lt hi hz
  obtain ⟨g, hgg⟩ : ∃ g, g = ((rd_T26 xs (i : Int)).f1.drop (z % q * c)).take c := ⟨_, rfl⟩
  rw [← hgg] at hbl
  have hge : (allBlks r q c xs)[i * (r * q) + z] = g := by
    rw [List.getElem?_eq_getElem hgl] at hbl
    exact Option.some.inj hbl
  have hgc : g.length = c := hg g (by rw [← hge]; exact List.getElem_mem hgl)
  have e1 : ((i * (r * q) + z) * l + τ) * c + b = (i * (r * q) + z) * (l * c) + (τ * c + b) := by rw [Nat.add_mul, Nat.mul_assoc, Nat.add_assoc]
  have hlt : τ * c + b < l * c := place_lt hτ hb
  have e2 : (spreadAll l (allBlks r q c xs))[(i * (r * q) + z) * (l * c) + (τ * c + b)]? = (dbl l τ g)[b]? := by
    unfold spreadAll
    rw [flat_at (spreadB l) (l * c) _ (fun g hgm => by rw [spreadB_len, hg g hgm]) _ _ hlt hgl, hge]
    unfold spreadB
    rw [flat_at (fun j => dbl l j g) c (List.range l) (fun j _ => by rw [dbl_len, hgc]) τ b hb (by rw [List.length_range]; exact hτ), List.getElem_range]
  unfold nv
  rw [e1, rd_get?, e2, ← rd_get?, dbl_at l τ g b (by rw [hgc]; exact hb), Int.toNat_natCast]
  congr 3
  rw [rd_get?, rd_get?, hgg, List.getElem?_take, if_pos hb, List.getElem?_drop]
/-- what is chosen by: a bit of A -/
theorem chosen_at (i z τ : Nat) (hi : i < xs.length) (hz : z < r * q) (hτ : τ < l) : rdOf false (allBits l (fst0 xs)) (((i * (r * q) + z) * l + τ : Nat) : Int) = (nv (rd_T26 xs (i : Int)).f0 z).testBit τ := by
  have hgl : i * (r * q) + z < (fst0 xs).length := by rw [fst_len ho]; exact place_lt hi hz
  have e2 : (allBits l (fst0 xs))[(i * (r * q) + z) * l + τ]? = some ((fst0 xs)[i * (r * q) + z].toNat.testBit τ) := by
    unfold allBits
    rw [flat_at (numBits l) l _ (fun x _ => numBits_len l x) _ _ hτ hgl]
    unfold numBits
    rw [List.getElem?_map, List.getElem?_range hτ]
    rfl
  have e3 := fst_at ho i z hi hz
  rw [List.getElem?_eq_getElem hgl] at e3
  unfold rdOf nv
  rw [Int.toNat_natCast, List.getD_eq_getElem?_getD, e2, rd_get?, ← e3]
  rfl
end
/-- a sum of a fold -/
theorem fold_at (l c G : Nat) (xs : List Int) (g b : Nat) (hg : g < G) (hb : b < c) : nv (foldF l xs c G) (g * c + b) = sumF xs c (g * (l * c) + b) l % 2 ^ l := by
  unfold nv foldF
  rw [rd_get?, flat_at (fun i => rowF l xs c (i * (l * c)) l) c (List.range G) (fun i _ => rowF_len ..) g b hb (by rw [List.length_range]; exact hg), List.getElem_range]
  unfold rowF
  rw [List.getElem?_map, List.getElem?_range hb]
  exact Int.toNat_natCast _
section
variable {l r q c : Nat} (hl : l ≤ 64) {xs ys : List S26} (hox : xs.all (okSh l r q c) = true) (hoy : ys.all (okSh l r q c) = true) (hlen : ys.length = xs.length) (hy : Few ys) (noise : List Int)
include hl hox hoy hlen hy
/-- what one sends and the other one gets, folded: the product of A of who chose, and B of who spread -/
theorem folds_prod (i z b : Nat) (hi : i < xs.length) (hz : z < r * q) (hb : b < c) (M : Nat) (hM : M = (spreadAll l (allBlks r q c xs)).length) :
    Cg (2 ^ l) (nv (foldF l (spP l noise M) c (xs.length * (r * q))) ((i * (r * q) + z) * c + b) + nv (foldF l (spQ l c (spreadAll l (allBlks r q c xs)) (allBits l (fst0 ys)) noise M) c (xs.length * (r * q))) ((i * (r * q) + z) * c + b)) (nv (rd_T26 ys (i : Int)).f0 z * nv (rd_T26 xs (i : Int)).f1 (z % q * c + b)) := by
  have hgl : i * (r * q) + z < xs.length * (r * q) := place_lt hi hz
  have hiy : i < ys.length := by rw [hlen]; exact hi
  rw [fold_at l c _ _ _ _ hgl hb, fold_at l c _ _ _ _ hgl hb]
  rw [spread_len' hox] at hM
  have e0 : ∀ g τ : Nat, g * (l * c) + b + τ * c = (g * l + τ) * c + b := fun g τ => by rw [Nat.add_mul, Nat.mul_assoc]; omega
  have e1 : ∀ τ, (i * (r * q) + z) * (l * c) + b + τ * c = ((i * (r * q) + z) * l + τ) * c + b := fun τ => e0 _ τ
  refine (Cg.add (Cg.mod _ _) (Cg.mod _ _)).trans ?_
  refine (sumF_pair l c hl _ _ noise M _ l (fun τ hτ => by
    rw [e1, hM]
    have h1 : (i * (r * q) + z) * l + τ < xs.length * (r * q) * l := place_lt hgl hτ
    rw [show xs.length * (r * q) * (l * c) = xs.length * (r * q) * l * c from (Nat.mul_assoc _ _ _).symm]
    exact place_lt h1 hb)).trans ?_
  obtain ⟨a, ha⟩ : ∃ a, a = nv (rd_T26 ys (i : Int)).f0 z := ⟨_, rfl⟩
  obtain ⟨x, hx⟩ : ∃ x, x = nv (rd_T26 xs (i : Int)).f1 (z % q * c + b) := ⟨_, rfl⟩
  rw [← ha, ← hx]
  refine (sumN_cg (2 ^ l) _ (fun τ => if a.testBit τ = true then x * 2 ^ τ % 2 ^ l else 0) l (fun τ hτ => Cg.of_eq ?_)).trans ?_
  · show wantS c _ _ ((i * (r * q) + z) * (l * c) + b + τ * c) = _
    rw [e1]
    unfold wantS
    rw [(place _ b c hb).1, chosen_at hoy i z τ hiy hz hτ, spread_at hox i z τ b hi hz hτ hb, ← ha, ← hx]
  · refine (sum_bits (2 ^ l) a x l).trans ?_
    have hs := sh_mem ys i hiy
    obtain ⟨l0, -, lo0, -⟩ := okSh_iff (List.all_eq_true.1 hoy _ hs)
    have hz0 : z < (rd_T26 ys (i : Int)).f0.length := by rw [l0]; exact hz
    obtain ⟨e3, -⟩ := nv_eq (hy.2 _ hs).1 z hz0
    have hm : rd (rd_T26 ys (i : Int)).f0 (z : Int) ∈ (rd_T26 ys (i : Int)).f0 := rd_mem _ z hz0
    unfold lows at lo0
    have h4 := List.all_eq_true.1 lo0 _ hm
    rw [decide_eq_true_eq, e3, ← ha] at h4
    rw [Nat.mod_eq_of_lt (Int.ofNat_lt.1 h4), Nat.mul_comm]
    exact Cg.rfl_
end
/-- both sums of products together: the product of the sums -/
theorem prod_pair (N q c : Nat) (A B X Y A' B' X' Y' SA SB : List Int) (at_ a b : Nat) (t : Nat)
    (hA : ∀ τ, τ < t → Cg N (rd SA ((a * q + τ : Nat) : Int)).toNat (nv A (a * q + τ) + nv A' (a * q + τ))) (hB : ∀ τ, τ < t → Cg N (rd SB ((τ * c + b : Nat) : Int)).toNat (nv B (τ * c + b) + nv B' (τ * c + b)))
    (h1 : ∀ τ, τ < t → Cg N (nv X (at_ + (a * q + τ) * c + b) + nv Y' (at_ + (a * q + τ) * c + b)) (nv A' (a * q + τ) * nv B (τ * c + b)))
    (h2 : ∀ τ, τ < t → Cg N (nv X' (at_ + (a * q + τ) * c + b) + nv Y (at_ + (a * q + τ) * c + b)) (nv A (a * q + τ) * nv B' (τ * c + b))) :
    Cg N (prodF q c A B X Y at_ a b t + prodF q c A' B' X' Y' at_ a b t) (prods SA SB (a * q) b c t) := by
  induction t with
  | zero => exact Cg.rfl_
  | succ t ih =>
    have i0 := ih (fun τ hτ => hA τ (by omega)) (fun τ hτ => hB τ (by omega)) (fun τ hτ => h1 τ (by omega)) (fun τ hτ => h2 τ (by omega))
    have i1 := (hA t (by omega)).mul (hB t (by omega))
    have i2 := h1 t (by omega)
    have i3 := h2 t (by omega)
    simp only [prodF, prods]
    generalize nv A (a * q + t) = u at *
    generalize nv A' (a * q + t) = u' at *
    generalize nv B (t * c + b) = v at *
    generalize nv B' (t * c + b) = v' at *
    generalize nv X (at_ + (a * q + t) * c + b) = x at *
    generalize nv Y (at_ + (a * q + t) * c + b) = y at *
    generalize nv X' (at_ + (a * q + t) * c + b) = x' at *
    generalize nv Y' (at_ + (a * q + t) * c + b) = y' at *
    generalize prodF q c A B X Y at_ a b t = s at *
    generalize prodF q c A' B' X' Y' at_ a b t = s' at *
    refine Cg.trans (Cg.of_eq (show s + u * v + (x + y) + (s' + u' * v' + (x' + y')) = (s + s') + ((u * v + u' * v') + ((x + y') + (x' + y))) by omega)) ?_
    refine i0.add (Cg.trans ?_ i1.symm)
    refine ((Cg.rfl_ (a := u * v + u' * v')).add (i2.add i3)).trans (Cg.of_eq ?_)
    rw [Nat.add_mul, Nat.mul_add, Nat.mul_add]
    omega
end Go.Proofs.Ytcmaidpoolcelaa.Lem
namespace Go.Proofs.Ytcmaidpoolcelaa.Opens
open Go.ChangeShapes Go.WideShapes Go.Deep Go.RowKit Go.Proofs.YtcmaidpoolcelaaW.PrintWords

/-- What reads as data of type t is told by kind d, and what is told of it is well formed. -/
structure Opens {α : Type} (P : Program) (t : TypeId) (d : Kd α) (wf : α → Prop) : Prop where
  size : P.cellsOf t = d.sz
  read : ∀ {H : Type} {enc : TypeId × Value → H} {w : World} {base : Nat} {spare : Nat → Bool} {held : Bool} {fuel : Nat} {cs : List Value} {y : DataW H × List MemPlace},
    DataW.trod enc P w base spare held fuel t cs = some y → ∃ x : α, d.K w x cs ∧ wf x

section
variable {P : Program} {t e : TypeId}

theorem opens_int {k : IntKind} (hu : P.underlying t = some (.int k)) (hc : P.cellsOf t = 1) : Opens P t (Kd.int k) (fun x => (Lit.int k x).wf = true) where
  size := hc
  read := fun h => by
    obtain ⟨n, rfl, _, hw⟩ := DataW.trod_int hu h
    exact ⟨n, rfl, hw⟩

theorem gather {α : Type} {p : Nat → α → Prop} (n : Nat) (h : ∀ i, i < n → ∃ x, p i x) : ∃ xs : List α, xs.length = n ∧ ∀ i x, xs[i]? = some x → p i x := by
  induction n with
  | zero => exact ⟨[], rfl, fun i x hx => by simp at hx⟩
  | succ n ih =>
    obtain ⟨xs, hl, hx⟩ := ih (fun i hi => h i (by omega))
    obtain ⟨y, hy⟩ := h n (by omega)
    refine ⟨xs ++ [y], by rw [List.length_append, hl]; rfl, fun i x hi => ?_⟩
    by_cases hin : i < n
    · rw [List.getElem?_append_left (by omega)] at hi
      exact hx i x hi
    · have hil := (List.getElem?_eq_some_iff.1 hi).1
      rw [List.length_append, List.length_singleton] at hil
      obtain rfl : i = n := by omega
      rw [List.getElem?_append_right (by omega), hl] at hi
      simp at hi
      exact hi ▸ hy

theorem opens_slice {α : Type} {d : Kd α} {wf : α → Prop} (hu : P.underlying t = some (.slice e)) (hc : P.cellsOf t = 1) (he : Opens P e d wf) :
    Opens P t (Kd.slice e d) (fun xs => xs.length ≤ maxLen ∧ ∀ x ∈ xs, wf x) where
  size := hc
  read := fun {H enc w base spare held fuel cs y} h => by
    rcases open_slice hu h with ⟨rfl, rfl⟩ | ⟨a, len, cap, m, n, D, Pl, rfl, hb, hl, hm, hmm, hx, hi⟩
    · exact ⟨[], ⟨none, 0, rfl, Nat.le_refl _, Kd.C_nil _ _⟩, by simp, fun x hx => by simp at hx⟩
    · have hlm : len ≤ m := by rw [hmm]; split <;> omega
      obtain ⟨xs, hlen, hxs⟩ := gather (p := fun i x => (∃ c, c.length = d.sz ∧ d.K w x c ∧ ∀ j u, c[j]? = some u → w.cell? (a.add (i * d.sz + j)) = some u) ∧ wf x) len (fun i hil => by
        obtain ⟨cs', hcs, ht⟩ := hi i (by omega)
        rw [he.size] at hcs
        obtain ⟨x, hK, hw⟩ := he.read ht
        obtain ⟨_, hcl, hat⟩ := World.cells?_some hcs
        refine ⟨x, ⟨cs', hcl, hK, fun j u hj => ?_⟩, hw⟩
        have hjl := (List.getElem?_eq_some_iff.1 hj).1
        rw [← Go.Deep.add_add, hat j (by omega), hj])
      have hmx : maxLen = 9223372036854775807 := rfl
      refine ⟨xs, ⟨some a, cap, by rw [hlen], by omega, rfl, by rw [hlen]; omega, fun _ => ⟨a, rfl, fun j p hj => (hxs j p hj).1⟩⟩, by omega, fun x hx => ?_⟩
      obtain ⟨i, hi', rfl⟩ := List.getElem_of_mem hx
      exact (hxs i _ (List.getElem?_eq_getElem hi')).2

/-- The fields from offset o on, told together. -/
structure OpensFs {α : Type} (P : Program) (fs : List Field) (o : Nat) (d : Kd α) (wf : α → Prop) : Prop where
  read : ∀ {H : Type} {enc : TypeId × Value → H} {w : World} {base : Nat} {spare : Nat → Bool} {held : Bool} {fuel : Nat} {cs : List Value}, cs.length = o + d.sz →
    (∀ f ∈ fs, ∃ y, DataW.trod enc P w base spare held fuel f.type ((cs.drop f.offset).take (P.cellsOf f.type)) = some y) → ∃ x : α, d.K w x (cs.drop o) ∧ wf x

theorem opensFs_last {α : Type} {d : Kd α} {wf : α → Prop} {f : Field} {o : Nat} (ho : f.offset = o) (hf : Opens P f.type d wf) : OpensFs P [f] o d wf where
  read := fun {H enc w base spare held fuel cs} hl h => by
    obtain ⟨y, hy⟩ := h f List.mem_cons_self
    rw [ho, hf.size, List.take_of_length_le (by rw [List.length_drop]; omega)] at hy
    exact hf.read hy

theorem opensFs_cons {α β : Type} {d : Kd α} {d' : Kd β} {wf : α → Prop} {wf' : β → Prop} {f : Field} {fs : List Field} {o o' : Nat} (ho : f.offset = o) (ho' : o' = o + d.sz) (hf : Opens P f.type d wf) (hr : OpensFs P fs o' d' wf') :
    OpensFs P (f :: fs) o (Kd.pair d d') (fun x => wf x.1 ∧ wf' x.2) where
  read := fun {H enc w base spare held fuel cs} hl h => by
    have hsz : (Kd.pair d d').sz = d.sz + d'.sz := rfl
    obtain ⟨y, hy⟩ := h f List.mem_cons_self
    rw [ho, hf.size] at hy
    obtain ⟨x, hx, hw⟩ := hf.read hy
    obtain ⟨x', hx', hw'⟩ := hr.read (cs := cs) (by omega) (fun g hg => h g (List.mem_cons_of_mem _ hg))
    refine ⟨(x, x'), ⟨_, _, ?_, hx, hx'⟩, hw, hw'⟩
    rw [ho', ← List.drop_drop]
    exact (List.take_append_drop _ _).symm

/-- A struct: its fields' kinds, told as a record. -/
theorem opens_struct {α β : Type} {d : Kd α} {wf : α → Prop} {fs : Array Field} (f : β → α) (g : α → β) (hfg : ∀ x, f (g x) = x) (hu : P.underlying t = some (.struct fs)) (hc : P.cellsOf t = d.sz)
    (l : List Field) (hl : fs.toList = l) (hf : OpensFs P l 0 d wf) : Opens P t (Kd.iso d f) (fun x => wf (f x)) where
  size := hc
  read := fun {H enc w base spare held fuel cs y} h => by
    obtain ⟨xs, n, _, _, hlen, hxl, hat⟩ := DataW.trod_struct hu h
    obtain ⟨x, hK, hw⟩ := hf.read (cs := cs) (enc := enc) (w := w) (base := base) (spare := spare) (held := held) (fuel := n) (by omega) (fun q hq => by
      rw [← hl] at hq
      obtain ⟨i, hi, rfl⟩ := List.getElem_of_mem hq
      have hi' : i < fs.size := by simpa using hi
      have := hat i fs[i] (Array.getElem?_eq_getElem hi')
      refine ⟨xs[i]'(by omega), ?_⟩
      rw [Array.getElem_toList, this, List.getElem?_eq_getElem])
    exact ⟨g x, by show d.K w (f (g x)) cs; rw [hfg]; simpa using hK, by show wf (f (g x)); rw [hfg]; exact hw⟩

end
end Go.Proofs.Ytcmaidpoolcelaa.Opens
