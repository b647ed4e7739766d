/- Shares of products: the sides of both, bits chosen and numbers spread. -/
import Derived.Test.YtcmaidpoolcelaaMsPx0
import Derived.Test.YtcmaidpoolcelaaMsK6
import Derived.Test.YtcmaidpoolcelaaMsK7
import Derived.Test.YtcmaidpoolcelaaMsK8
import Derived.Test.YtcmaidpoolcelaaMsLemPart
namespace Go.Proofs.Ytcmaidpoolcelaa.Lem
open Go.RowKit Go.Proofs.Ytcmaidpoolcelaa.P Go.Proofs.Ytcmaidpoolcelaa.Num Go.Proofs.YtcmaidpoolcelaaW.PrintWords Go.Proofs.YtcmaidpoolcelaaW.PrintMore
set_option linter.unusedVariables false

def fst0 (xs : List S26) : List Int := xs.flatMap fun s => s.f0
theorem fst0_u64 {xs : List S26} (h : Few xs) : U64s (fst0 xs) := by
  intro x hx
  unfold fst0 at hx
  rw [List.mem_flatMap] at hx
  obtain ⟨s, hs, hx⟩ := hx
  exact (h.2 s hs).1 x hx
theorem fst0_lows {l : Nat} {xs : List S26} (h : ∀ s ∈ xs, lows l s.f0 = true) : lows l (fst0 xs) = true := by
  unfold lows
  rw [List.all_eq_true]
  intro x hx
  unfold fst0 at hx
  rw [List.mem_flatMap] at hx
  obtain ⟨s, hs, hx⟩ := hx
  have := h s hs
  unfold lows at this
  exact List.all_eq_true.1 this x hx
theorem fst0_len {xs : List S26} (h : Few xs) : (fst0 xs).length ≤ 1800 := by
  have := flat_len (fun s : S26 => s.f0) 60 xs (fun s hs => (h.2 s hs).2.2.2.1)
  have h2 := h.1
  unfold fst0
  omega
theorem allBits_append (l : Nat) (a b : List Int) : allBits l (a ++ b) = allBits l a ++ allBits l b := by unfold allBits; rw [List.flatMap_append]
theorem fst0_snoc (xs : List S26) (i : Nat) (h : i < xs.length) : fst0 (xs.take i) ++ (rd_T26 xs (i : Int)).f0 = fst0 (xs.take (i + 1)) := sh_snoc (fun s => s.f0) xs i h
theorem few_take {xs : List S26} (h : Few xs) (i : Nat) : Few (xs.take i) := ⟨by rw [List.length_take]; have := h.1; omega, fun s hs => h.2 s (List.mem_of_mem_take hs)⟩
theorem allBits_few {xs : List S26} (h : Few xs) (l : Nat) (hl : l ≤ 64) : (allBits l (fst0 xs)).length ≤ 1800 * 64 := by
  rw [allBits_len]; exact Nat.mul_le_mul (fst0_len h) hl

/-- the document's choices for shares -/
theorem rc_loop (l : Nat) (h0 : 1 ≤ l) (hl : l ≤ 64) (c0 c2 c3 c4 : Int) (xs : List S26) (hx : Few xs) (ho : ∀ s ∈ xs, lows l s.f0 = true) (d : Nat) : ∀ (k i : Nat), i + d = xs.length → d + 700020 < k →
    trefoilref22_Choices.l0 k xs (allBits l (fst0 (xs.take i))) (i : Int) c0 (l : Int) c2 c3 c4 = some (allBits l (fst0 xs), 0) := by
  induction d with
  | zero =>
    intro k i hi hk
    obtain ⟨k, rfl⟩ : ∃ q, k = q + 1 := ⟨k - 1, by omega⟩
    simp only [trefoilref22_Choices.l0]
    rw [if_neg (by omega), List.take_of_length_le (by omega)]
  | succ d ih =>
    intro k i hi hk
    obtain ⟨k, rfl⟩ : ∃ q, k = q + 1 := ⟨k - 1, by omega⟩
    have hil : i < xs.length := by omega
    have nx := ih k (i + 1) (by omega) (by omega)
    have t1 : (i : Int) < (xs.length : Int) := by omega
    have t2 : (0 : Int) ≤ (i : Int) := by omega
    have hk2 : 700010 ≤ k := by omega
    have hi5 : i ≤ 100000 := by have := hx.1; omega
    have fl := allBits_few (few_take hx i) l hl
    have hm := sh_mem xs i hil
    have a0 := (hx.2 _ hm).2.2.2.1
    have fl2 : (allBits l (rd_T26 xs (i : Int)).f0).length ≤ 60 * 64 := by rw [allBits_len]; exact Nat.mul_le_mul a0 hl
    have hlen : (allBits l (fst0 (xs.take i))).length + (allBits l (rd_T26 xs (i : Int)).f0).length < 140737488355328 := by omega
    have e5 := w_succ i hi5
    simp only [trefoilref22_Choices.l0]
    rw [if_pos t1, if_pos t2, rch_f k l h0 hl _ (hx.2 _ hm).1 (ho _ hm) (Nat.le_trans a0 (by decide)) hk2, Option.bind_some, if_pos hlen, ← allBits_append, fst0_snoc xs i hil, e5]
    exact nx

/-- the bits of a vector, as a list -/
theorem bools_loop (n : Nat) (W : List Int) (L : List Bool) (hW : Words64 W) (hL : L.length = n) (hn : n ≤ 200000) (hl : n ≤ 64 * W.length) (hb : ∀ j, bitAt W j = L.getD j false) (d : Nat) : ∀ (k i : Nat) (X : List Bool), i + d = n → d < k → X.length = n → (∀ j, j < i → X[j]? = L[j]?) →
    bits_Vec_Bools.l0 k X (n : Int) (i : Int) (n : Int) W = some L := by
  induction d with
  | zero =>
    intro k i X hi hk hX hq
    obtain ⟨k, rfl⟩ : ∃ q, k = q + 1 := ⟨k - 1, by omega⟩
    simp only [bits_Vec_Bools.l0]
    rw [if_neg (by omega)]
    congr 1
    apply List.ext_getElem?
    intro j
    by_cases hj : j < n
    · exact hq j (by omega)
    · rw [List.getElem?_eq_none (by omega), List.getElem?_eq_none (by omega)]
  | succ d ih =>
    intro k i X hi hk hX hq
    obtain ⟨k, rfl⟩ : ∃ q, k = q + 1 := ⟨k - 1, by omega⟩
    have hil : i < n := by omega
    have hiL : i < L.length := by omega
    have nx := ih k (i + 1) (X.set i (bitAt W i)) (by omega) (by omega) (by rw [List.length_set]; exact hX) (by
      intro j hj
      by_cases h : i = j
      · subst h; rw [List.getElem?_set_self (by omega), hb i, List.getElem?_eq_getElem hiL, List.getD_eq_getElem?_getD, List.getElem?_eq_getElem hiL]; rfl
      · rw [List.getElem?_set_ne h]; exact hq j (by omega))
    have t1 : (i : Int) < (n : Int) := by omega
    have t2 : (0 : Int) ≤ (i : Int) := by omega
    have t3 : (i : Int) < (X.length : Int) := by omega
    have g := get_f n i W hW hil (by omega) hl
    have e5 : wrap64 ((i : Int) + 1) = ((i + 1 : Nat) : Int) := by rw [w64 (by omega) (by omega)]; omega
    simp only [bits_Vec_Bools.l0]
    rw [if_pos t1, g, Option.bind_some, if_pos t2, if_pos t3, Int.toNat_natCast, e5]
    exact nx
theorem bools_f (k : Nat) (W : List Int) (L : List Bool) (hW : Words64 W) (hn : L.length ≤ 200000) (hl : W.length = wordsOf L.length) (hb : ∀ j, bitAt W j = L.getD j false) (hk : 200001 ≤ k) : bits_Vec_Bools.f k (L.length : Int) W = some L := by
  unfold bits_Vec_Bools.f
  have hw := words_len L.length
  rw [← hl] at hw
  rw [if_pos (by omega), if_pos (by rw [Int.toNat_natCast]; omega), Option.bind_some, Int.toNat_natCast, List.length_replicate]
  exact bools_loop L.length W L hW rfl hn hw hb L.length k 0 _ (by omega) (by omega) (by simp) (by intro j hj; omega)
theorem same02_loop (a : List Bool) (hm : a.length ≤ 200000) (d : Nat) : ∀ (k i : Nat), i + d = a.length → d < k → trefoilref02_Same.l0 k a a (i : Int) = some true := by
  induction d with
  | zero =>
    intro k i hi hk
    obtain ⟨k, rfl⟩ : ∃ q, k = q + 1 := ⟨k - 1, by omega⟩
    simp only [trefoilref02_Same.l0]
    rw [if_neg (by omega)]
  | succ d ih =>
    intro k i hi hk
    obtain ⟨k, rfl⟩ : ∃ q, k = q + 1 := ⟨k - 1, by omega⟩
    have nx := ih k (i + 1) (by omega) (by omega)
    have t1 : (i : Int) < (a.length : Int) := by omega
    have t2 : (0 : Int) ≤ (i : Int) := by omega
    have e5 : wrap64 ((i : Int) + 1) = ((i + 1 : Nat) : Int) := by rw [w64 (by omega) (by omega)]; omega
    simp only [trefoilref02_Same.l0]
    rw [if_pos t1, if_pos t2, if_pos t1, bne_self_eq_false, if_neg (by simp), e5]
    exact nx
theorem same02_f (a : List Bool) (k : Nat) (hm : a.length ≤ 200000) (hk : a.length < k) : trefoilref02_Same.f k a a = some true := by
  unfold trefoilref02_Same.f
  rw [if_pos rfl]
  exact same02_loop a hm a.length k 0 (by omega) hk

/-- the blocks that are spread -/
def chop (q c : Nat) (a : List Int) : List (List Int) := (List.range q).map fun b => (a.drop (b * c)).take c
def blks (r q c : Nat) (s : S26) : List (List Int) := (List.replicate r (chop q c s.f1)).flatten
def allBlks (r q c : Nat) (xs : List S26) : List (List Int) := xs.flatMap (blks r q c)
theorem chop_len (q c : Nat) (a : List Int) : (chop q c a).length = q := by simp [chop]
theorem blks_len (r q c : Nat) (s : S26) : (blks r q c s).length = r * q := by
  unfold blks
  induction r with
  | zero => simp
  | succ r ih => rw [List.replicate_succ, List.flatten_cons, List.length_append, ih, chop_len, Nat.succ_mul, Nat.add_comm]
theorem rep_at (L : List (List Int)) (q : Nat) (hq : L.length = q) (h0 : 0 < q) : ∀ (r x : Nat), x < r * q → (List.replicate r L).flatten[x]? = L[x % q]? := by
  intro r
  induction r with
  | zero => intro x hx; omega
  | succ r ih =>
    intro x hx
    rw [List.replicate_succ, List.flatten_cons]
    by_cases h : x < q
    · rw [List.getElem?_append_left (by omega), Nat.mod_eq_of_lt h]
    · rw [Nat.succ_mul] at hx
      rw [List.getElem?_append_right (by omega), hq, ih (x - q) (by omega)]
      congr 1
      exact (Nat.mod_eq_sub_mod (by omega)).symm
theorem blks_at (r q c : Nat) (s : S26) (x : Nat) (hx : x < r * q) (h0 : 0 < q) : (blks r q c s)[x]? = some ((s.f1.drop (x % q * c)).take c) := by
  unfold blks
  rw [rep_at (chop q c s.f1) q (chop_len ..) h0 r x hx]
  simp [chop, Nat.mod_lt x h0]
theorem chop_flat (c : Nat) : ∀ (q : Nat) (a : List Int), a.length = q * c → (chop q c a).flatten = a := by
  intro q
  induction q with
  | zero => intro a h; rw [Nat.zero_mul] at h; rw [List.length_eq_zero_iff.1 h]; rfl
  | succ q ih =>
    intro a h
    rw [Nat.succ_mul] at h
    have e : chop (q + 1) c a = a.take c :: chop q c (a.drop c) := by
      unfold chop
      rw [List.range_succ_eq_map, List.map_cons, List.map_map]
      congr 1
      · simp
      · apply List.map_congr_left
        intro b _
        simp only [Function.comp, List.drop_drop]
        rw [Nat.succ_mul, Nat.add_comm c]
    rw [e, List.flatten_cons, ih (a.drop c) (by rw [List.length_drop]; omega), List.take_append_drop]
theorem blks_flat (r q c : Nat) (s : S26) (h : s.f1.length = q * c) : (blks r q c s).flatten = (List.replicate r s.f1).flatten := by
  unfold blks
  induction r with
  | zero => rfl
  | succ r ih => rw [List.replicate_succ, List.flatten_cons, List.flatten_append, chop_flat c q s.f1 h, ih, List.replicate_succ, List.flatten_cons]
theorem blks_ok (l r q c : Nat) (s : S26) (h : s.f1.length = q * c) (hu : U64s s.f1) (hl : lows l s.f1 = true) : ∀ g ∈ blks r q c s, g.length = c ∧ U64s g ∧ lows l g = true := by
  intro g hg
  unfold blks at hg
  rw [List.mem_flatten] at hg
  obtain ⟨L, hL, hg⟩ := hg
  rw [(List.mem_replicate.1 hL).2] at hg
  unfold chop at hg
  rw [List.mem_map] at hg
  obtain ⟨b, hb, rfl⟩ := hg
  rw [List.mem_range] at hb
  have hm : (b + 1) * c ≤ q * c := Nat.mul_le_mul_right c hb
  rw [Nat.succ_mul] at hm
  refine ⟨by rw [List.length_take, List.length_drop]; omega, fun x hx => hu x (List.mem_of_mem_drop (List.mem_of_mem_take hx)), ?_⟩
  unfold lows at hl ⊢
  rw [List.all_eq_true] at hl ⊢
  exact fun x hx => hl x (List.mem_of_mem_drop (List.mem_of_mem_take hx))
end Go.Proofs.Ytcmaidpoolcelaa.Lem
