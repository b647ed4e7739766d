/- MatrixSides, the plain part: the bits chosen and the numbers spread for products of matrices are the document's. -/
import Derived.Test.YtcmaidpoolcelaaMsK1
import Derived.Test.YtcmaidpoolcelaaMsK3
import Derived.Test.YtcmaidpoolcelaaMsK4
import Derived.Test.YtcmaidpoolcelaaMsK8
import Derived.Test.YtcmaidpoolcelaaMsK11
import Derived.Test.YtcmaidpoolcelaaMsLemMat
import Derived.Test.YtcmaidpoolcelaaMsPureDabitRights
namespace Go.Proofs.Ytcmaidpoolcelaa.Pure
open Go.RowKit Go.Proofs.Ytcmaidpoolcelaa.P Go.Proofs.Ytcmaidpoolcelaa.Lem Go.Proofs.Ytcmaidpoolcelaa.Num Go.Proofs.Ytcmaidpoolcelaa.Ops Go.Proofs.YtcmaidpoolcelaaW.PrintWords Go.Proofs.YtcmaidpoolcelaaW.PrintMore
set_option linter.unusedVariables false
namespace MatrixSidesL
open DabitRightsL

theorem awake23 (k : Nat) (hk : 200 ≤ k) : trefoillaw23_awake.f k = some true := by
  obtain ⟨d, rfl⟩ : ∃ d, k = 200 + d := ⟨k - 200, by omega⟩
  clear hk
  induction d with
  | zero => kernel_rfl
  | succ d ih => exact trefoillaw23_awake.mono (200 + d) true ih

def Sized (s : S26) : Prop := s.f0.length ≤ 60 ∧ s.f1.length ≤ 60 ∧ s.f2.length ≤ 60
theorem small_loop (xs : List S26) (d : Nat) : ∀ (k i : Nat), i + d = 31 → 2 * d + 2 < k → (∀ j (h : j < xs.length), j < i → Sized xs[j]) →
    ∃ b, trefoillaw23_small.l0 k xs (i : Int) = some b ∧ (b = true → xs.length ≤ 30 ∧ ∀ j (h : j < xs.length), Sized xs[j]) := by
  induction d with
  | zero =>
    intro k i hi hk hb
    obtain ⟨k, rfl⟩ : ∃ q, k = q + 1 + 1 := ⟨k - 2, by omega⟩
    refine ⟨decide ((xs.length : Int) ≤ 30), ?_, fun h => ?_⟩
    · have hi31 : ¬ (i : Int) ≤ 30 := by omega
      by_cases h : (i : Int) < (xs.length : Int)
      · simp [trefoillaw23_small.l0, trefoillaw23_small.j1, h, hi31]
      · simp [trefoillaw23_small.l0, trefoillaw23_small.j1, h]
    · have h := of_decide_eq_true h
      exact ⟨by omega, fun j hj => hb j hj (by omega)⟩
  | succ d ih =>
    intro k i hi hk hb
    obtain ⟨k, rfl⟩ : ∃ q, k = q + 1 + 1 := ⟨k - 2, by omega⟩
    obtain ⟨K, hK⟩ : ∃ K, K = k + 1 := ⟨_, rfl⟩
    rw [← hK]
    simp only [trefoillaw23_small.l0]
    rw [hK]
    by_cases h : (i : Int) < (xs.length : Int)
    · have hil : i < xs.length := by omega
      have hi30 : (i : Int) ≤ 30 := by omega
      have t2 : (0 : Int) ≤ (i : Int) := by omega
      have e5 := w_succ i (by omega)
      rw [if_pos h, decide_eq_true hi30]
      simp only [trefoillaw23_small.j1]
      rw [if_pos trivial, if_pos t2, if_pos h, sh_at xs i hil]
      by_cases h0 : ((xs[i].f0.length : Nat) : Int) > 60
      · rw [if_pos h0]; exact ⟨false, rfl, fun e => by simp at e⟩
      rw [if_neg h0]
      by_cases h1 : ((xs[i].f1.length : Nat) : Int) > 60
      · rw [if_pos h1]; exact ⟨false, rfl, fun e => by simp at e⟩
      rw [if_neg h1]
      by_cases h2 : ((xs[i].f2.length : Nat) : Int) > 60
      · rw [if_pos h2]; exact ⟨false, rfl, fun e => by simp at e⟩
      rw [if_neg h2, e5]
      refine ih k (i + 1) (by omega) (by omega) (fun j hj hlt => ?_)
      by_cases hji : j = i
      · subst hji; exact ⟨by omega, by omega, by omega⟩
      · exact hb j hj (by omega)
    · refine ⟨decide ((xs.length : Int) ≤ 30), ?_, fun hd => ?_⟩
      · rw [if_neg h]
        simp [trefoillaw23_small.j1]
      · have hd := of_decide_eq_true hd
        exact ⟨by omega, fun j hj => hb j hj (by omega)⟩
theorem small_f (k : Nat) (hk : 100 ≤ k) (xs : List S26) : ∃ b, trefoillaw23_small.f k xs = some b ∧ (b = true → xs.length ≤ 30 ∧ ∀ s ∈ xs, Sized s) := by
  unfold trefoillaw23_small.f
  obtain ⟨b, e, h⟩ := small_loop xs 31 k 0 (by omega) (by omega) (fun j h h0 => by omega)
  refine ⟨b, e, fun hb => ⟨(h hb).1, fun s hs => ?_⟩⟩
  obtain ⟨j, hj, rfl⟩ := List.getElem_of_mem hs
  exact (h hb).2 j hj

theorem nums_loop (a : List Int) (hm : a.length ≤ 1000000) (d : Nat) : ∀ (k i : Nat), i + d = a.length → d < k → trefoilref02_Nums.l0 k a a i = some true := by
  induction d with
  | zero =>
    intro k i hi hk
    obtain ⟨k, rfl⟩ : ∃ q, k = q + 1 := ⟨k - 1, by omega⟩
    have t1 : ¬ ((i : Int) < (a.length : Int)) := by omega
    simp only [trefoilref02_Nums.l0]
    rw [if_neg t1]
  | succ d ih =>
    intro k i hi hk
    obtain ⟨k, rfl⟩ : ∃ q, k = q + 1 := ⟨k - 1, by omega⟩
    have nx := ih k (i + 1) (by omega) (by omega)
    have t1 : (i : Int) < (a.length : Int) := by omega
    have t2 : (0 : Int) ≤ (i : Int) := by omega
    have e5 : wrap64 ((i : Int) + 1) = ((i + 1 : Nat) : Int) := by rw [w64 (by omega) (by omega)]; omega
    simp only [trefoilref02_Nums.l0]
    rw [if_pos t1, if_pos t2, if_pos t1, if_pos trivial, e5]
    exact nx
theorem nums_f (a : List Int) (k : Nat) (hm : a.length ≤ 1000000) (hk : a.length < k) : trefoilref02_Nums.f k a a = some true := by
  unfold trefoilref02_Nums.f
  rw [if_pos rfl]
  exact nums_loop a hm a.length k 0 (by omega) hk

theorem chB_len (w : Int) (l : Nat) (xs : List S26) (hx : Few xs) (hl : w = 0 → l ≤ 64) : (chB w l xs).length ≤ 200000 := by
  unfold chB
  by_cases h : w = 0
  · rw [if_pos h]; have := allBits_few hx l (hl h); omega
  · rw [if_neg h]; simp
theorem spB_len (w : Int) (l r q c : Nat) (xs : List S26) (hx : Few xs) (hl : w = 0 → l ≤ 64 ∧ c ≤ 6 ∧ r * q ≤ 6 * 6 ∧ xs.all (okSh l r q c) = true) : (spB w l r q c xs).length ≤ 1000000 := by
  unfold spB
  by_cases h : w = 0
  · obtain ⟨a, b, d, e⟩ := hl h
    rw [if_pos h, spreadAll_len l c _ (fun g hg => (allBlks_ok l r q c xs hx e g hg).1)]
    have h1 := allBlks_len r q c xs d hx.1
    have h2 : l * c ≤ 64 * 6 := Nat.mul_le_mul a b
    have h3 := Nat.mul_le_mul h1 h2
    omega
  · rw [if_neg h]; simp

theorem held_bools (k : Nat) (hk : 200001 ≤ k) (t : Int × List Int × Int) (L : List Bool) (w : Int) (h : Held t L w) (hL : L.length ≤ 200000) : bits_Vec_Bools.f k t.1 t.2.1 = some L := by
  obtain ⟨a, b, c, d, e⟩ := h
  rw [a]
  exact bools_f k t.2.1 L c hL d e hk
end MatrixSidesL
open MatrixSidesL DabitRightsL

/-- The plain statement of MatrixSides. -/
theorem MatrixSides (x0 : S23) (x1 : List (S26)) (w0 : wf23 x0) (w1 : x1.length ≤ maxLen ∧ ∀ y ∈ x1, wf26 y) :
    ∃ k, trefoillaw23_MatrixSides.f k x0.f0 x0.f1 x0.f2 x0.f3 x0.f4 x1 = some true := by
  refine ⟨1000003, ?_⟩
  obtain ⟨k, hk⟩ : ∃ k, k = 1000003 := ⟨_, rfl⟩
  rw [← hk]
  obtain ⟨b, eb, hb⟩ := small_f k (by omega) x1
  unfold trefoillaw23_MatrixSides.f
  rw [eb, Option.bind_some]
  by_cases hbt : b = true
  · obtain ⟨hn, hs⟩ := hb hbt
    have hx : Few x1 := ⟨hn, fun s h => ⟨u64s_of (w1.2 s h).1, u64s_of (w1.2 s h).2.1, u64s_of (w1.2 s h).2.2, (hs s h).1, (hs s h).2.1, (hs s h).2.2⟩⟩
    rw [if_pos hbt]
    generalize x0.f0 = c0
    generalize x0.f1 = c1
    generalize x0.f2 = c2
    generalize x0.f3 = c3
    generalize x0.f4 = c4
    obtain ⟨t, e1, ht⟩ := mch_f k (by omega) c0 c1 c2 c3 c4 x1 hx
    have e2 := mch_r k (by omega) c0 c1 c2 c3 c4 x1 hx
    have e3 := msp_f k (by omega) c0 c1 c2 c3 c4 x1 hx
    have e4 := msp_r k (by omega) c0 c1 c2 c3 c4 x1 hx
    have hl : mwrong c0 c1 c2 c3 c4 x1 = 0 → c1.toNat ≤ 64 ∧ c4.toNat ≤ 6 ∧ c2.toNat * c3.toNat ≤ 6 * 6 ∧ x1.all (okSh c1.toNat c2.toNat c3.toNat c4.toNat) = true := by
      intro h
      obtain ⟨hck, ho⟩ := wrong_all h
      obtain ⟨hc, h1⟩ := mchk_zero hck
      obtain ⟨b1, b2, _, _⟩ := chk_bits hc
      obtain ⟨s1, s2, s3, s4, s5, s6⟩ := chk_sides hc h1
      exact ⟨by omega, by omega, Nat.mul_le_mul (by omega) (by omega), ho⟩
    have hL := chB_len _ c1.toNat x1 hx (fun h => (hl h).1)
    have hS := spB_len _ c1.toNat c2.toNat c3.toNat c4.toNat x1 hx hl
    have e5 := held_bools k (by omega) t _ _ ht hL
    have e6 := same02_f _ k hL (by omega)
    have e7 := nums_f _ k hS (by omega)
    have e8 := awake23 k (by omega)
    rw [e1, e2, e3, e4, Option.bind_some, Option.bind_some, Option.bind_some, Option.bind_some, e5, Option.bind_some]
    simp only
    rw [e6, Option.bind_some, if_pos rfl, if_pos ht.2.1, e7, Option.bind_some, if_pos rfl, if_pos trivial, e8]
    rfl
  · rw [if_neg hbt, awake23 k (by omega)]
    rfl
end Go.Proofs.Ytcmaidpoolcelaa.Pure
