/- DabitFinishes, the plain part: the bits chosen, the numbers spread and the shares made are the document's. -/
import Derived.Test.YtcmaidpoolcelaaDfK4
import Derived.Test.YtcmaidpoolcelaaDfK6
import Derived.Test.YtcmaidpoolcelaaDfK7
import Derived.Test.YtcmaidpoolcelaaDfLemDabit
import Derived.Test.YtcmaidpoolcelaaDfPureDabitRights
namespace Go.Proofs.Ytcmaidpoolcelaa.Pure
open Go.RowKit Go.Proofs.Ytcmaidpoolcelaa.P Go.Proofs.Ytcmaidpoolcelaa.Lem Go.Proofs.Ytcmaidpoolcelaa.Num Go.Proofs.Ytcmaidpoolcelaa.Ops Go.Proofs.YtcmaidpoolcelaaW.PrintWords Go.Proofs.YtcmaidpoolcelaaW.PrintMore
set_option linter.unusedVariables false
namespace DabitFinishesL
open DabitRightsL

/-- the shares made are short -/
theorem fin_short (c0 c1 c2 c3 c4 : Int) (s : List S26) (p : List Int) (hs : s.length ≤ 1000) : (finR c0 c1 c2 c3 c4 s p).1.length ≤ 1000 ∧ Shorts (finR c0 c1 c2 c3 c4 s p).1 := by
  have none : (([], 11) : List S26 × Int).1.length ≤ 1000 ∧ Shorts (([], 11) : List S26 × Int).1 := ⟨by simp, fun x hx => by simp at hx⟩
  unfold finR
  by_cases h : dwrong c0 c1 c2 c3 c4 s = 0
  · rw [if_pos h]
    by_cases h2 : p.length = s.length ∧ lows c1.toNat p = true
    · rw [if_pos h2]
      refine ⟨by simp only [entries_len]; exact hs, fun x hx => ?_⟩
      simp only [entries, List.mem_map] at hx
      obtain ⟨i, _, rfl⟩ := hx
      simp [entry]
    · rw [if_neg h2]; exact none
  · rw [if_neg h]; exact ⟨by simp, fun x hx => by simp at hx⟩

theorem tail_f (a : List Int) (s : List S26) (c : Int) (V : List Int) (hV : Words64 V) (hl : V.length = wordsOf a.length) (hb : ∀ j, bitAt V j = (a.map (· == 1)).getD j false) (hn : a.length ≤ 1000)
    (hs : s.length ≤ 1000) (hsh : Shorts s) (d : Nat) : ∀ (k i : Nat), i + d = a.length → d + 101011 < k →
    trefoillaw25_DabitFinishes.l0 k a s c s c (i : Int) (a.length : Int) V = some true := by
  induction d with
  | zero =>
    intro k i hi hk
    obtain ⟨k, rfl⟩ : ∃ q, k = q + 1 := ⟨k - 1, by omega⟩
    simp only [trefoillaw25_DabitFinishes.l0]
    rw [if_neg (by omega), shares_f s k hs hsh (by omega), Option.bind_some, if_pos rfl, if_pos trivial, awake_f k (by omega)]; rfl
  | succ d ih =>
    intro k i hi hk
    obtain ⟨k, rfl⟩ : ∃ q, k = q + 1 := ⟨k - 1, by omega⟩
    have hil : i < a.length := by omega
    have e5 : wrap64 ((i : Int) + 1) = ((i + 1 : Nat) : Int) := by rw [w64 (by omega) (by omega)]; omega
    have nx := ih k (i + 1) (by omega) (by omega)
    have hw : a.length ≤ 64 * V.length := by rw [hl]; unfold wordsOf; omega
    have e6 : bitAt V i = (rd a (i : Int) == 1) := by rw [hb i]; simp [rd, hil]
    simp only [trefoillaw25_DabitFinishes.l0]
    rw [if_pos (by omega), get_f a.length i V hV hil (by omega) hw, Option.bind_some, if_pos (by omega), e6, bne_self_eq_false, if_neg (by simp), e5]
    exact nx

theorem j1_f (k : Nat) (hk : 120000 ≤ k) (c0 c1 c2 c3 c4 : Int) (l : List S26) (p : List Int) (hn : l.length ≤ 1000) (V : List Int) (hV : Words64 V) (hl : V.length = wordsOf l.length)
    (hb : ∀ j, bitAt V j = ((ownOf l).map (· == 1)).getD j false) (s : List S26) (c : Int) (hs : s.length ≤ 1000) (hsh : Shorts s) :
    trefoillaw25_DabitFinishes.j1 k (ownOf l) s c s c ((l.length : Int) != ((ownOf l).length : Int)) (l.length : Int) V = some true := by
  obtain ⟨k, rfl⟩ : ∃ q, k = q + 1 := ⟨k - 1, by omega⟩
  simp only [trefoillaw25_DabitFinishes.j1]
  have := tail_f (ownOf l) s c V hV (by rw [ownOf_len]; exact hl) hb (by rw [ownOf_len]; exact hn) hs hsh (ownOf l).length k 0 (by omega) (by rw [ownOf_len]; omega)
  rw [ownOf_len] at this ⊢
  rw [bne_self_eq_false, if_neg (by simp)]
  exact this

/-- both come to the same where the shares are wrong -/
theorem j1_n (k : Nat) (hk : 120000 ≤ k) (s : List S26) (c : Int) (hs : s.length ≤ 1000) (hsh : Shorts s) :
    trefoillaw25_DabitFinishes.j1 k [] s c s c ((0 : Int) != (([] : List Int).length : Int)) 0 [] = some true := by
  obtain ⟨k, rfl⟩ : ∃ q, k = q + 1 := ⟨k - 1, by omega⟩
  simp only [trefoillaw25_DabitFinishes.j1]
  have := tail_f [] s c [] (fun x hx => by simp at hx) (by simp [wordsOf]) (by intro j; simp [bitAt, rd]) (by simp) hs hsh 0 k 0 (by simp) (by omega)
  rw [if_neg (by simp)]
  exact this

theorem u64s_own (l : List S26) (h : ∀ s ∈ l, U64s s.f0) : U64s (ownOf l) := by
  intro x hx
  unfold ownOf at hx
  rw [List.mem_map] at hx
  obtain ⟨s, hs, rfl⟩ := hx
  match hf : s.f0 with
  | [] => simp [rd]
  | y :: ys =>
    have := h s hs y (by rw [hf]; simp)
    simpa [rd] using this

theorem main_f (k : Nat) (hk : 130000 ≤ k) (c0 c1 c2 c3 c4 : Int) (l : List S26) (p : List Int) (hn : l.length ≤ 1000) (ha : U64s (ownOf l)) (hp : U64s p) :
    trefoillaw25_DabitFinishes.j0 k l p false c0 c1 c2 c3 c4 = some true := by
  obtain ⟨k, rfl⟩ : ∃ q, k = q + 1 := ⟨k - 1, by omega⟩
  obtain ⟨V, hc, hV, hl, hb⟩ := choices_f k (by omega) c0 c1 c2 c3 c4 l hn
  obtain ⟨s1, s2⟩ := fin_short c0 c1 c2 c3 c4 l p hn
  simp only [trefoillaw25_DabitFinishes.j0]
  rw [if_neg (by simp), hc, Option.bind_some]
  unfold dabit_Spread.f
  rw [own_f k (by omega) c0 c1 c2 c3 c4 l hn, own_r k (by omega) c0 c1 c2 c3 c4 l hn, Option.bind_some, Option.bind_some, Option.bind_some,
    finish_f k (by omega) c0 c1 c2 c3 c4 l p ha hp hn, finish_r k (by omega) c0 c1 c2 c3 c4 l p ha hp hn, Option.bind_some, Option.bind_some]
  unfold ownR
  by_cases h : dwrong c0 c1 c2 c3 c4 l = 0
  · rw [if_pos h, if_pos h]
    simp only
    rw [if_pos trivial, if_pos trivial, nums02_f (ownOf l) k (by rw [ownOf_len]; omega) (by rw [ownOf_len]; omega), Option.bind_some, if_pos rfl]
    unfold bits_Vec_Len.f
    rw [Option.bind_some]
    exact j1_f k (by omega) c0 c1 c2 c3 c4 l p hn V hV hl hb _ _ s1 s2
  · rw [if_neg h, if_neg h]
    simp only
    rw [if_pos trivial, if_pos trivial, nums02_f [] k (by simp) (by simp; omega), Option.bind_some, if_pos rfl]
    unfold bits_Vec_Len.f
    rw [Option.bind_some]
    exact j1_n k (by omega) _ _ s1 s2
end DabitFinishesL
open DabitRightsL DabitFinishesL

/-- The plain statement of DabitFinishes. -/
theorem DabitFinishes (x0 : S23) (x1 : List (S26)) (x2 : List (Int)) (w0 : wf23 x0) (w1 : x1.length ≤ maxLen ∧ ∀ y ∈ x1, wf26 y) (w2 : x2.length ≤ maxLen ∧ ∀ y ∈ x2, (Lit.int .u64 y).wf = true) :
    ∃ k, trefoillaw25_DabitFinishes.f k x0.f0 x0.f1 x0.f2 x0.f3 x0.f4 x1 x2 = some true := by
  refine ⟨130003, ?_⟩
  have hp := u64s_of w2
  have ha := u64s_own x1 (fun s hs => u64s_of (w1.2 s hs).1)
  have big : ∀ b : Bool, b = true → trefoillaw25_DabitFinishes.j0 130003 x1 x2 b x0.f0 x0.f1 x0.f2 x0.f3 x0.f4 = some true := by
    intro b hb
    obtain ⟨k, hk⟩ : ∃ q, 130003 = q + 1 := ⟨130002, rfl⟩
    rw [hk]; simp only [trefoillaw25_DabitFinishes.j0]
    rw [if_pos hb, awake_f k (by omega)]; rfl
  unfold trefoillaw25_DabitFinishes.f
  by_cases h1 : (x1.length : Int) > 40
  · rw [if_pos h1]; exact big _ rfl
  rw [if_neg h1]
  by_cases h2 : (x2.length : Int) > 60
  · exact big _ (decide_eq_true h2)
  · rw [decide_eq_false h2]
    exact main_f 130003 (by omega) _ _ _ _ _ x1 x2 (by omega) ha hp

end Go.Proofs.Ytcmaidpoolcelaa.Pure
