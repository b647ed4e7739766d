/- StreamOrder: the plan, and the numbers of its chunks, in plain Lean. -/
import Derived.BigQuiet
import Derived.Deep.AppendLies
import Derived.Deep.DrawnRows
import Derived.Deep.RegionHeld3
import Derived.Deep.RegionLaw
import Derived.Deep.RegionWith
import Derived.IntWalk
import Derived.Lib.Hide
import Derived.Outline
import Derived.Test.YtojimoebbinhdaaTrPx0
import Derived.WalkSpells
import Derived.Test.YtojimoebbinhdaaTrK0
import Derived.Test.YtojimoebbinhdaaTrK5
namespace Go.Proofs.Ytojimoebbinhdaa.P
open Go.RowKit Go.Proofs.YtojimoebbinhdaaW.PrintWords Go.Proofs.YtojimoebbinhdaaW.PrintLast Go.Proofs.YtojimoebbinhdaaW.PrintMore
set_option linter.unusedVariables false
set_option linter.unusedSimpArgs false

/-! ### stream_plain: words -/
theorem w64b {x : Int} (h0 : -9223372036854775808 ≤ x) (h1 : x ≤ 9223372036854775807) : wrap64 x = x := by unfold wrap64; omega
theorem u64w {x : Int} (h0 : 0 ≤ x) (h1 : x < 18446744073709551616) : IntKind.u64.wrap x = x := by rw [IntKind.wrap_u64]; omega
def planF (x0 m : Int) : Nat → Int → List S32
  | 0, _ => []
  | k + 1, x => if x < m then ⟨x0 + x, mn 512 (m - x), x⟩ :: planF x0 m k (x + 512) else []
theorem planF_len (x0 m : Int) : ∀ k x, (planF x0 m k x).length ≤ k
  | 0, _ => by simp [planF]
  | k + 1, x => by
    unfold planF
    split
    · have := planF_len x0 m k (x + 512)
      simp; omega
    · simp
theorem plan_l0 (x0 m : Int) (h0 : 0 ≤ x0) (h1 : x0 ≤ 33554432) (hm : m ≤ 2000) (k : Nat) : ∀ (acc : List S32) (x : Int), 0 ≤ x → x ≤ 2600 → (acc.length : Int) * 512 ≤ x → (k : Int) * 512 + x > m + 511 → stream_Plan.l0 (k + 1) x0 m acc x = some (acc ++ planF x0 m (k + 1) x, 0) := by
  induction k with
  | zero =>
    intro acc x hx0 hx ha h
    have hlt : ¬ x < m := by omega
    unfold stream_Plan.l0 planF
    rw [if_neg hlt, if_neg hlt, List.append_nil]
  | succ k ih =>
    intro acc x hx0 hx ha h
    unfold stream_Plan.l0 planF
    by_cases hlt : x < m
    · rw [if_pos hlt, if_pos (by omega), if_pos hlt, u64w (x := x) (by omega) (by omega), u64w (by omega) (by omega), w64b (x := m - x) (by omega) (by omega), w64b (by omega) (by omega)]
      rw [ih _ (x + 512) (by omega) (by omega) (by rw [List.length_append, List.length_singleton]; omega) (by omega), List.append_assoc]
      rfl
    · rw [if_neg hlt, if_neg hlt, List.append_nil]
/-- the plan of m transfers -/
def planOf (x0 m : Int) : List S32 := planF x0 m 6 0
theorem plan_f (x0 m : Int) (h0 : 0 ≤ x0) (h1 : x0 ≤ 33554432) (hm0 : 0 ≤ m) (hm : m ≤ 2000) : stream_Plan.f 7 x0 m = some (planOf x0 m, 0) := by
  unfold stream_Plan.f
  rw [if_neg (by omega), decide_eq_false (by omega : ¬ m > 4096)]
  show (if false = true then some ([], 2) else if x0 > IntKind.u64.wrap (67108864 - IntKind.u64.wrap m) then some ([], 24) else stream_Plan.l0 6 x0 m [] 0) = some (planOf x0 m, 0)
  rw [if_neg (by simp), u64w (x := m) (by omega) (by omega), u64w (by omega) (by omega), if_neg (by omega)]
  exact plan_l0 x0 m h0 h1 hm 5 [] 0 (by omega) (by omega) (by simp) (by omega)
/-- chunks one behind the other from s on -/
def Chain : Int → List S32 → Prop
  | _, [] => True
  | s, c :: l => c.f2 = s ∧ 1 ≤ c.f1 ∧ c.f1 ≤ 512 ∧ Chain (s + c.f1) l
theorem planF_chain (x0 m : Int) (k : Nat) : ∀ x, Chain x (planF x0 m k x) ∧ (x ≤ m → m - x ≤ k * 512 → sumC (planF x0 m k x) = m - x) := by
  induction k with
  | zero => exact fun x => ⟨trivial, fun h1 h2 => by simp [planF, sumC]; omega⟩
  | succ k ih =>
    intro x
    unfold planF
    by_cases hlt : x < m
    · rw [if_pos hlt]
      obtain ⟨h1, h2⟩ := ih (x + 512)
      by_cases hb : 512 ≤ m - x
      · have hm : mn 512 (m - x) = 512 := by unfold mn; split <;> omega
        rw [hm]
        refine ⟨⟨rfl, by show (1 : Int) ≤ 512; omega, by show (512 : Int) ≤ 512; omega, h1⟩, fun _ h4 => ?_⟩
        rw [sumC, h2 (by omega) (by omega)]
        show (512 : Int) + _ = _
        omega
      · have hm : mn 512 (m - x) = m - x := by unfold mn; split <;> omega
        have he : planF x0 m k (x + 512) = [] := by
          cases k with
          | zero => rfl
          | succ k => unfold planF; rw [if_neg (by omega)]
        rw [hm, he]
        refine ⟨⟨rfl, by show 1 ≤ m - x; omega, by show m - x ≤ 512; omega, trivial⟩, fun _ _ => ?_⟩
        show m - x + 0 = m - x
        omega
    · rw [if_neg hlt]
      exact ⟨trivial, fun h1 h2 => by simp [sumC]; omega⟩
theorem chain_sum : ∀ (l : List S32) (s : Int), Chain s l → ∀ i, i ≤ l.length → 0 ≤ sumC (l.take i) ∧ sumC (l.take i) ≤ sumC l ∧ (i < l.length → 1 ≤ (l.getD i z32).f1 ∧ (l.getD i z32).f1 ≤ 512 ∧ (l.getD i z32).f2 = s + sumC (l.take i))
  | [], s, _, i, hi => by
    have : i = 0 := by simpa using hi
    subst this
    simp [sumC]
  | c :: l, s, h, i, hi => by
    obtain ⟨h1, h2, h3, h4⟩ := h
    cases i with
    | zero =>
      have h5 := chain_sum l (s + c.f1) h4 0 (by omega)
      simp only [List.take_zero, sumC] at h5 ⊢
      exact ⟨by omega, by omega, fun _ => ⟨h2, h3, by simp [h1]⟩⟩
    | succ i =>
      obtain ⟨a1, a2, a3⟩ := chain_sum l (s + c.f1) h4 i (by simpa using hi)
      simp only [List.take_succ_cons, sumC, List.length_cons, List.getD_cons_succ]
      refine ⟨by omega, by omega, fun hlt => ?_⟩
      obtain ⟨b1, b2, b3⟩ := a3 (by omega)
      exact ⟨b1, b2, by rw [b3]; omega⟩
theorem plan_ok (x0 m : Int) (hm0 : 0 ≤ m) (hm : m ≤ 2000) : OkPlan (planOf x0 m) ∧ sumC (planOf x0 m) = m ∧ (planOf x0 m).length ≤ 6 := by
  obtain ⟨h1, h2⟩ := planF_chain x0 m 6 0
  have h3 : sumC (planOf x0 m) = m := by have := h2 hm0 (by omega); unfold planOf; omega
  have h4 := chain_sum _ _ h1
  refine ⟨⟨fun i hi => ?_, fun i hi => ?_, by have := planF_len x0 m 6 0; unfold planOf; omega⟩, h3, planF_len x0 m 6 0⟩
  · obtain ⟨b1, b2, b3⟩ := (h4 i (by unfold planOf at hi; omega)).2.2 hi
    exact ⟨b1, b2, by have := b3; unfold planOf; omega⟩
  · obtain ⟨a1, a2, -⟩ := h4 i hi
    unfold planOf at h3 ⊢
    omega
theorem part_l0 (l : List Int) (hl : 0 < l.length) (hl2 : l.length ≤ 600) (f0 f1 f2 : Int) (h1 : f1 ≤ 512) (h2 : 0 ≤ f2) (h3 : f2 ≤ 4096) (k : Nat) : ∀ (acc : List Int) (i : Nat), acc.length = i → (i : Int) ≤ f1 → f1 - i < k → ∃ r, trefoillaw20_part.l0 k l acc i f0 f1 f2 = some r ∧ (r.length : Int) = f1 := by
  induction k with
  | zero => intro acc i h4 h5 h6; omega
  | succ k ih =>
    intro acc i h4 h5 h6
    unfold trefoillaw20_part.l0
    by_cases hlt : (i : Int) < f1
    · have e := w64b (x := f2 + i) (by omega) (by omega)
      have p0 : 0 ≤ Int.tmod (f2 + i) (l.length : Int) := Int.tmod_nonneg _ (by omega)
      have p1 : Int.tmod (f2 + i) (l.length : Int) < (l.length : Int) := Int.tmod_lt_of_pos _ (by omega)
      rw [if_pos hlt, if_pos (by omega), if_neg (by omega), e, if_pos p0, if_pos p1, if_pos (by omega), w64b (by omega) (by omega), show (i : Int) + 1 = ((i + 1 : Nat) : Int) by omega]
      exact ih _ (i + 1) (by simp [h4]) (by omega) (by omega)
    · rw [if_neg hlt]
      exact ⟨acc, rfl, by omega⟩
noncomputable def partOf (l : List Int) (c : S32) : List Int := (trefoillaw20_part.f 600 c.f0 c.f1 c.f2 l).getD []
theorem part_f (l : List Int) (hl : 0 < l.length) (hl2 : l.length ≤ 600) (c : S32) (h0 : 0 ≤ c.f1) (h1 : c.f1 ≤ 512) (h2 : 0 ≤ c.f2) (h3 : c.f2 ≤ 4096) : trefoillaw20_part.f 600 c.f0 c.f1 c.f2 l = some (partOf l c) ∧ ((partOf l c).length : Int) = c.f1 := by
  obtain ⟨r, hr, hrl⟩ := part_l0 l hl hl2 c.f0 c.f1 c.f2 h1 h2 h3 600 [] 0 rfl (by omega) (by omega)
  have e : trefoillaw20_part.f 600 c.f0 c.f1 c.f2 l = some r := hr
  have e2 : partOf l c = r := by unfold partOf; rw [e]; rfl
  rw [e2]
  exact ⟨e, hrl⟩
theorem numsB_l0 (xs : List Int) (hl : xs.length ≤ 9000000000000000000) : ∀ (k : Nat) (i : Nat), i ≤ xs.length → xs.length - i < k → trefoilref02_Nums.l0 k xs xs i = some true
  | 0, i, _, h => by omega
  | k + 1, i, hi, h => by
    unfold trefoilref02_Nums.l0
    by_cases hlt : i < xs.length
    · rw [if_pos (by omega), if_pos (by omega), if_pos (by omega), if_pos rfl, w64b (by omega) (by omega), show ((i : Int) + 1) = ((i + 1 : Nat) : Int) by omega]
      exact numsB_l0 xs hl k (i + 1) (by omega) (by omega)
    · rw [if_neg (by omega)]
theorem numsB_same (xs : List Int) (hl : xs.length ≤ 9000000000000000000) : trefoilref02_Nums.f (xs.length + 1) xs xs = some true := by
  unfold trefoilref02_Nums.f
  rw [if_pos rfl]
  exact numsB_l0 xs hl _ 0 (by omega) (by omega)
theorem flat_sum (l : List Int) (hl : 0 < l.length) (hl2 : l.length ≤ 600) : ∀ (P : List S32), (∀ c ∈ P, 0 ≤ c.f1 ∧ c.f1 ≤ 512 ∧ 0 ≤ c.f2 ∧ c.f2 ≤ 4096) → (((P.map (partOf l)).flatten.length : Nat) : Int) = sumC P
  | [], _ => rfl
  | c :: P, h => by
    obtain ⟨h0, h1, h2, h3⟩ := h c List.mem_cons_self
    have ih := flat_sum l hl hl2 P (fun d hd => h d (List.mem_cons_of_mem _ hd))
    have hp := (part_f l hl hl2 c h0 h1 h2 h3).2
    rw [List.map_cons, List.flatten_cons, List.length_append, sumC, ← ih, ← hp]
    omega
end Go.Proofs.Ytojimoebbinhdaa.P
