/- Classes and shares: the program's checks and the document's come to the same. -/
import Derived.Test.YtieaealkdjnolaaPaK0
import Derived.Test.YtieaealkdjnolaaPaK1
namespace Go.Proofs.Ytieaealkdjnolaa.Lem
open Go.RowKit Go.Proofs.Ytieaealkdjnolaa.P Go.Proofs.YtieaealkdjnolaaW.PrintWords Go.Proofs.YtieaealkdjnolaaW.PrintMore
set_option linter.unusedVariables false

/-- what a class's check tells -/
def chk (c0 c1 c2 c3 c4 : Int) : Int :=
  if c0 < 1 ∨ 4 < c0 then 15 else if c1 < 1 ∨ 64 < c1 ∨ (c0 = 3 ∧ c1 ≠ 1) then 11
  else if c0 = 2 then (if 1 ≤ c2 ∧ c2 ≤ 6 ∧ 1 ≤ c3 ∧ c3 ≤ 6 ∧ 1 ≤ c4 ∧ c4 ≤ 6 then 0 else 11) else if c2 = 0 ∧ c3 = 0 ∧ c4 = 0 then 0 else 11

theorem side_f (a : Int) : shape_side.f a = some (decide (1 ≤ a ∧ a ≤ 6)) := by
  unfold shape_side.f
  by_cases h : a ≥ 1
  · rw [if_pos h]; congr 1; apply decide_eq_decide.2; omega
  · rw [if_neg h]; congr 1; symm; apply decide_eq_false; omega

theorem check_j2 (k : Nat) (b : Bool) (c0 c1 c2 c3 c4 : Int) : shape_Check.j2 (k + 2) b c0 c1 c2 c3 c4 = some (if b = true ∧ 1 ≤ c1 ∧ c1 ≤ 64 then 0 else 11) := by
  simp only [shape_Check.j2]
  cases b with
  | false => simp [shape_Check.j3]
  | true =>
    rw [if_pos rfl]
    by_cases h : c1 < 1
    · rw [if_pos h]; simp only [shape_Check.j3]; rw [if_pos trivial, if_neg (by omega)]
    · rw [if_neg h]; simp only [shape_Check.j3]
      by_cases h2 : c1 > 64
      · rw [if_pos (by simpa using h2), if_neg (by omega)]
      · rw [if_neg (by simpa using h2), if_pos ⟨trivial, by omega, by omega⟩]

theorem check_f (k : Nat) (hk : 10 ≤ k) (c0 c1 c2 c3 c4 : Int) : shape_Check.f k c0 c1 c2 c3 c4 = some (chk c0 c1 c2 c3 c4) := by
  obtain ⟨k, rfl⟩ : ∃ q, k = q + 2 + 1 + 1 := ⟨k - 4, by omega⟩
  have main : ∀ b : Bool, (b = decide (c2 = 0 ∧ c3 = 0 ∧ c4 = 0)) → shape_Check.j0 (k + 2 + 1 + 1) b c0 c1 c2 c3 c4 = some (chk c0 c1 c2 c3 c4) := by
    intro b hb
    simp only [shape_Check.j0]
    by_cases h2 : c0 = 2
    · rw [if_pos h2]
      simp only [side_f, Option.bind_some]
      have key : ∀ t : Bool, (t = decide (1 ≤ c2 ∧ c2 ≤ 6 ∧ 1 ≤ c3 ∧ c3 ≤ 6 ∧ 1 ≤ c4 ∧ c4 ≤ 6)) → shape_Check.j2 (k + 2 + 1) t c0 c1 c2 c3 c4 = some (chk c0 c1 c2 c3 c4) := by
        intro t ht
        rw [show k + 2 + 1 = (k + 1) + 2 from by omega, check_j2]
        subst ht
        congr 1
        unfold chk
        simp only [decide_eq_true_eq]
        rw [if_neg (show ¬ (c0 < 1 ∨ 4 < c0) by omega), if_pos h2]
        by_cases hb : c1 < 1 ∨ 64 < c1 ∨ (c0 = 3 ∧ c1 ≠ 1)
        · rw [if_pos hb, if_neg (by omega)]
        · rw [if_neg hb]
          by_cases hd : 1 ≤ c2 ∧ c2 ≤ 6 ∧ 1 ≤ c3 ∧ c3 ≤ 6 ∧ 1 ≤ c4 ∧ c4 ≤ 6
          · rw [if_pos hd, if_pos ⟨hd, by omega, by omega⟩]
          · rw [if_neg hd, if_neg (fun h => hd h.1)]
      simp only [decide_eq_true_eq]
      by_cases ha : 1 ≤ c2 ∧ c2 ≤ 6
      · rw [if_pos ha]
        by_cases hc : 1 ≤ c3 ∧ c3 ≤ 6
        · rw [if_pos hc]
          exact key _ (decide_eq_decide.2 (by omega))
        · rw [if_neg hc]
          exact key _ (decide_eq_false (by omega)).symm
      · rw [if_neg ha]
        exact key _ (decide_eq_false (by omega)).symm
    · rw [if_neg h2]
      have key : ∀ t : Bool, (t = decide (c0 = 1 ∨ c0 = 4)) → shape_Check.j1 (k + 2 + 1) b c0 t c0 c1 c2 c3 c4 = some (chk c0 c1 c2 c3 c4) := by
        intro t ht
        simp only [shape_Check.j1]
        subst ht
        simp only [decide_eq_true_eq]
        unfold chk
        by_cases h14 : c0 = 1 ∨ c0 = 4
        · rw [if_pos h14, check_j2]
          rw [if_neg (show ¬ (c0 < 1 ∨ 4 < c0) by omega), if_neg h2]
          congr 1
          subst hb
          simp only [decide_eq_true_eq]
          by_cases hb : c1 < 1 ∨ 64 < c1 ∨ (c0 = 3 ∧ c1 ≠ 1)
          · rw [if_pos hb, if_neg (by omega)]
          · rw [if_neg hb]
            by_cases hd : c2 = 0 ∧ c3 = 0 ∧ c4 = 0
            · rw [if_pos hd, if_pos ⟨hd, by omega, by omega⟩]
            · rw [if_neg hd, if_neg (fun h => hd h.1)]
        · rw [if_neg h14]
          by_cases h3 : c0 = 3
          · rw [if_pos h3, if_neg (show ¬ (c0 < 1 ∨ 4 < c0) by omega), if_neg h2]
            subst hb
            simp only [decide_eq_true_eq]
            by_cases hd : c2 = 0 ∧ c3 = 0 ∧ c4 = 0
            · rw [if_pos hd]
              by_cases hc : c1 = 1
              · rw [if_pos hc, if_neg (by omega), if_pos hd]
              · rw [if_neg hc, if_pos (by omega)]
            · rw [if_neg hd]
              by_cases hc : c1 < 1 ∨ 64 < c1 ∨ (c0 = 3 ∧ c1 ≠ 1)
              · rw [if_pos hc]
              · rw [if_neg hc, if_neg hd]
          · rw [if_neg h3, if_pos (show c0 < 1 ∨ 4 < c0 by omega)]
      by_cases h1 : c0 = 1
      · rw [if_pos h1]
        exact key _ (by rw [beq_iff_eq.2 h1]; exact (decide_eq_true (Or.inl h1)).symm)
      · rw [if_neg h1]
        refine key _ ?_
        rw [Bool.eq_iff_iff]; simp [h1]
  unfold shape_Check.f
  by_cases ha : c2 = 0
  · rw [if_pos ha]
    by_cases hc : c3 = 0
    · rw [if_pos hc]
      refine main _ ?_
      rw [Bool.eq_iff_iff]; simp [ha, hc]
    · rw [if_neg hc]; exact main _ (decide_eq_false (by omega)).symm
  · rw [if_neg ha]; exact main _ (decide_eq_false (by omega)).symm

end Go.Proofs.Ytieaealkdjnolaa.Lem
