/- Bits shared twice: what the program and the document make of any shares is the same. -/
import Derived.Test.YtdgngpcfikgoeaaDoorPx6
import Derived.Test.YtdgngpcfikgoeaaDoorPx8
import Derived.Test.YtdgngpcfikgoeaaDoorLemShape
namespace Go.Proofs.YtdgngpcfikgoeaaDoor.Lem
open Go.RowKit Go.Proofs.YtdgngpcfikgoeaaDoor.P Go.Proofs.YtdgngpcfikgoeaaDoor.Num Go.Proofs.YtdgngpcfikgoeaaDoorW.PrintWords Go.Proofs.YtdgngpcfikgoeaaDoorW.PrintMore
set_option linter.unusedVariables false

def dchk (c0 c1 c2 c3 c4 n : Int) : Int := if chk c0 c1 c2 c3 c4 = 0 then (if c0 = 4 then (if n < 1 then 2 else if n > 24 then 2 else 0) else 15) else chk c0 c1 c2 c3 c4
theorem dcheck_f (k : Nat) (hk : 10 ≤ k) (c0 c1 c2 c3 c4 n : Int) : dabit_check.f k c0 c1 c2 c3 c4 n = some (dchk c0 c1 c2 c3 c4 n) := by
  unfold dabit_check.f dchk
  rw [check_f k hk, Option.bind_some]
  by_cases h : chk c0 c1 c2 c3 c4 = 0
  · rw [if_pos h, if_pos h]
    by_cases h4 : c0 = 4
    · rw [if_pos h4, if_pos h4]
      by_cases h1 : n < 1
      · rw [if_pos h1, if_pos h1]
      · rw [if_neg h1, if_neg h1]
        by_cases h2 : n > 24
        · rw [if_pos h2, if_pos h2]
        · rw [if_neg h2, if_neg h2]
    · rw [if_neg h4, if_neg h4]
  · rw [if_neg h, if_neg h]
theorem dcheck_r (k : Nat) (hk : 10 ≤ k) (c0 c1 c2 c3 c4 n : Int) : trefoilref25_Check.f k c0 c1 c2 c3 c4 n = some (dchk c0 c1 c2 c3 c4 n) := by
  unfold trefoilref25_Check.f dchk
  rw [check_r k hk, Option.bind_some, Option.bind_some]
  by_cases h : chk c0 c1 c2 c3 c4 = 0
  · rw [if_pos h, if_pos h]
    by_cases h4 : c0 = 4
    · rw [if_pos h4, if_pos h4]
      by_cases h1 : n < 1
      · rw [if_pos h1, if_pos h1]
      · rw [if_neg h1, if_neg h1]
        by_cases h2 : n > 24
        · rw [if_pos h2, if_pos h2]
        · rw [if_neg h2, if_neg h2]
    · rw [if_neg h4, if_neg h4]
  · rw [if_neg h, if_neg h]
theorem dchk_zero {c0 c1 c2 c3 c4 n : Int} (h : dchk c0 c1 c2 c3 c4 n = 0) : chk c0 c1 c2 c3 c4 = 0 ∧ c0 = 4 ∧ 1 ≤ n ∧ n ≤ 24 := by
  unfold dchk at h
  by_cases h1 : chk c0 c1 c2 c3 c4 = 0
  · rw [if_pos h1] at h
    by_cases h4 : c0 = 4
    · rw [if_pos h4] at h
      by_cases h2 : n < 1
      · rw [if_pos h2] at h; omega
      · rw [if_neg h2] at h
        by_cases h3 : n > 24
        · rw [if_pos h3] at h; omega
        · exact ⟨h1, h4, by omega, by omega⟩
    · rw [if_neg h4] at h; omega
  · rw [if_neg h1] at h; exact absurd h h1

end Go.Proofs.YtdgngpcfikgoeaaDoor.Lem
