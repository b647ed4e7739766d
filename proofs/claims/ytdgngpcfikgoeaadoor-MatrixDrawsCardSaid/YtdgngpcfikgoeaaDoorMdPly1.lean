/- Every call of a tape in one contract each: the program's and the document's. -/
import Derived.Test.YtdgngpcfikgoeaaDoorMdTap7
namespace Go.Proofs.YtdgngpcfikgoeaaDoor.P
open Go.RowKit Go.Extern.Stop Go.Stop Go.Extern Go.Proofs.YtdgngpcfikgoeaaDoorW.PrintWords Go.Proofs.YtdgngpcfikgoeaaDoorW.PrintLast Go.Proofs.YtdgngpcfikgoeaaDoorW.PrintMore
set_option linter.unusedVariables false
set_option linter.unusedSimpArgs false
attribute [local go_sem ↓] Go.wp_at_zero Go.wp_at_succ

/-- an error value and its number -/
def ErrW (w : World) (v : Value) (c : Int) : Prop := (v = .nilIface ∧ c = 0) ∨ ∃ n, ErrIs n w v c
theorem ErrW.below {w w' : World} {v : Value} {c : Int} (h : ErrW w v c) (hb : Below w.heap.size w w') : ErrW w' v c := by
  rcases h with h | ⟨n, h⟩
  · exact .inl h
  · exact .inr ⟨n, h.below hb⟩
theorem ErrW.chg {S : Nat → Prop} {w w' : World} {v : Value} {c : Int} (h : ErrW w v c) (hc : Chg S w w') (hS : ∀ k cs, S k → w.heap[k]? ≠ some (.cells cs 95 (0, 0))) : ErrW w' v c := by
  rcases h with h | ⟨n, h⟩
  · exact .inl h
  · exact .inr ⟨n, h.chg hc hS⟩
/-- what a call on the program's tape leaves -/
structure Left (w w' : World) (B g : Nat) (v : Value) (l : List Int) (a' : Nat) (ev : Value) (E : Int) : Prop where
  err : ErrW w' ev E
  tape : TAt w' B g v l a'
  chg : Chg (fun k => k = g) w w'
end Go.Proofs.YtdgngpcfikgoeaaDoor.P
