/- Bits and Seed of a tape that refuses. -/
import Derived.Test.YtdgngpcfikgoeaaDoorMdTap6
import Derived.Laws.Tables
import Derived.Great.BuildSlice
namespace Go.Proofs.YtdgngpcfikgoeaaDoor.P
open Go.RowKit Go.Extern.Stop Go.Stop Go.Extern Go.Proofs.YtdgngpcfikgoeaaDoorW.PrintWords Go.Proofs.YtdgngpcfikgoeaaDoorW.PrintLast Go.Proofs.YtdgngpcfikgoeaaDoorW.PrintMore
set_option linter.unusedVariables false
set_option linter.unusedSimpArgs false
attribute [local go_sem ↓] Go.wp_at_zero Go.wp_at_succ

theorem Chg.row {S : Nat → Prop} {w w' : World} (h : Chg S w w') {g : Nat} (cs : Array Value) (hg : S g ∨ w.heap.size ≤ g) : Chg S w (w'.setRow g cs) :=
  ⟨h.os, h.tape, h.output, by simpa [World.setRow] using h.size, fun k hk hs => (setRow_other w' g k cs (fun e => by subst e; rcases hg with q | q; exact hs q; omega)).trans (h.block k hk hs)⟩
end Go.Proofs.YtdgngpcfikgoeaaDoor.P
