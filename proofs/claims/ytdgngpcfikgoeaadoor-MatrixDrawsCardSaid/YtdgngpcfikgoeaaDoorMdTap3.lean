/- The tape laws: the document's comparison of lists, and the chapter's example. -/
import Derived.Test.YtdgngpcfikgoeaaDoorMdTap2
import Derived.Lib.Hide
import Derived.IntWalk
import Derived.WalkSpells
import Derived.Outline
import Derived.BigQuiet
import Derived.Deep.RegionHeld3
import Derived.Deep.DrawnRows
import Derived.Deep.RegionLaw
import Derived.Deep.AppendLies
namespace Go.Proofs.YtdgngpcfikgoeaaDoor.P
open Go.RowKit Go.Extern.Stop Go.Stop Go.Extern Go.Proofs.YtdgngpcfikgoeaaDoorW.PrintWords Go.Proofs.YtdgngpcfikgoeaaDoorW.PrintLast Go.Proofs.YtdgngpcfikgoeaaDoorW.PrintMore
set_option linter.unusedVariables false
set_option linter.unusedSimpArgs false
attribute [local go_sem ↓] Go.wp_at_zero Go.wp_at_succ

/-! ### equal lists -/
theorem ew64 {x : Int} (h0 : -9223372036854775808 ≤ x) (h1 : x ≤ 9223372036854775807) : wrap64 x = x := by unfold wrap64; omega
/-! ### the chapter's example -/
theorem RU.C {B n c : Nat} {w : World} {A : Option Addr} {l : List Int} (h : RU B w (.slice A n c) l) : Kd.C (Kd.int .u64) w A l.length l ∧ l.length ≤ c := by
  obtain ⟨A', c', e, hc, hC⟩ := h.form
  injection e with e1 e2 e3
  subst e1 e3
  exact ⟨hC, hc⟩
/-- blocks of tapes are no faults -/
theorem ErrIs.tape {w w' : World} {g n : Nat} {cs : Array Value} {v : Value} {c : Int} (h : ErrIs n w v c) (hc : Chg (fun k => k = g) w w') (hg : w.heap[g]? = some (.cells cs 37 (0, 0))) : ErrIs n w' v c :=
  h.chg hc (fun k cs' q hk => by subst q; rw [hg] at hk; injection hk with hk; injection hk with _ hk; exact absurd hk (by decide))
end Go.Proofs.YtdgngpcfikgoeaaDoor.P
