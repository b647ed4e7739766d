/- The tape: At, Left, Next, Skip, Numbers. -/
import Derived.Below
import Derived.Deep.Draws
import Derived.Maps.AppendAt
import Derived.OwnWalk
import Derived.Laws.BytesArg
import Derived.Laws.MakeOwn
import Derived.Laws.OwnMore
import Derived.Deep.OwnRows
import Derived.Tactics
import Derived.Lib.ConvBytes
import Derived.Laws.Slices
import Derived.WalkKit
import Derived.KernelRfl
import Derived.RowKit3
import Derived.Deep.LoopGhost
import Derived.Deep.QuietTactic
import Derived.WideLaws
import Derived.Deep.DeepCutAuto
import Derived.Deep.CutBlock
import Derived.Laws.Rows
import Derived.Lib.AppendStr
import Derived.ArgAppend
import Derived.Laws.IdiomCopy
import Derived.OrdersHeld
import Derived.Laws.BitsLemmas
import Derived.RowKit
import Derived.Test.YtdgngpcfikgoeaaDoorMdMine
import Derived.Test.YtdgngpcfikgoeaaDoorMdTap1
import Derived.Test.YtdgngpcfikgoeaaDoorMdWWords
import Derived.Test.YtdgngpcfikgoeaaDoorMdWMore
import Derived.Test.YtdgngpcfikgoeaaDoorMdWLast
import Derived.Lib.Hide
import Derived.IntWalk
import Derived.WalkSpells
import Derived.Outline
import Derived.BigQuiet
import Derived.Deep.RegionHeld3
import Derived.Deep.DrawnRows
import Derived.Deep.RegionLaw
import Derived.Deep.AppendLies
namespace Go.Proofs.YtdgngpcfikgoeaaDoor.P
open Go.RowKit Go.Extern.Stop Go.Stop Go.Extern Go.Proofs.YtdgngpcfikgoeaaDoorW.PrintWords Go.Proofs.YtdgngpcfikgoeaaDoorW.PrintLast Go.Proofs.YtdgngpcfikgoeaaDoorW.PrintMore
set_option linter.unusedVariables false
set_option linter.unusedSimpArgs false
attribute [local go_sem ↓] Go.wp_at_zero Go.wp_at_succ

/-! ### At, Left -/
theorem at_ok (w : World) (B g : Nat) (v : Value) (l : List Int) (a : Nat) (h : TAt w B g v l a) : Calls Tryd.prog 14 #[.pointer (some ⟨g, 0, none⟩)] w fun e w' => e = .returned (.int .i64 (a : Int)) ∧ w = w' := by
  obtain ⟨c0, c1, c2, -⟩ := tcells h
  clear h
  go_enter Tryd.func14, Tryd.ntmps14
  go_wp2
  go_ret
  exact ⟨rfl, rfl⟩
/-! ### Next -/
theorem one_of {B : Nat} {w : World} {u : Value} {x : Int} (hu : RU B w u [x]) : ∃ ad c, u = .slice (some ad) 1 c ∧ w.cell? ad = some (.int .u64 x) := by
  obtain ⟨A, cp, rfl, -, hC⟩ := hu.form
  obtain ⟨ad, rfl, x0⟩ := Kd.at_int hC 0 (by omega) (by simp)
  refine ⟨ad, cp, rfl, ?_⟩
  have h1 : ad.add (0 : Int).toNat = ad := by cases ad; unfold Addr.add; split <;> simp_all
  rw [h1] at x0
  exact x0
/-! ### Skip -/
end Go.Proofs.YtdgngpcfikgoeaaDoor.P
