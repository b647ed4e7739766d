/- Functions of the program as plain Lean functions, and proofs that the machine's calls do what these do: written by a program of this workplace (wip/tools/pp.py). -/
import Derived.Test.YtbednnnjahpmlaaProg
import Derived.Test.YtbednnnjahpmlaaCnMine
import Derived.Below
import Derived.Deep.Draws
import Derived.Deep.AppendLies
import Derived.Maps.AppendAt
import Derived.OwnWalk
import Derived.Laws.BytesArg
import Derived.Laws.MakeOwn
import Derived.Laws.OwnMore
import Derived.Deep.OwnRows
import Derived.Tactics
import Derived.Lib.ConvBytes
import Derived.Laws.Slices
import Derived.WalkKit
import Derived.KernelRfl
import Derived.RowKit3
import Derived.Deep.LoopGhost
import Derived.Deep.QuietTactic
import Derived.BigQuiet
import Derived.WideLaws
import Derived.Deep.DeepCutAuto
import Derived.Deep.CutBlock
import Derived.Deep.RegionHeld3
import Derived.Laws.Rows
import Derived.Lib.AppendStr
import Derived.ArgAppend
import Derived.Laws.IdiomCopy
import Derived.OrdersHeld
import Derived.Laws.BitsLemmas
import Derived.RowKit
import Derived.Test.YtbednnnjahpmlaaCnWWords
import Derived.Test.YtbednnnjahpmlaaCnWLast
import Derived.Test.YtbednnnjahpmlaaCnWApart
import Derived.Test.YtbednnnjahpmlaaCnWFoot
import Derived.Test.YtbednnnjahpmlaaCnWKept
import Derived.Test.YtbednnnjahpmlaaCnWShare
import Derived.Test.YtbednnnjahpmlaaCnWN
import Derived.Laws.StructEq
import Derived.Test.YtbednnnjahpmlaaCnWRepsOne
import Derived.Test.YtbednnnjahpmlaaCnWMore
namespace Go.Proofs.Ytbednnnjahpmlaa.P
open Go.RowKit Go.Proofs.YtbednnnjahpmlaaW.PrintWords Go.Proofs.YtbednnnjahpmlaaW.PrintLast Go.Proofs.YtbednnnjahpmlaaW.PrintMore
attribute [local go_sem] max2_int min2_int max_two min_two max_three min_three max_four min_four   -- for this text's walks alone
set_option linter.unusedVariables false
set_option linter.unusedSimpArgs false



def errW : Option Int → Value
  | none => .nilIface
  | some c => .iface 0 (.int .i64 c)
theorem errW_none : errW none = .nilIface := rfl
theorem errW_some (c : Int) : errW (some c) = .iface 0 (.int .i64 c) := rfl

theorem info3 : (Try.prog.info? 3).map (fun i => (i.zero, i.size, i.bytes)) = some (some (.int .i64 0), 1, 8) := by kernel_rfl
-- the values' own types
/-! #### struct type 43 -/
structure S43 where
  f0 : (List Int)
  f1 : (List Int)
  f2 : (List Int)
def z43 : S43 := ⟨([] : List Int), ([] : List Int), ([] : List Int)⟩
def k43 : Kd S43 := Kd.iso (Kd.pair (Kd.slice 52 (Kd.int .u64)) (Kd.pair (Kd.slice 52 (Kd.int .u64)) (Kd.slice 52 (Kd.int .u64)))) (fun x : S43 => (x.f0, x.f1, x.f2))
theorem k43_mkM (w : World) (base : Nat) (ok : Nat → Prop) (x : S43) {v0 : Value} (g0 : (Kd.int .u64).R 52 w base ok v0 x.f0) {v1 : Value} (g1 : (Kd.int .u64).R 52 w base ok v1 x.f1) {v2 : Value} (g2 : (Kd.int .u64).R 52 w base ok v2 x.f2) : k43.M w base ok x [v0, v1, v2] := ⟨[v0], [v1, v2], rfl, ⟨v0, rfl, g0⟩, ⟨[v1], [v2], rfl, ⟨v1, rfl, g1⟩, ⟨v2, rfl, g2⟩⟩⟩
/-! #### struct type 23 -/
structure S23 where
  f0 : Int
  f1 : Int
  f2 : Int
  f3 : Int
  f4 : Int
def k23 : Kd S23 := Kd.iso (Kd.pair (Kd.int .i64) (Kd.pair (Kd.int .i64) (Kd.pair (Kd.int .i64) (Kd.pair (Kd.int .i64) (Kd.int .i64))))) (fun x : S23 => (x.f0, x.f1, x.f2, x.f3, x.f4))
theorem k23_open {w : World} {x : S23} {cs : List Value} (h : k23.K w x cs) : cs = [.int .i64 x.f0, .int .i64 x.f1, .int .i64 x.f2, .int .i64 x.f3, .int .i64 x.f4] := by
  obtain ⟨_, _, rfl, rfl, ⟨_, _, rfl, rfl, ⟨_, _, rfl, rfl, ⟨_, _, rfl, rfl, rfl⟩⟩⟩⟩ := h
  exact rfl
end Go.Proofs.Ytbednnnjahpmlaa.P
