/- Functions of the program as plain Lean functions, and proofs that the machine's calls do what these do: written by a program of this workplace (wip/tools/pp.py). -/
import Derived.Test.YtedhckojeephaaaProg
import Derived.Test.YtedhckojeephaaaNnMine
import Derived.Below
import Derived.Deep.Draws
import Derived.Deep.AppendLies
import Derived.Maps.AppendAt
import Derived.OwnWalk
import Derived.Laws.BytesArg
import Derived.Laws.MakeOwn
import Derived.Laws.OwnMore
import Derived.Deep.OwnRows
import Derived.Tactics
import Derived.Lib.ConvBytes
import Derived.Laws.Slices
import Derived.WalkKit
import Derived.KernelRfl
import Derived.RowKit3
import Derived.Deep.LoopGhost
import Derived.Deep.QuietTactic
import Derived.BigQuiet
import Derived.WideLaws
import Derived.Deep.DeepCutAuto
import Derived.Deep.CutBlock
import Derived.Deep.RegionHeld3
import Derived.Laws.Rows
import Derived.Lib.AppendStr
import Derived.ArgAppend
import Derived.Laws.IdiomCopy
import Derived.OrdersHeld
import Derived.Laws.BitsLemmas
import Derived.RowKit
import Derived.Test.YtedhckojeephaaaNnWWords
import Derived.Test.YtedhckojeephaaaNnWLast
import Derived.Test.YtedhckojeephaaaNnWTab
import Derived.Test.YtedhckojeephaaaNnWFour
import Derived.Test.YtedhckojeephaaaNnWQPut
import Derived.Test.YtedhckojeephaaaNnWApart
import Derived.Test.YtedhckojeephaaaNnWArr
import Derived.Test.YtedhckojeephaaaNnWZeros
import Derived.Test.YtedhckojeephaaaNnWFoot
import Derived.Test.YtedhckojeephaaaNnWKept
import Derived.Test.YtedhckojeephaaaNnWShare
import Derived.Test.YtedhckojeephaaaNnWN
import Derived.Test.YtedhckojeephaaaNnWFootNe
import Derived.Test.YtedhckojeephaaaNnWAt
import Derived.Test.YtedhckojeephaaaNnWEqStruct
import Derived.Test.YtedhckojeephaaaNnWRepsOne
import Derived.Test.YtedhckojeephaaaNnWInv
import Derived.Test.YtedhckojeephaaaNnWInvWords
import Derived.Test.YtedhckojeephaaaNnWGuard
import Derived.Test.YtedhckojeephaaaNnWNEv
import Derived.Test.YtedhckojeephaaaNnWMore
namespace Go.Proofs.Ytedhckojeephaaa.P
open Go.RowKit Go.Proofs.YtedhckojeephaaaW.PrintWords Go.Proofs.YtedhckojeephaaaW.PrintLast Go.Proofs.YtedhckojeephaaaW.PrintMore
attribute [local go_sem] max2_int min2_int max_two min_two max_three min_three max_four min_four   -- for this text's walks alone
set_option linter.unusedVariables false
set_option linter.unusedSimpArgs false



theorem info9 : (Try.prog.info? 9).map (fun i => (i.zero, i.size, i.bytes)) = some (some (.string ⟨#[]⟩), 1, 16) := by kernel_rfl
-- the values' own types
/-! #### struct type 96 -/
structure S96 where
  f0 : Int
  f1 : ByteArray
/-! #### struct type 57 -/
structure S57 where
  f0 : Int
  f1 : ByteArray
/-! #### struct type 31 -/
structure S31 where
  f0 : Int
  f1 : Int
  f2 : ByteArray
/-! #### struct type 67 -/
structure S67 where
  f0 : Int
  f1 : Int
  f2 : Int
  f3 : Int
  f4 : ByteArray
  f5 : Int
def k67 : Kd S67 := Kd.iso (Kd.pair (Kd.int .i64) (Kd.pair (Kd.int .i64) (Kd.pair (Kd.int .i64) (Kd.pair (Kd.int .i64) (Kd.pair Kd.string (Kd.int .u8)))))) (fun x : S67 => (x.f0, x.f1, x.f2, x.f3, x.f4, x.f5))
theorem k67_open {w : World} {x : S67} {cs : List Value} (h : k67.K w x cs) : cs = [.int .i64 x.f0, .int .i64 x.f1, .int .i64 x.f2, .int .i64 x.f3, .string x.f4, .int .u8 x.f5] := by
  obtain ⟨_, _, rfl, rfl, ⟨_, _, rfl, rfl, ⟨_, _, rfl, rfl, ⟨_, _, rfl, rfl, ⟨_, _, rfl, rfl, rfl⟩⟩⟩⟩⟩ := h
  exact rfl
end Go.Proofs.Ytedhckojeephaaa.P
