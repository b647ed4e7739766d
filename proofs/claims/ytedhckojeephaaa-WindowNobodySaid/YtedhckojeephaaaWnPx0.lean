/- Functions of the program as plain Lean functions, and proofs that the machine's calls do what these do: written by a program of this workplace (wip/tools/pp.py). -/
import Derived.Test.YtedhckojeephaaaProg
import Derived.Test.YtedhckojeephaaaWnMine
import Derived.Below
import Derived.Deep.Draws
import Derived.Deep.AppendLies
import Derived.Maps.AppendAt
import Derived.OwnWalk
import Derived.Laws.BytesArg
import Derived.Laws.MakeOwn
import Derived.Laws.OwnMore
import Derived.Deep.OwnRows
import Derived.Tactics
import Derived.Lib.ConvBytes
import Derived.Laws.Slices
import Derived.WalkKit
import Derived.KernelRfl
import Derived.RowKit3
import Derived.Deep.LoopGhost
import Derived.Deep.QuietTactic
import Derived.BigQuiet
import Derived.WideLaws
import Derived.Deep.DeepCutAuto
import Derived.Deep.CutBlock
import Derived.Deep.RegionHeld3
import Derived.Laws.Rows
import Derived.Lib.AppendStr
import Derived.ArgAppend
import Derived.Laws.IdiomCopy
import Derived.OrdersHeld
import Derived.Laws.BitsLemmas
import Derived.RowKit
import Derived.Test.YtedhckojeephaaaWnWWords
import Derived.Test.YtedhckojeephaaaWnWLast
import Derived.Test.YtedhckojeephaaaWnWTab
import Derived.Test.YtedhckojeephaaaWnWFour
import Derived.Test.YtedhckojeephaaaWnWQPut
import Derived.Test.YtedhckojeephaaaWnWApart
import Derived.Test.YtedhckojeephaaaWnWArr
import Derived.Test.YtedhckojeephaaaWnWZeros
import Derived.Test.YtedhckojeephaaaWnWFoot
import Derived.Test.YtedhckojeephaaaWnWKept
import Derived.Test.YtedhckojeephaaaWnWShare
import Derived.Test.YtedhckojeephaaaWnWN
import Derived.Test.YtedhckojeephaaaWnWFootNe
import Derived.Test.YtedhckojeephaaaWnWAt
import Derived.Test.YtedhckojeephaaaWnWEqStruct
import Derived.Test.YtedhckojeephaaaWnWRepsOne
import Derived.Test.YtedhckojeephaaaWnWInv
import Derived.Test.YtedhckojeephaaaWnWInvWords
import Derived.Test.YtedhckojeephaaaWnWGuard
import Derived.Test.YtedhckojeephaaaWnWNEv
import Derived.Test.YtedhckojeephaaaWnWMore
namespace Go.Proofs.Ytedhckojeephaaa.P
open Go.RowKit Go.Proofs.YtedhckojeephaaaW.PrintWords Go.Proofs.YtedhckojeephaaaW.PrintLast Go.Proofs.YtedhckojeephaaaW.PrintMore
attribute [local go_sem] max2_int min2_int max_two min_two max_three min_three max_four min_four   -- for this text's walks alone
set_option linter.unusedVariables false
set_option linter.unusedSimpArgs false



theorem info9 : (Try.prog.info? 9).map (fun i => (i.zero, i.size, i.bytes)) = some (some (.string ⟨#[]⟩), 1, 16) := by kernel_rfl
-- the values' own types
/-! #### struct type 96 -/
structure S96 where
  f0 : Int
  f1 : ByteArray
/-! #### struct type 57 -/
structure S57 where
  f0 : Int
  f1 : ByteArray
/-! #### struct type 31 -/
structure S31 where
  f0 : Int
  f1 : Int
  f2 : ByteArray
/-! #### struct type 67 -/
structure S67 where
  f0 : Int
  f1 : Int
  f2 : Int
  f3 : Int
  f4 : ByteArray
  f5 : Int
end Go.Proofs.Ytedhckojeephaaa.P
