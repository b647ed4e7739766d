/-
  No cell of these rows narrows 'for every input' (looked for: loops, veiled, ifaces, maps, wideKeys, modest, calm, conditions, laid).
  DERIVED. THE GIVEN ROWS OF THIS SEAT. 11 by the template 'for every input the law returns true; each argument reads behind the call as it read before'; 0 by the template 'total and deterministic' (their statements: YtcmaidpoolcelaaTotals.lean).
  GIVEN WITH THE SEED: the statements are not yours to turn. If you find one false, say at which input.
  Laid BY PROGRAM, IN A SANDBOX (cutbox-rows.mjs): the forced cells as the released guide's own fill.sh prints them over the translation c52984825d466a87… (all of the seat's roots in one cut). By AI agents, Wed Nov 11 2026. No macro, syntax, notation, axiom, sorry.
-/
import Derived.Test.YtcmaidpoolcelaaChecked
import GoSem.Claim
import GoSem.ClaimJoined
import GoSem.ClaimMapViews
import Derived.JoinedTies
import Derived.KernelRfl
namespace Go.Proofs.Ytcmaidpoolcelaa
/- THE CELL 'sum', in the pinned program and in every row, IS THE sha256 OF THE DUMP (.gsa) THAT YtcmaidpoolcelaaProg.lean LOADS. Nothing in Lean hashes anything: it is a label: what it is worth is what the hold of that sum in a sandbox is worth. -/
noncomputable def Try.pinned : Pinned := { name := "ytcmaidpoolcelaa", sum := "c52984825d466a87c7c8a190ae5ff65359dee4129ac0ac2414558c19bf5f2736", checked := Try.checked }
namespace Rows
def none {H : Type} : Left H := { results := [], args := [] }

/-- 'trefoillaw25.DabitRights': WHATEVER THE INPUT: true; the input reads as it did. -/
def dabitRightsSpec : ChangeSpec := { name := "dabitRights", fn := fun _ => fun
  | [d1, d2, d3] => { results := [.lit (.bool true)], args := [d1, d2, d3] }
  | _ => none }
def dabitRightsRow : OpenClaim := { program := "ytcmaidpoolcelaa", sum := "c52984825d466a87c7c8a190ae5ff65359dee4129ac0ac2414558c19bf5f2736", func := "trefoil/trefoillaw25.DabitRights", spec := "dabitRights", apart := false }
def DabitRightsSaid : Prop := dabitRightsRow.holds Try.pinned (OpenSpec.ofChange dabitRightsSpec)

/-- ITS FALSE NEIGHBOUR: 'it returns false'. Refute it at one input. -/
def dabitRightsWrong : ChangeSpec := { name := "dabitRights", fn := fun _ => fun
  | [d1, d2, d3] => { results := [.lit (.bool false)], args := [d1, d2, d3] }
  | _ => none }
def DabitRightsWrongFalsely : Prop := dabitRightsRow.holds Try.pinned (OpenSpec.ofChange dabitRightsWrong)

/-- 'trefoillaw22.ScalarRights': WHATEVER THE INPUT: true; the input reads as it did. -/
def scalarRightsSpec : ChangeSpec := { name := "scalarRights", fn := fun _ => fun
  | [d1, d2, d3] => { results := [.lit (.bool true)], args := [d1, d2, d3] }
  | _ => none }
def scalarRightsRow : OpenClaim := { program := "ytcmaidpoolcelaa", sum := "c52984825d466a87c7c8a190ae5ff65359dee4129ac0ac2414558c19bf5f2736", func := "trefoil/trefoillaw22.ScalarRights", spec := "scalarRights", apart := false }
def ScalarRightsSaid : Prop := scalarRightsRow.holds Try.pinned (OpenSpec.ofChange scalarRightsSpec)

/-- ITS FALSE NEIGHBOUR: 'it returns false'. Refute it at one input. -/
def scalarRightsWrong : ChangeSpec := { name := "scalarRights", fn := fun _ => fun
  | [d1, d2, d3] => { results := [.lit (.bool false)], args := [d1, d2, d3] }
  | _ => none }
def ScalarRightsWrongFalsely : Prop := scalarRightsRow.holds Try.pinned (OpenSpec.ofChange scalarRightsWrong)

/-- 'trefoillaw23.MatrixRights': WHATEVER THE INPUT: true; the input reads as it did. -/
def matrixRightsSpec : ChangeSpec := { name := "matrixRights", fn := fun _ => fun
  | [d1, d2, d3] => { results := [.lit (.bool true)], args := [d1, d2, d3] }
  | _ => none }
def matrixRightsRow : OpenClaim := { program := "ytcmaidpoolcelaa", sum := "c52984825d466a87c7c8a190ae5ff65359dee4129ac0ac2414558c19bf5f2736", func := "trefoil/trefoillaw23.MatrixRights", spec := "matrixRights", unfollowed := true, recurses := true, apart := false }
def MatrixRightsSaid : Prop := matrixRightsRow.holds Try.pinned (OpenSpec.ofChange matrixRightsSpec)

/-- ITS FALSE NEIGHBOUR: 'it returns false'. Refute it at one input. -/
def matrixRightsWrong : ChangeSpec := { name := "matrixRights", fn := fun _ => fun
  | [d1, d2, d3] => { results := [.lit (.bool false)], args := [d1, d2, d3] }
  | _ => none }
def MatrixRightsWrongFalsely : Prop := matrixRightsRow.holds Try.pinned (OpenSpec.ofChange matrixRightsWrong)

/-- 'trefoillaw25.DabitComes': WHATEVER THE INPUT: true; the input reads as it did. -/
def dabitComesSpec : ChangeSpec := { name := "dabitComes", fn := fun _ => fun
  | [d1, d2, d3, d4] => { results := [.lit (.bool true)], args := [d1, d2, d3, d4] }
  | _ => none }
def dabitComesRow : OpenClaim := { program := "ytcmaidpoolcelaa", sum := "c52984825d466a87c7c8a190ae5ff65359dee4129ac0ac2414558c19bf5f2736", func := "trefoil/trefoillaw25.DabitComes", spec := "dabitComes", unfollowed := true, recurses := true, apart := false }
def DabitComesSaid : Prop := dabitComesRow.holds Try.pinned (OpenSpec.ofChange dabitComesSpec)

/-- ITS FALSE NEIGHBOUR: 'it returns false'. Refute it at one input. -/
def dabitComesWrong : ChangeSpec := { name := "dabitComes", fn := fun _ => fun
  | [d1, d2, d3, d4] => { results := [.lit (.bool false)], args := [d1, d2, d3, d4] }
  | _ => none }
def DabitComesWrongFalsely : Prop := dabitComesRow.holds Try.pinned (OpenSpec.ofChange dabitComesWrong)

/-- 'trefoillaw25.DabitFinishes': WHATEVER THE INPUT: true; the input reads as it did. -/
def dabitFinishesSpec : ChangeSpec := { name := "dabitFinishes", fn := fun _ => fun
  | [d1, d2, d3] => { results := [.lit (.bool true)], args := [d1, d2, d3] }
  | _ => none }
def dabitFinishesRow : OpenClaim := { program := "ytcmaidpoolcelaa", sum := "c52984825d466a87c7c8a190ae5ff65359dee4129ac0ac2414558c19bf5f2736", func := "trefoil/trefoillaw25.DabitFinishes", spec := "dabitFinishes", unfollowed := true, recurses := true, apart := false }
def DabitFinishesSaid : Prop := dabitFinishesRow.holds Try.pinned (OpenSpec.ofChange dabitFinishesSpec)

/-- ITS FALSE NEIGHBOUR: 'it returns false'. Refute it at one input. -/
def dabitFinishesWrong : ChangeSpec := { name := "dabitFinishes", fn := fun _ => fun
  | [d1, d2, d3] => { results := [.lit (.bool false)], args := [d1, d2, d3] }
  | _ => none }
def DabitFinishesWrongFalsely : Prop := dabitFinishesRow.holds Try.pinned (OpenSpec.ofChange dabitFinishesWrong)

/-- 'trefoillaw22.ScalarFinishes': WHATEVER THE INPUT: true; the input reads as it did. -/
def scalarFinishesSpec : ChangeSpec := { name := "scalarFinishes", fn := fun _ => fun
  | [d1, d2, d3, d4] => { results := [.lit (.bool true)], args := [d1, d2, d3, d4] }
  | _ => none }
def scalarFinishesRow : OpenClaim := { program := "ytcmaidpoolcelaa", sum := "c52984825d466a87c7c8a190ae5ff65359dee4129ac0ac2414558c19bf5f2736", func := "trefoil/trefoillaw22.ScalarFinishes", spec := "scalarFinishes", unfollowed := true, recurses := true, apart := false }
def ScalarFinishesSaid : Prop := scalarFinishesRow.holds Try.pinned (OpenSpec.ofChange scalarFinishesSpec)

/-- ITS FALSE NEIGHBOUR: 'it returns false'. Refute it at one input. -/
def scalarFinishesWrong : ChangeSpec := { name := "scalarFinishes", fn := fun _ => fun
  | [d1, d2, d3, d4] => { results := [.lit (.bool false)], args := [d1, d2, d3, d4] }
  | _ => none }
def ScalarFinishesWrongFalsely : Prop := scalarFinishesRow.holds Try.pinned (OpenSpec.ofChange scalarFinishesWrong)

/-- 'trefoillaw22.ScalarSides': WHATEVER THE INPUT: true; the input reads as it did. -/
def scalarSidesSpec : ChangeSpec := { name := "scalarSides", fn := fun _ => fun
  | [d1, d2] => { results := [.lit (.bool true)], args := [d1, d2] }
  | _ => none }
def scalarSidesRow : OpenClaim := { program := "ytcmaidpoolcelaa", sum := "c52984825d466a87c7c8a190ae5ff65359dee4129ac0ac2414558c19bf5f2736", func := "trefoil/trefoillaw22.ScalarSides", spec := "scalarSides", unfollowed := true, recurses := true, apart := false }
def ScalarSidesSaid : Prop := scalarSidesRow.holds Try.pinned (OpenSpec.ofChange scalarSidesSpec)

/-- ITS FALSE NEIGHBOUR: 'it returns false'. Refute it at one input. -/
def scalarSidesWrong : ChangeSpec := { name := "scalarSides", fn := fun _ => fun
  | [d1, d2] => { results := [.lit (.bool false)], args := [d1, d2] }
  | _ => none }
def ScalarSidesWrongFalsely : Prop := scalarSidesRow.holds Try.pinned (OpenSpec.ofChange scalarSidesWrong)

/-- 'trefoillaw23.MatrixFinishes': WHATEVER THE INPUT: true; the input reads as it did. -/
def matrixFinishesSpec : ChangeSpec := { name := "matrixFinishes", fn := fun _ => fun
  | [d1, d2, d3, d4] => { results := [.lit (.bool true)], args := [d1, d2, d3, d4] }
  | _ => none }
def matrixFinishesRow : OpenClaim := { program := "ytcmaidpoolcelaa", sum := "c52984825d466a87c7c8a190ae5ff65359dee4129ac0ac2414558c19bf5f2736", func := "trefoil/trefoillaw23.MatrixFinishes", spec := "matrixFinishes", unfollowed := true, recurses := true, apart := false }
def MatrixFinishesSaid : Prop := matrixFinishesRow.holds Try.pinned (OpenSpec.ofChange matrixFinishesSpec)

/-- ITS FALSE NEIGHBOUR: 'it returns false'. Refute it at one input. -/
def matrixFinishesWrong : ChangeSpec := { name := "matrixFinishes", fn := fun _ => fun
  | [d1, d2, d3, d4] => { results := [.lit (.bool false)], args := [d1, d2, d3, d4] }
  | _ => none }
def MatrixFinishesWrongFalsely : Prop := matrixFinishesRow.holds Try.pinned (OpenSpec.ofChange matrixFinishesWrong)

/-- 'trefoillaw22.ScalarComes': WHATEVER THE INPUT: true; the input reads as it did. -/
def scalarComesSpec : ChangeSpec := { name := "scalarComes", fn := fun _ => fun
  | [d1, d2, d3, d4, d5] => { results := [.lit (.bool true)], args := [d1, d2, d3, d4, d5] }
  | _ => none }
def scalarComesRow : OpenClaim := { program := "ytcmaidpoolcelaa", sum := "c52984825d466a87c7c8a190ae5ff65359dee4129ac0ac2414558c19bf5f2736", func := "trefoil/trefoillaw22.ScalarComes", spec := "scalarComes", unfollowed := true, recurses := true, apart := false }
def ScalarComesSaid : Prop := scalarComesRow.holds Try.pinned (OpenSpec.ofChange scalarComesSpec)

/-- ITS FALSE NEIGHBOUR: 'it returns false'. Refute it at one input. -/
def scalarComesWrong : ChangeSpec := { name := "scalarComes", fn := fun _ => fun
  | [d1, d2, d3, d4, d5] => { results := [.lit (.bool false)], args := [d1, d2, d3, d4, d5] }
  | _ => none }
def ScalarComesWrongFalsely : Prop := scalarComesRow.holds Try.pinned (OpenSpec.ofChange scalarComesWrong)

/-- 'trefoillaw23.MatrixSides': WHATEVER THE INPUT: true; the input reads as it did. -/
def matrixSidesSpec : ChangeSpec := { name := "matrixSides", fn := fun _ => fun
  | [d1, d2] => { results := [.lit (.bool true)], args := [d1, d2] }
  | _ => none }
def matrixSidesRow : OpenClaim := { program := "ytcmaidpoolcelaa", sum := "c52984825d466a87c7c8a190ae5ff65359dee4129ac0ac2414558c19bf5f2736", func := "trefoil/trefoillaw23.MatrixSides", spec := "matrixSides", unfollowed := true, recurses := true, apart := false }
def MatrixSidesSaid : Prop := matrixSidesRow.holds Try.pinned (OpenSpec.ofChange matrixSidesSpec)

/-- ITS FALSE NEIGHBOUR: 'it returns false'. Refute it at one input. -/
def matrixSidesWrong : ChangeSpec := { name := "matrixSides", fn := fun _ => fun
  | [d1, d2] => { results := [.lit (.bool false)], args := [d1, d2] }
  | _ => none }
def MatrixSidesWrongFalsely : Prop := matrixSidesRow.holds Try.pinned (OpenSpec.ofChange matrixSidesWrong)

/-- 'trefoillaw23.MatrixComes': WHATEVER THE INPUT: true; the input reads as it did. -/
def matrixComesSpec : ChangeSpec := { name := "matrixComes", fn := fun _ => fun
  | [d1, d2, d3, d4, d5] => { results := [.lit (.bool true)], args := [d1, d2, d3, d4, d5] }
  | _ => none }
def matrixComesRow : OpenClaim := { program := "ytcmaidpoolcelaa", sum := "c52984825d466a87c7c8a190ae5ff65359dee4129ac0ac2414558c19bf5f2736", func := "trefoil/trefoillaw23.MatrixComes", spec := "matrixComes", unfollowed := true, recurses := true, apart := false }
def MatrixComesSaid : Prop := matrixComesRow.holds Try.pinned (OpenSpec.ofChange matrixComesSpec)

/-- ITS FALSE NEIGHBOUR: 'it returns false'. Refute it at one input. -/
def matrixComesWrong : ChangeSpec := { name := "matrixComes", fn := fun _ => fun
  | [d1, d2, d3, d4, d5] => { results := [.lit (.bool false)], args := [d1, d2, d3, d4, d5] }
  | _ => none }
def MatrixComesWrongFalsely : Prop := matrixComesRow.holds Try.pinned (OpenSpec.ofChange matrixComesWrong)

/- THE SECOND FORM. 'bulk': how many values and letters a reading holds, each counted each time it is reached (what is shared counts as often as it is met; a slice's spare places count too). A statement '..UptoSaid' is the law's where the arguments, and the package variables that the reading takes, are together of bulk at most 1048576: NARROWER than '..Said'. Prove '..Said' where nothing that the law and all that it calls make is longer than what came in: it says more and counts as full. Else prove '..UptoSaid'. A law counts once. -/
mutual
def uptoBulk {H : Type} : DataW H → Nat
  | .lit (.string bytes) => bytes.length + 1
  | .lit _ => 1
  | .nil => 1
  | .ptr d => uptoBulk d + 1
  | .slice elems spare => uptoBulkAll elems + uptoBulkAll spare + 1
  | .agg parts => uptoBulkAll parts + 1
  | .iface _ d => uptoBulk d + 1
  | .map entries => uptoBulkEntries entries + 1
  | .held _ => 1
def uptoBulkAll {H : Type} : List (DataW H) → Nat
  | [] => 0
  | d :: r => uptoBulk d + uptoBulkAll r
def uptoBulkEntries {H : Type} : List (Lit × DataW H) → Nat
  | [] => 0
  | x :: r => uptoBulkEntry x + uptoBulkEntries r
def uptoBulkEntry {H : Type} : Lit × DataW H → Nat
  | (.string bytes, d) => bytes.length + uptoBulk d + 1
  | (_, d) => uptoBulk d + 1
 end
def uptoSmall : (H : Type) → List (DataW H) → Bool := fun _ ds => decide (uptoBulkAll ds ≤ 1048576)
def OpenSpec.upto (s : _root_.Go.ChangeSpec) : _root_.Go.OpenSpec := { _root_.Go.OpenSpec.ofChange s with cond := some uptoSmall }

/-- 'trefoillaw25.DabitRights', WHERE WHAT IT READS IS OF BULK AT MOST 1048576: true; the input reads as it did. -/
def dabitRightsUptoRow : OpenClaim := { program := "ytcmaidpoolcelaa", sum := "c52984825d466a87c7c8a190ae5ff65359dee4129ac0ac2414558c19bf5f2736", func := "trefoil/trefoillaw25.DabitRights", spec := "dabitRights", apart := false, narrowed := true }
def DabitRightsUptoSaid : Prop := dabitRightsUptoRow.holds Try.pinned (OpenSpec.upto dabitRightsSpec)

/-- 'trefoillaw22.ScalarRights', WHERE WHAT IT READS IS OF BULK AT MOST 1048576: true; the input reads as it did. -/
def scalarRightsUptoRow : OpenClaim := { program := "ytcmaidpoolcelaa", sum := "c52984825d466a87c7c8a190ae5ff65359dee4129ac0ac2414558c19bf5f2736", func := "trefoil/trefoillaw22.ScalarRights", spec := "scalarRights", apart := false, narrowed := true }
def ScalarRightsUptoSaid : Prop := scalarRightsUptoRow.holds Try.pinned (OpenSpec.upto scalarRightsSpec)

/-- 'trefoillaw23.MatrixRights', WHERE WHAT IT READS IS OF BULK AT MOST 1048576: true; the input reads as it did. -/
def matrixRightsUptoRow : OpenClaim := { program := "ytcmaidpoolcelaa", sum := "c52984825d466a87c7c8a190ae5ff65359dee4129ac0ac2414558c19bf5f2736", func := "trefoil/trefoillaw23.MatrixRights", spec := "matrixRights", unfollowed := true, recurses := true, apart := false, narrowed := true }
def MatrixRightsUptoSaid : Prop := matrixRightsUptoRow.holds Try.pinned (OpenSpec.upto matrixRightsSpec)

/-- 'trefoillaw25.DabitComes', WHERE WHAT IT READS IS OF BULK AT MOST 1048576: true; the input reads as it did. -/
def dabitComesUptoRow : OpenClaim := { program := "ytcmaidpoolcelaa", sum := "c52984825d466a87c7c8a190ae5ff65359dee4129ac0ac2414558c19bf5f2736", func := "trefoil/trefoillaw25.DabitComes", spec := "dabitComes", unfollowed := true, recurses := true, apart := false, narrowed := true }
def DabitComesUptoSaid : Prop := dabitComesUptoRow.holds Try.pinned (OpenSpec.upto dabitComesSpec)

/-- 'trefoillaw25.DabitFinishes', WHERE WHAT IT READS IS OF BULK AT MOST 1048576: true; the input reads as it did. -/
def dabitFinishesUptoRow : OpenClaim := { program := "ytcmaidpoolcelaa", sum := "c52984825d466a87c7c8a190ae5ff65359dee4129ac0ac2414558c19bf5f2736", func := "trefoil/trefoillaw25.DabitFinishes", spec := "dabitFinishes", unfollowed := true, recurses := true, apart := false, narrowed := true }
def DabitFinishesUptoSaid : Prop := dabitFinishesUptoRow.holds Try.pinned (OpenSpec.upto dabitFinishesSpec)

/-- 'trefoillaw22.ScalarFinishes', WHERE WHAT IT READS IS OF BULK AT MOST 1048576: true; the input reads as it did. -/
def scalarFinishesUptoRow : OpenClaim := { program := "ytcmaidpoolcelaa", sum := "c52984825d466a87c7c8a190ae5ff65359dee4129ac0ac2414558c19bf5f2736", func := "trefoil/trefoillaw22.ScalarFinishes", spec := "scalarFinishes", unfollowed := true, recurses := true, apart := false, narrowed := true }
def ScalarFinishesUptoSaid : Prop := scalarFinishesUptoRow.holds Try.pinned (OpenSpec.upto scalarFinishesSpec)

/-- 'trefoillaw22.ScalarSides', WHERE WHAT IT READS IS OF BULK AT MOST 1048576: true; the input reads as it did. -/
def scalarSidesUptoRow : OpenClaim := { program := "ytcmaidpoolcelaa", sum := "c52984825d466a87c7c8a190ae5ff65359dee4129ac0ac2414558c19bf5f2736", func := "trefoil/trefoillaw22.ScalarSides", spec := "scalarSides", unfollowed := true, recurses := true, apart := false, narrowed := true }
def ScalarSidesUptoSaid : Prop := scalarSidesUptoRow.holds Try.pinned (OpenSpec.upto scalarSidesSpec)

/-- 'trefoillaw23.MatrixFinishes', WHERE WHAT IT READS IS OF BULK AT MOST 1048576: true; the input reads as it did. -/
def matrixFinishesUptoRow : OpenClaim := { program := "ytcmaidpoolcelaa", sum := "c52984825d466a87c7c8a190ae5ff65359dee4129ac0ac2414558c19bf5f2736", func := "trefoil/trefoillaw23.MatrixFinishes", spec := "matrixFinishes", unfollowed := true, recurses := true, apart := false, narrowed := true }
def MatrixFinishesUptoSaid : Prop := matrixFinishesUptoRow.holds Try.pinned (OpenSpec.upto matrixFinishesSpec)

/-- 'trefoillaw22.ScalarComes', WHERE WHAT IT READS IS OF BULK AT MOST 1048576: true; the input reads as it did. -/
def scalarComesUptoRow : OpenClaim := { program := "ytcmaidpoolcelaa", sum := "c52984825d466a87c7c8a190ae5ff65359dee4129ac0ac2414558c19bf5f2736", func := "trefoil/trefoillaw22.ScalarComes", spec := "scalarComes", unfollowed := true, recurses := true, apart := false, narrowed := true }
def ScalarComesUptoSaid : Prop := scalarComesUptoRow.holds Try.pinned (OpenSpec.upto scalarComesSpec)

/-- 'trefoillaw23.MatrixSides', WHERE WHAT IT READS IS OF BULK AT MOST 1048576: true; the input reads as it did. -/
def matrixSidesUptoRow : OpenClaim := { program := "ytcmaidpoolcelaa", sum := "c52984825d466a87c7c8a190ae5ff65359dee4129ac0ac2414558c19bf5f2736", func := "trefoil/trefoillaw23.MatrixSides", spec := "matrixSides", unfollowed := true, recurses := true, apart := false, narrowed := true }
def MatrixSidesUptoSaid : Prop := matrixSidesUptoRow.holds Try.pinned (OpenSpec.upto matrixSidesSpec)

/-- 'trefoillaw23.MatrixComes', WHERE WHAT IT READS IS OF BULK AT MOST 1048576: true; the input reads as it did. -/
def matrixComesUptoRow : OpenClaim := { program := "ytcmaidpoolcelaa", sum := "c52984825d466a87c7c8a190ae5ff65359dee4129ac0ac2414558c19bf5f2736", func := "trefoil/trefoillaw23.MatrixComes", spec := "matrixComes", unfollowed := true, recurses := true, apart := false, narrowed := true }
def MatrixComesUptoSaid : Prop := matrixComesUptoRow.holds Try.pinned (OpenSpec.upto matrixComesSpec)

end Rows
end Go.Proofs.Ytcmaidpoolcelaa
