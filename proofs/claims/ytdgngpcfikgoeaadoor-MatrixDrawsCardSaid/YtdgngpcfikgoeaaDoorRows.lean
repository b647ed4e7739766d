/-
  NARROWER THAN 'FOR EVERY INPUT', by the rows' own cells (each row's printed sentence says how): TapeOnce: laid · TapeApart: laid · TapePlays: laid · TapeBlind: laid · DabitDraws: laid · ScalarDraws: laid · MatrixDraws: laid.
  DERIVED. THE GIVEN ROWS OF THIS SEAT. 7 by the template 'for every input the law returns true; each argument reads behind the call as it read before'; 0 by the template 'total and deterministic' (their statements: YtdgngpcfikgoeaaDoorTotals.lean).
  GIVEN WITH THE SEED: the statements are not yours to turn. If you find one false, say at which input.
  Laid BY PROGRAM, IN A SANDBOX (cutbox-rows.mjs): the forced cells as the released guide's own fill.sh prints them over the translation 2717e39f1c9f6c0c… (all of the seat's roots in one cut). By AI agents, Wed Nov 11 2026. No macro, syntax, notation, axiom, sorry.
-/
import Derived.Test.YtdgngpcfikgoeaaDoorChecked
import GoSem.Claim
import GoSem.ClaimJoined
import GoSem.ClaimMapViews
import Derived.JoinedTies
import Derived.KernelRfl
namespace Go.Proofs.YtdgngpcfikgoeaaDoor
/- THE CELL 'sum', in the pinned program and in every row, IS THE sha256 OF THE DUMP (.gsa) THAT YtdgngpcfikgoeaaDoorProg.lean LOADS. Nothing in Lean hashes anything: it is a label: what it is worth is what the hold of that sum in a sandbox is worth. -/
noncomputable def Tryd.pinned : Pinned := { name := "ytdgngpcfikgoeaadoor", sum := "2717e39f1c9f6c0ce3859e090f983460f61ad960e81932e06c8ea5c15ec1bafa", checked := Tryd.checked }
namespace Rows
def none {H : Type} : Left H := { results := [], args := [] }

/- WHAT THE LISTED PACKAGE-LEVEL VARIABLES READ AS WHEN THE CALL BEGINS. Each datum BY PROGRAM (the guide's laid-datum.mjs) off the statement by which the dump's own 'gosem.cut.vars' lays the variable. In a bare row this is a premise. The card (YtdgngpcfikgoeaaDoorCards.lean) ties it to the program's text. -/
def laid_errors_errorType {H : Type} : DataW H := .iface "internal/reflectlite.rtype" (.agg [.ptr (.lit (.string [101, 114, 114, 111, 114]))])

/-- 'trefoillaw06.TapeOnce': WHATEVER THE INPUT: true; the input reads as it did. -/
def tapeOnceSpec : ChangeSpec := { name := "tapeOnce", fn := fun _ => fun
  | [d1, d2] => { results := [.lit (.bool true)], args := [d1, d2] }
  | _ => none }
def tapeOnceRow : OpenClaim := { program := "ytdgngpcfikgoeaadoor", sum := "2717e39f1c9f6c0ce3859e090f983460f61ad960e81932e06c8ea5c15ec1bafa", func := "trefoil/trefoillaw06.TapeOnce", spec := "tapeOnce", inPlace := ["internal/reflectlite.ValueOf", "(internal/reflectlite.Value).Type", "(internal/reflectlite.Value).IsNil", "internal/reflectlite.TypeOf", "(internal/reflectlite.Value).Elem", "(internal/reflectlite.Value).Set"], unfollowed := true, recurses := true, named := ["errors.errorType"], apart := false, laid := [("errors.errorType", laid_errors_errorType)] }
def TapeOnceSaid : Prop := tapeOnceRow.holds Tryd.pinned (OpenSpec.ofChange tapeOnceSpec)

/-- ITS FALSE NEIGHBOUR: 'it returns false'. Refute it at one input. -/
def tapeOnceWrong : ChangeSpec := { name := "tapeOnce", fn := fun _ => fun
  | [d1, d2] => { results := [.lit (.bool false)], args := [d1, d2] }
  | _ => none }
def TapeOnceWrongFalsely : Prop := tapeOnceRow.holds Tryd.pinned (OpenSpec.ofChange tapeOnceWrong)

/-- 'trefoillaw06.TapeApart': WHATEVER THE INPUT: true; the input reads as it did. -/
def tapeApartSpec : ChangeSpec := { name := "tapeApart", fn := fun _ => fun
  | [d1, d2] => { results := [.lit (.bool true)], args := [d1, d2] }
  | _ => none }
def tapeApartRow : OpenClaim := { program := "ytdgngpcfikgoeaadoor", sum := "2717e39f1c9f6c0ce3859e090f983460f61ad960e81932e06c8ea5c15ec1bafa", func := "trefoil/trefoillaw06.TapeApart", spec := "tapeApart", inPlace := ["internal/reflectlite.ValueOf", "(internal/reflectlite.Value).Type", "(internal/reflectlite.Value).IsNil", "internal/reflectlite.TypeOf", "(internal/reflectlite.Value).Elem", "(internal/reflectlite.Value).Set"], unfollowed := true, recurses := true, named := ["errors.errorType"], apart := false, laid := [("errors.errorType", laid_errors_errorType)] }
def TapeApartSaid : Prop := tapeApartRow.holds Tryd.pinned (OpenSpec.ofChange tapeApartSpec)

/-- ITS FALSE NEIGHBOUR: 'it returns false'. Refute it at one input. -/
def tapeApartWrong : ChangeSpec := { name := "tapeApart", fn := fun _ => fun
  | [d1, d2] => { results := [.lit (.bool false)], args := [d1, d2] }
  | _ => none }
def TapeApartWrongFalsely : Prop := tapeApartRow.holds Tryd.pinned (OpenSpec.ofChange tapeApartWrong)

/-- 'trefoillaw06.TapePlays': WHATEVER THE INPUT: true; the input reads as it did. -/
def tapePlaysSpec : ChangeSpec := { name := "tapePlays", fn := fun _ => fun
  | [d1, d2] => { results := [.lit (.bool true)], args := [d1, d2] }
  | _ => none }
def tapePlaysRow : OpenClaim := { program := "ytdgngpcfikgoeaadoor", sum := "2717e39f1c9f6c0ce3859e090f983460f61ad960e81932e06c8ea5c15ec1bafa", func := "trefoil/trefoillaw06.TapePlays", spec := "tapePlays", inPlace := ["internal/reflectlite.ValueOf", "(internal/reflectlite.Value).Type", "(internal/reflectlite.Value).IsNil", "internal/reflectlite.TypeOf", "(internal/reflectlite.Value).Elem", "(internal/reflectlite.Value).Set"], unfollowed := true, recurses := true, named := ["errors.errorType"], apart := false, laid := [("errors.errorType", laid_errors_errorType)] }
def TapePlaysSaid : Prop := tapePlaysRow.holds Tryd.pinned (OpenSpec.ofChange tapePlaysSpec)

/-- ITS FALSE NEIGHBOUR: 'it returns false'. Refute it at one input. -/
def tapePlaysWrong : ChangeSpec := { name := "tapePlays", fn := fun _ => fun
  | [d1, d2] => { results := [.lit (.bool false)], args := [d1, d2] }
  | _ => none }
def TapePlaysWrongFalsely : Prop := tapePlaysRow.holds Tryd.pinned (OpenSpec.ofChange tapePlaysWrong)

/-- 'trefoillaw06.TapeBlind': WHATEVER THE INPUT: true; the input reads as it did. -/
def tapeBlindSpec : ChangeSpec := { name := "tapeBlind", fn := fun _ => fun
  | [d1, d2, d3] => { results := [.lit (.bool true)], args := [d1, d2, d3] }
  | _ => none }
def tapeBlindRow : OpenClaim := { program := "ytdgngpcfikgoeaadoor", sum := "2717e39f1c9f6c0ce3859e090f983460f61ad960e81932e06c8ea5c15ec1bafa", func := "trefoil/trefoillaw06.TapeBlind", spec := "tapeBlind", inPlace := ["internal/reflectlite.ValueOf", "(internal/reflectlite.Value).Type", "(internal/reflectlite.Value).IsNil", "internal/reflectlite.TypeOf", "(internal/reflectlite.Value).Elem", "(internal/reflectlite.Value).Set"], unfollowed := true, recurses := true, named := ["errors.errorType"], apart := false, laid := [("errors.errorType", laid_errors_errorType)] }
def TapeBlindSaid : Prop := tapeBlindRow.holds Tryd.pinned (OpenSpec.ofChange tapeBlindSpec)

/-- ITS FALSE NEIGHBOUR: 'it returns false'. Refute it at one input. -/
def tapeBlindWrong : ChangeSpec := { name := "tapeBlind", fn := fun _ => fun
  | [d1, d2, d3] => { results := [.lit (.bool false)], args := [d1, d2, d3] }
  | _ => none }
def TapeBlindWrongFalsely : Prop := tapeBlindRow.holds Tryd.pinned (OpenSpec.ofChange tapeBlindWrong)

/-- 'trefoillaw25.DabitDraws': WHATEVER THE INPUT: true; the input reads as it did. -/
def dabitDrawsSpec : ChangeSpec := { name := "dabitDraws", fn := fun _ => fun
  | [d1, d2, d3] => { results := [.lit (.bool true)], args := [d1, d2, d3] }
  | _ => none }
def dabitDrawsRow : OpenClaim := { program := "ytdgngpcfikgoeaadoor", sum := "2717e39f1c9f6c0ce3859e090f983460f61ad960e81932e06c8ea5c15ec1bafa", func := "trefoil/trefoillaw25.DabitDraws", spec := "dabitDraws", inPlace := ["internal/reflectlite.ValueOf", "(internal/reflectlite.Value).Type", "(internal/reflectlite.Value).IsNil", "internal/reflectlite.TypeOf", "(internal/reflectlite.Value).Elem", "(internal/reflectlite.Value).Set"], unfollowed := true, recurses := true, named := ["errors.errorType"], apart := false, laid := [("errors.errorType", laid_errors_errorType)] }
def DabitDrawsSaid : Prop := dabitDrawsRow.holds Tryd.pinned (OpenSpec.ofChange dabitDrawsSpec)

/-- ITS FALSE NEIGHBOUR: 'it returns false'. Refute it at one input. -/
def dabitDrawsWrong : ChangeSpec := { name := "dabitDraws", fn := fun _ => fun
  | [d1, d2, d3] => { results := [.lit (.bool false)], args := [d1, d2, d3] }
  | _ => none }
def DabitDrawsWrongFalsely : Prop := dabitDrawsRow.holds Tryd.pinned (OpenSpec.ofChange dabitDrawsWrong)

/-- 'trefoillaw22.ScalarDraws': WHATEVER THE INPUT: true; the input reads as it did. -/
def scalarDrawsSpec : ChangeSpec := { name := "scalarDraws", fn := fun _ => fun
  | [d1, d2, d3] => { results := [.lit (.bool true)], args := [d1, d2, d3] }
  | _ => none }
def scalarDrawsRow : OpenClaim := { program := "ytdgngpcfikgoeaadoor", sum := "2717e39f1c9f6c0ce3859e090f983460f61ad960e81932e06c8ea5c15ec1bafa", func := "trefoil/trefoillaw22.ScalarDraws", spec := "scalarDraws", inPlace := ["internal/reflectlite.ValueOf", "(internal/reflectlite.Value).Type", "(internal/reflectlite.Value).IsNil", "internal/reflectlite.TypeOf", "(internal/reflectlite.Value).Elem", "(internal/reflectlite.Value).Set"], unfollowed := true, recurses := true, named := ["errors.errorType"], apart := false, laid := [("errors.errorType", laid_errors_errorType)] }
def ScalarDrawsSaid : Prop := scalarDrawsRow.holds Tryd.pinned (OpenSpec.ofChange scalarDrawsSpec)

/-- ITS FALSE NEIGHBOUR: 'it returns false'. Refute it at one input. -/
def scalarDrawsWrong : ChangeSpec := { name := "scalarDraws", fn := fun _ => fun
  | [d1, d2, d3] => { results := [.lit (.bool false)], args := [d1, d2, d3] }
  | _ => none }
def ScalarDrawsWrongFalsely : Prop := scalarDrawsRow.holds Tryd.pinned (OpenSpec.ofChange scalarDrawsWrong)

/-- 'trefoillaw23.MatrixDraws': WHATEVER THE INPUT: true; the input reads as it did. -/
def matrixDrawsSpec : ChangeSpec := { name := "matrixDraws", fn := fun _ => fun
  | [d1, d2, d3] => { results := [.lit (.bool true)], args := [d1, d2, d3] }
  | _ => none }
def matrixDrawsRow : OpenClaim := { program := "ytdgngpcfikgoeaadoor", sum := "2717e39f1c9f6c0ce3859e090f983460f61ad960e81932e06c8ea5c15ec1bafa", func := "trefoil/trefoillaw23.MatrixDraws", spec := "matrixDraws", inPlace := ["internal/reflectlite.ValueOf", "(internal/reflectlite.Value).Type", "(internal/reflectlite.Value).IsNil", "internal/reflectlite.TypeOf", "(internal/reflectlite.Value).Elem", "(internal/reflectlite.Value).Set"], unfollowed := true, recurses := true, named := ["errors.errorType"], apart := false, laid := [("errors.errorType", laid_errors_errorType)] }
def MatrixDrawsSaid : Prop := matrixDrawsRow.holds Tryd.pinned (OpenSpec.ofChange matrixDrawsSpec)

/-- ITS FALSE NEIGHBOUR: 'it returns false'. Refute it at one input. -/
def matrixDrawsWrong : ChangeSpec := { name := "matrixDraws", fn := fun _ => fun
  | [d1, d2, d3] => { results := [.lit (.bool false)], args := [d1, d2, d3] }
  | _ => none }
def MatrixDrawsWrongFalsely : Prop := matrixDrawsRow.holds Tryd.pinned (OpenSpec.ofChange matrixDrawsWrong)

/- THE SECOND FORM. 'bulk': how many values and letters a reading holds, each counted each time it is reached (what is shared counts as often as it is met; a slice's spare places count too). A statement '..UptoSaid' is the law's where the arguments, and the package variables that the reading takes, are together of bulk at most 1048576: NARROWER than '..Said'. Prove '..Said' where nothing that the law and all that it calls make is longer than what came in: it says more and counts as full. Else prove '..UptoSaid'. A law counts once. -/
mutual
def uptoBulk {H : Type} : DataW H → Nat
  | .lit (.string bytes) => bytes.length + 1
  | .lit _ => 1
  | .nil => 1
  | .ptr d => uptoBulk d + 1
  | .slice elems spare => uptoBulkAll elems + uptoBulkAll spare + 1
  | .agg parts => uptoBulkAll parts + 1
  | .iface _ d => uptoBulk d + 1
  | .map entries => uptoBulkEntries entries + 1
  | .held _ => 1
def uptoBulkAll {H : Type} : List (DataW H) → Nat
  | [] => 0
  | d :: r => uptoBulk d + uptoBulkAll r
def uptoBulkEntries {H : Type} : List (Lit × DataW H) → Nat
  | [] => 0
  | x :: r => uptoBulkEntry x + uptoBulkEntries r
def uptoBulkEntry {H : Type} : Lit × DataW H → Nat
  | (.string bytes, d) => bytes.length + uptoBulk d + 1
  | (_, d) => uptoBulk d + 1
 end
def uptoSmall : (H : Type) → List (DataW H) → Bool := fun _ ds => decide (uptoBulkAll ds ≤ 1048576)
def OpenSpec.upto (s : _root_.Go.ChangeSpec) : _root_.Go.OpenSpec := { _root_.Go.OpenSpec.ofChange s with cond := some uptoSmall }

/-- 'trefoillaw06.TapeOnce', WHERE WHAT IT READS IS OF BULK AT MOST 1048576: true; the input reads as it did. -/
def tapeOnceUptoRow : OpenClaim := { program := "ytdgngpcfikgoeaadoor", sum := "2717e39f1c9f6c0ce3859e090f983460f61ad960e81932e06c8ea5c15ec1bafa", func := "trefoil/trefoillaw06.TapeOnce", spec := "tapeOnce", inPlace := ["internal/reflectlite.ValueOf", "(internal/reflectlite.Value).Type", "(internal/reflectlite.Value).IsNil", "internal/reflectlite.TypeOf", "(internal/reflectlite.Value).Elem", "(internal/reflectlite.Value).Set"], unfollowed := true, recurses := true, named := ["errors.errorType"], apart := false, laid := [("errors.errorType", laid_errors_errorType)], narrowed := true }
def TapeOnceUptoSaid : Prop := tapeOnceUptoRow.holds Tryd.pinned (OpenSpec.upto tapeOnceSpec)

/-- 'trefoillaw06.TapeApart', WHERE WHAT IT READS IS OF BULK AT MOST 1048576: true; the input reads as it did. -/
def tapeApartUptoRow : OpenClaim := { program := "ytdgngpcfikgoeaadoor", sum := "2717e39f1c9f6c0ce3859e090f983460f61ad960e81932e06c8ea5c15ec1bafa", func := "trefoil/trefoillaw06.TapeApart", spec := "tapeApart", inPlace := ["internal/reflectlite.ValueOf", "(internal/reflectlite.Value).Type", "(internal/reflectlite.Value).IsNil", "internal/reflectlite.TypeOf", "(internal/reflectlite.Value).Elem", "(internal/reflectlite.Value).Set"], unfollowed := true, recurses := true, named := ["errors.errorType"], apart := false, laid := [("errors.errorType", laid_errors_errorType)], narrowed := true }
def TapeApartUptoSaid : Prop := tapeApartUptoRow.holds Tryd.pinned (OpenSpec.upto tapeApartSpec)

/-- 'trefoillaw06.TapePlays', WHERE WHAT IT READS IS OF BULK AT MOST 1048576: true; the input reads as it did. -/
def tapePlaysUptoRow : OpenClaim := { program := "ytdgngpcfikgoeaadoor", sum := "2717e39f1c9f6c0ce3859e090f983460f61ad960e81932e06c8ea5c15ec1bafa", func := "trefoil/trefoillaw06.TapePlays", spec := "tapePlays", inPlace := ["internal/reflectlite.ValueOf", "(internal/reflectlite.Value).Type", "(internal/reflectlite.Value).IsNil", "internal/reflectlite.TypeOf", "(internal/reflectlite.Value).Elem", "(internal/reflectlite.Value).Set"], unfollowed := true, recurses := true, named := ["errors.errorType"], apart := false, laid := [("errors.errorType", laid_errors_errorType)], narrowed := true }
def TapePlaysUptoSaid : Prop := tapePlaysUptoRow.holds Tryd.pinned (OpenSpec.upto tapePlaysSpec)

/-- 'trefoillaw06.TapeBlind', WHERE WHAT IT READS IS OF BULK AT MOST 1048576: true; the input reads as it did. -/
def tapeBlindUptoRow : OpenClaim := { program := "ytdgngpcfikgoeaadoor", sum := "2717e39f1c9f6c0ce3859e090f983460f61ad960e81932e06c8ea5c15ec1bafa", func := "trefoil/trefoillaw06.TapeBlind", spec := "tapeBlind", inPlace := ["internal/reflectlite.ValueOf", "(internal/reflectlite.Value).Type", "(internal/reflectlite.Value).IsNil", "internal/reflectlite.TypeOf", "(internal/reflectlite.Value).Elem", "(internal/reflectlite.Value).Set"], unfollowed := true, recurses := true, named := ["errors.errorType"], apart := false, laid := [("errors.errorType", laid_errors_errorType)], narrowed := true }
def TapeBlindUptoSaid : Prop := tapeBlindUptoRow.holds Tryd.pinned (OpenSpec.upto tapeBlindSpec)

/-- 'trefoillaw25.DabitDraws', WHERE WHAT IT READS IS OF BULK AT MOST 1048576: true; the input reads as it did. -/
def dabitDrawsUptoRow : OpenClaim := { program := "ytdgngpcfikgoeaadoor", sum := "2717e39f1c9f6c0ce3859e090f983460f61ad960e81932e06c8ea5c15ec1bafa", func := "trefoil/trefoillaw25.DabitDraws", spec := "dabitDraws", inPlace := ["internal/reflectlite.ValueOf", "(internal/reflectlite.Value).Type", "(internal/reflectlite.Value).IsNil", "internal/reflectlite.TypeOf", "(internal/reflectlite.Value).Elem", "(internal/reflectlite.Value).Set"], unfollowed := true, recurses := true, named := ["errors.errorType"], apart := false, laid := [("errors.errorType", laid_errors_errorType)], narrowed := true }
def DabitDrawsUptoSaid : Prop := dabitDrawsUptoRow.holds Tryd.pinned (OpenSpec.upto dabitDrawsSpec)

/-- 'trefoillaw22.ScalarDraws', WHERE WHAT IT READS IS OF BULK AT MOST 1048576: true; the input reads as it did. -/
def scalarDrawsUptoRow : OpenClaim := { program := "ytdgngpcfikgoeaadoor", sum := "2717e39f1c9f6c0ce3859e090f983460f61ad960e81932e06c8ea5c15ec1bafa", func := "trefoil/trefoillaw22.ScalarDraws", spec := "scalarDraws", inPlace := ["internal/reflectlite.ValueOf", "(internal/reflectlite.Value).Type", "(internal/reflectlite.Value).IsNil", "internal/reflectlite.TypeOf", "(internal/reflectlite.Value).Elem", "(internal/reflectlite.Value).Set"], unfollowed := true, recurses := true, named := ["errors.errorType"], apart := false, laid := [("errors.errorType", laid_errors_errorType)], narrowed := true }
def ScalarDrawsUptoSaid : Prop := scalarDrawsUptoRow.holds Tryd.pinned (OpenSpec.upto scalarDrawsSpec)

/-- 'trefoillaw23.MatrixDraws', WHERE WHAT IT READS IS OF BULK AT MOST 1048576: true; the input reads as it did. -/
def matrixDrawsUptoRow : OpenClaim := { program := "ytdgngpcfikgoeaadoor", sum := "2717e39f1c9f6c0ce3859e090f983460f61ad960e81932e06c8ea5c15ec1bafa", func := "trefoil/trefoillaw23.MatrixDraws", spec := "matrixDraws", inPlace := ["internal/reflectlite.ValueOf", "(internal/reflectlite.Value).Type", "(internal/reflectlite.Value).IsNil", "internal/reflectlite.TypeOf", "(internal/reflectlite.Value).Elem", "(internal/reflectlite.Value).Set"], unfollowed := true, recurses := true, named := ["errors.errorType"], apart := false, laid := [("errors.errorType", laid_errors_errorType)], narrowed := true }
def MatrixDrawsUptoSaid : Prop := matrixDrawsUptoRow.holds Tryd.pinned (OpenSpec.upto matrixDrawsSpec)

end Rows
end Go.Proofs.YtdgngpcfikgoeaaDoor
