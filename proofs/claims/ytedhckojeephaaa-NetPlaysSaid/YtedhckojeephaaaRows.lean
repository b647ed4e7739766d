/-
  No cell of these rows narrows 'for every input' (looked for: loops, veiled, ifaces, maps, wideKeys, modest, calm, conditions, laid).
  DERIVED. THE GIVEN ROWS OF THIS SEAT. 7 by the template 'for every input the law returns true; each argument reads behind the call as it read before'; 0 by the template 'total and deterministic' (their statements: YtedhckojeephaaaTotals.lean).
  GIVEN WITH THE SEED: the statements are not yours to turn. If you find one false, say at which input.
  Laid BY PROGRAM, IN A SANDBOX (cutbox-rows.mjs): the forced cells as the released guide's own fill.sh prints them over the translation 62333afa83589158… (all of the seat's roots in one cut). By AI agents, Wed Nov 11 2026. No macro, syntax, notation, axiom, sorry.
-/
import Derived.Test.YtedhckojeephaaaChecked
import GoSem.Claim
import GoSem.ClaimJoined
import GoSem.ClaimMapViews
import Derived.JoinedTies
import Derived.KernelRfl
namespace Go.Proofs.Ytedhckojeephaaa
/- THE CELL 'sum', in the pinned program and in every row, IS THE sha256 OF THE DUMP (.gsa) THAT YtedhckojeephaaaProg.lean LOADS. Nothing in Lean hashes anything: it is a label: what it is worth is what the hold of that sum in a sandbox is worth. -/
noncomputable def Try.pinned : Pinned := { name := "ytedhckojeephaaa", sum := "62333afa8358915864b21a8e4fd18e567cb19925aed26aee5e32f291168cb925", checked := Try.checked }
namespace Rows
def none {H : Type} : Left H := { results := [], args := [] }

/-- 'trefoillaw13.WindowOut': WHATEVER THE INPUT: true; the input reads as it did. -/
def windowOutSpec : ChangeSpec := { name := "windowOut", fn := fun _ => fun
  | [d1, d2] => { results := [.lit (.bool true)], args := [d1, d2] }
  | _ => none }
def windowOutRow : OpenClaim := { program := "ytedhckojeephaaa", sum := "62333afa8358915864b21a8e4fd18e567cb19925aed26aee5e32f291168cb925", func := "trefoil/trefoillaw13.WindowOut", spec := "windowOut", apart := false }
def WindowOutSaid : Prop := windowOutRow.holds Try.pinned (OpenSpec.ofChange windowOutSpec)

/-- ITS FALSE NEIGHBOUR: 'it returns false'. Refute it at one input. -/
def windowOutWrong : ChangeSpec := { name := "windowOut", fn := fun _ => fun
  | [d1, d2] => { results := [.lit (.bool false)], args := [d1, d2] }
  | _ => none }
def WindowOutWrongFalsely : Prop := windowOutRow.holds Try.pinned (OpenSpec.ofChange windowOutWrong)

/-- 'trefoillaw13.WindowOnce': WHATEVER THE INPUT: true; the input reads as it did. -/
def windowOnceSpec : ChangeSpec := { name := "windowOnce", fn := fun _ => fun
  | [d1, d2, d3] => { results := [.lit (.bool true)], args := [d1, d2, d3] }
  | _ => none }
def windowOnceRow : OpenClaim := { program := "ytedhckojeephaaa", sum := "62333afa8358915864b21a8e4fd18e567cb19925aed26aee5e32f291168cb925", func := "trefoil/trefoillaw13.WindowOnce", spec := "windowOnce", apart := false }
def WindowOnceSaid : Prop := windowOnceRow.holds Try.pinned (OpenSpec.ofChange windowOnceSpec)

/-- ITS FALSE NEIGHBOUR: 'it returns false'. Refute it at one input. -/
def windowOnceWrong : ChangeSpec := { name := "windowOnce", fn := fun _ => fun
  | [d1, d2, d3] => { results := [.lit (.bool false)], args := [d1, d2, d3] }
  | _ => none }
def WindowOnceWrongFalsely : Prop := windowOnceRow.holds Try.pinned (OpenSpec.ofChange windowOnceWrong)

/-- 'trefoillaw12.NetTrue': WHATEVER THE INPUT: true; the input reads as it did. -/
def netTrueSpec : ChangeSpec := { name := "netTrue", fn := fun _ => fun
  | [d] => { results := [.lit (.bool true)], args := [d] }
  | _ => none }
def netTrueRow : OpenClaim := { program := "ytedhckojeephaaa", sum := "62333afa8358915864b21a8e4fd18e567cb19925aed26aee5e32f291168cb925", func := "trefoil/trefoillaw12.NetTrue", spec := "netTrue", apart := false }
def NetTrueSaid : Prop := netTrueRow.holds Try.pinned (OpenSpec.ofChange netTrueSpec)

/-- ITS FALSE NEIGHBOUR: 'it returns false'. Refute it at one input. -/
def netTrueWrong : ChangeSpec := { name := "netTrue", fn := fun _ => fun
  | [d] => { results := [.lit (.bool false)], args := [d] }
  | _ => none }
def NetTrueWrongFalsely : Prop := netTrueRow.holds Try.pinned (OpenSpec.ofChange netTrueWrong)

/-- 'trefoillaw12.NetPlays': WHATEVER THE INPUT: true; the input reads as it did. -/
def netPlaysSpec : ChangeSpec := { name := "netPlays", fn := fun _ => fun
  | [d] => { results := [.lit (.bool true)], args := [d] }
  | _ => none }
def netPlaysRow : OpenClaim := { program := "ytedhckojeephaaa", sum := "62333afa8358915864b21a8e4fd18e567cb19925aed26aee5e32f291168cb925", func := "trefoil/trefoillaw12.NetPlays", spec := "netPlays", apart := false }
def NetPlaysSaid : Prop := netPlaysRow.holds Try.pinned (OpenSpec.ofChange netPlaysSpec)

/-- ITS FALSE NEIGHBOUR: 'it returns false'. Refute it at one input. -/
def netPlaysWrong : ChangeSpec := { name := "netPlays", fn := fun _ => fun
  | [d] => { results := [.lit (.bool false)], args := [d] }
  | _ => none }
def NetPlaysWrongFalsely : Prop := netPlaysRow.holds Try.pinned (OpenSpec.ofChange netPlaysWrong)

/-- 'trefoillaw12.NetNobody': WHATEVER THE INPUT: true; the input reads as it did. -/
def netNobodySpec : ChangeSpec := { name := "netNobody", fn := fun _ => fun
  | [d] => { results := [.lit (.bool true)], args := [d] }
  | _ => none }
def netNobodyRow : OpenClaim := { program := "ytedhckojeephaaa", sum := "62333afa8358915864b21a8e4fd18e567cb19925aed26aee5e32f291168cb925", func := "trefoil/trefoillaw12.NetNobody", spec := "netNobody", apart := false }
def NetNobodySaid : Prop := netNobodyRow.holds Try.pinned (OpenSpec.ofChange netNobodySpec)

/-- ITS FALSE NEIGHBOUR: 'it returns false'. Refute it at one input. -/
def netNobodyWrong : ChangeSpec := { name := "netNobody", fn := fun _ => fun
  | [d] => { results := [.lit (.bool false)], args := [d] }
  | _ => none }
def NetNobodyWrongFalsely : Prop := netNobodyRow.holds Try.pinned (OpenSpec.ofChange netNobodyWrong)

/-- 'trefoillaw13.WindowIn': WHATEVER THE INPUT: true; the input reads as it did. -/
def windowInSpec : ChangeSpec := { name := "windowIn", fn := fun _ => fun
  | [d] => { results := [.lit (.bool true)], args := [d] }
  | _ => none }
def windowInRow : OpenClaim := { program := "ytedhckojeephaaa", sum := "62333afa8358915864b21a8e4fd18e567cb19925aed26aee5e32f291168cb925", func := "trefoil/trefoillaw13.WindowIn", spec := "windowIn", unfollowed := true, recurses := true, apart := false }
def WindowInSaid : Prop := windowInRow.holds Try.pinned (OpenSpec.ofChange windowInSpec)

/-- ITS FALSE NEIGHBOUR: 'it returns false'. Refute it at one input. -/
def windowInWrong : ChangeSpec := { name := "windowIn", fn := fun _ => fun
  | [d] => { results := [.lit (.bool false)], args := [d] }
  | _ => none }
def WindowInWrongFalsely : Prop := windowInRow.holds Try.pinned (OpenSpec.ofChange windowInWrong)

/-- 'trefoillaw13.WindowNobody': WHATEVER THE INPUT: true; the input reads as it did. -/
def windowNobodySpec : ChangeSpec := { name := "windowNobody", fn := fun _ => fun
  | [d1, d2] => { results := [.lit (.bool true)], args := [d1, d2] }
  | _ => none }
def windowNobodyRow : OpenClaim := { program := "ytedhckojeephaaa", sum := "62333afa8358915864b21a8e4fd18e567cb19925aed26aee5e32f291168cb925", func := "trefoil/trefoillaw13.WindowNobody", spec := "windowNobody", unfollowed := true, recurses := true, apart := false }
def WindowNobodySaid : Prop := windowNobodyRow.holds Try.pinned (OpenSpec.ofChange windowNobodySpec)

/-- ITS FALSE NEIGHBOUR: 'it returns false'. Refute it at one input. -/
def windowNobodyWrong : ChangeSpec := { name := "windowNobody", fn := fun _ => fun
  | [d1, d2] => { results := [.lit (.bool false)], args := [d1, d2] }
  | _ => none }
def WindowNobodyWrongFalsely : Prop := windowNobodyRow.holds Try.pinned (OpenSpec.ofChange windowNobodyWrong)

/- THE SECOND FORM. 'bulk': how many values and letters a reading holds, each counted each time it is reached (what is shared counts as often as it is met; a slice's spare places count too). A statement '..UptoSaid' is the law's where the arguments, and the package variables that the reading takes, are together of bulk at most 1048576: NARROWER than '..Said'. Prove '..Said' where nothing that the law and all that it calls make is longer than what came in: it says more and counts as full. Else prove '..UptoSaid'. A law counts once. -/
mutual
def uptoBulk {H : Type} : DataW H → Nat
  | .lit (.string bytes) => bytes.length + 1
  | .lit _ => 1
  | .nil => 1
  | .ptr d => uptoBulk d + 1
  | .slice elems spare => uptoBulkAll elems + uptoBulkAll spare + 1
  | .agg parts => uptoBulkAll parts + 1
  | .iface _ d => uptoBulk d + 1
  | .map entries => uptoBulkEntries entries + 1
  | .held _ => 1
def uptoBulkAll {H : Type} : List (DataW H) → Nat
  | [] => 0
  | d :: r => uptoBulk d + uptoBulkAll r
def uptoBulkEntries {H : Type} : List (Lit × DataW H) → Nat
  | [] => 0
  | x :: r => uptoBulkEntry x + uptoBulkEntries r
def uptoBulkEntry {H : Type} : Lit × DataW H → Nat
  | (.string bytes, d) => bytes.length + uptoBulk d + 1
  | (_, d) => uptoBulk d + 1
 end
def uptoSmall : (H : Type) → List (DataW H) → Bool := fun _ ds => decide (uptoBulkAll ds ≤ 1048576)
def OpenSpec.upto (s : _root_.Go.ChangeSpec) : _root_.Go.OpenSpec := { _root_.Go.OpenSpec.ofChange s with cond := some uptoSmall }

/-- 'trefoillaw13.WindowOut', WHERE WHAT IT READS IS OF BULK AT MOST 1048576: true; the input reads as it did. -/
def windowOutUptoRow : OpenClaim := { program := "ytedhckojeephaaa", sum := "62333afa8358915864b21a8e4fd18e567cb19925aed26aee5e32f291168cb925", func := "trefoil/trefoillaw13.WindowOut", spec := "windowOut", apart := false, narrowed := true }
def WindowOutUptoSaid : Prop := windowOutUptoRow.holds Try.pinned (OpenSpec.upto windowOutSpec)

/-- 'trefoillaw13.WindowOnce', WHERE WHAT IT READS IS OF BULK AT MOST 1048576: true; the input reads as it did. -/
def windowOnceUptoRow : OpenClaim := { program := "ytedhckojeephaaa", sum := "62333afa8358915864b21a8e4fd18e567cb19925aed26aee5e32f291168cb925", func := "trefoil/trefoillaw13.WindowOnce", spec := "windowOnce", apart := false, narrowed := true }
def WindowOnceUptoSaid : Prop := windowOnceUptoRow.holds Try.pinned (OpenSpec.upto windowOnceSpec)

/-- 'trefoillaw12.NetTrue', WHERE WHAT IT READS IS OF BULK AT MOST 1048576: true; the input reads as it did. -/
def netTrueUptoRow : OpenClaim := { program := "ytedhckojeephaaa", sum := "62333afa8358915864b21a8e4fd18e567cb19925aed26aee5e32f291168cb925", func := "trefoil/trefoillaw12.NetTrue", spec := "netTrue", apart := false, narrowed := true }
def NetTrueUptoSaid : Prop := netTrueUptoRow.holds Try.pinned (OpenSpec.upto netTrueSpec)

/-- 'trefoillaw12.NetPlays', WHERE WHAT IT READS IS OF BULK AT MOST 1048576: true; the input reads as it did. -/
def netPlaysUptoRow : OpenClaim := { program := "ytedhckojeephaaa", sum := "62333afa8358915864b21a8e4fd18e567cb19925aed26aee5e32f291168cb925", func := "trefoil/trefoillaw12.NetPlays", spec := "netPlays", apart := false, narrowed := true }
def NetPlaysUptoSaid : Prop := netPlaysUptoRow.holds Try.pinned (OpenSpec.upto netPlaysSpec)

/-- 'trefoillaw12.NetNobody', WHERE WHAT IT READS IS OF BULK AT MOST 1048576: true; the input reads as it did. -/
def netNobodyUptoRow : OpenClaim := { program := "ytedhckojeephaaa", sum := "62333afa8358915864b21a8e4fd18e567cb19925aed26aee5e32f291168cb925", func := "trefoil/trefoillaw12.NetNobody", spec := "netNobody", apart := false, narrowed := true }
def NetNobodyUptoSaid : Prop := netNobodyUptoRow.holds Try.pinned (OpenSpec.upto netNobodySpec)

/-- 'trefoillaw13.WindowIn', WHERE WHAT IT READS IS OF BULK AT MOST 1048576: true; the input reads as it did. -/
def windowInUptoRow : OpenClaim := { program := "ytedhckojeephaaa", sum := "62333afa8358915864b21a8e4fd18e567cb19925aed26aee5e32f291168cb925", func := "trefoil/trefoillaw13.WindowIn", spec := "windowIn", unfollowed := true, recurses := true, apart := false, narrowed := true }
def WindowInUptoSaid : Prop := windowInUptoRow.holds Try.pinned (OpenSpec.upto windowInSpec)

/-- 'trefoillaw13.WindowNobody', WHERE WHAT IT READS IS OF BULK AT MOST 1048576: true; the input reads as it did. -/
def windowNobodyUptoRow : OpenClaim := { program := "ytedhckojeephaaa", sum := "62333afa8358915864b21a8e4fd18e567cb19925aed26aee5e32f291168cb925", func := "trefoil/trefoillaw13.WindowNobody", spec := "windowNobody", unfollowed := true, recurses := true, apart := false, narrowed := true }
def WindowNobodyUptoSaid : Prop := windowNobodyUptoRow.holds Try.pinned (OpenSpec.upto windowNobodySpec)

end Rows
end Go.Proofs.Ytedhckojeephaaa
