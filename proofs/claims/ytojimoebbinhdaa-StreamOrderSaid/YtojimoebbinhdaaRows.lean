/-
  No cell of these rows narrows 'for every input' (looked for: loops, veiled, ifaces, maps, wideKeys, modest, calm, conditions, laid).
  DERIVED. THE GIVEN ROWS OF THIS SEAT. 8 by the template 'for every input the law returns true; each argument reads behind the call as it read before'; 0 by the template 'total and deterministic' (their statements: YtojimoebbinhdaaTotals.lean).
  GIVEN WITH THE SEED: the statements are not yours to turn. If you find one false, say at which input.
  Laid BY PROGRAM, IN A SANDBOX (cutbox-rows.mjs): the forced cells as the released guide's own fill.sh prints them over the translation bd632199082a05bd… (all of the seat's roots in one cut). By AI agents, Wed Nov 11 2026. No macro, syntax, notation, axiom, sorry.
-/
import Derived.Test.YtojimoebbinhdaaChecked
import GoSem.Claim
import GoSem.ClaimJoined
import GoSem.ClaimMapViews
import Derived.JoinedTies
import Derived.KernelRfl
namespace Go.Proofs.Ytojimoebbinhdaa
/- THE CELL 'sum', in the pinned program and in every row, IS THE sha256 OF THE DUMP (.gsa) THAT YtojimoebbinhdaaProg.lean LOADS. Nothing in Lean hashes anything: it is a label: what it is worth is what the hold of that sum in a sandbox is worth. -/
noncomputable def Try.pinned : Pinned := { name := "ytojimoebbinhdaa", sum := "bd632199082a05bd9395205e71d82115e5dcfd4990ac34861fadf70f306535ff", checked := Try.checked }
namespace Rows
def none {H : Type} : Left H := { results := [], args := [] }

/-- 'trefoillaw20.StreamPlans': WHATEVER THE INPUT: true; the input reads as it did. -/
def streamPlansSpec : ChangeSpec := { name := "streamPlans", fn := fun _ => fun
  | [d1, d2] => { results := [.lit (.bool true)], args := [d1, d2] }
  | _ => none }
def streamPlansRow : OpenClaim := { program := "ytojimoebbinhdaa", sum := "bd632199082a05bd9395205e71d82115e5dcfd4990ac34861fadf70f306535ff", func := "trefoil/trefoillaw20.StreamPlans", spec := "streamPlans", apart := false }
def StreamPlansSaid : Prop := streamPlansRow.holds Try.pinned (OpenSpec.ofChange streamPlansSpec)

/-- ITS FALSE NEIGHBOUR: 'it returns false'. Refute it at one input. -/
def streamPlansWrong : ChangeSpec := { name := "streamPlans", fn := fun _ => fun
  | [d1, d2] => { results := [.lit (.bool false)], args := [d1, d2] }
  | _ => none }
def StreamPlansWrongFalsely : Prop := streamPlansRow.holds Try.pinned (OpenSpec.ofChange streamPlansWrong)

/-- 'trefoillaw29.SampleRests': WHATEVER THE INPUT: true; the input reads as it did. -/
def sampleRestsSpec : ChangeSpec := { name := "sampleRests", fn := fun _ => fun
  | [d1, d2] => { results := [.lit (.bool true)], args := [d1, d2] }
  | _ => none }
def sampleRestsRow : OpenClaim := { program := "ytojimoebbinhdaa", sum := "bd632199082a05bd9395205e71d82115e5dcfd4990ac34861fadf70f306535ff", func := "trefoil/trefoillaw29.SampleRests", spec := "sampleRests", apart := false }
def SampleRestsSaid : Prop := sampleRestsRow.holds Try.pinned (OpenSpec.ofChange sampleRestsSpec)

/-- ITS FALSE NEIGHBOUR: 'it returns false'. Refute it at one input. -/
def sampleRestsWrong : ChangeSpec := { name := "sampleRests", fn := fun _ => fun
  | [d1, d2] => { results := [.lit (.bool false)], args := [d1, d2] }
  | _ => none }
def SampleRestsWrongFalsely : Prop := sampleRestsRow.holds Try.pinned (OpenSpec.ofChange sampleRestsWrong)

/-- 'trefoillaw20.StreamCounts': WHATEVER THE INPUT: true; the input reads as it did. -/
def streamCountsSpec : ChangeSpec := { name := "streamCounts", fn := fun _ => fun
  | [d] => { results := [.lit (.bool true)], args := [d] }
  | _ => none }
def streamCountsRow : OpenClaim := { program := "ytojimoebbinhdaa", sum := "bd632199082a05bd9395205e71d82115e5dcfd4990ac34861fadf70f306535ff", func := "trefoil/trefoillaw20.StreamCounts", spec := "streamCounts", apart := false }
def StreamCountsSaid : Prop := streamCountsRow.holds Try.pinned (OpenSpec.ofChange streamCountsSpec)

/-- ITS FALSE NEIGHBOUR: 'it returns false'. Refute it at one input. -/
def streamCountsWrong : ChangeSpec := { name := "streamCounts", fn := fun _ => fun
  | [d] => { results := [.lit (.bool false)], args := [d] }
  | _ => none }
def StreamCountsWrongFalsely : Prop := streamCountsRow.holds Try.pinned (OpenSpec.ofChange streamCountsWrong)

/-- 'trefoillaw29.SampleOf': WHATEVER THE INPUT: true; the input reads as it did. -/
def sampleOfSpec : ChangeSpec := { name := "sampleOf", fn := fun _ => fun
  | [d1, d2] => { results := [.lit (.bool true)], args := [d1, d2] }
  | _ => none }
def sampleOfRow : OpenClaim := { program := "ytojimoebbinhdaa", sum := "bd632199082a05bd9395205e71d82115e5dcfd4990ac34861fadf70f306535ff", func := "trefoil/trefoillaw29.SampleOf", spec := "sampleOf", unfollowed := true, recurses := true, apart := false }
def SampleOfSaid : Prop := sampleOfRow.holds Try.pinned (OpenSpec.ofChange sampleOfSpec)

/-- ITS FALSE NEIGHBOUR: 'it returns false'. Refute it at one input. -/
def sampleOfWrong : ChangeSpec := { name := "sampleOf", fn := fun _ => fun
  | [d1, d2] => { results := [.lit (.bool false)], args := [d1, d2] }
  | _ => none }
def SampleOfWrongFalsely : Prop := sampleOfRow.holds Try.pinned (OpenSpec.ofChange sampleOfWrong)

/-- 'trefoillaw20.StreamNobody': WHATEVER THE INPUT: true; the input reads as it did. -/
def streamNobodySpec : ChangeSpec := { name := "streamNobody", fn := fun _ => fun
  | [d1, d2] => { results := [.lit (.bool true)], args := [d1, d2] }
  | _ => none }
def streamNobodyRow : OpenClaim := { program := "ytojimoebbinhdaa", sum := "bd632199082a05bd9395205e71d82115e5dcfd4990ac34861fadf70f306535ff", func := "trefoil/trefoillaw20.StreamNobody", spec := "streamNobody", apart := false }
def StreamNobodySaid : Prop := streamNobodyRow.holds Try.pinned (OpenSpec.ofChange streamNobodySpec)

/-- ITS FALSE NEIGHBOUR: 'it returns false'. Refute it at one input. -/
def streamNobodyWrong : ChangeSpec := { name := "streamNobody", fn := fun _ => fun
  | [d1, d2] => { results := [.lit (.bool false)], args := [d1, d2] }
  | _ => none }
def StreamNobodyWrongFalsely : Prop := streamNobodyRow.holds Try.pinned (OpenSpec.ofChange streamNobodyWrong)

/-- 'trefoillaw20.StreamOrder': WHATEVER THE INPUT: true; the input reads as it did. -/
def streamOrderSpec : ChangeSpec := { name := "streamOrder", fn := fun _ => fun
  | [d1, d2, d3, d4] => { results := [.lit (.bool true)], args := [d1, d2, d3, d4] }
  | _ => none }
def streamOrderRow : OpenClaim := { program := "ytojimoebbinhdaa", sum := "bd632199082a05bd9395205e71d82115e5dcfd4990ac34861fadf70f306535ff", func := "trefoil/trefoillaw20.StreamOrder", spec := "streamOrder", apart := false }
def StreamOrderSaid : Prop := streamOrderRow.holds Try.pinned (OpenSpec.ofChange streamOrderSpec)

/-- ITS FALSE NEIGHBOUR: 'it returns false'. Refute it at one input. -/
def streamOrderWrong : ChangeSpec := { name := "streamOrder", fn := fun _ => fun
  | [d1, d2, d3, d4] => { results := [.lit (.bool false)], args := [d1, d2, d3, d4] }
  | _ => none }
def StreamOrderWrongFalsely : Prop := streamOrderRow.holds Try.pinned (OpenSpec.ofChange streamOrderWrong)

/-- 'trefoillaw29.SampleShuffles': WHATEVER THE INPUT: true; the input reads as it did. -/
def sampleShufflesSpec : ChangeSpec := { name := "sampleShuffles", fn := fun _ => fun
  | [d1, d2, d3] => { results := [.lit (.bool true)], args := [d1, d2, d3] }
  | _ => none }
def sampleShufflesRow : OpenClaim := { program := "ytojimoebbinhdaa", sum := "bd632199082a05bd9395205e71d82115e5dcfd4990ac34861fadf70f306535ff", func := "trefoil/trefoillaw29.SampleShuffles", spec := "sampleShuffles", recurses := true, apart := false }
def SampleShufflesSaid : Prop := sampleShufflesRow.holds Try.pinned (OpenSpec.ofChange sampleShufflesSpec)

/-- ITS FALSE NEIGHBOUR: 'it returns false'. Refute it at one input. -/
def sampleShufflesWrong : ChangeSpec := { name := "sampleShuffles", fn := fun _ => fun
  | [d1, d2, d3] => { results := [.lit (.bool false)], args := [d1, d2, d3] }
  | _ => none }
def SampleShufflesWrongFalsely : Prop := sampleShufflesRow.holds Try.pinned (OpenSpec.ofChange sampleShufflesWrong)

/-- 'trefoillaw29.SampleWhole': WHATEVER THE INPUT: true; the input reads as it did. -/
def sampleWholeSpec : ChangeSpec := { name := "sampleWhole", fn := fun _ => fun
  | [d1, d2, d3] => { results := [.lit (.bool true)], args := [d1, d2, d3] }
  | _ => none }
def sampleWholeRow : OpenClaim := { program := "ytojimoebbinhdaa", sum := "bd632199082a05bd9395205e71d82115e5dcfd4990ac34861fadf70f306535ff", func := "trefoil/trefoillaw29.SampleWhole", spec := "sampleWhole", recurses := true, apart := false }
def SampleWholeSaid : Prop := sampleWholeRow.holds Try.pinned (OpenSpec.ofChange sampleWholeSpec)

/-- ITS FALSE NEIGHBOUR: 'it returns false'. Refute it at one input. -/
def sampleWholeWrong : ChangeSpec := { name := "sampleWhole", fn := fun _ => fun
  | [d1, d2, d3] => { results := [.lit (.bool false)], args := [d1, d2, d3] }
  | _ => none }
def SampleWholeWrongFalsely : Prop := sampleWholeRow.holds Try.pinned (OpenSpec.ofChange sampleWholeWrong)

/- THE SECOND FORM. 'bulk': how many values and letters a reading holds, each counted each time it is reached (what is shared counts as often as it is met; a slice's spare places count too). A statement '..UptoSaid' is the law's where the arguments, and the package variables that the reading takes, are together of bulk at most 1048576: NARROWER than '..Said'. Prove '..Said' where nothing that the law and all that it calls make is longer than what came in: it says more and counts as full. Else prove '..UptoSaid'. A law counts once. -/
mutual
def uptoBulk {H : Type} : DataW H → Nat
  | .lit (.string bytes) => bytes.length + 1
  | .lit _ => 1
  | .nil => 1
  | .ptr d => uptoBulk d + 1
  | .slice elems spare => uptoBulkAll elems + uptoBulkAll spare + 1
  | .agg parts => uptoBulkAll parts + 1
  | .iface _ d => uptoBulk d + 1
  | .map entries => uptoBulkEntries entries + 1
  | .held _ => 1
def uptoBulkAll {H : Type} : List (DataW H) → Nat
  | [] => 0
  | d :: r => uptoBulk d + uptoBulkAll r
def uptoBulkEntries {H : Type} : List (Lit × DataW H) → Nat
  | [] => 0
  | x :: r => uptoBulkEntry x + uptoBulkEntries r
def uptoBulkEntry {H : Type} : Lit × DataW H → Nat
  | (.string bytes, d) => bytes.length + uptoBulk d + 1
  | (_, d) => uptoBulk d + 1
 end
def uptoSmall : (H : Type) → List (DataW H) → Bool := fun _ ds => decide (uptoBulkAll ds ≤ 1048576)
def OpenSpec.upto (s : _root_.Go.ChangeSpec) : _root_.Go.OpenSpec := { _root_.Go.OpenSpec.ofChange s with cond := some uptoSmall }

/-- 'trefoillaw20.StreamPlans', WHERE WHAT IT READS IS OF BULK AT MOST 1048576: true; the input reads as it did. -/
def streamPlansUptoRow : OpenClaim := { program := "ytojimoebbinhdaa", sum := "bd632199082a05bd9395205e71d82115e5dcfd4990ac34861fadf70f306535ff", func := "trefoil/trefoillaw20.StreamPlans", spec := "streamPlans", apart := false, narrowed := true }
def StreamPlansUptoSaid : Prop := streamPlansUptoRow.holds Try.pinned (OpenSpec.upto streamPlansSpec)

/-- 'trefoillaw29.SampleRests', WHERE WHAT IT READS IS OF BULK AT MOST 1048576: true; the input reads as it did. -/
def sampleRestsUptoRow : OpenClaim := { program := "ytojimoebbinhdaa", sum := "bd632199082a05bd9395205e71d82115e5dcfd4990ac34861fadf70f306535ff", func := "trefoil/trefoillaw29.SampleRests", spec := "sampleRests", apart := false, narrowed := true }
def SampleRestsUptoSaid : Prop := sampleRestsUptoRow.holds Try.pinned (OpenSpec.upto sampleRestsSpec)

/-- 'trefoillaw20.StreamCounts', WHERE WHAT IT READS IS OF BULK AT MOST 1048576: true; the input reads as it did. -/
def streamCountsUptoRow : OpenClaim := { program := "ytojimoebbinhdaa", sum := "bd632199082a05bd9395205e71d82115e5dcfd4990ac34861fadf70f306535ff", func := "trefoil/trefoillaw20.StreamCounts", spec := "streamCounts", apart := false, narrowed := true }
def StreamCountsUptoSaid : Prop := streamCountsUptoRow.holds Try.pinned (OpenSpec.upto streamCountsSpec)

/-- 'trefoillaw29.SampleOf', WHERE WHAT IT READS IS OF BULK AT MOST 1048576: true; the input reads as it did. -/
def sampleOfUptoRow : OpenClaim := { program := "ytojimoebbinhdaa", sum := "bd632199082a05bd9395205e71d82115e5dcfd4990ac34861fadf70f306535ff", func := "trefoil/trefoillaw29.SampleOf", spec := "sampleOf", unfollowed := true, recurses := true, apart := false, narrowed := true }
def SampleOfUptoSaid : Prop := sampleOfUptoRow.holds Try.pinned (OpenSpec.upto sampleOfSpec)

/-- 'trefoillaw20.StreamNobody', WHERE WHAT IT READS IS OF BULK AT MOST 1048576: true; the input reads as it did. -/
def streamNobodyUptoRow : OpenClaim := { program := "ytojimoebbinhdaa", sum := "bd632199082a05bd9395205e71d82115e5dcfd4990ac34861fadf70f306535ff", func := "trefoil/trefoillaw20.StreamNobody", spec := "streamNobody", apart := false, narrowed := true }
def StreamNobodyUptoSaid : Prop := streamNobodyUptoRow.holds Try.pinned (OpenSpec.upto streamNobodySpec)

/-- 'trefoillaw20.StreamOrder', WHERE WHAT IT READS IS OF BULK AT MOST 1048576: true; the input reads as it did. -/
def streamOrderUptoRow : OpenClaim := { program := "ytojimoebbinhdaa", sum := "bd632199082a05bd9395205e71d82115e5dcfd4990ac34861fadf70f306535ff", func := "trefoil/trefoillaw20.StreamOrder", spec := "streamOrder", apart := false, narrowed := true }
def StreamOrderUptoSaid : Prop := streamOrderUptoRow.holds Try.pinned (OpenSpec.upto streamOrderSpec)

/-- 'trefoillaw29.SampleShuffles', WHERE WHAT IT READS IS OF BULK AT MOST 1048576: true; the input reads as it did. -/
def sampleShufflesUptoRow : OpenClaim := { program := "ytojimoebbinhdaa", sum := "bd632199082a05bd9395205e71d82115e5dcfd4990ac34861fadf70f306535ff", func := "trefoil/trefoillaw29.SampleShuffles", spec := "sampleShuffles", recurses := true, apart := false, narrowed := true }
def SampleShufflesUptoSaid : Prop := sampleShufflesUptoRow.holds Try.pinned (OpenSpec.upto sampleShufflesSpec)

/-- 'trefoillaw29.SampleWhole', WHERE WHAT IT READS IS OF BULK AT MOST 1048576: true; the input reads as it did. -/
def sampleWholeUptoRow : OpenClaim := { program := "ytojimoebbinhdaa", sum := "bd632199082a05bd9395205e71d82115e5dcfd4990ac34861fadf70f306535ff", func := "trefoil/trefoillaw29.SampleWhole", spec := "sampleWhole", recurses := true, apart := false, narrowed := true }
def SampleWholeUptoSaid : Prop := sampleWholeUptoRow.holds Try.pinned (OpenSpec.upto sampleWholeSpec)

end Rows
end Go.Proofs.Ytojimoebbinhdaa
