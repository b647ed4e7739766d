/- stream.New: slices.Clone of chunks. -/
import Derived.BigQuiet
import Derived.Deep.AppendLies
import Derived.Deep.DrawnRows
import Derived.Deep.RegionHeld3
import Derived.Deep.RegionLaw
import Derived.Deep.RegionWith
import Derived.IntWalk
import Derived.Lib.Hide
import Derived.Outline
import Derived.Test.YtojimoebbinhdaaTrPx0
import Derived.WalkSpells
import Derived.Test.YtojimoebbinhdaaTrK1
namespace Go.Proofs.Ytojimoebbinhdaa.P
open Go.RowKit Go.Proofs.YtojimoebbinhdaaW.PrintWords Go.Proofs.YtojimoebbinhdaaW.PrintLast Go.Proofs.YtojimoebbinhdaaW.PrintMore
set_option linter.unusedVariables false
set_option linter.unusedSimpArgs false

/-! ### clone_chunks: function 38 -/
abbrev z32V : Value := .agg #[.int .u64 0, .int .i64 0, .int .i64 0]
set_option maxHeartbeats 400000 in
theorem clone_chunks (A : Option Addr) (c : Nat) (l : List S32) (w : World) (hr : k32.C w A l.length l) (hs : l.length * 24 ≤ 140737488355328) :
    Calls Try.prog 38 #[.slice A l.length c] w fun e w' => ∃ v, e = .returned v ∧ k32.R 32 w' w.heap.size (fun _ => True) v l ∧ Below w.heap.size w w' := by
  have q : ∀ (w : World) (a : Option Addr) (n c n' c' : Nat), (binOp .eql 23 (.slice a n c) (.slice none n' c')).run Try.prog w = .ok (.bool a.isNone) w := fun w a n c n' c' => Lib.run_eql_slice_nil w _ _ a n c n' c' Try.underlying23
  have HR := Aside0.mk hr
  clear hr
  cases A with
  | none =>
    have HL := Aside0.mk (C_none HR.out)
    go_enter Try.func38, Try.ntmps38
    go_wp2
    go_ret
    refine ⟨_, rfl, ?_, Below.refl _ _⟩
    rw [HL.out]
    exact Kd.R_nil _ _ _ _ _
  | some ad =>
    go_enter Try.func38, Try.ntmps38
    go_wp2_with (at_builtin; refine Kd.R_append_rows k32 (Rr := k32.K w) (w0 := w) w.heap.size rfl (.tmp 5) (.tmp 6) 23 32 z32V 24 rfl Try.underlying23 info32 rfl (by decide) (by omega) (.slice (some ⟨w.heap.size, 0, none⟩) 0 0) [] l (some ad) l.length c (fun _ => True) (fun _ => False) rfl rfl ?aO ?aR ?aK (fun _ hk => hk.elim) (fun _ _ => trivial) ?aB ?aS ?aL ?_; (case aO => exact R_empty _ _ _ _ trivial (Nat.le_refl _)); (case aR => exact Kd.C_alloc HR.out _); (case aK => exact fun x cs h => by rw [k32_open h]; exact k32_mkM _ _ _ x); (case aB => exact below_alloc (Below.refl _ _) _); (case aS => simp); (case aL => simpa using hs); intro v w1 ho hb hg hat)
    go_ret
    exact ⟨v, rfl, ho, hb⟩
end Go.Proofs.Ytojimoebbinhdaa.P
