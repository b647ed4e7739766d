/- Bodies that came (window.In): Take. -/
import Derived.BigQuiet
import Derived.Deep.AppendLies
import Derived.Deep.DrawnRows
import Derived.Deep.RegionHeld3
import Derived.Deep.RegionLaw
import Derived.IntWalk
import Derived.Lib.Hide
import Derived.Outline
import Derived.Test.YtedhckojeephaaaWxPx0
import Derived.WalkSpells
import Derived.Test.YtedhckojeephaaaWxK9
namespace Go.Proofs.Ytedhckojeephaaa.P
open Go.RowKit Go.Maps Go.Proofs.YtedhckojeephaaaW.PrintWords Go.Proofs.YtedhckojeephaaaW.PrintLast Go.Proofs.YtedhckojeephaaaW.PrintMore
set_option linter.unusedVariables false
set_option linter.unusedSimpArgs false
attribute [local go_sem ↓] Go.wp_at_zero Go.wp_at_succ

/-! ### window_steps: words -/
theorem zeroElem : plainElem (H := Unit) Try.prog 9 (.string ⟨#[]⟩) = some (.lit (.string (⟨#[]⟩ : ByteArray).data.toList), []) := plainElem_string Try.underlying9 (by decide)
theorem look_none {D : DU} {M : Int → Option ByteArray} (h : HasM D M) {k : Int} (hs : M k = none) {v : Value} {ps : List MemPlace} (hv : plainElem Try.prog 9 v = some (D.atKey (.int .u32 k) (.lit (.string (⟨#[]⟩ : ByteArray).data.toList)), ps)) : v = .string ⟨#[]⟩ := by
  have hn : has D (.int .u32 k) = false := by rw [(h k).1, hs]; rfl
  rw [atKey_of_not_has hn] at hv
  obtain ⟨t, rfl, ht, _⟩ := plainElem_string_inv Try.underlying9 hv
  have e := Lit.string.inj (DataW.lit.inj (Prod.mk.inj ht).1)
  have e2 : (⟨#[]⟩ : ByteArray) = t := ByteArray.ext (Array.toList_inj.1 e)
  rw [e2]
def lookV (o : Option ByteArray) : Value := match o with | some s => .tuple #[.string s, .bool true] | none => .tuple #[.string ⟨#[]⟩, .bool false]
theorem look_run {w : World} {b n : Nat} {D : DU} {M : Int → Option ByteArray} (h : Own22 w b n D) (hM : HasM D M) {k : Int} (hk : (Lit.int .u32 k).wf = true) : (Instr.lookup 53 (.map (some b)) (.int .u32 k) true).run Try.prog w = .ok (lookV (M k)) w := by
  obtain ⟨v, ps, hrun, hv⟩ := h.look_ok law22 Try.underlying53 (zeroS w) zeroElem (keyOf_int_mk Try.underlying22 hk)
  rw [hrun, (hM k).1]
  cases hs : M k with
  | none => rw [look_none hM hs hv]; rfl
  | some s => rw [look_some hM hs hv]; rfl
theorem look_run_nil (w : World) {k : Int} (hk : (Lit.int .u32 k).wf = true) : (Instr.lookup 53 (.map none) (.int .u32 k) true).run Try.prog w = .ok (.tuple #[.string ⟨#[]⟩, .bool false]) w :=
  Maps.look_nil true law22 Try.underlying53 (zeroS w) (keyOf_int_mk Try.underlying22 hk)
section
variable {P : Program} {ops : Array Oper} {o : Oper} {a : Act} {w : World} {K : Act → World → Prop} {Q : Exit → Act → World → Prop} {E : Prop}
theorem step_delete22 (hg : o.guard = none) (m x : Operand) (hop : o.op = Op.call { callee := Callee.builtin Builtin.delete, args := #[m, x], argTypes := #[53, 22] })
    (b n : Nat) (D : DU) (hm : a.eval m = .map (some b)) (hown : Own22 w b n D) (k : Int) (hx : a.eval x = .int .u32 k) (hk : (Lit.int .u32 k).wf = true)
    (hK : ∀ w', Own22 w' b n (D.del (.int .u32 k)) → w.grownBy w' (some b) → K (a.put o.dst (.tuple #[])) w') :
    if Region.wanted o (yielded ops a.tmps) = true then Oper.wp Try.prog o a w K Q else E := by
  have hw : Region.wanted o (yielded ops a.tmps) = true := by simp [Region.wanted, hg]
  rw [if_pos hw]
  obtain ⟨w', hrun, r1, r2⟩ := hown.drop law22 Try.underlying53 (keyOf_int_mk Try.underlying22 hk) o.type
  unfold Oper.wp
  simp [execOp, hop, resolve, invoke, builtin, hm, hx, hrun, Result.andThen]
  exact hK w' r1 r2.grown
end
end Go.Proofs.Ytedhckojeephaaa.P
