/- Bodies that came (window.In): the map in its field, and Take. -/
import Derived.BigQuiet
import Derived.Deep.AppendLies
import Derived.Deep.DrawnRows
import Derived.Deep.RegionHeld3
import Derived.Deep.RegionLaw
import Derived.IntWalk
import Derived.Lib.Hide
import Derived.Maps.StringElems
import Derived.Outline
import Derived.Test.YtedhckojeephaaaWxPx0
import Derived.WalkSpells
namespace Go.Proofs.Ytedhckojeephaaa.P
open Go.RowKit Go.Maps Go.Proofs.YtedhckojeephaaaW.PrintWords Go.Proofs.YtedhckojeephaaaW.PrintLast Go.Proofs.YtedhckojeephaaaW.PrintMore
set_option linter.unusedVariables false
set_option linter.unusedSimpArgs false
attribute [local go_sem ↓] Go.wp_at_zero Go.wp_at_succ

/-! ### window_map: words -/
theorem law22 : Keyed Try.prog 22 := int_keyed Try.underlying22
theorem zeroS (w : World) : (zeroValue 9).run Try.prog w = .ok (.string ⟨#[]⟩) w := by kernel_rfl
abbrev DU := DataW Unit
/-- the datum reads as what M holds -/
def HasM (D : DU) (M : Int → Option ByteArray) : Prop := ∀ k : Int, has D (.int .u32 k) = (M k).isSome ∧ ∀ s, M k = some s → ∀ z, D.atKey (.int .u32 k) z = .lit (.string s.data.toList)
def putM (M : Int → Option ByteArray) (k : Int) (s : ByteArray) : Int → Option ByteArray := fun j => if j = k then some s else M j
def delM (M : Int → Option ByteArray) (k : Int) : Int → Option ByteArray := fun j => if j = k then none else M j
theorem key32 (k : Int) : WideAt.IsKeyLit (.int .u32 k) := by first | exact trivial | simp [WideAt.IsKeyLit] | exact ⟨⟩
theorem hasM_empty : HasM (.map []) (fun _ => none) := fun k => ⟨rfl, fun s h => by cases h⟩
theorem HasM.put {D : DU} {M : Int → Option ByteArray} (h : HasM D M) (hD : IsMap D) (k : Int) (s : ByteArray) : HasM (D.put (.int .u32 k) (.lit (.string s.data.toList))) (putM M k s) := fun j => by
  unfold putM
  by_cases e : j = k
  · subst e
    rw [if_pos rfl, has_put_same hD (key32 j)]
    exact ⟨rfl, fun t ht z => by cases ht; exact atKey_put_same hD (key32 j) _ z⟩
  · have hne : (Lit.int .u32 j) ≠ .int .u32 k := fun q => e (by injection q)
    rw [if_neg e, has_put_other hne]
    exact ⟨(h j).1, fun t ht z => by rw [atKey_put_other hne]; exact (h j).2 t ht z⟩
theorem HasM.del {D : DU} {M : Int → Option ByteArray} (h : HasM D M) (k : Int) : HasM (D.del (.int .u32 k)) (delM M k) := fun j => by
  unfold delM
  by_cases e : j = k
  · subst e
    rw [if_pos rfl, has_del_same]
    exact ⟨rfl, fun t ht z => by cases ht⟩
  · have hne : (Lit.int .u32 j) ≠ .int .u32 k := fun q => e (by injection q)
    rw [if_neg e, has_del_other hne]
    exact ⟨(h j).1, fun t ht z => by rw [atKey_del_other hne]; exact (h j).2 t ht z⟩
abbrev Own22 (w : World) (b n : Nat) (D : DU) : Prop := w.ownsMap Try.prog 22 (plainElem Try.prog 9) b n D
/-- what a look-up gives: the string itself -/
theorem look_some {D : DU} {M : Int → Option ByteArray} (h : HasM D M) {k : Int} {s : ByteArray} (hs : M k = some s) {v : Value} {ps : List MemPlace} {z : DU} (hv : plainElem Try.prog 9 v = some (D.atKey (.int .u32 k) z, ps)) : v = .string s := by
  rw [(h k).2 s hs z] at hv
  obtain ⟨t, rfl, ht, _⟩ := plainElem_string_inv Try.underlying9 hv
  have e : s.data.toList = t.data.toList := Lit.string.inj (DataW.lit.inj (Prod.mk.inj ht).1)
  have e2 : s = t := ByteArray.ext (Array.toList_inj.1 e)
  rw [e2]
/-- the field: nil, or a map in a block of the call's own -/
def HeldIs (w0 w : World) (mv : Value) (n : Nat) (M : Int → Option ByteArray) : Prop :=
  (mv = .map none ∧ M = fun _ => none) ∨ ∃ b D, mv = .map (some b) ∧ w0.heap.size ≤ b ∧ Own22 w b n D ∧ HasM D M
/-- a window at g: its base, and what it holds -/
def InIs (w0 w : World) (g n : Nat) (base : Int) (M : Int → Option ByteArray) : Prop :=
  ∃ mv, w.heap[g]? = some (.cells #[.int .u32 base, mv] 55 (0, 0)) ∧ w0.heap.size ≤ g ∧ HeldIs w0 w mv n M
/-- what a call on the window at g leaves alone -/
def InKeeps (w0 w w' : World) (g : Nat) : Prop := Below w0.heap.size w0 w' ∧ w.heap.size ≤ w'.heap.size ∧ ∀ k cs t fr, k ≠ g → w.heap[k]? = some (.cells cs t fr) → w'.heap[k]? = some (.cells cs t fr)
theorem own_ne {w : World} {b n : Nat} {D : DU} (h : Own22 w b n D) {k : Nat} {cs : Array Value} {t : Nat} {fr : Nat × Nat} (hk : w.heap[k]? = some (.cells cs t fr)) : k ≠ b := fun e => by
  obtain ⟨es, clock, hb, _⟩ := h
  rw [e, hb] at hk
  cases hk
/-- the bodies that are in order now -/
def runM (M : Int → Option ByteArray) : Nat → Int → List ByteArray
  | 0, _ => []
  | k + 1, b => match M (b + 1) with
    | none => []
    | some s => s :: runM M k (b + 1)
end Go.Proofs.Ytedhckojeephaaa.P
