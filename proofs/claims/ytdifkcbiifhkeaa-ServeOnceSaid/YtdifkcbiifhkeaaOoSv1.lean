/- The table of tickets (serve.Table): its map of slots, and the slots. -/
import Derived.Below
import Derived.Deep.Draws
import Derived.Maps.AppendAt
import Derived.OwnWalk
import Derived.Laws.BytesArg
import Derived.Laws.MakeOwn
import Derived.Laws.OwnMore
import Derived.Deep.OwnRows
import Derived.Tactics
import Derived.Lib.ConvBytes
import Derived.Laws.Slices
import Derived.WalkKit
import Derived.KernelRfl
import Derived.RowKit3
import Derived.Deep.LoopGhost
import Derived.Deep.QuietTactic
import Derived.WideLaws
import Derived.Deep.DeepCutAuto
import Derived.Deep.CutBlock
import Derived.Laws.Rows
import Derived.Lib.AppendStr
import Derived.ArgAppend
import Derived.Laws.IdiomCopy
import Derived.OrdersHeld
import Derived.Laws.BitsLemmas
import Derived.RowKit
import Derived.Test.YtdifkcbiifhkeaaOoMine
import Derived.Test.YtdifkcbiifhkeaaOoChg
import Derived.Test.YtdifkcbiifhkeaaProg
import Derived.Maps.OwnSet
import Derived.Maps.StringElems
import Derived.Lib.Hide
import Derived.IntWalk
import Derived.WalkSpells
import Derived.Outline
import Derived.BigQuiet
import Derived.Deep.RegionHeld3
import Derived.Deep.DrawnRows
import Derived.Deep.RegionLaw
import Derived.Deep.AppendLies
namespace Go.Proofs.Ytdifkcbiifhkeaa.P
open Go.RowKit Go.Maps Go.Proofs.YtdifkcbiifhkeaaW.PrintWords Go.Proofs.YtdifkcbiifhkeaaW.PrintLast Go.Proofs.YtdifkcbiifhkeaaW.PrintMore
set_option linter.unusedVariables false
set_option linter.unusedSimpArgs false
attribute [local go_sem ↓] Go.wp_at_zero Go.wp_at_succ

/-! ### words -/
theorem lawI : Keyed Try.prog 3 := int_keyed Try.underlying3
theorem zeroP (w : World) : (zeroValue 47).run Try.prog w = .ok (.pointer none) w := by kernel_rfl
abbrev DU := DataW Unit
/-- how a pointer to a slot reads: by its block -/
def PR (v : Value) : Option (DU × List MemPlace) := match v with
  | .pointer none => some (.lit (.int .i64 (-1)), [])
  | .pointer (some ⟨b, 0, none⟩) => some (.lit (.int .i64 (b : Int)), [])
  | _ => none
theorem PR_inv {v : Value} {b : Nat} {ps : List MemPlace} (h : PR v = some (.lit (.int .i64 (b : Int)), ps)) : v = .pointer (some ⟨b, 0, none⟩) := by
  unfold PR at h
  split at h
  · injection h with h; injection h with h1 h2; injection h1 with h1; injection h1 with h1 h3; omega
  · rename_i b'
    injection h with h; injection h with h1 h2; injection h1 with h1; injection h1 with h1 h3
    obtain rfl : b' = b := by omega
    rfl
  · cases h
theorem PR_inv_none {v : Value} {ps : List MemPlace} (h : PR v = some (.lit (.int .i64 (-1)), ps)) : v = .pointer none := by
  unfold PR at h
  split at h
  · rfl
  · injection h with h; injection h with h1 h2; injection h1 with h1; injection h1 with h1 h3; omega
  · cases h
theorem keyI (k : Int) : WideAt.IsKeyLit (.int .i64 k) := by first | exact trivial | simp [WideAt.IsKeyLit] | exact ⟨⟩
/-- which slots there are, and in which blocks -/
abbrev Sm := Int → Option Nat
def HasP (D : DU) (M : Sm) : Prop := ∀ k : Int, has D (.int .i64 k) = (M k).isSome ∧ ∀ b, M k = some b → ∀ z, D.atKey (.int .i64 k) z = .lit (.int .i64 (b : Int))
def putP (M : Sm) (k : Int) (b : Nat) : Sm := fun j => if j = k then some b else M j
theorem hasP_empty : HasP (.map []) (fun _ => none) := fun k => ⟨rfl, fun s h => by cases h⟩
theorem HasP.put {D : DU} {M : Sm} (h : HasP D M) (hD : IsMap D) (k : Int) (b : Nat) : HasP (D.put (.int .i64 k) (.lit (.int .i64 (b : Int)))) (putP M k b) := fun j => by
  unfold putP
  by_cases e : j = k
  · subst e
    rw [if_pos rfl, has_put_same hD (keyI j)]
    exact ⟨rfl, fun t ht z => by cases ht; exact atKey_put_same hD (keyI j) _ z⟩
  · have hne : (Lit.int .i64 j) ≠ .int .i64 k := fun q => e (by injection q)
    rw [if_neg e, has_put_other hne]
    exact ⟨(h j).1, fun t ht z => by rw [atKey_put_other hne]; exact (h j).2 t ht z⟩
abbrev OwnP (w : World) (b n : Nat) (D : DU) : Prop := w.ownsMap Try.prog 3 PR b n D
def lookP (o : Option Nat) : Value := match o with | some b => .tuple #[.pointer (some ⟨b, 0, none⟩), .bool true] | none => .tuple #[.pointer none, .bool false]
theorem lookP_run {w : World} {b n : Nat} {D : DU} {M : Sm} (h : OwnP w b n D) (hM : HasP D M) {k : Int} (hk : (Lit.int .i64 k).wf = true) : (Instr.lookup 44 (.map (some b)) (.int .i64 k) true).run Try.prog w = .ok (lookP (M k)) w := by
  obtain ⟨v, ps, hrun, hv⟩ := h.look_ok lawI Try.underlying44 (zeroP w) (show PR (.pointer none) = some (.lit (.int .i64 (-1)), []) from rfl) (keyOf_int_mk Try.underlying3 hk)
  rw [hrun, (hM k).1]
  cases hs : M k with
  | none =>
    have hn : has D (.int .i64 k) = false := by rw [(hM k).1, hs]; rfl
    rw [atKey_of_not_has hn] at hv
    rw [PR_inv_none hv]; rfl
  | some s =>
    rw [(hM k).2 s hs] at hv
    rw [PR_inv hv]; rfl
/-- a ticket -/
structure Tk where
  id : Int
  k : Int
  b : Int
  m : Int
  q : Int
  n : Int
  c : Int
abbrev Tk.C (t : Tk) : Array Value := #[.int .i64 t.id, .int .i64 t.k, .int .i64 t.b, .int .i64 t.m, .int .i64 t.q, .int .i64 t.n, .int .i64 t.c]
/-- a slot -/
structure Sl where
  own : Tk
  oth : Tk
  asked : Bool
  heard : Bool
  order : Int
  state : Int
  code : Int
  ep : Int
  fi : Int
  co : Int
abbrev Sl.C (s : Sl) : Array Value := #[.int .i64 s.own.id, .int .i64 s.own.k, .int .i64 s.own.b, .int .i64 s.own.m, .int .i64 s.own.q, .int .i64 s.own.n, .int .i64 s.own.c, .int .i64 s.oth.id, .int .i64 s.oth.k, .int .i64 s.oth.b, .int .i64 s.oth.m, .int .i64 s.oth.q, .int .i64 s.oth.n, .int .i64 s.oth.c, .bool s.asked, .bool s.heard, .int .i64 s.order, .int .i64 s.state, .int .i64 s.code, .int .i64 s.ep, .int .i64 s.fi, .int .i64 s.co]
abbrev Tk.zero : Tk := ⟨0, 0, 0, 0, 0, 0, 0⟩
/-- a slot that was begun -/
abbrev Sl.new (o : Int) : Sl := ⟨Tk.zero, Tk.zero, false, false, o, 1, 0, 0, 0, 0⟩
/-- what each slot's block holds -/
abbrev Ss := Nat → Sl
/-- a table at g: its map at mb, its slots in the blocks of M, each holding what F says -/
structure TabAt (w0 w : World) (g mb n : Nat) (D : DU) (M : Sm) (F : Ss) (count : Int) : Prop where
  blk : w.heap[g]? = some (.cells #[.map (some mb), .int .i64 count, .bool true] 46 (0, 0))
  own : OwnP w mb n D
  has : HasP D M
  ismap : IsMap D
  ge : w0.heap.size ≤ g ∧ w0.heap.size ≤ mb
  slots : ∀ k b, M k = some b → w.heap[b]? = some (.cells (F b).C 50 (0, 0)) ∧ w0.heap.size ≤ b
  one : ∀ k k' b, M k = some b → M k' = some b → k = k'
theorem own_neP {w : World} {b n : Nat} {D : DU} (h : OwnP w b n D) {k : Nat} {cs : Array Value} {t : Nat} {fr : Nat × Nat} (hk : w.heap[k]? = some (.cells cs t fr)) : k ≠ b := fun e => by
  obtain ⟨es, clock, hb, _⟩ := h
  rw [e, hb] at hk
  cases hk
theorem OwnP.below {w w' : World} {b n : Nat} {D : DU} (h : OwnP w b n D) (hb : Below w.heap.size w w') : OwnP w' b n D := by
  have hlt := h.lt
  obtain ⟨es, clock, hb', Ft, hs, hD⟩ := h
  exact ⟨es, clock, (hb.block _ hlt).trans hb', Ft, hs, hD⟩
theorem TabAt.below {w0 w w' : World} {g mb n : Nat} {D : DU} {M : Sm} {F : Ss} {count : Int} (h : TabAt w0 w g mb n D M F count) (hb : Below w.heap.size w w') : TabAt w0 w' g mb n D M F count :=
  ⟨blk_below h.blk hb, h.own.below hb, h.has, h.ismap, h.ge, fun k b hk => ⟨blk_below (h.slots k b hk).1 hb, (h.slots k b hk).2⟩, h.one⟩
end Go.Proofs.Ytdifkcbiifhkeaa.P
