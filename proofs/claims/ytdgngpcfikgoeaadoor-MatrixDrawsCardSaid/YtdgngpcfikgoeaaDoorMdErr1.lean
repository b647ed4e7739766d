/- Faults: an error's form, and what fault.New, Wrap, Code tell. -/
import Derived.Test.YtdgngpcfikgoeaaDoorMdErr0
import Derived.Test.YtdgngpcfikgoeaaDoorMdWWords
import Derived.Test.YtdgngpcfikgoeaaDoorMdWMore
import Derived.Test.YtdgngpcfikgoeaaDoorMdWLast
import Derived.Lib.Hide
import Derived.IntWalk
import Derived.WalkSpells
import Derived.Outline
import Derived.BigQuiet
import Derived.Deep.RegionHeld3
import Derived.Deep.DrawnRows
import Derived.Deep.RegionLaw
import Derived.Deep.AppendLies
namespace Go.Proofs.YtdgngpcfikgoeaaDoor.P
open Go.RowKit Go.Extern.Stop Go.Stop Go.Extern Go.Proofs.YtdgngpcfikgoeaaDoorW.PrintWords Go.Proofs.YtdgngpcfikgoeaaDoorW.PrintLast Go.Proofs.YtdgngpcfikgoeaaDoorW.PrintMore
set_option linter.unusedVariables false
set_option linter.unusedSimpArgs false
attribute [local go_sem ↓] Go.wp_at_zero Go.wp_at_succ

/-! ### words -/
/-- what changed: blocks of S alone, of those that were there -/
structure Chg (S : Nat → Prop) (w w' : World) : Prop where
  os : w'.os = w.os
  tape : w'.tape = w.tape
  output : w'.output = w.output
  size : w.heap.size ≤ w'.heap.size
  block : ∀ k, k < w.heap.size → ¬ S k → w'.heap[k]? = w.heap[k]?
theorem Chg.refl (S : Nat → Prop) (w : World) : Chg S w w := ⟨rfl, rfl, rfl, Nat.le_refl _, fun _ _ _ => rfl⟩
theorem Chg.drew {S : Nat → Prop} {w w' : World} (h : Chg S w w') : Chg S w w'.drew := ⟨h.os, h.tape, h.output, h.size, h.block⟩
theorem Chg.set {S : Nat → Prop} {w w' : World} (h : Chg S w w') {g j : Nat} {v : Value} (hg : S g) : Chg S w (w'.setCell ⟨g, j, none⟩ v) :=
  ⟨h.os, h.tape, h.output, by simpa using h.size, fun k hk hs => (Below.heap_setCell w' ⟨g, j, none⟩ v k (fun e => hs (by rw [e]; exact hg))).trans (h.block k hk hs)⟩
theorem Chg.of_below {w w' : World} (h : Below w.heap.size w w') (S : Nat → Prop) : Chg S w w' := ⟨h.os, h.tape, h.output, h.size, fun k hk _ => h.block k hk⟩
theorem Chg.grown {S : Nat → Prop} {w w' w2 : World} (h : Chg S w w') {row : Option Nat} (hg : w'.grownBy w2 row) (hr : ∀ k, row = some k → S k ∨ w.heap.size ≤ k) : Chg S w w2 :=
  ⟨hg.os.trans h.os, hg.tape.trans h.tape, hg.output.trans h.output, Nat.le_trans h.size hg.size, fun k hk hs => (hg.block k (Nat.lt_of_lt_of_le hk h.size) (fun e => by rcases hr k e.symm with q | q; exact hs q; omega)).trans (h.block k hk hs)⟩
theorem Chg.alloc {S : Nat → Prop} {w w' : World} (h : Chg S w w') (o : Obj) : Chg S w (w'.alloc o) := h.grown (World.grownBy_alloc w' o none) (fun k e => by cases e)
theorem Chg.trans {S : Nat → Prop} {w w1 w2 : World} (h : Chg S w w1) (k : Chg S w1 w2) : Chg S w w2 :=
  ⟨k.os.trans h.os, k.tape.trans h.tape, k.output.trans h.output, Nat.le_trans h.size k.size, fun i hi hs => (k.block i (Nat.lt_of_lt_of_le hi h.size) hs).trans (h.block i hi hs)⟩
theorem Chg.mono {S S2 : Nat → Prop} {w w' : World} (h : Chg S w w') (hS : ∀ k, k < w.heap.size → S k → S2 k) : Chg S2 w w' :=
  ⟨h.os, h.tape, h.output, h.size, fun k hk hs => h.block k hk (fun q => hs (hS k hk q))⟩
theorem Chg.below {S : Nat → Prop} {w0 w w' : World} (h : Chg S w w') (hB : Below w0.heap.size w0 w) (hS : ∀ k, S k → w0.heap.size ≤ k) : Below w0.heap.size w0 w' :=
  ⟨h.os.trans hB.os, h.tape.trans hB.tape, h.output.trans hB.output, Nat.le_trans hB.size h.size, fun k hk => (h.block k (Nat.lt_of_lt_of_le hk hB.size) (fun q => by have := hS k q; omega)).trans (hB.block k hk)⟩
theorem Chg.none {S : Nat → Prop} {w w' : World} (h : Chg S w w') (hS : ∀ k, k < w.heap.size → ¬ S k) : Below w.heap.size w w' :=
  ⟨h.os, h.tape, h.output, h.size, fun k hk => h.block k hk (hS k hk)⟩

/-- the variable that errors.As reads -/
structure Door (w : World) : Prop where
  cell : w.cell? ⟨0, 0, none⟩ = some (.iface 134 (.agg #[.pointer (some ⟨1, 27, none⟩)]))
theorem cell_of_heap {w w' : World} {a : Addr} (h : w'.heap[a.block]? = w.heap[a.block]?) : w'.cell? a = w.cell? a := by
  unfold World.cell?
  rw [h]
theorem Door.lt {w : World} (h : Door w) : 0 < w.heap.size := World.block_lt_of_cell? w _ h.cell
theorem Door.chg {S : Nat → Prop} {w w' : World} (h : Door w) (hc : Chg S w w') (h0 : ¬ S 0) : Door w' := ⟨(cell_of_heap (hc.block 0 h.lt h0)).trans h.cell⟩
theorem Door.below {B : Nat} {w w' : World} (h : Door w) (hb : Below B w w') (h0 : 0 < B) : Door w' := ⟨(cell_of_heap (hb.block 0 h0)).trans h.cell⟩

/-- an error: a fault at n links from its root, which has the number c -/
def ErrIs : Nat → World → Value → Int → Prop
  | 0, w, v, c => ∃ p s, v = .iface 93 (.pointer (some ⟨p, 0, none⟩)) ∧ w.heap[p]? = some (.cells #[.int .i64 c, .string s, .nilIface] 95 (0, 0))
  | n + 1, w, v, c => ∃ p s u, v = .iface 93 (.pointer (some ⟨p, 0, none⟩)) ∧ w.heap[p]? = some (.cells #[.int .i64 0, .string s, u] 95 (0, 0)) ∧ ErrIs n w u c
theorem ErrIs.chg {S : Nat → Prop} {w w' : World} (hc : Chg S w w') (hS : ∀ k cs, S k → w.heap[k]? ≠ some (.cells cs 95 (0, 0))) : ∀ {n : Nat} {v : Value} {c : Int}, ErrIs n w v c → ErrIs n w' v c
  | 0, _, _, ⟨p, s, e, h⟩ => ⟨p, s, e, (hc.block p (blk_lt h) (fun q => hS p _ q h)).trans h⟩
  | n + 1, _, _, ⟨p, s, u, e, h, k⟩ => ⟨p, s, u, e, (hc.block p (blk_lt h) (fun q => hS p _ q h)).trans h, ErrIs.chg hc hS k⟩
theorem ErrIs.below {w w' : World} {n : Nat} {v : Value} {c : Int} (h : ErrIs n w v c) (hb : Below w.heap.size w w') : ErrIs n w' v c :=
  ErrIs.chg (Chg.of_below hb (fun _ => False)) (fun _ _ q => q.elim) h
theorem ErrIs.form {w : World} {n : Nat} {v : Value} {c : Int} (h : ErrIs n w v c) : ∃ p, v = .iface 93 (.pointer (some ⟨p, 0, none⟩)) := by
  cases n with
  | zero => obtain ⟨p, s, e, -⟩ := h; exact ⟨p, e⟩
  | succ n => obtain ⟨p, s, u, e, -⟩ := h; exact ⟨p, e⟩

/-! ### fault.New, fault.Wrap -/
theorem fnew_ok (c : Int) (s : ByteArray) (w : World) (h : c ≠ 0) : Calls Tryd.prog 31 #[.int .i64 c, .string s] w fun e w' => e = .returned (.iface 93 (.pointer (some ⟨w.heap.size, 0, none⟩))) ∧ w' = w.alloc (.cells #[.int .i64 c, .string s, .nilIface] 95) := by
  have hb : (c == 0) = false := by rw [beq_eq_false_iff_ne]; exact h
  go_enter Tryd.func31, Tryd.ntmps31
  go_wp2
  go_ret
  exact ⟨rfl, rfl⟩
theorem fwrap_ok (s : ByteArray) (t : Nat) (u : Value) (w : World) : Calls Tryd.prog 34 #[.string s, .iface t u] w fun e w' => e = .returned (.iface 93 (.pointer (some ⟨w.heap.size, 0, none⟩))) ∧ w' = w.alloc (.cells #[.int .i64 0, .string s, .iface t u] 95) := by
  go_enter Tryd.func34, Tryd.ntmps34
  go_wp2
  go_ret
  exact ⟨rfl, rfl⟩
/-- a new error -/
theorem fnew_err (c : Int) (s : ByteArray) (w : World) (h : c ≠ 0) : Calls Tryd.prog 31 #[.int .i64 c, .string s] w fun e w' => ∃ v, e = .returned v ∧ ErrIs 0 w' v c ∧ Below w.heap.size w w' :=
  (fnew_ok c s w h).mono fun e w' ⟨he, hw⟩ => by
    subst hw
    exact ⟨_, he, ⟨_, s, rfl, heap_alloc_new w _⟩, below_alloc (Below.refl _ _) _⟩
theorem fwrap_err (s : ByteArray) (n : Nat) (v : Value) (c : Int) (w : World) (h : ErrIs n w v c) : Calls Tryd.prog 34 #[.string s, v] w fun e w' => ∃ v', e = .returned v' ∧ ErrIs (n + 1) w' v' c ∧ Below w.heap.size w w' := by
  obtain ⟨p, rfl⟩ := h.form
  refine (fwrap_ok s _ _ w).mono fun e w' ⟨he, hw⟩ => ?_
  subst hw
  have hb := below_alloc (Below.refl w.heap.size w) (.cells #[.int .i64 0, .string s, .iface 93 (.pointer (some ⟨p, 0, none⟩))] 95)
  exact ⟨_, he, ⟨_, s, _, rfl, heap_alloc_new w _, h.below hb⟩, hb⟩
end Go.Proofs.YtdgngpcfikgoeaaDoor.P
