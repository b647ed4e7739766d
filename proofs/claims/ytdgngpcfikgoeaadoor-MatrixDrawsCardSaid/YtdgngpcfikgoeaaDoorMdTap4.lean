/- TapeOnce: what is read in several calls is what one call reads. -/
import Derived.Test.YtdgngpcfikgoeaaDoorMdTap3
namespace Go.Proofs.YtdgngpcfikgoeaaDoor.P
open Go.RowKit Go.Extern.Stop Go.Stop Go.Extern Go.Proofs.YtdgngpcfikgoeaaDoorW.PrintWords Go.Proofs.YtdgngpcfikgoeaaDoorW.PrintLast Go.Proofs.YtdgngpcfikgoeaaDoorW.PrintMore
set_option linter.unusedVariables false
set_option linter.unusedSimpArgs false
attribute [local go_sem ↓] Go.wp_at_zero Go.wp_at_succ

/-- two tapes of one list, the one read up to a; and a row of what was read -/
structure Once (w wr : World) (g1 g2 : Nat) (v1 v2 va : Value) (l : List Int) (a : Nat) : Prop where
  t1 : TAt wr w.heap.size g1 v1 l a
  t2 : TAt wr w.heap.size g2 v2 l 0
  ra : RU w.heap.size wr va (l.take a)
  ne1 : ∀ k, va.ownBlock = some k → v1.ownBlock ≠ some k
  ne2 : ∀ k, va.ownBlock = some k → v2.ownBlock ≠ some k
  n12 : g1 ≠ g2
  bel : Below w.heap.size w wr
theorem Once.below {w wr w1 : World} {g1 g2 : Nat} {v1 v2 va : Value} {l : List Int} {a : Nat} (h : Once w wr g1 g2 v1 v2 va l a) (hb : Below wr.heap.size wr w1) : Once w w1 g1 g2 v1 v2 va l a :=
  ⟨h.t1.below hb, h.t2.below hb, Kd.R_below h.ra hb, h.ne1, h.ne2, h.n12, below_step h.bel hb⟩
/-- the first tape is read on -/
theorem Once.read {w wr w1 : World} {g1 g2 : Nat} {v1 v2 va : Value} {l : List Int} {a b : Nat} (h : Once w wr g1 g2 v1 v2 va l a) (ht : TAt w1 w.heap.size g1 v1 l b) (hc : Chg (fun k => k = g1) wr w1) :
    TAt w1 w.heap.size g2 v2 l 0 ∧ RU w.heap.size w1 va (l.take a) ∧ Below w.heap.size w w1 :=
  ⟨h.t2.chg hc (fun e => h.n12 e.symm) (fun k hk e => h.t2.row.ne h.t1.blk (by decide) (by rw [hk, e])), h.ra.chg hc (fun k hk e => h.ra.ne h.t1.blk (by decide) (by rw [hk, e])), hc.below h.bel (fun k e => by rw [e]; exact h.t1.ge)⟩
theorem Once.nil {w w1 w2 : World} {g1 g2 : Nat} {v1 v2 : Value} {l : List Int} (h1 : TAt w1 w.heap.size g1 v1 l 0) (hb1 : Below w.heap.size w w1) (h2 : TAt w2 w1.heap.size g2 v2 l 0) (hb2 : Below w1.heap.size w1 w2) : Once w w2 g1 g2 v1 v2 (.slice none 0 0) l 0 :=
  ⟨h1.below hb2, ⟨h2.blk, Nat.le_trans hb1.size h2.ge, Kd.R_lower h2.row hb1.size, h2.le, h2.len⟩, by rw [List.take_zero]; exact Kd.R_nil _ _ _ _ _, fun k hk => by simp [Value.ownBlock] at hk, fun k hk => by simp [Value.ownBlock] at hk, fun e => by have := h2.ge; have := blk_lt h1.blk; omega, below_step hb1 hb2⟩

end Go.Proofs.YtdgngpcfikgoeaaDoor.P
