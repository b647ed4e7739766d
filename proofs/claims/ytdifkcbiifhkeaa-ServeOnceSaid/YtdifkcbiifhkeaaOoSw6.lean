/- ServeOnce: the law's boxes. -/
import Derived.Test.YtdifkcbiifhkeaaOoSw5
namespace Go.Proofs.Ytdifkcbiifhkeaa.P
open Go.RowKit Go.Maps Go.Proofs.YtdifkcbiifhkeaaW.PrintWords Go.Proofs.YtdifkcbiifhkeaaW.PrintLast Go.Proofs.YtdifkcbiifhkeaaW.PrintMore
set_option linter.unusedVariables false
set_option linter.unusedSimpArgs false
attribute [local go_sem ↓] Go.wp_at_zero Go.wp_at_succ
/-- the law's boxes: the range's and the ticket's -/
structure Bx (w W : World) (e f c a : Int) (tb : Nat) : Prop where
  bel : Below w.heap.size w W
  kR : W.heap[w.heap.size]? = some (.cells (rC e f c) 23 (0, 0))
  kT : W.heap[tb]? = some (.cells (oT a c).C 30 (0, 0))
theorem Bx.below {w W W' : World} {e f c a : Int} {tb : Nat} (h : Bx w W e f c a tb) (hb : Below W.heap.size W W') : Bx w W' e f c a tb := ⟨below_step h.bel hb, blk_below h.kR hb, blk_below h.kT hb⟩
/-- a box of another type is no block of the table's -/
theorem not_tab {w0 w : World} {g mb n : Nat} {D : DU} {M : Sm} {F : Ss} {count : Int} (h : TabAt w0 w g mb n D M F count) {k t : Nat} {cs : Array Value} (hk : w.heap[k]? = some (.cells cs t (0, 0))) (h1 : t ≠ 46) (h2 : t ≠ 50) : ¬ TabOf g mb M k := by
  rintro (e | e | ⟨j, e⟩)
  · subst e; exact blk_ne hk h.blk h1 rfl
  · subst e; exact own_neP h.own hk rfl
  · exact blk_ne hk (h.slots j k e).1 h2 rfl
theorem tab_ge {w0 w : World} {g mb n : Nat} {D : DU} {M : Sm} {F : Ss} {count : Int} (h : TabAt w0 w g mb n D M F count) {k : Nat} (hk : TabOf g mb M k) : w0.heap.size ≤ k := by
  rcases hk with e | e | ⟨j, e⟩
  · rw [e]; exact h.ge.1
  · rw [e]; exact h.ge.2
  · exact (h.slots j k e).2
theorem Bx.chg {w w0 W W' : World} {e f c a : Int} {tb g mb n : Nat} {D : DU} {M : Sm} {F : Ss} {count : Int} (h : Bx w W e f c a tb) (hT : TabAt w0 W g mb n D M F count) (hw : w.heap.size ≤ w0.heap.size) (hc : Chg (TabOf g mb M) W W') : Bx w W' e f c a tb :=
  ⟨hc.below h.bel (fun k hk => Nat.le_trans hw (tab_ge hT hk)), hc.blk h.kR (not_tab hT h.kR (by decide) (by decide)), hc.blk h.kT (not_tab hT h.kT (by decide) (by decide))⟩
/-- the ticket's slot as it was asked, granted, refused -/
abbrev sA (a c : Int) : Sl := (Sl.new (0 + 1)).ask (oT a c)
abbrev sG (a e f c : Int) : Sl := (sA a c).grant e f c
abbrev sR (a c k : Int) : Sl := (sA a c).refuse k
end Go.Proofs.Ytdifkcbiifhkeaa.P
