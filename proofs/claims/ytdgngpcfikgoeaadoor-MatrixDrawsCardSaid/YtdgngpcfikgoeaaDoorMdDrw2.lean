/- The document's dabit.Draw; DabitDraws. -/
import Derived.Test.YtdgngpcfikgoeaaDoorMdDrw1
import Derived.Deep.RegionWith
namespace Go.Proofs.YtdgngpcfikgoeaaDoor.P
open Go.RowKit Go.Extern.Stop Go.Stop Go.Extern Go.Proofs.YtdgngpcfikgoeaaDoorW.PrintWords Go.Proofs.YtdgngpcfikgoeaaDoorW.PrintLast Go.Proofs.YtdgngpcfikgoeaaDoorW.PrintMore
set_option linter.unusedVariables false
set_option linter.unusedSimpArgs false
attribute [local go_sem ↓] Go.wp_at_zero Go.wp_at_succ

/-- the three blocks that the document's Draw begins with -/
structure Begun (w W : World) (c0 c1 c2 c3 c4 : Int) (A : Option Addr) (n c a : Nat) (x y : Value) : Prop where
  k3 : W.heap[w.heap.size]? = some (.cells #[.int .i64 c0, .int .i64 c1, .int .i64 c2, .int .i64 c3, .int .i64 c4] 62 (0, 0))
  k5 : W.heap[w.heap.size + 1]? = some (.cells #[.slice A n c, .int .i64 (a : Int)] 54 (0, 0))
  k6 : W.heap[w.heap.size + 1 + 1]? = some (.cells #[x, y] 54 (0, 0))
  bel : Below w.heap.size w W
section
variable {w W W1 : World} {c0 c1 c2 c3 c4 : Int} {A : Option Addr} {n c a : Nat} {x y : Value}
theorem Begun.below (h : Begun w W c0 c1 c2 c3 c4 A n c a x y) (hb : Below W.heap.size W W1) : Begun w W1 c0 c1 c2 c3 c4 A n c a x y :=
  ⟨(hb.block _ (blk_lt h.k3)).trans h.k3, (hb.block _ (blk_lt h.k5)).trans h.k5, (hb.block _ (blk_lt h.k6)).trans h.k6, below_step h.bel hb⟩
theorem Begun.drew (h : Begun w W c0 c1 c2 c3 c4 A n c a x y) : Begun w W.drew c0 c1 c2 c3 c4 A n c a x y := h.below (below_drew (Below.refl _ _))
theorem Begun.put (h : Begun w W c0 c1 c2 c3 c4 A n c a x y) (u v : Value) : Begun w ((W.setCell ⟨w.heap.size + 1 + 1, 0, none⟩ u).setCell ⟨w.heap.size + 1 + 1, 1, none⟩ v) c0 c1 c2 c3 c4 A n c a u v :=
  ⟨blk_far (blk_far h.k3 (by simp; omega) _) (by simp; omega) _, blk_far (blk_far h.k5 (by simp) _) (by simp) _, by simpa using blk_set (blk_set h.k6 0 u) 1 v, below_set (below_set h.bel (by omega)) (by omega)⟩
end
theorem begun (w : World) (c0 c1 c2 c3 c4 : Int) (A : Option Addr) (n c a : Nat) : Begun w (((w.alloc (.cells #[.int .i64 c0, .int .i64 c1, .int .i64 c2, .int .i64 c3, .int .i64 c4] 62)).alloc (.cells #[.slice A n c, .int .i64 (a : Int)] 54)).alloc (.cells #[.slice none 0 0, .int .i64 0] 54)) c0 c1 c2 c3 c4 A n c a (.slice none 0 0) (.int .i64 0) := by
  refine ⟨blk_alloc (blk_alloc (heap_alloc_new w _) _) _, blk_alloc ?_ _, ?_, below_alloc (below_alloc (below_alloc (Below.refl _ _) _) _) _⟩
  · exact heap_alloc2_new w _ _
  · have h := heap_alloc_new ((w.alloc (.cells #[.int .i64 c0, .int .i64 c1, .int .i64 c2, .int .i64 c3, .int .i64 c4] 62)).alloc (.cells #[.slice A n c, .int .i64 (a : Int)] 54)) (.cells #[.slice none 0 0, .int .i64 0] 54)
    simpa using h
theorem Begun.grown {w W W1 : World} {c0 c1 c2 c3 c4 : Int} {A : Option Addr} {n c a : Nat} {x y v : Value} {B : Nat} {xs : List S86} (h : Begun w W c0 c1 c2 c3 c4 A n c a x y) (hs : SR B W v xs) (hg : W.grownBy W1 v.ownBlock) (hb : Below w.heap.size w W1) : Begun w W1 c0 c1 c2 c3 c4 A n c a x y :=
  ⟨blk_grown h.k3 hg (Kd.R_ne hs h.k3 (by decide)), blk_grown h.k5 hg (Kd.R_ne hs h.k5 (by decide)), blk_grown h.k6 hg (Kd.R_ne hs h.k6 (by decide)), hb⟩
end Go.Proofs.YtdgngpcfikgoeaaDoor.P
