/- Which shares come to a triple: the law's text, walked. -/
import Derived.BigQuiet
import Derived.Deep.DrawnRows
import Derived.Deep.RegionHeld3
import Derived.IntWalk
import Derived.Lib.Hide
import Derived.Test.YtcmaidpoolcelaaMrPx0
namespace Go.Proofs.Ytcmaidpoolcelaa.P
open Go.RowKit Go.Proofs.YtcmaidpoolcelaaW.PrintWords Go.Proofs.YtcmaidpoolcelaaW.PrintLast Go.Proofs.YtcmaidpoolcelaaW.PrintMore
set_option linter.unusedVariables false
set_option linter.unusedSimpArgs false
attribute [local go_sem ↓] Go.wp_at_zero Go.wp_at_succ

/-! ### rights_words: function -/
theorem C_block {α : Type} {d : Kd α} {W : World} {g t : Nat} {xs : List α} {inner : List Value} (hm : xs.length ≤ 9223372036854775807) (hr : Reps (d.K W) d.sz xs inner) (hb : W.heap[g]? = some (.cells inner.toArray t (0, 0))) : d.C W (some ⟨g, 0, none⟩) xs.length xs := by
  refine ⟨rfl, hm, fun _ => ⟨_, rfl, fun j p hj => ⟨_, d.K_len (hr.2 j p hj), hr.2 j p hj, fun i u hu => ?_⟩⟩⟩
  rw [add_plain, blk_cell hb, List.getElem?_toArray]
  rw [List.getElem?_take] at hu
  split at hu
  · rw [List.getElem?_drop] at hu
    exact hu
  · cases hu
theorem two_shares {w : World} {g t : Nat} {x y : S26} {A10 A11 A12 A20 A21 A22 : Option Addr} {c10 c11 c12 c20 c21 c22 : Nat}
    (g10 : Kd.C (Kd.int .u64) w A10 x.f0.length x.f0) (l10 : x.f0.length ≤ c10) (g11 : Kd.C (Kd.int .u64) w A11 x.f1.length x.f1) (l11 : x.f1.length ≤ c11) (g12 : Kd.C (Kd.int .u64) w A12 x.f2.length x.f2) (l12 : x.f2.length ≤ c12)
    (g20 : Kd.C (Kd.int .u64) w A20 y.f0.length y.f0) (l20 : y.f0.length ≤ c20) (g21 : Kd.C (Kd.int .u64) w A21 y.f1.length y.f1) (l21 : y.f1.length ≤ c21) (g22 : Kd.C (Kd.int .u64) w A22 y.f2.length y.f2) (l22 : y.f2.length ≤ c22)
    (hb : w.heap[g]? = some (.cells #[.slice A10 x.f0.length c10, .slice A11 x.f1.length c11, .slice A12 x.f2.length c12, .slice A20 y.f0.length c20, .slice A21 y.f1.length c21, .slice A22 y.f2.length c22] t (0, 0))) : k26.C w (some ⟨g, 0, none⟩) [x, y].length [x, y] := by
  refine C_block (inner := [.slice A10 x.f0.length c10, .slice A11 x.f1.length c11, .slice A12 x.f2.length c12, .slice A20 y.f0.length c20, .slice A21 y.f1.length c21, .slice A22 y.f2.length c22]) (by simp) ⟨rfl, fun j p hj => ?_⟩ hb
  match j, hj with
  | 0, hj => obtain rfl := Option.some.inj hj; exact k26_mk w x l10 g10 l11 g11 l12 g12
  | 1, hj => obtain rfl := Option.some.inj hj; exact k26_mk w y l20 g20 l21 g21 l22 g22

theorem blk_0 (w : World) (a b c o : Obj) : ((((w.alloc a).alloc b).alloc c).alloc o).heap[w.heap.size]? = some a := blk_alloc (blk_alloc (blk_alloc (heap_alloc_new w a) b) c) o
theorem blk_1 (w : World) (a b c o : Obj) : ((((w.alloc a).alloc b).alloc c).alloc o).heap[w.heap.size + 1]? = some b := by
  have := blk_alloc (blk_alloc (heap_alloc_new (w.alloc a) b) c) o
  simpa using this
theorem blk_2 (w : World) (a b c o : Obj) : ((((w.alloc a).alloc b).alloc c).alloc o).heap[w.heap.size + 2]? = some c := by
  have := blk_alloc (heap_alloc_new ((w.alloc a).alloc b) c) o
  simpa using this
theorem blk_3 (w : World) (a b c o : Obj) : ((((w.alloc a).alloc b).alloc c).alloc o).heap[w.heap.size + 3]? = some o := by
  have := heap_alloc_new (((w.alloc a).alloc b).alloc c) o
  simpa using this
end Go.Proofs.Ytcmaidpoolcelaa.P
