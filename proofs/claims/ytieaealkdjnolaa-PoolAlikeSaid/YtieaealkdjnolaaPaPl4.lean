/- The pool: New, ready, find, Total, Free. -/
import Derived.Test.YtieaealkdjnolaaPaK1
import Derived.Test.YtieaealkdjnolaaPaPl3
namespace Go.Proofs.Ytieaealkdjnolaa.P
open Go.RowKit Go.Maps Go.Proofs.YtieaealkdjnolaaW.PrintWords Go.Proofs.YtieaealkdjnolaaW.PrintLast Go.Proofs.YtieaealkdjnolaaW.PrintMore
set_option linter.unusedVariables false
set_option linter.unusedSimpArgs false
attribute [local go_sem ↓] Go.wp_at_zero Go.wp_at_succ
theorem pnew_ok (c : S26) (w : World) : Calls Try.prog 7 #[] w fun e w' => ∃ g, e = .returned (.pointer (some ⟨g, 0, none⟩)) ∧ w.heap.size ≤ g ∧ PoolAt w w' g c none ∧ Below w.heap.size w w' := by
  go_enter Try.func7, Try.ntmps7
  go_wp2
  go_ret
  exact ⟨w.heap.size, rfl, Nat.le_refl _, ⟨heap_alloc_new w _, Nat.le_refl _⟩, below_alloc (Below.refl _ _) _⟩
/-- what is wrong with a class -/
def chkC (c : S26) : Int := Lem.chk c.f0 c.f1 c.f2 c.f3 c.f4
theorem check_ok (c : S26) (w : World) : Calls Try.prog 35 #[.agg (cC c)] w fun e w' => e = .returned (.int .i64 (chkC c)) ∧ Below w.heap.size w w' :=
  (shape_Check.calls 10 c.f0 c.f1 c.f2 c.f3 c.f4 _ w (Lem.check_f 10 (by omega) c.f0 c.f1 c.f2 c.f3 c.f4)).mono fun e w' ⟨he, hb⟩ => ⟨he, by first | exact hb | exact hb.below⟩
theorem pready_made (g : Nat) (c : S26) (w : World) (v : Value) (h : w.heap[g]? = some (.cells #[v, .bool true] 52 (0, 0))) : Calls Try.prog 21 #[.pointer (some ⟨g, 0, none⟩), .agg (cC c)] w fun e w' => e = .returned (.int .i64 (chkC c)) ∧ Below w.heap.size w w' := by
  have HC := Lib.hid (fun W => check_ok c W)
  obtain ⟨-, c1, -⟩ := cells_2 (blk_alloc h (.cells (cC c) 26))
  go_enter Try.func21, Try.ntmps21
  go_wp2_with (go_at_call 35; (with_reducible refine (HC.out _).mono ?_); rintro e w1 ⟨rfl, hb⟩)
  go_ret
  exact ⟨rfl, below_step (below_alloc (Below.refl _ _) _) hb⟩
theorem PoolAt.made {w0 w : World} {g : Nat} {c : S26} {o : Option Bn} (h : PoolAt w0 w g c o) : ∃ v, w.heap[g]? = some (.cells #[v, .bool true] 52 (0, 0)) := by
  cases o with
  | none => exact ⟨_, h.1⟩
  | some b => exact ⟨_, BinAt.pool h⟩
theorem pready_ok {w0 w : World} {g : Nat} {c : S26} {o : Option Bn} (h : PoolAt w0 w g c o) : Calls Try.prog 21 #[.pointer (some ⟨g, 0, none⟩), .agg (cC c)] w fun e w' => e = .returned (.int .i64 (chkC c)) ∧ Below w.heap.size w w' := by
  obtain ⟨v, hv⟩ := h.made
  exact pready_made g c w v hv
/-- a class's block, and a pool's, in a world behind -/
structure Pc (w W : World) (k g : Nat) (c : S26) (v u : Value) : Prop where
  bel : Below w.heap.size w W
  kc : W.heap[k]? = some (.cells (cC c) 26 (0, 0))
  kp : W.heap[g]? = some (.cells #[v, u] 52 (0, 0))
theorem Pc.below {w W W' : World} {k g : Nat} {c : S26} {v u : Value} (h : Pc w W k g c v u) (hb : Below W.heap.size W W') : Pc w W' k g c v u := ⟨below_step h.bel hb, blk_below h.kc hb, blk_below h.kp hb⟩
theorem Pc.full {w W : World} {k g : Nat} {c : S26} {v u : Value} (h : Pc w W k g c v u) : Pc w W k g c v u ∧ W.cell? ⟨k, 0, none⟩ = some (.int .i64 c.f0) ∧ W.cell? ⟨k, 1, none⟩ = some (.int .i64 c.f1) ∧ W.cell? ⟨k, 2, none⟩ = some (.int .i64 c.f2) ∧ W.cell? ⟨k, 3, none⟩ = some (.int .i64 c.f3) ∧ W.cell? ⟨k, 4, none⟩ = some (.int .i64 c.f4) ∧ W.cell? ⟨g, 0, none⟩ = some v := by
  obtain ⟨a0, a1, a2, a3, a4, -⟩ := cells_5 h.kc
  obtain ⟨b0, -⟩ := cells_2 h.kp
  exact ⟨h, a0, a1, a2, a3, a4, b0⟩
theorem find_empty (g : Nat) (c : S26) (w : World) (u : Value) (h : w.heap[g]? = some (.cells #[.slice none 0 0, u] 52 (0, 0))) : Calls Try.prog 23 #[.pointer (some ⟨g, 0, none⟩), .agg (cC c)] w fun e w' => e = .returned (.pointer none) ∧ Below w.heap.size w w' := by
  have HB := Lib.hid (show Pc w (w.alloc (.cells (cC c) 26)) w.heap.size g c (.slice none 0 0) u from ⟨below_alloc (Below.refl _ _) _, heap_alloc_new w _, blk_alloc h _⟩)
  clear h
  obtain ⟨y0, y1, y2, y3, y4⟩ := c
  have HO := Lib.hid (fun W => bs_zerofn1 ⟨y0, y1, y2, y3, y4⟩ W)
  have hL := HB.out.full
  go_enter Try.func23, Try.ntmps23
  go_wp2
  go_region_held3 (fun W => Pc w W w.heap.size g ⟨y0, y1, y2, y3, y4⟩ (.slice none 0 0) u ∧ W.cell? ⟨w.heap.size, 0, none⟩ = some (.int .i64 y0) ∧ W.cell? ⟨w.heap.size, 1, none⟩ = some (.int .i64 y1) ∧ W.cell? ⟨w.heap.size, 2, none⟩ = some (.int .i64 y2) ∧ W.cell? ⟨w.heap.size, 3, none⟩ = some (.int .i64 y3) ∧ W.cell? ⟨w.heap.size, 4, none⟩ = some (.int .i64 y4) ∧ W.cell? ⟨g, 0, none⟩ = some (.slice none 0 0))
    ((refine Pc.full ?_; first | exact HU.out | exact HB.out | exact Pc.below HB.out (below_drew1 (Below.refl _ _))))
    ((go_at_call 39; go_loud (refine (HO.out _).mono ?_; rintro e w6 ⟨rfl, hb⟩; have HU := Lib.hid (Pc.below HB.out (below_step (below_drew1 (Below.refl _ _)) hb)); clear hb)))
  go_wp2
  go_ret
  exact ⟨rfl, HU.out.bel⟩
set_option maxRecDepth 100000 in
theorem find_one {w0 w : World} {g : Nat} {c : S26} {b : Bn} (h : BinAt w0 w g c b) : Calls Try.prog 23 #[.pointer (some ⟨g, 0, none⟩), .agg (cC c)] w fun e w' => e = .returned (.pointer (some ⟨b.p, 0, none⟩)) ∧ Below w.heap.size w w' := by
  have HA := Lib.hid h
  have HB := Lib.hid (show Pc w (w.alloc (.cells (cC c) 26)) w.heap.size g c (.slice (some ⟨b.r, 0, none⟩) 1 b.cap) (.bool true) from ⟨below_alloc (Below.refl _ _) _, heap_alloc_new w _, blk_alloc h.pool _⟩)
  clear h
  obtain ⟨r, cap, p, mb, n, D, V, X, total, mark, next⟩ := b
  obtain ⟨y0, y1, y2, y3, y4⟩ := c
  have HO : Go.RowKit.Hid (∀ W : World, Below w.heap.size w W → Calls Try.prog 39 #[.slice (some ⟨r, 0, none⟩) 1 cap, .agg (cC ⟨y0, y1, y2, y3, y4⟩), FN1] W fun e w' => e = .returned (.tuple #[.int .i64 0, .bool true]) ∧ Below W.heap.size W w') := Lib.hid (fun W hW => bs_onefn1 r cap p mb ⟨y0, y1, y2, y3, y4⟩ total mark next W (HA.out.below hW).blk (HA.out.below hW).row)
  have hL := HB.out.full
  simp only at hL
  have hw00 : IntKind.i64.wrap 0 = 0 := by decide
  go_enter Try.func23, Try.ntmps23
  go_wp2
  go_region_held3 (fun W => Pc w W w.heap.size g ⟨y0, y1, y2, y3, y4⟩ (.slice (some ⟨r, 0, none⟩) 1 cap) (.bool true) ∧ W.cell? ⟨w.heap.size, 0, none⟩ = some (.int .i64 y0) ∧ W.cell? ⟨w.heap.size, 1, none⟩ = some (.int .i64 y1) ∧ W.cell? ⟨w.heap.size, 2, none⟩ = some (.int .i64 y2) ∧ W.cell? ⟨w.heap.size, 3, none⟩ = some (.int .i64 y3) ∧ W.cell? ⟨w.heap.size, 4, none⟩ = some (.int .i64 y4) ∧ W.cell? ⟨g, 0, none⟩ = some (.slice (some ⟨r, 0, none⟩) 1 cap))
    ((refine Pc.full ?_; first | exact HU.out | exact HB.out | exact Pc.below HB.out (below_drew1 (Below.refl _ _))))
    ((go_at_call 39; go_loud (refine (HO.out _ (below_drew1 HB.out.bel)).mono ?_; rintro e w6 ⟨rfl, hb⟩; have HU := Lib.hid (Pc.below HB.out (below_step (below_drew1 (Below.refl _ _)) hb)); clear hb)))
  obtain ⟨cs, hr, hr0⟩ := (HA.out.below HU.out.bel).row
  have hr1 := (blk_cell hr 0).trans hr0
  clear hr
  simp only at hr1
  go_wp2
  go_ret
  exact ⟨rfl, HU.out.bel⟩
end Go.Proofs.Ytieaealkdjnolaa.P
