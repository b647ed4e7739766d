/- A class's bin: the binary search, find; New, ready. -/
import Derived.Test.YtieaealkdjnolaaPaPl2
import Derived.Test.YtieaealkdjnolaaPaLemShape
namespace Go.Proofs.Ytieaealkdjnolaa.P
open Go.RowKit Go.Maps Go.Proofs.YtieaealkdjnolaaW.PrintWords Go.Proofs.YtieaealkdjnolaaW.PrintLast Go.Proofs.YtieaealkdjnolaaW.PrintMore
set_option linter.unusedVariables false
set_option linter.unusedSimpArgs false
attribute [local go_sem ↓] Go.wp_at_zero Go.wp_at_succ
/-- a class's block, and a bin's, in a world behind -/
structure Bc (w W : World) (g p : Nat) (a c : S26) (mb : Nat) (total mark next : Int) : Prop where
  bel : Below w.heap.size w W
  kc : W.heap[g]? = some (.cells (cC c) 26 (0, 0))
  kb : W.heap[p]? = some (.cells (bC a mb total mark next) 71 (0, 0))
theorem Bc.below {w W W' : World} {g p mb : Nat} {a c : S26} {total mark next : Int} (h : Bc w W g p a c mb total mark next) (hb : Below W.heap.size W W') : Bc w W' g p a c mb total mark next := ⟨below_step h.bel hb, blk_below h.kc hb, blk_below h.kb hb⟩
theorem Bc.full {w W : World} {g p mb : Nat} {a c : S26} {total mark next : Int} (h : Bc w W g p a c mb total mark next) : Bc w W g p a c mb total mark next ∧ W.cell? ⟨g, 0, none⟩ = some (.int .i64 c.f0) ∧ W.cell? ⟨g, 1, none⟩ = some (.int .i64 c.f1) ∧ W.cell? ⟨g, 2, none⟩ = some (.int .i64 c.f2) ∧ W.cell? ⟨g, 3, none⟩ = some (.int .i64 c.f3) ∧ W.cell? ⟨g, 4, none⟩ = some (.int .i64 c.f4) ∧ W.cell? ⟨p, 0, none⟩ = some (.int .i64 a.f0) ∧ W.cell? ⟨p, 1, none⟩ = some (.int .i64 a.f1) ∧ W.cell? ⟨p, 2, none⟩ = some (.int .i64 a.f2) ∧ W.cell? ⟨p, 3, none⟩ = some (.int .i64 a.f3) ∧ W.cell? ⟨p, 4, none⟩ = some (.int .i64 a.f4) := by
  obtain ⟨a0, a1, a2, a3, a4, -⟩ := cells_5 h.kc
  obtain ⟨b0, b1, b2, b3, b4, -⟩ := cells_9 h.kb
  exact ⟨h, a0, a1, a2, a3, a4, b0, b1, b2, b3, b4⟩
theorem bs_full {w W : World} {g p mb r : Nat} {c : S26} {a : S26} {total mark next : Int} (h : Bc w W g p a c mb total mark next) (hr : W.cell? ⟨r, 0, none⟩ = some (.pointer (some ⟨p, 0, none⟩))) : Bc w W g p a c mb total mark next ∧ W.cell? ⟨g, 0, none⟩ = some (.int .i64 c.f0) ∧ W.cell? ⟨g, 1, none⟩ = some (.int .i64 c.f1) ∧ W.cell? ⟨g, 2, none⟩ = some (.int .i64 c.f2) ∧ W.cell? ⟨g, 3, none⟩ = some (.int .i64 c.f3) ∧ W.cell? ⟨g, 4, none⟩ = some (.int .i64 c.f4) ∧ W.cell? ⟨r, 0, none⟩ = some (.pointer (some ⟨p, 0, none⟩)) := by
  obtain ⟨a0, a1, a2, a3, a4, -⟩ := cells_5 h.kc
  exact ⟨h, a0, a1, a2, a3, a4, hr⟩
theorem fn1_ok (p mb : Nat) (a c : S26) (total mark next : Int) (w : World) (h : w.heap[p]? = some (.cells (bC a mb total mark next) 71 (0, 0))) : Calls Try.prog 40 #[.pointer (some ⟨p, 0, none⟩), .agg (cC c)] w fun e w' => e = .returned (.int .i64 (ordC a c)) ∧ Below w.heap.size w w' := by
  have HB := Lib.hid (show Bc w (w.alloc (.cells (cC c) 26)) w.heap.size p a c mb total mark next from ⟨below_alloc (Below.refl _ _) _, heap_alloc_new w _, blk_alloc h _⟩)
  clear h
  obtain ⟨x0, x1, x2, x3, x4⟩ := a
  obtain ⟨y0, y1, y2, y3, y4⟩ := c
  have HO := Lib.hid (fun W => order_ok ⟨x0, x1, x2, x3, x4⟩ ⟨y0, y1, y2, y3, y4⟩ W)
  generalize ordC ⟨x0, x1, x2, x3, x4⟩ ⟨y0, y1, y2, y3, y4⟩ = r at *
  go_enter Try.func40, Try.ntmps40
  go_upto_region 1 with fail
  have hL := HB.out.full
  go_region_held3 (fun W => Bc w W w.heap.size p ⟨x0, x1, x2, x3, x4⟩ ⟨y0, y1, y2, y3, y4⟩ mb total mark next ∧ W.cell? ⟨w.heap.size, 0, none⟩ = some (.int .i64 y0) ∧ W.cell? ⟨w.heap.size, 1, none⟩ = some (.int .i64 y1) ∧ W.cell? ⟨w.heap.size, 2, none⟩ = some (.int .i64 y2) ∧ W.cell? ⟨w.heap.size, 3, none⟩ = some (.int .i64 y3) ∧ W.cell? ⟨w.heap.size, 4, none⟩ = some (.int .i64 y4) ∧ W.cell? ⟨p, 0, none⟩ = some (.int .i64 x0) ∧ W.cell? ⟨p, 1, none⟩ = some (.int .i64 x1) ∧ W.cell? ⟨p, 2, none⟩ = some (.int .i64 x2) ∧ W.cell? ⟨p, 3, none⟩ = some (.int .i64 x3) ∧ W.cell? ⟨p, 4, none⟩ = some (.int .i64 x4))
    ((refine Bc.full ?_; first | exact HU.out | exact HB.out | exact Bc.below HB.out (below_drew1 (Below.refl _ _))))
    ((go_at_call 41; go_loud (refine (HO.out _).mono ?_; rintro e w6 ⟨rfl, hb⟩; have HU := Lib.hid (Bc.below HB.out (below_step (below_drew1 (Below.refl _ _)) hb)); clear hb)))
  go_wp2
  go_ret
  exact ⟨rfl, HU.out.bel⟩
abbrev FN1 := Value.func (.func 40) #[] #[]
theorem bs_zerofn1 (c : S26) (w : World) : Calls Try.prog 39 #[.slice none 0 0, .agg (cC c), FN1] w fun e w' => e = .returned (.tuple #[.int .i64 0, .bool false]) ∧ Below w.heap.size w w' := by
  have HB0 := Lib.hid (below_alloc (Below.refl w.heap.size w) (.cells (cC c) 26))
  go_enter Try.func39, Try.ntmps39
  go_wp2
  obtain ⟨W0, hW0⟩ : ∃ W0, W0 = w.alloc (.cells (cC c) 26) := ⟨_, rfl⟩
  rw [← hW0] at HB0 ⊢
  clear hW0
  go_loopw [9, 10] (fun a b wr => a = .int .i64 0 ∧ b = .int .i64 0 ∧ wr = W0) (fun a b _ => 0)
  case atStart => exact ⟨rfl, rfl, rfl⟩
  case round =>
    obtain ⟨rfl, rfl, rfl⟩ := hrel
    go_wp2
    go_quiet (fail)
    go_wp2
    go_ret2
    exact ⟨rfl, pw_below_drewN HB0.out _⟩
set_option maxRecDepth 100000 in
theorem bs_onefn1 (r cap p mb : Nat) (c : S26) (total mark next : Int) (w : World) (h : w.heap[p]? = some (.cells (bC c mb total mark next) 71 (0, 0))) (hr : ∃ cs, w.heap[r]? = some (.cells cs 67 (0, 0)) ∧ cs[0]? = some (.pointer (some ⟨p, 0, none⟩))) : Calls Try.prog 39 #[.slice (some ⟨r, 0, none⟩) 1 cap, .agg (cC c), FN1] w fun e w' => e = .returned (.tuple #[.int .i64 0, .bool true]) ∧ Below w.heap.size w w' := by
  obtain ⟨cs, hr, hr0⟩ := hr
  have HB0 := Lib.hid (show Bc w (w.alloc (.cells (cC c) 26)) w.heap.size p c c mb total mark next from ⟨below_alloc (Below.refl _ _) _, heap_alloc_new w _, blk_alloc h _⟩)
  have HR0 := Lib.hid (show (w.alloc (.cells (cC c) 26)).heap[r]? = some (.cells cs 67 (0, 0)) from blk_alloc hr _)
  clear h hr
  obtain ⟨y0, y1, y2, y3, y4⟩ := c
  have HO : Go.RowKit.Hid (∀ (W : World), W.heap[p]? = some (.cells (bC ⟨y0, y1, y2, y3, y4⟩ mb total mark next) 71 (0, 0)) → Calls Try.prog 40 #[.pointer (some ⟨p, 0, none⟩), .agg (cC ⟨y0, y1, y2, y3, y4⟩)] W fun e w' => e = .returned (.int .i64 0) ∧ Below W.heap.size W w') := Lib.hid (fun W hW => by have := fn1_ok p mb ⟨y0, y1, y2, y3, y4⟩ ⟨y0, y1, y2, y3, y4⟩ total mark next W hW; rw [ordC_self] at this; exact this)
  go_enter Try.func39, Try.ntmps39
  go_wp2
  obtain ⟨W0, hW0⟩ : ∃ W0, W0 = w.alloc (.cells (cC ⟨y0, y1, y2, y3, y4⟩) 26) := ⟨_, rfl⟩
  rw [← hW0] at HB0 HR0 ⊢
  clear hW0
  go_loopw [9, 10] (fun a b wr => a = .int .i64 0 ∧ (b = .int .i64 1 ∨ b = .int .i64 0) ∧ Go.RowKit.Hid (Bc w wr w.heap.size p ⟨y0, y1, y2, y3, y4⟩ ⟨y0, y1, y2, y3, y4⟩ mb total mark next) ∧ Go.RowKit.Hid (wr.heap[r]? = some (.cells cs 67 (0, 0)))) (fun a b _ => (intOf b).toNat)
  case atStart => exact ⟨rfl, .inl rfl, HB0, HR0⟩
  case round =>
    obtain ⟨rfl, hb, HB1, HR1⟩ := hrel
    have hs1 : (IntKind.u64.wrap (IntKind.i64.wrap (0 + 1))) = 1 := by decide
    have hL := HB1.out.full
    have hr1 := (blk_cell HR1.out 0).trans hr0
    have hw00 : IntKind.i64.wrap 0 = 0 := by decide
    rcases hb with rfl | rfl
    · go_wp2
      go_region_held3 (fun W => Bc w W w.heap.size p ⟨y0, y1, y2, y3, y4⟩ ⟨y0, y1, y2, y3, y4⟩ mb total mark next ∧ W.cell? ⟨w.heap.size, 0, none⟩ = some (.int .i64 y0) ∧ W.cell? ⟨w.heap.size, 1, none⟩ = some (.int .i64 y1) ∧ W.cell? ⟨w.heap.size, 2, none⟩ = some (.int .i64 y2) ∧ W.cell? ⟨w.heap.size, 3, none⟩ = some (.int .i64 y3) ∧ W.cell? ⟨w.heap.size, 4, none⟩ = some (.int .i64 y4) ∧ W.cell? ⟨r, 0, none⟩ = some (.pointer (some ⟨p, 0, none⟩)))
        ((refine bs_full ?_ ?_ <;> first | exact HU.out | exact HB1.out | exact Bc.below HB1.out (below_drew1 (Below.refl _ _)) | exact (blk_cell HR2.out 0).trans hr0 | exact hr1 | exact (blk_cell (blk_drew HR1.out) 0).trans hr0))
        ((go_at_call 40; go_loud (refine (HO.out _ (blk_drew HB1.out.kb)).mono ?_; rintro e w6 ⟨rfl, hb⟩; have HU := Lib.hid (Bc.below HB1.out (below_step (below_drew1 (Below.refl _ _)) hb)); have HR2 := Lib.hid (blk_below (blk_drew HR1.out) hb); clear hb)))
      go_wp2
      go_roundw
      case rel => exact ⟨rfl, .inr rfl, HU, HR2⟩
      case measure => simp [intOf]
    · go_wp2
      go_region_held3 (fun W => Bc w W w.heap.size p ⟨y0, y1, y2, y3, y4⟩ ⟨y0, y1, y2, y3, y4⟩ mb total mark next ∧ W.cell? ⟨w.heap.size, 0, none⟩ = some (.int .i64 y0) ∧ W.cell? ⟨w.heap.size, 1, none⟩ = some (.int .i64 y1) ∧ W.cell? ⟨w.heap.size, 2, none⟩ = some (.int .i64 y2) ∧ W.cell? ⟨w.heap.size, 3, none⟩ = some (.int .i64 y3) ∧ W.cell? ⟨w.heap.size, 4, none⟩ = some (.int .i64 y4) ∧ W.cell? ⟨r, 0, none⟩ = some (.pointer (some ⟨p, 0, none⟩)))
        ((refine bs_full ?_ ?_ <;> first | exact HU.out | exact HB1.out | exact Bc.below HB1.out (below_drew1 (Below.refl _ _)) | exact (blk_cell HR2.out 0).trans hr0 | exact hr1 | exact (blk_cell (blk_drew HR1.out) 0).trans hr0))
        ((go_at_call 40; go_loud (refine (HO.out _ (blk_drew HB1.out.kb)).mono ?_; rintro e w6 ⟨rfl, hb⟩; have HU := Lib.hid (Bc.below HB1.out (below_step (below_drew1 (Below.refl _ _)) hb)); have HR2 := Lib.hid (blk_below (blk_drew HR1.out) hb); clear hb)))
      go_wp2
      go_ret2
      exact ⟨rfl, HU.out.bel⟩
abbrev FN2 := Value.func (.func 42) #[] #[]
theorem bs_zerofn2 (c : S26) (w : World) : Calls Try.prog 39 #[.slice none 0 0, .agg (cC c), FN2] w fun e w' => e = .returned (.tuple #[.int .i64 0, .bool false]) ∧ Below w.heap.size w w' := by
  have HB0 := Lib.hid (below_alloc (Below.refl w.heap.size w) (.cells (cC c) 26))
  go_enter Try.func39, Try.ntmps39
  go_wp2
  obtain ⟨W0, hW0⟩ : ∃ W0, W0 = w.alloc (.cells (cC c) 26) := ⟨_, rfl⟩
  rw [← hW0] at HB0 ⊢
  clear hW0
  go_loopw [9, 10] (fun a b wr => a = .int .i64 0 ∧ b = .int .i64 0 ∧ wr = W0) (fun a b _ => 0)
  case atStart => exact ⟨rfl, rfl, rfl⟩
  case round =>
    obtain ⟨rfl, rfl, rfl⟩ := hrel
    go_wp2
    go_quiet (fail)
    go_wp2
    go_ret2
    exact ⟨rfl, pw_below_drewN HB0.out _⟩
end Go.Proofs.Ytieaealkdjnolaa.P
