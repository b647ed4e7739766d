/- The pool: Total, Free, Mark, Grant. -/
import Derived.Test.YtieaealkdjnolaaPaPl5
namespace Go.Proofs.Ytieaealkdjnolaa.P
open Go.RowKit Go.Maps Go.Proofs.YtieaealkdjnolaaW.PrintWords Go.Proofs.YtieaealkdjnolaaW.PrintLast Go.Proofs.YtieaealkdjnolaaW.PrintMore
attribute [local go_sem] max2_int min2_int max_two min_two max_three min_three max_four min_four
set_option linter.unusedVariables false
set_option linter.unusedSimpArgs false
attribute [local go_sem ↓] Go.wp_at_zero Go.wp_at_succ
/-- a class's block in front of a call -/
theorem cls_new (w : World) (c : S26) : (w.alloc (.cells (cC c) 26)).cell? ⟨w.heap.size, 0, none⟩ = some (.int .i64 c.f0) ∧ (w.alloc (.cells (cC c) 26)).cell? ⟨w.heap.size, 1, none⟩ = some (.int .i64 c.f1) ∧ (w.alloc (.cells (cC c) 26)).cell? ⟨w.heap.size, 2, none⟩ = some (.int .i64 c.f2) ∧ (w.alloc (.cells (cC c) 26)).cell? ⟨w.heap.size, 3, none⟩ = some (.int .i64 c.f3) ∧ (w.alloc (.cells (cC c) 26)).cell? ⟨w.heap.size, 4, none⟩ = some (.int .i64 c.f4) := by
  obtain ⟨a0, a1, a2, a3, a4, -⟩ := cells_5 (heap_alloc_new w (.cells (cC c) 26))
  exact ⟨a0, a1, a2, a3, a4⟩
def totO : Option Bn → Int
  | none => 0
  | some b => b.total
theorem total_one {w0 w : World} {g : Nat} {c : S26} {b : Bn} (h : BinAt w0 w g c b) : Calls Try.prog 14 #[.pointer (some ⟨g, 0, none⟩), .agg (cC c)] w fun e w' => e = .returned (.int .i64 b.total) ∧ Below w.heap.size w w' := by
  have HB0 := Lib.hid (below_alloc (Below.refl w.heap.size w) (.cells (cC c) 26))
  obtain ⟨a0, a1, a2, a3, a4⟩ := cls_new w c
  have HA := Lib.hid (h.below HB0.out)
  clear h
  obtain ⟨r, cap, p, mb, n, D, V, X, total, mark, next⟩ := b
  go_enter Try.func14, Try.ntmps14
  go_wp2_with (go_at_call 23; go_loud (refine (find_one HA.out).mono ?_); rintro e w1 ⟨rfl, hb⟩; have HB1 := Lib.hid (below_step HB0.out hb); obtain ⟨-, -, -, -, -, b5, -⟩ := cells_9 (HA.out.below hb).blk; clear hb)
  go_ret
  exact ⟨rfl, HB1.out⟩
/-- how many can be granted -/
def freeB (total mark next : Int) : Int := max 0 (min total mark - next)
def freeO : Option Bn → Int
  | none => 0
  | some b => freeB b.total b.mark b.next
theorem free_one {w0 w : World} {g : Nat} {c : S26} {b : Bn} (h : BinAt w0 w g c b) : Calls Try.prog 16 #[.pointer (some ⟨g, 0, none⟩), .agg (cC c)] w fun e w' => e = .returned (.int .i64 (freeB b.total b.mark b.next)) ∧ Below w.heap.size w w' := by
  have HB0 := Lib.hid (below_alloc (Below.refl w.heap.size w) (.cells (cC c) 26))
  obtain ⟨a0, a1, a2, a3, a4⟩ := cls_new w c
  have HA := Lib.hid (h.below HB0.out)
  have HBD := Lib.hid h.bd
  clear h
  obtain ⟨r, cap, p, mb, n, D, V, X, total, mark, next⟩ := b
  go_enter Try.func16, Try.ntmps16
  go_wp2_with (go_at_call 23; go_loud (refine (find_one HA.out).mono ?_); rintro e w1 ⟨rfl, hb⟩; have HB1 := Lib.hid (below_step HB0.out hb); obtain ⟨-, -, -, -, -, b5, -, b7, b8, -⟩ := cells_9 (HA.out.below hb).blk; clear hb)
  go_quiet (fail)
  go_wp2
  all_goals
    go_ret
    refine ⟨?_, pw_below_drewN HB1.out _⟩
    obtain ⟨k1, k2, k3, k4, k5, k6, k7⟩ := HBD.out
    show Ending.returned (.int .i64 _) = _
    congr 2
    unfold freeB
    simp only [wrap64] at *
    omega
theorem free_none {w0 w : World} {g : Nat} {c : S26} (h : PoolAt w0 w g c none) : Calls Try.prog 16 #[.pointer (some ⟨g, 0, none⟩), .agg (cC c)] w fun e w' => e = .returned (.int .i64 0) ∧ Below w.heap.size w w' := by
  have HB0 := Lib.hid (below_alloc (Below.refl w.heap.size w) (.cells (cC c) 26))
  obtain ⟨a0, a1, a2, a3, a4⟩ := cls_new w c
  have HA := Lib.hid (h.below HB0.out)
  clear h
  go_enter Try.func16, Try.ntmps16
  go_wp2_with (go_at_call 23; go_loud (refine (find_empty g c _ _ HA.out.1).mono ?_); rintro e w1 ⟨rfl, hb⟩; have HB1 := Lib.hid (below_step HB0.out hb); clear hb)
  go_ret
  exact ⟨rfl, HB1.out⟩
theorem free_ok {w0 w : World} {g : Nat} {c : S26} {o : Option Bn} (h : PoolAt w0 w g c o) : Calls Try.prog 16 #[.pointer (some ⟨g, 0, none⟩), .agg (cC c)] w fun e w' => e = .returned (.int .i64 (freeO o)) ∧ Below w.heap.size w w' := by
  cases o with
  | none => exact free_none h
  | some b => exact free_one h
/-- one number of a bin rewritten -/
theorem BinAt.put {w0 w w1 : World} {g : Nat} {c : S26} {b : Bn} {mark next : Int} (h : BinAt w0 w g c b) (hc : Chg (fun k => k = b.p) w w1) (hb : w1.heap[b.p]? = some (.cells (bC c b.mb b.total mark next) 71 (0, 0))) (hbd : 0 ≤ mark ∧ mark ≤ 1099511627776 ∧ 0 ≤ next ∧ next ≤ b.total) : BinAt w0 w1 g c { b with mark := mark, next := next } := by
  obtain ⟨cs, hr, hr0⟩ := h.row
  have hne : ∀ {k t : Nat} {cs : Array Value}, w.heap[k]? = some (.cells cs t (0, 0)) → t ≠ 71 → k ≠ b.p := fun hk ht => blk_ne hk h.blk ht
  refine ⟨hc.blk h.pool (hne h.pool (by decide)), ⟨cs, hc.blk hr (hne hr (by decide)), hr0⟩, h.cap, hb, h.own.move (hc.block _ h.own.lt (fun e => own_neV h.own h.blk e.symm)), h.has, h.ismap, h.ge, fun i v hv => (h.elem i v hv).chg hc (fun k cs hk => ?_), h.top, ?_⟩
  · rw [hk, h.blk]
    intro e
    injection e with e; injection e with e1 e2 e3
    exact absurd e2 (by decide)
  · obtain ⟨k1, k2, k3, k4, k5, k6, k7⟩ := h.bd
    exact ⟨k1, k2, hbd.1, hbd.2.1, hbd.2.2.1, hbd.2.2.2, k7⟩
set_option maxRecDepth 100000 in
theorem mark_ok {w0 w : World} {g : Nat} {c : S26} {b : Bn} (h : BinAt w0 w g c b) (n : Int) (hz : chkC c = 0) (hn : b.mark ≤ n ∧ n ≤ 1099511627776) : Calls Try.prog 10 #[.pointer (some ⟨g, 0, none⟩), .agg (cC c), .int .i64 n] w fun e w' => e = .returned (.int .i64 0) ∧ BinAt w0 w' g c { b with mark := n } ∧ Chg (fun k => k = b.p) w w' := by
  have HB0 := Lib.hid (below_alloc (Below.refl w.heap.size w) (.cells (cC c) 26))
  have HC0 := Lib.hid (heap_alloc_new w (.cells (cC c) 26))
  obtain ⟨a0, a1, a2, a3, a4⟩ := cls_new w c
  have HA := Lib.hid h
  have HZ := Lib.hid hz
  have hm0 := h.bd.2.2.1
  have hn0 : ¬ n < 0 := by omega
  have hn1 : ¬ 1099511627776 < n := by omega
  have hn2 : ¬ n < b.mark := by omega
  have HN := Lib.hid hn
  clear h hz hn hm0
  go_enter Try.func10, Try.ntmps10
  go_wp2_with (first
    | (go_at_call 21; go_loud (refine (pready_ok (c := c) (o := some b) (HA.out.below HB0.out)).mono ?_); rintro e w1 ⟨rfl, hb⟩; rw [HZ.out]; have HB1 := Lib.hid (below_step HB0.out hb); obtain ⟨c0, c1, c2, c3, c4, -⟩ := cells_5 (blk_below HC0.out hb); have HC1 := Lib.hid (blk_below HC0.out hb); clear hb a0 a1 a2 a3 a4)
    | (go_at_call 23; go_loud (refine (find_one (HA.out.below HB1.out)).mono ?_); rintro e w2 ⟨rfl, hb⟩; have HB2 := Lib.hid (below_step HB1.out hb); obtain ⟨d0, d1, d2, d3, d4, -⟩ := cells_5 (blk_below HC1.out hb); obtain ⟨-, -, -, -, -, -, -, b7, -⟩ := cells_9 (HA.out.below HB2.out).blk; clear hb c0 c1 c2 c3 c4)
    | (go_at_call 24; go_loud (refine (open_there (HA.out.below HB2.out)).mono ?_); rintro e w3 ⟨rfl, hb⟩; have HB3 := Lib.hid (below_step HB2.out hb); have HF := (blk_frozen (HA.out.below HB3.out).blk 7); obtain ⟨-, -, -, -, -, -, -, b7', -⟩ := cells_9 (HA.out.below HB3.out).blk; clear hb d0 d1 d2 d3 d4 b7))
  go_ret
  have hc : Chg (fun k => k = b.p) w (w3.setCell ⟨b.p, 7, none⟩ (.int .i64 n)) := (Chg.of_below HB3.out _).set rfl
  have hbd := HA.out.bd
  have hn := HN.out
  exact ⟨rfl, HA.out.put hc (blk_put (HA.out.below HB3.out).blk 7 _ rfl) ⟨by omega, hn.2, hbd.2.2.2.2.1, hbd.2.2.2.2.2.1⟩, hc⟩
theorem grant_arg {w0 w : World} {g : Nat} {c : S26} {o : Option Bn} (h : PoolAt w0 w g c o) (n : Int) (hz : chkC c = 0) (hn : n < 1 ∨ 64 < n) : Calls Try.prog 11 #[.pointer (some ⟨g, 0, none⟩), .agg (cC c), .int .i64 n] w fun e w' => e = .returned (.tuple #[.int .i64 0, .int .i64 1]) ∧ Below w.heap.size w w' := by
  have HB0 := Lib.hid (below_alloc (Below.refl w.heap.size w) (.cells (cC c) 26))
  obtain ⟨a0, a1, a2, a3, a4⟩ := cls_new w c
  have HA := Lib.hid h
  have HZ := Lib.hid hz
  clear h hz
  go_enter Try.func11, Try.ntmps11
  rcases hn with hn | hn
  all_goals
    go_wp2_with (go_at_call 21; go_loud (refine (pready_ok (HA.out.below HB0.out)).mono ?_); rintro e w1 ⟨rfl, hb⟩; rw [HZ.out]; have HB1 := Lib.hid (below_step HB0.out hb); clear hb a0 a1 a2 a3 a4)
    go_ret2
    exact ⟨rfl, HB1.out⟩
theorem grant_wait {w0 w : World} {g : Nat} {c : S26} {o : Option Bn} (h : PoolAt w0 w g c o) (n : Int) (hz : chkC c = 0) (hn : 1 ≤ n ∧ n ≤ 64) (hf : freeO o < n) : Calls Try.prog 11 #[.pointer (some ⟨g, 0, none⟩), .agg (cC c), .int .i64 n] w fun e w' => e = .returned (.tuple #[.int .i64 0, .int .i64 42]) ∧ Below w.heap.size w w' := by
  have HB0 := Lib.hid (below_alloc (Below.refl w.heap.size w) (.cells (cC c) 26))
  have HC0 := Lib.hid (heap_alloc_new w (.cells (cC c) 26))
  obtain ⟨a0, a1, a2, a3, a4⟩ := cls_new w c
  have HA := Lib.hid h
  have HZ := Lib.hid hz
  obtain ⟨hn1, hn2⟩ := hn
  have HFR := Lib.hid (fun W (hW : Below w.heap.size w W) => free_ok (h.below hW))
  generalize freeO o = fr at *
  clear h hz
  go_enter Try.func11, Try.ntmps11
  go_wp2_with (first
    | (go_at_call 21; go_loud (refine (pready_ok (HA.out.below HB0.out)).mono ?_); rintro e w1 ⟨rfl, hb⟩; rw [HZ.out]; have HB1 := Lib.hid (below_step HB0.out hb); obtain ⟨c0, c1, c2, c3, c4, -⟩ := cells_5 (blk_below HC0.out hb); clear hb a0 a1 a2 a3 a4)
    | (go_at_call 16; go_loud (refine (HFR.out _ HB1.out).mono ?_); rintro e w2 ⟨rfl, hb⟩; have HB2 := Lib.hid (below_step HB1.out hb); clear hb c0 c1 c2 c3 c4))
  go_ret2
  exact ⟨rfl, HB2.out⟩
set_option maxRecDepth 100000 in
theorem grant_ok {w0 w : World} {g : Nat} {c : S26} {b : Bn} (h : BinAt w0 w g c b) (n : Int) (hz : chkC c = 0) (hn : 1 ≤ n ∧ n ≤ 64) (hf : n ≤ freeB b.total b.mark b.next) : Calls Try.prog 11 #[.pointer (some ⟨g, 0, none⟩), .agg (cC c), .int .i64 n] w fun e w' => e = .returned (.tuple #[.int .i64 b.next, .int .i64 0]) ∧ BinAt w0 w' g c { b with next := b.next + n } ∧ Chg (fun k => k = b.p) w w' := by
  have HB0 := Lib.hid (below_alloc (Below.refl w.heap.size w) (.cells (cC c) 26))
  have HC0 := Lib.hid (heap_alloc_new w (.cells (cC c) 26))
  obtain ⟨a0, a1, a2, a3, a4⟩ := cls_new w c
  have HA := Lib.hid h
  have HZ := Lib.hid hz
  obtain ⟨hn1, hn2⟩ := hn
  have hbd := h.bd
  have hnx : b.next + n ≤ b.total := by unfold freeB at hf; omega
  have HNX := Lib.hid hnx
  have HFR := Lib.hid (fun W (hW : Below w.heap.size w W) => free_one (h.below hW))
  have hw1 : IntKind.i64.wrap (b.next + n) = b.next + n := by rw [IntKind.wrap_i64]; omega
  have HW2 := Lib.hid (show wrap64 b.next = b.next by unfold wrap64; omega)
  generalize freeB b.total b.mark b.next = fr at *
  clear h hz hnx hbd
  go_enter Try.func11, Try.ntmps11
  go_wp2_with (first
    | (go_at_call 21; go_loud (refine (pready_ok (c := c) (o := some b) (HA.out.below HB0.out)).mono ?_); rintro e w1 ⟨rfl, hb⟩; rw [HZ.out]; have HB1 := Lib.hid (below_step HB0.out hb); obtain ⟨c0, c1, c2, c3, c4, -⟩ := cells_5 (blk_below HC0.out hb); have HC1 := Lib.hid (blk_below HC0.out hb); clear hb a0 a1 a2 a3 a4)
    | (go_at_call 16; go_loud (refine (HFR.out _ HB1.out).mono ?_); rintro e w2 ⟨rfl, hb⟩; have HB2 := Lib.hid (below_step HB1.out hb); obtain ⟨d0, d1, d2, d3, d4, -⟩ := cells_5 (blk_below HC1.out hb); clear hb c0 c1 c2 c3 c4)
    | (go_at_call 23; go_loud (refine (find_one (HA.out.below HB2.out)).mono ?_); rintro e w3 ⟨rfl, hb⟩; have HB3 := Lib.hid (below_step HB2.out hb); have HF := (blk_frozen (HA.out.below HB3.out).blk 8); obtain ⟨-, -, -, -, -, -, -, -, b8, -⟩ := cells_9 (HA.out.below HB3.out).blk; clear hb d0 d1 d2 d3 d4))
  go_ret2
  have hc : Chg (fun k => k = b.p) w (w3.setCell ⟨b.p, 8, none⟩ (.int .i64 (b.next + n))) := (Chg.of_below HB3.out _).set rfl
  have hbd := HA.out.bd
  have hnx := HNX.out
  have hB := HA.out.put hc (mark := b.mark) (next := b.next + n) (blk_put (HA.out.below HB3.out).blk 8 _ rfl) ⟨hbd.2.2.1, hbd.2.2.2.1, by omega, hnx⟩
  refine ⟨?_, hB, hc⟩
  show Ending.returned (.tuple #[.int .i64 (wrap64 b.next), .int .i64 0]) = _
  rw [HW2.out]
end Go.Proofs.Ytieaealkdjnolaa.P
