/- The pool: what a pool that is none answers. -/
import Derived.Test.YtieaealkdjnolaaPnPl13
import Derived.Test.YtieaealkdjnolaaPnK4
namespace Go.Proofs.Ytieaealkdjnolaa.P
open Go.RowKit Go.Maps Go.Proofs.YtieaealkdjnolaaW.PrintWords Go.Proofs.YtieaealkdjnolaaW.PrintLast Go.Proofs.YtieaealkdjnolaaW.PrintMore
set_option linter.unusedVariables false
set_option linter.unusedSimpArgs false
attribute [local go_sem ↓] Go.wp_at_zero Go.wp_at_succ
/-- no pool: nil, or one that was not made -/
def NoPool (w : World) (v : Value) : Prop := v = .pointer none ∨ ∃ g, v = .pointer (some ⟨g, 0, none⟩) ∧ w.heap[g]? = some (.cells #[.slice none 0 0, .bool false] 52 (0, 0))
theorem NoPool.below {w w' : World} {v : Value} (h : NoPool w v) (hb : Below w.heap.size w w') : NoPool w' v := by
  rcases h with h | ⟨g, h, hk⟩
  · exact .inl h
  · exact .inr ⟨g, h, blk_below hk hb⟩
theorem pready_no (v : Value) (c : S26) (w : World) (h : NoPool w v) : Calls Try.prog 21 #[v, .agg (cC c)] w fun e w' => e = .returned (.int .i64 3) ∧ Below w.heap.size w w' := by
  rcases h with rfl | ⟨g, rfl, hk⟩
  · exact pready_nil c w
  · exact pready_zero g c w _ hk
theorem find_no (v : Value) (c : S26) (w : World) (h : NoPool w v) : Calls Try.prog 23 #[v, .agg (cC c)] w fun e w' => e = .returned (.pointer none) ∧ Below w.heap.size w w' := by
  rcases h with rfl | ⟨g, rfl, hk⟩
  · exact find_nil c w
  · exact find_empty g c w _ hk
theorem all_no (v : Value) (w : World) (h : NoPool w v) : Calls Try.prog 19 #[v] w fun e w' => e = .returned (.slice none 0 0) ∧ Below w.heap.size w w' := by
  rcases h with rfl | ⟨g, rfl, hk⟩
  · go_enter Try.func19, Try.ntmps19
    go_wp2
    go_ret
    exact ⟨rfl, Below.refl _ _⟩
  · obtain ⟨c0, -⟩ := cells_2 hk
    go_enter Try.func19, Try.ntmps19
    go_wp2
    go_loopw [3, 13] (fun u s wr => u = .slice none 0 0 ∧ s = .int .i64 0 ∧ wr = w) (fun u s _ => 0)
    case atStart => exact ⟨rfl, rfl, rfl⟩
    case round =>
      obtain ⟨rfl, rfl, rfl⟩ := hrel
      go_wp2
      go_ret
      exact ⟨rfl, Below.refl _ _⟩
theorem nput_no (v : Value) (c : S26) (A : Option Addr) (n cl : Nat) (w : World) (h : NoPool w v) : Calls Try.prog 8 #[v, .agg (cC c), .slice A n cl] w fun e w' => e = .returned (.tuple #[.int .i64 0, .int .i64 3]) ∧ Below w.heap.size w w' := by
  have HB0 := Lib.hid (below_alloc (Below.refl w.heap.size w) (.cells (cC c) 26))
  obtain ⟨a0, a1, a2, a3, a4⟩ := cls_new w c
  have HN := Lib.hid (h.below HB0.out)
  clear h
  go_enter Try.func8, Try.ntmps8
  go_wp2_with (go_at_call 21; go_loud (refine (pready_no v c _ HN.out).mono ?_); rintro e w1 ⟨rfl, hb⟩; have HB1 := Lib.hid (below_step HB0.out hb); clear hb)
  go_ret2
  exact ⟨rfl, HB1.out⟩
theorem ngrant_no (v : Value) (c : S26) (n : Int) (w : World) (h : NoPool w v) : Calls Try.prog 11 #[v, .agg (cC c), .int .i64 n] w fun e w' => e = .returned (.tuple #[.int .i64 0, .int .i64 3]) ∧ Below w.heap.size w w' := by
  have HB0 := Lib.hid (below_alloc (Below.refl w.heap.size w) (.cells (cC c) 26))
  obtain ⟨a0, a1, a2, a3, a4⟩ := cls_new w c
  have HN := Lib.hid (h.below HB0.out)
  clear h
  go_enter Try.func11, Try.ntmps11
  go_wp2_with (go_at_call 21; go_loud (refine (pready_no v c _ HN.out).mono ?_); rintro e w1 ⟨rfl, hb⟩; have HB1 := Lib.hid (below_step HB0.out hb); clear hb)
  go_ret2
  exact ⟨rfl, HB1.out⟩
theorem ntake_no (v : Value) (c : S26) (f n : Int) (w : World) (h : NoPool w v) : Calls Try.prog 12 #[v, .agg (cC c), .int .i64 f, .int .i64 n] w fun e w' => e = .returned (.tuple #[.slice none 0 0, .int .i64 3]) ∧ Below w.heap.size w w' := by
  have HB0 := Lib.hid (below_alloc (Below.refl w.heap.size w) (.cells (cC c) 26))
  obtain ⟨a0, a1, a2, a3, a4⟩ := cls_new w c
  have HN := Lib.hid (h.below HB0.out)
  clear h
  go_enter Try.func12, Try.ntmps12
  go_wp2_with (go_at_call 21; go_loud (refine (pready_no v c _ HN.out).mono ?_); rintro e w1 ⟨rfl, hb⟩; have HB1 := Lib.hid (below_step HB0.out hb); clear hb)
  go_ret2
  exact ⟨rfl, HB1.out⟩
theorem nmark_no (v : Value) (c : S26) (n : Int) (w : World) (h : NoPool w v) : Calls Try.prog 10 #[v, .agg (cC c), .int .i64 n] w fun e w' => e = .returned (.int .i64 3) ∧ Below w.heap.size w w' := by
  have HB0 := Lib.hid (below_alloc (Below.refl w.heap.size w) (.cells (cC c) 26))
  obtain ⟨a0, a1, a2, a3, a4⟩ := cls_new w c
  have HN := Lib.hid (h.below HB0.out)
  clear h
  go_enter Try.func10, Try.ntmps10
  go_wp2_with (go_at_call 21; go_loud (refine (pready_no v c _ HN.out).mono ?_); rintro e w1 ⟨rfl, hb⟩; have HB1 := Lib.hid (below_step HB0.out hb); clear hb)
  go_ret
  exact ⟨rfl, HB1.out⟩
theorem ntotal_no (v : Value) (c : S26) (w : World) (h : NoPool w v) : Calls Try.prog 14 #[v, .agg (cC c)] w fun e w' => e = .returned (.int .i64 0) ∧ Below w.heap.size w w' := by
  have HB0 := Lib.hid (below_alloc (Below.refl w.heap.size w) (.cells (cC c) 26))
  obtain ⟨a0, a1, a2, a3, a4⟩ := cls_new w c
  have HN := Lib.hid (h.below HB0.out)
  clear h
  go_enter Try.func14, Try.ntmps14
  go_wp2_with (go_at_call 23; go_loud (refine (find_no v c _ HN.out).mono ?_); rintro e w1 ⟨rfl, hb⟩; have HB1 := Lib.hid (below_step HB0.out hb); clear hb)
  go_ret
  exact ⟨rfl, HB1.out⟩
theorem nhere_no (v : Value) (c : S26) (w : World) (h : NoPool w v) : Calls Try.prog 18 #[v, .agg (cC c)] w fun e w' => e = .returned (.int .i64 0) ∧ Below w.heap.size w w' := by
  have HB0 := Lib.hid (below_alloc (Below.refl w.heap.size w) (.cells (cC c) 26))
  obtain ⟨a0, a1, a2, a3, a4⟩ := cls_new w c
  have HN := Lib.hid (h.below HB0.out)
  clear h
  go_enter Try.func18, Try.ntmps18
  go_wp2_with (go_at_call 23; go_loud (refine (find_no v c _ HN.out).mono ?_); rintro e w1 ⟨rfl, hb⟩; have HB1 := Lib.hid (below_step HB0.out hb); clear hb)
  go_ret
  exact ⟨rfl, HB1.out⟩
theorem nfree_no (v : Value) (c : S26) (w : World) (h : NoPool w v) : Calls Try.prog 16 #[v, .agg (cC c)] w fun e w' => e = .returned (.int .i64 0) ∧ Below w.heap.size w w' := by
  have HB0 := Lib.hid (below_alloc (Below.refl w.heap.size w) (.cells (cC c) 26))
  obtain ⟨a0, a1, a2, a3, a4⟩ := cls_new w c
  have HN := Lib.hid (h.below HB0.out)
  clear h
  go_enter Try.func16, Try.ntmps16
  go_wp2_with (go_at_call 23; go_loud (refine (find_no v c _ HN.out).mono ?_); rintro e w1 ⟨rfl, hb⟩; have HB1 := Lib.hid (below_step HB0.out hb); clear hb)
  go_ret
  exact ⟨rfl, HB1.out⟩
theorem small_l0 (a0 a1 a2 a3 a4 a5 a7 a8 : Int) (l : List S32) (d : Nat) : ∀ (k i : Nat), i + d = 71 → 2 * d + 4 < k → ∃ r, trefoillaw32_small.l0 k (i : Int) a0 a1 a2 a3 a4 a5 l a7 a8 = some r := by
  induction d with
  | zero =>
    intro k i hi hk
    obtain ⟨k, rfl⟩ : ∃ q, k = q + 2 := ⟨k - 2, by omega⟩
    unfold trefoillaw32_small.l0
    have hd : decide ((i : Int) ≤ 70) = false := by rw [decide_eq_false_iff_not]; omega
    rw [hd]
    unfold trefoillaw32_small.j1
    split
    all_goals exact ⟨_, rfl⟩
  | succ d ih =>
    intro k i hi hk
    obtain ⟨k, rfl⟩ : ∃ q, k = q + 2 := ⟨k - 2, by omega⟩
    have hn : wrap64 ((i : Int) + 1) = ((i + 1 : Nat) : Int) := by unfold wrap64; omega
    obtain ⟨r, hr⟩ := ih k (i + 1) (by omega) (by omega)
    unfold trefoillaw32_small.l0
    have hd : decide ((i : Int) ≤ 70) = true := by rw [decide_eq_true_iff]; omega
    rw [hd]
    unfold trefoillaw32_small.j1
    by_cases hil : (i : Int) < (l.length : Int)
    · rw [if_pos hil, if_pos rfl, if_pos (by omega), if_pos hil, hn, hr]
      repeat' split
      all_goals exact ⟨_, rfl⟩
    · rw [if_neg hil]
      exact ⟨_, rfl⟩
theorem small_any (a0 a1 a2 a3 a4 a5 a7 a8 : Int) (l : List S32) : ∃ r, trefoillaw32_small.f 200 a0 a1 a2 a3 a4 a5 l a7 a8 = some r := small_l0 a0 a1 a2 a3 a4 a5 a7 a8 l 71 200 0 (by omega) (by omega)
end Go.Proofs.Ytieaealkdjnolaa.P
