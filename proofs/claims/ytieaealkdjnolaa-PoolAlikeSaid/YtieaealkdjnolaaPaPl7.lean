/- sample.Copy: another share with the same. -/
import Derived.Test.YtieaealkdjnolaaPaPl6
import Derived.Deep.RegionWith
namespace Go.Proofs.Ytieaealkdjnolaa.P
open Go.RowKit Go.Proofs.YtieaealkdjnolaaW.PrintWords Go.Proofs.YtieaealkdjnolaaW.PrintLast Go.Proofs.YtieaealkdjnolaaW.PrintMore
set_option linter.unusedVariables false
set_option linter.unusedSimpArgs false

theorem R_empty {α : Type} (d : Kd α) (W : World) (base e : Nat) {ok : Nat → Prop} (hok : ok W.heap.size) (hbase : base ≤ W.heap.size) :
    d.R e (W.alloc (.cells #[] e)) base ok (.slice (some ⟨W.heap.size, 0, none⟩) 0 0) ([] : List α) := by
  refine ⟨fun k hk => ?_, [], ⟨by simp, .inr ⟨W.heap.size, 0, #[], rfl, hbase, heap_alloc_new W _, Nat.le_refl _, by unfold maxLen; omega, by simp, by simp⟩⟩, Reps.none _ _⟩
  have : W.heap.size = k := by simpa [Value.ownBlock] using hk
  subst this
  exact hok
theorem C_none {α : Type} {d : Kd α} {w : World} {n : Nat} {xs : List α} (h : d.C w none n xs) : xs = [] := by
  have h0 := h.1
  rcases Nat.eq_zero_or_pos n with h1 | h1
  · exact List.eq_nil_of_length_eq_zero (by omega)
  · obtain ⟨ad, he, _⟩ := h.2.2 h1
    cases he

set_option maxHeartbeats 400000 in
theorem clone_u64.calls (A : Option Addr) (c : Nat) (l : List Int) (w : World) (hr : Kd.C (Kd.int .u64) w A l.length l) (hs : l.length * 8 ≤ 140737488355328) :
    Calls Try.prog 44 #[.slice A l.length c] w fun e w' => ∃ v, e = .returned v ∧ Kd.R (Kd.int .u64) 34 w' w.heap.size (fun _ => True) v l ∧ Below w.heap.size w w' := by
  have q : ∀ (w : World) (a : Option Addr) (n c n' c' : Nat), (binOp .eql 30 (.slice a n c) (.slice none n' c')).run Try.prog w = .ok (.bool a.isNone) w := fun w a n c n' c' => Lib.run_eql_slice_nil w _ _ a n c n' c' Try.underlying30
  have HR := Aside0.mk hr
  clear hr
  cases A with
  | none =>
    have HL := Aside0.mk (C_none HR.out)
    go_enter Try.func44, Try.ntmps44
    go_wp2
    go_ret
    refine ⟨_, rfl, ?_, Below.refl _ _⟩
    rw [HL.out]
    exact Kd.R_nil _ _ _ _ _
  | some ad =>
    go_enter Try.func44, Try.ntmps44
    go_wp2_with (at_builtin; refine Kd.R_append_rows (Kd.int .u64) (Rr := (Kd.int .u64).K w) (w0 := w) w.heap.size rfl (.tmp 5) (.tmp 6) 30 34 (.int .u64 0) 8 rfl Try.underlying30 info34 rfl (by decide) (by omega) (.slice (some ⟨w.heap.size, 0, none⟩) 0 0) [] l (some ad) l.length c (fun _ => True) (fun _ => False) rfl rfl ?aO ?aR ?aK (fun _ hk => hk.elim) (fun _ _ => trivial) ?aB ?aS ?aL ?_; (case aO => exact R_empty _ _ _ _ trivial (Nat.le_refl _)); (case aR => exact Kd.C_alloc HR.out _); (case aK => exact fun _ _ h => h); (case aB => exact below_alloc (Below.refl _ _) _); (case aS => simp); (case aL => simpa using hs); intro v w1 ho hb hg hat)
    go_ret
    exact ⟨v, rfl, ho, hb⟩

/-! ### sample_copy: function 21 -/
theorem cell_ap {w : World} {g g' a b : Nat} {u v : Value} (h : g' ≠ g) (hc : w.cell? ⟨g', a, none⟩ = some u) : (w.setCell ⟨g, b, none⟩ v).cell? ⟨g', a, none⟩ = some u :=
  (World.cell?_of_block (Below.heap_setCell w ⟨g, b, none⟩ v g' h)).trans hc
theorem R64_three {w : World} {base g : Nat} {v x y z : Value} {l : List Int} {cs : Array Value} (h : k64.R 34 w base (fun _ => True) v l) (hz : w.heap[g]? = some (.cells cs 32 (0, 0))) : k64.R 34 (((w.setCell ⟨g, 0, none⟩ x).setCell ⟨g, 1, none⟩ y).setCell ⟨g, 2, none⟩ z) base (fun _ => True) v l :=
  Kd.R_reok rfl (Kd.R_move (Kd.R_tight rfl h) (fun k hk => by
    have hne : k ≠ g := fun e => Kd.R_ne h hz (by decide) (by rw [← e]; exact hk)
    exact ((Below.heap_setCell _ _ _ _ hne).trans (Below.heap_setCell _ _ _ _ hne)).trans (Below.heap_setCell _ _ _ _ hne))) (fun _ _ => trivial)
set_option maxHeartbeats 1600000 in
set_option maxRecDepth 100000 in
theorem copy_ok (A0 A1 A2 : Option Addr) (c0 c1 c2 : Nat) (x : S32) (w : World) (h0 : k64.C w A0 x.f0.length x.f0) (h1 : k64.C w A1 x.f1.length x.f1) (h2 : k64.C w A2 x.f2.length x.f2)
    (s0 : x.f0.length * 8 ≤ 140737488355328) (s1 : x.f1.length * 8 ≤ 140737488355328) (s2 : x.f2.length * 8 ≤ 140737488355328) :
    Calls Try.prog 25 #[.agg #[.slice A0 x.f0.length c0, .slice A1 x.f1.length c1, .slice A2 x.f2.length c2]] w fun e w' => ∃ v0 v1 v2, e = .returned (.agg #[v0, v1, v2]) ∧ k64.R 34 w' w.heap.size (fun _ => True) v0 x.f0 ∧ k64.R 34 w' w.heap.size (fun _ => True) v1 x.f1 ∧ k64.R 34 w' w.heap.size (fun _ => True) v2 x.f2 ∧ Below w.heap.size w w' := by
  have H0 := Aside0.mk h0
  have H1 := Aside0.mk h1
  have H2 := Aside0.mk h2
  clear h0 h1 h2
  go_enter Try.func25, Try.ntmps25
  go_upto_region 1 with fail
  obtain ⟨W0, hW0⟩ : ∃ W0, W0 = (w.alloc (.cells #[.slice A0 x.f0.length c0, .slice A1 x.f1.length c1, .slice A2 x.f2.length c2] 32)).alloc (.cells #[.slice none 0 0, .slice none 0 0, .slice none 0 0] 32) := ⟨_, rfl⟩
  have hb0 : Below w.heap.size w W0 := by rw [hW0]; exact below_alloc (below_alloc (Below.refl _ _) _) _
  have hb1 : W0.heap[w.heap.size]? = some (.cells #[.slice A0 x.f0.length c0, .slice A1 x.f1.length c1, .slice A2 x.f2.length c2] 32 (0, 0)) := by rw [hW0]; exact blk_alloc (heap_alloc_new w _) _
  have hb2 : W0.heap[w.heap.size + 1]? = some (.cells #[.slice none 0 0, .slice none 0 0, .slice none 0 0] 32 (0, 0)) := by
    rw [hW0]
    have h := heap_alloc_new (w.alloc (.cells #[.slice A0 x.f0.length c0, .slice A1 x.f1.length c1, .slice A2 x.f2.length c2] 32)) (.cells #[.slice none 0 0, .slice none 0 0, .slice none 0 0] 32)
    rw [show (w.alloc (.cells #[.slice A0 x.f0.length c0, .slice A1 x.f1.length c1, .slice A2 x.f2.length c2] 32)).heap.size = w.heap.size + 1 by simp] at h
    exact h
  rw [← hW0]
  clear hW0
  have K0 := Aside0.mk (Kd.C_below H0.out (below_drew hb0))
  have HB0 := Aside0.mk hb0
  have HG1 := Aside0.mk (show W0.drew.heap[w.heap.size]? = _ from hb1)
  have HG2 := Aside0.mk (show W0.drew.heap[w.heap.size + 1]? = _ from hb2)
  obtain ⟨d0, d1, d2, -⟩ := cells_3 hb1
  obtain ⟨g1, hg1⟩ : ∃ g1, g1 = w.heap.size := ⟨_, rfl⟩
  obtain ⟨g2, hg2⟩ : ∃ g2, g2 = w.heap.size + 1 := ⟨_, rfl⟩
  rw [← hg2] at HG2
  rw [← hg1] at HG1 d0 d1 d2
  rw [← hg2, ← hg1]
  have HE1 := Lib.hid hg1
  have HE2 := Lib.hid hg2
  have HNE := Lib.hid (show g1 ≠ g2 by omega)
  clear hb0 hb1 hb2 H0 hg1 hg2
  go_region_held3 (fun w' => w'.cell? ⟨g1, 0, none⟩ = some (.slice A0 x.f0.length c0) ∧ w'.cell? ⟨g1, 1, none⟩ = some (.slice A1 x.f1.length c1) ∧ w'.cell? ⟨g1, 2, none⟩ = some (.slice A2 x.f2.length c2)) (refine ⟨?_, ?_, ?_⟩ <;> first | assumption | exact cell_ap HNE.out (cell_ap HNE.out (cell_ap HNE.out e0)) | exact cell_ap HNE.out (cell_ap HNE.out (cell_ap HNE.out e1)) | exact cell_ap HNE.out (cell_ap HNE.out (cell_ap HNE.out e2)) | go_keep)
    (first
    | (go_at_call_of 44 A0; refine (clone_u64.calls A0 c0 x.f0 _ K0.out s0).mono ?_; rintro e w1 ⟨v0, rfl, ho, hb⟩; obtain ⟨Av0, cv0, rfl, -, -⟩ := Kd.R_reads ho; have R0 := Aside0.mk ho; have B1 := Aside0.mk hb; have HG11 := Aside0.mk (blk_grown HG1.out (grown_of_below hb none) (by simp)); have HG21 := Aside0.mk (blk_grown HG2.out (grown_of_below hb none) (by simp)); have K1 := Aside0.mk (Kd.C_below H1.out (below_step (below_drew HB0.out) hb)); obtain ⟨a0, a1, a2, -⟩ := cells_3 HG11.out; clear ho hb)
    | (go_at_call_of 44 A1; refine (clone_u64.calls A1 c1 x.f1 _ K1.out s1).mono ?_; rintro e w2 ⟨v1, rfl, ho, hb⟩; obtain ⟨Av1, cv1, rfl, -, -⟩ := Kd.R_reads ho; have R1 := Aside0.mk ho; have B2 := Aside0.mk hb; have HG12 := Aside0.mk (blk_grown HG11.out (grown_of_below hb none) (by simp)); have HG22 := Aside0.mk (blk_grown HG21.out (grown_of_below hb none) (by simp)); have K2 := Aside0.mk (Kd.C_below H2.out (below_step (below_step (below_drew HB0.out) B1.out) hb)); obtain ⟨b0, b1, b2, -⟩ := cells_3 HG12.out; clear ho hb)
    | (go_at_call_of 44 A2; refine (clone_u64.calls A2 c2 x.f2 _ K2.out s2).mono ?_; rintro e w3 ⟨v2, rfl, ho, hb⟩; obtain ⟨Av2, cv2, rfl, -, -⟩ := Kd.R_reads ho; have R2 := Aside0.mk ho; have B3 := Aside0.mk hb; have HG13 := Aside0.mk (blk_grown HG12.out (grown_of_below hb none) (by simp)); have HG23 := Aside0.mk (blk_grown HG22.out (grown_of_below hb none) (by simp)); obtain ⟨e0, e1, e2, -⟩ := cells_3 HG13.out; obtain ⟨f0, f1, f2, y0, y1, y2⟩ := cells_3 HG23.out; clear ho hb))
  go_wp2
  have hz := HG23.out
  have h1 := blk_set hz 0 (.slice Av0 x.f0.length cv0)
  have h2 := blk_set h1 1 (.slice Av1 x.f1.length cv1)
  have h3 := blk_set h2 2 (.slice Av2 x.f2.length cv2)
  have hsz : w.heap.size ≤ W0.drew.heap.size := HB0.out.size
  have hs1 : w.heap.size ≤ w1.heap.size := Nat.le_trans hsz B1.out.size
  have hs2 : w.heap.size ≤ w2.heap.size := Nat.le_trans hs1 B2.out.size
  have hg2 : w.heap.size ≤ g2 := by have := HE2.out; omega
  refine bodyPost_ret (results_cell_row rfl _ _ g2 32 #[.slice Av0 x.f0.length cv0, .slice Av1 x.f1.length cv1, .slice Av2 x.f2.length cv2] (0, 0) _ rfl (by simpa using h3) Try.underlying32 rfl (by kernel_rfl)) rfl ?_
  exact ⟨_, _, _, rfl, Kd.R_lower (R64_three (Kd.R_below (Kd.R_below R0.out B2.out) B3.out) hz) hsz, Kd.R_lower (R64_three (Kd.R_below R1.out B3.out) hz) hs1, Kd.R_lower (R64_three R2.out hz) hs2, below_set (below_set (below_set (below_step (below_step (below_step (below_drew HB0.out) B1.out) B2.out) B3.out) hg2) hg2) hg2⟩
end Go.Proofs.Ytieaealkdjnolaa.P
