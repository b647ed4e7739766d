/- The pool: the chapter's example (trefoillaw32.awake) comes true. -/
import Derived.Test.YtieaealkdjnolaaPaK3
import Derived.Test.YtieaealkdjnolaaPaPl12
namespace Go.Proofs.Ytieaealkdjnolaa.P
open Go.RowKit Go.Maps Go.Proofs.YtieaealkdjnolaaW.PrintWords Go.Proofs.YtieaealkdjnolaaW.PrintLast Go.Proofs.YtieaealkdjnolaaW.PrintMore
set_option linter.unusedVariables false
set_option linter.unusedSimpArgs false
attribute [local go_sem ↓] Go.wp_at_zero Go.wp_at_succ
/-- a pool, and a class's block beside it -/
structure St (w W : World) (g k : Nat) (o : Option Bn) : Prop where
  pool : PoolAt w W g c8 o
  kc : W.heap[k]? = some (.cells (cC c8) 26 (0, 0))
  bel : Below w.heap.size w W
theorem St.below {w W W' : World} {g k : Nat} {o : Option Bn} (h : St w W g k o) (hb : Below W.heap.size W W') : St w W' g k o := ⟨h.pool.below hb, blk_below h.kc hb, below_step h.bel hb⟩
theorem St.next {w W W' : World} {g k : Nat} {o o' : Option Bn} (h : St w W g k o) (hp : PoolAt w W' g c8 o') (hc : Chg (PoolOf g o) W W') : St w W' g k o' :=
  ⟨hp, hc.blk h.kc (h.pool.not h.kc (by decide) (by decide)), hc.below h.bel (fun k hk => h.pool.ge hk)⟩
theorem St.cells {w W : World} {g k : Nat} {o : Option Bn} (h : St w W g k o) : W.cell? ⟨k, 0, none⟩ = some (.int .i64 1) ∧ W.cell? ⟨k, 1, none⟩ = some (.int .i64 8) ∧ W.cell? ⟨k, 2, none⟩ = some (.int .i64 0) ∧ W.cell? ⟨k, 3, none⟩ = some (.int .i64 0) ∧ W.cell? ⟨k, 4, none⟩ = some (.int .i64 0) := by
  obtain ⟨a0, a1, a2, a3, a4, -⟩ := cells_5 h.kc
  exact ⟨a0, a1, a2, a3, a4⟩
/-- ones may be put -/
theorem puttable_ones (l : List S32) (hl : l.length ≤ 64) (h : ∀ x ∈ l, ∃ n : Int, x = oneS n ∧ 0 ≤ n ∧ n < 256) : Puttable 20 c8 l := by
  have hm : ∀ i : Nat, i < l.length → ∃ n : Int, rd_T32 l (i : Int) = oneS n ∧ 0 ≤ n ∧ n < 256 := fun i hi => by
    have hy : rd_T32 l (i : Int) ∈ l := by
      unfold rd_T32
      rw [Int.toNat_natCast, List.getD_eq_getElem?_getD, List.getElem?_eq_getElem hi]
      exact List.getElem_mem hi
    exact h _ hy
  refine ⟨fun i hi => ?_, fun i hi => ?_, hl⟩
  · obtain ⟨n, e, h0, h1⟩ := hm i hi
    rw [e]; exact fits_one n h0 h1
  · obtain ⟨n, e, -⟩ := hm i hi
    rw [e]; simp
/-- what Put says of a fresh pool, in the words of the whole -/
theorem put_first {w W : World} {g k : Nat} (h : St w W g k none) (A : Option Addr) (cl : Nat) (l : List S32) (hR : Kd.R kS 32 W w.heap.size (fun _ => True) (.slice A l.length cl) l) (hf : Puttable 20 c8 l) : Calls Try.prog 8 #[.pointer (some ⟨g, 0, none⟩), .agg (cC c8), .slice A l.length cl] W fun e w' => e = .returned (.tuple #[.int .i64 0, .int .i64 0]) ∧ ∃ b : Bn, St w w' g k (some b) ∧ b.total = l.length ∧ b.mark = 0 ∧ b.next = 0 ∧ b.n = l.length ∧ Maps.size b.D = l.length ∧ (∀ j : Nat, j < l.length → b.X (j : Int) = rd_T32 l (j : Int) ∧ (b.V (j : Int)).isSome = true) ∧ W.heap.size ≤ b.p ∧ W.heap.size ≤ b.mb ∧ Chg (fun k => k = g) W w' := by
  obtain ⟨-, hcl, -⟩ := RS_C hR
  refine (put_none h.pool A cl l (fun W' hc => (RS_C (RS_chg hR hc (h.pool.types))).2.2) hcl chk8 20 hf h.bel.size (fun _ => oneS 0)).mono ?_
  rintro e w' ⟨b', wO, r, cap, p, mb, rfl, hr, hp, hm, hc, hP⟩
  obtain ⟨e1, e2, e3, e4, e5, e6, e7, e8, e9⟩ := hP.eqs
  have hcw : Chg (fun k => k = g) W w' := ⟨hP.chg.os.trans hc.os, hP.chg.tape.trans hc.tape, hP.chg.output.trans hc.output, Nat.le_trans hc.size hP.chg.size, fun i hi hs => (hP.chg.block i (Nat.lt_of_lt_of_le hi hc.size) (fun q => by rcases q with q | q <;> (simp only at q; omega))).trans (hc.block i hi hs)⟩
  refine ⟨rfl, b', h.next (o' := some b') hP.at_ hcw, ?_, e7, e8, ?_, ?_, ?_, ?_, ?_, hcw⟩
  · rw [e6]; simp
  · rw [e5]; simp
  · rw [e9]; show 0 + l.length = l.length; omega
  · intro j hj
    have := hP.new j hj
    simpa using this
  · rw [e3]; exact hp
  · rw [e4]; exact hm
theorem PoolOf_sub {g : Nat} {b : Bn} {W W' : World} (h : Chg (fun k => k = b.p) W W') : Chg (PoolOf g (some b)) W W' := h.mono (fun k _ hk => .inr (.inl hk))
set_option maxRecDepth 100000 in
set_option maxHeartbeats 4000000 in
theorem awake32.calls (w : World) : Calls Try.prog 15 #[] w fun e w' => e = .returned (.bool true) ∧ Below w.heap.size w w' := by
  go_enter Try.func15, Try.ntmps15
  go_wp2_with (go_at_call 7; (with_reducible refine (pnew_ok c8 _).mono ?_); rintro e w1 ⟨g, rfl, hg, hP, hb⟩; have HS0 := Lib.hid (show St w (w1.alloc (.cells (cC c8) 26)) g w1.heap.size none from ⟨hP.below (below_alloc (Below.refl _ _) _), heap_alloc_new w1 _, below_alloc hb _⟩); clear hg hP hb)
  obtain ⟨W0, hW0⟩ : ∃ W0, W0 = w1.alloc (.cells (cC c8) 26) := ⟨_, rfl⟩
  rw [← hW0] at HS0 ⊢
  clear hW0
  have hL := HS0.out.cells
  go_region_held3 (fun W => W.cell? ⟨w1.heap.size, 0, none⟩ = some (.int .i64 1) ∧ W.cell? ⟨w1.heap.size, 1, none⟩ = some (.int .i64 8) ∧ W.cell? ⟨w1.heap.size, 2, none⟩ = some (.int .i64 0) ∧ W.cell? ⟨w1.heap.size, 3, none⟩ = some (.int .i64 0) ∧ W.cell? ⟨w1.heap.size, 4, none⟩ = some (.int .i64 0))
    ((first | exact hL | exact (St.below HS3.out (below_alloc (Below.refl _ _) _)).cells | exact HS5.out.cells | exact HS3.out.cells | exact HS2.out.cells | exact HS1.out.cells))
    (first
      | (go_at_call 9; have _t := HM2; go_loud (refine (one_ok 3 _).mono ?_; rintro e w5 ⟨A6, d6, A7, d7, A8, d8, rfl, hm, hb⟩; have HS3 := Lib.hid (HS2.out.below hb); have HM3 := Lib.hid (And.intro (Kd.M_below HM2.out.1 hb) (And.intro (Kd.M_below HM2.out.2 hb) (kS.M_lower HS2.out.bel.size hm))); clear hm hb))
      | (go_at_call 9; have _t := HM1; go_loud (refine (one_ok 2 _).mono ?_; rintro e w4 ⟨A3, d3, A4, d4, A5, d5, rfl, hm, hb⟩; have HS2 := Lib.hid (HS1.out.below hb); have HM2 := Lib.hid (And.intro (Kd.M_below HM1.out hb) (kS.M_lower HS1.out.bel.size hm)); clear hm hb))
      | (go_at_call 9; go_loud (refine (one_ok 1 _).mono ?_; rintro e w3 ⟨A0, d0, A1, d1, A2, d2, rfl, hm, hb⟩; have HS1 := Lib.hid (HS0.out.below (below_step (below_drew1 (Below.refl _ _)) hb)); have HM1 := Lib.hid (kS.M_lower (HS0.out.below (below_drew1 (Below.refl _ _))).bel.size hm); clear hm hb))
      | (go_at_call 8; go_loud (have HS4 := Lib.hid (HS3.out.below (below_alloc (Below.refl _ _) (.cells #[.slice A0 1 d0, .slice A1 1 d1, .slice A2 1 d2, .slice A3 1 d3, .slice A4 1 d4, .slice A5 1 d5, .slice A6 1 d6, .slice A7 1 d7, .slice A8 1 d8] 32))); refine (put_first HS4.out (some ⟨w5.heap.size, 0, none⟩) 3 [oneS 1, oneS 2, oneS 3] (lit_R3 HS3.out.bel.size (heap_alloc_new w5 _) (Kd.M_alloc HM3.out.1 _) (Kd.M_alloc HM3.out.2.1 _) (Kd.M_alloc HM3.out.2.2 _)) (puttable_ones _ (by decide) (fun x hx => by simp at hx; rcases hx with rfl | rfl | rfl; exact ⟨1, rfl, by decide, by decide⟩; exact ⟨2, rfl, by decide, by decide⟩; exact ⟨3, rfl, by decide, by decide⟩))).mono ?_; rintro e w6 ⟨rfl, b, hs, ht, hma, hn, hnn, hsz, hx, -⟩; have HS5 := Lib.hid hs; have HX := Lib.hid hx; clear hs hx)))
  obtain ⟨r, cap, p, mb, n, D, V, X, total, mark, next⟩ := b
  simp only at ht hma hn hnn hsz
  have ht3 : total = 3 := ht
  subst ht3 hma hn
  clear ht hnn hsz
  have HX2 := Lib.hid (show AllThere V 0 2 ∧ xsOf X 0 2 = [oneS 1, oneS 2] from ⟨fun k hk => by have := (HX.out k (by simp; omega)).2; simpa using this, by
    have h0 := (HX.out 0 (by simp)).1
    have h1 := (HX.out 1 (by simp)).1
    simp only [xsOf, List.range, List.range.loop, List.map]
    simp at h0 h1 ⊢
    exact ⟨h0, h1⟩⟩)
  clear HX hL
  obtain ⟨q0, q1, q2, q3, q4⟩ := HS5.out.cells
  go_wp2_with (first
    | (go_at_call 10; go_loud (refine (mark_ok (b := ⟨r, cap, p, mb, n, D, V, X, 3, 0, 0⟩) HS5.out.pool 2 chk8 (show (0 : Int) ≤ 2 ∧ (2 : Int) ≤ 1099511627776 by decide)).mono ?_); rintro e w7 ⟨rfl, hB, hc⟩; have HS6 := Lib.hid (HS5.out.next (o' := some ⟨r, cap, p, mb, n, D, V, X, 3, 2, 0⟩) hB (PoolOf_sub hc)); clear q0 q1 q2 q3 q4; obtain ⟨q0, q1, q2, q3, q4⟩ := HS6.out.cells; clear hB hc)
    | (go_at_call 16; go_loud (refine (show Calls Try.prog 16 _ _ fun e w' => e = .returned (.int .i64 2) ∧ Below w7.heap.size w7 w' from free_one (b := ⟨r, cap, p, mb, n, D, V, X, 3, 2, 0⟩) HS6.out.pool).mono ?_); rintro e w8 ⟨rfl, hb⟩; have HS7 := Lib.hid (HS6.out.below hb); clear q0 q1 q2 q3 q4; obtain ⟨q0, q1, q2, q3, q4⟩ := HS7.out.cells; clear hb)
    | (go_at_call 11; have _t := HS8; go_loud (refine (grant_wait (o := some ⟨r, cap, p, mb, n, D, V, X, 3, 2, 2⟩) HS8.out.pool 1 chk8 (by decide) (show freeB 3 2 2 < 1 by decide)).mono ?_); rintro e w10 ⟨rfl, hb⟩; have HS9 := Lib.hid (HS8.out.below hb); clear q0 q1 q2 q3 q4; obtain ⟨q0, q1, q2, q3, q4⟩ := HS9.out.cells; clear hb)
    | (go_at_call 11; go_loud (refine (grant_ok (b := ⟨r, cap, p, mb, n, D, V, X, 3, 2, 0⟩) HS7.out.pool 2 chk8 (by decide) (show (2 : Int) ≤ freeB 3 2 0 by decide)).mono ?_); rintro e w9 ⟨rfl, hB, hc⟩; have HS8 := Lib.hid (HS7.out.next (o' := some ⟨r, cap, p, mb, n, D, V, X, 3, 2, 2⟩) hB (PoolOf_sub hc)); clear q0 q1 q2 q3 q4; obtain ⟨q0, q1, q2, q3, q4⟩ := HS8.out.cells; clear hB hc)
    | (go_at_call 12; go_loud (refine (take_one (b := ⟨r, cap, p, mb, n, D, V, X, 3, 2, 2⟩) HS9.out.pool 0 2 chk8 (by decide)).mono ?_); rintro e w11 (⟨hno, -⟩ | ⟨-, A, cc, D', rfl, hcc, hC, hB, hc⟩); exact absurd HX2.out.1 hno; rw [HX2.out.2] at hC; have HC := Lib.hid (And.intro hcc hC); have HB11 := Lib.hid (hc.below HS9.out.bel (fun k hk => by rw [hk]; exact (BinAt.ge HS9.out.pool).2.2.2)); clear q0 q1 q2 q3 q4 hcc hC hB hc)
    | (go_at_call 9; have _t := HM12; go_loud (refine (one_ok 2 _).mono ?_; rintro e w13 ⟨B3, f3, B4, f4, B5, f5, rfl, hm, hb⟩; have HB13 := Lib.hid (below_step HB12.out hb); have HC13 := Lib.hid (Kd.C_below HC12.out hb); have HM13 := Lib.hid (And.intro (Kd.M_below HM12.out hb) (kS.M_lower HB12.out.size hm)); clear hm hb))
    | (go_at_call 9; go_loud (refine (one_ok 1 _).mono ?_; rintro e w12 ⟨B0, f0, B1, f1, B2, f2, rfl, hm, hb⟩; have HB12 := Lib.hid (below_step HB11.out hb); have HC12 := Lib.hid (Kd.C_below HC.out.2 hb); have HM12 := Lib.hid (kS.M_lower HB11.out.size hm); clear hm hb))
    | (go_at_call 13; go_loud (have HR := Lib.hid (lit_R2 HB13.out.size (heap_alloc_new w13 (.cells #[.slice B0 1 f0, .slice B1 1 f1, .slice B2 1 f2, .slice B3 1 f3, .slice B4 1 f4, .slice B5 1 f5] 32)) (Kd.M_alloc HM13.out.1 _) (Kd.M_alloc HM13.out.2 _)); refine (trefoilref22_Shares.calls 20 A cc [oneS 1, oneS 2] (some ⟨w13.heap.size, 0, none⟩) 2 [oneS 1, oneS 2] true _ (Kd.C_below HC13.out (below_alloc (Below.refl _ _) _)) HC.out.1 (RS_C HR.out).2.2 (by decide) (by kernel_rfl)).mono ?_; rintro e w14 ⟨rfl, hb⟩; have HB14 := Lib.hid (below_step (below_alloc HB13.out _) hb); clear hb)))
  go_ret
  exact ⟨rfl, HB14.out⟩
end Go.Proofs.Ytieaealkdjnolaa.P
