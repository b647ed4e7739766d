/- The table of tickets: Grant, Refuse and Get of a ticket that the own consumer asked for. -/
import Derived.Test.YtdifkcbiifhkeaaOoSw1
namespace Go.Proofs.Ytdifkcbiifhkeaa.P
open Go.RowKit Go.Maps Go.Proofs.YtdifkcbiifhkeaaW.PrintWords Go.Proofs.YtdifkcbiifhkeaaW.PrintLast Go.Proofs.YtdifkcbiifhkeaaW.PrintMore
set_option linter.unusedVariables false
set_option linter.unusedSimpArgs false
attribute [local go_sem ↓] Go.wp_at_zero Go.wp_at_succ
abbrev rC (e f c : Int) : Array Value := #[.int .i64 e, .int .i64 f, .int .i64 c]
/-- what Get tells of a slot -/
abbrev Sl.E (s : Sl) : Array Value := #[.int .i64 s.own.id, .int .i64 s.own.k, .int .i64 s.own.b, .int .i64 s.own.m, .int .i64 s.own.q, .int .i64 s.own.n, .int .i64 s.own.c, .int .i64 s.state, .int .i64 s.code, .int .i64 s.ep, .int .i64 s.fi, .int .i64 s.co]
def Sl.grant (s : Sl) (e f c : Int) : Sl := { s with state := 2, ep := e, fi := f, co := c }
def Sl.refuse (s : Sl) (c : Int) : Sl := { s with state := 3, code := c }
theorem slot_grant {w : World} {b : Nat} {s : Sl} (e f c : Int) (h : w.heap[b]? = some (.cells s.C 50 (0, 0))) : ((((w.setCell ⟨b, 17, none⟩ (.int .i64 2)).setCell ⟨b, 19, none⟩ (.int .i64 e)).setCell ⟨b, 20, none⟩ (.int .i64 f)).setCell ⟨b, 21, none⟩ (.int .i64 c)).heap[b]? = some (.cells (s.grant e f c).C 50 (0, 0)) := by
  have h0 := blk_put h 17 (.int .i64 2) (show _ = Sl.C { s with state := 2 } from rfl)
  have h1 := blk_put h0 19 (.int .i64 e) (show _ = Sl.C { s with state := 2, ep := e } from rfl)
  have h2 := blk_put h1 20 (.int .i64 f) (show _ = Sl.C { s with state := 2, ep := e, fi := f } from rfl)
  exact blk_put h2 21 (.int .i64 c) rfl
theorem slot_refuse {w : World} {b : Nat} {s : Sl} (c : Int) (h : w.heap[b]? = some (.cells s.C 50 (0, 0))) : ((w.setCell ⟨b, 17, none⟩ (.int .i64 3)).setCell ⟨b, 18, none⟩ (.int .i64 c)).heap[b]? = some (.cells (s.refuse c).C 50 (0, 0)) := by
  have h0 := blk_put h 17 (.int .i64 3) (show _ = Sl.C { s with state := 3 } from rfl)
  exact blk_put h0 18 (.int .i64 c) rfl
section
variable (w0 w : World) (g mb n : Nat) (D : DU) (M : Sm) (F : Ss) (count id : Int) (b : Nat) (h : TabAt w0 w g mb n D M F count) (hk : (Lit.int .i64 id).wf = true) (hm : M id = some b) (ha : (F b).asked = true)
include h hk hm ha
theorem grant_state (e f c : Int) (hs : (F b).state ≠ 1) : Calls Try.prog 8 #[.pointer (some ⟨g, 0, none⟩), .int .i64 id, .agg (rC e f c)] w fun e w' => e = .returned (.int .i64 8) ∧ Below w.heap.size w w' := by
  have HB0 := Lib.hid (below_alloc (Below.refl w.heap.size w) (.cells (rC e f c) 23))
  have HO := Lib.hid (own_state w0 _ g mb n D M F count id b (h.below (below_alloc (Below.refl w.heap.size w) (.cells (rC e f c) 23))) hk hm ha hs)
  go_enter Try.func8, Try.ntmps8
  go_wp2_with (go_at_call 19; (with_reducible refine HO.out.mono ?_); rintro e w1 ⟨rfl, hb⟩)
  go_ret
  exact ⟨rfl, below_step HB0.out hb⟩
theorem refuse_state (c : Int) (hs : (F b).state ≠ 1) : Calls Try.prog 9 #[.pointer (some ⟨g, 0, none⟩), .int .i64 id, .int .i64 c] w fun e w' => e = .returned (.int .i64 8) ∧ Below w.heap.size w w' := by
  have HO := Lib.hid (own_state w0 _ g mb n D M F count id b h hk hm ha hs)
  go_enter Try.func9, Try.ntmps9
  go_wp2_with (go_at_call 19; (with_reducible refine HO.out.mono ?_); rintro e w1 ⟨rfl, hb⟩)
  go_ret
  exact ⟨rfl, hb⟩
set_option maxRecDepth 100000 in
theorem refuse_ok (c : Int) (hc : c ≠ 0) (hs : (F b).state = 1) : Calls Try.prog 9 #[.pointer (some ⟨g, 0, none⟩), .int .i64 id, .int .i64 c] w fun e w' => e = .returned (.int .i64 0) ∧ TabAt w0 w' g mb n D M (fun x => if x = b then (F b).refuse c else F x) count ∧ Chg (fun k => k = b) w w' := by
  have HO := Lib.hid (own_open w0 _ g mb n D M F count id b h hk hm ha hs)
  have hne : (c == 0) = false := by rw [beq_eq_false_iff_ne]; exact hc
  have HT := Lib.hid h
  have HM := Lib.hid hm
  clear h hm ha hk hs hc
  go_enter Try.func9, Try.ntmps9
  go_wp2_with (go_at_call 19; (with_reducible refine HO.out.mono ?_); rintro e w1 ⟨rfl, hb⟩; have HB1 := Lib.hid hb; have HS := Lib.hid (blk_below (HT.out.slots id b HM.out).1 hb); have e0 := blk_cell HS.out 17; have e1 := blk_cell HS.out 18; have hf := fun i => blk_frozen HS.out i; clear hb)
  go_ret
  have HC := ((Chg.of_below HB1.out (fun k => k = b)).set (g := b) (j := 17) (v := .int .i64 3) rfl).set (g := b) (j := 18) (v := .int .i64 c) rfl
  exact ⟨rfl, HT.out.upd (s := (F b).refuse c) HM.out HC (slot_refuse c HS.out), HC⟩
set_option maxRecDepth 100000 in
theorem grant_ok (e f c : Int) (hco : (F b).own.c = c) (hf0 : 0 ≤ f) (he0 : 0 ≤ e) (hs : (F b).state = 1) : Calls Try.prog 8 #[.pointer (some ⟨g, 0, none⟩), .int .i64 id, .agg (rC e f c)] w fun e' w' => e' = .returned (.int .i64 0) ∧ TabAt w0 w' g mb n D M (fun x => if x = b then (F b).grant e f c else F x) count ∧ Chg (fun k => k = b) w w' := by
  have hn0 : ¬ f < 0 := by omega
  have hn1 : ¬ e < 0 := by omega
  have HB0 := Lib.hid (below_alloc (Below.refl w.heap.size w) (.cells (rC e f c) 23))
  have HQ0 := Lib.hid (heap_alloc_new w (.cells (rC e f c) 23))
  have HO := Lib.hid (own_open w0 _ g mb n D M F count id b (h.below (below_alloc (Below.refl w.heap.size w) (.cells (rC e f c) 23))) hk hm ha hs)
  have HT := Lib.hid h
  have HM := Lib.hid hm
  subst hco
  clear h hm ha hk hs
  go_enter Try.func8, Try.ntmps8
  go_wp2_with (go_at_call 19; (with_reducible refine HO.out.mono ?_); rintro e' w1 ⟨rfl, hb⟩; have HB1 := Lib.hid (below_step HB0.out hb); obtain ⟨q0, q1, q2, -⟩ := cells_3 (blk_below HQ0.out hb); have HS := Lib.hid ((HT.out.below HB1.out).slots id b HM.out).1; have e0 := blk_cell HS.out 17; have e1 := blk_cell HS.out 19; have e2 := blk_cell HS.out 20; have e3 := blk_cell HS.out 21; have e6 := blk_cell HS.out 6; have hf := fun i => blk_frozen HS.out i; clear hb)
  go_quiet (fail)
  go_wp2
  go_big_region
  go_wp2
  go_ret
  have HC := (((((show Chg (fun k => k = b) w (w1.drewN (nq + 1)) from (let h := Chg.of_below HB1.out (fun k => k = b); ⟨h.os, h.tape, h.output, h.size, h.block⟩))).set (g := b) (j := 17) (v := .int .i64 2) rfl).set (g := b) (j := 19) (v := .int .i64 e) rfl).set (g := b) (j := 20) (v := .int .i64 f) rfl).set (g := b) (j := 21) (v := .int .i64 (F b).own.c) rfl
  exact ⟨rfl, HT.out.upd (s := (F b).grant e f (F b).own.c) HM.out HC (slot_grant e f _ (show (w1.drewN (nq + 1)).heap[b]? = _ from HS.out)), HC⟩
set_option maxRecDepth 100000 in
theorem grant_mis (e f c : Int) (hco : (F b).own.c = c) (hbad : f < 0 ∨ e < 0) (hs : (F b).state = 1) : Calls Try.prog 8 #[.pointer (some ⟨g, 0, none⟩), .int .i64 id, .agg (rC e f c)] w fun e' w' => e' = .returned (.int .i64 40) ∧ Below w.heap.size w w' := by
  have HB0 := Lib.hid (below_alloc (Below.refl w.heap.size w) (.cells (rC e f c) 23))
  have HQ0 := Lib.hid (heap_alloc_new w (.cells (rC e f c) 23))
  have HO := Lib.hid (own_open w0 _ g mb n D M F count id b (h.below (below_alloc (Below.refl w.heap.size w) (.cells (rC e f c) 23))) hk hm ha hs)
  have HT := Lib.hid h
  have HM := Lib.hid hm
  subst hco
  clear h hm ha hk hs
  by_cases hf0 : f < 0
  · clear hbad
    go_enter Try.func8, Try.ntmps8
    go_wp2_with (go_at_call 19; (with_reducible refine HO.out.mono ?_); rintro e' w1 ⟨rfl, hb⟩; have HB1 := Lib.hid (below_step HB0.out hb); obtain ⟨q0, q1, q2, -⟩ := cells_3 (blk_below HQ0.out hb); have HS := Lib.hid ((HT.out.below HB1.out).slots id b HM.out).1; have e0 := blk_cell HS.out 17; have e1 := blk_cell HS.out 19; have e2 := blk_cell HS.out 20; have e3 := blk_cell HS.out 21; have e6 := blk_cell HS.out 6; have hf := fun i => blk_frozen HS.out i; clear hb)
    go_quiet (fail)
    go_wp2
    go_ret
    exact ⟨rfl, pw_below_drewN HB1.out _⟩
  · have he0 : e < 0 := by omega
    clear hbad
    go_enter Try.func8, Try.ntmps8
    go_wp2_with (go_at_call 19; (with_reducible refine HO.out.mono ?_); rintro e' w1 ⟨rfl, hb⟩; have HB1 := Lib.hid (below_step HB0.out hb); obtain ⟨q0, q1, q2, -⟩ := cells_3 (blk_below HQ0.out hb); have HS := Lib.hid ((HT.out.below HB1.out).slots id b HM.out).1; have e0 := blk_cell HS.out 17; have e1 := blk_cell HS.out 19; have e2 := blk_cell HS.out 20; have e3 := blk_cell HS.out 21; have e6 := blk_cell HS.out 6; have hf := fun i => blk_frozen HS.out i; clear hb)
    go_quiet (fail)
    go_wp2
    go_ret
    exact ⟨rfl, pw_below_drewN HB1.out _⟩
set_option maxRecDepth 100000 in
theorem get_ok : Calls Try.prog 10 #[.pointer (some ⟨g, 0, none⟩), .int .i64 id] w fun e w' => e = .returned (.tuple #[.agg (F b).E, .bool true]) ∧ Below w.heap.size w w' := by
  have hA := h.below (below_alloc (Below.refl w.heap.size w) (.cells #[.int .i64 0, .int .i64 0, .int .i64 0, .int .i64 0, .int .i64 0, .int .i64 0, .int .i64 0, .int .i64 0, .int .i64 0, .int .i64 0, .int .i64 0, .int .i64 0] 38))
  obtain ⟨c0, c1, c2, f0, f1, f2⟩ := cells_3 hA.blk
  have hl := lookP_run hA.own hA.has hk
  rw [hm] at hl
  simp only [lookP] at hl
  have hS := (hA.slots id b hm).1
  have ca := blk_cell hS 14
  rw [show (F b).C[14]? = some (.bool true) by rw [← ha]; rfl] at ca
  have u0 := blk_cell hS 0
  have u1 := blk_cell hS 1
  have u2 := blk_cell hS 2
  have u3 := blk_cell hS 3
  have u4 := blk_cell hS 4
  have u5 := blk_cell hS 5
  have u6 := blk_cell hS 6
  have u17 := blk_cell hS 17
  have u18 := blk_cell hS 18
  have u19 := blk_cell hS 19
  have u20 := blk_cell hS 20
  have u21 := blk_cell hS 21
  go_enter Try.func10, Try.ntmps10
  go_wp2
  go_big_region
  go_wp2
  have hE := heap_alloc_new w (.cells (F b).E 38)
  refine bodyPost_ret (results_ct rfl _ _ w.heap.size 38 (F b).E (0, 0) _ rfl hE Try.underlying38 rfl (by kernel_rfl)) rfl ?_
  exact ⟨rfl, below_drew1 (below_alloc (Below.refl _ _) _)⟩
end
end Go.Proofs.Ytdifkcbiifhkeaa.P
