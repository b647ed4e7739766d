/- The table of tickets: Ask and Hear. -/
import Derived.Test.YtdifkcbiifhkeaaOoSv2
namespace Go.Proofs.Ytdifkcbiifhkeaa.P
open Go.RowKit Go.Maps Go.Proofs.YtdifkcbiifhkeaaW.PrintWords Go.Proofs.YtdifkcbiifhkeaaW.PrintLast Go.Proofs.YtdifkcbiifhkeaaW.PrintMore
set_option linter.unusedVariables false
set_option linter.unusedSimpArgs false
attribute [local go_sem ↓] Go.wp_at_zero Go.wp_at_succ
def Sl.ask (s : Sl) (t : Tk) : Sl := { s with own := t, asked := true }
def Sl.hear (s : Sl) (t : Tk) : Sl := { s with oth := t, heard := true }
/-- one slot's block rewritten -/
theorem TabAt.upd {w0 w w1 : World} {g mb n : Nat} {D : DU} {M : Sm} {F : Ss} {count id : Int} {b : Nat} {s : Sl} (h : TabAt w0 w g mb n D M F count) (hm : M id = some b) (hc : Chg (fun k => k = b) w w1) (hb : w1.heap[b]? = some (.cells s.C 50 (0, 0))) : TabAt w0 w1 g mb n D M (fun x => if x = b then s else F x) count := by
  obtain ⟨q1, q2⟩ := h.slots id b hm
  have hgb : g ≠ b := blk_ne h.blk q1 (by decide)
  have hmb : mb ≠ b := fun e => own_neP h.own q1 e.symm
  have hown : OwnP w1 mb n D := by
    have hlt := h.own.lt
    obtain ⟨es, clock, hb', Ft, hs, hD⟩ := h.own
    exact ⟨es, clock, (hc.block _ hlt hmb).trans hb', Ft, hs, hD⟩
  refine ⟨hc.blk h.blk hgb, hown, h.has, h.ismap, h.ge, fun k b' hk => ?_, h.one⟩
  obtain ⟨r1, r2⟩ := h.slots k b' hk
  by_cases e : b' = b
  · subst e
    rw [if_pos rfl]
    exact ⟨hb, r2⟩
  · rw [if_neg e]
    exact ⟨hc.blk r1 e, r2⟩
theorem TabAt.cong {w0 w : World} {g mb n : Nat} {D : DU} {M : Sm} {F F' : Ss} {count : Int} (h : TabAt w0 w g mb n D M F count) (e : ∀ x, F x = F' x) : TabAt w0 w g mb n D M F' count := by
  obtain rfl : F = F' := funext e
  exact h
theorem Chg.fresh {S : Nat → Prop} {w w1 w2 : World} {b : Nat} (h : Chg S w w1) (k : Chg (fun k => k = b) w1 w2) (hb : w.heap.size ≤ b) : Chg S w w2 :=
  ⟨k.os.trans h.os, k.tape.trans h.tape, k.output.trans h.output, Nat.le_trans h.size k.size, fun i hi hs => (k.block i (Nat.lt_of_lt_of_le hi h.size) (fun e => by omega)).trans (h.block i hi hs)⟩
theorem slot_ask {w : World} {b : Nat} {s : Sl} (t : Tk) (h : w.heap[b]? = some (.cells s.C 50 (0, 0))) : (((((((((w.setCell ⟨b, 0, none⟩ (.int .i64 t.id)).setCell ⟨b, 1, none⟩ (.int .i64 t.k)).setCell ⟨b, 2, none⟩ (.int .i64 t.b)).setCell ⟨b, 3, none⟩ (.int .i64 t.m)).setCell ⟨b, 4, none⟩ (.int .i64 t.q)).setCell ⟨b, 5, none⟩ (.int .i64 t.n)).setCell ⟨b, 6, none⟩ (.int .i64 t.c)).setCell ⟨b, 14, none⟩ (.bool true)).heap[b]? = some (.cells (s.ask t).C 50 (0, 0))) := by
  have h0 := blk_put h 0 (.int .i64 t.id) (show _ = Sl.C ({ s with own := { s.own with id := t.id } } : Sl) from rfl)
  have h1 := blk_put h0 1 (.int .i64 t.k) (show _ = Sl.C ({ s with own := { s.own with id := t.id, k := t.k } } : Sl) from rfl)
  have h2 := blk_put h1 2 (.int .i64 t.b) (show _ = Sl.C ({ s with own := { s.own with id := t.id, k := t.k, b := t.b } } : Sl) from rfl)
  have h3 := blk_put h2 3 (.int .i64 t.m) (show _ = Sl.C ({ s with own := { s.own with id := t.id, k := t.k, b := t.b, m := t.m } } : Sl) from rfl)
  have h4 := blk_put h3 4 (.int .i64 t.q) (show _ = Sl.C ({ s with own := { s.own with id := t.id, k := t.k, b := t.b, m := t.m, q := t.q } } : Sl) from rfl)
  have h5 := blk_put h4 5 (.int .i64 t.n) (show _ = Sl.C ({ s with own := { s.own with id := t.id, k := t.k, b := t.b, m := t.m, q := t.q, n := t.n } } : Sl) from rfl)
  have h6 := blk_put h5 6 (.int .i64 t.c) (show _ = Sl.C ({ s with own := { s.own with id := t.id, k := t.k, b := t.b, m := t.m, q := t.q, n := t.n, c := t.c } } : Sl) from rfl)
  exact blk_put h6 14 (.bool true) rfl
theorem slot_hear {w : World} {b : Nat} {s : Sl} (t : Tk) (h : w.heap[b]? = some (.cells s.C 50 (0, 0))) : (((((((((w.setCell ⟨b, 7, none⟩ (.int .i64 t.id)).setCell ⟨b, 8, none⟩ (.int .i64 t.k)).setCell ⟨b, 9, none⟩ (.int .i64 t.b)).setCell ⟨b, 10, none⟩ (.int .i64 t.m)).setCell ⟨b, 11, none⟩ (.int .i64 t.q)).setCell ⟨b, 12, none⟩ (.int .i64 t.n)).setCell ⟨b, 13, none⟩ (.int .i64 t.c)).setCell ⟨b, 15, none⟩ (.bool true)).heap[b]? = some (.cells (s.hear t).C 50 (0, 0))) := by
  have h0 := blk_put h 7 (.int .i64 t.id) (show _ = Sl.C ({ s with oth := { s.oth with id := t.id } } : Sl) from rfl)
  have h1 := blk_put h0 8 (.int .i64 t.k) (show _ = Sl.C ({ s with oth := { s.oth with id := t.id, k := t.k } } : Sl) from rfl)
  have h2 := blk_put h1 9 (.int .i64 t.b) (show _ = Sl.C ({ s with oth := { s.oth with id := t.id, k := t.k, b := t.b } } : Sl) from rfl)
  have h3 := blk_put h2 10 (.int .i64 t.m) (show _ = Sl.C ({ s with oth := { s.oth with id := t.id, k := t.k, b := t.b, m := t.m } } : Sl) from rfl)
  have h4 := blk_put h3 11 (.int .i64 t.q) (show _ = Sl.C ({ s with oth := { s.oth with id := t.id, k := t.k, b := t.b, m := t.m, q := t.q } } : Sl) from rfl)
  have h5 := blk_put h4 12 (.int .i64 t.n) (show _ = Sl.C ({ s with oth := { s.oth with id := t.id, k := t.k, b := t.b, m := t.m, q := t.q, n := t.n } } : Sl) from rfl)
  have h6 := blk_put h5 13 (.int .i64 t.c) (show _ = Sl.C ({ s with oth := { s.oth with id := t.id, k := t.k, b := t.b, m := t.m, q := t.q, n := t.n, c := t.c } } : Sl) from rfl)
  exact blk_put h6 15 (.bool true) rfl
theorem ask_no (g : Nat) (t : Tk) (w : World) (mv cv : Value) (h : w.heap[g]? = some (.cells #[mv, cv, .bool true] 46 (0, 0))) (hc : tchk t ≠ 0) : Calls Try.prog 5 #[.pointer (some ⟨g, 0, none⟩), .agg t.C] w fun e w' => e = .returned (.int .i64 (tchk t)) ∧ Below w.heap.size w w' := by
  have HR := Lib.hid (ready_ok g t _ mv cv (blk_alloc h (.cells t.C 30)))
  have HB0 := Lib.hid (below_alloc (Below.refl w.heap.size w) (.cells t.C 30))
  have hb : (tchk t != 0) = true := by rw [bne_iff_ne]; exact hc
  generalize tchk t = z at *
  go_enter Try.func5, Try.ntmps5
  go_wp2_with (go_at_call 12; (with_reducible refine HR.out.mono ?_); rintro e w1 ⟨rfl, hb⟩; have HB1 := Lib.hid (below_step HB0.out hb); clear hb)
  go_ret
  exact ⟨rfl, HB1.out⟩
set_option maxRecDepth 100000 in
theorem ask_there (w0 w : World) (g mb n : Nat) (D : DU) (M : Sm) (F : Ss) (count : Int) (b : Nat) (t : Tk) (h : TabAt w0 w g mb n D M F count) (hc : tchk t = 0) (hk : (Lit.int .i64 t.id).wf = true) (hm : M t.id = some b) (ha : (F b).asked = false) : Calls Try.prog 5 #[.pointer (some ⟨g, 0, none⟩), .agg t.C] w fun e w' => e = .returned (.int .i64 0) ∧ TabAt w0 w' g mb n D M (fun x => if x = b then (F b).ask t else F x) count ∧ Chg (fun k => k = b) w w' := by
  have HR := Lib.hid (ready_ok g t _ _ _ (blk_alloc h.blk (.cells t.C 30)))
  rw [hc] at HR
  have HB0 := Lib.hid (below_alloc (Below.refl w.heap.size w) (.cells t.C 30))
  have HQ0 := Lib.hid (heap_alloc_new w (.cells t.C 30))
  have HT := Lib.hid h
  have HM := Lib.hid hm
  have HK := Lib.hid hk
  have HA := Lib.hid ha
  clear h hc hm hk ha
  go_enter Try.func5, Try.ntmps5
  go_wp2_with (go_at_call 12; (with_reducible refine HR.out.mono ?_); rintro e w1 ⟨rfl, hb⟩; have HB1 := Lib.hid (below_step HB0.out hb); have HQ1 := Lib.hid (blk_below HQ0.out hb); have HT1 := Lib.hid (HT.out.below HB1.out); clear hb)
  obtain ⟨c0, c1, c2, f0, f1, f2⟩ := cells_3 HT1.out.blk
  obtain ⟨q0, q1, q2, q3, q4, q5, q6, -⟩ := cells_7 HQ1.out
  have HS := Lib.hid (HT1.out.slots t.id b HM.out).1
  have ca : w1.cell? ⟨b, 14, none⟩ = some (.bool false) := by rw [blk_cell HS.out 14, ← HA.out]; rfl
  have HLK : Aside0 (∀ w', OwnP w' mb n D → (Instr.lookup 44 (.map (some mb)) (.int .i64 t.id) true).run Try.prog w' = .ok (.tuple #[.pointer (some ⟨b, 0, none⟩), .bool true]) w') := ⟨fun w' h => by have := lookP_run h HT1.out.has HK.out; rw [HM.out] at this; exact this⟩
  go_region_held3 (fun w' => w'.cell? ⟨g, 0, none⟩ = some (.map (some mb)) ∧ w'.cell? ⟨w.heap.size, 0, none⟩ = some (.int .i64 t.id) ∧ (Instr.lookup 44 (.map (some mb)) (.int .i64 t.id) true).run Try.prog w' = .ok (.tuple #[.pointer (some ⟨b, 0, none⟩), .bool true]) w') (refine ⟨?_, ?_, ?_⟩ <;> first | exact c0 | exact q0 | exact HLK.out _ HT1.out.own | exact HLK.out _ HT1.out.own.drew | go_keep) (fail)
  go_wp2_with (go_at_call 13; go_loud ((with_reducible refine (slot_there w0 _ g mb n D M F count t.id b (by first | exact HT1.out | exact HT1.out.below (below_drew1 (Below.refl _ _))) HK.out HM.out).mono ?_); rintro e w2 ⟨rfl, hb⟩; have HB2 := Lib.hid (below_step (below_drew1 HB1.out) hb); obtain ⟨t0, t1, t2, t3, t4, t5, t6, -⟩ := cells_7 (blk_below (blk_drew HQ1.out) hb); have HS2 := Lib.hid (blk_below (blk_drew HS.out) hb); have hf := fun i => blk_frozen (blk_below (blk_drew HS.out) hb) i; have e0 := blk_cell HS2.out 0; have e1 := blk_cell HS2.out 1; have e2 := blk_cell HS2.out 2; have e3 := blk_cell HS2.out 3; have e4 := blk_cell HS2.out 4; have e5 := blk_cell HS2.out 5; have e6 := blk_cell HS2.out 6; have e7 := blk_cell HS2.out 14; clear hb c0 c1 c2 f0 f1 f2 q0 q1 q2 q3 q4 q5 q6 ca))
  have HC2 : Chg (fun k => k = b) w w2 := Chg.of_below HB2.out _
  go_ret
  have HC := ((((((((HC2.set (g := b) (j := 0) (v := .int .i64 t.id) rfl).set (g := b) (j := 1) (v := .int .i64 t.k) rfl).set (g := b) (j := 2) (v := .int .i64 t.b) rfl).set (g := b) (j := 3) (v := .int .i64 t.m) rfl).set (g := b) (j := 4) (v := .int .i64 t.q) rfl).set (g := b) (j := 5) (v := .int .i64 t.n) rfl).set (g := b) (j := 6) (v := .int .i64 t.c) rfl).set (g := b) (j := 14) (v := .bool true) rfl)
  refine ⟨rfl, HT.out.upd (s := (F b).ask t) HM.out HC ?_, HC⟩
  exact slot_ask t HS2.out
set_option maxRecDepth 100000 in
theorem ask_new (w0 w : World) (g mb n : Nat) (D : DU) (M : Sm) (F : Ss) (count : Int) (t : Tk) (h : TabAt w0 w g mb n D M F count) (hc : tchk t = 0) (hk : (Lit.int .i64 t.id).wf = true) (hm : M t.id = none) (hs : Maps.size D < 64) (hn : n < maxLen) (hcount : 0 ≤ count ∧ count < 1000000) : Calls Try.prog 5 #[.pointer (some ⟨g, 0, none⟩), .agg t.C] w fun e w' => e = .returned (.int .i64 0) ∧ ∃ b, w.heap.size ≤ b ∧ TabAt w0 w' g mb (n + 1) (D.put (.int .i64 t.id) (.lit (.int .i64 (b : Int)))) (putP M t.id b) (fun x => if x = b then (Sl.new (count + 1)).ask t else F x) (count + 1) ∧ Chg (fun k => k = g ∨ k = mb) w w' := by
  have HR := Lib.hid (ready_ok g t _ _ _ (blk_alloc h.blk (.cells t.C 30)))
  rw [hc] at HR
  have HB0 := Lib.hid (below_alloc (Below.refl w.heap.size w) (.cells t.C 30))
  have HQ0 := Lib.hid (heap_alloc_new w (.cells t.C 30))
  have HT := Lib.hid h
  have HM := Lib.hid hm
  have HK := Lib.hid hk
  have HSZ := Lib.hid hs
  have HN := Lib.hid hn
  have HCO := Lib.hid hcount
  clear h hc hm hk hs hn hcount
  go_enter Try.func5, Try.ntmps5
  go_wp2_with (go_at_call 12; (with_reducible refine HR.out.mono ?_); rintro e w1 ⟨rfl, hb⟩; have HB1 := Lib.hid (below_step HB0.out hb); have HQ1 := Lib.hid (blk_below HQ0.out hb); have HT1 := Lib.hid (HT.out.below HB1.out); clear hb)
  obtain ⟨c0, c1, c2, f0, f1, f2⟩ := cells_3 HT1.out.blk
  obtain ⟨q0, q1, q2, q3, q4, q5, q6, -⟩ := cells_7 HQ1.out
  have HLK : Aside0 (∀ w', OwnP w' mb n D → (Instr.lookup 44 (.map (some mb)) (.int .i64 t.id) true).run Try.prog w' = .ok (.tuple #[.pointer none, .bool false]) w') := ⟨fun w' h => by have := lookP_run h HT1.out.has HK.out; rw [HM.out] at this; exact this⟩
  go_region_held3 (fun w' => w'.cell? ⟨g, 0, none⟩ = some (.map (some mb)) ∧ w'.cell? ⟨w.heap.size, 0, none⟩ = some (.int .i64 t.id) ∧ (Instr.lookup 44 (.map (some mb)) (.int .i64 t.id) true).run Try.prog w' = .ok (.tuple #[.pointer none, .bool false]) w') (refine ⟨?_, ?_, ?_⟩ <;> first | exact c0 | exact q0 | exact HLK.out _ HT1.out.own | exact HLK.out _ HT1.out.own.drew | go_keep) (fail)
  go_wp2_with (go_at_call 13; go_loud ((with_reducible refine (slot_new w0 _ g mb n D M F count t.id (HT1.out.below (below_drew1 (Below.refl _ _))) HK.out HM.out HSZ.out HN.out HCO.out).mono ?_); rintro e w2 ⟨b, D', rfl, hb, hT2, rfl, hch⟩; have HT2 := Lib.hid hT2; have HCH := Lib.hid ((Chg.of_below (below_drew1 HB1.out) (fun k => k = g ∨ k = mb)).trans hch); have HBB := Lib.hid (show w1.heap.size ≤ b from hb); have hS := (hT2.slots t.id b (by unfold putP; rw [if_pos rfl])).1; rw [if_pos rfl] at hS; have HS2 := Lib.hid hS; obtain ⟨t0, t1, t2, t3, t4, t5, t6, -⟩ := cells_7 (hch.blk (blk_drew HQ1.out) (fun e => by rcases e with e | e; exact blk_ne HQ1.out HT1.out.blk (by decide) e; exact own_neP HT1.out.own HQ1.out e)); have hf := fun i => blk_frozen hS i; have e0 := blk_cell HS2.out 0; have e1 := blk_cell HS2.out 1; have e2 := blk_cell HS2.out 2; have e3 := blk_cell HS2.out 3; have e4 := blk_cell HS2.out 4; have e5 := blk_cell HS2.out 5; have e6 := blk_cell HS2.out 6; have e7 := blk_cell HS2.out 14; clear hT2 hS hch c0 c1 c2 f0 f1 f2 q0 q1 q2 q3 q4 q5 q6))
  go_ret
  have HC := (((((((((Chg.refl (fun k => k = b) w2).set (g := b) (j := 0) (v := .int .i64 t.id) rfl).set (g := b) (j := 1) (v := .int .i64 t.k) rfl).set (g := b) (j := 2) (v := .int .i64 t.b) rfl).set (g := b) (j := 3) (v := .int .i64 t.m) rfl).set (g := b) (j := 4) (v := .int .i64 t.q) rfl).set (g := b) (j := 5) (v := .int .i64 t.n) rfl).set (g := b) (j := 6) (v := .int .i64 t.c) rfl).set (g := b) (j := 14) (v := .bool true) rfl)
  have hlt : w.heap.size ≤ b := Nat.le_trans HB1.out.size HBB.out
  have HU := HT2.out.upd (s := (Sl.new (count + 1)).ask t) (id := t.id) (by unfold putP; rw [if_pos rfl]) HC (slot_ask t HS2.out)
  refine ⟨rfl, b, hlt, HU.cong (fun x => ?_), HCH.out.fresh HC hlt⟩
  by_cases e : x = b
  · simp only [if_pos e]
  · simp only [if_neg e]
theorem hear_no (g : Nat) (t : Tk) (w : World) (mv cv : Value) (h : w.heap[g]? = some (.cells #[mv, cv, .bool true] 46 (0, 0))) (hc : tchk t ≠ 0) : Calls Try.prog 11 #[.pointer (some ⟨g, 0, none⟩), .agg t.C] w fun e w' => e = .returned (.int .i64 (tchk t)) ∧ Below w.heap.size w w' := by
  have HR := Lib.hid (ready_ok g t _ mv cv (blk_alloc h (.cells t.C 30)))
  have HB0 := Lib.hid (below_alloc (Below.refl w.heap.size w) (.cells t.C 30))
  have hb : (tchk t != 0) = true := by rw [bne_iff_ne]; exact hc
  generalize tchk t = z at *
  go_enter Try.func11, Try.ntmps11
  go_wp2_with (go_at_call 12; (with_reducible refine HR.out.mono ?_); rintro e w1 ⟨rfl, hb⟩; have HB1 := Lib.hid (below_step HB0.out hb); clear hb)
  go_ret
  exact ⟨rfl, HB1.out⟩
set_option maxRecDepth 100000 in
theorem hear_there (w0 w : World) (g mb n : Nat) (D : DU) (M : Sm) (F : Ss) (count : Int) (b : Nat) (t : Tk) (h : TabAt w0 w g mb n D M F count) (hc : tchk t = 0) (hk : (Lit.int .i64 t.id).wf = true) (hm : M t.id = some b) (ha : (F b).heard = false) : Calls Try.prog 11 #[.pointer (some ⟨g, 0, none⟩), .agg t.C] w fun e w' => e = .returned (.int .i64 0) ∧ TabAt w0 w' g mb n D M (fun x => if x = b then (F b).hear t else F x) count ∧ Chg (fun k => k = b) w w' := by
  have HR := Lib.hid (ready_ok g t _ _ _ (blk_alloc h.blk (.cells t.C 30)))
  rw [hc] at HR
  have HB0 := Lib.hid (below_alloc (Below.refl w.heap.size w) (.cells t.C 30))
  have HQ0 := Lib.hid (heap_alloc_new w (.cells t.C 30))
  have HT := Lib.hid h
  have HM := Lib.hid hm
  have HK := Lib.hid hk
  have HA := Lib.hid ha
  clear h hc hm hk ha
  go_enter Try.func11, Try.ntmps11
  go_wp2_with (go_at_call 12; (with_reducible refine HR.out.mono ?_); rintro e w1 ⟨rfl, hb⟩; have HB1 := Lib.hid (below_step HB0.out hb); have HQ1 := Lib.hid (blk_below HQ0.out hb); have HT1 := Lib.hid (HT.out.below HB1.out); clear hb)
  obtain ⟨c0, c1, c2, f0, f1, f2⟩ := cells_3 HT1.out.blk
  obtain ⟨q0, q1, q2, q3, q4, q5, q6, -⟩ := cells_7 HQ1.out
  have HS := Lib.hid (HT1.out.slots t.id b HM.out).1
  have ca : w1.cell? ⟨b, 15, none⟩ = some (.bool false) := by rw [blk_cell HS.out 15, ← HA.out]; rfl
  have HLK : Aside0 (∀ w', OwnP w' mb n D → (Instr.lookup 44 (.map (some mb)) (.int .i64 t.id) true).run Try.prog w' = .ok (.tuple #[.pointer (some ⟨b, 0, none⟩), .bool true]) w') := ⟨fun w' h => by have := lookP_run h HT1.out.has HK.out; rw [HM.out] at this; exact this⟩
  go_region_held3 (fun w' => w'.cell? ⟨g, 0, none⟩ = some (.map (some mb)) ∧ w'.cell? ⟨w.heap.size, 0, none⟩ = some (.int .i64 t.id) ∧ (Instr.lookup 44 (.map (some mb)) (.int .i64 t.id) true).run Try.prog w' = .ok (.tuple #[.pointer (some ⟨b, 0, none⟩), .bool true]) w') (refine ⟨?_, ?_, ?_⟩ <;> first | exact c0 | exact q0 | exact HLK.out _ HT1.out.own | exact HLK.out _ HT1.out.own.drew | go_keep) (fail)
  go_wp2_with (go_at_call 13; go_loud ((with_reducible refine (slot_there w0 _ g mb n D M F count t.id b (by first | exact HT1.out | exact HT1.out.below (below_drew1 (Below.refl _ _))) HK.out HM.out).mono ?_); rintro e w2 ⟨rfl, hb⟩; have HB2 := Lib.hid (below_step (below_drew1 HB1.out) hb); obtain ⟨t0, t1, t2, t3, t4, t5, t6, -⟩ := cells_7 (blk_below (blk_drew HQ1.out) hb); have HS2 := Lib.hid (blk_below (blk_drew HS.out) hb); have hf := fun i => blk_frozen (blk_below (blk_drew HS.out) hb) i; have e0 := blk_cell HS2.out 7; have e1 := blk_cell HS2.out 8; have e2 := blk_cell HS2.out 9; have e3 := blk_cell HS2.out 10; have e4 := blk_cell HS2.out 11; have e5 := blk_cell HS2.out 12; have e6 := blk_cell HS2.out 13; have e7 := blk_cell HS2.out 15; clear hb c0 c1 c2 f0 f1 f2 q0 q1 q2 q3 q4 q5 q6 ca))
  have HC2 : Chg (fun k => k = b) w w2 := Chg.of_below HB2.out _
  go_ret
  have HC := ((((((((HC2.set (g := b) (j := 7) (v := .int .i64 t.id) rfl).set (g := b) (j := 8) (v := .int .i64 t.k) rfl).set (g := b) (j := 9) (v := .int .i64 t.b) rfl).set (g := b) (j := 10) (v := .int .i64 t.m) rfl).set (g := b) (j := 11) (v := .int .i64 t.q) rfl).set (g := b) (j := 12) (v := .int .i64 t.n) rfl).set (g := b) (j := 13) (v := .int .i64 t.c) rfl).set (g := b) (j := 15) (v := .bool true) rfl)
  refine ⟨rfl, HT.out.upd (s := (F b).hear t) HM.out HC ?_, HC⟩
  exact slot_hear t HS2.out
set_option maxRecDepth 100000 in
theorem hear_new (w0 w : World) (g mb n : Nat) (D : DU) (M : Sm) (F : Ss) (count : Int) (t : Tk) (h : TabAt w0 w g mb n D M F count) (hc : tchk t = 0) (hk : (Lit.int .i64 t.id).wf = true) (hm : M t.id = none) (hs : Maps.size D < 64) (hn : n < maxLen) (hcount : 0 ≤ count ∧ count < 1000000) : Calls Try.prog 11 #[.pointer (some ⟨g, 0, none⟩), .agg t.C] w fun e w' => e = .returned (.int .i64 0) ∧ ∃ b, w.heap.size ≤ b ∧ TabAt w0 w' g mb (n + 1) (D.put (.int .i64 t.id) (.lit (.int .i64 (b : Int)))) (putP M t.id b) (fun x => if x = b then (Sl.new (count + 1)).hear t else F x) (count + 1) ∧ Chg (fun k => k = g ∨ k = mb) w w' := by
  have HR := Lib.hid (ready_ok g t _ _ _ (blk_alloc h.blk (.cells t.C 30)))
  rw [hc] at HR
  have HB0 := Lib.hid (below_alloc (Below.refl w.heap.size w) (.cells t.C 30))
  have HQ0 := Lib.hid (heap_alloc_new w (.cells t.C 30))
  have HT := Lib.hid h
  have HM := Lib.hid hm
  have HK := Lib.hid hk
  have HSZ := Lib.hid hs
  have HN := Lib.hid hn
  have HCO := Lib.hid hcount
  clear h hc hm hk hs hn hcount
  go_enter Try.func11, Try.ntmps11
  go_wp2_with (go_at_call 12; (with_reducible refine HR.out.mono ?_); rintro e w1 ⟨rfl, hb⟩; have HB1 := Lib.hid (below_step HB0.out hb); have HQ1 := Lib.hid (blk_below HQ0.out hb); have HT1 := Lib.hid (HT.out.below HB1.out); clear hb)
  obtain ⟨c0, c1, c2, f0, f1, f2⟩ := cells_3 HT1.out.blk
  obtain ⟨q0, q1, q2, q3, q4, q5, q6, -⟩ := cells_7 HQ1.out
  have HLK : Aside0 (∀ w', OwnP w' mb n D → (Instr.lookup 44 (.map (some mb)) (.int .i64 t.id) true).run Try.prog w' = .ok (.tuple #[.pointer none, .bool false]) w') := ⟨fun w' h => by have := lookP_run h HT1.out.has HK.out; rw [HM.out] at this; exact this⟩
  go_region_held3 (fun w' => w'.cell? ⟨g, 0, none⟩ = some (.map (some mb)) ∧ w'.cell? ⟨w.heap.size, 0, none⟩ = some (.int .i64 t.id) ∧ (Instr.lookup 44 (.map (some mb)) (.int .i64 t.id) true).run Try.prog w' = .ok (.tuple #[.pointer none, .bool false]) w') (refine ⟨?_, ?_, ?_⟩ <;> first | exact c0 | exact q0 | exact HLK.out _ HT1.out.own | exact HLK.out _ HT1.out.own.drew | go_keep) (fail)
  go_wp2_with (go_at_call 13; go_loud ((with_reducible refine (slot_new w0 _ g mb n D M F count t.id (HT1.out.below (below_drew1 (Below.refl _ _))) HK.out HM.out HSZ.out HN.out HCO.out).mono ?_); rintro e w2 ⟨b, D', rfl, hb, hT2, rfl, hch⟩; have HT2 := Lib.hid hT2; have HCH := Lib.hid ((Chg.of_below (below_drew1 HB1.out) (fun k => k = g ∨ k = mb)).trans hch); have HBB := Lib.hid (show w1.heap.size ≤ b from hb); have hS := (hT2.slots t.id b (by unfold putP; rw [if_pos rfl])).1; rw [if_pos rfl] at hS; have HS2 := Lib.hid hS; obtain ⟨t0, t1, t2, t3, t4, t5, t6, -⟩ := cells_7 (hch.blk (blk_drew HQ1.out) (fun e => by rcases e with e | e; exact blk_ne HQ1.out HT1.out.blk (by decide) e; exact own_neP HT1.out.own HQ1.out e)); have hf := fun i => blk_frozen hS i; have e0 := blk_cell HS2.out 7; have e1 := blk_cell HS2.out 8; have e2 := blk_cell HS2.out 9; have e3 := blk_cell HS2.out 10; have e4 := blk_cell HS2.out 11; have e5 := blk_cell HS2.out 12; have e6 := blk_cell HS2.out 13; have e7 := blk_cell HS2.out 15; clear hT2 hS hch c0 c1 c2 f0 f1 f2 q0 q1 q2 q3 q4 q5 q6))
  go_ret
  have HC := (((((((((Chg.refl (fun k => k = b) w2).set (g := b) (j := 7) (v := .int .i64 t.id) rfl).set (g := b) (j := 8) (v := .int .i64 t.k) rfl).set (g := b) (j := 9) (v := .int .i64 t.b) rfl).set (g := b) (j := 10) (v := .int .i64 t.m) rfl).set (g := b) (j := 11) (v := .int .i64 t.q) rfl).set (g := b) (j := 12) (v := .int .i64 t.n) rfl).set (g := b) (j := 13) (v := .int .i64 t.c) rfl).set (g := b) (j := 15) (v := .bool true) rfl)
  have hlt : w.heap.size ≤ b := Nat.le_trans HB1.out.size HBB.out
  have HU := HT2.out.upd (s := (Sl.new (count + 1)).hear t) (id := t.id) (by unfold putP; rw [if_pos rfl]) HC (slot_hear t HS2.out)
  refine ⟨rfl, b, hlt, HU.cong (fun x => ?_), HCH.out.fresh HC hlt⟩
  by_cases e : x = b
  · simp only [if_pos e]
  · simp only [if_neg e]
end Go.Proofs.Ytdifkcbiifhkeaa.P
