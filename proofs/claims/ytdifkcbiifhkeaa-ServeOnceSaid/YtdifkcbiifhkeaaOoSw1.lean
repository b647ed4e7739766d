/- The table of tickets: Ask and Hear of what is known already, or where the table is full; own. -/
import Derived.Test.YtdifkcbiifhkeaaOoSv3
namespace Go.Proofs.Ytdifkcbiifhkeaa.P
open Go.RowKit Go.Maps Go.Proofs.YtdifkcbiifhkeaaW.PrintWords Go.Proofs.YtdifkcbiifhkeaaW.PrintLast Go.Proofs.YtdifkcbiifhkeaaW.PrintMore
set_option linter.unusedVariables false
set_option linter.unusedSimpArgs false
attribute [local go_sem ↓] Go.wp_at_zero Go.wp_at_succ
set_option maxRecDepth 100000 in
theorem ask_dup (w0 w : World) (g mb n : Nat) (D : DU) (M : Sm) (F : Ss) (count : Int) (b : Nat) (t : Tk) (h : TabAt w0 w g mb n D M F count) (hc : tchk t = 0) (hk : (Lit.int .i64 t.id).wf = true) (hm : M t.id = some b) (ha : (F b).asked = true) : Calls Try.prog 5 #[.pointer (some ⟨g, 0, none⟩), .agg t.C] w fun e w' => e = .returned (.int .i64 41) ∧ Below w.heap.size w w' := by
  have HR := Lib.hid (ready_ok g t _ _ _ (blk_alloc h.blk (.cells t.C 30)))
  rw [hc] at HR
  have HB0 := Lib.hid (below_alloc (Below.refl w.heap.size w) (.cells t.C 30))
  have HQ0 := Lib.hid (heap_alloc_new w (.cells t.C 30))
  have HT := Lib.hid h
  have HM := Lib.hid hm
  have HK := Lib.hid hk
  have HA := Lib.hid ha
  clear h hc hm hk ha
  go_enter Try.func5, Try.ntmps5
  go_wp2_with (go_at_call 12; (with_reducible refine HR.out.mono ?_); rintro e w1 ⟨rfl, hb⟩; have HB1 := Lib.hid (below_step HB0.out hb); have HQ1 := Lib.hid (blk_below HQ0.out hb); have HT1 := Lib.hid (HT.out.below HB1.out); clear hb)
  obtain ⟨c0, c1, c2, f0, f1, f2⟩ := cells_3 HT1.out.blk
  obtain ⟨q0, q1, q2, q3, q4, q5, q6, -⟩ := cells_7 HQ1.out
  have HS := Lib.hid (HT1.out.slots t.id b HM.out).1
  have ca : w1.cell? ⟨b, 14, none⟩ = some (.bool true) := by rw [blk_cell HS.out 14, ← HA.out]; rfl
  have HLK : Aside0 (∀ w', OwnP w' mb n D → (Instr.lookup 44 (.map (some mb)) (.int .i64 t.id) true).run Try.prog w' = .ok (.tuple #[.pointer (some ⟨b, 0, none⟩), .bool true]) w') := ⟨fun w' h => by have := lookP_run h HT1.out.has HK.out; rw [HM.out] at this; exact this⟩
  go_region_held3 (fun w' => w'.cell? ⟨g, 0, none⟩ = some (.map (some mb)) ∧ w'.cell? ⟨w.heap.size, 0, none⟩ = some (.int .i64 t.id) ∧ (Instr.lookup 44 (.map (some mb)) (.int .i64 t.id) true).run Try.prog w' = .ok (.tuple #[.pointer (some ⟨b, 0, none⟩), .bool true]) w') (refine ⟨?_, ?_, ?_⟩ <;> first | exact c0 | exact q0 | exact HLK.out _ HT1.out.own | exact HLK.out _ HT1.out.own.drew | go_keep) (fail)
  go_wp2
  go_ret
  exact ⟨rfl, below_drew1 HB1.out⟩
set_option maxRecDepth 100000 in
theorem ask_full (w0 w : World) (g mb n : Nat) (D : DU) (M : Sm) (F : Ss) (count : Int) (t : Tk) (h : TabAt w0 w g mb n D M F count) (hc : tchk t = 0) (hk : (Lit.int .i64 t.id).wf = true) (hm : M t.id = none) (hs : 64 ≤ Maps.size D) : Calls Try.prog 5 #[.pointer (some ⟨g, 0, none⟩), .agg t.C] w fun e w' => e = .returned (.int .i64 16) ∧ Below w.heap.size w w' := by
  have HR := Lib.hid (ready_ok g t _ _ _ (blk_alloc h.blk (.cells t.C 30)))
  rw [hc] at HR
  have HB0 := Lib.hid (below_alloc (Below.refl w.heap.size w) (.cells t.C 30))
  have HQ0 := Lib.hid (heap_alloc_new w (.cells t.C 30))
  have HT := Lib.hid h
  have HM := Lib.hid hm
  have HK := Lib.hid hk
  have HSZ := Lib.hid hs
  clear h hc hm hk hs
  go_enter Try.func5, Try.ntmps5
  go_wp2_with (go_at_call 12; (with_reducible refine HR.out.mono ?_); rintro e w1 ⟨rfl, hb⟩; have HB1 := Lib.hid (below_step HB0.out hb); have HQ1 := Lib.hid (blk_below HQ0.out hb); have HT1 := Lib.hid (HT.out.below HB1.out); clear hb)
  obtain ⟨c0, c1, c2, f0, f1, f2⟩ := cells_3 HT1.out.blk
  obtain ⟨q0, q1, q2, q3, q4, q5, q6, -⟩ := cells_7 HQ1.out
  have HLK : Aside0 (∀ w', OwnP w' mb n D → (Instr.lookup 44 (.map (some mb)) (.int .i64 t.id) true).run Try.prog w' = .ok (.tuple #[.pointer none, .bool false]) w') := ⟨fun w' h => by have := lookP_run h HT1.out.has HK.out; rw [HM.out] at this; exact this⟩
  go_region_held3 (fun w' => w'.cell? ⟨g, 0, none⟩ = some (.map (some mb)) ∧ w'.cell? ⟨w.heap.size, 0, none⟩ = some (.int .i64 t.id) ∧ (Instr.lookup 44 (.map (some mb)) (.int .i64 t.id) true).run Try.prog w' = .ok (.tuple #[.pointer none, .bool false]) w') (refine ⟨?_, ?_, ?_⟩ <;> first | exact c0 | exact q0 | exact HLK.out _ HT1.out.own | exact HLK.out _ HT1.out.own.drew | go_keep) (fail)
  go_wp2_with (go_at_call 13; go_loud ((with_reducible refine (slot_full w0 _ g mb n D M F count t.id (HT1.out.below (below_drew1 (Below.refl _ _))) HK.out HM.out HSZ.out).mono ?_); rintro e w2 ⟨rfl, hb⟩; have HB2 := Lib.hid (below_step (below_drew1 HB1.out) hb); clear hb))
  go_ret
  exact ⟨rfl, HB2.out⟩
set_option maxRecDepth 100000 in
theorem hear_dup (w0 w : World) (g mb n : Nat) (D : DU) (M : Sm) (F : Ss) (count : Int) (b : Nat) (t : Tk) (h : TabAt w0 w g mb n D M F count) (hc : tchk t = 0) (hk : (Lit.int .i64 t.id).wf = true) (hm : M t.id = some b) (ha : (F b).heard = true) : Calls Try.prog 11 #[.pointer (some ⟨g, 0, none⟩), .agg t.C] w fun e w' => e = .returned (.int .i64 7) ∧ Below w.heap.size w w' := by
  have HR := Lib.hid (ready_ok g t _ _ _ (blk_alloc h.blk (.cells t.C 30)))
  rw [hc] at HR
  have HB0 := Lib.hid (below_alloc (Below.refl w.heap.size w) (.cells t.C 30))
  have HQ0 := Lib.hid (heap_alloc_new w (.cells t.C 30))
  have HT := Lib.hid h
  have HM := Lib.hid hm
  have HK := Lib.hid hk
  have HA := Lib.hid ha
  clear h hc hm hk ha
  go_enter Try.func11, Try.ntmps11
  go_wp2_with (go_at_call 12; (with_reducible refine HR.out.mono ?_); rintro e w1 ⟨rfl, hb⟩; have HB1 := Lib.hid (below_step HB0.out hb); have HQ1 := Lib.hid (blk_below HQ0.out hb); have HT1 := Lib.hid (HT.out.below HB1.out); clear hb)
  obtain ⟨c0, c1, c2, f0, f1, f2⟩ := cells_3 HT1.out.blk
  obtain ⟨q0, q1, q2, q3, q4, q5, q6, -⟩ := cells_7 HQ1.out
  have HS := Lib.hid (HT1.out.slots t.id b HM.out).1
  have ca : w1.cell? ⟨b, 15, none⟩ = some (.bool true) := by rw [blk_cell HS.out 15, ← HA.out]; rfl
  have HLK : Aside0 (∀ w', OwnP w' mb n D → (Instr.lookup 44 (.map (some mb)) (.int .i64 t.id) true).run Try.prog w' = .ok (.tuple #[.pointer (some ⟨b, 0, none⟩), .bool true]) w') := ⟨fun w' h => by have := lookP_run h HT1.out.has HK.out; rw [HM.out] at this; exact this⟩
  go_region_held3 (fun w' => w'.cell? ⟨g, 0, none⟩ = some (.map (some mb)) ∧ w'.cell? ⟨w.heap.size, 0, none⟩ = some (.int .i64 t.id) ∧ (Instr.lookup 44 (.map (some mb)) (.int .i64 t.id) true).run Try.prog w' = .ok (.tuple #[.pointer (some ⟨b, 0, none⟩), .bool true]) w') (refine ⟨?_, ?_, ?_⟩ <;> first | exact c0 | exact q0 | exact HLK.out _ HT1.out.own | exact HLK.out _ HT1.out.own.drew | go_keep) (fail)
  go_wp2
  go_ret
  exact ⟨rfl, below_drew1 HB1.out⟩
set_option maxRecDepth 100000 in
theorem hear_full (w0 w : World) (g mb n : Nat) (D : DU) (M : Sm) (F : Ss) (count : Int) (t : Tk) (h : TabAt w0 w g mb n D M F count) (hc : tchk t = 0) (hk : (Lit.int .i64 t.id).wf = true) (hm : M t.id = none) (hs : 64 ≤ Maps.size D) : Calls Try.prog 11 #[.pointer (some ⟨g, 0, none⟩), .agg t.C] w fun e w' => e = .returned (.int .i64 16) ∧ Below w.heap.size w w' := by
  have HR := Lib.hid (ready_ok g t _ _ _ (blk_alloc h.blk (.cells t.C 30)))
  rw [hc] at HR
  have HB0 := Lib.hid (below_alloc (Below.refl w.heap.size w) (.cells t.C 30))
  have HQ0 := Lib.hid (heap_alloc_new w (.cells t.C 30))
  have HT := Lib.hid h
  have HM := Lib.hid hm
  have HK := Lib.hid hk
  have HSZ := Lib.hid hs
  clear h hc hm hk hs
  go_enter Try.func11, Try.ntmps11
  go_wp2_with (go_at_call 12; (with_reducible refine HR.out.mono ?_); rintro e w1 ⟨rfl, hb⟩; have HB1 := Lib.hid (below_step HB0.out hb); have HQ1 := Lib.hid (blk_below HQ0.out hb); have HT1 := Lib.hid (HT.out.below HB1.out); clear hb)
  obtain ⟨c0, c1, c2, f0, f1, f2⟩ := cells_3 HT1.out.blk
  obtain ⟨q0, q1, q2, q3, q4, q5, q6, -⟩ := cells_7 HQ1.out
  have HLK : Aside0 (∀ w', OwnP w' mb n D → (Instr.lookup 44 (.map (some mb)) (.int .i64 t.id) true).run Try.prog w' = .ok (.tuple #[.pointer none, .bool false]) w') := ⟨fun w' h => by have := lookP_run h HT1.out.has HK.out; rw [HM.out] at this; exact this⟩
  go_region_held3 (fun w' => w'.cell? ⟨g, 0, none⟩ = some (.map (some mb)) ∧ w'.cell? ⟨w.heap.size, 0, none⟩ = some (.int .i64 t.id) ∧ (Instr.lookup 44 (.map (some mb)) (.int .i64 t.id) true).run Try.prog w' = .ok (.tuple #[.pointer none, .bool false]) w') (refine ⟨?_, ?_, ?_⟩ <;> first | exact c0 | exact q0 | exact HLK.out _ HT1.out.own | exact HLK.out _ HT1.out.own.drew | go_keep) (fail)
  go_wp2_with (go_at_call 13; go_loud ((with_reducible refine (slot_full w0 _ g mb n D M F count t.id (HT1.out.below (below_drew1 (Below.refl _ _))) HK.out HM.out HSZ.out).mono ?_); rintro e w2 ⟨rfl, hb⟩; have HB2 := Lib.hid (below_step (below_drew1 HB1.out) hb); clear hb))
  go_ret
  exact ⟨rfl, HB2.out⟩
set_option maxRecDepth 100000 in
theorem own_open (w0 w : World) (g mb n : Nat) (D : DU) (M : Sm) (F : Ss) (count id : Int) (b : Nat) (h : TabAt w0 w g mb n D M F count) (hk : (Lit.int .i64 id).wf = true) (hm : M id = some b) (ha : (F b).asked = true) (hs : (F b).state = 1) : Calls Try.prog 19 #[.pointer (some ⟨g, 0, none⟩), .int .i64 id] w fun e w' => e = .returned (.tuple #[.pointer (some ⟨b, 0, none⟩), .int .i64 0]) ∧ Below w.heap.size w w' := by
  obtain ⟨c0, c1, c2, f0, f1, f2⟩ := cells_3 h.blk
  have hl := lookP_run h.own h.has hk
  rw [hm] at hl
  simp only [lookP] at hl
  have hS := (h.slots id b hm).1
  have ca : w.cell? ⟨b, 14, none⟩ = some (.bool true) := by rw [blk_cell hS 14, ← ha]; rfl
  have cs : w.cell? ⟨b, 17, none⟩ = some (.int .i64 1) := by rw [blk_cell hS 17, ← hs]; rfl
  clear h hm ha hS
  go_enter Try.func19, Try.ntmps19
  go_wp2
  go_ret2
  exact ⟨rfl, Below.refl _ _⟩
set_option maxRecDepth 100000 in
theorem own_state (w0 w : World) (g mb n : Nat) (D : DU) (M : Sm) (F : Ss) (count id : Int) (b : Nat) (h : TabAt w0 w g mb n D M F count) (hk : (Lit.int .i64 id).wf = true) (hm : M id = some b) (ha : (F b).asked = true) (hs : (F b).state ≠ 1) : Calls Try.prog 19 #[.pointer (some ⟨g, 0, none⟩), .int .i64 id] w fun e w' => e = .returned (.tuple #[.pointer none, .int .i64 8]) ∧ Below w.heap.size w w' := by
  obtain ⟨c0, c1, c2, f0, f1, f2⟩ := cells_3 h.blk
  have hl := lookP_run h.own h.has hk
  rw [hm] at hl
  simp only [lookP] at hl
  have hS := (h.slots id b hm).1
  have ca : w.cell? ⟨b, 14, none⟩ = some (.bool true) := by rw [blk_cell hS 14, ← ha]; rfl
  have cs : w.cell? ⟨b, 17, none⟩ = some (.int .i64 (F b).state) := by rw [blk_cell hS 17]; rfl
  clear h hm ha hS
  have hne : ((F b).state != 1) = true := by rw [bne_iff_ne]; exact hs
  generalize (F b).state = z at *
  go_enter Try.func19, Try.ntmps19
  go_wp2
  go_ret2
  exact ⟨rfl, Below.refl _ _⟩
end Go.Proofs.Ytdifkcbiifhkeaa.P
