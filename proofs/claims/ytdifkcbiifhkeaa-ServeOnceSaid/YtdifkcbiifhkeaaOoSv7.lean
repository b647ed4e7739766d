/- The table of tickets: Matched and Unlike, of the chapter's example. -/
import Derived.Test.YtdifkcbiifhkeaaOoSv6
namespace Go.Proofs.Ytdifkcbiifhkeaa.P
open Go.RowKit Go.Maps Go.Proofs.YtdifkcbiifhkeaaW.PrintWords Go.Proofs.YtdifkcbiifhkeaaW.PrintLast Go.Proofs.YtdifkcbiifhkeaaW.PrintMore
set_option linter.unusedVariables false
set_option linter.unusedSimpArgs false
attribute [local go_sem ↓] Go.wp_at_zero Go.wp_at_succ
abbrev P56 : Sl := ⟨⟨5, 1, 8, 0, 0, 0, 2⟩, ⟨5, 1, 8, 0, 0, 0, 3⟩, true, true, 1, 1, 0, 0, 0, 0⟩
abbrev Q56 : Sl := ⟨⟨6, 3, 1, 0, 0, 0, 1⟩, ⟨6, 3, 1, 0, 0, 0, 1⟩, true, true, 2, 1, 0, 0, 0, 0⟩
theorem info_int : (Try.prog.info? 3).map (fun i => (i.zero, i.size, i.bytes)) = some (some (.int .i64 0), 1, 8) := by kernel_rfl
/-- the example's table, behind its four calls -/
structure Aw (w0 w : World) (g mb n : Nat) (D : DU) (M : Sm) (F : Ss) (count : Int) (p q : Nat) : Prop where
  tab : TabAt w0 w g mb n D M F count
  few : Maps.size D ≤ 1000000
  keys : intKeys D = [5, 6]
  m5 : M 5 = some p
  m6 : M 6 = some q
  fp : F p = P56
  fq : F q = Q56
section
variable {w0 w : World} {g mb n : Nat} {D : DU} {M : Sm} {F : Ss} {count : Int} {p q : Nat}
theorem Aw.below {w' : World} (h : Aw w0 w g mb n D M F count p q) (hb : Below w.heap.size w w') : Aw w0 w' g mb n D M F count p q := ⟨h.tab.below hb, h.few, h.keys, h.m5, h.m6, h.fp, h.fq⟩
theorem Aw.slotP (h : Aw w0 w g mb n D M F count p q) : w.heap[p]? = some (.cells P56.C 50 (0, 0)) := by have := (h.tab.slots 5 p h.m5).1; rwa [h.fp] at this
theorem Aw.slotQ (h : Aw w0 w g mb n D M F count p q) : w.heap[q]? = some (.cells Q56.C 50 (0, 0)) := by have := (h.tab.slots 6 q h.m6).1; rwa [h.fq] at this
theorem Aw.open_ok (h : Aw w0 w g mb n D M F count p q) : Calls Try.prog 22 #[.pointer (some ⟨g, 0, none⟩)] w fun e w' => ∃ r c, e = .returned (.slice (some ⟨r, 0, none⟩) 2 c) ∧ r < w'.heap.size ∧ w'.cell? ⟨r, 0, none⟩ = some (.pointer (some ⟨p, 0, none⟩)) ∧ w'.cell? ⟨r, 1, none⟩ = some (.pointer (some ⟨q, 0, none⟩)) ∧ Below w.heap.size w w' :=
  open_two w0 w g mb n D M F count p q h.tab h.few h.keys h.m5 h.m6 (by rw [h.fp]; exact ⟨rfl, rfl, rfl, rfl⟩) (by rw [h.fq]; exact ⟨rfl, rfl, rfl, rfl⟩)
end
set_option maxRecDepth 100000 in
set_option maxHeartbeats 1600000 in
theorem unlike_aw (w0 w : World) (g mb n : Nat) (D : DU) (M : Sm) (F : Ss) (count : Int) (p q : Nat) (h : Aw w0 w g mb n D M F count p q) :
    Calls Try.prog 16 #[.pointer (some ⟨g, 0, none⟩)] w fun e w' => ∃ A c, e = .returned (.slice A 1 c) ∧ 1 ≤ c ∧ Kd.C (Kd.int .i64) w' A 1 [5] ∧ Below w.heap.size w w' := by
  have HA := Lib.hid h
  clear h
  go_enter Try.func16, Try.ntmps16
  go_wp2_with (go_at_call 22; (with_reducible refine HA.out.open_ok.mono ?_); rintro e w1 ⟨r, c, rfl, hr, r0, r1, hb⟩; have HB1 := Lib.hid hb; have HP := Lib.hid (HA.out.below hb).slotP; have HQ := Lib.hid (HA.out.below hb).slotQ; clear hb)
  go_loopw [3, 11] (fun l a wr => ∃ j : Nat, j ≤ 2 ∧ a = .int .i64 (j : Int) ∧ Go.RowKit.Hid (Below w1.heap.size w1 wr) ∧ Go.RowKit.Hid (Kd.R (Kd.int .i64) 3 wr w1.heap.size (fun _ => True) l (if j = 0 then [] else [5]))) (fun l a _ => 3 - (intOf a).toNat)
  case atStart => exact ⟨0, by omega, rfl, Lib.hid (Below.refl _ _), Lib.hid (Kd.R_nil _ _ _ _ _)⟩
  case round =>
    obtain ⟨j, hj, rfl, HBR, HL⟩ := hrel
    have s0 := (HBR.out.cell (p := ⟨r, 0, none⟩) hr).trans r0
    have s1 := (HBR.out.cell (p := ⟨r, 1, none⟩) hr).trans r1
    have HPR := Lib.hid (blk_below HP.out HBR.out)
    have HQR := Lib.hid (blk_below HQ.out HBR.out)
    have hj2 : j = 0 ∨ j = 1 ∨ j = 2 := by omega
    rcases hj2 with rfl | rfl | rfl
    ·
      have e0 := blk_cell HPR.out 0
      have e1 := blk_cell HPR.out 1
      have e2 := blk_cell HPR.out 2
      have e3 := blk_cell HPR.out 3
      have e4 := blk_cell HPR.out 4
      have e5 := blk_cell HPR.out 5
      have e6 := blk_cell HPR.out 6
      have e7 := blk_cell HPR.out 7
      have e8 := blk_cell HPR.out 8
      have e9 := blk_cell HPR.out 9
      have e10 := blk_cell HPR.out 10
      have e11 := blk_cell HPR.out 11
      have e12 := blk_cell HPR.out 12
      have e13 := blk_cell HPR.out 13
      go_wp2
      go_quiet (fail)
      have HBW := Lib.hid (pw_below_drewN (Below.refl wr.heap.size wr) nq)
      generalize wr.drewN nq = W at *
      have HLW := Lib.hid (Kd.R_below HL.out HBW.out)
      have HBX := Lib.hid (below_step HBR.out HBW.out)
      have x0 := blk_cell (blk_below HPR.out HBW.out) 0
      go_wp2_with (at_builtin; go_loud (refine Kd.R_append (Kd.int .i64) (w0 := w1) w1.heap.size rfl (.tmp 24) (.tmp 30) 55 3 (.int .i64 0) 8 rfl Try.underlying55 info_int rfl (by decide) (by omega) _ [] 5 [.int .i64 5] (fun _ => True) (fun _ => False) rfl (by rfl) rfl (fun _ hk => hk.elim) (fun _ _ => trivial) HLW.out HBX.out HBX.out.size (by simp) ?_; intro v1 w3 ho hb hg hat; have HL1 := Lib.hid ho; have HB3 := Lib.hid hb; clear ho hb hg hat))
      go_roundw
      case rel => exact ⟨1, by omega, rfl, HB3, HL1⟩
      case measure => simp [intOf]
    ·
      have e0 := blk_cell HQR.out 0
      have e1 := blk_cell HQR.out 1
      have e2 := blk_cell HQR.out 2
      have e3 := blk_cell HQR.out 3
      have e4 := blk_cell HQR.out 4
      have e5 := blk_cell HQR.out 5
      have e6 := blk_cell HQR.out 6
      have e7 := blk_cell HQR.out 7
      have e8 := blk_cell HQR.out 8
      have e9 := blk_cell HQR.out 9
      have e10 := blk_cell HQR.out 10
      have e11 := blk_cell HQR.out 11
      have e12 := blk_cell HQR.out 12
      have e13 := blk_cell HQR.out 13
      go_wp2
      go_quiet (fail)
      go_wp2
      go_roundw
      case rel => exact ⟨2, by omega, rfl, Lib.hid (pw_below_drewN HBR.out _), Lib.hid (Kd.R_below HL.out (pw_below_drewN (Below.refl _ _) _))⟩
      case measure => simp [intOf]
    · obtain ⟨A, c2, rfl, hc, hC⟩ := Kd.R_reads HL.out
      have HC := Lib.hid hC
      clear hC
      go_wp2
      go_ret
      exact ⟨A, c2, rfl, hc, HC.out, below_step HB1.out HBR.out⟩
abbrev T6 : S30 := ⟨6, ⟨3, 1, 0, 0, 0⟩, 1⟩
theorem info_tk : (Try.prog.info? 30).map (fun i => (i.zero, i.size, i.bytes)) = some (some (.agg #[.int .i64 0, .int .i64 0, .int .i64 0, .int .i64 0, .int .i64 0, .int .i64 0, .int .i64 0]), 7, 56) := by kernel_rfl
set_option maxRecDepth 100000 in
set_option maxHeartbeats 1600000 in
theorem matched_aw (w0 w : World) (g mb n : Nat) (D : DU) (M : Sm) (F : Ss) (count : Int) (p q : Nat) (h : Aw w0 w g mb n D M F count p q) :
    Calls Try.prog 18 #[.pointer (some ⟨g, 0, none⟩)] w fun e w' => ∃ A c, e = .returned (.slice A 1 c) ∧ 1 ≤ c ∧ Kd.C k30 w' A 1 [T6] ∧ Below w.heap.size w w' := by
  have HA := Lib.hid h
  clear h
  go_enter Try.func18, Try.ntmps18
  go_wp2_with (go_at_call 22; (with_reducible refine HA.out.open_ok.mono ?_); rintro e w1 ⟨r, c, rfl, hr, r0, r1, hb⟩; have HB1 := Lib.hid hb; have HP := Lib.hid (HA.out.below hb).slotP; have HQ := Lib.hid (HA.out.below hb).slotQ; clear hb)
  go_loopw [3, 11] (fun l a wr => ∃ j : Nat, j ≤ 2 ∧ a = .int .i64 (j : Int) ∧ Go.RowKit.Hid (Below w1.heap.size w1 wr) ∧ Go.RowKit.Hid (Kd.R k30 30 wr w1.heap.size (fun _ => True) l (if j = 2 then [T6] else []))) (fun l a _ => 3 - (intOf a).toNat)
  case atStart => exact ⟨0, by omega, rfl, Lib.hid (Below.refl _ _), Lib.hid (Kd.R_nil _ _ _ _ _)⟩
  case round =>
    obtain ⟨j, hj, rfl, HBR, HL⟩ := hrel
    have s0 := (HBR.out.cell (p := ⟨r, 0, none⟩) hr).trans r0
    have s1 := (HBR.out.cell (p := ⟨r, 1, none⟩) hr).trans r1
    have HPR := Lib.hid (blk_below HP.out HBR.out)
    have HQR := Lib.hid (blk_below HQ.out HBR.out)
    have hj2 : j = 0 ∨ j = 1 ∨ j = 2 := by omega
    rcases hj2 with rfl | rfl | rfl
    ·
      have e0 := blk_cell HPR.out 0
      have e1 := blk_cell HPR.out 1
      have e2 := blk_cell HPR.out 2
      have e3 := blk_cell HPR.out 3
      have e4 := blk_cell HPR.out 4
      have e5 := blk_cell HPR.out 5
      have e6 := blk_cell HPR.out 6
      have e7 := blk_cell HPR.out 7
      have e8 := blk_cell HPR.out 8
      have e9 := blk_cell HPR.out 9
      have e10 := blk_cell HPR.out 10
      have e11 := blk_cell HPR.out 11
      have e12 := blk_cell HPR.out 12
      have e13 := blk_cell HPR.out 13
      go_wp2
      go_quiet (fail)
      go_wp2
      go_roundw
      case rel => exact ⟨1, by omega, rfl, Lib.hid (pw_below_drewN HBR.out _), Lib.hid (Kd.R_below HL.out (pw_below_drewN (Below.refl _ _) _))⟩
      case measure => simp [intOf]
    ·
      have e0 := blk_cell HQR.out 0
      have e1 := blk_cell HQR.out 1
      have e2 := blk_cell HQR.out 2
      have e3 := blk_cell HQR.out 3
      have e4 := blk_cell HQR.out 4
      have e5 := blk_cell HQR.out 5
      have e6 := blk_cell HQR.out 6
      have e7 := blk_cell HQR.out 7
      have e8 := blk_cell HQR.out 8
      have e9 := blk_cell HQR.out 9
      have e10 := blk_cell HQR.out 10
      have e11 := blk_cell HQR.out 11
      have e12 := blk_cell HQR.out 12
      have e13 := blk_cell HQR.out 13
      go_wp2
      go_quiet (fail)
      have HBW := Lib.hid (pw_below_drewN (Below.refl wr.heap.size wr) nq)
      generalize wr.drewN nq = W at *
      have HLW := Lib.hid (Kd.R_below HL.out HBW.out)
      have HBX := Lib.hid (below_step HBR.out HBW.out)
      have x0 := blk_cell (blk_below HQR.out HBW.out) 0
      have x1 := blk_cell (blk_below HQR.out HBW.out) 1
      have x2 := blk_cell (blk_below HQR.out HBW.out) 2
      have x3 := blk_cell (blk_below HQR.out HBW.out) 3
      have x4 := blk_cell (blk_below HQR.out HBW.out) 4
      have x5 := blk_cell (blk_below HQR.out HBW.out) 5
      have x6 := blk_cell (blk_below HQR.out HBW.out) 6
      go_wp2_with (at_builtin; go_loud (refine Kd.R_append k30 (w0 := w1) w1.heap.size rfl (.tmp 24) (.tmp 29) 58 30 (.agg #[.int .i64 0, .int .i64 0, .int .i64 0, .int .i64 0, .int .i64 0, .int .i64 0, .int .i64 0]) 56 rfl Try.underlying58 info_tk rfl (by decide) (by omega) _ [] T6 [.int .i64 6, .int .i64 3, .int .i64 1, .int .i64 0, .int .i64 0, .int .i64 0, .int .i64 1] (fun _ => True) (fun _ => False) rfl (by rfl) (k30_mkM _ _ _ T6) (fun _ hk => hk.elim) (fun _ _ => trivial) HLW.out HBX.out HBX.out.size (by simp) ?_; intro v1 w3 ho hb hg hat; have HL1 := Lib.hid ho; have HB3 := Lib.hid hb; clear ho hb hg hat))
      go_roundw
      case rel => exact ⟨2, by omega, rfl, HB3, HL1⟩
      case measure => simp [intOf]
    · obtain ⟨A, c2, rfl, hc, hC⟩ := Kd.R_reads HL.out
      have HC := Lib.hid hC
      clear hC
      go_wp2
      go_ret
      exact ⟨A, c2, rfl, hc, HC.out, below_step HB1.out HBR.out⟩
end Go.Proofs.Ytdifkcbiifhkeaa.P
