/- Bodies that are sent (window.Out): Next, Room, Ack. -/
import Derived.BigQuiet
import Derived.Deep.AppendLies
import Derived.Deep.DrawnRows
import Derived.Deep.RegionHeld3
import Derived.Deep.RegionLaw
import Derived.IntWalk
import Derived.Lib.Hide
import Derived.Outline
import Derived.Test.YtedhckojeephaaaWxPx0
import Derived.WalkSpells
import Derived.Test.YtedhckojeephaaaWxK4
import Derived.Test.YtedhckojeephaaaWxK8
import Derived.Test.YtedhckojeephaaaWxK11
import Derived.Test.YtedhckojeephaaaWxK15
namespace Go.Proofs.Ytedhckojeephaaa.P
open Go.RowKit Go.Maps Go.Proofs.YtedhckojeephaaaW.PrintWords Go.Proofs.YtedhckojeephaaaW.PrintLast Go.Proofs.YtedhckojeephaaaW.PrintMore
set_option linter.unusedVariables false
set_option linter.unusedSimpArgs false
attribute [local go_sem ↓] Go.wp_at_zero Go.wp_at_succ

/-! ### window_reads: functions 20, 22, 24 -/
theorem wnext_ok (w0 w : World) (g : Nat) (base : Int) (v : Value) (L : List ByteArray) (hO : OutAt w0 w g base v L) (h0 : 0 ≤ base) (h1 : base + L.length + 1 < 4294967296) : Calls Try.prog 20 #[.pointer (some ⟨g, 0, none⟩)] w fun e w' => e = .returned (.int .u32 (base + L.length + 1)) ∧ w' = w.drew := by
  obtain ⟨c0, c1, -, -⟩ := cells_2 hO.blk
  obtain ⟨A, c, rfl, -, -⟩ := hO.row.form
  have hw1 : IntKind.u32.wrap (L.length : Int) = L.length := wrap32 (by omega) (by omega)
  have hw2 : IntKind.u32.wrap (base + (L.length : Int)) = base + L.length := wrap32 (by omega) (by omega)
  have hw3 : IntKind.u32.wrap (base + (L.length : Int) + 1) = base + L.length + 1 := wrap32 (by omega) (by omega)
  clear hO
  go_enter Try.func20, Try.ntmps20
  go_wp2_with fail
  go_region_held3 (fun w' => w'.cell? ⟨g, 0, none⟩ = some (.int .u32 base) ∧ w'.cell? ⟨g, 1, none⟩ = some (.slice A L.length c)) (go_keep) (fail)
  go_wp2
  go_ret
  exact ⟨rfl, rfl⟩
theorem wroom_ok (w0 w : World) (g : Nat) (base : Int) (v : Value) (L : List ByteArray) (hO : OutAt w0 w g base v L) (hl : L.length ≤ 16) : Calls Try.prog 22 #[.pointer (some ⟨g, 0, none⟩)] w fun e w' => e = .returned (.int .i64 (16 - L.length)) ∧ w = w' := by
  obtain ⟨c0, c1, -, -⟩ := cells_2 hO.blk
  obtain ⟨A, c, rfl, -, -⟩ := hO.row.form
  have h16 : (L.length : Int) ≤ 16 := by omega
  clear hO
  go_enter Try.func22, Try.ntmps22
  go_wp2
  go_ret
  exact ⟨rfl, rfl⟩
theorem wawait_ok (w : World) (g : Nat) (base : Int) (hc : w.cell? ⟨g, 0, none⟩ = some (.int .u32 base)) (h0 : 0 ≤ base) (h1 : base + 1 < 4294967296) : Calls Try.prog 24 #[.pointer (some ⟨g, 0, none⟩)] w fun e w' => e = .returned (.int .u32 (base + 1)) ∧ w = w' := by
  have hw1 : IntKind.u32.wrap (base + 1) = base + 1 := wrap32 (by omega) (by omega)
  go_enter Try.func24, Try.ntmps24
  go_wp2
  go_ret
  exact ⟨rfl, rfl⟩
/-! ### window_ack: function 14 -/
theorem wack_zero (w0 w : World) (g : Nat) (base : Int) (v : Value) (L : List ByteArray) (hO : OutAt w0 w g base v L) (h0 : 0 ≤ base) (h1 : base + L.length + 1 < 4294967296) : Calls Try.prog 14 #[.pointer (some ⟨g, 0, none⟩), .int .u32 0] w fun e w' => e = .returned (.int .i64 22) ∧ w = w' := by
  go_enter Try.func14, Try.ntmps14
  go_wp2_with (go_at_call 20; refine (wnext_ok w0 _ g base v L hO h0 h1).mono ?_; rintro e w1 ⟨rfl, rfl⟩)
  go_ret
  exact ⟨rfl, rfl⟩
theorem wack_gap (w0 w : World) (g : Nat) (base n : Int) (v : Value) (L : List ByteArray) (hO : OutAt w0 w g base v L) (h0 : 0 ≤ base) (h1 : base + L.length + 1 < 4294967296) (hn : n > base + L.length + 1) : Calls Try.prog 14 #[.pointer (some ⟨g, 0, none⟩), .int .u32 n] w fun e w' => e = .returned (.int .i64 22) ∧ w' = w.drew := by
  have hn0 : (n == 0) = false := by rw [beq_eq_false_iff_ne]; omega
  go_enter Try.func14, Try.ntmps14
  go_wp2_with (go_at_call 20; refine (wnext_ok w0 _ g base v L hO h0 h1).mono ?_; rintro e w1 ⟨rfl, rfl⟩)
  go_ret
  exact ⟨rfl, rfl⟩
theorem wack_old (w0 w : World) (g : Nat) (base n : Int) (v : Value) (L : List ByteArray) (hO : OutAt w0 w g base v L) (h0 : 0 ≤ base) (h1 : base + L.length + 1 < 4294967296) (hn1 : 0 < n) (hn : n ≤ base + 1) : Calls Try.prog 14 #[.pointer (some ⟨g, 0, none⟩), .int .u32 n] w fun e w' => e = .returned (.int .i64 0) ∧ w' = w.drew := by
  obtain ⟨c0, c1, -, -⟩ := cells_2 hO.blk
  have hn0 : (n == 0) = false := by rw [beq_eq_false_iff_ne]; omega
  have hng : ¬ base + L.length + 1 < n := by omega
  have hw3 : IntKind.u32.wrap (base + 1) = base + 1 := wrap32 (by omega) (by omega)
  go_enter Try.func14, Try.ntmps14
  go_wp2_with (go_at_call 20; refine (wnext_ok w0 _ g base v L hO h0 h1).mono ?_; rintro e w1 ⟨rfl, rfl⟩)
  go_ret
  exact ⟨rfl, rfl⟩
set_option maxHeartbeats 1600000 in
set_option maxRecDepth 100000 in
theorem wack_ok (w0 w : World) (g : Nat) (base n : Int) (v : Value) (L : List ByteArray) (hO : OutAt w0 w g base v L) (h0 : 0 ≤ base) (h1 : base + L.length + 1 < 4294967296) (hl : L.length ≤ 16) (hn1 : base + 1 < n) (hn : n ≤ base + L.length + 1) : Calls Try.prog 14 #[.pointer (some ⟨g, 0, none⟩), .int .u32 n] w fun e w' => ∃ v1, e = .returned (.int .i64 0) ∧ OutAt w0 w' g (n - 1) v1 (L.drop (n - 1 - base).toNat) ∧ Chg (fun k => k = g) w w' ∧ ∀ k, v1.ownBlock = some k → w.heap.size ≤ k := by
  obtain ⟨c0, c1, f0, f1⟩ := cells_2 hO.blk
  obtain ⟨A, c, rfl, hc, hC⟩ := hO.row.form
  obtain ⟨i0, hi0, hz0, hz1, hz2⟩ := info_parts info9
  have hn0 : (n == 0) = false := by rw [beq_eq_false_iff_ne]; omega
  have hng : ¬ base + L.length + 1 < n := by omega
  have hng2 : ¬ n ≤ base + 1 := by omega
  have hw3 : IntKind.u32.wrap (base + 1) = base + 1 := wrap32 (by omega) (by omega)
  have hw4 : IntKind.u32.wrap (n - 1) = n - 1 := wrap32 (by omega) (by omega)
  have hw5 : IntKind.u32.wrap (n - 1 - base) = n - 1 - base := wrap32 (by omega) (by omega)
  have hw6 : IntKind.u32.wrap (base + (n - 1 - base)) = base + (n - 1 - base) := wrap32 (by omega) (by omega)
  obtain ⟨m, hm⟩ : ∃ m : Nat, m = (n - 1 - base).toNat := ⟨_, rfl⟩
  have hcut := cut_from (P := Try.prog) 27 9 .u32 Try.underlying27 hi0 1 hz1 A L.length c (n - 1 - base) (by omega) (by omega)
  have hdl : (L.drop m).length = L.length - m := List.length_drop
  have hCD : Kd.string.C w (if c = m then A else A.map (·.add (m * 1))) (L.drop m).length (L.drop m) := Kd.C_drop hC (by omega) hc
  obtain ⟨L2, hL2⟩ : ∃ L2, L2 = L.drop m := ⟨_, rfl⟩
  rw [← hL2] at hdl hCD
  rw [← hm, ← hdl] at hcut
  rw [← hm, ← hL2]
  obtain ⟨A2, hA2⟩ : ∃ A2, A2 = if c = m then A else A.map (·.add (m * 1)) := ⟨_, rfl⟩
  rw [← hA2] at hcut hCD
  obtain ⟨c2, hc2⟩ : ∃ c2, c2 = c - m := ⟨_, rfl⟩
  rw [← hc2] at hcut
  have HO := Aside0.mk hO
  have HC := Aside0.mk (Kd.C_below hCD (below_drew (Below.refl _ _)))
  have hsm : L2.length * 16 ≤ 140737488355328 := by omega
  have HM := Lib.hid hm
  clear hC hCD hA2 hc2 hO hdl hm hL2
  go_enter Try.func14, Try.ntmps14
  go_wp2_with (first
    | (go_at_call 20; refine (wnext_ok w0 _ g base _ L HO.out h0 h1).mono ?_; rintro e w1 ⟨rfl, rfl⟩)
    | (go_at_call 42; refine (clone_str.calls A2 c2 L2 _ HC.out hsm).mono ?_; rintro e w1 ⟨v1, rfl, ho, hb⟩; obtain ⟨A1, c1', rfl, -, -⟩ := Kd.R_reads ho; have HR := Aside0.mk ho; have HB1 := Aside0.mk hb; clear ho hb; obtain ⟨k0, k1, l0, l1⟩ := cells_2 (blk_grown (show w.drew.heap[g]? = _ from HO.out.blk) (grown_of_below HB1.out none) (by simp))))
  have hcs : Aside0 ((w1.setCell ⟨g, 1, none⟩ (.slice A1 L2.length c1')).heap[g]? = some (.cells #[.int .u32 base, .slice A1 L2.length c1'] 52 (0, 0))) := ⟨by
    have h := blk_set (blk_grown (show w.drew.heap[g]? = _ from HO.out.blk) (grown_of_below HB1.out none) (by simp)) 1 (.slice A1 L2.length c1')
    simpa using h⟩
  obtain ⟨y0, y1, -, -⟩ := cells_2 hcs.out
  go_ret
  have hlt := blk_lt HO.out.blk
  have hge := HO.out.ge
  have hb : ∀ k, (Value.slice A1 L2.length c1').ownBlock = some k → w.heap.size ≤ k := fun k hk => Kd.R_base HR.out k hk
  have hr : RS w0 w1 (.slice A1 L2.length c1') L2 := Kd.R_lower HR.out (by show w0.heap.size ≤ w.heap.size; omega)
  have hB := blk_set hcs.out 0 (.int .u32 (base + (n - 1 - base)))
  rw [show base + (n - 1 - base) = n - 1 by omega] at hB ⊢
  refine ⟨.slice A1 L2.length c1', rfl, ⟨by simpa using hB, hge, hr.move (fun k hk => ?_)⟩, (((Chg.refl (fun k => k = g) w).drew.grown (grown_of_below HB1.out none) (by simp)).set (g := g) rfl).set (g := g) rfl, hb⟩
  have := hb k hk
  exact (Below.heap_setCell _ _ _ _ (by show k ≠ g; omega)).trans (Below.heap_setCell _ _ _ _ (by show k ≠ g; omega))
end Go.Proofs.Ytedhckojeephaaa.P
