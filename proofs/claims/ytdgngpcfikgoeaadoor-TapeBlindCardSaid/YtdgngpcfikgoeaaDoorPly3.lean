/- The document's Seed. -/
import Derived.Test.YtdgngpcfikgoeaaDoorPly2
namespace Go.Proofs.YtdgngpcfikgoeaaDoor.P
open Go.RowKit Go.Extern.Stop Go.Stop Go.Extern Go.Proofs.YtdgngpcfikgoeaaDoorW.PrintWords Go.Proofs.YtdgngpcfikgoeaaDoorW.PrintLast Go.Proofs.YtdgngpcfikgoeaaDoorW.PrintMore
set_option linter.unusedVariables false
set_option linter.unusedSimpArgs false
attribute [local go_sem ↓] Go.wp_at_zero Go.wp_at_succ
theorem rseed_none (A : Option Addr) (c : Nat) (w : World) : Calls Tryd.prog 39 #[.slice A 0 c] w fun e w' => e = .returned (.agg zc) ∧ Below w.heap.size w w' := by
  have HK := Lib.hid (heap_alloc2_new w (.cells zc 42) (.cells zc 42))
  have HK0 := Lib.hid (heap_alloc2_old w (.cells zc 42) (.cells zc 42))
  have HB := Lib.hid (below_alloc (below_alloc (Below.refl w.heap.size w) (.cells zc 42)) (.cells zc 42))
  go_enter Tryd.func39, Tryd.ntmps39
  go_wp2
  go_loopw [4] (fun v4 wr => v4 = .int .i64 0 ∧ wr = (w.alloc (.cells zc 42)).alloc (.cells zc 42)) (fun _ _ => 0)
  case atStart => exact ⟨rfl, rfl⟩
  case round =>
    obtain ⟨rfl, rfl⟩ := hrel
    go_wp2_with (first
        | ((with_reducible refine gate_dst (N := 35) rfl ?_); go_loud (refine wpList_load_row rfl 42 (.tmp 3) rfl (w.heap.size + 1) (by rfl) 42 zc (0, 0) _ HK.out Tryd.underlying42 (by rfl) (by kernel_rfl) ?_))
        | ((with_reducible refine gate_store (t := 42) (p := 2) (v := .tmp 35) rfl ?_); go_loud (refine wpList_store_rowTo rfl 42 (.tmp 2) (.tmp 35) rfl rfl w.heap.size zc (by rfl) (by rfl) 42 zc HK0.out (by kernel_rfl) (by rfl) (by kernel_rfl) ?_)))
    refine bodyPost_ret (results_cell_row rfl _ _ w.heap.size 42 zc (0, 0) _ rfl (setRow_heap _ _ _ _ _ _ HK0.out) Tryd.underlying42 rfl (by kernel_rfl)) rfl ?_
    exact ⟨rfl, ((Chg.of_below HB.out (fun k => k = w.heap.size)).row zc (.inr (Nat.le_refl _))).nothing (fun k hk q => by omega)⟩

theorem sfacts (X : List Int) (i k x : Nat) (hi : i < 4) (hk : k < 8) (hx : rd X (i : Int) = (x : Int)) (hx2 : x < 18446744073709551616) : ∃ s j y y2 : Nat, (s = 8 * i ∧ j = 8 * i + k ∧ y = x / 2 ^ (8 * k) ∧ y2 = x / 2 ^ (8 * (k + 1)) ∧ j < 32) ∧ (wrap64 (8 * (i : Int)) = (s : Int) ∧ IntKind.i64.wrap (8 * (i : Int)) = (s : Int) ∧ wrap64 (8 * (i : Int) + (k : Int)) = (j : Int) ∧ IntKind.i64.wrap (8 * (i : Int) + (k : Int)) = (j : Int)) ∧ seedB X j = ((y % 256 : Nat) : Int) ∧ y2 = y / 256 ∧ y < 18446744073709551616 := by
  have a1 : -9223372036854775808 ≤ 8 * (i : Int) ∧ 8 * (i : Int) ≤ 9223372036854775807 := by omega
  have a2 : 8 * (i : Int) = ((8 * i : Nat) : Int) := by omega
  have a3 : -9223372036854775808 ≤ 8 * (i : Int) + (k : Int) ∧ 8 * (i : Int) + (k : Int) ≤ 9223372036854775807 := by omega
  have a4 : 8 * (i : Int) + (k : Int) = ((8 * i + k : Nat) : Int) := by omega
  have a5 : 8 * i + k < 32 := by omega
  have a6 : (8 * i + k) / 8 = i := by omega
  have a7 : (8 * i + k) % 8 = k := by omega
  have a8 : x / 2 ^ (8 * k) < 18446744073709551616 := Nat.lt_of_le_of_lt (Nat.div_le_self _ _) hx2
  refine ⟨8 * i, 8 * i + k, x / 2 ^ (8 * k), x / 2 ^ (8 * (k + 1)), ⟨rfl, rfl, rfl, rfl, a5⟩, ⟨?_, ?_, ?_, ?_⟩, ?_, ?_, a8⟩
  · rw [ew64 a1.1 a1.2]; exact a2
  · rw [wrap_i64 a1.1 a1.2]; exact a2
  · rw [ew64 a3.1 a3.2]; exact a4
  · rw [wrap_i64 a3.1 a3.2]; exact a4
  · unfold seedB
    rw [a6, a7, hx, Int.toNat_natCast]
  · rw [Nat.div_div_eq_div_mul, show 8 * (k + 1) = 8 * k + 8 by omega, Nat.pow_add]
set_option maxHeartbeats 3200000 in
theorem rseed_four (X : List Int) (A : Option Addr) (c : Nat) (w : World) (hl : X.length = 4) (hC : Kd.C (Kd.int .u64) w A 4 X) (hu : ∀ x ∈ X, 0 ≤ x ∧ x < 18446744073709551616) :
    Calls Tryd.prog 39 #[.slice A 4 c] w fun e w' => e = .returned (.agg (seedC X 32)) ∧ Below w.heap.size w w' := by
  have HK := Lib.hid (heap_alloc2_new w (.cells zc 42) (.cells zc 42))
  have HK0 := Lib.hid (heap_alloc2_old w (.cells zc 42) (.cells zc 42))
  have HB := Lib.hid (below_alloc (below_alloc (Below.refl w.heap.size w) (.cells zc 42)) (.cells zc 42))
  have HCC := Lib.hid hC
  have HU := Lib.hid hu
  have HL := Lib.hid hl
  clear hC hu hl
  go_enter Tryd.func39, Tryd.ntmps39
  go_wp2
  go_loopw [4] (fun v4 wr => ∃ i : Nat, i ≤ 4 ∧ v4 = .int .i64 (i : Int) ∧ Hid (wr.heap[w.heap.size + 1]? = some (.cells (seedC X (8 * i)) 42 (0, 0))) ∧ Hid (wr.heap[w.heap.size]? = some (.cells zc 42 (0, 0))) ∧ Hid (Below w.heap.size w wr)) (fun v4 _ => 4 - (intOf v4).toNat)
  case atStart => exact ⟨0, by decide, rfl, Lib.hid (by rw [seedC_zero]; exact HK.out), HK0, HB⟩
  case round =>
    obtain ⟨wo, rfl⟩ : ∃ wo : World, wo = wr := ⟨_, rfl⟩
    obtain ⟨i, hi, rfl, HS, HZ, HW⟩ := hrel
    by_cases hlt : i < 4
    · have hltI : (i : Int) < 4 := by omega
      have hi0 : (0 : Int) ≤ (i : Int) := by omega
      have hiw : IntKind.i64.wrap ((i : Int) + 1) = (i : Int) + 1 := IntWalk.i64_in _ ⟨by omega, by omega⟩
      obtain ⟨ad, rfl, q0⟩ := Kd.at_int (Kd.C_below HCC.out HW.out) (i : Int) (by omega) (by have := HL.out; omega)
      rw [Int.toNat_natCast] at q0
      have hiY : i < X.length := by have := HL.out; omega
      obtain ⟨x0, x1⟩ := HU.out _ (rd_mem hiY)
      obtain ⟨x, hx⟩ : ∃ x : Nat, rd X (i : Int) = (x : Int) := ⟨(rd X (i : Int)).toNat, by omega⟩
      rw [hx] at q0 x0 x1
      have HX := Lib.hid hx
      have HX1 := Lib.hid (show x < 18446744073709551616 by omega)
      clear hx x0 x1 hiY
      go_wp2
      go_loopw [5, 6] (fun v5 v6 wr => ∃ k : Nat, k ≤ 8 ∧ v6 = .int .i64 (k : Int) ∧ v5 = .int .u64 ((x / 2 ^ (8 * k) : Nat) : Int) ∧ Hid (wr.heap[w.heap.size + 1]? = some (.cells (seedC X (8 * i + k)) 42 (0, 0))) ∧ Hid (wr.heap[w.heap.size]? = some (.cells zc 42 (0, 0))) ∧ Hid (Below w.heap.size w wr)) (fun _ v6 _ => 8 - (intOf v6).toNat)
      case atStart => exact ⟨0, by decide, rfl, by simp, HS, HZ, HW⟩
      case round =>
        obtain ⟨wp, rfl⟩ : ∃ wp : World, wp = wr := ⟨_, rfl⟩
        obtain ⟨k, hk, rfl, rfl, HS2, HZ2, HW2⟩ := hrel
        by_cases hk8 : k < 8
        · have hk8I : (k : Int) < 8 := by omega
          have hk0 : (0 : Int) ≤ (k : Int) := by omega
          have hkw : IntKind.i64.wrap ((k : Int) + 1) = (k : Int) + 1 := IntWalk.i64_in _ ⟨by omega, by omega⟩
          obtain ⟨s, j, y, y2, ⟨hs, hj, hy, hy2, hj32⟩, ⟨hd1, hd2, hd3, hd4⟩, hB, hyy, hy64⟩ := sfacts X i k x hlt hk8 HX.out HX1.out
          rw [← hy]
          have k0 := blk_cell HS2.out j
          rw [← hj, seedC_at X j j hj32] at k0
          have k1 := blk_frozen HS2.out j
          have HY := Lib.hid hy
          have HY2 := Lib.hid hy2
          have HJ := Lib.hid hj
          have hd5 : wrap64 ((s : Int) + (k : Int)) = (j : Int) := by rw [← hd3, hs]; rfl
          have hjI : (j : Int) < 32 := Int.ofNat_lt.2 hj32
          have hjJ : (0 : Int) ≤ (j : Int) := Int.natCast_nonneg j
          clear hs hj hy hy2
          go_wp2
          clear hd1 hd2 hd3 hd4 hd5 hkw hiw
          have hval : (y : Int) % 256 = seedB X j := by rw [hB]; rfl
          rw [hval]
          have hset := blk_set HS2.out j (.int .u8 (seedB X j))
          rw [← HJ.out, seedC_set X j hj32, show j + 1 = 8 * i + (k + 1) by rw [HJ.out, Nat.add_assoc]] at hset
          have hst : w.heap.size < w.heap.size + 1 := Nat.lt_succ_self _
          refine ⟨⟨k + 1, Nat.succ_le_of_lt hk8, by go_num, ?_, ?_, ?_, ?_⟩, ?_⟩
          · rw [← HY2.out, hyy]; rfl
          · exact Lib.hid hset
          · exact Lib.hid (blk_far HZ2.out (Nat.ne_of_lt hst) _)
          · exact Lib.hid (below_set HW2.out (Nat.le_of_lt hst))
          · simp [intOf]; omega
        · have hk9 : k = 8 := by omega
          subst hk9
          clear hk hk8
          go_wp2
          refine ⟨⟨i + 1, Nat.succ_le_of_lt hlt, by go_num, ?_, HZ2, HW2⟩, ?_⟩
          · exact Lib.hid (show _ from HS2.out)
          · simp [intOf]; omega
    · have hie : i = 4 := by omega
      subst hie
      clear hi hlt
      have hst : w.heap.size < w.heap.size + 1 := Nat.lt_succ_self _
      go_wp2_with (first
        | ((with_reducible refine gate_dst (N := 35) rfl ?_); go_loud (refine wpList_load_row rfl 42 (.tmp 3) rfl (w.heap.size + 1) (by rfl) 42 (seedC X 32) (0, 0) _ HS.out Tryd.underlying42 (by rfl) (by rw [seedC_size]; kernel_rfl) ?_))
        | ((with_reducible refine gate_store (t := 42) (p := 2) (v := .tmp 35) rfl ?_); go_loud (refine wpList_store_rowTo rfl 42 (.tmp 2) (.tmp 35) rfl rfl w.heap.size (seedC X 32) (by rfl) (by rfl) 42 zc HZ.out (by rw [seedC_size]; kernel_rfl) (by rw [seedC_size]; rfl) (seedC_one X 32) ?_)))
      refine bodyPost_ret (results_cell_row rfl _ _ w.heap.size 42 (seedC X 32) (0, 0) _ rfl (setRow_heap _ _ _ _ _ _ HZ.out) Tryd.underlying42 rfl (by rw [seedC_size]; kernel_rfl)) rfl ?_
      exact ⟨rfl, ((Chg.of_below HW.out (fun k => k = w.heap.size)).row _ (.inr (Nat.le_refl _))).nothing (fun k hk q => Nat.ne_of_lt hk q)⟩
/-- the document's seed of what a tape gives -/
theorem rseed_any (l : List Int) (a : Nat) (ha : a ≤ l.length) (hu : ∀ x ∈ l, 0 ≤ x ∧ x < 18446744073709551616) (v : Value) (B : Nat) (w : World) (h : RU B w v (takeX l a 4)) :
    Calls Tryd.prog 39 #[v] w fun e w' => e = .returned (seedV (takeX l a 4)) ∧ Below w.heap.size w w' := by
  by_cases hE : takeE l a 4 = 0
  · obtain ⟨h0, h1⟩ := takeE_zero ha hE
    have h2 : a + 4 ≤ l.length := h1
    have hl : (takeX l a 4).length = 4 := by
      unfold takeX
      rw [if_pos hE]
      show ((l.take (a + 4)).drop a).length = 4
      rw [List.length_drop, List.length_take]; omega
    obtain ⟨A, c, rfl, -, hC⟩ := h.form
    rw [hl] at hC ⊢
    unfold seedV
    rw [if_pos hl]
    exact rseed_four _ A c w hl hC (fun x hx => hu x (takeX_mem hx))
  · have e : takeX l a 4 = [] := by unfold takeX; rw [if_neg hE]
    rw [e] at h ⊢
    obtain ⟨A, c, rfl, -, hC⟩ := h.form
    exact rseed_none A c w
end Go.Proofs.YtdgngpcfikgoeaaDoor.P
