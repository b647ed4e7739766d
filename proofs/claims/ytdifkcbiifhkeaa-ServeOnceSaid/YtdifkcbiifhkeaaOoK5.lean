/- ServeOnce: the law's text, walked: the ticket refused, with a code. -/
import Derived.Test.YtdifkcbiifhkeaaOoPx0
import Derived.Test.YtdifkcbiifhkeaaOoSw6
namespace Go.Proofs.Ytdifkcbiifhkeaa.P
open Go.RowKit Go.Maps Go.Proofs.YtdifkcbiifhkeaaW.PrintWords Go.Proofs.YtdifkcbiifhkeaaW.PrintLast Go.Proofs.YtdifkcbiifhkeaaW.PrintMore
set_option linter.unusedVariables false
set_option linter.unusedSimpArgs false
attribute [local go_sem ↓] Go.wp_at_zero Go.wp_at_succ
set_option maxHeartbeats 8000000 in
set_option maxRecDepth 100000 in
theorem once_refuse_f (a0 a1_0 a1_1 a1_2 a2 : Int) (A3 : Option Addr) (c3 : Nat) (l3 : List S42) (w : World) (hr3 : Kd.C k42 w A3 l3.length l3) (hw3 : ∀ y ∈ l3, (Lit.int .i64 y.f1.f0).wf = true) (hk : (Lit.int .i64 a0).wf = true) (hz : tchk (oT a0 a1_2) = 0) (hb : a1_1 < 0) (hcd : a2 ≠ 0) :
    Calls Try.prog 3 #[.int .i64 a0, .agg #[.int .i64 a1_0, .int .i64 a1_1, .int .i64 a1_2], .int .i64 a2, .slice A3 l3.length c3] w fun e w' => e = .returned (.bool true) ∧ Below w.heap.size w w' := by
  have HB0 := Lib.hid (below_alloc (Below.refl w.heap.size w) (.cells (rC a1_0 a1_1 a1_2) 23))
  have HX0 := Lib.hid (heap_alloc_new w (.cells (rC a1_0 a1_1 a1_2) 23))
  have HZ := Lib.hid hz
  have HK := Lib.hid hk
  have HL3 := Lib.hid hr3
  have HW3 := Lib.hid hw3
  clear hz hk hr3 hw3
  have HBAD := Lib.hid (show a1_1 < 0 ∨ a1_0 < 0 from .inl hb)
  have HCD := Lib.hid hcd
  have hcd0 : (a2 == 0) = false := by rw [beq_eq_false_iff_ne]; exact hcd
  clear hcd
  go_enter Try.func3, Try.ntmps3
  go_wp2_with (first
    | (go_at_call 4; refine (new_ok _).mono ?_; rintro e w1 ⟨g, mb, rfl, hT, hb⟩; have HBx := Lib.hid (show Bx w (w1.alloc (.cells (oT a0 a1_2).C 30)) a1_0 a1_1 a1_2 a0 w1.heap.size from ⟨below_alloc (below_step HB0.out hb) _, blk_alloc (blk_below HX0.out hb) _, heap_alloc_new w1 _⟩); have HT1 := Lib.hid (hT.below (below_alloc (Below.refl _ _) (.cells (oT a0 a1_2).C 30))); obtain ⟨x0, x1, x2, -⟩ := cells_3 (blk_below HX0.out hb); clear hb hT)
    | (go_at_call 5; go_loud (refine (ask_new _ _ g mb 0 (.map []) (fun _ => none) (fun _ => Sl.new 0) 0 (oT a0 a1_2) HT1.out HZ.out HK.out rfl (by decide) (by unfold maxLen; omega) (by omega)).mono ?_); rintro e w2 ⟨rfl, p, hp, hT, hc⟩; have HT2 := Lib.hid (show TabAt _ w2 g mb 1 _ (putP (fun _ => none) a0 p) (fun x => if x = p then sA a0 a1_2 else Sl.new 0) 1 from hT); have HBx2 := Lib.hid (HBx.out.chg HT1.out (by simp) (hc.mono (fun k _ hk => by rcases hk with hk | hk; exact .inl hk; exact .inr (.inl hk)))); obtain ⟨x0', x1', x2', -⟩ := cells_3 HBx2.out.kR; clear x0 x1 x2 hT hc)
    | (go_at_call 8; go_loud (refine (grant_mis _ w2 g mb 1 _ _ _ 1 a0 p HT2.out HK.out (by unfold putP; rw [if_pos rfl]) (by rw [if_pos rfl]; rfl) a1_0 a1_1 a1_2 (by rw [if_pos rfl]; rfl) HBAD.out (by rw [if_pos rfl]; rfl)).mono ?_); rintro e w2b ⟨rfl, hb2⟩; have HT2b := Lib.hid (HT2.out.below hb2); have HBx2b := Lib.hid (HBx2.out.below hb2); clear x0' x1' x2'; obtain ⟨x0', x1', x2', -⟩ := cells_3 HBx2b.out.kR; clear hb2)
    | (go_at_call 9; go_loud (refine (refuse_ok _ w2b g mb 1 _ _ _ 1 a0 p HT2b.out HK.out (by unfold putP; rw [if_pos rfl]) (by rw [if_pos rfl]; rfl) a2 HCD.out (by rw [if_pos rfl]; rfl)).mono ?_); rintro e w3 ⟨rfl, hT, hc⟩; have HBx3 := Lib.hid (HBx2b.out.chg HT2b.out (by simp) (hc.mono (fun k _ hk => .inr (.inr ⟨a0, by rw [hk]; unfold putP; rw [if_pos rfl]⟩)))); have HS3 := Lib.hid (show Sets _ w3 g mb 1 _ _ _ 1 a0 p (sR a0 a1_2 a2) from ⟨hT, by unfold putP; rw [if_pos rfl], by show (if p = p then _ else _ : Sl).asked = true; rw [if_pos rfl, if_pos rfl]; rfl, by show Stays _ (if p = p then _ else _ : Sl); rw [if_pos rfl, if_pos rfl]; exact Stays.refl _, by omega⟩); clear x0' x1' x2' hT hc)
    | (go_at_call 10; go_loud (refine (get_sets HS3.out HK.out).mono ?_); rintro e w4 ⟨rfl, hb⟩; have HBx4 := Lib.hid ((HBx3.out.below hb).below (below_alloc (Below.refl _ _) (.cells (sR a0 a1_2 a2).E 38))); have HS4 := Lib.hid ((HS3.out.below hb).below (below_alloc (Below.refl _ _) (.cells (sR a0 a1_2 a2).E 38))); have HE4 := Lib.hid (heap_alloc_new w4 (.cells (sR a0 a1_2 a2).E 38)); clear hb))
  go_loopw [13] (fun a wr => ∃ (i : Nat) (n : Nat) (D : DU) (M : Sm) (F : Ss) (count : Int), i ≤ 40 ∧ a = .int .i64 (i : Int) ∧ n ≤ i + 1 ∧ count ≤ i + 1 ∧ Go.RowKit.Hid (Bx w wr a1_0 a1_1 a1_2 a0 w1.heap.size) ∧ Go.RowKit.Hid (Sets (w.alloc (.cells (rC a1_0 a1_1 a1_2) 23)) wr g mb n D M F count a0 p (sR a0 a1_2 a2)) ∧ Go.RowKit.Hid (wr.heap[w4.heap.size]? = some (.cells (sR a0 a1_2 a2).E 38 (0, 0)))) (fun a _ => 50 - (intOf a).toNat)
  case atStart => exact ⟨0, 1, _, _, _, 1, by omega, rfl, by omega, by omega, HBx4, HS4, HE4⟩
  case round =>
    obtain ⟨i, n, D, M, F, count, hi, rfl, hn, hco, HB5, HS5, HE5⟩ := hrel
    clear HBx HBx2 HBx3 HBx4 HS3 HS4 HE4 HT1 HT2 HT2b HBx2b HX0 HB0
    by_cases hin : i < l3.length ∧ i < 40
    · obtain ⟨hil, hi40⟩ := hin
      have c1 : (i : Int) < (l3.length : Int) := by omega
      have c2 : (i : Int) < 40 := by omega
      have hC := Kd.C_below HL3.out HB5.out.bel
      obtain ⟨ad, rfl, e0, e1, e2, e3, e4, e5, e6, e7, e8, e9, e10, e11⟩ := at_T42 hC (i : Int) (by omega) (by omega)
      simp only [Int.toNat_natCast] at e0 e1 e2 e3 e4 e5 e6 e7 e8 e9 e10 e11
      have hy : rd_T42 l3 (i : Int) ∈ l3 := by
        unfold rd_T42
        rw [Int.toNat_natCast, List.getD_eq_getElem?_getD, List.getElem?_eq_getElem hil]
        exact List.getElem_mem hil
      have HY := Lib.hid (HW3.out _ hy)
      generalize rd_T42 l3 (i : Int) = y at *
      clear hC hy
      obtain ⟨yk, ⟨ti, ⟨tk, tb, tm, tq, tn⟩, tc⟩, ⟨re, rf, rc⟩, cd⟩ := y
      simp only at e0 e1 e2 e3 e4 e5 e6 e7 e8 e9 e10 e11
      by_cases k0 : yk = 0
      · subst k0
        have HA6 := Lib.hid (below_alloc (Below.refl wr.heap.size wr) (.cells #[.int .i64 0, .int .i64 ti, .int .i64 tk, .int .i64 tb, .int .i64 tm, .int .i64 tq, .int .i64 tn, .int .i64 tc, .int .i64 re, .int .i64 rf, .int .i64 rc, .int .i64 cd] 42))
        have HB6 := Lib.hid (HB5.out.below HA6.out)
        have HS6 := Lib.hid (HS5.out.below HA6.out)
        have HE6 := Lib.hid (blk_below HE5.out HA6.out)
        go_wp2_with (first
          | (go_at_call 5; go_loud (refine (ask_any _ _ g mb n D M F count a0 p (sR a0 a1_2 a2) ⟨ti, tk, tb, tm, tq, tn, tc⟩ HS6.out ⟨by omega, by omega⟩ HY.out).mono ?_); rintro e w7 ⟨v, n', D', M', F', count', rfl, hS, hn', hco', hc⟩; have HB7 := Lib.hid (HB6.out.chg HS6.out.tab (by simp) hc); have HS7 := Lib.hid hS; have HE7 := Lib.hid (hc.blk HE6.out (not_tab HS6.out.tab HE6.out (by decide) (by decide))); clear hS hc)
          | (go_at_call 10; go_loud (refine (get_sets HS7.out HK.out).mono ?_); rintro e w8 ⟨rfl, hb⟩; have HA8 := Lib.hid (below_alloc hb (.cells (sR a0 a1_2 a2).E 38)); have HB8 := Lib.hid (HB7.out.below HA8.out); have HS8 := Lib.hid (HS7.out.below HA8.out); have HE8 := Lib.hid (blk_below HE7.out HA8.out); have HU8 := Lib.hid (heap_alloc_new w8 (.cells (sR a0 a1_2 a2).E 38)); obtain ⟨u0, u1, u2, u3, u4, u5, u6, u7, u8, u9, u10, u11, -⟩ := cells_12 HU8.out; obtain ⟨v0, v1, v2, v3, v4, v5, v6, v7, v8, v9, v10, v11, -⟩ := cells_12 HE8.out; clear hb))
        go_roundw
        case rel => exact ⟨i + 1, n', D', M', F', count', by omega, by go_num, by omega, by omega, HB8, HS8, HE8⟩
        case measure => simp [intOf]; omega
      have q0 : (yk == 0) = false := by rw [beq_eq_false_iff_ne]; exact k0
      by_cases k1 : yk = 1
      · subst k1
        have HA6 := Lib.hid (below_alloc (Below.refl wr.heap.size wr) (.cells #[.int .i64 1, .int .i64 ti, .int .i64 tk, .int .i64 tb, .int .i64 tm, .int .i64 tq, .int .i64 tn, .int .i64 tc, .int .i64 re, .int .i64 rf, .int .i64 rc, .int .i64 cd] 42))
        have HB6 := Lib.hid (HB5.out.below HA6.out)
        have HS6 := Lib.hid (HS5.out.below HA6.out)
        have HE6 := Lib.hid (blk_below HE5.out HA6.out)
        go_wp2_with (first
          | (go_at_call 11; go_loud (refine (hear_any _ _ g mb n D M F count a0 p (sR a0 a1_2 a2) ⟨ti, tk, tb, tm, tq, tn, tc⟩ HS6.out ⟨by omega, by omega⟩ HY.out).mono ?_); rintro e w7 ⟨v, n', D', M', F', count', rfl, hS, hn', hco', hc⟩; have HB7 := Lib.hid (HB6.out.chg HS6.out.tab (by simp) hc); have HS7 := Lib.hid hS; have HE7 := Lib.hid (hc.blk HE6.out (not_tab HS6.out.tab HE6.out (by decide) (by decide))); clear hS hc)
          | (go_at_call 10; go_loud (refine (get_sets HS7.out HK.out).mono ?_); rintro e w8 ⟨rfl, hb⟩; have HA8 := Lib.hid (below_alloc hb (.cells (sR a0 a1_2 a2).E 38)); have HB8 := Lib.hid (HB7.out.below HA8.out); have HS8 := Lib.hid (HS7.out.below HA8.out); have HE8 := Lib.hid (blk_below HE7.out HA8.out); have HU8 := Lib.hid (heap_alloc_new w8 (.cells (sR a0 a1_2 a2).E 38)); obtain ⟨u0, u1, u2, u3, u4, u5, u6, u7, u8, u9, u10, u11, -⟩ := cells_12 HU8.out; obtain ⟨v0, v1, v2, v3, v4, v5, v6, v7, v8, v9, v10, v11, -⟩ := cells_12 HE8.out; clear hb))
        go_roundw
        case rel => exact ⟨i + 1, n', D', M', F', count', by omega, by go_num, by omega, by omega, HB8, HS8, HE8⟩
        case measure => simp [intOf]; omega
      have q1 : (yk == 1) = false := by rw [beq_eq_false_iff_ne]; exact k1
      by_cases k2 : yk = 2
      · subst k2
        have HA6 := Lib.hid (below_alloc (Below.refl wr.heap.size wr) (.cells #[.int .i64 2, .int .i64 ti, .int .i64 tk, .int .i64 tb, .int .i64 tm, .int .i64 tq, .int .i64 tn, .int .i64 tc, .int .i64 re, .int .i64 rf, .int .i64 rc, .int .i64 cd] 42))
        have HB6 := Lib.hid (HB5.out.below HA6.out)
        have HS6 := Lib.hid (HS5.out.below HA6.out)
        have HE6 := Lib.hid (blk_below HE5.out HA6.out)
        go_wp2_with (first
          | (go_at_call 8; go_loud (refine (grant_sets HS6.out HK.out re rf rc (show (3 : Int) ≠ 1 by decide)).mono ?_); rintro e w7 ⟨rfl, hb⟩; have HB7 := Lib.hid (HB6.out.below hb); have HS7 := Lib.hid (HS6.out.below hb); have HE7 := Lib.hid (blk_below HE6.out hb); clear hb)
          | (go_at_call 10; go_loud (refine (get_sets HS7.out HK.out).mono ?_); rintro e w8 ⟨rfl, hb⟩; have HA8 := Lib.hid (below_alloc hb (.cells (sR a0 a1_2 a2).E 38)); have HB8 := Lib.hid (HB7.out.below HA8.out); have HS8 := Lib.hid (HS7.out.below HA8.out); have HE8 := Lib.hid (blk_below HE7.out HA8.out); have HU8 := Lib.hid (heap_alloc_new w8 (.cells (sR a0 a1_2 a2).E 38)); obtain ⟨u0, u1, u2, u3, u4, u5, u6, u7, u8, u9, u10, u11, -⟩ := cells_12 HU8.out; obtain ⟨v0, v1, v2, v3, v4, v5, v6, v7, v8, v9, v10, v11, -⟩ := cells_12 HE8.out; clear hb))
        go_roundw
        case rel => exact ⟨i + 1, n, D, M, F, count, by omega, by go_num, by omega, by omega, HB8, HS8, HE8⟩
        case measure => simp [intOf]; omega
      have q2 : (yk == 2) = false := by rw [beq_eq_false_iff_ne]; exact k2
      by_cases k3 : yk = 3
      · subst k3
        have HA6 := Lib.hid (below_alloc (Below.refl wr.heap.size wr) (.cells #[.int .i64 3, .int .i64 ti, .int .i64 tk, .int .i64 tb, .int .i64 tm, .int .i64 tq, .int .i64 tn, .int .i64 tc, .int .i64 re, .int .i64 rf, .int .i64 rc, .int .i64 cd] 42))
        have HB6 := Lib.hid (HB5.out.below HA6.out)
        have HS6 := Lib.hid (HS5.out.below HA6.out)
        have HE6 := Lib.hid (blk_below HE5.out HA6.out)
        go_wp2_with (first
          | (go_at_call 9; go_loud (refine (refuse_sets HS6.out HK.out cd (show (3 : Int) ≠ 1 by decide)).mono ?_); rintro e w7 ⟨rfl, hb⟩; have HB7 := Lib.hid (HB6.out.below hb); have HS7 := Lib.hid (HS6.out.below hb); have HE7 := Lib.hid (blk_below HE6.out hb); clear hb)
          | (go_at_call 10; go_loud (refine (get_sets HS7.out HK.out).mono ?_); rintro e w8 ⟨rfl, hb⟩; have HA8 := Lib.hid (below_alloc hb (.cells (sR a0 a1_2 a2).E 38)); have HB8 := Lib.hid (HB7.out.below HA8.out); have HS8 := Lib.hid (HS7.out.below HA8.out); have HE8 := Lib.hid (blk_below HE7.out HA8.out); have HU8 := Lib.hid (heap_alloc_new w8 (.cells (sR a0 a1_2 a2).E 38)); obtain ⟨u0, u1, u2, u3, u4, u5, u6, u7, u8, u9, u10, u11, -⟩ := cells_12 HU8.out; obtain ⟨v0, v1, v2, v3, v4, v5, v6, v7, v8, v9, v10, v11, -⟩ := cells_12 HE8.out; clear hb))
        go_roundw
        case rel => exact ⟨i + 1, n, D, M, F, count, by omega, by go_num, by omega, by omega, HB8, HS8, HE8⟩
        case measure => simp [intOf]; omega
      have q3 : (yk == 3) = false := by rw [beq_eq_false_iff_ne]; exact k3
      have HA6 := Lib.hid (below_alloc (Below.refl wr.heap.size wr) (.cells #[.int .i64 yk, .int .i64 ti, .int .i64 tk, .int .i64 tb, .int .i64 tm, .int .i64 tq, .int .i64 tn, .int .i64 tc, .int .i64 re, .int .i64 rf, .int .i64 rc, .int .i64 cd] 42))
      have HB6 := Lib.hid (HB5.out.below HA6.out)
      have HS6 := Lib.hid (HS5.out.below HA6.out)
      have HE6 := Lib.hid (blk_below HE5.out HA6.out)
      have HB7 := HB6
      have HS7 := HS6
      have HE7 := HE6
      go_wp2_with (go_at_call 10; go_loud (refine (get_sets HS7.out HK.out).mono ?_); rintro e w8 ⟨rfl, hb⟩; have HA8 := Lib.hid (below_alloc hb (.cells (sR a0 a1_2 a2).E 38)); have HB8 := Lib.hid (HB7.out.below HA8.out); have HS8 := Lib.hid (HS7.out.below HA8.out); have HE8 := Lib.hid (blk_below HE7.out HA8.out); have HU8 := Lib.hid (heap_alloc_new w8 (.cells (sR a0 a1_2 a2).E 38)); obtain ⟨u0, u1, u2, u3, u4, u5, u6, u7, u8, u9, u10, u11, -⟩ := cells_12 HU8.out; obtain ⟨v0, v1, v2, v3, v4, v5, v6, v7, v8, v9, v10, v11, -⟩ := cells_12 HE8.out; clear hb)
      go_roundw
      case rel => exact ⟨i + 1, n, D, M, F, count, by omega, by go_num, by omega, by omega, HB8, HS8, HE8⟩
      case measure => simp [intOf]; omega
    · obtain ⟨r0, r1, r2, -⟩ := cells_3 HB5.out.kR
      obtain ⟨s0, s1, s2, s3, s4, s5, s6, s7, s8, s9, s10, s11, -⟩ := cells_12 HE5.out
      obtain ⟨t0, t1, t2, t3, t4, t5, t6, -⟩ := cells_7 HB5.out.kT
      replace s7 : wr.cell? ⟨w4.heap.size, 7, none⟩ = some (.int .i64 3) := s7
      replace s8 : wr.cell? ⟨w4.heap.size, 8, none⟩ = some (.int .i64 a2) := s8
      by_cases hil : i < l3.length
      · have c1 : (i : Int) < (l3.length : Int) := by omega
        have c2 : ¬ (i : Int) < 40 := by omega
        go_wp2_with (first | (go_at_call 5; go_loud (refine (dup_sets (by first | exact HS5.out | exact HS5.out.below (below_drew1 (Below.refl _ _))) HK.out (oT a0 a1_2) rfl HZ.out).mono ?_); rintro e w7 ⟨rfl, hb⟩; have HB7 := Lib.hid (below_step (by first | exact HB5.out.bel | exact below_drew1 HB5.out.bel) hb); clear hb) | (go_at_call 7; go_loud (refine (awake33.calls _).mono ?_); rintro e w8 ⟨rfl, hd⟩; have HB8 := Lib.hid (below_step HB7.out hd); clear hd))
        go_ret
        exact ⟨rfl, HB8.out⟩
      · have c1 : ¬ (i : Int) < (l3.length : Int) := by omega
        go_wp2_with (first | (go_at_call 5; go_loud (refine (dup_sets (by first | exact HS5.out | exact HS5.out.below (below_drew1 (Below.refl _ _))) HK.out (oT a0 a1_2) rfl HZ.out).mono ?_); rintro e w7 ⟨rfl, hb⟩; have HB7 := Lib.hid (below_step (by first | exact HB5.out.bel | exact below_drew1 HB5.out.bel) hb); clear hb) | (go_at_call 7; go_loud (refine (awake33.calls _).mono ?_); rintro e w8 ⟨rfl, hd⟩; have HB8 := Lib.hid (below_step HB7.out hd); clear hd))
        go_ret
        exact ⟨rfl, HB8.out⟩
set_option maxHeartbeats 8000000 in
set_option maxRecDepth 100000 in
theorem once_refuse_e (a0 a1_0 a1_1 a1_2 a2 : Int) (A3 : Option Addr) (c3 : Nat) (l3 : List S42) (w : World) (hr3 : Kd.C k42 w A3 l3.length l3) (hw3 : ∀ y ∈ l3, (Lit.int .i64 y.f1.f0).wf = true) (hk : (Lit.int .i64 a0).wf = true) (hz : tchk (oT a0 a1_2) = 0) (hf : 0 ≤ a1_1) (hb : a1_0 < 0) (hcd : a2 ≠ 0) :
    Calls Try.prog 3 #[.int .i64 a0, .agg #[.int .i64 a1_0, .int .i64 a1_1, .int .i64 a1_2], .int .i64 a2, .slice A3 l3.length c3] w fun e w' => e = .returned (.bool true) ∧ Below w.heap.size w w' := by
  have HB0 := Lib.hid (below_alloc (Below.refl w.heap.size w) (.cells (rC a1_0 a1_1 a1_2) 23))
  have HX0 := Lib.hid (heap_alloc_new w (.cells (rC a1_0 a1_1 a1_2) 23))
  have HZ := Lib.hid hz
  have HK := Lib.hid hk
  have HL3 := Lib.hid hr3
  have HW3 := Lib.hid hw3
  clear hz hk hr3 hw3
  have HBAD := Lib.hid (show a1_1 < 0 ∨ a1_0 < 0 from .inr hb)
  have HCD := Lib.hid hcd
  have hcd0 : (a2 == 0) = false := by rw [beq_eq_false_iff_ne]; exact hcd
  clear hcd
  go_enter Try.func3, Try.ntmps3
  go_wp2_with (first
    | (go_at_call 4; refine (new_ok _).mono ?_; rintro e w1 ⟨g, mb, rfl, hT, hb⟩; have HBx := Lib.hid (show Bx w (w1.alloc (.cells (oT a0 a1_2).C 30)) a1_0 a1_1 a1_2 a0 w1.heap.size from ⟨below_alloc (below_step HB0.out hb) _, blk_alloc (blk_below HX0.out hb) _, heap_alloc_new w1 _⟩); have HT1 := Lib.hid (hT.below (below_alloc (Below.refl _ _) (.cells (oT a0 a1_2).C 30))); obtain ⟨x0, x1, x2, -⟩ := cells_3 (blk_below HX0.out hb); clear hb hT)
    | (go_at_call 5; go_loud (refine (ask_new _ _ g mb 0 (.map []) (fun _ => none) (fun _ => Sl.new 0) 0 (oT a0 a1_2) HT1.out HZ.out HK.out rfl (by decide) (by unfold maxLen; omega) (by omega)).mono ?_); rintro e w2 ⟨rfl, p, hp, hT, hc⟩; have HT2 := Lib.hid (show TabAt _ w2 g mb 1 _ (putP (fun _ => none) a0 p) (fun x => if x = p then sA a0 a1_2 else Sl.new 0) 1 from hT); have HBx2 := Lib.hid (HBx.out.chg HT1.out (by simp) (hc.mono (fun k _ hk => by rcases hk with hk | hk; exact .inl hk; exact .inr (.inl hk)))); obtain ⟨x0', x1', x2', -⟩ := cells_3 HBx2.out.kR; clear x0 x1 x2 hT hc)
    | (go_at_call 8; go_loud (refine (grant_mis _ w2 g mb 1 _ _ _ 1 a0 p HT2.out HK.out (by unfold putP; rw [if_pos rfl]) (by rw [if_pos rfl]; rfl) a1_0 a1_1 a1_2 (by rw [if_pos rfl]; rfl) HBAD.out (by rw [if_pos rfl]; rfl)).mono ?_); rintro e w2b ⟨rfl, hb2⟩; have HT2b := Lib.hid (HT2.out.below hb2); have HBx2b := Lib.hid (HBx2.out.below hb2); clear x0' x1' x2'; obtain ⟨x0', x1', x2', -⟩ := cells_3 HBx2b.out.kR; clear hb2)
    | (go_at_call 9; go_loud (refine (refuse_ok _ w2b g mb 1 _ _ _ 1 a0 p HT2b.out HK.out (by unfold putP; rw [if_pos rfl]) (by rw [if_pos rfl]; rfl) a2 HCD.out (by rw [if_pos rfl]; rfl)).mono ?_); rintro e w3 ⟨rfl, hT, hc⟩; have HBx3 := Lib.hid (HBx2b.out.chg HT2b.out (by simp) (hc.mono (fun k _ hk => .inr (.inr ⟨a0, by rw [hk]; unfold putP; rw [if_pos rfl]⟩)))); have HS3 := Lib.hid (show Sets _ w3 g mb 1 _ _ _ 1 a0 p (sR a0 a1_2 a2) from ⟨hT, by unfold putP; rw [if_pos rfl], by show (if p = p then _ else _ : Sl).asked = true; rw [if_pos rfl, if_pos rfl]; rfl, by show Stays _ (if p = p then _ else _ : Sl); rw [if_pos rfl, if_pos rfl]; exact Stays.refl _, by omega⟩); clear x0' x1' x2' hT hc)
    | (go_at_call 10; go_loud (refine (get_sets HS3.out HK.out).mono ?_); rintro e w4 ⟨rfl, hb⟩; have HBx4 := Lib.hid ((HBx3.out.below hb).below (below_alloc (Below.refl _ _) (.cells (sR a0 a1_2 a2).E 38))); have HS4 := Lib.hid ((HS3.out.below hb).below (below_alloc (Below.refl _ _) (.cells (sR a0 a1_2 a2).E 38))); have HE4 := Lib.hid (heap_alloc_new w4 (.cells (sR a0 a1_2 a2).E 38)); clear hb))
  go_loopw [13] (fun a wr => ∃ (i : Nat) (n : Nat) (D : DU) (M : Sm) (F : Ss) (count : Int), i ≤ 40 ∧ a = .int .i64 (i : Int) ∧ n ≤ i + 1 ∧ count ≤ i + 1 ∧ Go.RowKit.Hid (Bx w wr a1_0 a1_1 a1_2 a0 w1.heap.size) ∧ Go.RowKit.Hid (Sets (w.alloc (.cells (rC a1_0 a1_1 a1_2) 23)) wr g mb n D M F count a0 p (sR a0 a1_2 a2)) ∧ Go.RowKit.Hid (wr.heap[w4.heap.size]? = some (.cells (sR a0 a1_2 a2).E 38 (0, 0)))) (fun a _ => 50 - (intOf a).toNat)
  case atStart => exact ⟨0, 1, _, _, _, 1, by omega, rfl, by omega, by omega, HBx4, HS4, HE4⟩
  case round =>
    obtain ⟨i, n, D, M, F, count, hi, rfl, hn, hco, HB5, HS5, HE5⟩ := hrel
    clear HBx HBx2 HBx3 HBx4 HS3 HS4 HE4 HT1 HT2 HT2b HBx2b HX0 HB0
    by_cases hin : i < l3.length ∧ i < 40
    · obtain ⟨hil, hi40⟩ := hin
      have c1 : (i : Int) < (l3.length : Int) := by omega
      have c2 : (i : Int) < 40 := by omega
      have hC := Kd.C_below HL3.out HB5.out.bel
      obtain ⟨ad, rfl, e0, e1, e2, e3, e4, e5, e6, e7, e8, e9, e10, e11⟩ := at_T42 hC (i : Int) (by omega) (by omega)
      simp only [Int.toNat_natCast] at e0 e1 e2 e3 e4 e5 e6 e7 e8 e9 e10 e11
      have hy : rd_T42 l3 (i : Int) ∈ l3 := by
        unfold rd_T42
        rw [Int.toNat_natCast, List.getD_eq_getElem?_getD, List.getElem?_eq_getElem hil]
        exact List.getElem_mem hil
      have HY := Lib.hid (HW3.out _ hy)
      generalize rd_T42 l3 (i : Int) = y at *
      clear hC hy
      obtain ⟨yk, ⟨ti, ⟨tk, tb, tm, tq, tn⟩, tc⟩, ⟨re, rf, rc⟩, cd⟩ := y
      simp only at e0 e1 e2 e3 e4 e5 e6 e7 e8 e9 e10 e11
      by_cases k0 : yk = 0
      · subst k0
        have HA6 := Lib.hid (below_alloc (Below.refl wr.heap.size wr) (.cells #[.int .i64 0, .int .i64 ti, .int .i64 tk, .int .i64 tb, .int .i64 tm, .int .i64 tq, .int .i64 tn, .int .i64 tc, .int .i64 re, .int .i64 rf, .int .i64 rc, .int .i64 cd] 42))
        have HB6 := Lib.hid (HB5.out.below HA6.out)
        have HS6 := Lib.hid (HS5.out.below HA6.out)
        have HE6 := Lib.hid (blk_below HE5.out HA6.out)
        go_wp2_with (first
          | (go_at_call 5; go_loud (refine (ask_any _ _ g mb n D M F count a0 p (sR a0 a1_2 a2) ⟨ti, tk, tb, tm, tq, tn, tc⟩ HS6.out ⟨by omega, by omega⟩ HY.out).mono ?_); rintro e w7 ⟨v, n', D', M', F', count', rfl, hS, hn', hco', hc⟩; have HB7 := Lib.hid (HB6.out.chg HS6.out.tab (by simp) hc); have HS7 := Lib.hid hS; have HE7 := Lib.hid (hc.blk HE6.out (not_tab HS6.out.tab HE6.out (by decide) (by decide))); clear hS hc)
          | (go_at_call 10; go_loud (refine (get_sets HS7.out HK.out).mono ?_); rintro e w8 ⟨rfl, hb⟩; have HA8 := Lib.hid (below_alloc hb (.cells (sR a0 a1_2 a2).E 38)); have HB8 := Lib.hid (HB7.out.below HA8.out); have HS8 := Lib.hid (HS7.out.below HA8.out); have HE8 := Lib.hid (blk_below HE7.out HA8.out); have HU8 := Lib.hid (heap_alloc_new w8 (.cells (sR a0 a1_2 a2).E 38)); obtain ⟨u0, u1, u2, u3, u4, u5, u6, u7, u8, u9, u10, u11, -⟩ := cells_12 HU8.out; obtain ⟨v0, v1, v2, v3, v4, v5, v6, v7, v8, v9, v10, v11, -⟩ := cells_12 HE8.out; clear hb))
        go_roundw
        case rel => exact ⟨i + 1, n', D', M', F', count', by omega, by go_num, by omega, by omega, HB8, HS8, HE8⟩
        case measure => simp [intOf]; omega
      have q0 : (yk == 0) = false := by rw [beq_eq_false_iff_ne]; exact k0
      by_cases k1 : yk = 1
      · subst k1
        have HA6 := Lib.hid (below_alloc (Below.refl wr.heap.size wr) (.cells #[.int .i64 1, .int .i64 ti, .int .i64 tk, .int .i64 tb, .int .i64 tm, .int .i64 tq, .int .i64 tn, .int .i64 tc, .int .i64 re, .int .i64 rf, .int .i64 rc, .int .i64 cd] 42))
        have HB6 := Lib.hid (HB5.out.below HA6.out)
        have HS6 := Lib.hid (HS5.out.below HA6.out)
        have HE6 := Lib.hid (blk_below HE5.out HA6.out)
        go_wp2_with (first
          | (go_at_call 11; go_loud (refine (hear_any _ _ g mb n D M F count a0 p (sR a0 a1_2 a2) ⟨ti, tk, tb, tm, tq, tn, tc⟩ HS6.out ⟨by omega, by omega⟩ HY.out).mono ?_); rintro e w7 ⟨v, n', D', M', F', count', rfl, hS, hn', hco', hc⟩; have HB7 := Lib.hid (HB6.out.chg HS6.out.tab (by simp) hc); have HS7 := Lib.hid hS; have HE7 := Lib.hid (hc.blk HE6.out (not_tab HS6.out.tab HE6.out (by decide) (by decide))); clear hS hc)
          | (go_at_call 10; go_loud (refine (get_sets HS7.out HK.out).mono ?_); rintro e w8 ⟨rfl, hb⟩; have HA8 := Lib.hid (below_alloc hb (.cells (sR a0 a1_2 a2).E 38)); have HB8 := Lib.hid (HB7.out.below HA8.out); have HS8 := Lib.hid (HS7.out.below HA8.out); have HE8 := Lib.hid (blk_below HE7.out HA8.out); have HU8 := Lib.hid (heap_alloc_new w8 (.cells (sR a0 a1_2 a2).E 38)); obtain ⟨u0, u1, u2, u3, u4, u5, u6, u7, u8, u9, u10, u11, -⟩ := cells_12 HU8.out; obtain ⟨v0, v1, v2, v3, v4, v5, v6, v7, v8, v9, v10, v11, -⟩ := cells_12 HE8.out; clear hb))
        go_roundw
        case rel => exact ⟨i + 1, n', D', M', F', count', by omega, by go_num, by omega, by omega, HB8, HS8, HE8⟩
        case measure => simp [intOf]; omega
      have q1 : (yk == 1) = false := by rw [beq_eq_false_iff_ne]; exact k1
      by_cases k2 : yk = 2
      · subst k2
        have HA6 := Lib.hid (below_alloc (Below.refl wr.heap.size wr) (.cells #[.int .i64 2, .int .i64 ti, .int .i64 tk, .int .i64 tb, .int .i64 tm, .int .i64 tq, .int .i64 tn, .int .i64 tc, .int .i64 re, .int .i64 rf, .int .i64 rc, .int .i64 cd] 42))
        have HB6 := Lib.hid (HB5.out.below HA6.out)
        have HS6 := Lib.hid (HS5.out.below HA6.out)
        have HE6 := Lib.hid (blk_below HE5.out HA6.out)
        go_wp2_with (first
          | (go_at_call 8; go_loud (refine (grant_sets HS6.out HK.out re rf rc (show (3 : Int) ≠ 1 by decide)).mono ?_); rintro e w7 ⟨rfl, hb⟩; have HB7 := Lib.hid (HB6.out.below hb); have HS7 := Lib.hid (HS6.out.below hb); have HE7 := Lib.hid (blk_below HE6.out hb); clear hb)
          | (go_at_call 10; go_loud (refine (get_sets HS7.out HK.out).mono ?_); rintro e w8 ⟨rfl, hb⟩; have HA8 := Lib.hid (below_alloc hb (.cells (sR a0 a1_2 a2).E 38)); have HB8 := Lib.hid (HB7.out.below HA8.out); have HS8 := Lib.hid (HS7.out.below HA8.out); have HE8 := Lib.hid (blk_below HE7.out HA8.out); have HU8 := Lib.hid (heap_alloc_new w8 (.cells (sR a0 a1_2 a2).E 38)); obtain ⟨u0, u1, u2, u3, u4, u5, u6, u7, u8, u9, u10, u11, -⟩ := cells_12 HU8.out; obtain ⟨v0, v1, v2, v3, v4, v5, v6, v7, v8, v9, v10, v11, -⟩ := cells_12 HE8.out; clear hb))
        go_roundw
        case rel => exact ⟨i + 1, n, D, M, F, count, by omega, by go_num, by omega, by omega, HB8, HS8, HE8⟩
        case measure => simp [intOf]; omega
      have q2 : (yk == 2) = false := by rw [beq_eq_false_iff_ne]; exact k2
      by_cases k3 : yk = 3
      · subst k3
        have HA6 := Lib.hid (below_alloc (Below.refl wr.heap.size wr) (.cells #[.int .i64 3, .int .i64 ti, .int .i64 tk, .int .i64 tb, .int .i64 tm, .int .i64 tq, .int .i64 tn, .int .i64 tc, .int .i64 re, .int .i64 rf, .int .i64 rc, .int .i64 cd] 42))
        have HB6 := Lib.hid (HB5.out.below HA6.out)
        have HS6 := Lib.hid (HS5.out.below HA6.out)
        have HE6 := Lib.hid (blk_below HE5.out HA6.out)
        go_wp2_with (first
          | (go_at_call 9; go_loud (refine (refuse_sets HS6.out HK.out cd (show (3 : Int) ≠ 1 by decide)).mono ?_); rintro e w7 ⟨rfl, hb⟩; have HB7 := Lib.hid (HB6.out.below hb); have HS7 := Lib.hid (HS6.out.below hb); have HE7 := Lib.hid (blk_below HE6.out hb); clear hb)
          | (go_at_call 10; go_loud (refine (get_sets HS7.out HK.out).mono ?_); rintro e w8 ⟨rfl, hb⟩; have HA8 := Lib.hid (below_alloc hb (.cells (sR a0 a1_2 a2).E 38)); have HB8 := Lib.hid (HB7.out.below HA8.out); have HS8 := Lib.hid (HS7.out.below HA8.out); have HE8 := Lib.hid (blk_below HE7.out HA8.out); have HU8 := Lib.hid (heap_alloc_new w8 (.cells (sR a0 a1_2 a2).E 38)); obtain ⟨u0, u1, u2, u3, u4, u5, u6, u7, u8, u9, u10, u11, -⟩ := cells_12 HU8.out; obtain ⟨v0, v1, v2, v3, v4, v5, v6, v7, v8, v9, v10, v11, -⟩ := cells_12 HE8.out; clear hb))
        go_roundw
        case rel => exact ⟨i + 1, n, D, M, F, count, by omega, by go_num, by omega, by omega, HB8, HS8, HE8⟩
        case measure => simp [intOf]; omega
      have q3 : (yk == 3) = false := by rw [beq_eq_false_iff_ne]; exact k3
      have HA6 := Lib.hid (below_alloc (Below.refl wr.heap.size wr) (.cells #[.int .i64 yk, .int .i64 ti, .int .i64 tk, .int .i64 tb, .int .i64 tm, .int .i64 tq, .int .i64 tn, .int .i64 tc, .int .i64 re, .int .i64 rf, .int .i64 rc, .int .i64 cd] 42))
      have HB6 := Lib.hid (HB5.out.below HA6.out)
      have HS6 := Lib.hid (HS5.out.below HA6.out)
      have HE6 := Lib.hid (blk_below HE5.out HA6.out)
      have HB7 := HB6
      have HS7 := HS6
      have HE7 := HE6
      go_wp2_with (go_at_call 10; go_loud (refine (get_sets HS7.out HK.out).mono ?_); rintro e w8 ⟨rfl, hb⟩; have HA8 := Lib.hid (below_alloc hb (.cells (sR a0 a1_2 a2).E 38)); have HB8 := Lib.hid (HB7.out.below HA8.out); have HS8 := Lib.hid (HS7.out.below HA8.out); have HE8 := Lib.hid (blk_below HE7.out HA8.out); have HU8 := Lib.hid (heap_alloc_new w8 (.cells (sR a0 a1_2 a2).E 38)); obtain ⟨u0, u1, u2, u3, u4, u5, u6, u7, u8, u9, u10, u11, -⟩ := cells_12 HU8.out; obtain ⟨v0, v1, v2, v3, v4, v5, v6, v7, v8, v9, v10, v11, -⟩ := cells_12 HE8.out; clear hb)
      go_roundw
      case rel => exact ⟨i + 1, n, D, M, F, count, by omega, by go_num, by omega, by omega, HB8, HS8, HE8⟩
      case measure => simp [intOf]; omega
    · obtain ⟨r0, r1, r2, -⟩ := cells_3 HB5.out.kR
      obtain ⟨s0, s1, s2, s3, s4, s5, s6, s7, s8, s9, s10, s11, -⟩ := cells_12 HE5.out
      obtain ⟨t0, t1, t2, t3, t4, t5, t6, -⟩ := cells_7 HB5.out.kT
      replace s7 : wr.cell? ⟨w4.heap.size, 7, none⟩ = some (.int .i64 3) := s7
      replace s8 : wr.cell? ⟨w4.heap.size, 8, none⟩ = some (.int .i64 a2) := s8
      by_cases hil : i < l3.length
      · have c1 : (i : Int) < (l3.length : Int) := by omega
        have c2 : ¬ (i : Int) < 40 := by omega
        go_wp2_with (first | (go_at_call 5; go_loud (refine (dup_sets (by first | exact HS5.out | exact HS5.out.below (below_drew1 (Below.refl _ _))) HK.out (oT a0 a1_2) rfl HZ.out).mono ?_); rintro e w7 ⟨rfl, hb⟩; have HB7 := Lib.hid (below_step (by first | exact HB5.out.bel | exact below_drew1 HB5.out.bel) hb); clear hb) | (go_at_call 7; go_loud (refine (awake33.calls _).mono ?_); rintro e w8 ⟨rfl, hd⟩; have HB8 := Lib.hid (below_step HB7.out hd); clear hd))
        go_ret
        exact ⟨rfl, HB8.out⟩
      · have c1 : ¬ (i : Int) < (l3.length : Int) := by omega
        go_wp2_with (first | (go_at_call 5; go_loud (refine (dup_sets (by first | exact HS5.out | exact HS5.out.below (below_drew1 (Below.refl _ _))) HK.out (oT a0 a1_2) rfl HZ.out).mono ?_); rintro e w7 ⟨rfl, hb⟩; have HB7 := Lib.hid (below_step (by first | exact HB5.out.bel | exact below_drew1 HB5.out.bel) hb); clear hb) | (go_at_call 7; go_loud (refine (awake33.calls _).mono ?_); rintro e w8 ⟨rfl, hd⟩; have HB8 := Lib.hid (below_step HB7.out hd); clear hd))
        go_ret
        exact ⟨rfl, HB8.out⟩
end Go.Proofs.Ytdifkcbiifhkeaa.P
