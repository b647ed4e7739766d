/- The pool: Take. -/
import Derived.Test.YtieaealkdjnolaaPaPl10
namespace Go.Proofs.Ytieaealkdjnolaa.P
open Go.RowKit Go.Maps Go.Proofs.YtieaealkdjnolaaW.PrintWords Go.Proofs.YtieaealkdjnolaaW.PrintLast Go.Proofs.YtieaealkdjnolaaW.PrintMore
set_option linter.unusedVariables false
set_option linter.unusedSimpArgs false
attribute [local go_sem ↓] Go.wp_at_zero Go.wp_at_succ
/-- is all there that is asked for? -/
def AllThere (V : Vm) (first : Int) (cnt : Nat) : Prop := ∀ k : Nat, k < cnt → (V (first + (k : Int))).isSome = true
instance (V : Vm) (first : Int) (cnt : Nat) : Decidable (AllThere V first cnt) := by unfold AllThere; infer_instance
set_option maxRecDepth 100000 in
set_option maxHeartbeats 4000000 in
theorem take_one {w0 w : World} {g : Nat} {c : S26} {b : Bn} (h : BinAt w0 w g c b) (first : Int) (cnt : Nat) (hz : chkC c = 0) (hn : 0 ≤ first ∧ first ≤ 1099511627776 ∧ 1 ≤ cnt ∧ cnt ≤ 64) : Calls Try.prog 12 #[.pointer (some ⟨g, 0, none⟩), .agg (cC c), .int .i64 first, .int .i64 (cnt : Int)] w fun e w' =>
    (¬ AllThere b.V first cnt ∧ e = .returned (.tuple #[.slice none 0 0, .int .i64 6]) ∧ Below w.heap.size w w') ∨
    (AllThere b.V first cnt ∧ ∃ A cc D', e = .returned (.tuple #[.slice A cnt cc, .int .i64 0]) ∧ cnt ≤ cc ∧ Kd.C k32 w' A cnt (xsOf b.X first cnt) ∧ BinAt w0 w' g c { b with D := D', V := dels b.V first cnt } ∧ Chg (fun k => k = b.mb) w w') := by
  have HB0 := Lib.hid (below_alloc (Below.refl w.heap.size w) (.cells (cC c) 26))
  have HC0 := Lib.hid (heap_alloc_new w (.cells (cC c) 26))
  obtain ⟨a0, a1, a2, a3, a4⟩ := cls_new w c
  have HA := Lib.hid h
  have HZ := Lib.hid hz
  have hn1 : 0 ≤ first := hn.1
  have hn2 : first ≤ 1099511627776 := hn.2.1
  have hn3 : 1 ≤ cnt := hn.2.2.1
  have hn4 : cnt ≤ 64 := hn.2.2.2
  have hi3 : (1 : Int) ≤ (cnt : Int) := by omega
  have hi4 : (cnt : Int) ≤ 64 := by omega
  have hwf : IntKind.i64.wrap (first + (cnt : Int)) = first + (cnt : Int) := by rw [IntKind.wrap_i64]; omega
  clear h hz hn
  obtain ⟨r, cap, p, mb, n, D, V, X, total, mark, next⟩ := b
  go_enter Try.func12, Try.ntmps12
  go_wp2_with (first
    | (go_at_call 21; go_loud (refine (pready_ok (w0 := w0) (c := c) (o := some ⟨r, cap, p, mb, n, D, V, X, total, mark, next⟩) (BinAt.below HA.out HB0.out)).mono ?_); rintro e w1 ⟨rfl, hb⟩; rw [HZ.out]; have HB1 := Lib.hid (below_step HB0.out hb); obtain ⟨c0, c1, c2, c3, c4, -⟩ := cells_5 (blk_below HC0.out hb); clear hb a0 a1 a2 a3 a4)
    | (go_at_call 23; go_loud (refine (find_one (HA.out.below HB1.out)).mono ?_); rintro e w2 ⟨rfl, hb⟩; have HB2 := Lib.hid (below_step HB1.out hb); clear hb c0 c1 c2 c3 c4)
    | ((refine Kd.R_makecap k32 (w0 := w2) w2.heap.size 32 rfl (N := 43) rfl 35 _ _ rfl (cnt : Int) rfl rfl Try.underlying35 (.agg #[(.slice none 0 0), (.slice none 0 0), (.slice none 0 0)]) 72 info32 rfl (by decide) (by omega) z32 (ok := fun _ => True) (okp := fun _ => True) (k32_mkM _ _ _ z32 (Kd.R_nil _ _ _ _ _) (Kd.R_nil _ _ _ _ _) (Kd.R_nil _ _ _ _ _)) (fun _ hk => hk) trivial (by omega) (by rw [Int.toNat_natCast]; omega) (Below.refl _ _) (Nat.le_refl _) ?_; intro v4 w4 ho4 hb4 hg_ hnew_; have HK4 := Lib.hid (KF.of_R (w2 := w2) ho4); have HB4 := Lib.hid hb4; clear ho4 hb4 hg_ hnew_)))
  have HE := Lib.hid (fun i v hv => (HA.out.below HB2.out).elem i v hv)
  go_loopw [12, 13] (fun u s wr => ∃ (j : Nat), j ≤ cnt ∧ s = .int .i64 (first + (j : Int)) ∧ Go.RowKit.Hid (Below w2.heap.size w2 wr) ∧ Go.RowKit.Hid (KF w2.heap.size wr w2 u (xsOf X first j)) ∧ Go.RowKit.Hid (∀ k : Nat, k < j → (V (first + (k : Int))).isSome = true)) (fun u s _ => (first + (cnt : Int) - intOf s).toNat)
  case atStart => exact ⟨0, by omega, by go_num, HB4, HK4, Lib.hid (fun k hk => by omega)⟩
  case round =>
    obtain ⟨j, hj, rfl, HB5, HK5, HS5⟩ := hrel
    by_cases hjc : j < cnt
    · have c1 : first + (j : Int) < first + (cnt : Int) := by omega
      have hlk := lookV_run (HA.out.below (below_step HB2.out HB5.out)).own (HA.out.below (below_step HB2.out HB5.out)).has (k := first + (j : Int)) (wfI (by omega) (by omega))
      obtain ⟨-, -, -, -, -, -, b6, -⟩ := cells_9 (HA.out.below (below_step HB2.out HB5.out)).blk
      simp only at hlk
      cases hV : V (first + (j : Int)) with
      | none =>
        rw [hV] at hlk
        simp only [lookV] at hlk
        have HV := Lib.hid hV
        clear hV
        go_wp2
        go_ret2
        exact .inl ⟨fun ha => absurd (ha j hjc) (by rw [HV.out]; decide), rfl, below_alloc (below_step HB2.out HB5.out) _⟩
      | some v =>
        obtain ⟨v0, v1, v2, rfl, hK⟩ := (HE.out _ _ hV).K
        rw [hV] at hlk
        simp only [lookV] at hlk
        have HK := Lib.hid hK
        have HS6 := Lib.hid (show ∀ k : Nat, k < j + 1 → (V (first + (k : Int))).isSome = true from fun k hk => by
          rcases Nat.lt_or_ge k j with h | h
          · exact HS5.out k h
          · have : k = j := by omega
            rw [this, hV]; rfl)
        obtain ⟨A0, k0, A1, k1, A2, k2, he, -⟩ := k32_open hK
        injection he with h0 he
        injection he with h1 he
        injection he with h2 he
        subst h0 h1 h2
        clear hV hK he
        have HBX := Lib.hid (below_alloc HB5.out (.cells #[.slice A0 (X (first + (j : Int))).f0.length k0, .slice A1 (X (first + (j : Int))).f1.length k1, .slice A2 (X (first + (j : Int))).f2.length k2] 32))
        have HKX := Lib.hid (HK5.out.below (below_alloc (Below.refl _ _) (.cells #[.slice A0 (X (first + (j : Int))).f0.length k0, .slice A1 (X (first + (j : Int))).f1.length k1, .slice A2 (X (first + (j : Int))).f2.length k2] 32)))
        have hl0 : (xsOf X first j).length < 1954687338268 := by rw [xsOf_length]; omega
        have HLL := Lib.hid hl0
        clear hl0
        go_wp2_with (at_builtin; go_loud (refine kf_app (w0 := w2) HKX.out HK.out HBX.out.size HBX.out HLL.out rfl (.tmp 63) (.tmp 65) rfl rfl (wr.heap.size + 1) (by simp) rfl ?_; intro v1 w5 hk5 hb5 hg5; rw [xsOf_succ] at hk5; have HK6 := Lib.hid hk5; have HB6 := Lib.hid hb5; clear hk5 hb5 hg5))
        go_roundw
        case rel => exact ⟨j + 1, by omega, by go_num, HB6, HK6, HS6⟩
        case measure => simp [intOf]; omega
    · obtain rfl : j = cnt := by omega
      have c1 : ¬ first + (j : Int) < first + (j : Int) := by omega
      obtain ⟨A, cc, rfl, hcc, hCC⟩ := HK5.out.C HB5.out
      rw [xsOf_length] at hcc hCC
      have hxl : (xsOf X first j).length = j := xsOf_length X first j
      rw [hxl]
      have HCC := Lib.hid hCC
      have HCL := Lib.hid hcc
      have HW := Lib.hid (below_step HB2.out HB5.out)
      have HA5 := Lib.hid (HA.out.below HW.out)
      clear hCC hcc hxl HK5 HE HK4 HB4
      have HA6 := Lib.hid (show ∃ D', BinAt w0 wr g c ⟨r, cap, p, mb, n, D', dels V first 0, X, total, mark, next⟩ from ⟨D, by rw [dels_zero]; exact HA5.out⟩)
      have HG6 := Lib.hid (Chg.of_below HW.out (fun k => k = mb))
      go_wp2
      go_loopw [16] (fun s wr2 => ∃ (i : Nat), i ≤ j ∧ s = .int .i64 (first + (i : Int)) ∧ Go.RowKit.Hid (∃ D', BinAt w0 wr2 g c ⟨r, cap, p, mb, n, D', dels V first i, X, total, mark, next⟩) ∧ Go.RowKit.Hid (Kd.C k32 wr2 A j (xsOf X first j)) ∧ Go.RowKit.Hid (Chg (fun k => k = mb) w wr2)) (fun s _ => (first + (j : Int) - intOf s).toNat)
      case atStart => exact ⟨0, by omega, by go_num, HA6, HCC, HG6⟩
      case round =>
        obtain ⟨i, hi, rfl, HA7, HC7, HG7⟩ := hrel
        obtain ⟨D', hA7⟩ := HA7.out
        by_cases hij : i < j
        · have c2 : first + (i : Int) < first + (j : Int) := by omega
          obtain ⟨-, -, -, -, -, -, b6, -⟩ := cells_9 hA7.blk
          simp only at b6
          have HWF := Lib.hid (show (Lit.int .i64 (first + (i : Int))).wf = true from wfI (by omega) (by omega))
          have HA8 := Lib.hid hA7
          clear hA7 HA7
          go_wp2_with (at_delete; go_loud (refine wpList_delete_own _ rfl (.tmp 78) (.tmp 79) 69 3 rfl 32 lawI Try.underlying69 RV mb n D' rfl HA8.out.own _ _ rfl (keyOf_int_mk Try.underlying3 HWF.out) ?_; intro w9 hown9 hmt9; have HA9 := Lib.hid (show ∃ D', BinAt w0 w9 g c ⟨r, cap, p, mb, n, D', dels V first (i + 1), X, total, mark, next⟩ from ⟨_, by rw [← dels_succ]; exact HA8.out.drop hown9 hmt9.grown⟩); have HG9 := Lib.hid (HG7.out.grown hmt9.grown (fun k e => .inl (by injection e with e; exact e.symm))); have HC9 := Lib.hid (CS_cells HC7.out (fun a u hu => cell_map HA8.out.own ((Chg.refl (fun k => k = mb) _).grown hmt9.grown (fun k e => .inl (by injection e with e; exact e.symm))) hu)); clear hown9 hmt9))
          go_roundw
          case rel => exact ⟨i + 1, by omega, by go_num, HA9, HC9, HG9⟩
          case measure => simp [intOf]; omega
        · obtain rfl : i = j := by omega
          have c2 : ¬ first + (i : Int) < first + (i : Int) := by omega
          go_wp2
          go_ret2
          first | exact .inr ⟨HS5.out, A, cc, rfl, HCL.out, HC7.out, ⟨D', hA7⟩, HG7.out⟩ | exact .inr ⟨HS5.out, A, cc, rfl, HCL.out, HC7.out, D', hA7, HG7.out⟩
end Go.Proofs.Ytieaealkdjnolaa.P
