/- MatrixDraws: what is drawn of a tape is the document's. -/
import Derived.Test.YtdgngpcfikgoeaaDoorMdDrw13
namespace Go.Proofs.YtdgngpcfikgoeaaDoor.P
open Go.RowKit Go.Extern.Stop Go.Stop Go.Extern Go.Proofs.YtdgngpcfikgoeaaDoorW.PrintWords Go.Proofs.YtdgngpcfikgoeaaDoorW.PrintLast Go.Proofs.YtdgngpcfikgoeaaDoorW.PrintMore
set_option linter.unusedVariables false
set_option linter.unusedSimpArgs false
attribute [local go_sem ↓] Go.wp_at_zero Go.wp_at_succ

set_option maxHeartbeats 3200000 in
set_option maxRecDepth 100000 in
theorem matrixDraws_ok (c0 c1 c2 c3 c4 n : Int) (A : Option Addr) (c : Nat) (l : List Int) (w : World) (hr : Kd.C (Kd.int .u64) w A l.length l) (hc : l.length ≤ c) (hu : ∀ x ∈ l, 0 ≤ x ∧ x < 18446744073709551616) (hd : Door w) :
    Calls Tryd.prog 9 #[cV c0 c1 c2 c3 c4, .int .i64 n, .slice A l.length c] w fun e w' => e = .returned (.bool true) ∧ Below w.heap.size w w' := by
  have HAW := Lib.hid (fun W => awake23_ok W)
  have HB0 := Lib.hid (below_alloc (Below.refl w.heap.size w) (.cells #[.int .i64 c0, .int .i64 c1, .int .i64 c2, .int .i64 c3, .int .i64 c4] 62))
  by_cases hl : l.length > 500
  · have h6 : ((l.length : Int) > 500) := by omega
    clear hl hr hu hd
    go_enter Tryd.func9, Tryd.ntmps9
    go_wp2_with (go_at_call 29; (with_reducible refine (HAW.out _).mono ?_); rintro e w2 ⟨rfl, hb⟩; have HB := Lib.hid (below_step HB0.out hb); clear hb)
    go_ret
    exact ⟨rfl, HB.out⟩
  have h6 : ¬ ((l.length : Int) > 500) := by omega
  obtain ⟨XS, E, a', HA⟩ := matrix_agree c0 c1 c2 c3 c4 n A c l hc (by omega) hu
  have HK0 := Lib.hid (heap_alloc_new w (.cells #[.int .i64 c0, .int .i64 c1, .int .i64 c2, .int .i64 c3, .int .i64 c4] 62))
  have HN := Lib.hid (tnew_ok A c l _ (Kd.C_below hr HB0.out) (by omega))
  have HA := Lib.hid HA
  have HDOC := Lib.hid (fun W (h : Kd.C (Kd.int .u64) W A l.length l) => (show Calls Tryd.prog 28 #[cV c0 c1 c2 c3 c4, .int .i64 2, .int .i64 n, .agg #[.slice A l.length c, .int .i64 0]] W _ from HA.out.doc W h))
  have HR := Lib.hid hr
  have HD := Lib.hid hd
  have HCL := Lib.hid hc
  clear hl hr hu hd hc
  go_enter Tryd.func9, Tryd.ntmps9
  go_wp2_with (first
    | (go_at_call 11; (with_reducible refine HN.out.mono ?_); rintro e w1 ⟨g, v, rfl, ht, hb⟩; have HT1 := Lib.hid ht; have HB1 := Lib.hid (below_step HB0.out hb); have HK1 := Lib.hid ((hb.block _ (blk_lt HK0.out)).trans HK0.out); obtain ⟨k0, k1, k2, k3, k4, -⟩ := cells_5 HK1.out; have HG := Lib.hid (show w.heap.size + 1 ≤ g by have := ht.ge; simpa using this); clear ht hb)
    | (go_at_call 30; go_loud ((with_reducible refine (HA.out.prog w1 _ g v HT1.out).mono ?_); rintro e w2 ⟨u, ev, rfl, hs, hE, ht, hcg⟩; have HS2 := Lib.hid hs; have HE2 := Lib.hid hE; have HT2 := Lib.hid ht; have HK2 := Lib.hid ((hcg.block _ (blk_lt HK1.out) (fun q => by have := HG.out; omega)).trans HK1.out); obtain ⟨m0, m1, m2, m3, m4, -⟩ := cells_5 HK2.out; have HB2 := Lib.hid (hcg.below HB1.out (fun k q => by have := HG.out; omega)); obtain ⟨Au, cu, rfl, -, -⟩ := Kd.R_reads hs; clear hs hE ht hcg))
    | (go_at_call 28; go_loud ((with_reducible refine (HDOC.out w2 (Kd.C_below HR.out HB2.out)).mono ?_); rintro e w3 ⟨Ar, cr, rfl, hcr, hs, hb⟩; have HS3 := Lib.hid hs; have HCR := Lib.hid hcr; have HP3 := Lib.hid (Kd.R_below HS2.out hb); have HE3 := Lib.hid (HE2.out.below hb); have HT3 := Lib.hid (HT2.out.below hb); have HB3 := Lib.hid (below_step HB2.out hb); clear hs hb hcr)))
  have HL4 := Lib.hid (late w3 A l.length c a')
  obtain ⟨y0, y1, -, -⟩ := cells_2 HL4.out.k9
  go_region_held3 (fun W => W.cell? ⟨w3.heap.size, 1, none⟩ = some (.int .i64 (a' : Int))) (go_keep)
    ((first
      | (go_at_call 25; go_loud ((with_reducible refine (shares_ok Au cu Ar cr XS _ (Kd.C_below (SR.C2 HP3.out).1 HL4.out.drew.bel) (SR.C2 HP3.out).2 (Kd.C_below HS3.out HL4.out.drew.bel) HCR.out HA.out.len).mono ?_); rintro e w5 ⟨rfl, hb⟩; have HL5 := Lib.hid (HL4.out.drew.below hb); obtain ⟨y5, y6, -, -⟩ := cells_2 HL5.out.k9; clear hb))
      | (go_at_call 18; go_loud ((with_reducible refine (code_any ev E w5 (HE3.out.below HL5.out.bel) (HD.out.below (below_step HB3.out HL5.out.bel) HD.out.lt)).mono ?_); rintro e w6 ⟨rfl, hb⟩; have HL6 := Lib.hid (HL5.out.below hb); obtain ⟨y7, y8, -, -⟩ := cells_2 HL6.out.k9; clear hb))
      | (go_at_call 14; go_loud ((with_reducible refine (at_ok w6 _ g v l a' (HT3.out.below HL6.out.bel)).mono ?_); rintro e w7 ⟨rfl, rfl⟩))
      | (go_at_call 29; go_loud ((with_reducible refine (HAW.out w6).mono ?_); rintro e w8 ⟨rfl, hb⟩; have HL8 := Lib.hid (HL6.out.below hb); obtain ⟨y9, y10, -, -⟩ := cells_2 HL8.out.k9; clear hb))))
  go_wp2
  go_ret
  exact ⟨rfl, below_step HB3.out HL8.out.bel⟩
end Go.Proofs.YtdgngpcfikgoeaaDoor.P
