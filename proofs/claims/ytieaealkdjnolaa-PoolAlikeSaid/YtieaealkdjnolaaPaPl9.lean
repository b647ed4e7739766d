/- The pool: Put. -/
import Derived.Test.YtieaealkdjnolaaPaK3
import Derived.Test.YtieaealkdjnolaaPaPl8
namespace Go.Proofs.Ytieaealkdjnolaa.P
open Go.RowKit Go.Maps Go.Proofs.YtieaealkdjnolaaW.PrintWords Go.Proofs.YtieaealkdjnolaaW.PrintLast Go.Proofs.YtieaealkdjnolaaW.PrintMore
set_option linter.unusedVariables false
set_option linter.unusedSimpArgs false
attribute [local go_sem ↓] Go.wp_at_zero Go.wp_at_succ
theorem wfI {n : Int} (h1 : -9223372036854775808 ≤ n) (h2 : n ≤ 9223372036854775807) : (Lit.int .i64 n).wf = true := by
  have e1 : IntKind.i64.min = -9223372036854775808 := by decide
  have e2 : IntKind.i64.max = 9223372036854775807 := by decide
  simp only [Lit.wf, e1, e2, Bool.and_eq_true, decide_eq_true_eq]
  exact ⟨h1, h2⟩
/-- shares that may be put -/
structure Puttable (K : Nat) (c : S26) (l : List S32) : Prop where
  fit : ∀ i : Nat, i < l.length → shape_Fits.f K c.f0 c.f1 c.f2 c.f3 c.f4 (rd_T32 l (i : Int)).f0 (rd_T32 l (i : Int)).f1 (rd_T32 l (i : Int)).f2 = some true
  short : ∀ i : Nat, i < l.length → (rd_T32 l (i : Int)).f0.length * 8 ≤ 140737488355328 ∧ (rd_T32 l (i : Int)).f1.length * 8 ≤ 140737488355328 ∧ (rd_T32 l (i : Int)).f2.length * 8 ≤ 140737488355328
  few : l.length ≤ 64
/-- the bin and the box behind a step -/
theorem bin_cells {W : World} {p mb k : Nat} {c : S26} {total mark next : Int} {x y z : Value} (hp : W.heap[p]? = some (.cells (bC c mb total mark next) 71 (0, 0))) (hk : W.heap[k]? = some (.cells #[x, y, z] 32 (0, 0))) : W.cell? ⟨p, 5, none⟩ = some (.int .i64 total) ∧ W.cell? ⟨p, 6, none⟩ = some (.map (some mb)) ∧ W.cell? ⟨k, 0, none⟩ = some x ∧ W.cell? ⟨k, 1, none⟩ = some y ∧ W.cell? ⟨k, 2, none⟩ = some z := by
  obtain ⟨-, -, -, -, -, b5, b6, -⟩ := cells_9 hp
  obtain ⟨a0, a1, a2, -⟩ := cells_3 hk
  exact ⟨b5, b6, a0, a1, a2⟩
theorem chg_new {w w5 wr : World} {g p mb : Nat} {w4 : World} (h : Chg (fun k => k = g) w w5) (k : Chg (fun k => k = p ∨ k = mb) w5 wr) (hp : w4.heap.size ≤ p) (hm : w4.heap.size ≤ mb) (hs : w.heap.size ≤ w4.heap.size) : Chg (fun k => k = g) w wr :=
  ⟨k.os.trans h.os, k.tape.trans h.tape, k.output.trans h.output, Nat.le_trans h.size k.size, fun i hi hs' => (k.block i (Nat.lt_of_lt_of_le hi h.size) (fun e => by rcases e with e | e <;> omega)).trans (h.block i hi hs')⟩
set_option maxRecDepth 100000 in
set_option maxHeartbeats 4000000 in
theorem put_some {w0 w : World} {g : Nat} {c : S26} {b : Bn} (h : BinAt w0 w g c b) (A : Option Addr) (cl : Nat) (l : List S32) (hC : ∀ W, Chg (fun k => k = g ∨ k = b.p ∨ k = b.mb) w W → Kd.C k32 W A l.length l) (hcl : l.length ≤ cl) (hz : chkC c = 0) (K : Nat) (hf : Puttable K c l) (hs : Maps.size b.D + l.length ≤ 64) (ht : b.total + l.length ≤ 100000 ∧ b.n + l.length ≤ 100000) (hw : w0.heap.size ≤ w.heap.size) :
    Calls Try.prog 8 #[.pointer (some ⟨g, 0, none⟩), .agg (cC c), .slice A l.length cl] w fun e w' => ∃ b', e = .returned (.tuple #[.int .i64 b.total, .int .i64 0]) ∧ Puts w0 w w' g c b b' l l.length := by
  have HB0 := Lib.hid (below_alloc (Below.refl w.heap.size w) (.cells (cC c) 26))
  have HC0 := Lib.hid (heap_alloc_new w (.cells (cC c) 26))
  obtain ⟨a0, a1, a2, a3, a4⟩ := cls_new w c
  have HA := Lib.hid h
  have HZ := Lib.hid hz
  have HF := Lib.hid hf
  have HS := Lib.hid hC
  have HCL := Lib.hid hcl
  have HW := Lib.hid hw
  have hfew := hf.few
  have hbd := h.bd
  have HT := Lib.hid ht
  have hw1 : IntKind.i64.wrap (64 - (Maps.size b.D : Int)) = 64 - (Maps.size b.D : Int) := by rw [IntKind.wrap_i64]; omega
  have hw2 : IntKind.i64.wrap (1099511627776 - (l.length : Int)) = 1099511627776 - (l.length : Int) := by rw [IntKind.wrap_i64]; omega
  have hq1 : ¬ 64 - (Maps.size b.D : Int) < (l.length : Int) := by omega
  have hq2 : ¬ 1099511627776 - (l.length : Int) < b.total := by omega
  have hsz := hs
  clear hbd ht hs
  clear h hz hf hC hcl hw
  obtain ⟨r, cap, p, mb, n, D, V, X, total, mark, next⟩ := b
  simp only at hw1 hw2 hq1 hq2 hsz
  clear hsz
  go_enter Try.func8, Try.ntmps8
  go_wp2_with (go_at_call 21; go_loud (refine (pready_ok (w0 := w0) (c := c) (o := some ⟨r, cap, p, mb, n, D, V, X, total, mark, next⟩) (BinAt.below HA.out HB0.out)).mono ?_); rintro e w1 ⟨rfl, hb⟩; rw [HZ.out]; have HB1 := Lib.hid (below_step HB0.out hb); have HC1 := Lib.hid (blk_below HC0.out hb); clear hb a0 a1 a2 a3 a4)
  go_loopw [24] (fun s wr => ∃ i : Nat, i ≤ l.length ∧ s = .int .i64 (i : Int) ∧ Go.RowKit.Hid (Below w.heap.size w wr) ∧ Go.RowKit.Hid (wr.heap[w.heap.size]? = some (.cells (cC c) 26 (0, 0)))) (fun s _ => l.length - (intOf s).toNat)
  case atStart => exact ⟨0, by omega, rfl, HB1, HC1⟩
  case round =>
    obtain ⟨i, hi, rfl, HB2, HC2⟩ := hrel
    by_cases hin : i < l.length
    · have c1 : (i : Int) < (l.length : Int) := by omega
      obtain ⟨ad, A0, c0, A1, cc1, A2, c2, rfl, e0, e1, e2, l0, g0, l1, g1, l2, g2⟩ := at_T32 (HS.out wr (Chg.of_below HB2.out _)) (i : Int) (by omega) (by omega)
      simp only [Int.toNat_natCast] at e0 e1 e2
      have HFT := Lib.hid (HF.out.fit i hin)
      generalize rd_T32 l (i : Int) = x at *
      have G0 := Lib.hid g0
      have G1 := Lib.hid g1
      have G2 := Lib.hid g2
      have L0 := Lib.hid l0
      have L1 := Lib.hid l1
      have L2 := Lib.hid l2
      clear g0 g1 g2 l0 l1 l2
      have HN2 := Lib.hid (below_alloc (Below.refl wr.heap.size wr) (.cells #[.slice A0 x.f0.length c0, .slice A1 x.f1.length cc1, .slice A2 x.f2.length c2] 32))
      obtain ⟨a0, a1, a2, a3, a4, -⟩ := cells_5 (blk_below HC2.out HN2.out)
      go_wp2_with (go_at_call 22; go_loud (refine (shape_Fits.calls K c.f0 c.f1 c.f2 c.f3 c.f4 A0 c0 x.f0 A1 cc1 x.f1 A2 c2 x.f2 true _ (Kd.C_below G0.out HN2.out) L0.out (Kd.C_below G1.out HN2.out) L1.out (Kd.C_below G2.out HN2.out) L2.out HFT.out).mono ?_); rintro e w3 ⟨rfl, hb⟩; have HB3 := Lib.hid (below_step (below_step HB2.out HN2.out) hb); have HC3 := Lib.hid (blk_below (blk_below HC2.out HN2.out) hb); clear hb)
      go_roundw
      case rel => exact ⟨i + 1, by omega, by go_num, HB3, HC3⟩
      case measure => simp [intOf]; omega
    · have c1 : ¬ (i : Int) < (l.length : Int) := by omega
      obtain ⟨a0, a1, a2, a3, a4, -⟩ := cells_5 HC2.out
      have HFN := Lib.hid (find_one (BinAt.below HA.out HB2.out))
      go_wp2_with (first
        | (go_at_call 23; go_loud (refine HFN.out.mono ?_); rintro e w4 ⟨rfl, hb⟩; have HB4 := Lib.hid (below_step HB2.out hb); have HC4 := Lib.hid (blk_below HC2.out hb); have hlen := (BinAt.below HA.out HB4.out).own.len Try.underlying69 3; obtain ⟨b0, b1, b2, b3, b4, b5, b6, -⟩ := cells_9 (BinAt.below HA.out HB4.out).blk; obtain ⟨d0, d1, d2, d3, d4, -⟩ := cells_5 HC4.out; simp only at hlen; clear hb a0 a1 a2 a3 a4)
        | (go_at_call 24; go_loud (refine (open_there (BinAt.below HA.out HB4.out)).mono ?_); rintro e w5 ⟨rfl, hb⟩; have HB5 := Lib.hid (below_step HB4.out hb); clear b0 b1 b2 b3 b4 b5 b6 d0 d1 d2 d3 d4 hlen; obtain ⟨b0, b1, b2, b3, b4, b5, b6, -⟩ := cells_9 (BinAt.below HA.out HB5.out).blk; clear hb))
      have HPB := Lib.hid (Puts.below (Puts.begin (l := l) HA.out) HB5.out)
      clear b0 b1 b2 b3 b4 b5 b6 hw1 hw2 hq1 hq2 c1
      go_loopw [86] (fun s wr => ∃ (j : Nat) (b' : Bn), j ≤ l.length ∧ s = .int .i64 (j : Int) ∧ Go.RowKit.Hid (Puts w0 w wr g c ⟨r, cap, p, mb, n, D, V, X, total, mark, next⟩ b' l j)) (fun s _ => l.length - (intOf s).toNat)
      case atStart => exact ⟨0, _, by omega, rfl, HPB⟩
      case round =>
        obtain ⟨j, ⟨r', cap', p', mb', n', D', V', X', total', mark', next'⟩, hj, rfl, HP⟩ := hrel
        obtain ⟨e1, e2, e3, e4, e5, e6, e7, e8, e9⟩ := HP.out.eqs
        replace e1 := e1.symm
        replace e2 := e2.symm
        replace e3 := e3.symm
        replace e4 := e4.symm
        simp only at e1 e2 e3 e4 e5 e6 e7 e8 e9
        subst e1 e2 e3 e4
        have hbd : 0 ≤ total' ∧ total' ≤ 100000 ∧ 0 ≤ mark' ∧ mark' ≤ 1099511627776 ∧ 0 ≤ next' ∧ next' ≤ total' ∧ n' ≤ 100000 := HP.out.at_.bd
        by_cases hjn : j < l.length
        · have c1 : (j : Int) < (l.length : Int) := by omega
          have hlim : total' + 1 ≤ 100000 ∧ n' + 1 ≤ 100000 := by have ht : total + l.length ≤ 100000 ∧ n + l.length ≤ 100000 := HT.out; omega
          have hwt : IntKind.i64.wrap (total' + 1) = total' + 1 := by rw [IntKind.wrap_i64]; omega
          have HWF := Lib.hid (show (Lit.int .i64 total').wf = true from wfI (by omega) (by omega))
          have HLM := Lib.hid hlim
          have HNL := Lib.hid (show n' < maxLen by unfold maxLen; omega)
          clear hlim hbd e5 e6 e7 e8 e9
          obtain ⟨ad, A0, c0, A1, cc1, A2, c2, hAd, e0, e1, e2, l0, g0, l1, g1, l2, g2⟩ := at_T32 (HS.out wr (HP.out.chg.mono (fun k _ hk => by rcases hk with hk | hk; exact .inr (.inl hk); exact .inr (.inr hk)))) (j : Int) (by omega) (by omega)
          subst hAd
          simp only [Int.toNat_natCast] at e0 e1 e2
          have HSH := Lib.hid (HF.out.short j hjn)
          have HX : Go.RowKit.Hid (∃ x, x = rd_T32 l (j : Int)) := Lib.hid ⟨_, rfl⟩
          obtain ⟨x, hx⟩ := HX.out
          rw [← hx] at e0 e1 e2 l0 g0 l1 g1 l2 g2 HSH
          have HXX := Lib.hid hx
          clear hx HX
          have G0 := Lib.hid g0
          have G1 := Lib.hid g1
          have G2 := Lib.hid g2
          clear g0 g1 g2 l0 l1 l2
          go_wp2
          obtain ⟨W0, hW0⟩ : ∃ W0, W0 = wr.alloc (.cells #[.slice A0 x.f0.length c0, .slice A1 x.f1.length cc1, .slice A2 x.f2.length c2] 32) := ⟨_, rfl⟩
          have HN2 := Lib.hid (show Below wr.heap.size wr W0 by rw [hW0]; exact below_alloc (Below.refl _ _) _)
          have HK2 := Lib.hid (show W0.heap[wr.heap.size]? = some (.cells #[.slice A0 x.f0.length c0, .slice A1 x.f1.length cc1, .slice A2 x.f2.length c2] 32 (0, 0)) by rw [hW0]; exact heap_alloc_new wr _)
          rw [← hW0]
          clear hW0
          obtain ⟨k5, k6, z0, z1, z2⟩ := bin_cells (HP.out.at_.below HN2.out).blk HK2.out
          simp only at k5 k6
          go_region_held3 (fun W => W.cell? ⟨p, 5, none⟩ = some (.int .i64 total') ∧ W.cell? ⟨p, 6, none⟩ = some (.map (some mb)) ∧ W.cell? ⟨wr.heap.size, 0, none⟩ = some (.slice A0 x.f0.length c0) ∧ W.cell? ⟨wr.heap.size, 1, none⟩ = some (.slice A1 x.f1.length cc1) ∧ W.cell? ⟨wr.heap.size, 2, none⟩ = some (.slice A2 x.f2.length c2))
            ((first | exact ⟨k5, k6, z0, z1, z2⟩ | exact HQ2.out | exact HQ3.out))
            ((go_at_call 25; go_loud (refine (copy_ok A0 A1 A2 c0 cc1 c2 x _ (Kd.C_below G0.out (below_drew1 HN2.out)) (Kd.C_below G1.out (below_drew1 HN2.out)) (Kd.C_below G2.out (below_drew1 HN2.out)) HSH.out.1 HSH.out.2.1 HSH.out.2.2).mono ?_; rintro e wC ⟨v0, v1, v2, rfl, q0, q1, q2, hb⟩; have HR := Lib.hid (And.intro q0 (And.intro q1 q2)); have HBC := Lib.hid (below_step (below_drew1 HN2.out) hb); have HQ2 := Lib.hid (bin_cells (HP.out.at_.below HBC.out).blk (blk_below (blk_drew HK2.out) hb)); obtain ⟨w2, hrun, hown2, hgrow2⟩ := (HP.out.at_.below HBC.out).own.update lawI Try.underlying69 HNL.out (keyOf_int_mk Try.underlying3 HWF.out) (show RV (.agg #[v0, v1, v2]) = some (.held (.agg #[v0, v1, v2]), []) from rfl); have HO2 := Lib.hid hown2; have HG2 := Lib.hid hgrow2; have HPK := Lib.hid (blk_grown (HP.out.at_.below HBC.out).blk hgrow2 (fun e => own_neV (HP.out.at_.below HBC.out).own (HP.out.at_.below HBC.out).blk (by injection e))); have HQ3 := Lib.hid (bin_cells HPK.out (blk_grown (blk_below (blk_drew HK2.out) hb) hgrow2 (fun e => own_neV (HP.out.at_.below HBC.out).own (blk_below (blk_drew HK2.out) hb) (by injection e)))); clear hown2 hgrow2 q0 q1 q2 hb)))
          obtain ⟨m5, -⟩ := HQ3.out
          have hfr := blk_frozen HPK.out 5
          clear k5 k6 z0 z1 z2 e0 e1 e2 hrun
          have HST := Lib.hid (Puts.step (v0 := v0) (v1 := v1) (v2 := v2) HP.out HBC.out (HW.out) (Nat.le_trans HP.out.chg.size HN2.out.size) (by rw [← HXX.out]; exact HR.out.1) (by rw [← HXX.out]; exact HR.out.2.1) (by rw [← HXX.out]; exact HR.out.2.2) HO2.out HG2.out HLM.out)
          go_wp2
          go_roundw
          case rel => exact ⟨j + 1, _, by omega, by go_num, HST⟩
          case measure => simp [intOf]; omega
        · have c1 : ¬ (j : Int) < (l.length : Int) := by omega
          obtain rfl : j = l.length := by omega
          clear hbd e5 e6 e7 e8 e9
          go_wp2
          go_ret2
          refine ⟨?_, ⟨r, cap, p, mb, n', D', V', X', total', mark', next'⟩, HP.out⟩
          rfl
set_option maxRecDepth 100000 in
set_option maxHeartbeats 4000000 in
theorem put_none {w0 w : World} {g : Nat} {c : S26} (h : PoolAt w0 w g c none) (A : Option Addr) (cl : Nat) (l : List S32) (hC : ∀ W, Chg (fun k => k = g) w W → Kd.C k32 W A l.length l) (hcl : l.length ≤ cl) (hz : chkC c = 0) (K : Nat) (hf : Puttable K c l) (hw : w0.heap.size ≤ w.heap.size) (X : Int → S32) :
    Calls Try.prog 8 #[.pointer (some ⟨g, 0, none⟩), .agg (cC c), .slice A l.length cl] w fun e w' => ∃ b' wO r cap p mb, e = .returned (.tuple #[.int .i64 0, .int .i64 0]) ∧ w.heap.size ≤ r ∧ w.heap.size ≤ p ∧ w.heap.size ≤ mb ∧ Chg (fun k => k = g) w wO ∧ Puts w0 wO w' g c (Bn.new r cap p mb X) b' l l.length := by
  have HB0 := Lib.hid (below_alloc (Below.refl w.heap.size w) (.cells (cC c) 26))
  have HC0 := Lib.hid (heap_alloc_new w (.cells (cC c) 26))
  obtain ⟨a0, a1, a2, a3, a4⟩ := cls_new w c
  have HA := Lib.hid h
  have HZ := Lib.hid hz
  have HF := Lib.hid hf
  have HS := Lib.hid hC
  have HCL := Lib.hid hcl
  have HW := Lib.hid hw
  have hfew := hf.few
  have hq1 : ¬ (64 : Int) < (l.length : Int) := by omega
  clear h hz hf hC hcl hw
  skip
  go_enter Try.func8, Try.ntmps8
  go_wp2_with (go_at_call 21; go_loud (refine (pready_ok (w0 := w0) (c := c) (o := none) (PoolAt.below HA.out HB0.out)).mono ?_); rintro e w1 ⟨rfl, hb⟩; rw [HZ.out]; have HB1 := Lib.hid (below_step HB0.out hb); have HC1 := Lib.hid (blk_below HC0.out hb); clear hb a0 a1 a2 a3 a4)
  go_loopw [24] (fun s wr => ∃ i : Nat, i ≤ l.length ∧ s = .int .i64 (i : Int) ∧ Go.RowKit.Hid (Below w.heap.size w wr) ∧ Go.RowKit.Hid (wr.heap[w.heap.size]? = some (.cells (cC c) 26 (0, 0)))) (fun s _ => l.length - (intOf s).toNat)
  case atStart => exact ⟨0, by omega, rfl, HB1, HC1⟩
  case round =>
    obtain ⟨i, hi, rfl, HB2, HC2⟩ := hrel
    by_cases hin : i < l.length
    · have c1 : (i : Int) < (l.length : Int) := by omega
      obtain ⟨ad, A0, c0, A1, cc1, A2, c2, rfl, e0, e1, e2, l0, g0, l1, g1, l2, g2⟩ := at_T32 (HS.out wr (Chg.of_below HB2.out _)) (i : Int) (by omega) (by omega)
      simp only [Int.toNat_natCast] at e0 e1 e2
      have HFT := Lib.hid (HF.out.fit i hin)
      generalize rd_T32 l (i : Int) = x at *
      have G0 := Lib.hid g0
      have G1 := Lib.hid g1
      have G2 := Lib.hid g2
      have L0 := Lib.hid l0
      have L1 := Lib.hid l1
      have L2 := Lib.hid l2
      clear g0 g1 g2 l0 l1 l2
      have HN2 := Lib.hid (below_alloc (Below.refl wr.heap.size wr) (.cells #[.slice A0 x.f0.length c0, .slice A1 x.f1.length cc1, .slice A2 x.f2.length c2] 32))
      obtain ⟨a0, a1, a2, a3, a4, -⟩ := cells_5 (blk_below HC2.out HN2.out)
      go_wp2_with (go_at_call 22; go_loud (refine (shape_Fits.calls K c.f0 c.f1 c.f2 c.f3 c.f4 A0 c0 x.f0 A1 cc1 x.f1 A2 c2 x.f2 true _ (Kd.C_below G0.out HN2.out) L0.out (Kd.C_below G1.out HN2.out) L1.out (Kd.C_below G2.out HN2.out) L2.out HFT.out).mono ?_); rintro e w3 ⟨rfl, hb⟩; have HB3 := Lib.hid (below_step (below_step HB2.out HN2.out) hb); have HC3 := Lib.hid (blk_below (blk_below HC2.out HN2.out) hb); clear hb)
      go_roundw
      case rel => exact ⟨i + 1, by omega, by go_num, HB3, HC3⟩
      case measure => simp [intOf]; omega
    · have c1 : ¬ (i : Int) < (l.length : Int) := by omega
      obtain ⟨a0, a1, a2, a3, a4, -⟩ := cells_5 HC2.out
      have HFN := Lib.hid (find_empty g c _ _ (PoolAt.below HA.out HB2.out).1)
      go_wp2_with (first
        | (go_at_call 23; go_loud (refine HFN.out.mono ?_); rintro e w4 ⟨rfl, hb⟩; have HB4 := Lib.hid (below_step HB2.out hb); have HC4 := Lib.hid (blk_below HC2.out hb); obtain ⟨d0, d1, d2, d3, d4, -⟩ := cells_5 HC4.out; clear hb a0 a1 a2 a3 a4)
        | (go_at_call 24; go_loud (refine (open_new (PoolAt.below HA.out HB4.out) X (Nat.le_trans HW.out HB4.out.size)).mono ?_); rintro e w5 ⟨r, cap, p, mb, rfl, hr, hp, hm, hb5, hc5⟩; have HN5 := Lib.hid (And.intro hr (And.intro hp (And.intro hm hb5))); have HG5 := Lib.hid ((Chg.of_below HB4.out (fun k => k = g)).trans hc5); clear d0 d1 d2 d3 d4; obtain ⟨b0, b1, b2, b3, b4, b5, b6, -⟩ := cells_9 hb5.blk; clear hr hp hm hb5 hc5))
      have HPB := Lib.hid (Puts.begin (l := l) HN5.out.2.2.2)
      clear b0 b1 b2 b3 b4 b5 b6 hq1 c1
      go_loopw [86] (fun s wr => ∃ (j : Nat) (b' : Bn), j ≤ l.length ∧ s = .int .i64 (j : Int) ∧ Go.RowKit.Hid (Puts w0 w5 wr g c (Bn.new r cap p mb X) b' l j)) (fun s _ => l.length - (intOf s).toNat)
      case atStart => exact ⟨0, _, by omega, rfl, HPB⟩
      case round =>
        obtain ⟨j, ⟨r', cap', p', mb', n', D', V', X', total', mark', next'⟩, hj, rfl, HP⟩ := hrel
        obtain ⟨e1, e2, e3, e4, e5, e6, e7, e8, e9⟩ := HP.out.eqs
        replace e1 := e1.symm
        replace e2 := e2.symm
        replace e3 := e3.symm
        replace e4 := e4.symm
        simp only at e1 e2 e3 e4 e5 e6 e7 e8 e9
        subst e1 e2 e3 e4
        have hbd : 0 ≤ total' ∧ total' ≤ 100000 ∧ 0 ≤ mark' ∧ mark' ≤ 1099511627776 ∧ 0 ≤ next' ∧ next' ≤ total' ∧ n' ≤ 100000 := HP.out.at_.bd
        by_cases hjn : j < l.length
        · have c1 : (j : Int) < (l.length : Int) := by omega
          have hlim : total' + 1 ≤ 100000 ∧ n' + 1 ≤ 100000 := by skip; omega
          have hwt : IntKind.i64.wrap (total' + 1) = total' + 1 := by rw [IntKind.wrap_i64]; omega
          have HWF := Lib.hid (show (Lit.int .i64 total').wf = true from wfI (by omega) (by omega))
          have HLM := Lib.hid hlim
          have HNL := Lib.hid (show n' < maxLen by unfold maxLen; omega)
          clear hlim hbd e5 e6 e7 e8 e9
          obtain ⟨ad, A0, c0, A1, cc1, A2, c2, hAd, e0, e1, e2, l0, g0, l1, g1, l2, g2⟩ := at_T32 (HS.out wr (chg_new HG5.out HP.out.chg HN5.out.2.1 HN5.out.2.2.1 HB4.out.size)) (j : Int) (by omega) (by omega)
          subst hAd
          simp only [Int.toNat_natCast] at e0 e1 e2
          have HSH := Lib.hid (HF.out.short j hjn)
          have HX : Go.RowKit.Hid (∃ x, x = rd_T32 l (j : Int)) := Lib.hid ⟨_, rfl⟩
          obtain ⟨x, hx⟩ := HX.out
          rw [← hx] at e0 e1 e2 l0 g0 l1 g1 l2 g2 HSH
          have HXX := Lib.hid hx
          clear hx HX
          have G0 := Lib.hid g0
          have G1 := Lib.hid g1
          have G2 := Lib.hid g2
          clear g0 g1 g2 l0 l1 l2
          go_wp2
          obtain ⟨W0, hW0⟩ : ∃ W0, W0 = wr.alloc (.cells #[.slice A0 x.f0.length c0, .slice A1 x.f1.length cc1, .slice A2 x.f2.length c2] 32) := ⟨_, rfl⟩
          have HN2 := Lib.hid (show Below wr.heap.size wr W0 by rw [hW0]; exact below_alloc (Below.refl _ _) _)
          have HK2 := Lib.hid (show W0.heap[wr.heap.size]? = some (.cells #[.slice A0 x.f0.length c0, .slice A1 x.f1.length cc1, .slice A2 x.f2.length c2] 32 (0, 0)) by rw [hW0]; exact heap_alloc_new wr _)
          rw [← hW0]
          clear hW0
          obtain ⟨k5, k6, z0, z1, z2⟩ := bin_cells (HP.out.at_.below HN2.out).blk HK2.out
          simp only at k5 k6
          go_region_held3 (fun W => W.cell? ⟨p, 5, none⟩ = some (.int .i64 total') ∧ W.cell? ⟨p, 6, none⟩ = some (.map (some mb)) ∧ W.cell? ⟨wr.heap.size, 0, none⟩ = some (.slice A0 x.f0.length c0) ∧ W.cell? ⟨wr.heap.size, 1, none⟩ = some (.slice A1 x.f1.length cc1) ∧ W.cell? ⟨wr.heap.size, 2, none⟩ = some (.slice A2 x.f2.length c2))
            ((first | exact ⟨k5, k6, z0, z1, z2⟩ | exact HQ2.out | exact HQ3.out))
            ((go_at_call 25; go_loud (refine (copy_ok A0 A1 A2 c0 cc1 c2 x _ (Kd.C_below G0.out (below_drew1 HN2.out)) (Kd.C_below G1.out (below_drew1 HN2.out)) (Kd.C_below G2.out (below_drew1 HN2.out)) HSH.out.1 HSH.out.2.1 HSH.out.2.2).mono ?_; rintro e wC ⟨v0, v1, v2, rfl, q0, q1, q2, hb⟩; have HR := Lib.hid (And.intro q0 (And.intro q1 q2)); have HBC := Lib.hid (below_step (below_drew1 HN2.out) hb); have HQ2 := Lib.hid (bin_cells (HP.out.at_.below HBC.out).blk (blk_below (blk_drew HK2.out) hb)); obtain ⟨w2, hrun, hown2, hgrow2⟩ := (HP.out.at_.below HBC.out).own.update lawI Try.underlying69 HNL.out (keyOf_int_mk Try.underlying3 HWF.out) (show RV (.agg #[v0, v1, v2]) = some (.held (.agg #[v0, v1, v2]), []) from rfl); have HO2 := Lib.hid hown2; have HG2 := Lib.hid hgrow2; have HPK := Lib.hid (blk_grown (HP.out.at_.below HBC.out).blk hgrow2 (fun e => own_neV (HP.out.at_.below HBC.out).own (HP.out.at_.below HBC.out).blk (by injection e))); have HQ3 := Lib.hid (bin_cells HPK.out (blk_grown (blk_below (blk_drew HK2.out) hb) hgrow2 (fun e => own_neV (HP.out.at_.below HBC.out).own (blk_below (blk_drew HK2.out) hb) (by injection e)))); clear hown2 hgrow2 q0 q1 q2 hb)))
          obtain ⟨m5, -⟩ := HQ3.out
          have hfr := blk_frozen HPK.out 5
          clear k5 k6 z0 z1 z2 e0 e1 e2 hrun
          have HST := Lib.hid (Puts.step (v0 := v0) (v1 := v1) (v2 := v2) HP.out HBC.out (Nat.le_trans HW.out HG5.out.size) (Nat.le_trans HP.out.chg.size HN2.out.size) (by rw [← HXX.out]; exact HR.out.1) (by rw [← HXX.out]; exact HR.out.2.1) (by rw [← HXX.out]; exact HR.out.2.2) HO2.out HG2.out HLM.out)
          go_wp2
          go_roundw
          case rel => exact ⟨j + 1, _, by omega, by go_num, HST⟩
          case measure => simp [intOf]; omega
        · have c1 : ¬ (j : Int) < (l.length : Int) := by omega
          obtain rfl : j = l.length := by omega
          clear hbd e5 e6 e7 e8 e9
          go_wp2
          go_ret2
          skip
          have hs4 := HB4.out.size
          have hn5 := HN5.out
          exact ⟨rfl, ⟨r, cap, p, mb, n', D', V', X', total', mark', next'⟩, w5, r, by omega, cap, p, by omega, mb, by omega, HG5.out, HP.out⟩
end Go.Proofs.Ytieaealkdjnolaa.P
