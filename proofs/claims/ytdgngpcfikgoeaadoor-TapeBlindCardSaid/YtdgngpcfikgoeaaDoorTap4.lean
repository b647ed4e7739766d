/- TapeOnce: what is read in several calls is what one call reads. -/
import Derived.Test.YtdgngpcfikgoeaaDoorTap3
namespace Go.Proofs.YtdgngpcfikgoeaaDoor.P
open Go.RowKit Go.Extern.Stop Go.Stop Go.Extern Go.Proofs.YtdgngpcfikgoeaaDoorW.PrintWords Go.Proofs.YtdgngpcfikgoeaaDoorW.PrintLast Go.Proofs.YtdgngpcfikgoeaaDoorW.PrintMore
set_option linter.unusedVariables false
set_option linter.unusedSimpArgs false
attribute [local go_sem ↓] Go.wp_at_zero Go.wp_at_succ

theorem eu8 {x : Int} (h : (Lit.int .u8 x).wf = true) : 0 ≤ x ∧ x ≤ 255 := by
  simp only [Lit.wf, Bool.and_eq_true, decide_eq_true_eq] at h
  have h1 : IntKind.u8.min = 0 := rfl
  have h2 : IntKind.u8.max = 255 := rfl
  omega
/-- two tapes of one list, the one read up to a; and a row of what was read -/
structure Once (w wr : World) (g1 g2 : Nat) (v1 v2 va : Value) (l : List Int) (a : Nat) : Prop where
  t1 : TAt wr w.heap.size g1 v1 l a
  t2 : TAt wr w.heap.size g2 v2 l 0
  ra : RU w.heap.size wr va (l.take a)
  ne1 : ∀ k, va.ownBlock = some k → v1.ownBlock ≠ some k
  ne2 : ∀ k, va.ownBlock = some k → v2.ownBlock ≠ some k
  n12 : g1 ≠ g2
  bel : Below w.heap.size w wr
theorem Once.below {w wr w1 : World} {g1 g2 : Nat} {v1 v2 va : Value} {l : List Int} {a : Nat} (h : Once w wr g1 g2 v1 v2 va l a) (hb : Below wr.heap.size wr w1) : Once w w1 g1 g2 v1 v2 va l a :=
  ⟨h.t1.below hb, h.t2.below hb, Kd.R_below h.ra hb, h.ne1, h.ne2, h.n12, below_step h.bel hb⟩
/-- the first tape is read on -/
theorem Once.read {w wr w1 : World} {g1 g2 : Nat} {v1 v2 va : Value} {l : List Int} {a b : Nat} (h : Once w wr g1 g2 v1 v2 va l a) (ht : TAt w1 w.heap.size g1 v1 l b) (hc : Chg (fun k => k = g1) wr w1) :
    TAt w1 w.heap.size g2 v2 l 0 ∧ RU w.heap.size w1 va (l.take a) ∧ Below w.heap.size w w1 :=
  ⟨h.t2.chg hc (fun e => h.n12 e.symm) (fun k hk e => h.t2.row.ne h.t1.blk (by decide) (by rw [hk, e])), h.ra.chg hc (fun k hk e => h.ra.ne h.t1.blk (by decide) (by rw [hk, e])), hc.below h.bel (fun k e => by rw [e]; exact h.t1.ge)⟩
/-- the row grows -/
theorem Once.grow {w wr w1 : World} {g1 g2 : Nat} {v1 v2 va vb : Value} {l : List Int} {a b : Nat} (h1 : TAt wr w.heap.size g1 v1 l b) (h2 : TAt wr w.heap.size g2 v2 l 0) (n12 : g1 ≠ g2) (ra : RU w.heap.size wr va (l.take a)) (ne1 : ∀ k, va.ownBlock = some k → v1.ownBlock ≠ some k) (ne2 : ∀ k, va.ownBlock = some k → v2.ownBlock ≠ some k) (hb : Below w.heap.size w w1) (hr : RU w.heap.size w1 vb (l.take b)) (hg : wr.grownBy w1 va.ownBlock)
    (hat : vb.ownBlock = va.ownBlock ∨ ∃ k, vb.ownBlock = some k ∧ wr.heap.size ≤ k) : Once w w1 g1 g2 v1 v2 vb l b := by
  have hc : Chg (fun k => va.ownBlock = some k) wr w1 := (Chg.refl _ wr).grown hg (fun k e => .inl e)
  have far : ∀ (v : Value) (B : Nat), RU B wr v l → (∀ k, va.ownBlock = some k → v.ownBlock ≠ some k) → ∀ k, vb.ownBlock = some k → v.ownBlock ≠ some k := by
    intro v B hv hne k hk e
    rcases hat with q | ⟨k', q, hk'⟩
    · exact hne k (by rw [← q]; exact hk) e
    · have : k' = k := by rw [hk] at q; injection q with q; exact q.symm
      have := hv.lt k e
      omega
  exact ⟨h1.chg hc (fun e => ra.ne h1.blk (by decide) e) (fun k hk e => ne1 k e hk), h2.chg hc (fun e => ra.ne h2.blk (by decide) e) (fun k hk e => ne2 k e hk), hr, far v1 _ h1.row ne1, far v2 _ h2.row ne2, n12, hb⟩
theorem Once.nil {w w1 w2 : World} {g1 g2 : Nat} {v1 v2 : Value} {l : List Int} (h1 : TAt w1 w.heap.size g1 v1 l 0) (hb1 : Below w.heap.size w w1) (h2 : TAt w2 w1.heap.size g2 v2 l 0) (hb2 : Below w1.heap.size w1 w2) : Once w w2 g1 g2 v1 v2 (.slice none 0 0) l 0 :=
  ⟨h1.below hb2, ⟨h2.blk, Nat.le_trans hb1.size h2.ge, Kd.R_lower h2.row hb1.size, h2.le, h2.len⟩, by rw [List.take_zero]; exact Kd.R_nil _ _ _ _ _, fun k hk => by simp [Value.ownBlock] at hk, fun k hk => by simp [Value.ownBlock] at hk, fun e => by have := h2.ge; have := blk_lt h1.blk; omega, below_step hb1 hb2⟩

theorem rem20 (x : Int) (h0 : 0 ≤ x) (h1 : x ≤ 255) : ∃ n : Nat, IntKind.u8.wrap (x.tmod 20) = (n : Int) ∧ n < 20 ∧ IntKind.i64.wrap (n : Int) = (n : Int) ∧ wrap64 (x.tmod 20) = (n : Int) ∧ IntKind.i64.wrap (x.tmod 20) = (n : Int) := by
  have h : x.tmod 20 = x % 20 := Int.tmod_eq_emod_of_nonneg h0
  have e : x % 20 = ((x % 20).toNat : Int) := by omega
  have hu : IntKind.u8.wrap (x % 20) = x % 20 := by rw [IntKind.wrap_u8]; omega
  refine ⟨(x % 20).toNat, ?_, by omega, wrap_i64 (by omega) (by omega), ?_, ?_⟩
  · rw [h, hu]; exact e
  · rw [h, ew64 (by omega) (by omega)]; exact e
  · rw [h, wrap_i64 (by omega) (by omega)]; exact e

set_option maxHeartbeats 3200000 in
set_option maxRecDepth 100000 in
theorem tapeOnce_ok (A1 : Option Addr) (c1 : Nat) (l : List Int) (A2 : Option Addr) (c2 : Nat) (P : List Int) (w : World) (hr1 : Kd.C (Kd.int .u64) w A1 l.length l) (hc1 : l.length ≤ c1) (hr2 : Kd.C (Kd.int .u8) w A2 P.length P) (hc2 : P.length ≤ c2) (hP : ∀ x ∈ P, 0 ≤ x ∧ x ≤ 255) (hd : Door w) :
    Calls Tryd.prog 3 #[.slice A1 l.length c1, .slice A2 P.length c2] w fun e w' => e = .returned (.bool true) ∧ Below w.heap.size w w' := by
  have HAW := Lib.hid (fun W (h : Door W) => awake_ok W h)
  have HD := Lib.hid hd
  have HR1 := Lib.hid hr1
  have HR2 := Lib.hid hr2
  by_cases hl : l.length > 500 ∨ P.length > 60
  · have h6 : ((l.length : Int) > 500) ∨ (¬ ((l.length : Int) > 500) ∧ (P.length : Int) > 60) := by omega
    clear hl hr1 hr2 hd
    rcases h6 with h6 | ⟨h6, h7⟩
    all_goals
      go_enter Tryd.func3, Tryd.ntmps3
      go_wp2_with (go_at_call 10; (with_reducible refine (HAW.out _ HD.out).mono ?_); rintro e w2 ⟨rfl, hb⟩; have HB := Lib.hid hb; clear hb)
      go_ret
      exact ⟨rfl, HB.out⟩
  have hl1 : l.length ≤ 500 := by omega
  have hP1 : P.length ≤ 60 := by omega
  have h6 : ¬ ((l.length : Int) > 500) := by omega
  have h7 : ¬ ((P.length : Int) > 60) := by omega
  have HN := Lib.hid (fun W (h : Kd.C (Kd.int .u64) W A1 l.length l) => tnew_ok A1 c1 l W h (by omega))
  have HP := Lib.hid hP
  clear hl hr1 hr2 hd hP
  go_enter Tryd.func3, Tryd.ntmps3
  go_wp2_with (first
    | (go_at_call 11; (with_reducible refine (HN.out w HR1.out).mono ?_); rintro e w1 ⟨g1, v1, rfl, ht, hb⟩; have HT1 := Lib.hid ht; have HB1 := Lib.hid hb; clear ht hb)
    | (go_at_call 11; (with_reducible refine (HN.out w1 (Kd.C_below HR1.out HB1.out)).mono ?_); rintro e w2 ⟨g2, v2, rfl, ht, hb⟩; have HO := Lib.hid (Once.nil HT1.out HB1.out ht hb); clear ht hb))
  go_loopw [9, 10, 11, 12] (fun v9 v10 v11 v12 wr => ∃ i a : Nat, i ≤ P.length ∧ v10 = .int .i64 (i : Int) ∧ Hid (Once w wr g1 g2 v1 v2 v9 l a)) (fun _ v10 _ _ _ => P.length - (intOf v10).toNat)
  case atStart => exact ⟨0, 0, by omega, rfl, HO⟩
  case round =>
    obtain ⟨wo, rfl⟩ : ∃ wo : World, wo = wr := ⟨_, rfl⟩
    obtain ⟨i, a, hi, rfl, HO⟩ := hrel
    have hal := HO.out.t1.le
    have hla : (l.take a).length = a := by rw [List.length_take]; omega
    obtain ⟨A, c, e9, hc9, -⟩ := HO.out.ra.form
    rw [hla] at e9 hc9
    subst e9
    by_cases hlt : i < P.length
    · have hltI : (i : Int) < (P.length : Int) := by omega
      have hi0 : (0 : Int) ≤ (i : Int) := by omega
      obtain ⟨ad, rfl, q0⟩ := Kd.at_int HR2.out (i : Int) hi0 hltI
      rw [Int.toNat_natCast] at q0
      obtain ⟨x, hx⟩ : ∃ x, x = rd P (i : Int) := ⟨_, rfl⟩
      rw [← hx] at q0
      have hx01 := HP.out x (by rw [hx]; unfold rd; rw [Int.toNat_natCast, List.getD_eq_getElem?_getD, List.getElem?_eq_getElem hlt]; exact List.getElem_mem hlt)
      obtain ⟨n, n1, n2, n3, n4, n5⟩ := rem20 x hx01.1 hx01.2
      have hiw : IntKind.i64.wrap ((i : Int) + 1) = (i : Int) + 1 := IntWalk.i64_in _ ⟨by omega, by omega⟩
      have han : IntKind.i64.wrap ((a : Int) + (n : Int)) = (a : Int) + n := wrap_i64 (by omega) (by omega)
      have HQ := Lib.hid (fun W (hb : Below w.heap.size w W) => pw_cell_below hb q0)
      have r0 := HQ.out wo HO.out.bel
      have HLA := Lib.hid hla
      clear hx hx01 q0 hla
      by_cases hf : a + n ≤ l.length
      · have hle : (a : Int) + n ≤ (l.length : Int) := by omega
        have hmid : ((l.take (a + n)).drop a).length = n := by rw [List.length_drop, List.length_take]; omega
        have happ : l.take a ++ (l.take (a + n)).drop a = l.take (a + n) := by rw [List.take_add, List.drop_append, HLA.out]; simp [HLA.out]
        generalize hY : (l.take (a + n)).drop a = Y at hmid happ
        have HY := Lib.hid hY
        have HAP := Lib.hid happ
        have HM := Lib.hid hmid
        have HF := Lib.hid hf
        clear hY happ hmid hf
        go_wp2_with (go_at_call 12; go_loud ((with_reducible refine (take_okI (n : Int) n rfl wo _ g1 v1 l a HO.out.t1 HF.out).mono ?_); rintro e w3 ⟨u, rfl, hu, ht, hc⟩; rw [HY.out] at hu; obtain ⟨t2, ra, b3⟩ := HO.out.read ht hc; have r3 := HQ.out w3 b3; have HT := Lib.hid ht; have HT2 := Lib.hid t2; have HRA := Lib.hid ra; have HB3 := Lib.hid b3; have HU := Lib.hid hu; obtain ⟨Au, cu, eu, -, -⟩ := hu.form; rw [HM.out] at eu; subst eu; clear hu ht hc t2 ra b3))
        go_region_held3 (fun W => W.cell? (ad.add i) = some (.int .u8 x)) (go_keep) (fail)
        have hd3 := below_drew (Below.refl w3.heap.size w3)
        have hCU := RU.C (n := n) (c := cu) (A := Au) HU.out
        rw [HM.out] at hCU
        have HCU := Lib.hid (Kd.C_below hCU.1 hd3)
        have HRD := Lib.hid (Kd.R_below HRA.out hd3)
        have HBD := Lib.hid (below_drew HB3.out)
        have hal2 : ((l.take a).length + n) * 8 ≤ 140737488355328 := by have := HLA.out; omega
        have HT1D := Lib.hid (HT.out.below hd3)
        have HT2D := Lib.hid (HT2.out.below hd3)
        clear hCU hd3
        go_wp2_with (at_builtin; go_loud (refine Kd.R_append_rows (Kd.int .u64) (Rr := (Kd.int .u64).K w3.drew) (w0 := w) w.heap.size rfl (.tmp 72) (.tmp 73) 22 35 (.int .u64 0) 8 rfl Tryd.underlying22 infoU64 rfl (by decide) (by omega) (.slice A a c) (l.take a) Y Au n cu (fun _ => True) (fun _ => False) rfl rfl HRD.out HCU.out (fun _ _ h => h) (fun _ hk => hk.elim) (fun _ _ => trivial) HBD.out HBD.out.size hal2 ?_; intro v9 w4 ho hb hg hat; rw [HAP.out] at ho; have HO4 := Lib.hid (Once.grow HT1D.out HT2D.out HO.out.n12 HRD.out HO.out.ne1 HO.out.ne2 hb ho hg hat); clear ho hb hg hat))
        go_roundw
        case rel => exact ⟨i + 1, a + n, by omega, by go_num, HO4⟩
        case measure => simp [intOf]; omega
      · have hle : ¬ (a : Int) + n ≤ (l.length : Int) := by omega
        have hmid : ([] : List Int).length = 0 := rfl
        have HAP : Hid (l.take a ++ ([] : List Int) = l.take a) := Lib.hid (List.append_nil _)
        have HM := Lib.hid hmid
        have HF := Lib.hid hf
        clear hmid hf
        go_wp2_with (go_at_call 12; go_loud ((with_reducible refine (take_bad (n : Int) (.pointer (some ⟨g1, 0, none⟩)) 10 wo (Bad.far _ g1 v1 l a HO.out.t1 (by omega) (by have := HF.out; omega))).mono ?_); rintro e w3 ⟨u, rfl, hu, hb⟩; have O3 := HO.out.below hb; have r3 := HQ.out w3 O3.bel; have HT := Lib.hid O3.t1; have HT2 := Lib.hid O3.t2; have HRA := Lib.hid O3.ra; have HB3 := Lib.hid O3.bel; obtain ⟨p3, rfl⟩ := hu.form; clear hu hb O3))
        go_region_held3 (fun W => W.cell? (ad.add i) = some (.int .u8 x)) (go_keep) (fail)
        have hd3 := below_drew (Below.refl w3.heap.size w3)
        have HCU : Hid (Kd.C (Kd.int .u64) w3.drew none 0 ([] : List Int)) := Lib.hid ⟨rfl, by simp, fun h => absurd h (by omega)⟩
        have HRD := Lib.hid (Kd.R_below HRA.out hd3)
        have HBD := Lib.hid (below_drew HB3.out)
        have hal2 : ((l.take a).length + 0) * 8 ≤ 140737488355328 := by have := HLA.out; omega
        have HT1D := Lib.hid (HT.out.below hd3)
        have HT2D := Lib.hid (HT2.out.below hd3)
        clear hd3
        go_wp2_with (at_builtin; go_loud (refine Kd.R_append_rows (Kd.int .u64) (Rr := (Kd.int .u64).K w3.drew) (w0 := w) w.heap.size rfl (.tmp 72) (.tmp 73) 22 35 (.int .u64 0) 8 rfl Tryd.underlying22 infoU64 rfl (by decide) (by omega) (.slice A a c) (l.take a) [] none 0 0 (fun _ => True) (fun _ => False) rfl rfl HRD.out HCU.out (fun _ _ h => h) (fun _ hk => hk.elim) (fun _ _ => trivial) HBD.out HBD.out.size hal2 ?_; intro v9 w4 ho hb hg hat; rw [HAP.out] at ho; have HO4 := Lib.hid (Once.grow HT1D.out HT2D.out HO.out.n12 HRD.out HO.out.ne1 HO.out.ne2 hb ho hg hat); clear ho hb hg hat))
        go_roundw
        case rel => exact ⟨i + 1, a, by omega, by go_num, HO4⟩
        case measure => simp [intOf]; omega
    · have hie : ¬ (i : Int) < (P.length : Int) := by omega
      have H1 := Lib.hid HO.out.t1
      have H2 := Lib.hid HO.out.t2
      have HRA := Lib.hid HO.out.ra
      have HLA := Lib.hid hla
      have HAL := Lib.hid hal
      have HGE := Lib.hid HO.out.t2.ge
      clear hlt hla hi
      go_wp2_with (first
        | (go_at_call 12; go_loud ((with_reducible refine (take_okI (a : Int) a rfl wo _ g2 v2 l 0 H2.out (by have := HAL.out; omega)).mono ?_); rintro e w3 ⟨u, rfl, hu, ht, hc⟩; rw [Nat.zero_add, List.drop_zero] at hu; rw [Nat.zero_add] at ht; have HT2 := Lib.hid ht; have HT1 := Lib.hid (H1.out.chg hc HO.out.n12 (fun k hk e => H1.out.row.ne H2.out.blk (by decide) (by rw [hk, e]))); have HRA3 := Lib.hid (HRA.out.chg hc (fun k hk e => HRA.out.ne H2.out.blk (by decide) (by rw [hk, e]))); have HB3 := Lib.hid (hc.below HO.out.bel (fun k e => by rw [e]; exact HGE.out)); obtain ⟨Au, cu, eu, -, -⟩ := hu.form; rw [HLA.out] at eu; subst eu; have HU := Lib.hid hu; clear hu ht hc))
        | (go_at_call 13; go_loud ((with_reducible refine (nums_okI A a c Au a cu (l.take a) HLA.out.symm HLA.out.symm w3 HRA3.out.C.1 HRA3.out.C.2 HU.out.C.1 HU.out.C.2 (by have := HLA.out; have := HAL.out; omega)).mono ?_); rintro e w4 ⟨rfl, hb⟩; have HT14 := Lib.hid (HT1.out.below hb); have HT24 := Lib.hid (HT2.out.below hb); have HB4 := Lib.hid (below_step HB3.out hb); clear hb))
        | (go_at_call 14; (with_reducible refine (at_ok w4 _ g1 v1 l a HT14.out).mono ?_); rintro e w5 ⟨rfl, rfl⟩)
        | (go_at_call 14; (with_reducible refine (at_ok w4 _ g2 v2 l a HT24.out).mono ?_); rintro e w5 ⟨rfl, rfl⟩)
        | (go_at_call 10; (with_reducible refine (HAW.out w4 (HD.out.below HB4.out HD.out.lt)).mono ?_); rintro e w6 ⟨rfl, hb⟩; have HB6 := Lib.hid hb; clear hb))
      go_ret
      exact ⟨rfl, below_step HB4.out HB6.out⟩
end Go.Proofs.YtdgngpcfikgoeaaDoor.P
