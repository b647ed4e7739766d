/- The program's scalar.Draw. -/
import Derived.Test.YtdgngpcfikgoeaaDoorSdDrw5
import Derived.Deep.RegionLaw
namespace Go.Proofs.YtdgngpcfikgoeaaDoor.P
open Go.RowKit Go.Extern.Stop Go.Stop Go.Extern Go.Proofs.YtdgngpcfikgoeaaDoorW.PrintWords Go.Proofs.YtdgngpcfikgoeaaDoorW.PrintLast Go.Proofs.YtdgngpcfikgoeaaDoorW.PrintMore
set_option linter.unusedVariables false
set_option linter.unusedSimpArgs false
attribute [local go_sem ↓] Go.wp_at_zero Go.wp_at_succ
section
variable {ops : Array Oper} {o : Oper} {a : Act} {Q : Exit → Act → World → Prop} {Kc : Act → World → Prop}
/-- a share of two new rows is appended, in a drawn region -/
theorem sr_app_step {b : Nat} {w0 W0 W : World} {v u1 u2 : Value} {xs : List S86} {ys zs : List Int} (h : SR b W0 v xs) (hbW : Below W0.heap.size W0 W) (hu1 : Kd.R (Kd.int .u64) 35 W W0.heap.size (fun _ => True) u1 ys) (hu2 : Kd.R (Kd.int .u64) 35 W W0.heap.size (fun _ => True) u2 zs)
    (hb0 : b ≤ W0.heap.size) (HB : Below b w0 W) (hl : xs.length < 1954687338268) (hw : Region.wanted o (yielded ops a.tmps) = true) (s xo : Operand) (ho : o.op = .call { callee := .builtin .append, args := #[s, xo], argTypes := #[63, 63] }) (hs : a.eval s = v) (hx : a.eval xo = .slice (some ⟨W.heap.size, 0, none⟩) 1 1)
    (hk : ∀ v1 w1, SR b w1 v1 (xs ++ [⟨ys, zs, []⟩]) → Below b w0 w1 → W0.grownBy w1 v.ownBlock → Kc (a.put o.dst v1) w1) : if Region.wanted o (yielded ops a.tmps) = true then Oper.wp Tryd.prog o a (W.alloc (.cells #[u1, u2, .slice none 0 0] 86)) Kc Q else Kc (a.put o.dst undef) (W.alloc (.cells #[u1, u2, .slice none 0 0] 86)) := by
  have hlt := SR.lt h
  have hsz := hbW.size
  refine Kd.R_append_step k86 (w0 := w0) b hw s xo 63 86 (.agg #[(.slice none 0 0), (.slice none 0 0), (.slice none 0 0)]) 72 ho Tryd.underlying63 info86 rfl (by decide) (by omega) v xs ⟨ys, zs, []⟩ [u1, u2, .slice none 0 0] (fun _ => True) (fun k => W0.heap.size ≤ k) hs hx
    (k86_mkM _ _ _ _ (Kd.R_lower (Kd.R_mono (Kd.R_bound hu1) (fun k hk => hk.2.1)) hb0) (Kd.R_lower (Kd.R_mono (Kd.R_bound hu2) (fun k hk => hk.2.1)) hb0) (Kd.R_nil _ _ _ _ _)) (fun k hk => ⟨trivial, fun e => by have := hlt k e.symm; omega⟩) (fun k hk => trivial)
    (Kd.R_below h hbW) HB (by omega) (by omega) ?_
  intro v1 w1 hr hb hg _
  exact hk v1 w1 hr hb (World.grownBy.trans (grown_of_below hbW _) hg)
theorem sr_app_stepD {b : Nat} {w0 W0 V : World} {v u1 u2 : Value} {xs : List S86} {ys zs : List Int} (h : SR b W0 v xs) (hbW : Below W0.heap.size W0 V.drew) (hu1 : Kd.R (Kd.int .u64) 35 V.drew W0.heap.size (fun _ => True) u1 ys) (hu2 : Kd.R (Kd.int .u64) 35 V.drew W0.heap.size (fun _ => True) u2 zs)
    (hb0 : b ≤ W0.heap.size) (HB : Below b w0 V.drew) (hl : xs.length < 1954687338268) (hw : Region.wanted o (yielded ops a.tmps) = true) (s xo : Operand) (ho : o.op = .call { callee := .builtin .append, args := #[s, xo], argTypes := #[63, 63] }) (hs : a.eval s = v) (hx : a.eval xo = .slice (some ⟨V.heap.size, 0, none⟩) 1 1)
    (hk : ∀ v1 w1, SR b w1 v1 (xs ++ [⟨ys, zs, []⟩]) → Below b w0 w1 → W0.grownBy w1 v.ownBlock → Kc (a.put o.dst v1) w1) : if Region.wanted o (yielded ops a.tmps) = true then Oper.wp Tryd.prog o a ((V.alloc (.cells #[u1, u2, .slice none 0 0] 86)).drew) Kc Q else Kc (a.put o.dst undef) ((V.alloc (.cells #[u1, u2, .slice none 0 0] 86)).drew) :=
  sr_app_step (W := V.drew) h hbW hu1 hu2 hb0 HB hl hw s xo ho hs hx hk
end
theorem allocSz (w : World) (ob : Obj) : (w.alloc ob).heap.size = w.heap.size + 1 := by simp
/-- two rows of one number each -/
theorem two_rows (wo : World) (x y : Int) : Below wo.heap.size wo ((wo.alloc (.cells #[.int .u64 x] 35)).alloc (.cells #[.int .u64 y] 35)).drew ∧ RU wo.heap.size ((wo.alloc (.cells #[.int .u64 x] 35)).alloc (.cells #[.int .u64 y] 35)).drew (.slice (some ⟨wo.heap.size, 0, none⟩) 1 1) [x] ∧ RU wo.heap.size ((wo.alloc (.cells #[.int .u64 x] 35)).alloc (.cells #[.int .u64 y] 35)).drew (.slice (some ⟨wo.heap.size + 1, 0, none⟩) 1 1) [y] := by
  refine ⟨below_drew (below_alloc (below_alloc (Below.refl _ _) _) _), Kd.R_below (Kd.R_alloc (RU_one wo wo.heap.size x (Nat.le_refl _)) _) (below_drew (Below.refl _ _)), ?_⟩
  have h := RU_one (wo.alloc (.cells #[.int .u64 x] 35)) wo.heap.size y (by rw [allocSz]; exact Nat.le_succ _)
  rw [allocSz] at h
  exact Kd.R_below h (below_drew (Below.refl _ _))
set_option maxHeartbeats 3200000 in
set_option maxRecDepth 100000 in
theorem sdraw_ok (c0 : Int) (b : Nat) (c2 c3 c4 : Int) (n : Nat) (w : World) (B g : Nat) (v : Value) (l : List Int) (a : Nat) (h : Lem.schk c0 (b : Int) c2 c3 c4 (n : Int) = 0) (hT : TAt w B g v l a) (hf : a + 2 * n ≤ l.length) (hu : ∀ x ∈ l, 0 ≤ x ∧ x < 18446744073709551616) :
    Calls Tryd.prog 27 #[cV c0 (b : Int) c2 c3 c4, .int .i64 (n : Int), .pointer (some ⟨g, 0, none⟩)] w fun e w' => ∃ u, e = .returned (.tuple #[u, .nilIface]) ∧ SR w.heap.size w' u (sh2 (((l.take (a + 2 * n)).drop a).map (cutB b)) n) ∧ TAt w' B g v l (a + 2 * n) ∧ Chg (fun k => k = g) w w' := by
  have HC := Lib.hid (fun W => scheck_ok c0 (b : Int) c2 c3 c4 (n : Int) W)
  rw [h] at HC
  obtain ⟨hchk, -, n1, n24⟩ := Lem.schk_zero h
  obtain ⟨b1, b2, -, -⟩ := Lem.chk_bits hchk
  obtain ⟨m, hm⟩ : ∃ m : Nat, m = 2 * n := ⟨_, rfl⟩
  have hn1 : wrap64 (2 * (n : Int)) = (m : Int) := by rw [ew64 (by omega) (by omega)]; omega
  have hn2 : IntKind.i64.wrap (2 * (n : Int)) = (m : Int) := by rw [wrap_i64 (by omega) (by omega)]; omega
  rw [← hm] at hf ⊢
  have HN := Lib.hid (fun W (hW : TAt W B g v l a) => (show Calls Tryd.prog 37 #[.pointer (some ⟨g, 0, none⟩), .int .i64 (m : Int), .int .i64 (b : Int)] W _ from numbers_ok m b W B g v l a (by omega) (by omega) hW hf hu))
  have hyl : (((l.take (a + m)).drop a).map (cutB b)).length = m := by rw [List.length_map, List.length_drop, List.length_take]; omega
  generalize ((l.take (a + m)).drop a).map (cutB b) = Y at *
  have HYL := Lib.hid hyl
  have HB0 := Lib.hid (below_alloc (Below.refl w.heap.size w) (.cells #[.int .i64 c0, .int .i64 (b : Int), .int .i64 c2, .int .i64 c3, .int .i64 c4] 62))
  have HT := Lib.hid hT
  have HM := Lib.hid hm
  clear h hT hf hu hyl hchk hm
  go_enter Tryd.func27, Tryd.ntmps27
  go_wp2_with (first
    | (go_at_call 46; (with_reducible refine (HC.out _).mono ?_); rintro e w1 ⟨rfl, hb⟩; have HB1 := Lib.hid (below_step HB0.out hb); obtain ⟨k0, k1, k2, k3, k4, -⟩ := cells_5 ((hb.block _ (blk_lt (heap_alloc_new w _))).trans (heap_alloc_new w _)); clear hb)
    | (go_at_call 37; go_loud ((with_reducible refine (HN.out _ (HT.out.below HB1.out)).mono ?_); rintro e w2 ⟨u, rfl, hu, ht, hc⟩; have HU := Lib.hid hu; have HT2 := Lib.hid ht; have HC2 := Lib.hid ((Chg.of_below HB1.out (fun k => k = g)).trans hc); obtain ⟨A1, cp, eu, -, -⟩ := hu.form; rw [HYL.out] at eu; subst eu; clear hu ht hc))
    | (go_loud (refine Kd.R_makecap k86 _ 86 rfl (N := 34) rfl 63 _ _ rfl (n : Int) rfl rfl Tryd.underlying63 (.agg #[(.slice none 0 0), (.slice none 0 0), (.slice none 0 0)]) 72 info86 rfl (by decide) (by omega) z86 (ok := fun _ => True) (okp := fun _ => True) (k86_mkM _ _ _ z86 (Kd.R_nil _ _ _ _ _) (Kd.R_nil _ _ _ _ _) (Kd.R_nil _ _ _ _ _)) (fun _ hk => hk) trivial (by omega) (by rw [Int.toNat_natCast]; omega) (Below.refl _ _) (Nat.le_refl _) ?_; intro v4 w4 ho4 hb4 hg_ hnew_; have HO4 := Lib.hid ho4; have HB4 := Lib.hid hb4; clear ho4 hb4 hg_ hnew_)))
  have HX2 := Lib.hid (HT2.out.below HB4.out)
  have HC4 := Lib.hid (HC2.out.trans (Chg.of_below HB4.out _))
  have HU4 := Lib.hid (Kd.R_below HU.out HB4.out)
  have hws : w.heap.size ≤ w2.heap.size := HC2.out.size
  have HS4 : Hid (SR w.heap.size w4 v4 (sh2 Y 0)) := Lib.hid (Kd.R_lower HO4.out hws)
  have hn24 : n ≤ 24 := by omega
  clear hws
  go_loopw [11, 12, 36] (fun v11 v12 v36 wr => ∃ i : Nat, i ≤ n ∧ v36 = .int .i64 (i : Int) ∧ Hid (SR w.heap.size wr v11 (sh2 Y i)) ∧ Hid (RU w1.heap.size wr (.slice A1 m cp) Y) ∧ Hid (TAt wr B g v l (a + m)) ∧ Hid (Chg (fun k => k = g) w wr)) (fun _ _ v36 _ => n - (intOf v36).toNat)
  case atStart => exact ⟨0, by omega, rfl, HS4, HU4, HX2, HC4⟩
  case round =>
    obtain ⟨wo, rfl⟩ : ∃ wo : World, wo = wr := ⟨_, rfl⟩
    obtain ⟨i, hi, rfl, HS, HU, HT, HCH⟩ := hrel
    by_cases hlt : i < n
    · have hltI : (i : Int) < (n : Int) := by omega
      have hi0 : (0 : Int) ≤ (i : Int) := by omega
      obtain ⟨ad, rfl, q0⟩ := Kd.at_int HU.out.C.1 ((2 * i : Nat) : Int) (by omega) (by have := HYL.out; have := HM.out; omega)
      obtain ⟨ad', e', q1⟩ := Kd.at_int HU.out.C.1 ((2 * i + 1 : Nat) : Int) (by omega) (by have := HYL.out; have := HM.out; omega)
      injection e' with e'
      subst e'
      rw [Int.toNat_natCast] at q0 q1
      have HSN := Lib.hid (sh2_snoc Y i)
      obtain ⟨x, hx⟩ : ∃ x, x = rd Y ((2 * i : Nat) : Int) := ⟨_, rfl⟩
      obtain ⟨y, hy⟩ : ∃ y, y = rd Y ((2 * i + 1 : Nat) : Int) := ⟨_, rfl⟩
      rw [← hx] at q0 HSN
      rw [← hy] at q1 HSN
      have hiw : IntKind.i64.wrap ((i : Int) + 1) = (i : Int) + 1 := IntWalk.i64_in _ ⟨by omega, by omega⟩
      obtain ⟨p, hp⟩ : ∃ p : Nat, p = 2 * i := ⟨_, rfl⟩
      have hp1 : wrap64 (2 * (i : Int)) = (p : Int) := by rw [ew64 (by omega) (by omega)]; omega
      have hp2 : IntKind.i64.wrap (2 * (i : Int)) = (p : Int) := by rw [wrap_i64 (by omega) (by omega)]; omega
      obtain ⟨r, hr⟩ : ∃ r : Nat, r = p + 1 := ⟨_, rfl⟩
      have hmo := HM.out
      have hp3 : wrap64 ((p : Int) + 1) = (r : Int) := by rw [ew64 (by omega) (by omega)]; omega
      have hp4 : wrap64 (2 * (i : Int) + 1) = (r : Int) := by rw [ew64 (by omega) (by omega)]; omega
      have hp5 : IntKind.i64.wrap ((p : Int) + 1) = (r : Int) := by rw [wrap_i64 (by omega) (by omega)]; omega
      have hp6 : IntKind.i64.wrap (2 * (i : Int) + 1) = (r : Int) := by rw [wrap_i64 (by omega) (by omega)]; omega
      have hpl : (r : Int) < (m : Int) := by omega
      have hpm : (p : Int) < (m : Int) := by omega
      have hp0 : (0 : Int) ≤ (p : Int) := by omega
      have hp9 : (0 : Int) ≤ (r : Int) := by omega
      have HLn := Lib.hid (show (sh2 Y i).length < 1954687338268 by rw [sh2_len]; omega)
      have HSZ := Lib.hid HCH.out.size
      rw [← hp] at q0 q1
      rw [← hr] at q1
      clear hx hy hp hr hmo
      have q1a := pw_cell_below (below_alloc (Below.refl wo.heap.size wo) (.cells #[.int .u64 x] 35)) q1
      have q0a := pw_cell_below (below_alloc (Below.refl wo.heap.size wo) (.cells #[.int .u64 y] 35)) q0
      have TX := Lib.hid (two_rows wo x y)
      have TY := Lib.hid (two_rows wo y x)
      go_wp2
      go_region_law ((first
        | (refine sr_app_stepD (w0 := wo) (b := w.heap.size) HS.out TX.out.1 TX.out.2.1 TX.out.2.2 HSZ.out (below_lower TX.out.1 HSZ.out) HLn.out (by rfl) (.tmp 39) (.tmp 54) rfl rfl (by first | rfl | (simp; rfl) | (simp; done)) ?_; intro v5 w5 hs hb hg; rw [HSN.out] at hs; have HS5 := Lib.hid hs; have HU5 := Lib.hid (grown_row HS.out HU.out hg); have HT5 := Lib.hid (grown_tape HS.out HT.out hg); have HC5 := Lib.hid (HCH.out.grown hg (fun k e => .inr (HS.out.ge k e))); clear hs hb hg)
        | (refine sr_app_stepD (w0 := wo) (b := w.heap.size) HS.out TY.out.1 TY.out.2.2 TY.out.2.1 HSZ.out (below_lower TY.out.1 HSZ.out) HLn.out (by rfl) (.tmp 39) (.tmp 54) rfl rfl (by first | rfl | (simp; rfl) | (simp; done)) ?_; intro v5 w5 hs hb hg; rw [HSN.out] at hs; have HS5 := Lib.hid hs; have HU5 := Lib.hid (grown_row HS.out HU.out hg); have HT5 := Lib.hid (grown_tape HS.out HT.out hg); have HC5 := Lib.hid (HCH.out.grown hg (fun k e => .inr (HS.out.ge k e))); clear hs hb hg)))
      all_goals go_wp2
      all_goals clear hp1 hp2 hp3 hp4 hp5 hp6 hiw hn1 hn2
      all_goals refine ⟨⟨i + 1, Nat.succ_le_of_lt hlt, by go_num, HS5, HU5, HT5, HC5⟩, ?_⟩
      all_goals (simp [intOf]; omega)
    · have hie : i = n := by omega
      subst hie
      have hnlt : ¬ (i : Int) < (i : Int) := by omega
      go_wp2
      go_ret2
      refine ⟨_, rfl, ?_, HT.out, HCH.out⟩
      have hs := HS.out
      exact hs
end Go.Proofs.YtdgngpcfikgoeaaDoor.P
