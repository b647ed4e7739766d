/- The document's dabit.Draw; DabitDraws. -/
import Derived.Test.YtdgngpcfikgoeaaDoorDrw1
import Derived.Deep.RegionWith
namespace Go.Proofs.YtdgngpcfikgoeaaDoor.P
open Go.RowKit Go.Extern.Stop Go.Stop Go.Extern Go.Proofs.YtdgngpcfikgoeaaDoorW.PrintWords Go.Proofs.YtdgngpcfikgoeaaDoorW.PrintLast Go.Proofs.YtdgngpcfikgoeaaDoorW.PrintMore
set_option linter.unusedVariables false
set_option linter.unusedSimpArgs false
attribute [local go_sem ↓] Go.wp_at_zero Go.wp_at_succ

/-- the three blocks that the document's Draw begins with -/
structure Begun (w W : World) (c0 c1 c2 c3 c4 : Int) (A : Option Addr) (n c a : Nat) (x y : Value) : Prop where
  k3 : W.heap[w.heap.size]? = some (.cells #[.int .i64 c0, .int .i64 c1, .int .i64 c2, .int .i64 c3, .int .i64 c4] 62 (0, 0))
  k5 : W.heap[w.heap.size + 1]? = some (.cells #[.slice A n c, .int .i64 (a : Int)] 54 (0, 0))
  k6 : W.heap[w.heap.size + 1 + 1]? = some (.cells #[x, y] 54 (0, 0))
  bel : Below w.heap.size w W
section
variable {w W W1 : World} {c0 c1 c2 c3 c4 : Int} {A : Option Addr} {n c a : Nat} {x y : Value}
theorem Begun.below (h : Begun w W c0 c1 c2 c3 c4 A n c a x y) (hb : Below W.heap.size W W1) : Begun w W1 c0 c1 c2 c3 c4 A n c a x y :=
  ⟨(hb.block _ (blk_lt h.k3)).trans h.k3, (hb.block _ (blk_lt h.k5)).trans h.k5, (hb.block _ (blk_lt h.k6)).trans h.k6, below_step h.bel hb⟩
theorem Begun.drew (h : Begun w W c0 c1 c2 c3 c4 A n c a x y) : Begun w W.drew c0 c1 c2 c3 c4 A n c a x y := h.below (below_drew (Below.refl _ _))
theorem Begun.put (h : Begun w W c0 c1 c2 c3 c4 A n c a x y) (u v : Value) : Begun w ((W.setCell ⟨w.heap.size + 1 + 1, 0, none⟩ u).setCell ⟨w.heap.size + 1 + 1, 1, none⟩ v) c0 c1 c2 c3 c4 A n c a u v :=
  ⟨blk_far (blk_far h.k3 (by simp; omega) _) (by simp; omega) _, blk_far (blk_far h.k5 (by simp) _) (by simp) _, by simpa using blk_set (blk_set h.k6 0 u) 1 v, below_set (below_set h.bel (by omega)) (by omega)⟩
end
theorem begun (w : World) (c0 c1 c2 c3 c4 : Int) (A : Option Addr) (n c a : Nat) : Begun w (((w.alloc (.cells #[.int .i64 c0, .int .i64 c1, .int .i64 c2, .int .i64 c3, .int .i64 c4] 62)).alloc (.cells #[.slice A n c, .int .i64 (a : Int)] 54)).alloc (.cells #[.slice none 0 0, .int .i64 0] 54)) c0 c1 c2 c3 c4 A n c a (.slice none 0 0) (.int .i64 0) := by
  refine ⟨blk_alloc (blk_alloc (heap_alloc_new w _) _) _, blk_alloc ?_ _, ?_, below_alloc (below_alloc (below_alloc (Below.refl _ _) _) _) _⟩
  · exact heap_alloc2_new w _ _
  · have h := heap_alloc_new ((w.alloc (.cells #[.int .i64 c0, .int .i64 c1, .int .i64 c2, .int .i64 c3, .int .i64 c4] 62)).alloc (.cells #[.slice A n c, .int .i64 (a : Int)] 54)) (.cells #[.slice none 0 0, .int .i64 0] 54)
    simpa using h
theorem far2 {W : World} {b : Nat} {x y v : Value} {ad : Addr} (hne : ad.block ≠ b) (h : W.cell? ad = some v) : ((W.setCell ⟨b, 0, none⟩ x).setCell ⟨b, 1, none⟩ y).cell? ad = some v :=
  (cell_of_heap (Below.heap_setCell _ ⟨b, 1, none⟩ y _ hne)).trans ((cell_of_heap (Below.heap_setCell _ ⟨b, 0, none⟩ x _ hne)).trans h)
set_option maxHeartbeats 3200000 in
theorem rdraw_no (c0 c1 c2 c3 c4 n : Int) (A : Option Addr) (c : Nat) (l : List Int) (a : Nat) (w : World) (h : Lem.dchk c0 c1 c2 c3 c4 n ≠ 0) :
    Calls Tryd.prog 24 #[cV c0 c1 c2 c3 c4, .int .i64 n, rT A l.length c a] w fun e w' => e = .returned (.tuple #[rT A l.length c a, .slice none 0 0, .int .i64 (Lem.dchk c0 c1 c2 c3 c4 n)]) ∧ Below w.heap.size w w' := by
  have HC := Lib.hid (fun W => rcheck_ok c0 c1 c2 c3 c4 n W)
  generalize Lem.dchk c0 c1 c2 c3 c4 n = t at *
  have hb : (t != 0) = true := by rw [bne_iff_ne]; exact h
  have HB0 := Lib.hid (begun w c0 c1 c2 c3 c4 A l.length c a)
  have n02 : w.heap.size ≠ w.heap.size + 1 + 1 := by omega
  have n12 : w.heap.size + 1 ≠ w.heap.size + 1 + 1 := by omega
  clear h
  go_enter Tryd.func24, Tryd.ntmps24
  go_wp2_with (go_at_call 43; (with_reducible refine (HC.out _).mono ?_); rintro e w1 ⟨rfl, hb⟩; have HB1 := Lib.hid (HB0.out.below hb); obtain ⟨k0, k1, k2, k3, k4, -⟩ := cells_5 HB1.out.k3; obtain ⟨m0, m1, -⟩ := cells_2 HB1.out.k5; obtain ⟨z0, z1, zf0, zf1⟩ := cells_2 HB1.out.k6; clear hb)
  go_region_with (go_at_call 43; (with_reducible refine (HC.out _).mono ?_); rintro e w2 ⟨rfl, hb⟩; (first | have HB2 := Lib.hid (HB1.out.drew.below hb) | have HB2 := Lib.hid ((HB1.out.drew.put (.slice A l.length c) (.int .i64 (a : Int))).below hb)); obtain ⟨p0, p1, p2, p3, p4, -⟩ := cells_5 HB2.out.k3; obtain ⟨q0, q1, -⟩ := cells_2 HB2.out.k5; obtain ⟨x0, x1, xf0, xf1⟩ := cells_2 HB2.out.k6; clear hb)
  all_goals go_wp2
  all_goals
    first
      | (refine bodyPost_ret (results_ctt rfl _ _ (w.heap.size + 1 + 1) 54 #[.slice A l.length c, .int .i64 (a : Int)] (0, 0) _ rfl (HB2.out.put _ _).k6 Tryd.underlying54 rfl (by kernel_rfl)) rfl ?_; exact ⟨rfl, (HB2.out.put _ _).bel⟩)
      | (refine bodyPost_ret (results_ctt rfl _ _ (w.heap.size + 1 + 1) 54 #[.slice A l.length c, .int .i64 (a : Int)] (0, 0) _ rfl HB2.out.k6 Tryd.underlying54 rfl (by kernel_rfl)) rfl ?_; exact ⟨rfl, HB2.out.bel⟩)
theorem Begun.grown {w W W1 : World} {c0 c1 c2 c3 c4 : Int} {A : Option Addr} {n c a : Nat} {x y v : Value} {B : Nat} {xs : List S86} (h : Begun w W c0 c1 c2 c3 c4 A n c a x y) (hs : SR B W v xs) (hg : W.grownBy W1 v.ownBlock) (hb : Below w.heap.size w W1) : Begun w W1 c0 c1 c2 c3 c4 A n c a x y :=
  ⟨blk_grown h.k3 hg (Kd.R_ne hs h.k3 (by decide)), blk_grown h.k5 hg (Kd.R_ne hs h.k5 (by decide)), blk_grown h.k6 hg (Kd.R_ne hs h.k6 (by decide)), hb⟩
set_option maxHeartbeats 3200000 in
set_option maxRecDepth 100000 in
theorem rdraw_gen (c0 c1 c2 c3 c4 n : Int) (A : Option Addr) (c : Nat) (l : List Int) (a : Nat) (w : World) (h : Lem.dchk c0 c1 c2 c3 c4 n = 0) (a' : Nat) (Y : List Int) (E : Int) (hY : ∀ x ∈ Y, 0 ≤ x ∧ x < 18446744073709551616) (hYl : Y.length ≤ 1048576)
    (hR : ∀ W, Below w.heap.size w W → Calls Tryd.prog 36 #[rT A l.length c a, .int .i64 n] W fun e w' => ∃ u, e = .returned (.tuple #[rT A l.length c a', u, .int .i64 E]) ∧ RU W.heap.size w' u Y ∧ Below W.heap.size W w') :
    Calls Tryd.prog 24 #[cV c0 c1 c2 c3 c4, .int .i64 n, rT A l.length c a] w fun e w' => ∃ u, e = .returned (.tuple #[rT A l.length c a', u, .int .i64 E]) ∧ SR w.heap.size w' u (shs (Y.map (cutB 1))) ∧ Below w.heap.size w w' := by
  have HC := Lib.hid (fun W => rcheck_ok c0 c1 c2 c3 c4 n W)
  rw [h] at HC
  have HR := Lib.hid hR
  have HB0 := Lib.hid (begun w c0 c1 c2 c3 c4 A l.length c a)
  have hyl : (Y.map (cutB 1)).length = Y.length := by simp
  have HYL := Lib.hid hyl
  have HYM := Lib.hid hYl
  have HRD := Lib.hid (show ∀ i : Nat, i < Y.length → ∃ x : Nat, rd Y (i : Int) = (x : Int) ∧ x < 18446744073709551616 ∧ rd (Y.map (cutB 1)) (i : Int) = ((x % 2 : Nat) : Int) from fun i hi => by
    obtain ⟨x0, x1⟩ := hY _ (rd_mem hi)
    refine ⟨(rd Y (i : Int)).toNat, by omega, by omega, ?_⟩
    have e : rd Y (i : Int) = Y[i] := by unfold rd; rw [Int.toNat_natCast, List.getD_eq_getElem?_getD, List.getElem?_eq_getElem hi]; rfl
    rw [e]
    unfold rd cutB
    rw [Int.toNat_natCast, List.getD_eq_getElem?_getD, List.getElem?_map, List.getElem?_eq_getElem hi]
    rfl)
  generalize Y.map (cutB 1) = Z at *
  clear h hR hY hYl hyl
  go_enter Tryd.func24, Tryd.ntmps24
  go_wp2_with (first
    | (go_at_call 43; (with_reducible refine (HC.out _).mono ?_); rintro e w1 ⟨rfl, hb⟩; have HB1 := Lib.hid (HB0.out.below hb); obtain ⟨k0, k1, k2, k3, k4, -⟩ := cells_5 HB1.out.k3; obtain ⟨m0, m1, -⟩ := cells_2 HB1.out.k5; clear hb)
    | (go_at_call 36; go_loud ((with_reducible refine (HR.out _ HB1.out.bel).mono ?_); rintro e w2 ⟨u, rfl, hu, hb⟩; have HU := Lib.hid hu; have HB2 := Lib.hid (HB1.out.below hb); obtain ⟨A1, cp, rfl, -, -⟩ := hu.form; clear hu hb)))
  have HS0 : Hid (SR w.heap.size (w2.alloc (.cells #[.slice A l.length c, .int .i64 (a' : Int)] 54)) (.slice none 0 0) (shs (Z.take 0))) := Lib.hid (by rw [List.take_zero]; exact Kd.R_nil _ _ _ _ _)
  go_loopw [12, 13] (fun v12 v13 wr => ∃ i : Nat, i ≤ Y.length ∧ v13 = .int .i64 (i : Int) ∧ Hid (SR w.heap.size wr v12 (shs (Z.take i))) ∧ Hid (RU w1.heap.size wr (.slice A1 Y.length cp) Y) ∧ Hid (Begun w wr c0 c1 c2 c3 c4 A l.length c a (.slice none 0 0) (.int .i64 0)) ∧ Hid (wr.heap[w2.heap.size]? = some (.cells #[.slice A l.length c, .int .i64 (a' : Int)] 54 (0, 0)))) (fun _ v13 _ => Y.length - (intOf v13).toNat)
  case atStart => exact ⟨0, by omega, rfl, HS0, Lib.hid (Kd.R_alloc HU.out _), Lib.hid (HB2.out.below (below_alloc (Below.refl _ _) _)), Lib.hid (heap_alloc_new w2 _)⟩
  case round =>
    obtain ⟨wo, rfl⟩ : ∃ wo : World, wo = wr := ⟨_, rfl⟩
    obtain ⟨i, hi, rfl, HS, HU, HBG, HK9⟩ := hrel
    by_cases hlt : i < Y.length
    · have hltI : (i : Int) < (Y.length : Int) := by omega
      have hi0 : (0 : Int) ≤ (i : Int) := by omega
      obtain ⟨ad, rfl, q0⟩ := Kd.at_int HU.out.C.1 (i : Int) hi0 hltI
      rw [Int.toNat_natCast] at q0
      obtain ⟨x, hx, hx1, hx2⟩ := HRD.out i hlt
      rw [hx] at q0
      have hsn := shs_snoc Z i (by have := HYL.out; omega)
      obtain ⟨z, hz⟩ : ∃ z : Int, z = ((x % 2 : Nat) : Int) := ⟨_, rfl⟩
      have ht2 : (x : Int).tmod 2 = z := by rw [hz]; exact Num.tmod2_nat x
      rw [hx2, ← hz] at hsn
      have HSN := Lib.hid hsn
      have hiw : IntKind.i64.wrap ((i : Int) + 1) = (i : Int) + 1 := IntWalk.i64_in _ ⟨by omega, by have := HYM.out; omega⟩
      have HLn := Lib.hid (show (shs (Z.take i)).length < 1954687338268 by rw [shs_len, List.length_take]; have := HYM.out; omega)
      have HLI := Lib.hid (show Below wo.heap.size wo (wo.alloc (.cells #[.int .u64 z] 35)) from below_alloc (Below.refl _ _) _)
      have HSZ := Lib.hid HBG.out.bel.size
      clear hx hx2 hz hsn
      go_wp2_with (at_builtin; go_loud (refine sr_app (w0 := w) (b := w.heap.size) HS.out HLI.out (RU_one wo _ z (Nat.le_refl _)) (Kd.R_nil _ _ _ _ _) HSZ.out (below_step HBG.out.bel HLI.out) HLn.out rfl (.tmp 35) (.tmp 43) rfl rfl (by first | rfl | (simp; rfl) | (simp; done)) ?_; intro v5 w5 hs hb hg; rw [HSN.out] at hs; have HS5 := Lib.hid hs; have HU5 := Lib.hid (grown_row HS.out HU.out hg); have HB5 := Lib.hid (HBG.out.grown HS.out hg hb); have HK5 := Lib.hid (blk_grown HK9.out hg (Kd.R_ne HS.out HK9.out (by decide))); clear hs hb hg))
      go_roundw
      case rel => exact ⟨i + 1, by omega, by go_num, HS5, HU5, HB5, HK5⟩
      case measure => simp [intOf]; omega
    · have hie : i = Y.length := by omega
      subst hie
      have hnlt : ¬ (Y.length : Int) < (Y.length : Int) := by omega
      obtain ⟨r0, r1, -⟩ := cells_2 HK9.out
      obtain ⟨x0, x1, xf0, xf1⟩ := cells_2 HBG.out.k6
      go_wp2
      refine bodyPost_ret (results_ctt rfl _ _ (w.heap.size + 1 + 1) 54 #[.slice A l.length c, .int .i64 (a' : Int)] (0, 0) _ rfl (HBG.out.put _ _).k6 Tryd.underlying54 rfl (by kernel_rfl)) rfl ?_
      refine ⟨_, rfl, ?_, (HBG.out.put _ _).bel⟩
      have hs := HS.out
      rw [List.take_of_length_le (by have := HYL.out; omega)] at hs
      exact Kd.R_set (Kd.R_set hs HBG.out.k6 (by decide) 0 _) (by simpa using blk_set HBG.out.k6 0 (.slice A l.length c)) (by decide) 1 _
end Go.Proofs.YtdgngpcfikgoeaaDoor.P
