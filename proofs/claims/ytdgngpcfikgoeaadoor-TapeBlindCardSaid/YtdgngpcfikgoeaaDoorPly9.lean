/- does: Bits. -/
import Derived.Test.YtdgngpcfikgoeaaDoorPly4
namespace Go.Proofs.YtdgngpcfikgoeaaDoor.P
open Go.RowKit Go.Extern.Stop Go.Stop Go.Extern Go.Proofs.YtdgngpcfikgoeaaDoorW.PrintWords Go.Proofs.YtdgngpcfikgoeaaDoorW.PrintLast Go.Proofs.YtdgngpcfikgoeaaDoorW.PrintMore
set_option linter.unusedVariables false
set_option linter.unusedSimpArgs false
attribute [local go_sem ↓] Go.wp_at_zero Go.wp_at_succ
theorem bit_at (X : List Int) (i x : Nat) (z : Int) (hi : i < X.length) (hx : rd X (i : Int) = (x : Int)) (hz : z = ((x % 2 : Nat) : Int)) : rdOf false (X.map (fun x => decide (x.toNat % 2 = 1))) (i : Int) = (z == 1) := by
  rw [rd_get hi] at hx
  unfold rdOf
  rw [Int.toNat_natCast, List.getD_eq_getElem?_getD, List.getElem?_map, List.getElem?_eq_getElem hi]
  show decide (X[i].toNat % 2 = 1) = (z == 1)
  rw [hx, hz, Int.toNat_natCast]
  by_cases hq : x % 2 = 1
  · rw [hq]; rfl
  · have : x % 2 = 0 := by omega
    rw [this]; rfl
theorem RB.put2 {B : Nat} {W : World} {u : Value} {xs : List Bool} (h : RB B W u xs) {q : Nat} {cs : Array Value} (hk : W.heap[q]? = some (.cells cs 54 (0, 0))) (x y : Value) : RB B ((W.setCell ⟨q, 0, none⟩ x).setCell ⟨q, 1, none⟩ y) u xs :=
  have n4 : u.ownBlock ≠ some q := fun e => h.ne hk (by decide) e
  (h.move (fun k hq => Below.heap_setCell _ _ _ _ (fun e => n4 (by rw [hq, e])))).move (fun k hq => Below.heap_setCell _ _ _ _ (fun e => n4 (by rw [hq, e])))
set_option maxHeartbeats 6400000 in
set_option maxRecDepth 100000 in
theorem does_bits (w : World) (B g gr : Nat) (v : Value) (l : List Int) (A : Option Addr) (c a : Nat) (N b : Int) (h : Both w B g gr v l A c a) (hc : l.length ≤ c) (hu : ∀ x ∈ l, 0 ≤ x ∧ x < 18446744073709551616) :
    Calls Tryd.prog 21 #[.pointer (some ⟨g, 0, none⟩), .pointer (some ⟨gr, 0, none⟩), .agg #[.int .i64 3, .int .i64 N, .int .i64 b]] w (Does w B g gr v l A c (takeA l a N)) := by
  have HO0 := Lib.hid (doing w B g gr v l A c a 3 N b h)
  obtain ⟨q0, q1, -⟩ := cells_2 (blk_alloc h.rb (.cells #[.int .i64 3, .int .i64 N, .int .i64 b] 58))
  have hgr : gr < w.heap.size := blk_lt h.rb
  have HT := Lib.hid (fun W (t : TAt W B g v l a) => bits_any N W B g v l a t hu)
  have HR := Lib.hid (fun W (t : Kd.C (Kd.int .u64) W A l.length l) => rtake_any A c l a N W h.t.le h.t.len t hc)
  have HX := Lib.hid (Nat.le_trans (takeX_len (n := N) h.t.le) h.t.len)
  have HXU := Lib.hid (fun x (hx : x ∈ takeX l a N) => hu x (takeX_mem hx))
  have hLW := left_wrap (takeA_le (n := N) h.t.le) h.t.len
  clear h hc hu
  generalize takeX l a N = X at *
  generalize takeA l a N = a' at *
  generalize takeE l a N = E at *
  go_enter Tryd.func21, Tryd.ntmps21
  go_wp2_with (go_at_call 17; go_loud ((with_reducible refine (HT.out _ HO0.out.t).mono ?_); rintro e w1 ⟨u, ev, rfl, hu, hL⟩; have HO1 := Lib.hid (HO0.out.tape hL.tape hL.chg); have HE1 := Lib.hid hL.err; have HU1 := Lib.hid hu; obtain ⟨A1, c1, eu, -, -⟩ := hu.form; rw [List.length_map] at eu; subst eu; obtain ⟨k0, k1, k2, -⟩ := cells_3 HO1.out.kb; obtain ⟨n0, n1, nf0, nf1⟩ := cells_2 HO1.out.nb; obtain ⟨r0, r1, -⟩ := cells_2 HO1.out.rb; clear hu hL))
  go_region_with (go_at_call 36; (with_reducible refine (HR.out _ HO1.out.drew.rl.C).mono ?_); rintro e w2 ⟨u2, rfl, hu, hb⟩; have HO2 := Lib.hid (HO1.out.drew.below hb); have HU2 := Lib.hid hu; have HU12 := Lib.hid (Kd.R_below HU1.out (below_step (below_drew (Below.refl _ _)) hb)); have HE2 := Lib.hid (HE1.out.below (below_step (below_drew (Below.refl _ _)) hb)); obtain ⟨A2, c2, rfl, -, -⟩ := hu.form; obtain ⟨x0, x1, xf0, xf1⟩ := cells_2 HO2.out.nb; clear hu hb)
  all_goals have HE3 := Lib.hid (HE2.out.put HO2.out.nb (.slice A l.length c) (.int .i64 (a' : Int)))
  all_goals have HO3 := Lib.hid (HO2.out.put a')
  all_goals have HP2 : Hid (RU 0 _ _ X) := Lib.hid (Kd.R_lower (RU.put2 HU2.out HO2.out.nb (.slice A l.length c) (.int .i64 (a' : Int))) (Nat.zero_le _))
  all_goals have HP1 : Hid (RB 0 _ _ _) := Lib.hid (Kd.R_lower (RB.put2 HU12.out HO2.out.nb (.slice A l.length c) (.int .i64 (a' : Int))) (Nat.zero_le _))
  all_goals go_wp2
  all_goals go_loopw [11, 20] (fun v11 v20 wr => ∃ i : Nat, i ≤ X.length ∧ v20 = .int .i64 (i : Int) ∧ v11 = .bool true ∧ Hid (Doing w wr B g gr v l A c 3 N b a' a' a) ∧ Hid (ErrW wr ev E) ∧ Hid (RB 0 wr (.slice A1 X.length c1) (X.map (fun x => decide (x.toNat % 2 = 1)))) ∧ Hid (RU 0 wr (.slice A2 X.length c2) X)) (fun _ v20 _ => X.length - (intOf v20).toNat)
  all_goals first | exact ⟨0, Nat.zero_le _, rfl, rfl, HO3, HE3, HP1, HP2⟩ | skip
  all_goals (
    obtain ⟨wo, hwo⟩ : ∃ wo : World, wo = wr := ⟨_, rfl⟩
    subst hwo
    obtain ⟨i, hi, rfl, rfl, HO3, HE3, HP1, HP2⟩ := hrel
    by_cases hlt : i < X.length
    · have hltI : (i : Int) < (X.length : Int) := by omega
      have hi0 : (0 : Int) ≤ (i : Int) := by omega
      have hiw : IntKind.i64.wrap ((i : Int) + 1) = (i : Int) + 1 := IntWalk.i64_in _ ⟨by omega, by have := HX.out; omega⟩
      obtain ⟨g1, c1', e1⟩ := HP1.out.block (by rw [List.length_map]; omega)
      injection e1 with e1 e2 e3
      subst e1
      clear e2 e3
      obtain ⟨b0, -⟩ := HP1.out.at i (by rw [List.length_map]; exact hlt)
      obtain ⟨g2, c2', e1⟩ := HP2.out.block (by omega)
      injection e1 with e1 e2 e3
      subst e1
      clear e2 e3
      obtain ⟨d0, -⟩ := HP2.out.at i hlt
      obtain ⟨x0', x1'⟩ := HXU.out _ (rd_mem hlt)
      obtain ⟨x, hx⟩ : ∃ x : Nat, rd X (i : Int) = (x : Int) := ⟨(rd X (i : Int)).toNat, by omega⟩
      obtain ⟨z, hz⟩ : ∃ z : Int, z = ((x % 2 : Nat) : Int) := ⟨_, rfl⟩
      have ht2 : (x : Int).tmod 2 = z := by rw [hz]; exact Num.tmod2_nat x
      have hb : rdOf false (X.map (fun x => decide (x.toNat % 2 = 1))) (i : Int) = (z == 1) := bit_at X i x z hlt hx hz
      rw [hb] at b0
      rw [hx] at d0
      clear hx hz hb x0' x1'
      go_wp2
      go_region_held3 (fun W => W.cell? ⟨g1, i, none⟩ = some (.bool (z == 1)) ∧ W.cell? ⟨g2, i, none⟩ = some (.int .u64 (x : Int))) (go_keep) (fail)
      go_wp2
      clear hiw ht2
      refine ⟨⟨i + 1, Nat.succ_le_of_lt hlt, by go_num, rfl, Lib.hid HO3.out.drew, Lib.hid (HE3.out.below (below_drew (Below.refl _ _))), Lib.hid (Kd.R_below HP1.out (below_drew (Below.refl _ _))), Lib.hid (Kd.R_below HP2.out (below_drew (Below.refl _ _)))⟩, ?_⟩
      simp [intOf]
      omega
    · have hie : i = X.length := by omega
      subst hie
      have hnlt : ¬ (X.length : Int) < (X.length : Int) := by omega
      clear hi hlt
      obtain ⟨y0, y1, -⟩ := cells_2 HO3.out.nb
      obtain ⟨z0, z1, zf0, zf1⟩ := cells_2 HO3.out.rb
      go_wp2
      all_goals have HO4 := Lib.hid (HO3.out.keep a')
      all_goals have HE4 := Lib.hid (HE3.out.put HO3.out.rb (.slice A l.length c) (.int .i64 (a' : Int)))
      all_goals obtain ⟨s0, s1, -⟩ := cells_2 HO4.out.rb
      all_goals go_region_held3 (fun W => W.cell? ⟨gr, 0, none⟩ = some (.slice A l.length c) ∧ W.cell? ⟨gr, 1, none⟩ = some (.int .i64 (a' : Int))) (go_keep) ((first
        | (go_at_call 18; go_loud ((with_reducible refine (codeW ev E _ (HE4.out.below (below_drew (Below.refl _ _))) HO4.out.drew.door).mono ?_); rintro e w5 ⟨rfl, hb⟩; have HO5 := Lib.hid (HO4.out.drew.below hb); obtain ⟨t0, t1, -⟩ := cells_2 HO5.out.rb; clear hb))
        | (go_at_call 14; go_loud ((with_reducible refine (at_ok w5 _ g v l a' HO5.out.t).mono ?_); rintro e w6 ⟨rfl, rfl⟩))
        | (go_at_call 20; go_loud ((with_reducible refine (left_ok w5 _ g v l a' HO5.out.t).mono ?_); rintro e w6 ⟨rfl, rfl⟩))))
      all_goals go_wp2
      all_goals go_ret
      all_goals exact ⟨rfl, HO5.out.drew.both, HO5.out.drew.chg⟩)
end Go.Proofs.YtdgngpcfikgoeaaDoor.P
