/- The document's network (package trefoilref12): what changes places. -/
import Derived.Test.YtedhckojeephaaaNpPx0
import Derived.Test.YtedhckojeephaaaNpK0
import Derived.Test.YtedhckojeephaaaNpK2
import Derived.Test.YtedhckojeephaaaNpK4
import Derived.Test.YtedhckojeephaaaNpK5
import Derived.Test.YtedhckojeephaaaNpK9
import Derived.Test.YtedhckojeephaaaNpK10
import Derived.Test.YtedhckojeephaaaNpK11
import Derived.Test.YtedhckojeephaaaNpK12
namespace Go.Proofs.Ytedhckojeephaaa.P
open Go.RowKit Go.Proofs.YtedhckojeephaaaW.PrintWords Go.Proofs.YtedhckojeephaaaW.PrintLast Go.Proofs.YtedhckojeephaaaW.PrintMore
set_option linter.unusedVariables false
set_option linter.unusedSimpArgs false
attribute [local go_sem ↓] Go.wp_at_zero Go.wp_at_succ

/-! ### ref_net_swap: function 49 -/
/-- another list in its place: the document's lists are read as those -/
theorem put_ref {W : World} {A0 A1 : Option Addr} {c0 c1 : Nat} {F : Bool → List ByteArray} (hR : RefIs W A0 A1 c0 c1 F) (b : Bool) {L : List ByteArray} {A : Option Addr} {c : Nat} (hl : L.length ≤ c) (hC : Kd.C Kd.string W A L.length L) :
    ∃ B0 B1 d0 d1, putS b (.slice A0 (F false).length c0) (.slice A1 (F true).length c1) (.slice A L.length c) = .agg #[.slice B0 (upd F b L false).length d0, .slice B1 (upd F b L true).length d1] ∧ RefIs W B0 B1 d0 d1 (upd F b L) ∧ ∀ v, putS b (.slice B0 (upd F b L false).length d0) (.slice B1 (upd F b L true).length d1) v = putS b (.slice A0 (F false).length c0) (.slice A1 (F true).length c1) v := by
  cases b
  · exact ⟨A, A1, c, c1, rfl, ⟨hl, hR.l1, hC, hR.r1⟩, fun _ => rfl⟩
  · exact ⟨A0, A, c0, c, rfl, ⟨hR.l0, hl, hR.r0, hC⟩, fun _ => rfl⟩
set_option maxHeartbeats 1600000 in
set_option maxRecDepth 100000 in
theorem r_swap_ok (A0 A1 : Option Addr) (c0 c1 : Nat) (F : Bool → List ByteArray) (t : Int) (b : Bool) (ht : t = toOf b) (i k : Nat) (hi : i < (F b).length) (hk : k < (F b).length) (w : World) (hR : RefIs w A0 A1 c0 c1 F) (hs : (F b).length * 16 ≤ 140737488355328) :
    Calls Try.prog 49 #[.agg #[.slice A0 (F false).length c0, .slice A1 (F true).length c1], .int .i64 t, .int .i64 (i : Int), .int .i64 (k : Int)] w (RefAns w (.slice A0 (F false).length c0) (.slice A1 (F true).length c1) b F (((F b).set i (sx (F b) k)).set k (sx (F b) i)) (withE 0)) := by
  have HW := Lib.hid (wrong_in A0 A1 c0 c1 F t i b ht ⟨by omega, by omega⟩)
  have HW2 := Lib.hid (wrong_in A0 A1 c0 c1 F t k b ht ⟨by omega, by omega⟩)
  have HP1 := Lib.hid (fun W hb => r_put A0 A1 c0 c1 F t b ht i (sx (F b) k) hi W (hR.below hb) hs)
  have hlen : (upd F b ((F b).set i (sx (F b) k)) b).length = (F b).length := by rw [upd_at, List.length_set]
  have HP2 := Lib.hid (fun W B0 B1 d0 d1 (h : RefIs W B0 B1 d0 d1 (upd F b ((F b).set i (sx (F b) k)))) => r_put B0 B1 d0 d1 (upd F b ((F b).set i (sx (F b) k))) t b ht k (sx (F b) i) (by rw [hlen]; exact hk) W h (by rw [hlen]; exact hs))
  have k0 := Aside0.mk (blk_alloc (heap_alloc_new w (.cells #[.slice A0 (F false).length c0, .slice A1 (F true).length c1] 77)) (.cells #[.slice none 0 0, .slice none 0 0] 77))
  have k1 := Aside0.mk (blk_snd w (.cells #[.slice A0 (F false).length c0, .slice A1 (F true).length c1] 77) (.slice none 0 0) (.slice none 0 0))
  have b0 := Aside0.mk (below_alloc (below_alloc (Below.refl w.heap.size w) (.cells #[.slice A0 (F false).length c0, .slice A1 (F true).length c1] 77)) (.cells #[.slice none 0 0, .slice none 0 0] 77))
  obtain ⟨A, c, hp, hlc, hr⟩ := hR.pick b
  obtain ⟨ad, rfl, hcell⟩ := str_cell hr i hi
  obtain ⟨ad', had, hcell2⟩ := str_cell hr k hk
  obtain rfl : ad = ad' := Option.some.inj had
  have HP := Lib.hid hp
  have HT := Lib.hid ht
  have HC := Lib.hid hcell
  have HC2 := Lib.hid hcell2
  have HR := Aside0.mk hR
  have hj0 : (0 : Int) ≤ (i : Int) := by omega
  have hj1 : (i : Int) < ((F b).length : Int) := by omega
  have hj2 : (0 : Int) ≤ (k : Int) := by omega
  have hj3 : (k : Int) < ((F b).length : Int) := by omega
  have tok : True := trivial
  clear hR hp ht hr hcell hcell2 hs hlc had hlen
  go_enter Try.func49, Try.ntmps49
  go_wp2_with (first
    | (go_at_call 56; have _t := tok; refine (HW.out _).mono ?_; rintro e w1 ⟨rfl, hb⟩; have k2 := blk_below k0.out hb; have k3 := blk_below k1.out hb; have K2 := Aside0.mk k2; have K3 := Aside0.mk k3; have HB1 := Aside0.mk (below_step b0.out hb); obtain ⟨q0, q1, qf0, qf1⟩ := cells_2 k2; obtain ⟨r0, r1, rf0, rf1⟩ := cells_2 k3; clear hb k2 k3 tok)
    | (go_at_call 56; refine (HW2.out _).mono ?_; rintro e w2 ⟨rfl, hb⟩; have k2 := blk_below K2.out hb; have k3 := blk_below K3.out hb; have K4 := Aside0.mk k2; have K5 := Aside0.mk k3; have HB2 := Aside0.mk (below_step HB1.out hb); obtain ⟨s0, s1, -⟩ := cells_2 k2; clear hb k2 k3)
    | (go_at_call 55; refine (r_to A0 A1 _ _ c0 c1 t b HT.out _).mono ?_; rintro e w3 ⟨rfl, hb⟩; rw [HP.out]; have k2 := blk_below K4.out hb; have k3 := blk_below K5.out hb; have K6 := Aside0.mk k2; have K7 := Aside0.mk k3; have HB3 := Aside0.mk (below_step HB2.out hb); obtain ⟨u0, u1, -⟩ := cells_2 k2; clear hb k2 k3))
  have hx3 := pw_cell_below HB3.out HC.out
  have hy3 := pw_cell_below HB3.out HC2.out
  go_region_held3 (fun w' => w'.cell? ⟨w.heap.size, 0, none⟩ = some (.slice A0 (F false).length c0) ∧ w'.cell? ⟨w.heap.size, 1, none⟩ = some (.slice A1 (F true).length c1) ∧ w'.cell? (ad.add i) = some (.string (sx (F b) i)) ∧ w'.cell? (ad.add k) = some (.string (sx (F b) k))) (go_keep)
    ((first
      | (go_at_call 57; (with_reducible refine (HP1.out _ (below_drew HB3.out)).mono ?_); rintro e w4 ⟨A4, c4, rfl, hrow, hb⟩; have HB4 := Aside0.mk (below_step (below_drew HB3.out) hb); have hlr := Kd.R_reads' hrow; obtain ⟨B0, B1, d0, d1, hq, hR4, hput⟩ := put_ref (HR.out.below HB4.out) b hlr.2.1 hlr.2.2; rw [hq]; have HR4 := Aside0.mk hR4; have HPUT := Lib.hid hput; have k2 := blk_below (blk_drew K6.out) hb; have k3 := blk_below (blk_drew K7.out) hb; have K8 := Aside0.mk k2; have K9 := Aside0.mk k3; obtain ⟨x0, x1, -⟩ := cells_2 k2; have hx4 := pw_cell_below HB4.out HC.out; have hy4 := pw_cell_below HB4.out HC2.out; clear hb k2 k3 hq hR4 hput hrow hlr)
      | (go_at_call 57; (with_reducible refine (HP2.out _ _ _ _ _ HR4.out).mono ?_); rintro e w5 ⟨A5, c5, rfl, hrow, hb⟩; rw [HPUT.out]; rw [upd_at] at hrow ⊢; have HROW := Aside0.mk hrow; obtain ⟨C0, m0, e0, C1, m1, e1, hpq⟩ := putS_pair b A0 A1 A5 (F false).length (F true).length (((F b).set i (sx (F b) k)).set k (sx (F b) i)).length c0 c1 c5; rw [hpq]; have HPQ := Lib.hid hpq; have k2 := blk_below K8.out hb; have k3 := blk_below K9.out hb; have K10 := Aside0.mk k3; have HB5 := Aside0.mk (below_step HB4.out hb); obtain ⟨z0, z1, -⟩ := cells_2 k2; obtain ⟨y0, y1, yf0, yf1⟩ := cells_2 k3; have hx5 := pw_cell_below HB5.out HC.out; have hy5 := pw_cell_below HB5.out HC2.out; have hx6 := pw_cell_below (below_set (below_set HB5.out (g := w.heap.size + 1) (j := 0) (v := .slice C0 m0 e0) (by omega)) (g := w.heap.size + 1) (j := 1) (v := .slice C1 m1 e1) (by omega)) HC.out; have hy6 := pw_cell_below (below_set (below_set HB5.out (g := w.heap.size + 1) (j := 0) (v := .slice C0 m0 e0) (by omega)) (g := w.heap.size + 1) (j := 1) (v := .slice C1 m1 e1) (by omega)) HC2.out; clear hb k2 k3 hpq hrow)))
  all_goals
    (try go_wp2)
    refine bodyPost_ret (results_ct rfl _ _ (w.heap.size + 1) 77 _ (0, 0) _ rfl (by simpa using blk_set (blk_set K10.out 0 (.slice C0 m0 e0)) 1 (.slice C1 m1 e1)) Try.underlying77 rfl (by kernel_rfl)) rfl ?_
    exact ⟨_, by rw [HPQ.out]; rfl, below_set (below_set HB5.out (by omega)) (by omega), .inr (new_sets (new_lower HROW.out HB4.out) K10.out)⟩
end Go.Proofs.Ytedhckojeephaaa.P
