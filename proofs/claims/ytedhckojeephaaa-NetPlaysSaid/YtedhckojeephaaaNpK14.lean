/- The document's network (package trefoilref12): what is put on its way once more, what changes places. -/
import Derived.Test.YtedhckojeephaaaNpPx0
import Derived.Test.YtedhckojeephaaaNpK0
import Derived.Test.YtedhckojeephaaaNpK2
import Derived.Test.YtedhckojeephaaaNpK4
import Derived.Test.YtedhckojeephaaaNpK5
import Derived.Test.YtedhckojeephaaaNpK9
import Derived.Test.YtedhckojeephaaaNpK10
import Derived.Test.YtedhckojeephaaaNpK11
import Derived.Test.YtedhckojeephaaaNpK12
import Derived.Test.YtedhckojeephaaaNpK13
namespace Go.Proofs.Ytedhckojeephaaa.P
open Go.RowKit Go.Proofs.YtedhckojeephaaaW.PrintWords Go.Proofs.YtedhckojeephaaaW.PrintLast Go.Proofs.YtedhckojeephaaaW.PrintMore
set_option linter.unusedVariables false
set_option linter.unusedSimpArgs false
attribute [local go_sem ↓] Go.wp_at_zero Go.wp_at_succ

/-! ### ref_net_double: function 48 -/
theorem putS_slices (b : Bool) (A0 A1 : Option Addr) (n0 n1 c0 c1 : Nat) (v : Value) (hv : ∃ A n c, v = .slice A n c) : ∃ B0 m0 d0 B1 m1 d1, putS b (.slice A0 n0 c0) (.slice A1 n1 c1) v = .agg #[.slice B0 m0 d0, .slice B1 m1 d1] := by
  obtain ⟨A, n, c, rfl⟩ := hv
  exact putS_pair b A0 A1 A n0 n1 n c0 c1 c
theorem pickS_slice (b : Bool) (A0 A1 : Option Addr) (n0 n1 c0 c1 : Nat) : ∃ A n c, pickS b (.slice A0 n0 c0) (.slice A1 n1 c1) = .slice A n c := by cases b <;> exact ⟨_, _, _, rfl⟩
/-- Send, in one answer -/
theorem r_send_any (A0 A1 : Option Addr) (c0 c1 : Nat) (F : Bool → List ByteArray) (t : Int) (b : Bool) (ht : t = toOf b) (s : ByteArray) (w : World) (hR : RefIs w A0 A1 c0 c1 F) :
    Calls Try.prog 46 #[.agg #[.slice A0 (F false).length c0, .slice A1 (F true).length c1], .int .i64 t, .string s] w (RefAns w (.slice A0 (F false).length c0) (.slice A1 (F true).length c1) b F (sendL (F b) s) (withE (sendE (F b) s))) := by
  have h01 := toOf_01 b
  rw [← ht] at h01
  unfold sendL sendE
  by_cases hs : (s.size : Int) > 131072
  · rw [if_pos hs, if_pos hs]
    exact (r_send_lim A0 A1 _ _ c0 c1 t s w (by omega) (by omega) hs).mono fun e w' h => h.ans b F
  · rw [if_neg hs, if_neg hs]
    by_cases hl : (F b).length ≥ 64
    · rw [if_pos hl, if_pos hl]
      exact (r_send_full A0 A1 c0 c1 F t b ht s w (by omega) (by omega) hR).mono fun e w' h => h.ans b F
    · rw [if_neg hl, if_neg hl]
      exact r_send_ok A0 A1 c0 c1 F t b ht s w (by omega) (by omega) hR
theorem RefAns.slices {w w' : World} {A0 A1 : Option Addr} {n0 n1 c0 c1 : Nat} {b : Bool} {F : Bool → List ByteArray} {L : List ByteArray} {f : Value → Value} {e : Ending} (h : RefAns w (.slice A0 n0 c0) (.slice A1 n1 c1) b F L f e w') :
    ∃ v B0 m0 d0 B1 m1 d1, putS b (.slice A0 n0 c0) (.slice A1 n1 c1) v = .agg #[.slice B0 m0 d0, .slice B1 m1 d1] ∧ e = .returned (f (.agg #[.slice B0 m0 d0, .slice B1 m1 d1])) ∧ Below w.heap.size w w' ∧ ((v = pickS b (.slice A0 n0 c0) (.slice A1 n1 c1) ∧ L = F b) ∨ NewRow w w' v L) := by
  obtain ⟨v, he, hb, hv⟩ := h
  have hs : ∃ A n c, v = .slice A n c := by
    rcases hv with ⟨rfl, -⟩ | hr
    · exact pickS_slice b A0 A1 n0 n1 c0 c1
    · obtain ⟨A, c, e, -⟩ := Kd.R_reads hr
      exact ⟨A, _, c, e⟩
  obtain ⟨B0, m0, d0, B1, m1, d1, hq⟩ := putS_slices b A0 A1 n0 n1 c0 c1 v hs
  exact ⟨v, B0, m0, d0, B1, m1, d1, hq, by rw [he, hq], hb, hv⟩
/-- what is left of a list, or made anew, when the call's own cells are written -/
theorem ans_sets {w W w' : World} {b : Bool} {F : Bool → List ByteArray} {L : List ByteArray} {s0 s1 v x0 x1 y0 y1 : Value} {g : Nat} (h : (v = pickS b s0 s1 ∧ L = F b) ∨ NewRow W w' v L) (hb : Below w.heap.size w W) (hk : w'.heap[g]? = some (.cells #[x0, x1] 77 (0, 0))) : (v = pickS b s0 s1 ∧ L = F b) ∨ NewRow w ((w'.setCell ⟨g, 0, none⟩ y0).setCell ⟨g, 1, none⟩ y1) v L :=
  h.imp id fun h => new_sets (new_lower h hb) hk
set_option maxHeartbeats 1600000 in
set_option maxRecDepth 100000 in
theorem r_double_ok (A0 A1 : Option Addr) (c0 c1 : Nat) (F : Bool → List ByteArray) (t : Int) (b : Bool) (ht : t = toOf b) (i : Nat) (hi : i < (F b).length) (w : World) (hR : RefIs w A0 A1 c0 c1 F) :
    Calls Try.prog 48 #[.agg #[.slice A0 (F false).length c0, .slice A1 (F true).length c1], .int .i64 t, .int .i64 (i : Int)] w (RefAns w (.slice A0 (F false).length c0) (.slice A1 (F true).length c1) b F (sendL (F b) (sx (F b) i)) (withE (sendE (F b) (sx (F b) i)))) := by
  have HW := Lib.hid (wrong_in A0 A1 c0 c1 F t i b ht ⟨by omega, by omega⟩)
  have HS := Lib.hid (fun W hb => r_send_any A0 A1 c0 c1 F t b ht (sx (F b) i) W (hR.below hb))
  have k0 := Aside0.mk (blk_alloc (heap_alloc_new w (.cells #[.slice A0 (F false).length c0, .slice A1 (F true).length c1] 77)) (.cells #[.slice none 0 0, .slice none 0 0] 77))
  have k1 := Aside0.mk (blk_snd w (.cells #[.slice A0 (F false).length c0, .slice A1 (F true).length c1] 77) (.slice none 0 0) (.slice none 0 0))
  have b0 := Aside0.mk (below_alloc (below_alloc (Below.refl w.heap.size w) (.cells #[.slice A0 (F false).length c0, .slice A1 (F true).length c1] 77)) (.cells #[.slice none 0 0, .slice none 0 0] 77))
  obtain ⟨A, c, hp, -, hr⟩ := hR.pick b
  obtain ⟨ad, rfl, hcell⟩ := str_cell hr i hi
  have HP := Lib.hid hp
  have HT := Lib.hid ht
  have HC := Lib.hid hcell
  have hi0 : (0 : Int) ≤ (i : Int) := by omega
  have hi1 : (i : Int) < ((F b).length : Int) := by omega
  clear hR hp ht hr hcell
  go_enter Try.func48, Try.ntmps48
  go_wp2_with (first
    | (go_at_call 56; refine (HW.out _).mono ?_; rintro e w1 ⟨rfl, hb⟩; have k2 := blk_below k0.out hb; have k3 := blk_below k1.out hb; have K2 := Aside0.mk k2; have K3 := Aside0.mk k3; have HB1 := Aside0.mk (below_step b0.out hb); obtain ⟨q0, q1, qf0, qf1⟩ := cells_2 k2; obtain ⟨r0, r1, rf0, rf1⟩ := cells_2 k3; clear hb k2 k3))
  have hx1 := pw_cell_below HB1.out HC.out
  go_region_held3 (fun w' => w'.cell? ⟨w.heap.size, 0, none⟩ = some (.slice A0 (F false).length c0) ∧ w'.cell? ⟨w.heap.size, 1, none⟩ = some (.slice A1 (F true).length c1) ∧ w'.cell? (ad.add i) = some (.string (sx (F b) i))) (go_keep)
    ((first
      | (go_at_call 55; refine (r_to A0 A1 _ _ c0 c1 t b HT.out _).mono ?_; rintro e w2 ⟨rfl, hb⟩; rw [HP.out]; have k2 := blk_below (blk_drew K2.out) hb; have k3 := blk_below (blk_drew K3.out) hb; have K4 := Aside0.mk k2; have K5 := Aside0.mk k3; have HB2 := Aside0.mk (below_step (below_drew HB1.out) hb); obtain ⟨q0, q1, -⟩ := cells_2 k2; have hx2 := pw_cell_below HB2.out HC.out; clear hb k2 k3)
      | (go_at_call 46; (with_reducible refine (HS.out _ HB2.out).mono ?_); intro e w3 h; obtain ⟨v, B0, m0, d0, B1, m1, d1, hq, rfl, hb, hv⟩ := h.slices; have HQ := Lib.hid hq; have k2 := blk_below K4.out hb; have k3 := blk_below K5.out hb; have K6 := Aside0.mk k3; have HB3 := Aside0.mk (below_step HB2.out hb); have HV := Aside0.mk hv; obtain ⟨q0, q1, -⟩ := cells_2 k2; have hx3 := pw_cell_below HB3.out HC.out; have hx4 := pw_cell_below (below_set (below_set HB3.out (g := w.heap.size + 1) (j := 0) (v := .slice B0 m0 d0) (by omega)) (g := w.heap.size + 1) (j := 1) (v := .slice B1 m1 d1) (by omega)) HC.out; obtain ⟨y0, y1, yf0, yf1⟩ := cells_2 k3; clear hb k2 k3 hq hv h)))
  all_goals
    (try go_wp2)
    refine bodyPost_ret (results_ct rfl _ _ (w.heap.size + 1) 77 _ (0, 0) _ rfl (by simpa using blk_set (blk_set K6.out 0 (.slice B0 m0 d0)) 1 (.slice B1 m1 d1)) Try.underlying77 rfl (by kernel_rfl)) rfl ?_
    exact ⟨v, by rw [HQ.out]; rfl, below_set (below_set HB3.out (by omega)) (by omega), ans_sets HV.out HB2.out K6.out⟩
end Go.Proofs.Ytedhckojeephaaa.P
