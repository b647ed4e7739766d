/- The document's network (package trefoilref12): forged, put behind all others. -/
import Derived.Test.YtedhckojeephaaaNpPx0
import Derived.Test.YtedhckojeephaaaNpK0
import Derived.Test.YtedhckojeephaaaNpK2
import Derived.Test.YtedhckojeephaaaNpK9
import Derived.Test.YtedhckojeephaaaNpK10
import Derived.Test.YtedhckojeephaaaNpK11
namespace Go.Proofs.Ytedhckojeephaaa.P
open Go.RowKit Go.Proofs.YtedhckojeephaaaW.PrintWords Go.Proofs.YtedhckojeephaaaW.PrintLast Go.Proofs.YtedhckojeephaaaW.PrintMore
set_option linter.unusedVariables false
set_option linter.unusedSimpArgs false
attribute [local go_sem ↓] Go.wp_at_zero Go.wp_at_succ

/-! ### ref_net_forge: function 50 -/
theorem new_lower {w W w' : World} {v : Value} {L : List ByteArray} (h : NewRow W w' v L) (hb : Below w.heap.size w W) : NewRow w w' v L := Kd.R_lower h hb.size
theorem new_sets {w w' : World} {v x0 x1 y0 y1 : Value} {g : Nat} {L : List ByteArray} (h : NewRow w w' v L) (hk : w'.heap[g]? = some (.cells #[x0, x1] 77 (0, 0))) : NewRow w ((w'.setCell ⟨g, 0, none⟩ y0).setCell ⟨g, 1, none⟩ y1) v L :=
  Kd.R_set (Kd.R_set h hk (by decide) 0 y0) (blk_set hk 0 y0) (by decide) 1 y1
set_option maxHeartbeats 1600000 in
set_option maxRecDepth 100000 in
theorem r_forge_lim (A0 A1 : Option Addr) (n0 n1 c0 c1 : Nat) (t i : Int) (s : ByteArray) (w : World) (hW : WrongIs (.agg #[.slice A0 n0 c0, .slice A1 n1 c1]) t i 0) (hs : (s.size : Int) > 131072) :
    Calls Try.prog 50 #[.agg #[.slice A0 n0 c0, .slice A1 n1 c1], .int .i64 t, .int .i64 i, .string s] w (RefSame w (.slice A0 n0 c0) (.slice A1 n1 c1) (withE 2)) := by
  have HW := Lib.hid hW
  have k0 := Aside0.mk (blk_alloc (heap_alloc_new w (.cells #[.slice A0 n0 c0, .slice A1 n1 c1] 77)) (.cells #[.slice none 0 0, .slice none 0 0] 77))
  have k1 := Aside0.mk (blk_snd w (.cells #[.slice A0 n0 c0, .slice A1 n1 c1] 77) (.slice none 0 0) (.slice none 0 0))
  have b0 := Aside0.mk (below_alloc (below_alloc (Below.refl w.heap.size w) (.cells #[.slice A0 n0 c0, .slice A1 n1 c1] 77)) (.cells #[.slice none 0 0, .slice none 0 0] 77))
  clear hW
  go_enter Try.func50, Try.ntmps50
  go_wp2_with (first
    | (go_at_call 56; refine (HW.out _).mono ?_; rintro e w1 ⟨rfl, hb⟩; have k2 := blk_below k0.out hb; have k3 := blk_below k1.out hb; have K2 := Aside0.mk k2; have K3 := Aside0.mk k3; have HB1 := Aside0.mk (below_step b0.out hb); obtain ⟨q0, q1, qf0, qf1⟩ := cells_2 k2; obtain ⟨r0, r1, rf0, rf1⟩ := cells_2 k3; clear hb k2 k3))
  refine bodyPost_ret (results_ct rfl _ _ (w.heap.size + 1) 77 _ (0, 0) _ rfl (by simpa using blk_set (blk_set K3.out 0 (.slice A0 n0 c0)) 1 (.slice A1 n1 c1)) Try.underlying77 rfl (by kernel_rfl)) rfl ?_
  exact ⟨rfl, below_set (below_set HB1.out (by omega)) (by omega)⟩
set_option maxHeartbeats 1600000 in
set_option maxRecDepth 100000 in
theorem r_forge_ok (A0 A1 : Option Addr) (c0 c1 : Nat) (F : Bool → List ByteArray) (t : Int) (b : Bool) (ht : t = toOf b) (i : Nat) (s : ByteArray) (hi : i < (F b).length) (w : World) (hR : RefIs w A0 A1 c0 c1 F) (hL : (F b).length * 16 ≤ 140737488355328) (hs : (s.size : Int) ≤ 131072) :
    Calls Try.prog 50 #[.agg #[.slice A0 (F false).length c0, .slice A1 (F true).length c1], .int .i64 t, .int .i64 (i : Int), .string s] w (RefAns w (.slice A0 (F false).length c0) (.slice A1 (F true).length c1) b F ((F b).set i s) (withE 0)) := by
  have HW := Lib.hid (wrong_in A0 A1 c0 c1 F t i b ht ⟨by omega, by omega⟩)
  have HP := Lib.hid (fun W hb => r_put A0 A1 c0 c1 F t b ht i s hi W (hR.below hb) hL)
  have k0 := Aside0.mk (blk_alloc (heap_alloc_new w (.cells #[.slice A0 (F false).length c0, .slice A1 (F true).length c1] 77)) (.cells #[.slice none 0 0, .slice none 0 0] 77))
  have k1 := Aside0.mk (blk_snd w (.cells #[.slice A0 (F false).length c0, .slice A1 (F true).length c1] 77) (.slice none 0 0) (.slice none 0 0))
  have b0 := Aside0.mk (below_alloc (below_alloc (Below.refl w.heap.size w) (.cells #[.slice A0 (F false).length c0, .slice A1 (F true).length c1] 77)) (.cells #[.slice none 0 0, .slice none 0 0] 77))
  have HT := Lib.hid ht
  clear hR hL ht
  go_enter Try.func50, Try.ntmps50
  go_wp2_with (first
    | (go_at_call 56; refine (HW.out _).mono ?_; rintro e w1 ⟨rfl, hb⟩; have k2 := blk_below k0.out hb; have k3 := blk_below k1.out hb; have K2 := Aside0.mk k2; have K3 := Aside0.mk k3; have HB1 := Aside0.mk (below_step b0.out hb); obtain ⟨q0, q1, qf0, qf1⟩ := cells_2 k2; obtain ⟨r0, r1, rf0, rf1⟩ := cells_2 k3; clear hb k2 k3)
    | (go_at_call 57; refine (HP.out _ HB1.out).mono ?_; rintro e w2 ⟨A, c, rfl, hrow, hb⟩; obtain ⟨B0, m0, e0, B1, m1, e1, hpq⟩ := putS_pair b A0 A1 A (F false).length (F true).length ((F b).set i s).length c0 c1 c; rw [hpq]; have HPQ := Lib.hid hpq; have k3 := blk_below K3.out hb; have K4 := Aside0.mk k3; have HB2 := Aside0.mk (below_step HB1.out hb); have HRow := Aside0.mk (new_lower hrow HB1.out); obtain ⟨y0, y1, yf0, yf1⟩ := cells_2 k3; clear hb k3 hpq hrow))
  refine bodyPost_ret (results_ct rfl _ _ (w.heap.size + 1) 77 _ (0, 0) _ rfl (by simpa using blk_set (blk_set K4.out 0 (.slice B0 m0 e0)) 1 (.slice B1 m1 e1)) Try.underlying77 rfl (by kernel_rfl)) rfl ?_
  exact ⟨_, by rw [HPQ.out]; rfl, below_set (below_set HB2.out (by omega)) (by omega), .inr (new_sets HRow.out K4.out)⟩
end Go.Proofs.Ytedhckojeephaaa.P
