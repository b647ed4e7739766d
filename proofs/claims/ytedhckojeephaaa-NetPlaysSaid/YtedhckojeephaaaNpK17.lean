/- The document's network (package trefoilref12): what is turned. -/
import Derived.Laws.BytesArg
import Derived.Test.YtedhckojeephaaaNpPx0
import Derived.Test.YtedhckojeephaaaNpK0
import Derived.Test.YtedhckojeephaaaNpK2
import Derived.Test.YtedhckojeephaaaNpK4
import Derived.Test.YtedhckojeephaaaNpK5
import Derived.Test.YtedhckojeephaaaNpK7
import Derived.Test.YtedhckojeephaaaNpK9
import Derived.Test.YtedhckojeephaaaNpK10
import Derived.Test.YtedhckojeephaaaNpK11
import Derived.Test.YtedhckojeephaaaNpK12
namespace Go.Proofs.Ytedhckojeephaaa.P
open Go.RowKit Go.Proofs.YtedhckojeephaaaW.PrintWords Go.Proofs.YtedhckojeephaaaW.PrintLast Go.Proofs.YtedhckojeephaaaW.PrintMore
set_option linter.unusedVariables false
set_option linter.unusedSimpArgs false
attribute [local go_sem ↓] Go.wp_at_zero Go.wp_at_succ

/-! ### ref_net_turn: function 51 -/
/-- a string with a byte turned -/
def turnS (x : ByteArray) (p : Nat) (bits : Int) : ByteArray := strOfNums ((bytesOf x).set p (Go.bits BinOp.xor IntKind.u8 ((bytesOf x).getD p 0) bits))
theorem nums_bytes (l : List UInt8) : (l.map fun b => ((b.toNat : Nat) : Int)).map (fun n => UInt8.ofNat n.toNat) = l := by
  rw [List.map_map]
  refine (List.map_congr_left (fun b _ => ?_)).trans (List.map_id l)
  simp
theorem turn_parts (x : ByteArray) (p : Nat) (bits : Int) (hp : p < x.size) : x.extract 0 p ++ strOfNums [Go.bits BinOp.xor IntKind.u8 (↑(x[p].toNat)) bits] ++ x.extract (p + 1) x.size = turnS x p bits := by
  have hg : (bytesOf x).getD p 0 = ((x[p].toNat : Nat) : Int) := by
    have hl : p < x.data.toList.length := hp
    unfold bytesOf
    rw [List.getD_eq_getElem?_getD, List.getElem?_map, List.getElem?_eq_getElem hl]
    rfl
  apply ByteArray.ext
  apply Array.ext'
  unfold turnS
  rw [hg, strOfNums_data, ByteArray.data_append, ByteArray.data_append, Array.toList_append, Array.toList_append, strOfNums_data, ByteArray.data_extract, ByteArray.data_extract, Array.toList_extract, Array.toList_extract, List.map_set]
  unfold bytesOf
  rw [nums_bytes, List.set_eq_take_append_cons_drop, if_pos (show p < x.data.toList.length from hp)]
  have e1 : List.extract x.data.toList 0 p = List.take p x.data.toList := rfl
  have e2 : List.extract x.data.toList (p + 1) x.size = List.drop (p + 1) x.data.toList := by
    have h : x.size = x.data.toList.length := rfl
    refine List.take_of_length_le ?_
    rw [List.length_drop, h]
    exact Nat.le_refl _
  rw [e1, e2, List.append_assoc]
  rfl
theorem turnS_size (x : ByteArray) (p : Nat) (bits : Int) : (turnS x p bits).size = x.size := by
  unfold turnS
  rw [strOfNums_size, List.length_set]
  unfold bytesOf
  rw [List.length_map]
  rfl
/-- one byte, as a string -/
theorem conv_one (W : World) (y : Int) : (convert 49 9 (.slice (some ⟨W.heap.size, 0, none⟩) 1 1)).run Try.prog ((W.alloc (.cells #[.int .u8 y] 5)).drew) = .ok (.string (strOfNums [y])) ((W.alloc (.cells #[.int .u8 y] 5)).drew) := by
  refine run_convert_bytes_arg _ 49 5 Try.underlying49 Try.underlying5 W.heap.size 0 1 1 [y] rfl (fun i hi => ?_) 9 Try.underlying9
  obtain rfl : i = 0 := by omega
  exact blk_cell (blk_drew (heap_alloc_new W _)) 0
set_option maxHeartbeats 1600000 in
set_option maxRecDepth 100000 in
theorem r_turn_gap (A0 A1 : Option Addr) (c0 c1 : Nat) (F : Bool → List ByteArray) (t : Int) (b : Bool) (ht : t = toOf b) (i : Nat) (hi : i < (F b).length) (p bits : Int) (hp : p < 0 ∨ p ≥ ((sx (F b) i).size : Int)) (w : World) (hR : RefIs w A0 A1 c0 c1 F) :
    Calls Try.prog 51 #[.agg #[.slice A0 (F false).length c0, .slice A1 (F true).length c1], .int .i64 t, .int .i64 (i : Int), .int .i64 p, .int .u8 bits] w (RefSame w (.slice A0 (F false).length c0) (.slice A1 (F true).length c1) (withE 6)) := by
  have HW := Lib.hid (wrong_in A0 A1 c0 c1 F t i b ht ⟨by omega, by omega⟩)
  have k0 := Aside0.mk (blk_alloc (heap_alloc_new w (.cells #[.slice A0 (F false).length c0, .slice A1 (F true).length c1] 77)) (.cells #[.slice none 0 0, .slice none 0 0] 77))
  have k1 := Aside0.mk (blk_snd w (.cells #[.slice A0 (F false).length c0, .slice A1 (F true).length c1] 77) (.slice none 0 0) (.slice none 0 0))
  have b0 := Aside0.mk (below_alloc (below_alloc (Below.refl w.heap.size w) (.cells #[.slice A0 (F false).length c0, .slice A1 (F true).length c1] 77)) (.cells #[.slice none 0 0, .slice none 0 0] 77))
  obtain ⟨A, c, hq, hlc, hr⟩ := hR.pick b
  obtain ⟨ad, rfl, hcell⟩ := str_cell hr i hi
  have HP := Lib.hid hq
  have HT := Lib.hid ht
  have HC := Lib.hid hcell
  have hj0 : (0 : Int) ≤ (i : Int) := by omega
  have hj1 : (i : Int) < ((F b).length : Int) := by omega
  clear hR hq ht hr hcell hlc
  obtain ⟨x, hx⟩ : ∃ x, x = sx (F b) i := ⟨_, rfl⟩
  rw [← hx] at hp HC
  clear hx
  rcases hp with hp | hp
  all_goals
    go_enter Try.func51, Try.ntmps51
    go_wp2_with (first
      | (go_at_call 56; refine (HW.out _).mono ?_; rintro e w1 ⟨rfl, hb⟩; have k2 := blk_below k0.out hb; have k3 := blk_below k1.out hb; have K2 := Aside0.mk k2; have K3 := Aside0.mk k3; have HB1 := Aside0.mk (below_step b0.out hb); obtain ⟨q0, q1, qf0, qf1⟩ := cells_2 k2; obtain ⟨r0, r1, rf0, rf1⟩ := cells_2 k3; clear hb k2 k3)
      | (go_at_call 55; refine (r_to A0 A1 _ _ c0 c1 t b HT.out _).mono ?_; rintro e w3 ⟨rfl, hb⟩; rw [HP.out]; have k2 := blk_below K2.out hb; have k3 := blk_below K3.out hb; have K6 := Aside0.mk k2; have K7 := Aside0.mk k3; have HB3 := Aside0.mk (below_step HB1.out hb); obtain ⟨u0, u1, -⟩ := cells_2 k2; obtain ⟨y0, y1, yf0, yf1⟩ := cells_2 k3; have hx3 := pw_cell_below HB3.out HC.out; clear hb k2 k3))
    all_goals
      refine bodyPost_ret (results_ct rfl _ _ (w.heap.size + 1) 77 _ (0, 0) _ rfl (by simpa using blk_set (blk_set K7.out 0 (.slice A0 (F false).length c0)) 1 (.slice A1 (F true).length c1)) Try.underlying77 rfl (by kernel_rfl)) rfl ?_
      exact ⟨rfl, below_set (below_set HB3.out (by omega)) (by omega)⟩
set_option maxHeartbeats 1600000 in
set_option maxRecDepth 100000 in
theorem r_turn_ok (A0 A1 : Option Addr) (c0 c1 : Nat) (F : Bool → List ByteArray) (t : Int) (b : Bool) (ht : t = toOf b) (i : Nat) (hi : i < (F b).length) (p : Nat) (bits : Int) (hp : (p : Int) < ((sx (F b) i).size : Int)) (hsz : (sx (F b) i).size ≤ 131072) (w : World) (hR : RefIs w A0 A1 c0 c1 F) (hs : (F b).length * 16 ≤ 140737488355328) :
    Calls Try.prog 51 #[.agg #[.slice A0 (F false).length c0, .slice A1 (F true).length c1], .int .i64 t, .int .i64 (i : Int), .int .i64 (p : Int), .int .u8 bits] w (RefAns w (.slice A0 (F false).length c0) (.slice A1 (F true).length c1) b F ((F b).set i (turnS (sx (F b) i) p bits)) (withE 0)) := by
  have HW := Lib.hid (wrong_in A0 A1 c0 c1 F t i b ht ⟨by omega, by omega⟩)
  have HP1 := Lib.hid (fun W hb s => r_put A0 A1 c0 c1 F t b ht i s hi W (hR.below hb) hs)
  have k0 := Aside0.mk (blk_alloc (heap_alloc_new w (.cells #[.slice A0 (F false).length c0, .slice A1 (F true).length c1] 77)) (.cells #[.slice none 0 0, .slice none 0 0] 77))
  have k1 := Aside0.mk (blk_snd w (.cells #[.slice A0 (F false).length c0, .slice A1 (F true).length c1] 77) (.slice none 0 0) (.slice none 0 0))
  have b0 := Aside0.mk (below_alloc (below_alloc (Below.refl w.heap.size w) (.cells #[.slice A0 (F false).length c0, .slice A1 (F true).length c1] 77)) (.cells #[.slice none 0 0, .slice none 0 0] 77))
  obtain ⟨A, c, hq, hlc, hr⟩ := hR.pick b
  obtain ⟨ad, rfl, hcell⟩ := str_cell hr i hi
  have HP := Lib.hid hq
  have HT := Lib.hid ht
  have HC := Lib.hid hcell
  have hj0 : (0 : Int) ≤ (i : Int) := by omega
  have hj1 : (i : Int) < ((F b).length : Int) := by omega
  have hp0 : (0 : Int) ≤ (p : Int) := by omega
  clear hR hq ht hr hcell hlc
  obtain ⟨x, hx⟩ : ∃ x, x = sx (F b) i := ⟨_, rfl⟩
  have HX := Lib.hid hx
  rw [← hx] at hp HC hsz
  clear hx
  have hpN : p < x.size := by omega
  have hpN2 : p ≤ x.size := by omega
  have hpN3 : p + 1 ≤ x.size := by omega
  go_enter Try.func51, Try.ntmps51
  go_wp2_with (first
    | (go_at_call 56; refine (HW.out _).mono ?_; rintro e w1 ⟨rfl, hb⟩; have k2 := blk_below k0.out hb; have k3 := blk_below k1.out hb; have K2 := Aside0.mk k2; have K3 := Aside0.mk k3; have HB1 := Aside0.mk (below_step b0.out hb); obtain ⟨q0, q1, qf0, qf1⟩ := cells_2 k2; obtain ⟨r0, r1, rf0, rf1⟩ := cells_2 k3; clear hb k2 k3)
    | (go_at_call 55; refine (r_to A0 A1 _ _ c0 c1 t b HT.out _).mono ?_; rintro e w3 ⟨rfl, hb⟩; rw [HP.out]; have k2 := blk_below K2.out hb; have k3 := blk_below K3.out hb; have K6 := Aside0.mk k2; have K7 := Aside0.mk k3; have HB3 := Aside0.mk (below_step HB1.out hb); obtain ⟨u0, u1, -⟩ := cells_2 k2; obtain ⟨y0, y1, yf0, yf1⟩ := cells_2 k3; have hx3 := pw_cell_below HB3.out HC.out; clear hb k2 k3))
  have hcv := fun y => conv_one w3 y
  have hp1 : (0 : Int) ≤ (p : Int) + 1 := by omega
  have hp2 : (p : Int) + 1 ≤ (x.size : Int) := by omega
  have hp3 : ((p : Int) + 1).toNat = p + 1 := by omega
  have hw : IntKind.i64.wrap ((p : Int) + 1) = (p : Int) + 1 := IntWalk.i64_in _ ⟨by omega, by omega⟩
  obtain ⟨X1, hX1⟩ : ∃ X1, x.extract 0 p = X1 := ⟨_, rfl⟩
  obtain ⟨X2, hX2⟩ : ∃ X2, x.extract (p + 1) x.size = X2 := ⟨_, rfl⟩
  obtain ⟨Y1, hY1⟩ : ∃ Y1, strOfNums [Go.bits BinOp.xor IntKind.u8 (↑(x[p].toNat)) bits] = Y1 := ⟨_, rfl⟩
  have HE : Aside0 ((F b).set i (X1 ++ Y1 ++ X2) = (F b).set i (turnS (sx (F b) i) p bits)) := ⟨by rw [← hX1, ← hX2, ← hY1, turn_parts x p bits hpN, HX.out]⟩
  have s1 : X1.size ≤ 131072 := by rw [← hX1]; simp; omega
  have s2 : X2.size ≤ 131072 := by rw [← hX2]; simp; omega
  have s3 : Y1.size ≤ 131072 := by rw [← hY1, strOfNums_size]; simp
  have a1 : ¬ 9223372036854775807 < X1.size + Y1.size := by omega
  have a2 : ¬ 9223372036854775807 < X1.size + Y1.size + X2.size := by omega
  have hz := blk_lt K7.out
  have hz0 : w.heap.size < w3.heap.size := by omega
  have n0 : w.heap.size ≠ w3.heap.size := by omega
  have n1 : w.heap.size + 1 ≠ w3.heap.size := by omega
  go_region_with (go_at_call 57; (with_reducible refine (HP1.out _ ?_ _).mono ?_); (first | exact below_drew HB3.out | exact below_drew (below_alloc HB3.out _)); rintro e w4 ⟨A4, c4, rfl, hrow, hb⟩; obtain ⟨C0, m0, e0, C1, m1, e1, hpq⟩ := putS_pair b A0 A1 A4 (F false).length (F true).length ((F b).set i (X1 ++ Y1 ++ X2)).length c0 c1 c4; rw [hpq]; have HPQ := Lib.hid hpq; have HROW := Aside0.mk hrow; have HBW := Aside0.mk hb; have k2 := blk_below (by first | exact blk_drew K6.out | exact blk_drew (blk_alloc K6.out _)) hb; have k3 := blk_below (by first | exact blk_drew K7.out | exact blk_drew (blk_alloc K7.out _)) hb; have K10 := Aside0.mk k3; have HB5 := Aside0.mk (below_step (by first | exact below_drew HB3.out | exact below_drew (below_alloc HB3.out _)) hb); obtain ⟨z0, z1, -⟩ := cells_2 k2; obtain ⟨y0, y1, yf0, yf1⟩ := cells_2 k3; clear hb k2 k3 hpq hrow)
  all_goals
    (try go_wp2)
    refine bodyPost_ret (results_ct rfl _ _ (w.heap.size + 1) 77 _ (0, 0) _ rfl (by simpa using blk_set (blk_set K10.out 0 (.slice C0 m0 e0)) 1 (.slice C1 m1 e1)) Try.underlying77 rfl (by kernel_rfl)) rfl ?_
    have hrow := HROW.out
    have hpq := HPQ.out
    rw [HE.out] at hrow hpq
    refine ⟨.slice A4 ((F b).set i (turnS (sx (F b) i) p bits)).length c4, by rw [hpq]; rfl, below_set (below_set HB5.out (by omega)) (by omega), .inr (new_sets (new_lower hrow ?_) K10.out)⟩
    first | exact below_drew HB3.out | exact below_drew (below_alloc HB3.out _)
end Go.Proofs.Ytedhckojeephaaa.P
