/- The document's network (package trefoilref12): what is sent. -/
import Derived.Test.YtedhckojeephaaaNpPx0
import Derived.Test.YtedhckojeephaaaNpK0
import Derived.Test.YtedhckojeephaaaNpK2
import Derived.Test.YtedhckojeephaaaNpK9
import Derived.Test.YtedhckojeephaaaNpK10
import Derived.Test.YtedhckojeephaaaNpK11
import Derived.Test.YtedhckojeephaaaNpK12
namespace Go.Proofs.Ytedhckojeephaaa.P
open Go.RowKit Go.Proofs.YtedhckojeephaaaW.PrintWords Go.Proofs.YtedhckojeephaaaW.PrintLast Go.Proofs.YtedhckojeephaaaW.PrintMore
set_option linter.unusedVariables false
set_option linter.unusedSimpArgs false
attribute [local go_sem ↓] Go.wp_at_zero Go.wp_at_succ

/-! ### ref_net_send: function 46 -/
set_option maxHeartbeats 1600000 in
set_option maxRecDepth 100000 in
theorem r_send_bad (A0 A1 : Option Addr) (n0 n1 c0 c1 : Nat) (t : Int) (s : ByteArray) (w : World) (ht : t < 0 ∨ t > 1) :
    Calls Try.prog 46 #[.agg #[.slice A0 n0 c0, .slice A1 n1 c1], .int .i64 t, .string s] w (RefSame w (.slice A0 n0 c0) (.slice A1 n1 c1) (withE 1)) := by
  have k1 := Aside0.mk (blk_snd w (.cells #[.slice A0 n0 c0, .slice A1 n1 c1] 77) (.slice none 0 0) (.slice none 0 0))
  have b0 := Aside0.mk (below_alloc (below_alloc (Below.refl w.heap.size w) (.cells #[.slice A0 n0 c0, .slice A1 n1 c1] 77)) (.cells #[.slice none 0 0, .slice none 0 0] 77))
  rcases ht with ht | ht
  all_goals
    go_enter Try.func46, Try.ntmps46
    go_wp2
    all_goals
      refine bodyPost_ret (results_ct rfl _ _ (w.heap.size + 1) 77 _ (0, 0) _ rfl (blk_snd w _ _ _) Try.underlying77 rfl (by kernel_rfl)) rfl ?_
      exact ⟨rfl, below_alloc (below_alloc (Below.refl _ _) _) _⟩
set_option maxHeartbeats 1600000 in
set_option maxRecDepth 100000 in
theorem r_send_lim (A0 A1 : Option Addr) (n0 n1 c0 c1 : Nat) (t : Int) (s : ByteArray) (w : World) (h0 : 0 ≤ t) (h1 : t ≤ 1) (hs : (s.size : Int) > 131072) :
    Calls Try.prog 46 #[.agg #[.slice A0 n0 c0, .slice A1 n1 c1], .int .i64 t, .string s] w (RefSame w (.slice A0 n0 c0) (.slice A1 n1 c1) (withE 2)) := by
  have k1 := Aside0.mk (blk_snd w (.cells #[.slice A0 n0 c0, .slice A1 n1 c1] 77) (.slice none 0 0) (.slice none 0 0))
  have b0 := Aside0.mk (below_alloc (below_alloc (Below.refl w.heap.size w) (.cells #[.slice A0 n0 c0, .slice A1 n1 c1] 77)) (.cells #[.slice none 0 0, .slice none 0 0] 77))
  go_enter Try.func46, Try.ntmps46
  go_wp2
  refine bodyPost_ret (results_ct rfl _ _ (w.heap.size + 1) 77 _ (0, 0) _ rfl (blk_snd w _ _ _) Try.underlying77 rfl (by kernel_rfl)) rfl ?_
  exact ⟨rfl, below_alloc (below_alloc (Below.refl _ _) _) _⟩
set_option maxHeartbeats 1600000 in
set_option maxRecDepth 100000 in
theorem r_send_full (A0 A1 : Option Addr) (c0 c1 : Nat) (F : Bool → List ByteArray) (t : Int) (b : Bool) (ht : t = toOf b) (s : ByteArray) (w : World) (hs : (s.size : Int) ≤ 131072) (hl : ((F b).length : Int) ≥ 64) (hR : RefIs w A0 A1 c0 c1 F) :
    Calls Try.prog 46 #[.agg #[.slice A0 (F false).length c0, .slice A1 (F true).length c1], .int .i64 t, .string s] w (RefSame w (.slice A0 (F false).length c0) (.slice A1 (F true).length c1) (withE 16)) := by
  have k0 := Aside0.mk (blk_alloc (heap_alloc_new w (.cells #[.slice A0 (F false).length c0, .slice A1 (F true).length c1] 77)) (.cells #[.slice none 0 0, .slice none 0 0] 77))
  have k1 := Aside0.mk (blk_snd w (.cells #[.slice A0 (F false).length c0, .slice A1 (F true).length c1] 77) (.slice none 0 0) (.slice none 0 0))
  have b0 := Aside0.mk (below_alloc (below_alloc (Below.refl w.heap.size w) (.cells #[.slice A0 (F false).length c0, .slice A1 (F true).length c1] 77)) (.cells #[.slice none 0 0, .slice none 0 0] 77))
  obtain ⟨A, c, hp, -, -⟩ := hR.pick b
  have HP := Lib.hid hp
  have HT := Lib.hid ht
  have h01 := toOf_01 b
  rw [← ht] at h01
  have h0 : 0 ≤ t := by omega
  have h1 : t ≤ 1 := by omega
  clear hR hp ht h01
  go_enter Try.func46, Try.ntmps46
  go_wp2_with (go_at_call 55; refine (r_to A0 A1 _ _ c0 c1 t b HT.out _).mono ?_; rintro e w1 ⟨rfl, hb⟩; rw [HP.out]; have k2 := blk_below k0.out hb; have k3 := blk_below k1.out hb; have K3 := Aside0.mk k3; have HB1 := Aside0.mk (below_step b0.out hb); obtain ⟨q0, q1, qf0, qf1⟩ := cells_2 k2; obtain ⟨r0, r1, rf0, rf1⟩ := cells_2 k3; clear hb k2 k3)
  refine bodyPost_ret (results_ct rfl _ _ (w.heap.size + 1) 77 _ (0, 0) _ rfl (by simpa using blk_set (blk_set K3.out 0 (.slice A0 (F false).length c0)) 1 (.slice A1 (F true).length c1)) Try.underlying77 rfl (by kernel_rfl)) rfl ?_
  exact ⟨rfl, below_set (below_set HB1.out (by omega)) (by omega)⟩
theorem lit_grown {W w3 : World} {ge : Nat} {s : ByteArray} (hE : W.heap[ge]? = some (.cells #[] 9 (0, 0))) (hg : W.grownBy w3 (Value.slice (some ⟨ge, 0, none⟩) 0 0).ownBlock) {g : Nat} (h : W.heap[g]? = some (.cells #[.string s] 9 (0, 0))) : w3.heap[g]? = some (.cells #[.string s] 9 (0, 0)) := by
  refine blk_grown h hg (fun e => ?_)
  have e' : g = ge := by simpa [Value.ownBlock] using e
  rw [e', hE] at h
  simp at h
theorem lit1_at {w W : World} {g : Nat} {s : ByteArray} (h : W.heap[g]? = some (.cells #[.string s] 9 (0, 0))) : ReadsRow (Kd.string.K w) Kd.string.sz W (some ⟨g, 0, none⟩) 1 [s] := by
  refine ⟨rfl, by simp, fun _ => ⟨_, rfl, fun j p hj => ⟨[.string p], rfl, rfl, fun i u hu => ?_⟩⟩⟩
  rw [add_plain, blk_cell h]
  match i, hu with
  | 0, hu =>
    obtain rfl := Option.some.inj hu
    match j, hj with
    | 0, hj => obtain rfl := Option.some.inj hj; rfl
set_option maxHeartbeats 1600000 in
set_option maxRecDepth 100000 in
theorem r_send_ok (A0 A1 : Option Addr) (c0 c1 : Nat) (F : Bool → List ByteArray) (t : Int) (b : Bool) (ht : t = toOf b) (s : ByteArray) (w : World) (hs : (s.size : Int) ≤ 131072) (hl : (F b).length < 64) (hR : RefIs w A0 A1 c0 c1 F) :
    Calls Try.prog 46 #[.agg #[.slice A0 (F false).length c0, .slice A1 (F true).length c1], .int .i64 t, .string s] w (RefAns w (.slice A0 (F false).length c0) (.slice A1 (F true).length c1) b F (F b ++ [s]) (withE 0)) := by
  have k0 := Aside0.mk (blk_alloc (heap_alloc_new w (.cells #[.slice A0 (F false).length c0, .slice A1 (F true).length c1] 77)) (.cells #[.slice none 0 0, .slice none 0 0] 77))
  have k1 := Aside0.mk (blk_snd w (.cells #[.slice A0 (F false).length c0, .slice A1 (F true).length c1] 77) (.slice none 0 0) (.slice none 0 0))
  have b0 := Aside0.mk (below_alloc (below_alloc (Below.refl w.heap.size w) (.cells #[.slice A0 (F false).length c0, .slice A1 (F true).length c1] 77)) (.cells #[.slice none 0 0, .slice none 0 0] 77))
  obtain ⟨A, c, hp, -, hr⟩ := hR.pick b
  have HP := Lib.hid hp
  have HR := Aside0.mk hr
  have HT := Lib.hid ht
  have h01 := toOf_01 b
  rw [← ht] at h01
  have h0 : 0 ≤ t := by omega
  have h1 : t ≤ 1 := by omega
  have hlI : ((F b).length : Int) < 64 := by omega
  clear hR hp ht h01 hr
  go_enter Try.func46, Try.ntmps46
  go_wp2_with (go_at_call 55; refine (r_to A0 A1 _ _ c0 c1 t b HT.out _).mono ?_; rintro e w1 ⟨rfl, hb⟩; rw [HP.out]; have k2 := blk_below k0.out hb; have k3 := blk_below k1.out hb; have K2 := Aside0.mk k2; have K3 := Aside0.mk k3; have HB1 := Aside0.mk (below_step b0.out hb); obtain ⟨q0, q1, qf0, qf1⟩ := cells_2 k2; obtain ⟨r0, r1, rf0, rf1⟩ := cells_2 k3; clear hb k2 k3)
  have HL := Aside0.mk hl
  clear hlI hl
  have L1 : Later w w1 := ⟨HB1.out⟩
  go_region_held3 (fun w' => w'.cell? ⟨w.heap.size, 0, none⟩ = some (.slice A0 (F false).length c0) ∧ w'.cell? ⟨w.heap.size, 1, none⟩ = some (.slice A1 (F true).length c1)) (go_keep)
    ((first
      | (go_at_call 55; refine (r_to A0 A1 _ _ c0 c1 t b HT.out _).mono ?_; rintro e w2 ⟨rfl, hb⟩; rw [HP.out]; have HB2 := Aside0.mk hb; have L2 : Later w w2 := ⟨below_step Later.below hb⟩; have HW2 := Aside0.mk L2.below; have K4 := Aside0.mk (blk_below (by first | exact blk_drew K2.out | exact blk_alloc (blk_drew K2.out) _ | exact blk_alloc (blk_alloc (blk_drew K2.out) _) _) hb); have K5 := Aside0.mk (blk_below (by first | exact blk_drew K3.out | exact blk_alloc (blk_drew K3.out) _ | exact blk_alloc (blk_alloc (blk_drew K3.out) _) _) hb); obtain ⟨q0, q1, -⟩ := cells_2 K4.out; clear hb)
      | (refine Kd.R_append_rows_step Kd.string (Rr := Kd.string.K w) (w0 := w) w.heap.size (by rfl) (.tmp 27) (.tmp 30) 27 9 (.string ⟨#[]⟩) 16 (by rfl) Try.underlying27 info9 rfl (by decide) (by omega) (.slice (some ⟨_, 0, none⟩) 0 0) [] (F b) A (F b).length c (fun _ => True) (fun _ => False) (by rfl) (by rfl) ?aO ?aR ?aK (fun _ hk => hk.elim) (fun _ _ => trivial) ?aB ?aS ?aL ?_; (case aO => refine R_empty_at ?_ ?_; exact (by with_reducible (repeat (first | (refine blk_at ?_; simp; done) | refine blk_alloc ?_ _ | refine blk_drew ?_ | refine blk_below ?_ HB2.out))); (have := blk_lt K3.out; have := blk_lt K5.out; omega)); (case aR => first | exact Kd.C_below HR.out HW2.out | exact Kd.C_below HR.out (below_alloc HW2.out _) | exact Kd.C_below HR.out (below_alloc (below_alloc HW2.out _) _)); (case aK => exact fun _ _ h => h); (case aB => exact (by with_reducible first | exact HW2.out | exact below_alloc HW2.out _ | exact below_alloc (below_alloc HW2.out _) _)); (case aS => exact ((by with_reducible first | exact HW2.out | exact below_alloc HW2.out _ | exact below_alloc (below_alloc HW2.out _) _) : Below w.heap.size w _).size); (case aL => have := HL.out; simp; omega); intro v3 w3 ho hb hg hat; rw [List.nil_append] at ho; have HO := Aside0.mk ho; have HW3 := Aside0.mk hb; have hlk := fun (g : Nat) h => lit_grown (g := g) (s := s) (by with_reducible (repeat (first | (refine blk_at ?_; simp; done) | refine blk_alloc ?_ _ | refine blk_drew ?_ | refine blk_below ?_ HB2.out))) hg h; have HLK := Lib.hid hlk; have K6 := Aside0.mk (blk_grown (by with_reducible first | exact K4.out | exact blk_alloc K4.out _ | exact blk_alloc (blk_alloc K4.out _) _) hg (by intro e; have := blk_lt K3.out; have := blk_lt K5.out; simp [Value.ownBlock] at e; omega)); have K7 := Aside0.mk (blk_grown (by with_reducible first | exact K5.out | exact blk_alloc K5.out _ | exact blk_alloc (blk_alloc K5.out _) _) hg (by intro e; have := blk_lt K3.out; have := blk_lt K5.out; simp [Value.ownBlock] at e; omega)); obtain ⟨s0, s1, -⟩ := cells_2 K6.out; clear ho hb hg hat hlk)
      | (refine Kd.R_append_rows_step Kd.string (Rr := Kd.string.K w) (w0 := w) w.heap.size (by rfl) (.tmp 31) (.tmp 33) 27 9 (.string ⟨#[]⟩) 16 (by rfl) Try.underlying27 info9 rfl (by decide) (by omega) v3 (F b) [s] (some ⟨_, 0, none⟩) 1 1 (fun _ => True) (fun _ => False) (by rfl) (by rfl) ?aO ?aR ?aK (fun _ hk => hk.elim) (fun _ _ => trivial) ?aB ?aS ?aL ?_; (case aO => with_reducible first | exact HO.out | exact Kd.R_alloc HO.out _); (case aR => refine lit1_at ?_; with_reducible first | exact blk_at (by simp) | exact HLK.out _ (by with_reducible (repeat (first | (refine blk_at ?_; simp; done) | refine blk_alloc ?_ _ | refine blk_drew ?_ | refine blk_below ?_ HB2.out)))); (case aK => exact fun _ _ h => h); (case aB => exact (by with_reducible first | exact HW3.out | exact below_alloc HW3.out _)); (case aS => exact ((by with_reducible first | exact HW3.out | exact below_alloc HW3.out _) : Below w.heap.size w _).size); (case aL => have := HL.out; omega); intro v4 w4 ho hb hg hat; have HO4 := Aside0.mk ho; have HW4 := Aside0.mk hb; have K8 := Aside0.mk (blk_grown (by with_reducible first | exact K6.out | exact blk_alloc K6.out _ | exact blk_alloc (blk_alloc K6.out _) _) hg (Kd.R_ne (by with_reducible first | exact HO.out | exact Kd.R_alloc HO.out _) (by with_reducible first | exact K6.out | exact blk_alloc K6.out _ | exact blk_alloc (blk_alloc K6.out _) _) (by decide))); have K9 := Aside0.mk (blk_grown (by with_reducible first | exact K7.out | exact blk_alloc K7.out _ | exact blk_alloc (blk_alloc K7.out _) _) hg (Kd.R_ne (by with_reducible first | exact HO.out | exact Kd.R_alloc HO.out _) (by with_reducible first | exact K7.out | exact blk_alloc K7.out _ | exact blk_alloc (blk_alloc K7.out _) _) (by decide))); obtain ⟨u0, u1, -⟩ := cells_2 K8.out; obtain ⟨gv, cv, hv, -, -, -⟩ := Kd.R_form ho (by simp); rw [List.length_append, List.length_singleton] at hv; subst hv; clear ho hb hg hat)
      | (go_at_call 52; (with_reducible refine (r_with A0 A1 (some ⟨gv, 0, none⟩) _ _ ((F b).length + 1) c0 c1 cv t b HT.out _).mono ?_); rintro e w5 ⟨rfl, hb⟩; obtain ⟨B0, m0, e0, B1, m1, e1, hpq⟩ := putS_pair b A0 A1 (some ⟨gv, 0, none⟩) (F false).length (F true).length ((F b).length + 1) c0 c1 cv; rw [hpq]; have HPQ := Lib.hid hpq; have k2 := blk_below K8.out hb; have k3 := blk_below K9.out hb; have K10 := Aside0.mk k3; have HW5 := Aside0.mk (below_step HW4.out hb); have HO5 := Aside0.mk (Kd.R_below HO4.out hb); obtain ⟨x0, x1, -⟩ := cells_2 k2; obtain ⟨y0, y1, yf0, yf1⟩ := cells_2 k3; clear hb k2 k3 hpq)))
  all_goals
    (try go_wp2)
    refine bodyPost_ret (results_ct rfl _ _ (w.heap.size + 1) 77 _ (0, 0) _ rfl (by simpa using blk_set (blk_set K10.out 0 (.slice B0 m0 e0)) 1 (.slice B1 m1 e1)) Try.underlying77 rfl (by kernel_rfl)) rfl ?_
    exact ⟨_, by rw [HPQ.out]; rfl, below_set (below_set HW5.out (by omega)) (by omega), .inr (new_sets HO5.out K10.out)⟩
end Go.Proofs.Ytedhckojeephaaa.P
