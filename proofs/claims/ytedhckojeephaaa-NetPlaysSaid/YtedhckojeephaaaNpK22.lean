/- NetPlays: a call of both: what is cleared. -/
import Derived.Test.YtedhckojeephaaaNpPx0
import Derived.Test.YtedhckojeephaaaNpK0
import Derived.Test.YtedhckojeephaaaNpK1
import Derived.Test.YtedhckojeephaaaNpK2
import Derived.Test.YtedhckojeephaaaNpK8
import Derived.Test.YtedhckojeephaaaNpK9
import Derived.Test.YtedhckojeephaaaNpK10
import Derived.Test.YtedhckojeephaaaNpK18
import Derived.Test.YtedhckojeephaaaNpK19
import Derived.Test.YtedhckojeephaaaNpK20
namespace Go.Proofs.Ytedhckojeephaaa.P
open Go.RowKit Go.Proofs.YtedhckojeephaaaW.PrintWords Go.Proofs.YtedhckojeephaaaW.PrintLast Go.Proofs.YtedhckojeephaaaW.PrintMore
set_option linter.unusedVariables false
set_option linter.unusedSimpArgs false
attribute [local go_sem ↓] Go.wp_at_zero Go.wp_at_succ

/-! ### net_does_clear: function 35 -/
theorem PlayIs.below {w0 w w1 : World} {g gr : Nat} {F : Bool → List ByteArray} (h : PlayIs w0 w g gr F) (hb : Below w.heap.size w w1) : PlayIs w0 w1 g gr F := by
  obtain ⟨u0, u1, h⟩ := h
  exact ⟨u0, u1, h.below hb⟩
set_option maxHeartbeats 3200000 in
set_option maxRecDepth 100000 in
theorem does_clear_bad (w0 w : World) (g gr : Nat) (F : Bool → List ByteArray) (x : S67) (h0 : (x.f0 == 0) = false) (h1 : (x.f0 == 1) = false) (h2 : (x.f0 == 2) = false) (h3 : (x.f0 == 3) = false) (h4 : (x.f0 == 4) = false) (h5 : (x.f0 == 5) = false) (h6 : (x.f0 == 6) = false) (ht : x.f1 < 0 ∨ x.f1 > 1) (hP : PlayIs w0 w g gr F) :
    Calls Try.prog 35 #[.pointer (some ⟨g, 0, none⟩), .pointer (some ⟨gr, 0, none⟩), .agg #[.int .i64 x.f0, .int .i64 x.f1, .int .i64 x.f2, .int .i64 x.f3, .string x.f4, .int .u8 x.f5]] w (DoesAns w0 g gr F) := by
  obtain ⟨u0, u1, hA⟩ := hP
  obtain ⟨A0, A1, c0, c1, rfl, rfl, hR⟩ := hA.ref
  have hb0 := below_alloc (below_alloc (Below.refl w.heap.size w) (box67 x)) (.cells #[.slice A0 (F false).length c0, .slice A1 (F true).length c1] 77)
  have kr := blk_below hA.blk hb0
  have kn := blk_snd2 w (box67 x) #[.slice A0 (F false).length c0, .slice A1 (F true).length c1] 77
  have hm := (hA.net.below hb0).made
  obtain ⟨r0, r1, rf0, rf1⟩ := cells_2 hA.blk
  obtain ⟨z0, z1, zf0, zf1⟩ := cells_2 kr
  obtain ⟨y0, y1, yf0, yf1⟩ := cells_2 kn
  have hlr := blk_lt hA.blk
  have HA := Aside0.mk hA
  have n0 : gr ≠ w.heap.size := by omega
  have n1 : gr ≠ w.heap.size + 1 := by omega
  have n2 : w.heap.size ≠ gr := by omega
  have n3 : w.heap.size + 1 ≠ gr := by omega
  clear hA hR hb0 kr kn
  rcases ht with ht | ht
  all_goals
    go_enter Try.func35, Try.ntmps35
    go_wp2_with (go_at_call 39; (with_reducible refine (clear_bad g x.f1 _ hm (by omega)).mono ?_); rintro e w2 ⟨rfl, rfl⟩)
    all_goals
      go_ret
      exact ⟨rfl, (HA.out.put.below (below_alloc (Below.refl _ _) _)).below (below_alloc (Below.refl _ _) _)⟩
set_option maxHeartbeats 3200000 in
set_option maxRecDepth 100000 in
theorem does_clear_ok (w0 w : World) (g gr : Nat) (F : Bool → List ByteArray) (x : S67) (b : Bool) (h0 : (x.f0 == 0) = false) (h1 : (x.f0 == 1) = false) (h2 : (x.f0 == 2) = false) (h3 : (x.f0 == 3) = false) (h4 : (x.f0 == 4) = false) (h5 : (x.f0 == 5) = false) (h6 : (x.f0 == 6) = false) (ht : x.f1 = toOf b) (hP : PlayIs w0 w g gr F) :
    Calls Try.prog 35 #[.pointer (some ⟨g, 0, none⟩), .pointer (some ⟨gr, 0, none⟩), .agg #[.int .i64 x.f0, .int .i64 x.f1, .int .i64 x.f2, .int .i64 x.f3, .string x.f4, .int .u8 x.f5]] w (DoesAns w0 g gr (upd F b [])) := by
  obtain ⟨u0, u1, hA⟩ := hP
  obtain ⟨A0, A1, c0, c1, rfl, rfl, hR⟩ := hA.ref
  have hb0 := below_alloc (below_alloc (Below.refl w.heap.size w) (box67 x)) (.cells #[.slice A0 (F false).length c0, .slice A1 (F true).length c1] 77)
  have kx := blk_alloc (heap_alloc_new w (box67 x)) (.cells #[.slice A0 (F false).length c0, .slice A1 (F true).length c1] 77)
  have kn := blk_snd2 w (box67 x) #[.slice A0 (F false).length c0, .slice A1 (F true).length c1] 77
  have kr := blk_below hA.blk hb0
  obtain ⟨r0, r1, rf0, rf1⟩ := cells_2 hA.blk
  have hlr := blk_lt hA.blk
  have hlg := blk_lt (show w.heap[g]? = _ from hA.net.choose_spec.choose_spec.blk)
  have h01 := toOf_01 b
  rw [← ht] at h01
  have t0 : 0 ≤ x.f1 := by omega
  have t1 : x.f1 ≤ 1 := by omega
  have HA := Aside0.mk hA
  have HR := Aside0.mk hR
  have HB0 := Aside0.mk hb0
  have KX := Aside0.mk kx
  have KN := Aside0.mk kn
  have KR := Aside0.mk kr
  have HT := Lib.hid ht
  have n0 : gr ≠ w.heap.size := by omega
  have n1 : gr ≠ w.heap.size + 1 := by omega
  have n2 : w.heap.size ≠ gr := by omega
  have n3 : w.heap.size + 1 ≠ gr := by omega
  clear hA hR hb0 kx kn kr h01 ht
  go_enter Try.func35, Try.ntmps35
  go_wp2_with fail
  obtain ⟨q0, q1, -⟩ := cells_2 KR.out
  obtain ⟨p0, p1, p2, p3, p4, p5, -⟩ := cells_6 KX.out
  go_region_held3 (fun w' => w'.cell? ⟨gr, 0, none⟩ = some (.slice A0 (F false).length c0) ∧ w'.cell? ⟨gr, 1, none⟩ = some (.slice A1 (F true).length c1) ∧ w'.cell? ⟨w.heap.size, 1, none⟩ = some (.int .i64 x.f1)) (go_keep)
    ((go_at_call 52; (with_reducible refine (r_with A0 A1 none _ _ 0 c0 c1 0 x.f1 b HT.out _).mono ?_); rintro e w1 ⟨rfl, hb⟩; obtain ⟨B0, m0, d0, B1, m1, d1, hq⟩ := putS_pair b A0 A1 none (F false).length (F true).length 0 c0 c1 0; rw [hq]; have hkr := blk_below (blk_drew KR.out) hb; have hkx := blk_below (blk_drew KX.out) hb; have hkn := blk_below (blk_drew KN.out) hb; have KX1 := Aside0.mk hkx; have KN1 := Aside0.mk hkn; obtain ⟨s0, s1, -⟩ := cells_2 hkr; obtain ⟨u0, u1, u2, u3, u4, u5, -⟩ := cells_6 hkx; obtain ⟨y0, y1, yf0, yf1⟩ := cells_2 hkn; have HQ := Lib.hid hq; have HBW := Aside0.mk (below_set (g := w.heap.size + 1) (j := 1) (v := .slice B1 m1 d1) (below_set (g := w.heap.size + 1) (j := 0) (v := .slice B0 m0 d0) (below_step (below_drew HB0.out) hb) (by omega)) (by omega)); have KN2 := Aside0.mk (by simpa using blk_set (blk_set hkn 0 (.slice B0 m0 d0)) 1 (.slice B1 m1 d1)); clear hq hb hkr hkx hkn))
  all_goals
    go_wp2_with (go_at_call 39; (with_reducible refine (clear_ok _ w0 _ g F x.f1 b HT.out (HA.out.ask HBW.out) (below_step HA.out.bel HBW.out)).mono ?_); rintro e w2 ⟨rfl, hn⟩; obtain ⟨hst, hnew⟩ := HA.out.step HBW.out (.inr (Kd.R_nil _ _ _ _ _)) HQ.out hn; have HST := Aside0.mk hst; obtain ⟨z0, z1, zf0, zf1⟩ := cells_2 hst.blk; have hkn := (hnew (w.heap.size + 1) (by omega) (blk_lt KN2.out)).trans KN2.out; obtain ⟨x0, x1, -⟩ := cells_2 hkn; clear hst hn hnew hkn)
    go_ret
    exact ⟨rfl, HST.out.put⟩
end Go.Proofs.Ytedhckojeephaaa.P
