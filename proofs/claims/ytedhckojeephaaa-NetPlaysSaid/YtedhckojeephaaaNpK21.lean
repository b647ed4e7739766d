/- NetPlays: a call of both: what arrives; what is cleared. -/
import Derived.Test.YtedhckojeephaaaNpPx0
import Derived.Test.YtedhckojeephaaaNpK0
import Derived.Test.YtedhckojeephaaaNpK1
import Derived.Test.YtedhckojeephaaaNpK2
import Derived.Test.YtedhckojeephaaaNpK5
import Derived.Test.YtedhckojeephaaaNpK8
import Derived.Test.YtedhckojeephaaaNpK9
import Derived.Test.YtedhckojeephaaaNpK10
import Derived.Test.YtedhckojeephaaaNpK11
import Derived.Test.YtedhckojeephaaaNpK12
import Derived.Test.YtedhckojeephaaaNpK14
import Derived.Test.YtedhckojeephaaaNpK15
import Derived.Test.YtedhckojeephaaaNpK18
import Derived.Test.YtedhckojeephaaaNpK19
import Derived.Test.YtedhckojeephaaaNpK20
namespace Go.Proofs.Ytedhckojeephaaa.P
open Go.RowKit Go.Proofs.YtedhckojeephaaaW.PrintWords Go.Proofs.YtedhckojeephaaaW.PrintLast Go.Proofs.YtedhckojeephaaaW.PrintMore
set_option linter.unusedVariables false
set_option linter.unusedSimpArgs false
attribute [local go_sem ↓] Go.wp_at_zero Go.wp_at_succ

/-! ### net_does_take: function 35 -/
theorem ans_alloc {w W : World} {b : Bool} {F : Bool → List ByteArray} {L : List ByteArray} {s0 s1 v : Value} (h : (v = pickS b s0 s1 ∧ L = F b) ∨ NewRow w W v L) (o : Obj) : (v = pickS b s0 s1 ∧ L = F b) ∨ NewRow w (W.alloc o) v L := h.imp id fun h => Kd.R_alloc h o
theorem ans_low {w W0 W : World} {b : Bool} {F : Bool → List ByteArray} {L : List ByteArray} {s0 s1 v : Value} (h : (v = pickS b s0 s1 ∧ L = F b) ∨ NewRow W0 W v L) (hb : Below w.heap.size w W0) : (v = pickS b s0 s1 ∧ L = F b) ∨ NewRow w W v L := h.imp id fun h => new_lower h hb
set_option maxHeartbeats 3200000 in
set_option maxRecDepth 100000 in
theorem does_take (w0 w : World) (g gr : Nat) (F : Bool → List ByteArray) (x : S67) (b : Bool) (L : List ByteArray) (err : Int) (s : ByteArray) (h0 : (x.f0 == 0) = false) (hk : (x.f0 == 1) = true) (hP : PlayIs w0 w g gr F)
    (hREF : ∀ W A0 A1 c0 c1, RefIs W A0 A1 c0 c1 F → Calls Try.prog 47 #[.agg #[.slice A0 (F false).length c0, .slice A1 (F true).length c1], .int .i64 x.f1, .int .i64 x.f2] W (RefAns W (.slice A0 (F false).length c0) (.slice A1 (F true).length c1) b F L (withSE s err)))
    (hNET : ∀ ok W, NetIs ok w0 W g F → Below w0.heap.size w0 W → Calls Try.prog 28 #[.pointer (some ⟨g, 0, none⟩), .int .i64 x.f1, .int .i64 x.f2] W (NetAns ok w0 W g F b (.tuple #[.string s, .int .i64 err]) L)) :
    Calls Try.prog 35 #[.pointer (some ⟨g, 0, none⟩), .pointer (some ⟨gr, 0, none⟩), .agg #[.int .i64 x.f0, .int .i64 x.f1, .int .i64 x.f2, .int .i64 x.f3, .string x.f4, .int .u8 x.f5]] w (DoesAns w0 g gr (upd F b L)) := by
  obtain ⟨u0, u1, hA⟩ := hP
  obtain ⟨A0, A1, c0, c1, rfl, rfl, hR⟩ := hA.ref
  have hb0 := below_alloc (below_alloc (Below.refl w.heap.size w) (box67 x)) (.cells #[.slice A0 (F false).length c0, .slice A1 (F true).length c1] 77)
  have kx := blk_alloc (heap_alloc_new w (box67 x)) (.cells #[.slice A0 (F false).length c0, .slice A1 (F true).length c1] 77)
  have kn := blk_snd2 w (box67 x) #[.slice A0 (F false).length c0, .slice A1 (F true).length c1] 77
  have kr := blk_below hA.blk hb0
  obtain ⟨r0, r1, rf0, rf1⟩ := cells_2 hA.blk
  have hlr := blk_lt hA.blk
  have hlg := blk_lt (show w.heap[g]? = _ from hA.net.choose_spec.choose_spec.blk)
  have HA := Aside0.mk hA
  have HR := Aside0.mk hR
  have HB0 := Aside0.mk hb0
  have KX := Aside0.mk kx
  have KN := Aside0.mk kn
  have KR := Aside0.mk kr
  have HREF := Lib.hid hREF
  have HNET := Lib.hid hNET
  have n0 : gr ≠ w.heap.size := by omega
  have n1 : gr ≠ w.heap.size + 1 := by omega
  have n2 : w.heap.size ≠ gr := by omega
  have n3 : w.heap.size + 1 ≠ gr := by omega
  have n4 : w.heap.size + 1 + 1 ≠ gr := by omega
  have n5 : w.heap.size + 1 + 1 ≠ w.heap.size := by omega
  have n6 : w.heap.size ≠ w.heap.size + 1 + 1 := by omega
  clear hA hR hb0 kx kn kr hREF hNET
  go_enter Try.func35, Try.ntmps35
  go_upto_region 13 with fail
  go_cut [11, 12, 13] (fun v11 v12 v13 wc => ∃ (gl : Nat) (v : Value) (B0 B1 : Option Addr) (m0 d0 m1 d1 : Nat), v11 = .pointer (some ⟨gl, 0, none⟩) ∧ v12 = .string s ∧ v13 = .int .i64 err ∧ Aside0 (wc.heap[gl]? = some (.cells #[.slice B0 m0 d0, .slice B1 m1 d1] 77 (0, 0))) ∧ Aside0 (Below w.heap.size w wc) ∧ Aside0 (putS b (.slice A0 (F false).length c0) (.slice A1 (F true).length c1) v = .agg #[.slice B0 m0 d0, .slice B1 m1 d1]) ∧ Aside0 ((v = pickS b (.slice A0 (F false).length c0) (.slice A1 (F true).length c1) ∧ L = F b) ∨ NewRow w wc v L) ∧ w.heap.size + 2 ≤ gl ∧ Aside0 (wc.heap[w.heap.size]? = some (.cells #[.int .i64 x.f0, .int .i64 x.f1, .int .i64 x.f2, .int .i64 x.f3, .string x.f4, .int .u8 x.f5] 67 (0, 0))) ∧ Aside0 (wc.heap[w.heap.size + 1]? = some (.cells #[.slice A0 (F false).length c0, .slice A1 (F true).length c1] 77 (0, 0))))
  case first =>
    obtain ⟨q0, q1, -⟩ := cells_2 KR.out
    obtain ⟨p0, p1, p2, p3, p4, p5, -⟩ := cells_6 KX.out
    go_region_held3 (fun w' => w'.cell? ⟨gr, 0, none⟩ = some (.slice A0 (F false).length c0) ∧ w'.cell? ⟨gr, 1, none⟩ = some (.slice A1 (F true).length c1) ∧ w'.cell? ⟨w.heap.size, 1, none⟩ = some (.int .i64 x.f1) ∧ w'.cell? ⟨w.heap.size, 2, none⟩ = some (.int .i64 x.f2)) (go_keep)
      ((go_at_call 47; (with_reducible refine (HREF.out _ A0 A1 c0 c1 ?_).mono ?_); (first | exact HR.out.below (below_drew HB0.out) | exact HR.out.below (below_alloc (below_drew HB0.out) _)); intro e w1 h; obtain ⟨v, B0, m0, d0, B1, m1, d1, hq, rfl, hb, hv⟩ := h.slices; have hkr := blk_below (by first | exact blk_drew KR.out | exact blk_alloc (blk_drew KR.out) _) hb; have hkx := blk_below (by first | exact blk_drew KX.out | exact blk_alloc (blk_drew KX.out) _) hb; have hkn := blk_below (by first | exact blk_drew KN.out | exact blk_alloc (blk_drew KN.out) _) hb; have KX1 := Aside0.mk hkx; have KN1 := Aside0.mk hkn; obtain ⟨s0, s1, -⟩ := cells_2 hkr; obtain ⟨t0, t1, t2, t3, t4, t5, -⟩ := cells_6 hkx; have HQ := Lib.hid hq; have HB1 := Aside0.mk hb; have HV := Aside0.mk hv; have hlw := hb.size; (try (have hkl : w1.heap[w.heap.size + 1 + 1]? = some (.cells #[.slice none 0 0, .slice none 0 0] 77 (0, 0)) := (by refine blk_below (blk_drew (blk_at ?_)) hb; simp); have KL1 := Aside0.mk hkl; obtain ⟨y0, y1, yf0, yf1⟩ := cells_2 hkl; clear hkl)); clear hq hv hb h hkr hkx hkn))
    all_goals (try go_wp2)
    all_goals go_meet
    all_goals first
      | exact ⟨_, v, B0, B1, m0, d0, m1, d1, rfl, rfl, rfl, ⟨heap_alloc_new w1 _⟩, ⟨below_alloc (below_step (below_drew HB0.out) HB1.out) _⟩, ⟨HQ.out⟩, ⟨ans_alloc (ans_low HV.out (below_drew HB0.out)) _⟩, by have := HB1.out.size; simp at this; omega, ⟨blk_alloc KX1.out _⟩, ⟨blk_alloc KN1.out _⟩⟩
      | exact ⟨_, v, B0, B1, m0, d0, m1, d1, rfl, rfl, rfl, ⟨by simpa using blk_set (blk_set KL1.out 0 (.slice B0 m0 d0)) 1 (.slice B1 m1 d1)⟩, ⟨below_set (below_set (below_step (below_drew (below_alloc HB0.out _)) HB1.out) (by omega)) (by omega)⟩, ⟨HQ.out⟩, ⟨ans_sets HV.out (below_drew (below_alloc HB0.out _)) KL1.out⟩, by omega, ⟨blk_far (blk_far KX1.out (by show w.heap.size ≠ w.heap.size + 1 + 1; omega) _) (by show w.heap.size ≠ w.heap.size + 1 + 1; omega) _⟩, ⟨blk_far (blk_far KN1.out (by show w.heap.size + 1 ≠ w.heap.size + 1 + 1; omega) _) (by show w.heap.size + 1 ≠ w.heap.size + 1 + 1; omega) _⟩⟩
  case rest =>
    clear HR HREF KX KN KR HB0
    obtain ⟨gl, v, B0, B1, m0, d0, m1, d1, rfl, rfl, rfl, HL, HBW, HQ, HV, hgl, KX, KN⟩ := hcut
    obtain ⟨p0, p1, p2, p3, p4, p5, -⟩ := cells_6 KX.out
    have lgl := blk_lt HL.out
    have lgn := blk_lt KN.out
    have e0 : gl ≠ w.heap.size + 1 := by omega
    have e1 : w.heap.size + 1 ≠ gl := by omega
    have e2 : gl ≠ gr := by omega
    have e3 : gr ≠ gl := by omega
    have e4 : w.heap.size + 1 ≠ g := by omega
    have lw0 := HA.out.bel.size
    go_wp2_with (go_at_call 28; (with_reducible refine (HNET.out _ _ (HA.out.ask HBW.out) (below_step HA.out.bel HBW.out)).mono ?_); rintro e w2 ⟨rfl, hn⟩; obtain ⟨hst, hnew⟩ := HA.out.step HBW.out HV.out HQ.out hn; have hkl := (hnew gl (by omega) lgl).trans HL.out; have hkn := (hnew (w.heap.size + 1) (by omega) lgn).trans KN.out; obtain ⟨x0, x1, -⟩ := cells_2 hkl; obtain ⟨y0, y1, yf0, yf1⟩ := cells_2 hkn; have hst2 := (hst.far hkn e4 n3 (by omega) 0 (.slice B0 m0 d0)).far (blk_set hkn 0 _) e4 n3 (by omega) 1 (.slice B1 m1 d1); have HST := Aside0.mk hst2; obtain ⟨z0, z1, zf0, zf1⟩ := cells_2 hst2.blk; have KN2 := Aside0.mk (by simpa using blk_set (blk_set hkn 0 (.slice B0 m0 d0)) 1 (.slice B1 m1 d1)); obtain ⟨a0, a1, -⟩ := cells_2 KN2.out; clear hst hn hnew hkn hkl hst2)
    go_ret
    exact ⟨rfl, HST.out.put⟩
end Go.Proofs.Ytedhckojeephaaa.P
