/- NetPlays: a call of both. -/
import Derived.Deep.DeepCutAuto
import Derived.Test.YtedhckojeephaaaNpPx0
import Derived.Test.YtedhckojeephaaaNpK0
import Derived.Test.YtedhckojeephaaaNpK1
import Derived.Test.YtedhckojeephaaaNpK2
import Derived.Test.YtedhckojeephaaaNpK5
import Derived.Test.YtedhckojeephaaaNpK8
import Derived.Test.YtedhckojeephaaaNpK10
import Derived.Test.YtedhckojeephaaaNpK11
import Derived.Test.YtedhckojeephaaaNpK14
import Derived.Test.YtedhckojeephaaaNpK15
import Derived.Test.YtedhckojeephaaaNpK18
import Derived.Test.YtedhckojeephaaaNpK19
namespace Go.Proofs.Ytedhckojeephaaa.P
open Go.RowKit Go.Proofs.YtedhckojeephaaaW.PrintWords Go.Proofs.YtedhckojeephaaaW.PrintLast Go.Proofs.YtedhckojeephaaaW.PrintMore
set_option linter.unusedVariables false
set_option linter.unusedSimpArgs false
attribute [local go_sem ↓] Go.wp_at_zero Go.wp_at_succ

/-! ### net_does: function 35 -/
theorem blk_snd2 (w : World) (o1 : Obj) (cs : Array Value) (t : TypeId) : ((w.alloc o1).alloc (.cells cs t)).heap[w.heap.size + 1]? = some (.cells cs t (0, 0)) := by
  have h := heap_alloc_new (w.alloc o1) (.cells cs t)
  rw [show (w.alloc o1).heap.size = w.heap.size + 1 by simp] at h
  exact h
abbrev box67 (x : S67) : Obj := .cells #[.int .i64 x.f0, .int .i64 x.f1, .int .i64 x.f2, .int .i64 x.f3, .string x.f4, .int .u8 x.f5] 67
def DoesAns (w0 : World) (g gr : Nat) (F : Bool → List ByteArray) (e : Ending) (w' : World) : Prop := e = .returned (.bool true) ∧ PlayIs w0 w' g gr F
set_option maxHeartbeats 1600000 in
set_option maxRecDepth 100000 in
theorem does_send (w0 w : World) (g gr : Nat) (F : Bool → List ByteArray) (x : S67) (b : Bool) (L : List ByteArray) (err : Int) (hk : (x.f0 == 0) = true) (hP : PlayIs w0 w g gr F)
    (hREF : ∀ W A0 A1 c0 c1, RefIs W A0 A1 c0 c1 F → Calls Try.prog 46 #[.agg #[.slice A0 (F false).length c0, .slice A1 (F true).length c1], .int .i64 x.f1, .string x.f4] W (RefAns W (.slice A0 (F false).length c0) (.slice A1 (F true).length c1) b F L (withE err)))
    (hNET : ∀ ok W, NetIs ok w0 W g F → Below w0.heap.size w0 W → Calls Try.prog 27 #[.pointer (some ⟨g, 0, none⟩), .int .i64 x.f1, .string x.f4] W (NetAns ok w0 W g F b (.int .i64 err) L)) :
    Calls Try.prog 35 #[.pointer (some ⟨g, 0, none⟩), .pointer (some ⟨gr, 0, none⟩), .agg #[.int .i64 x.f0, .int .i64 x.f1, .int .i64 x.f2, .int .i64 x.f3, .string x.f4, .int .u8 x.f5]] w (DoesAns w0 g gr (upd F b L)) := by
  obtain ⟨u0, u1, hA⟩ := hP
  obtain ⟨A0, A1, c0, c1, rfl, rfl, hR⟩ := hA.ref
  have hb0 := below_alloc (below_alloc (Below.refl w.heap.size w) (box67 x)) (.cells #[.slice A0 (F false).length c0, .slice A1 (F true).length c1] 77)
  have kx := blk_alloc (heap_alloc_new w (box67 x)) (.cells #[.slice A0 (F false).length c0, .slice A1 (F true).length c1] 77)
  have kn := blk_snd2 w (box67 x) #[.slice A0 (F false).length c0, .slice A1 (F true).length c1] 77
  have kr := blk_below hA.blk hb0
  obtain ⟨r0, r1, rf0, rf1⟩ := cells_2 hA.blk
  have hlr := blk_lt hA.blk
  have hlg := blk_lt (show w.heap[g]? = _ from hA.net.choose_spec.choose_spec.blk)
  have HA := Aside0.mk hA
  have HR := Aside0.mk hR
  have HB0 := Aside0.mk hb0
  have KX := Aside0.mk kx
  have KN := Aside0.mk kn
  have KR := Aside0.mk kr
  have HREF := Lib.hid hREF
  have HNET := Lib.hid hNET
  have n0 : gr ≠ w.heap.size := by omega
  have n1 : gr ≠ w.heap.size + 1 := by omega
  have n2 : w.heap.size ≠ gr := by omega
  have n3 : w.heap.size + 1 ≠ gr := by omega
  clear hA hR hb0 kx kn kr hREF hNET
  go_enter Try.func35, Try.ntmps35
  go_wp2_with fail
  obtain ⟨q0, q1, -⟩ := cells_2 KR.out
  obtain ⟨p0, p1, p2, p3, p4, p5, -⟩ := cells_6 KX.out
  go_region_held3 (fun w' => w'.cell? ⟨gr, 0, none⟩ = some (.slice A0 (F false).length c0) ∧ w'.cell? ⟨gr, 1, none⟩ = some (.slice A1 (F true).length c1) ∧ w'.cell? ⟨w.heap.size, 1, none⟩ = some (.int .i64 x.f1) ∧ w'.cell? ⟨w.heap.size, 4, none⟩ = some (.string x.f4)) (go_keep)
    ((go_at_call 46; (with_reducible refine (HREF.out _ A0 A1 c0 c1 (HR.out.below (below_drew HB0.out))).mono ?_); intro e w1 h; obtain ⟨v, B0, m0, d0, B1, m1, d1, hq, rfl, hb, hv⟩ := h.slices; have hkr := blk_below (blk_drew KR.out) hb; have hkx := blk_below (blk_drew KX.out) hb; have hkn := blk_below (blk_drew KN.out) hb; have KX1 := Aside0.mk hkx; have KN1 := Aside0.mk hkn; obtain ⟨s0, s1, -⟩ := cells_2 hkr; obtain ⟨t0, t1, t2, t3, t4, t5, -⟩ := cells_6 hkx; obtain ⟨y0, y1, yf0, yf1⟩ := cells_2 hkn; have HQ := Lib.hid hq; have HBW := Aside0.mk (below_set (g := w.heap.size + 1) (j := 1) (v := .slice B1 m1 d1) (below_set (g := w.heap.size + 1) (j := 0) (v := .slice B0 m0 d0) (below_step (below_drew HB0.out) hb) (by omega)) (by omega)); have HV := Aside0.mk (ans_sets (y0 := .slice B0 m0 d0) (y1 := .slice B1 m1 d1) hv (below_drew HB0.out) hkn); have KN2 := Aside0.mk (by simpa using blk_set (blk_set hkn 0 (.slice B0 m0 d0)) 1 (.slice B1 m1 d1)); clear hq hv hb h hkr hkx hkn))
  all_goals
    go_wp2_with (go_at_call 27; (with_reducible refine (HNET.out _ _ (HA.out.ask HBW.out) (below_step HA.out.bel HBW.out)).mono ?_); rintro e w2 ⟨rfl, hn⟩; obtain ⟨hst, hnew⟩ := HA.out.step HBW.out HV.out HQ.out hn; have HST := Aside0.mk hst; obtain ⟨z0, z1, zf0, zf1⟩ := cells_2 hst.blk; have hkn := (hnew (w.heap.size + 1) (by omega) (blk_lt KN2.out)).trans KN2.out; obtain ⟨x0, x1, -⟩ := cells_2 hkn; clear hst hn hnew hkn)
    go_ret
    exact ⟨rfl, HST.out.put⟩
set_option maxHeartbeats 1600000 in
set_option maxRecDepth 100000 in
theorem does_drop (w0 w : World) (g gr : Nat) (F : Bool → List ByteArray) (x : S67) (b : Bool) (L : List ByteArray) (err : Int) (s : ByteArray) (h0 : (x.f0 == 0) = false) (h1 : (x.f0 == 1) = false) (hk : (x.f0 == 2) = true) (hP : PlayIs w0 w g gr F)
    (hREF : ∀ W A0 A1 c0 c1, RefIs W A0 A1 c0 c1 F → Calls Try.prog 47 #[.agg #[.slice A0 (F false).length c0, .slice A1 (F true).length c1], .int .i64 x.f1, .int .i64 x.f2] W (RefAns W (.slice A0 (F false).length c0) (.slice A1 (F true).length c1) b F L (withSE s err)))
    (hNET : ∀ ok W, NetIs ok w0 W g F → Below w0.heap.size w0 W → Calls Try.prog 30 #[.pointer (some ⟨g, 0, none⟩), .int .i64 x.f1, .int .i64 x.f2] W (NetAns ok w0 W g F b (.int .i64 err) L)) :
    Calls Try.prog 35 #[.pointer (some ⟨g, 0, none⟩), .pointer (some ⟨gr, 0, none⟩), .agg #[.int .i64 x.f0, .int .i64 x.f1, .int .i64 x.f2, .int .i64 x.f3, .string x.f4, .int .u8 x.f5]] w (DoesAns w0 g gr (upd F b L)) := by
  obtain ⟨u0, u1, hA⟩ := hP
  obtain ⟨A0, A1, c0, c1, rfl, rfl, hR⟩ := hA.ref
  have hb0 := below_alloc (below_alloc (Below.refl w.heap.size w) (box67 x)) (.cells #[.slice A0 (F false).length c0, .slice A1 (F true).length c1] 77)
  have kx := blk_alloc (heap_alloc_new w (box67 x)) (.cells #[.slice A0 (F false).length c0, .slice A1 (F true).length c1] 77)
  have kn := blk_snd2 w (box67 x) #[.slice A0 (F false).length c0, .slice A1 (F true).length c1] 77
  have kr := blk_below hA.blk hb0
  obtain ⟨r0, r1, rf0, rf1⟩ := cells_2 hA.blk
  have hlr := blk_lt hA.blk
  have hlg := blk_lt (show w.heap[g]? = _ from hA.net.choose_spec.choose_spec.blk)
  have HA := Aside0.mk hA
  have HR := Aside0.mk hR
  have HB0 := Aside0.mk hb0
  have KX := Aside0.mk kx
  have KN := Aside0.mk kn
  have KR := Aside0.mk kr
  have HREF := Lib.hid hREF
  have HNET := Lib.hid hNET
  have n0 : gr ≠ w.heap.size := by omega
  have n1 : gr ≠ w.heap.size + 1 := by omega
  have n2 : w.heap.size ≠ gr := by omega
  have n3 : w.heap.size + 1 ≠ gr := by omega
  clear hA hR hb0 kx kn kr hREF hNET
  go_enter Try.func35, Try.ntmps35
  go_wp2_with fail
  obtain ⟨q0, q1, -⟩ := cells_2 KR.out
  obtain ⟨p0, p1, p2, p3, p4, p5, -⟩ := cells_6 KX.out
  go_region_held3 (fun w' => w'.cell? ⟨gr, 0, none⟩ = some (.slice A0 (F false).length c0) ∧ w'.cell? ⟨gr, 1, none⟩ = some (.slice A1 (F true).length c1) ∧ w'.cell? ⟨w.heap.size, 1, none⟩ = some (.int .i64 x.f1) ∧ w'.cell? ⟨w.heap.size, 2, none⟩ = some (.int .i64 x.f2)) (go_keep)
    ((go_at_call 47; (with_reducible refine (HREF.out _ A0 A1 c0 c1 (HR.out.below (below_drew HB0.out))).mono ?_); intro e w1 h; obtain ⟨v, B0, m0, d0, B1, m1, d1, hq, rfl, hb, hv⟩ := h.slices; have hkr := blk_below (blk_drew KR.out) hb; have hkx := blk_below (blk_drew KX.out) hb; have hkn := blk_below (blk_drew KN.out) hb; have KX1 := Aside0.mk hkx; have KN1 := Aside0.mk hkn; obtain ⟨s0, s1, -⟩ := cells_2 hkr; obtain ⟨t0, t1, t2, t3, t4, t5, -⟩ := cells_6 hkx; obtain ⟨y0, y1, yf0, yf1⟩ := cells_2 hkn; have HQ := Lib.hid hq; have HBW := Aside0.mk (below_set (g := w.heap.size + 1) (j := 1) (v := .slice B1 m1 d1) (below_set (g := w.heap.size + 1) (j := 0) (v := .slice B0 m0 d0) (below_step (below_drew HB0.out) hb) (by omega)) (by omega)); have HV := Aside0.mk (ans_sets (y0 := .slice B0 m0 d0) (y1 := .slice B1 m1 d1) hv (below_drew HB0.out) hkn); have KN2 := Aside0.mk (by simpa using blk_set (blk_set hkn 0 (.slice B0 m0 d0)) 1 (.slice B1 m1 d1)); clear hq hv hb h hkr hkx hkn))
  all_goals
    go_wp2_with (go_at_call 30; (with_reducible refine (HNET.out _ _ (HA.out.ask HBW.out) (below_step HA.out.bel HBW.out)).mono ?_); rintro e w2 ⟨rfl, hn⟩; obtain ⟨hst, hnew⟩ := HA.out.step HBW.out HV.out HQ.out hn; have HST := Aside0.mk hst; obtain ⟨z0, z1, zf0, zf1⟩ := cells_2 hst.blk; have hkn := (hnew (w.heap.size + 1) (by omega) (blk_lt KN2.out)).trans KN2.out; obtain ⟨x0, x1, -⟩ := cells_2 hkn; clear hst hn hnew hkn)
    go_ret
    exact ⟨rfl, HST.out.put⟩
set_option maxHeartbeats 1600000 in
set_option maxRecDepth 100000 in
theorem does_double (w0 w : World) (g gr : Nat) (F : Bool → List ByteArray) (x : S67) (b : Bool) (L : List ByteArray) (err : Int) (h0 : (x.f0 == 0) = false) (h1 : (x.f0 == 1) = false) (h2 : (x.f0 == 2) = false) (hk : (x.f0 == 3) = true) (hP : PlayIs w0 w g gr F)
    (hREF : ∀ W A0 A1 c0 c1, RefIs W A0 A1 c0 c1 F → Calls Try.prog 48 #[.agg #[.slice A0 (F false).length c0, .slice A1 (F true).length c1], .int .i64 x.f1, .int .i64 x.f2] W (RefAns W (.slice A0 (F false).length c0) (.slice A1 (F true).length c1) b F L (withE err)))
    (hNET : ∀ ok W, NetIs ok w0 W g F → Below w0.heap.size w0 W → Calls Try.prog 31 #[.pointer (some ⟨g, 0, none⟩), .int .i64 x.f1, .int .i64 x.f2] W (NetAns ok w0 W g F b (.int .i64 err) L)) :
    Calls Try.prog 35 #[.pointer (some ⟨g, 0, none⟩), .pointer (some ⟨gr, 0, none⟩), .agg #[.int .i64 x.f0, .int .i64 x.f1, .int .i64 x.f2, .int .i64 x.f3, .string x.f4, .int .u8 x.f5]] w (DoesAns w0 g gr (upd F b L)) := by
  obtain ⟨u0, u1, hA⟩ := hP
  obtain ⟨A0, A1, c0, c1, rfl, rfl, hR⟩ := hA.ref
  have hb0 := below_alloc (below_alloc (Below.refl w.heap.size w) (box67 x)) (.cells #[.slice A0 (F false).length c0, .slice A1 (F true).length c1] 77)
  have kx := blk_alloc (heap_alloc_new w (box67 x)) (.cells #[.slice A0 (F false).length c0, .slice A1 (F true).length c1] 77)
  have kn := blk_snd2 w (box67 x) #[.slice A0 (F false).length c0, .slice A1 (F true).length c1] 77
  have kr := blk_below hA.blk hb0
  obtain ⟨r0, r1, rf0, rf1⟩ := cells_2 hA.blk
  have hlr := blk_lt hA.blk
  have hlg := blk_lt (show w.heap[g]? = _ from hA.net.choose_spec.choose_spec.blk)
  have HA := Aside0.mk hA
  have HR := Aside0.mk hR
  have HB0 := Aside0.mk hb0
  have KX := Aside0.mk kx
  have KN := Aside0.mk kn
  have KR := Aside0.mk kr
  have HREF := Lib.hid hREF
  have HNET := Lib.hid hNET
  have n0 : gr ≠ w.heap.size := by omega
  have n1 : gr ≠ w.heap.size + 1 := by omega
  have n2 : w.heap.size ≠ gr := by omega
  have n3 : w.heap.size + 1 ≠ gr := by omega
  clear hA hR hb0 kx kn kr hREF hNET
  go_enter Try.func35, Try.ntmps35
  go_wp2_with fail
  obtain ⟨q0, q1, -⟩ := cells_2 KR.out
  obtain ⟨p0, p1, p2, p3, p4, p5, -⟩ := cells_6 KX.out
  go_region_held3 (fun w' => w'.cell? ⟨gr, 0, none⟩ = some (.slice A0 (F false).length c0) ∧ w'.cell? ⟨gr, 1, none⟩ = some (.slice A1 (F true).length c1) ∧ w'.cell? ⟨w.heap.size, 1, none⟩ = some (.int .i64 x.f1) ∧ w'.cell? ⟨w.heap.size, 2, none⟩ = some (.int .i64 x.f2)) (go_keep)
    ((go_at_call 48; (with_reducible refine (HREF.out _ A0 A1 c0 c1 (HR.out.below (below_drew HB0.out))).mono ?_); intro e w1 h; obtain ⟨v, B0, m0, d0, B1, m1, d1, hq, rfl, hb, hv⟩ := h.slices; have hkr := blk_below (blk_drew KR.out) hb; have hkx := blk_below (blk_drew KX.out) hb; have hkn := blk_below (blk_drew KN.out) hb; have KX1 := Aside0.mk hkx; have KN1 := Aside0.mk hkn; obtain ⟨s0, s1, -⟩ := cells_2 hkr; obtain ⟨t0, t1, t2, t3, t4, t5, -⟩ := cells_6 hkx; obtain ⟨y0, y1, yf0, yf1⟩ := cells_2 hkn; have HQ := Lib.hid hq; have HBW := Aside0.mk (below_set (g := w.heap.size + 1) (j := 1) (v := .slice B1 m1 d1) (below_set (g := w.heap.size + 1) (j := 0) (v := .slice B0 m0 d0) (below_step (below_drew HB0.out) hb) (by omega)) (by omega)); have HV := Aside0.mk (ans_sets (y0 := .slice B0 m0 d0) (y1 := .slice B1 m1 d1) hv (below_drew HB0.out) hkn); have KN2 := Aside0.mk (by simpa using blk_set (blk_set hkn 0 (.slice B0 m0 d0)) 1 (.slice B1 m1 d1)); clear hq hv hb h hkr hkx hkn))
  all_goals
    go_wp2_with (go_at_call 31; (with_reducible refine (HNET.out _ _ (HA.out.ask HBW.out) (below_step HA.out.bel HBW.out)).mono ?_); rintro e w2 ⟨rfl, hn⟩; obtain ⟨hst, hnew⟩ := HA.out.step HBW.out HV.out HQ.out hn; have HST := Aside0.mk hst; obtain ⟨z0, z1, zf0, zf1⟩ := cells_2 hst.blk; have hkn := (hnew (w.heap.size + 1) (by omega) (blk_lt KN2.out)).trans KN2.out; obtain ⟨x0, x1, -⟩ := cells_2 hkn; clear hst hn hnew hkn)
    go_ret
    exact ⟨rfl, HST.out.put⟩
set_option maxHeartbeats 1600000 in
set_option maxRecDepth 100000 in
theorem does_swap (w0 w : World) (g gr : Nat) (F : Bool → List ByteArray) (x : S67) (b : Bool) (L : List ByteArray) (err : Int) (h0 : (x.f0 == 0) = false) (h1 : (x.f0 == 1) = false) (h2 : (x.f0 == 2) = false) (h3 : (x.f0 == 3) = false) (hk : (x.f0 == 4) = true) (hP : PlayIs w0 w g gr F)
    (hREF : ∀ W A0 A1 c0 c1, RefIs W A0 A1 c0 c1 F → Calls Try.prog 49 #[.agg #[.slice A0 (F false).length c0, .slice A1 (F true).length c1], .int .i64 x.f1, .int .i64 x.f2, .int .i64 x.f3] W (RefAns W (.slice A0 (F false).length c0) (.slice A1 (F true).length c1) b F L (withE err)))
    (hNET : ∀ ok W, NetIs ok w0 W g F → Below w0.heap.size w0 W → Calls Try.prog 32 #[.pointer (some ⟨g, 0, none⟩), .int .i64 x.f1, .int .i64 x.f2, .int .i64 x.f3] W (NetAns ok w0 W g F b (.int .i64 err) L)) :
    Calls Try.prog 35 #[.pointer (some ⟨g, 0, none⟩), .pointer (some ⟨gr, 0, none⟩), .agg #[.int .i64 x.f0, .int .i64 x.f1, .int .i64 x.f2, .int .i64 x.f3, .string x.f4, .int .u8 x.f5]] w (DoesAns w0 g gr (upd F b L)) := by
  obtain ⟨u0, u1, hA⟩ := hP
  obtain ⟨A0, A1, c0, c1, rfl, rfl, hR⟩ := hA.ref
  have hb0 := below_alloc (below_alloc (Below.refl w.heap.size w) (box67 x)) (.cells #[.slice A0 (F false).length c0, .slice A1 (F true).length c1] 77)
  have kx := blk_alloc (heap_alloc_new w (box67 x)) (.cells #[.slice A0 (F false).length c0, .slice A1 (F true).length c1] 77)
  have kn := blk_snd2 w (box67 x) #[.slice A0 (F false).length c0, .slice A1 (F true).length c1] 77
  have kr := blk_below hA.blk hb0
  obtain ⟨r0, r1, rf0, rf1⟩ := cells_2 hA.blk
  have hlr := blk_lt hA.blk
  have hlg := blk_lt (show w.heap[g]? = _ from hA.net.choose_spec.choose_spec.blk)
  have HA := Aside0.mk hA
  have HR := Aside0.mk hR
  have HB0 := Aside0.mk hb0
  have KX := Aside0.mk kx
  have KN := Aside0.mk kn
  have KR := Aside0.mk kr
  have HREF := Lib.hid hREF
  have HNET := Lib.hid hNET
  have n0 : gr ≠ w.heap.size := by omega
  have n1 : gr ≠ w.heap.size + 1 := by omega
  have n2 : w.heap.size ≠ gr := by omega
  have n3 : w.heap.size + 1 ≠ gr := by omega
  clear hA hR hb0 kx kn kr hREF hNET
  go_enter Try.func35, Try.ntmps35
  go_wp2_with fail
  obtain ⟨q0, q1, -⟩ := cells_2 KR.out
  obtain ⟨p0, p1, p2, p3, p4, p5, -⟩ := cells_6 KX.out
  go_region_held3 (fun w' => w'.cell? ⟨gr, 0, none⟩ = some (.slice A0 (F false).length c0) ∧ w'.cell? ⟨gr, 1, none⟩ = some (.slice A1 (F true).length c1) ∧ w'.cell? ⟨w.heap.size, 1, none⟩ = some (.int .i64 x.f1) ∧ w'.cell? ⟨w.heap.size, 2, none⟩ = some (.int .i64 x.f2) ∧ w'.cell? ⟨w.heap.size, 3, none⟩ = some (.int .i64 x.f3)) (go_keep)
    ((go_at_call 49; (with_reducible refine (HREF.out _ A0 A1 c0 c1 (HR.out.below (below_drew HB0.out))).mono ?_); intro e w1 h; obtain ⟨v, B0, m0, d0, B1, m1, d1, hq, rfl, hb, hv⟩ := h.slices; have hkr := blk_below (blk_drew KR.out) hb; have hkx := blk_below (blk_drew KX.out) hb; have hkn := blk_below (blk_drew KN.out) hb; have KX1 := Aside0.mk hkx; have KN1 := Aside0.mk hkn; obtain ⟨s0, s1, -⟩ := cells_2 hkr; obtain ⟨t0, t1, t2, t3, t4, t5, -⟩ := cells_6 hkx; obtain ⟨y0, y1, yf0, yf1⟩ := cells_2 hkn; have HQ := Lib.hid hq; have HBW := Aside0.mk (below_set (g := w.heap.size + 1) (j := 1) (v := .slice B1 m1 d1) (below_set (g := w.heap.size + 1) (j := 0) (v := .slice B0 m0 d0) (below_step (below_drew HB0.out) hb) (by omega)) (by omega)); have HV := Aside0.mk (ans_sets (y0 := .slice B0 m0 d0) (y1 := .slice B1 m1 d1) hv (below_drew HB0.out) hkn); have KN2 := Aside0.mk (by simpa using blk_set (blk_set hkn 0 (.slice B0 m0 d0)) 1 (.slice B1 m1 d1)); clear hq hv hb h hkr hkx hkn))
  all_goals
    go_wp2_with (go_at_call 32; (with_reducible refine (HNET.out _ _ (HA.out.ask HBW.out) (below_step HA.out.bel HBW.out)).mono ?_); rintro e w2 ⟨rfl, hn⟩; obtain ⟨hst, hnew⟩ := HA.out.step HBW.out HV.out HQ.out hn; have HST := Aside0.mk hst; obtain ⟨z0, z1, zf0, zf1⟩ := cells_2 hst.blk; have hkn := (hnew (w.heap.size + 1) (by omega) (blk_lt KN2.out)).trans KN2.out; obtain ⟨x0, x1, -⟩ := cells_2 hkn; clear hst hn hnew hkn)
    go_ret
    exact ⟨rfl, HST.out.put⟩
set_option maxHeartbeats 1600000 in
set_option maxRecDepth 100000 in
theorem does_forge (w0 w : World) (g gr : Nat) (F : Bool → List ByteArray) (x : S67) (b : Bool) (L : List ByteArray) (err : Int) (h0 : (x.f0 == 0) = false) (h1 : (x.f0 == 1) = false) (h2 : (x.f0 == 2) = false) (h3 : (x.f0 == 3) = false) (h4 : (x.f0 == 4) = false) (hk : (x.f0 == 5) = true) (hP : PlayIs w0 w g gr F)
    (hREF : ∀ W A0 A1 c0 c1, RefIs W A0 A1 c0 c1 F → Calls Try.prog 50 #[.agg #[.slice A0 (F false).length c0, .slice A1 (F true).length c1], .int .i64 x.f1, .int .i64 x.f2, .string x.f4] W (RefAns W (.slice A0 (F false).length c0) (.slice A1 (F true).length c1) b F L (withE err)))
    (hNET : ∀ ok W, NetIs ok w0 W g F → Below w0.heap.size w0 W → Calls Try.prog 37 #[.pointer (some ⟨g, 0, none⟩), .int .i64 x.f1, .int .i64 x.f2, .string x.f4] W (NetAns ok w0 W g F b (.int .i64 err) L)) :
    Calls Try.prog 35 #[.pointer (some ⟨g, 0, none⟩), .pointer (some ⟨gr, 0, none⟩), .agg #[.int .i64 x.f0, .int .i64 x.f1, .int .i64 x.f2, .int .i64 x.f3, .string x.f4, .int .u8 x.f5]] w (DoesAns w0 g gr (upd F b L)) := by
  obtain ⟨u0, u1, hA⟩ := hP
  obtain ⟨A0, A1, c0, c1, rfl, rfl, hR⟩ := hA.ref
  have hb0 := below_alloc (below_alloc (Below.refl w.heap.size w) (box67 x)) (.cells #[.slice A0 (F false).length c0, .slice A1 (F true).length c1] 77)
  have kx := blk_alloc (heap_alloc_new w (box67 x)) (.cells #[.slice A0 (F false).length c0, .slice A1 (F true).length c1] 77)
  have kn := blk_snd2 w (box67 x) #[.slice A0 (F false).length c0, .slice A1 (F true).length c1] 77
  have kr := blk_below hA.blk hb0
  obtain ⟨r0, r1, rf0, rf1⟩ := cells_2 hA.blk
  have hlr := blk_lt hA.blk
  have hlg := blk_lt (show w.heap[g]? = _ from hA.net.choose_spec.choose_spec.blk)
  have HA := Aside0.mk hA
  have HR := Aside0.mk hR
  have HB0 := Aside0.mk hb0
  have KX := Aside0.mk kx
  have KN := Aside0.mk kn
  have KR := Aside0.mk kr
  have HREF := Lib.hid hREF
  have HNET := Lib.hid hNET
  have n0 : gr ≠ w.heap.size := by omega
  have n1 : gr ≠ w.heap.size + 1 := by omega
  have n2 : w.heap.size ≠ gr := by omega
  have n3 : w.heap.size + 1 ≠ gr := by omega
  clear hA hR hb0 kx kn kr hREF hNET
  go_enter Try.func35, Try.ntmps35
  go_wp2_with fail
  obtain ⟨q0, q1, -⟩ := cells_2 KR.out
  obtain ⟨p0, p1, p2, p3, p4, p5, -⟩ := cells_6 KX.out
  go_region_held3 (fun w' => w'.cell? ⟨gr, 0, none⟩ = some (.slice A0 (F false).length c0) ∧ w'.cell? ⟨gr, 1, none⟩ = some (.slice A1 (F true).length c1) ∧ w'.cell? ⟨w.heap.size, 1, none⟩ = some (.int .i64 x.f1) ∧ w'.cell? ⟨w.heap.size, 2, none⟩ = some (.int .i64 x.f2) ∧ w'.cell? ⟨w.heap.size, 4, none⟩ = some (.string x.f4)) (go_keep)
    ((go_at_call 50; (with_reducible refine (HREF.out _ A0 A1 c0 c1 (HR.out.below (below_drew HB0.out))).mono ?_); intro e w1 h; obtain ⟨v, B0, m0, d0, B1, m1, d1, hq, rfl, hb, hv⟩ := h.slices; have hkr := blk_below (blk_drew KR.out) hb; have hkx := blk_below (blk_drew KX.out) hb; have hkn := blk_below (blk_drew KN.out) hb; have KX1 := Aside0.mk hkx; have KN1 := Aside0.mk hkn; obtain ⟨s0, s1, -⟩ := cells_2 hkr; obtain ⟨t0, t1, t2, t3, t4, t5, -⟩ := cells_6 hkx; obtain ⟨y0, y1, yf0, yf1⟩ := cells_2 hkn; have HQ := Lib.hid hq; have HBW := Aside0.mk (below_set (g := w.heap.size + 1) (j := 1) (v := .slice B1 m1 d1) (below_set (g := w.heap.size + 1) (j := 0) (v := .slice B0 m0 d0) (below_step (below_drew HB0.out) hb) (by omega)) (by omega)); have HV := Aside0.mk (ans_sets (y0 := .slice B0 m0 d0) (y1 := .slice B1 m1 d1) hv (below_drew HB0.out) hkn); have KN2 := Aside0.mk (by simpa using blk_set (blk_set hkn 0 (.slice B0 m0 d0)) 1 (.slice B1 m1 d1)); clear hq hv hb h hkr hkx hkn))
  all_goals
    go_wp2_with (go_at_call 37; (with_reducible refine (HNET.out _ _ (HA.out.ask HBW.out) (below_step HA.out.bel HBW.out)).mono ?_); rintro e w2 ⟨rfl, hn⟩; obtain ⟨hst, hnew⟩ := HA.out.step HBW.out HV.out HQ.out hn; have HST := Aside0.mk hst; obtain ⟨z0, z1, zf0, zf1⟩ := cells_2 hst.blk; have hkn := (hnew (w.heap.size + 1) (by omega) (blk_lt KN2.out)).trans KN2.out; obtain ⟨x0, x1, -⟩ := cells_2 hkn; clear hst hn hnew hkn)
    go_ret
    exact ⟨rfl, HST.out.put⟩
set_option maxHeartbeats 1600000 in
set_option maxRecDepth 100000 in
theorem does_turn (w0 w : World) (g gr : Nat) (F : Bool → List ByteArray) (x : S67) (b : Bool) (L : List ByteArray) (err : Int) (h0 : (x.f0 == 0) = false) (h1 : (x.f0 == 1) = false) (h2 : (x.f0 == 2) = false) (h3 : (x.f0 == 3) = false) (h4 : (x.f0 == 4) = false) (h5 : (x.f0 == 5) = false) (hk : (x.f0 == 6) = true) (hP : PlayIs w0 w g gr F)
    (hREF : ∀ W A0 A1 c0 c1, RefIs W A0 A1 c0 c1 F → Calls Try.prog 51 #[.agg #[.slice A0 (F false).length c0, .slice A1 (F true).length c1], .int .i64 x.f1, .int .i64 x.f2, .int .i64 x.f3, .int .u8 x.f5] W (RefAns W (.slice A0 (F false).length c0) (.slice A1 (F true).length c1) b F L (withE err)))
    (hNET : ∀ ok W, NetIs ok w0 W g F → Below w0.heap.size w0 W → Calls Try.prog 38 #[.pointer (some ⟨g, 0, none⟩), .int .i64 x.f1, .int .i64 x.f2, .int .i64 x.f3, .int .u8 x.f5] W (NetAns ok w0 W g F b (.int .i64 err) L)) :
    Calls Try.prog 35 #[.pointer (some ⟨g, 0, none⟩), .pointer (some ⟨gr, 0, none⟩), .agg #[.int .i64 x.f0, .int .i64 x.f1, .int .i64 x.f2, .int .i64 x.f3, .string x.f4, .int .u8 x.f5]] w (DoesAns w0 g gr (upd F b L)) := by
  obtain ⟨u0, u1, hA⟩ := hP
  obtain ⟨A0, A1, c0, c1, rfl, rfl, hR⟩ := hA.ref
  have hb0 := below_alloc (below_alloc (Below.refl w.heap.size w) (box67 x)) (.cells #[.slice A0 (F false).length c0, .slice A1 (F true).length c1] 77)
  have kx := blk_alloc (heap_alloc_new w (box67 x)) (.cells #[.slice A0 (F false).length c0, .slice A1 (F true).length c1] 77)
  have kn := blk_snd2 w (box67 x) #[.slice A0 (F false).length c0, .slice A1 (F true).length c1] 77
  have kr := blk_below hA.blk hb0
  obtain ⟨r0, r1, rf0, rf1⟩ := cells_2 hA.blk
  have hlr := blk_lt hA.blk
  have hlg := blk_lt (show w.heap[g]? = _ from hA.net.choose_spec.choose_spec.blk)
  have HA := Aside0.mk hA
  have HR := Aside0.mk hR
  have HB0 := Aside0.mk hb0
  have KX := Aside0.mk kx
  have KN := Aside0.mk kn
  have KR := Aside0.mk kr
  have HREF := Lib.hid hREF
  have HNET := Lib.hid hNET
  have n0 : gr ≠ w.heap.size := by omega
  have n1 : gr ≠ w.heap.size + 1 := by omega
  have n2 : w.heap.size ≠ gr := by omega
  have n3 : w.heap.size + 1 ≠ gr := by omega
  clear hA hR hb0 kx kn kr hREF hNET
  go_enter Try.func35, Try.ntmps35
  go_wp2_with fail
  obtain ⟨q0, q1, -⟩ := cells_2 KR.out
  obtain ⟨p0, p1, p2, p3, p4, p5, -⟩ := cells_6 KX.out
  go_region_held3 (fun w' => w'.cell? ⟨gr, 0, none⟩ = some (.slice A0 (F false).length c0) ∧ w'.cell? ⟨gr, 1, none⟩ = some (.slice A1 (F true).length c1) ∧ w'.cell? ⟨w.heap.size, 1, none⟩ = some (.int .i64 x.f1) ∧ w'.cell? ⟨w.heap.size, 2, none⟩ = some (.int .i64 x.f2) ∧ w'.cell? ⟨w.heap.size, 3, none⟩ = some (.int .i64 x.f3) ∧ w'.cell? ⟨w.heap.size, 5, none⟩ = some (.int .u8 x.f5)) (go_keep)
    ((go_at_call 51; (with_reducible refine (HREF.out _ A0 A1 c0 c1 (HR.out.below (below_drew HB0.out))).mono ?_); intro e w1 h; obtain ⟨v, B0, m0, d0, B1, m1, d1, hq, rfl, hb, hv⟩ := h.slices; have hkr := blk_below (blk_drew KR.out) hb; have hkx := blk_below (blk_drew KX.out) hb; have hkn := blk_below (blk_drew KN.out) hb; have KX1 := Aside0.mk hkx; have KN1 := Aside0.mk hkn; obtain ⟨s0, s1, -⟩ := cells_2 hkr; obtain ⟨t0, t1, t2, t3, t4, t5, -⟩ := cells_6 hkx; obtain ⟨y0, y1, yf0, yf1⟩ := cells_2 hkn; have HQ := Lib.hid hq; have HBW := Aside0.mk (below_set (g := w.heap.size + 1) (j := 1) (v := .slice B1 m1 d1) (below_set (g := w.heap.size + 1) (j := 0) (v := .slice B0 m0 d0) (below_step (below_drew HB0.out) hb) (by omega)) (by omega)); have HV := Aside0.mk (ans_sets (y0 := .slice B0 m0 d0) (y1 := .slice B1 m1 d1) hv (below_drew HB0.out) hkn); have KN2 := Aside0.mk (by simpa using blk_set (blk_set hkn 0 (.slice B0 m0 d0)) 1 (.slice B1 m1 d1)); clear hq hv hb h hkr hkx hkn))
  all_goals
    go_wp2_with (go_at_call 38; (with_reducible refine (HNET.out _ _ (HA.out.ask HBW.out) (below_step HA.out.bel HBW.out)).mono ?_); rintro e w2 ⟨rfl, hn⟩; obtain ⟨hst, hnew⟩ := HA.out.step HBW.out HV.out HQ.out hn; have HST := Aside0.mk hst; obtain ⟨z0, z1, zf0, zf1⟩ := cells_2 hst.blk; have hkn := (hnew (w.heap.size + 1) (by omega) (blk_lt KN2.out)).trans KN2.out; obtain ⟨x0, x1, -⟩ := cells_2 hkn; clear hst hn hnew hkn)
    go_ret
    exact ⟨rfl, HST.out.put⟩
end Go.Proofs.Ytedhckojeephaaa.P
