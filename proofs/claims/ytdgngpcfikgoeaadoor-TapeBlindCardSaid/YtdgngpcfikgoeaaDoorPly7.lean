/- does: Skip. -/
import Derived.Test.YtdgngpcfikgoeaaDoorPly4
namespace Go.Proofs.YtdgngpcfikgoeaaDoor.P
open Go.RowKit Go.Extern.Stop Go.Stop Go.Extern Go.Proofs.YtdgngpcfikgoeaaDoorW.PrintWords Go.Proofs.YtdgngpcfikgoeaaDoorW.PrintLast Go.Proofs.YtdgngpcfikgoeaaDoorW.PrintMore
set_option linter.unusedVariables false
set_option linter.unusedSimpArgs false
attribute [local go_sem ↓] Go.wp_at_zero Go.wp_at_succ
theorem skipA_le {l : List Int} {a : Nat} {n : Int} (ha : a ≤ l.length) : skipA l a n ≤ l.length := by
  unfold skipA
  split
  · next h => have := skipE_zero h; omega
  · exact ha
set_option maxHeartbeats 6400000 in
set_option maxRecDepth 100000 in
theorem does_skip (w : World) (B g gr : Nat) (v : Value) (l : List Int) (A : Option Addr) (c a : Nat) (k : Int) (N b : Int) (h0 : k ≠ 0) (h1 : k ≠ 1) (h2 : k ≠ 2) (h3 : k ≠ 3) (h4 : k ≠ 4) (h : Both w B g gr v l A c a) (hc : l.length ≤ c) (hu : ∀ x ∈ l, 0 ≤ x ∧ x < 18446744073709551616) :
    Calls Tryd.prog 21 #[.pointer (some ⟨g, 0, none⟩), .pointer (some ⟨gr, 0, none⟩), .agg #[.int .i64 k, .int .i64 N, .int .i64 b]] w (Does w B g gr v l A c (skipA l a N)) := by
  have HO0 := Lib.hid (doing w B g gr v l A c a k N b h)
  obtain ⟨q0, q1, -⟩ := cells_2 (blk_alloc h.rb (.cells #[.int .i64 k, .int .i64 N, .int .i64 b] 58))
  have hgr : gr < w.heap.size := blk_lt h.rb
  have HT := Lib.hid (fun W (t : TAt W B g v l a) => skip_any N W B g v l a t)
  have HR := Lib.hid (fun W (t : Kd.C (Kd.int .u64) W A l.length l) => rskip_any A c l a N W h.t.le h.t.len)
  have hLW := left_wrap (skipA_le (n := N) h.t.le) h.t.len
  clear h hc hu
  generalize skipA l a N = a' at *
  generalize skipE l a N = E at *
  go_enter Tryd.func21, Tryd.ntmps21
  go_wp2_with (go_at_call 19; go_loud ((with_reducible refine (HT.out _ HO0.out.t).mono ?_); rintro e w1 ⟨ev, rfl, hL⟩; have HO1 := Lib.hid (HO0.out.tape hL.tape hL.chg); have HE1 := Lib.hid hL.err; obtain ⟨k0, k1, k2, -⟩ := cells_3 HO1.out.kb; obtain ⟨n0, n1, nf0, nf1⟩ := cells_2 HO1.out.nb; obtain ⟨r0, r1, -⟩ := cells_2 HO1.out.rb; clear hL))
  go_region_with (go_at_call 40; (with_reducible refine (HR.out _ HO1.out.drew.rl.C).mono ?_); rintro e w2 ⟨rfl, hb⟩; have HO2 := Lib.hid (HO1.out.drew.below hb); have HE2 := Lib.hid (HE1.out.below (below_step (below_drew (Below.refl _ _)) hb)); obtain ⟨x0, x1, xf0, xf1⟩ := cells_2 HO2.out.nb; have HO3 := Lib.hid (HO2.out.put a'); have HE3 := Lib.hid (HE2.out.put HO2.out.nb (.slice A l.length c) (.int .i64 (a' : Int))); obtain ⟨y0, y1, -⟩ := cells_2 HO3.out.nb; obtain ⟨z0, z1, zf0, zf1⟩ := cells_2 HO3.out.rb; clear hb)
  all_goals go_wp2
  all_goals have HO4 := Lib.hid (HO3.out.keep a')
  all_goals have HE4 := Lib.hid (HE3.out.put HO3.out.rb (.slice A l.length c) (.int .i64 (a' : Int)))
  all_goals obtain ⟨s0, s1, -⟩ := cells_2 HO4.out.rb
  all_goals go_region_held3 (fun W => W.cell? ⟨gr, 0, none⟩ = some (.slice A l.length c) ∧ W.cell? ⟨gr, 1, none⟩ = some (.int .i64 (a' : Int))) (go_keep) ((first
    | (go_at_call 18; go_loud ((with_reducible refine (codeW ev E _ (HE4.out.below (below_drew (Below.refl _ _))) HO4.out.drew.door).mono ?_); rintro e w5 ⟨rfl, hb⟩; have HO5 := Lib.hid (HO4.out.drew.below hb); obtain ⟨t0, t1, -⟩ := cells_2 HO5.out.rb; clear hb))
    | (go_at_call 14; go_loud ((with_reducible refine (at_ok w5 _ g v l a' HO5.out.t).mono ?_); rintro e w6 ⟨rfl, rfl⟩))
    | (go_at_call 20; go_loud ((with_reducible refine (left_ok w5 _ g v l a' HO5.out.t).mono ?_); rintro e w6 ⟨rfl, rfl⟩))))
  all_goals go_wp2
  all_goals go_ret
  all_goals exact ⟨rfl, HO5.out.drew.both, HO5.out.drew.chg⟩
end Go.Proofs.YtdgngpcfikgoeaaDoor.P
