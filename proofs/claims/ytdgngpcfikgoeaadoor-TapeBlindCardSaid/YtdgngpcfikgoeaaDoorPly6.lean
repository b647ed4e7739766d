/- does: Numbers. -/
import Derived.Test.YtdgngpcfikgoeaaDoorPly4
namespace Go.Proofs.YtdgngpcfikgoeaaDoor.P
open Go.RowKit Go.Extern.Stop Go.Stop Go.Extern Go.Proofs.YtdgngpcfikgoeaaDoorW.PrintWords Go.Proofs.YtdgngpcfikgoeaaDoorW.PrintLast Go.Proofs.YtdgngpcfikgoeaaDoorW.PrintMore
set_option linter.unusedVariables false
set_option linter.unusedSimpArgs false
attribute [local go_sem ↓] Go.wp_at_zero Go.wp_at_succ
theorem numX_len {l : List Int} {a : Nat} {n b : Int} (ha : a ≤ l.length) : (numX l a n b).length ≤ l.length := by
  unfold numX
  split
  · simp
  · rw [List.length_map]; exact takeX_len ha
theorem numA_le {l : List Int} {a : Nat} {n b : Int} (ha : a ≤ l.length) : numA l a n b ≤ l.length := by
  unfold numA
  split
  · exact ha
  · exact takeA_le ha
set_option maxHeartbeats 6400000 in
set_option maxRecDepth 100000 in
theorem does_numbers (w : World) (B g gr : Nat) (v : Value) (l : List Int) (A : Option Addr) (c a : Nat) (N b : Int) (h : Both w B g gr v l A c a) (hc : l.length ≤ c) (hu : ∀ x ∈ l, 0 ≤ x ∧ x < 18446744073709551616) :
    Calls Tryd.prog 21 #[.pointer (some ⟨g, 0, none⟩), .pointer (some ⟨gr, 0, none⟩), .agg #[.int .i64 2, .int .i64 N, .int .i64 b]] w (Does w B g gr v l A c (numA l a N b)) := by
  have HO0 := Lib.hid (doing w B g gr v l A c a 2 N b h)
  obtain ⟨q0, q1, -⟩ := cells_2 (blk_alloc h.rb (.cells #[.int .i64 2, .int .i64 N, .int .i64 b] 58))
  have hgr : gr < w.heap.size := blk_lt h.rb
  have HT := Lib.hid (fun W (t : TAt W B g v l a) => numbers_any N b W B g v l a t hu)
  have HR := Lib.hid (fun W (t : Kd.C (Kd.int .u64) W A l.length l) => rnums_any A c l a N b W h.t.le h.t.len t hc hu)
  have HX := Lib.hid (Nat.le_trans (numX_len (n := N) (b := b) h.t.le) h.t.len)
  have hLW := left_wrap (numA_le (n := N) (b := b) h.t.le) h.t.len
  clear h hc hu
  generalize numX l a N b = X at *
  generalize numA l a N b = a' at *
  generalize numE l a N b = E at *
  go_enter Tryd.func21, Tryd.ntmps21
  go_wp2_with (go_at_call 37; go_loud ((with_reducible refine (HT.out _ HO0.out.t).mono ?_); rintro e w1 ⟨u, ev, rfl, hu, hL⟩; have HO1 := Lib.hid (HO0.out.tape hL.tape hL.chg); have HE1 := Lib.hid hL.err; have HU1 := Lib.hid hu; obtain ⟨A1, c1, rfl, -, -⟩ := hu.form; obtain ⟨k0, k1, k2, -⟩ := cells_3 HO1.out.kb; obtain ⟨n0, n1, nf0, nf1⟩ := cells_2 HO1.out.nb; obtain ⟨r0, r1, -⟩ := cells_2 HO1.out.rb; clear hu hL))
  go_region_with (go_at_call 38; (with_reducible refine (HR.out _ HO1.out.drew.rl.C).mono ?_); rintro e w2 ⟨u2, rfl, hu, hb⟩; have HO2 := Lib.hid (HO1.out.drew.below hb); have HU2 := Lib.hid hu; have HU12 := Lib.hid (Kd.R_below HU1.out (below_step (below_drew (Below.refl _ _)) hb)); have HE2 := Lib.hid (HE1.out.below (below_step (below_drew (Below.refl _ _)) hb)); obtain ⟨A2, c2, rfl, -, -⟩ := hu.form; obtain ⟨x0, x1, xf0, xf1⟩ := cells_2 HO2.out.nb; have HC12 := Lib.hid (RU.C (RU.put2 HU12.out HO2.out.nb (.slice A l.length c) (.int .i64 (a' : Int)))); have HC2 := Lib.hid (RU.C (RU.put2 HU2.out HO2.out.nb (.slice A l.length c) (.int .i64 (a' : Int)))); clear hu hb)
  all_goals go_wp2_with (go_at_call 13; go_loud ((with_reducible refine (nums_okI A1 X.length c1 A2 X.length c2 X rfl rfl _ HC12.out.1 HC12.out.2 HC2.out.1 HC2.out.2 (Nat.le_trans HX.out (by decide))).mono ?_); rintro e w3 ⟨rfl, hb⟩; have HO3 := Lib.hid ((HO2.out.put a').below hb); have HE3 := Lib.hid ((HE2.out.put HO2.out.nb (.slice A l.length c) (.int .i64 (a' : Int))).below hb); obtain ⟨y0, y1, -⟩ := cells_2 HO3.out.nb; obtain ⟨z0, z1, zf0, zf1⟩ := cells_2 HO3.out.rb; clear hb))
  all_goals have HO4 := Lib.hid (HO3.out.keep a')
  all_goals have HE4 := Lib.hid (HE3.out.put HO3.out.rb (.slice A l.length c) (.int .i64 (a' : Int)))
  all_goals obtain ⟨s0, s1, -⟩ := cells_2 HO4.out.rb
  all_goals go_region_held3 (fun W => W.cell? ⟨gr, 0, none⟩ = some (.slice A l.length c) ∧ W.cell? ⟨gr, 1, none⟩ = some (.int .i64 (a' : Int))) (go_keep) ((first
    | (go_at_call 18; go_loud ((with_reducible refine (codeW ev E _ (HE4.out.below (below_drew (Below.refl _ _))) HO4.out.drew.door).mono ?_); rintro e w5 ⟨rfl, hb⟩; have HO5 := Lib.hid (HO4.out.drew.below hb); obtain ⟨t0, t1, -⟩ := cells_2 HO5.out.rb; clear hb))
    | (go_at_call 14; go_loud ((with_reducible refine (at_ok w5 _ g v l a' HO5.out.t).mono ?_); rintro e w6 ⟨rfl, rfl⟩))
    | (go_at_call 20; go_loud ((with_reducible refine (left_ok w5 _ g v l a' HO5.out.t).mono ?_); rintro e w6 ⟨rfl, rfl⟩))))
  all_goals go_wp2
  all_goals go_ret
  all_goals exact ⟨rfl, HO5.out.drew.both, HO5.out.drew.chg⟩
end Go.Proofs.YtdgngpcfikgoeaaDoor.P
