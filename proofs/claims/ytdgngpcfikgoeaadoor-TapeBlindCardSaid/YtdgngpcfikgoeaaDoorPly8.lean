/- does: Next. -/
import Derived.Test.YtdgngpcfikgoeaaDoorPly4
namespace Go.Proofs.YtdgngpcfikgoeaaDoor.P
open Go.RowKit Go.Extern.Stop Go.Stop Go.Extern Go.Proofs.YtdgngpcfikgoeaaDoorW.PrintWords Go.Proofs.YtdgngpcfikgoeaaDoorW.PrintLast Go.Proofs.YtdgngpcfikgoeaaDoorW.PrintMore
set_option linter.unusedVariables false
set_option linter.unusedSimpArgs false
attribute [local go_sem ↓] Go.wp_at_zero Go.wp_at_succ
theorem next_two (l : List Int) (a : Nat) (ha : a ≤ l.length) : takeX l a 1 = [nextX l a] ∨ (takeX l a 1 = [] ∧ nextX l a = 0) := by
  unfold takeX nextX
  rw [takeE_one l a ha]
  by_cases hf : a < l.length
  · left
    rw [if_pos hf, if_pos rfl, if_pos hf, rd_get hf]
    show (l.take (a + 1)).drop a = [l[a]]
    rw [List.take_succ_eq_append_getElem hf, List.drop_append, List.drop_of_length_le (by rw [List.length_take]; omega), List.length_take, Nat.min_eq_left ha, Nat.sub_self]
    rfl
  · right
    rw [if_neg hf, if_neg (by decide), if_neg hf]
    exact ⟨rfl, rfl⟩
set_option maxHeartbeats 6400000 in
set_option maxRecDepth 100000 in
theorem does_next (w : World) (B g gr : Nat) (v : Value) (l : List Int) (A : Option Addr) (c a : Nat) (N b : Int) (h : Both w B g gr v l A c a) (hc : l.length ≤ c) (hu : ∀ x ∈ l, 0 ≤ x ∧ x < 18446744073709551616) :
    Calls Tryd.prog 21 #[.pointer (some ⟨g, 0, none⟩), .pointer (some ⟨gr, 0, none⟩), .agg #[.int .i64 1, .int .i64 N, .int .i64 b]] w (Does w B g gr v l A c (takeA l a 1)) := by
  have HO0 := Lib.hid (doing w B g gr v l A c a 1 N b h)
  obtain ⟨q0, q1, -⟩ := cells_2 (blk_alloc h.rb (.cells #[.int .i64 1, .int .i64 N, .int .i64 b] 58))
  have hgr : gr < w.heap.size := blk_lt h.rb
  have HT := Lib.hid (fun W (t : TAt W B g v l a) => next_any W B g v l a t)
  have HR := Lib.hid (fun W (t : Kd.C (Kd.int .u64) W A l.length l) => rtake_any A c l a 1 W h.t.le h.t.len t hc)
  have HTW := Lib.hid (next_two l a h.t.le)
  have hLW := left_wrap (takeA_le (n := 1) h.t.le) h.t.len
  clear h hc hu
  generalize takeX l a 1 = X at *
  generalize takeA l a 1 = a' at *
  generalize takeE l a 1 = E at *
  generalize nextX l a = x at *
  go_enter Tryd.func21, Tryd.ntmps21
  rcases HTW.out with hX | ⟨hX, hz⟩
  · rw [hX] at HR
    clear hX
    go_wp2_with (first
      | (go_at_call 15; go_loud ((with_reducible refine (HT.out _ HO0.out.t).mono ?_); rintro e w1 ⟨ev, rfl, hL⟩; have HO1 := Lib.hid (HO0.out.tape hL.tape hL.chg); have HE1 := Lib.hid hL.err; obtain ⟨k0, k1, k2, -⟩ := cells_3 HO1.out.kb; obtain ⟨n0, n1, nf0, nf1⟩ := cells_2 HO1.out.nb; obtain ⟨r0, r1, -⟩ := cells_2 HO1.out.rb; clear hL))
      | (go_at_call 36; go_loud ((with_reducible refine (HR.out _ HO1.out.rl.C).mono ?_); rintro e w2 ⟨u2, rfl, hu, hb⟩; have HO2 := Lib.hid (HO1.out.below hb); have HE2 := Lib.hid (HE1.out.below hb); obtain ⟨x0, x1, xf0, xf1⟩ := cells_2 HO2.out.nb; have HO3 := Lib.hid (HO2.out.put a'); have HE3 := Lib.hid (HE2.out.put HO2.out.nb (.slice A l.length c) (.int .i64 (a' : Int))); obtain ⟨y0, y1, -⟩ := cells_2 HO3.out.nb; obtain ⟨z0, z1, zf0, zf1⟩ := cells_2 HO3.out.rb; obtain ⟨g2, c2, eu⟩ := hu.block Nat.zero_lt_one; have eu : u2 = .slice (some ⟨g2, 0, none⟩) 1 c2 := eu; subst eu; have t1 : w2.cell? ⟨g2, 0, none⟩ = some (.int .u64 x) := (RU.at hu 0 Nat.zero_lt_one).1; have hg2 : g2 ≠ w.heap.size + 1 := (fun e => hu.ne HO2.out.nb (by decide) (by rw [e]; rfl)); have hg3 : w.heap.size + 1 ≠ g2 := hg2.symm; clear hu hb)))
    all_goals have HO4 := Lib.hid (HO3.out.keep a')
    all_goals have HE4 := Lib.hid (HE3.out.put HO3.out.rb (.slice A l.length c) (.int .i64 (a' : Int)))
    all_goals obtain ⟨s0, s1, -⟩ := cells_2 HO4.out.rb
    all_goals go_region_held3 (fun W => W.cell? ⟨gr, 0, none⟩ = some (.slice A l.length c) ∧ W.cell? ⟨gr, 1, none⟩ = some (.int .i64 (a' : Int))) (go_keep) ((first
      | (go_at_call 18; go_loud ((with_reducible refine (codeW ev E _ (HE4.out.below (below_drew (Below.refl _ _))) HO4.out.drew.door).mono ?_); rintro e w5 ⟨rfl, hb⟩; have HO5 := Lib.hid (HO4.out.drew.below hb); obtain ⟨t0, t1, -⟩ := cells_2 HO5.out.rb; clear hb))
      | (go_at_call 14; go_loud ((with_reducible refine (at_ok w5 _ g v l a' HO5.out.t).mono ?_); rintro e w6 ⟨rfl, rfl⟩))
      | (go_at_call 20; go_loud ((with_reducible refine (left_ok w5 _ g v l a' HO5.out.t).mono ?_); rintro e w6 ⟨rfl, rfl⟩))))
    all_goals go_wp2
    all_goals go_ret
    all_goals exact ⟨rfl, HO5.out.drew.both, HO5.out.drew.chg⟩
  · rw [hX] at HR
    subst hz
    clear hX
    go_wp2_with (first
      | (go_at_call 15; go_loud ((with_reducible refine (HT.out _ HO0.out.t).mono ?_); rintro e w1 ⟨ev, rfl, hL⟩; have HO1 := Lib.hid (HO0.out.tape hL.tape hL.chg); have HE1 := Lib.hid hL.err; obtain ⟨k0, k1, k2, -⟩ := cells_3 HO1.out.kb; obtain ⟨n0, n1, nf0, nf1⟩ := cells_2 HO1.out.nb; obtain ⟨r0, r1, -⟩ := cells_2 HO1.out.rb; clear hL))
      | (go_at_call 36; go_loud ((with_reducible refine (HR.out _ HO1.out.rl.C).mono ?_); rintro e w2 ⟨u2, rfl, hu, hb⟩; have HO2 := Lib.hid (HO1.out.below hb); have HE2 := Lib.hid (HE1.out.below hb); obtain ⟨x0, x1, xf0, xf1⟩ := cells_2 HO2.out.nb; have HO3 := Lib.hid (HO2.out.put a'); have HE3 := Lib.hid (HE2.out.put HO2.out.nb (.slice A l.length c) (.int .i64 (a' : Int))); obtain ⟨y0, y1, -⟩ := cells_2 HO3.out.nb; obtain ⟨z0, z1, zf0, zf1⟩ := cells_2 HO3.out.rb; obtain ⟨A2, c2, eu, -, -⟩ := hu.form; have eu : u2 = .slice A2 0 c2 := eu; subst eu; clear hu hb)))
    all_goals have HO4 := Lib.hid (HO3.out.keep a')
    all_goals have HE4 := Lib.hid (HE3.out.put HO3.out.rb (.slice A l.length c) (.int .i64 (a' : Int)))
    all_goals obtain ⟨s0, s1, -⟩ := cells_2 HO4.out.rb
    all_goals go_region_held3 (fun W => W.cell? ⟨gr, 0, none⟩ = some (.slice A l.length c) ∧ W.cell? ⟨gr, 1, none⟩ = some (.int .i64 (a' : Int))) (go_keep) ((first
      | (go_at_call 18; go_loud ((with_reducible refine (codeW ev E _ (HE4.out.below (below_drew (Below.refl _ _))) HO4.out.drew.door).mono ?_); rintro e w5 ⟨rfl, hb⟩; have HO5 := Lib.hid (HO4.out.drew.below hb); obtain ⟨t0, t1, -⟩ := cells_2 HO5.out.rb; clear hb))
      | (go_at_call 14; go_loud ((with_reducible refine (at_ok w5 _ g v l a' HO5.out.t).mono ?_); rintro e w6 ⟨rfl, rfl⟩))
      | (go_at_call 20; go_loud ((with_reducible refine (left_ok w5 _ g v l a' HO5.out.t).mono ?_); rintro e w6 ⟨rfl, rfl⟩))))
    all_goals go_wp2
    all_goals go_ret
    all_goals exact ⟨rfl, HO5.out.drew.both, HO5.out.drew.chg⟩
end Go.Proofs.YtdgngpcfikgoeaaDoor.P
