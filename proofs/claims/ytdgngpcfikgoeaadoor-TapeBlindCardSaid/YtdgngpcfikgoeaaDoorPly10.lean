/- does: Seed. -/
import Derived.Test.YtdgngpcfikgoeaaDoorPly4
import Derived.DeepKeys
import Derived.Deep.MidRow
namespace Go.Proofs.YtdgngpcfikgoeaaDoor.P
open Go.RowKit Go.Extern.Stop Go.Stop Go.Extern Go.Proofs.YtdgngpcfikgoeaaDoorW.PrintWords Go.Proofs.YtdgngpcfikgoeaaDoorW.PrintLast Go.Proofs.YtdgngpcfikgoeaaDoorW.PrintMore
set_option linter.unusedVariables false
set_option linter.unusedSimpArgs false
attribute [local go_sem ↓] Go.wp_at_zero Go.wp_at_succ
/-- the cells of a seed of what a tape gives -/
def seedL (X : List Int) : List Value := (if X.length = 4 then seedC X 32 else zc).toList
theorem seedL_v (X : List Int) : seedV X = .agg (seedL X).toArray := by unfold seedV seedL; rw [Array.toArray_toList]
theorem seedL_len (X : List Int) : (seedL X).length = 32 := by
  unfold seedL
  split
  · rw [Array.length_toList, seedC_size]
  · rfl
theorem seedL_int (X : List Int) (x : Value) (hx : x ∈ seedL X) : ∃ z, x = .int .u8 z := by
  unfold seedL at hx
  split at hx
  · simp only [seedC, List.toList_toArray, List.mem_map] at hx
    obtain ⟨j, -, rfl⟩ := hx
    exact ⟨_, rfl⟩
  · simp [zc] at hx
    exact ⟨0, hx⟩
theorem items_eq (w : World) (d : Nat) (cs : Array Value) (h : ∀ x ∈ cs.toList, ∃ z, x = .int .u8 z) : ∀ is : List Nat, (∀ i ∈ is, i < cs.size) → (Op.eqItems (d + 1) 5 1 cs cs is).run Tryd.prog w = .ok true w
  | [], _ => by simp [Op.eqItems]
  | i :: is, hi => by
    have hlt : i < cs.size := hi i (by simp)
    obtain ⟨z, hz⟩ := h cs[i] (by simp)
    have hp : (part 5 cs (i * 1)).run Tryd.prog w = .ok (.int .u8 z) w := run_part_plain w (by kernel_rfl) (by rw [Nat.mul_one, Array.getElem?_eq_getElem hlt, hz])
    have he : (Op.equalIn (d + 1) 5 (.int .u8 z) (.int .u8 z)).run Tryd.prog w = .ok (z == z) w := run_equalIn_int w d 5 .u8 .u8 z z (by kernel_rfl)
    have ih := items_eq w d cs h is (fun j hj => hi j (by simp [hj]))
    simp only [Op.eqItems, Sem.run_bind, hp, he, Result.andThen_ok, beq_self_eq_true, Bool.not_true, Bool.false_eq_true, if_false, ih]
theorem seeds_eq (w : World) (X : List Int) : (Op.equalIn 10000 42 (.agg (seedL X).toArray) (.agg (seedL X).toArray)).run Tryd.prog w = .ok true w := by
  obtain ⟨i, hi⟩ := info_of_underlying Tryd.underlying5
  have h := run_equalIn_array (P := Tryd.prog) w 9999 (t := 42) (e := 5) (n := 32) (i := i) (seedL X).toArray (seedL X).toArray Tryd.underlying42 hi
  rw [show Tryd.prog.cellsOf 5 = 1 from by kernel_rfl] at h
  rw [h]
  exact items_eq w 9998 _ (fun x hx => seedL_int X x (by simpa using hx)) _ (fun i hi => by simp [seedL_len] at hi ⊢; exact hi)
theorem range_of {W : World} {b t : Nat} {fr : Nat × Nat} {LS : List Value} (hb : W.heap[b]? = some (.cells LS.toArray t fr)) : W.rangeAt b 0 LS := fun j v hv => by
  rw [cell_of_row W b (0 + j) LS.toArray t fr hb]
  simpa using hv
theorem seedL_one (X : List Int) : (seedL X).toArray.all (·.oneCell') = true := by
  rw [Array.all_eq_true_iff_forall_mem]
  intro v hv
  obtain ⟨z, rfl⟩ := seedL_int X v (by simpa using hv)
  rfl
set_option maxHeartbeats 6400000 in
set_option maxRecDepth 100000 in
theorem does_seed (w : World) (B g gr : Nat) (v : Value) (l : List Int) (A : Option Addr) (c a : Nat) (N b : Int) (h : Both w B g gr v l A c a) (hc : l.length ≤ c) (hu : ∀ x ∈ l, 0 ≤ x ∧ x < 18446744073709551616) :
    Calls Tryd.prog 21 #[.pointer (some ⟨g, 0, none⟩), .pointer (some ⟨gr, 0, none⟩), .agg #[.int .i64 4, .int .i64 N, .int .i64 b]] w (Does w B g gr v l A c (takeA l a 4)) := by
  have HO0 := Lib.hid (doing w B g gr v l A c a 4 N b h)
  obtain ⟨q0, q1, -⟩ := cells_2 (blk_alloc h.rb (.cells #[.int .i64 4, .int .i64 N, .int .i64 b] 58))
  have hgr : gr < w.heap.size := blk_lt h.rb
  have HT := Lib.hid (fun W (t : TAt W B g v l a) => seed_any W B g v l a t hu)
  have HR := Lib.hid (fun W (t : Kd.C (Kd.int .u64) W A l.length l) => rtake_any A c l a 4 W h.t.le h.t.len t hc)
  have HRS := Lib.hid (fun W (u : Value) (D : Nat) (t : RU D W u (takeX l a 4)) => rseed_any l a h.t.le hu u D W t)
  have HLS := Lib.hid (show (seedL (takeX l a 4)).toArray.size = 32 from seedL_len (takeX l a 4))
  have HL1 := Lib.hid (seedL_one (takeX l a 4))
  have HEQ := fun W => seeds_eq W (takeX l a 4)
  have hi42 : (Tryd.prog.info? 42).map (·.size) = some (seedL (takeX l a 4)).length := by rw [seedL_len]; kernel_rfl
  have hu42 := Tryd.underlying42
  have hLW := left_wrap (takeA_le (n := 4) h.t.le) h.t.len
  clear h hc hu
  rw [seedL_v] at HT HRS
  generalize seedL (takeX l a 4) = LS at *
  generalize takeX l a 4 = X at *
  generalize takeA l a 4 = a' at *
  generalize takeE l a 4 = E at *
  go_enter Tryd.func21, Tryd.ntmps21
  go_wp2_with (first
    | (go_at_call 16; go_loud ((with_reducible refine (HT.out _ HO0.out.t).mono ?_); rintro e w1 ⟨ev, rfl, hL⟩; have HO1 := Lib.hid (HO0.out.tape hL.tape hL.chg); have HE1 := Lib.hid hL.err; have KZ := Lib.hid (heap_alloc_new w1 (.cells zc 42)); clear hL))
    | ((with_reducible refine gate_store (t := 42) (p := 21) (v := .tmp 176) rfl ?_); go_loud (refine wpList_store_rowTo rfl 42 (.tmp 21) (.tmp 176) rfl rfl w1.heap.size LS.toArray (by rfl) (by rfl) 42 zc KZ.out (by rw [HLS.out]; kernel_rfl) (by rw [HLS.out]; rfl) HL1.out ?_; have hb1 := ((Chg.of_below (below_alloc (Below.refl w1.heap.size w1) (.cells zc 42)) (fun k => k = w1.heap.size)).row (g := w1.heap.size) LS.toArray (.inl rfl)).nothing (fun k hk q => Nat.ne_of_lt hk q); obtain ⟨w2, hw2⟩ : ∃ x, x = (w1.alloc (.cells zc 42)).setRow w1.heap.size LS.toArray := ⟨_, rfl⟩; have HO2 : Hid (Doing w w2 B g gr v l A c 4 N b a' a a) := Lib.hid (by rw [hw2]; exact HO1.out.below hb1); have HE2 : Hid (ErrW w2 ev E) := Lib.hid (by rw [hw2]; exact HE1.out.below hb1); have KS : Hid (w2.heap[w1.heap.size]? = some (.cells LS.toArray 42 (0, 0))) := Lib.hid (by rw [hw2]; exact setRow_heap _ _ _ LS.toArray _ _ KZ.out); unfold zc at hw2; rw [← hw2]; clear hw2 hb1; obtain ⟨k0, k1, k2, -⟩ := cells_3 HO2.out.kb; obtain ⟨n0, n1, nf0, nf1⟩ := cells_2 HO2.out.nb; obtain ⟨r0, r1, -⟩ := cells_2 HO2.out.rb))
    | (go_at_call 36; go_loud ((with_reducible refine (HR.out _ HO2.out.rl.C).mono ?_); rintro e w3 ⟨u2, rfl, hu, hb⟩; have HO4 := Lib.hid (HO2.out.below hb); have HE4 := Lib.hid (HE2.out.below hb); have KS4 := Lib.hid ((hb.block _ (blk_lt KS.out)).trans KS.out); have HU4 := Lib.hid hu; obtain ⟨x0, x1, xf0, xf1⟩ := cells_2 HO4.out.nb; clear hu hb)))
  have HO5 := Lib.hid (HO4.out.put a')
  have HE5 := Lib.hid (HE4.out.put HO4.out.nb (.slice A l.length c) (.int .i64 (a' : Int)))
  have HU5 := Lib.hid (RU.put2 HU4.out HO4.out.nb (.slice A l.length c) (.int .i64 (a' : Int)))
  have hnk : w1.heap.size ≠ w.heap.size + 1 := by have := blk_lt HO1.out.nb; omega
  have KS5 := Lib.hid (blk_far (p := ⟨w.heap.size + 1, 1, none⟩) (blk_far (p := ⟨w.heap.size + 1, 0, none⟩) KS4.out hnk (.slice A l.length c)) hnk (.int .i64 (a' : Int)))
  have hr5 := range_of KS5.out
  go_region_held3 (fun W => W.rangeAt w1.heap.size 0 LS) (go_keep_ranges) ((go_at_call 39; go_loud ((refine (HRS.out _ _ _ (Kd.R_below HU5.out (below_drew (Below.refl _ _)))).mono ?_); rintro e w6 ⟨rfl, hb⟩; have HO3 := Lib.hid (HO5.out.drew.below hb); have HE3 := Lib.hid (HE5.out.below (below_step (below_drew (Below.refl _ _)) hb)); have hr6 := range_of ((hb.block _ (blk_lt KS5.out)).trans KS5.out); obtain ⟨y0, y1, -⟩ := cells_2 HO3.out.nb; obtain ⟨z0, z1, zf0, zf1⟩ := cells_2 HO3.out.rb; clear hb)))
  all_goals go_wp2
  all_goals have HO4 := Lib.hid (HO3.out.keep a')
  all_goals have HE4 := Lib.hid (HE3.out.put HO3.out.rb (.slice A l.length c) (.int .i64 (a' : Int)))
  all_goals obtain ⟨s0, s1, -⟩ := cells_2 HO4.out.rb
  all_goals go_region_held3 (fun W => W.cell? ⟨gr, 0, none⟩ = some (.slice A l.length c) ∧ W.cell? ⟨gr, 1, none⟩ = some (.int .i64 (a' : Int))) (go_keep) ((first
    | (go_at_call 18; go_loud ((with_reducible refine (codeW ev E _ (HE4.out.below (below_drew (Below.refl _ _))) HO4.out.drew.door).mono ?_); rintro e w5 ⟨rfl, hb⟩; have HO5 := Lib.hid (HO4.out.drew.below hb); obtain ⟨t0, t1, -⟩ := cells_2 HO5.out.rb; clear hb))
    | (go_at_call 14; go_loud ((with_reducible refine (at_ok w5 _ g v l a' HO5.out.t).mono ?_); rintro e w6 ⟨rfl, rfl⟩))
    | (go_at_call 20; go_loud ((with_reducible refine (left_ok w5 _ g v l a' HO5.out.t).mono ?_); rintro e w6 ⟨rfl, rfl⟩))))
  all_goals go_wp2
  all_goals go_ret
  all_goals exact ⟨rfl, HO5.out.drew.both, HO5.out.drew.chg⟩
end Go.Proofs.YtdgngpcfikgoeaaDoor.P
