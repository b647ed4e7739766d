/- The document's tape: Take, Skip, Cut, Numbers. -/
import Derived.Test.YtdgngpcfikgoeaaDoorMdTap4
namespace Go.Proofs.YtdgngpcfikgoeaaDoor.P
open Go.RowKit Go.Extern.Stop Go.Stop Go.Extern Go.Proofs.YtdgngpcfikgoeaaDoorW.PrintWords Go.Proofs.YtdgngpcfikgoeaaDoorW.PrintLast Go.Proofs.YtdgngpcfikgoeaaDoorW.PrintMore
set_option linter.unusedVariables false
set_option linter.unusedSimpArgs false
attribute [local go_sem ↓] Go.wp_at_zero Go.wp_at_succ

/-! ### the document's Take -/
/-- the document's tape as a value -/
abbrev rT (A : Option Addr) (n c : Nat) (a : Nat) : Value := .agg #[.slice A n c, .int .i64 (a : Int)]
/-- the number that a call for n words tells -/
def takeE (l : List Int) (a : Nat) (n : Int) : Int := if n < 0 then 1 else if n > (l.length : Int) - a then 10 else 0
set_option maxHeartbeats 1600000 in
theorem rtake_bad (A : Option Addr) (c : Nat) (l : List Int) (a : Nat) (n : Int) (w : World) (ha : a ≤ l.length) (hl : l.length ≤ 1048576) (hE : takeE l a n ≠ 0) :
    Calls Tryd.prog 36 #[rT A l.length c a, .int .i64 n] w fun e w' => e = .returned (.tuple #[rT A l.length c a, .slice none 0 0, .int .i64 (takeE l a n)]) ∧ Below w.heap.size w w' := by
  have hw1 : wrap64 ((l.length : Int) - (a : Int)) = (l.length : Int) - a := ew64 (by omega) (by omega)
  have HB2 := Lib.hid (below_alloc (below_alloc (Below.refl w.heap.size w) (.cells #[.slice A l.length c, .int .i64 (a : Int)] 54)) (.cells #[.slice none 0 0, .int .i64 0] 54))
  have HK := Lib.hid (heap_alloc2_new w (.cells #[.slice A l.length c, .int .i64 (a : Int)] 54) (.cells #[.slice none 0 0, .int .i64 0] 54))
  unfold takeE at hE ⊢
  by_cases h1 : n < 0
  · rw [if_pos h1]
    clear hE
    go_enter Tryd.func36, Tryd.ntmps36
    go_wp2
    refine bodyPost_ret (results_ctt rfl _ _ (w.heap.size + 1) 54 _ (0, 0) _ rfl (heap_alloc2_new w _ _) Tryd.underlying54 rfl (by kernel_rfl)) rfl ?_
    exact ⟨rfl, below_alloc (below_alloc (Below.refl _ _) _) _⟩
  · by_cases h2 : n > (l.length : Int) - a
    · rw [if_neg h1, if_pos h2]
      clear hE
      go_enter Tryd.func36, Tryd.ntmps36
      go_wp2
      refine bodyPost_ret (results_ctt rfl _ _ (w.heap.size + 1) 54 _ (0, 0) _ rfl (heap_alloc2_new w _ _) Tryd.underlying54 rfl (by kernel_rfl)) rfl ?_
      exact ⟨rfl, below_alloc (below_alloc (Below.refl _ _) _) _⟩
    · rw [if_neg h1, if_neg h2] at hE
      exact absurd rfl hE
set_option maxHeartbeats 1600000 in
theorem rtake_ok (A : Option Addr) (c : Nat) (l : List Int) (a n : Nat) (w : World) (hf : a + n ≤ l.length) (hl : l.length ≤ 1048576) (hr : Kd.C (Kd.int .u64) w A l.length l) (hc : l.length ≤ c) :
    Calls Tryd.prog 36 #[rT A l.length c a, .int .i64 (n : Int)] w fun e w' => ∃ u, e = .returned (.tuple #[rT A l.length c (a + n), u, .int .i64 0]) ∧ RU w.heap.size w' u ((l.take (a + n)).drop a) ∧ Below w.heap.size w w' := by
  have hw1 : wrap64 ((l.length : Int) - (a : Int)) = (l.length : Int) - a := ew64 (by omega) (by omega)
  obtain ⟨z, hz⟩ : ∃ z : Int, z = ((a + n : Nat) : Int) := ⟨_, rfl⟩
  have hw2 : wrap64 ((a : Int) + (n : Int)) = z := by rw [ew64 (by omega) (by omega)]; omega
  have h1 : ¬ (n : Int) < 0 := by omega
  have h2 : ¬ (n : Int) > (l.length : Int) - a := by omega
  obtain ⟨A1, c3, hcut, hC1, hc3⟩ := cutU A c l w hr hc (a : Int) z (by omega) (by omega) (by omega) ((l.take (a + n)).drop a) (by rw [hz, Int.toNat_natCast, Int.toNat_natCast])
  have hYl : ((l.take (a + n)).drop a).length ≤ 1048576 := by rw [List.length_drop, List.length_take]; omega
  have HZ := Lib.hid hz
  generalize (l.take (a + n)).drop a = Y at *
  have HB2 := Lib.hid (below_alloc (below_alloc (Below.refl w.heap.size w) (.cells #[.slice A l.length c, .int .i64 (a : Int)] 54)) (.cells #[.slice none 0 0, .int .i64 0] 54))
  have HK := Lib.hid (heap_alloc2_new w (.cells #[.slice A l.length c, .int .i64 (a : Int)] 54) (.cells #[.slice none 0 0, .int .i64 0] 54))
  have HC1 := Lib.hid hC1
  have HYL := Lib.hid hYl
  clear hz hC1 hYl hr hf hl hc3 hc
  go_enter Tryd.func36, Tryd.ntmps36
  have HA := Lib.hid (heap_alloc2_old w (.cells #[.slice A l.length c, .int .i64 (a : Int)] 54) (.cells #[.slice none 0 0, .int .i64 0] 54))
  have HRE := Lib.hid (RU_empty ((w.alloc (.cells #[.slice A l.length c, .int .i64 (a : Int)] 54)).alloc (.cells #[.slice none 0 0, .int .i64 0] 54)) w.heap.size HB2.out.size)
  have HB3 := Lib.hid (below_alloc HB2.out (.cells #[] 35))
  go_wp2_with (at_builtin; go_loud (refine Kd.R_append_rows (Kd.int .u64) (Rr := (Kd.int .u64).K w) (w0 := w) w.heap.size rfl (.tmp 20) (.tmp 29) 22 35 (.int .u64 0) 8 rfl Tryd.underlying22 infoU64 rfl (by decide) (by omega) (.slice (some ⟨w.heap.size + 1 + 1, 0, none⟩) 0 0) [] Y A1 Y.length c3 (fun _ => True) (fun _ => False) rfl rfl (by simpa using HRE.out) (Kd.C_alloc (Kd.C_alloc (Kd.C_alloc HC1.out _) _) _) (fun _ _ h => h) (fun _ hk => hk.elim) (fun _ _ => trivial) HB3.out HB3.out.size (by have := HYL.out; simp; omega) ?_; intro v9 w4 ho hb hg hat; rw [List.nil_append] at ho; have K0 := Lib.hid ((hg.block w.heap.size (by simp; omega) (by simp [Value.ownBlock]; omega)).trans (blk_alloc HA.out _)); have K1 := Lib.hid ((hg.block (w.heap.size + 1) (by simp) (by simp [Value.ownBlock])).trans (blk_alloc HK.out _)); obtain ⟨k0, k1, -, -⟩ := cells_2 K0.out; obtain ⟨m0, m1, mf0, mf1⟩ := cells_2 K1.out; have HO := Lib.hid ho; have HB4 := Lib.hid hb; obtain ⟨A4, c4, rfl, -, -⟩ := RU.form ho; clear ho hb hg hat))
  refine bodyPost_ret (results_ctt rfl _ _ (w.heap.size + 1) 54 _ (0, 0) _ rfl (by simpa using blk_set (blk_set K1.out 0 (.slice A l.length c)) 1 (.int .i64 z)) Tryd.underlying54 rfl (by kernel_rfl)) rfl ?_
  have hu : RU w.heap.size w4 (.slice A4 Y.length c4) Y := HO.out
  exact ⟨.slice A4 Y.length c4, by rw [HZ.out]; rfl, (hu.move (fun k hk => Below.heap_setCell _ _ _ _ (fun e => hu.ne K1.out (by decide) (by rw [hk, e])))).move (fun k hk => Below.heap_setCell _ _ _ _ (fun e => hu.ne K1.out (by decide) (by rw [hk, e]))), below_set (below_set HB4.out (by omega)) (by omega)⟩

/-! ### the document's Skip -/
/-! ### rows that are written into -/
theorem RU.own {B : Nat} {w : World} {v : Value} {xs : List Int} (h : RU B w v xs) : w.ownsRow B 35 1 v xs.length (nums .u64 xs) := Kd.own_of_R h
theorem RU.of {B : Nat} {w : World} {v : Value} {xs : List Int} (h : w.ownsRow B 35 1 v xs.length (nums .u64 xs)) : RU B w v xs := Kd.R_of_own h (fun _ _ => trivial)
theorem RU.block {B : Nat} {w : World} {v : Value} {xs : List Int} (h : RU B w v xs) (hx : 0 < xs.length) : ∃ g c, v = .slice (some ⟨g, 0, none⟩) xs.length c := by
  obtain ⟨g, c, e, -⟩ := Kd.R_form h hx
  exact ⟨g, c, e⟩
theorem RU.at {B g n c : Nat} {w : World} {xs : List Int} (h : RU B w (.slice (some ⟨g, 0, none⟩) n c) xs) (i : Nat) (hi : i < xs.length) : w.cell? ⟨g, i, none⟩ = some (.int .u64 (rd xs (i : Int))) ∧ w.frozen? ⟨g, i, none⟩ = false := by
  have hn : xs.length = n := by
    obtain ⟨A', c', e, -, -⟩ := h.form
    injection e with _ e2 _
    exact e2.symm
  have ho := h.own
  rw [hn] at ho
  have := own_at ho (i : Int) (by omega) (by omega)
  simpa using this
theorem RU.put {B g n c : Nat} {w : World} {xs : List Int} (h : RU B w (.slice (some ⟨g, 0, none⟩) n c) xs) (i : Nat) (hi : i < xs.length) (x : Int) : RU B (w.setCell ⟨g, i, none⟩ (.int .u64 x)) (.slice (some ⟨g, 0, none⟩) n c) (xs.set i x) := by
  have hn : xs.length = n := by
    obtain ⟨A', c', e, -, -⟩ := h.form
    injection e with _ e2 _
    exact e2.symm
  have ho := h.own
  rw [hn] at ho
  have h2 := (own_store ho (i : Int) x).1
  refine RU.of ?_
  rw [List.length_set, hn]
  simpa using h2
/-- the first i of a list turned -/
def mixL (f : Int → Int) (Y : List Int) (i : Nat) : List Int := (Y.take i).map f ++ Y.drop i
theorem mixL_zero (f : Int → Int) (Y : List Int) : mixL f Y 0 = Y := by simp [mixL]
theorem mixL_all (f : Int → Int) (Y : List Int) : mixL f Y Y.length = Y.map f := by simp [mixL]
theorem mixL_len (f : Int → Int) (Y : List Int) (i : Nat) : (mixL f Y i).length = Y.length := by simp [mixL]; omega
theorem mixL_rd (f : Int → Int) (Y : List Int) (i : Nat) (hi : i < Y.length) : rd (mixL f Y i) (i : Int) = rd Y (i : Int) := by
  unfold rd mixL
  rw [Int.toNat_natCast, List.getD_eq_getElem?_getD, List.getD_eq_getElem?_getD, List.getElem?_append_right (by simp; omega)]
  simp [Nat.min_eq_left (Nat.le_of_lt hi)]
theorem mixL_set (f : Int → Int) (Y : List Int) (i : Nat) (hi : i < Y.length) : (mixL f Y i).set i (f (rd Y (i : Int))) = mixL f Y (i + 1) := by
  have hr : rd Y (i : Int) = Y[i] := by
    unfold rd
    rw [Int.toNat_natCast, List.getD_eq_getElem?_getD, List.getElem?_eq_getElem hi]
    rfl
  have hl : ((Y.take i).map f).length = i := by simp; omega
  rw [hr]
  unfold mixL
  rw [List.drop_eq_getElem_cons hi, List.take_succ_eq_append_getElem hi, List.map_append, List.append_assoc, List.set_append_right _ _ (by omega), hl, Nat.sub_self]
  rfl
end Go.Proofs.YtdgngpcfikgoeaaDoor.P
