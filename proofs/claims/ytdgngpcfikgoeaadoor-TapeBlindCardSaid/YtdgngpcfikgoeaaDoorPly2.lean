/- Bits and Seed of a tape, and the document's Seed. -/
import Derived.Test.YtdgngpcfikgoeaaDoorPly1
import Derived.Laws.MakeOwn
namespace Go.Proofs.YtdgngpcfikgoeaaDoor.P
open Go.RowKit Go.Extern.Stop Go.Stop Go.Extern Go.Proofs.YtdgngpcfikgoeaaDoorW.PrintWords Go.Proofs.YtdgngpcfikgoeaaDoorW.PrintLast Go.Proofs.YtdgngpcfikgoeaaDoorW.PrintMore
set_option linter.unusedVariables false
set_option linter.unusedSimpArgs false
attribute [local go_sem ↓] Go.wp_at_zero Go.wp_at_succ

/-! ### rows of bools -/
abbrev RB (B : Nat) (w : World) (v : Value) (l : List Bool) : Prop := Kd.R Kd.bool 4 w B (fun _ => True) v l
theorem infoBool : (Tryd.prog.info? 4).map (fun i => (i.zero, i.size, i.bytes)) = some (some (.bool false), 1, 1) := by kernel_rfl
theorem RB.move {B : Nat} {w w1 : World} {v : Value} {l : List Bool} (h : RB B w v l) (hm : ∀ k, v.ownBlock = some k → w1.heap[k]? = w.heap[k]?) : RB B w1 v l :=
  Kd.R_reok rfl (Kd.R_move (Kd.R_tight rfl h) (fun k hk => hm k hk.symm)) (fun _ _ => trivial)
theorem RB.lt {B : Nat} {w : World} {v : Value} {l : List Bool} (h : RB B w v l) : ∀ k, v.ownBlock = some k → k < w.heap.size := by
  obtain ⟨inner, ho⟩ := Kd.R_own h
  exact fun k hk => own_lt ho k hk
theorem RB.ge {B : Nat} {w : World} {v : Value} {l : List Bool} (h : RB B w v l) : ∀ k, v.ownBlock = some k → B ≤ k := by
  obtain ⟨inner, ho⟩ := Kd.R_own h
  exact fun k hk => own_base ho k hk
theorem RB.chg {B : Nat} {S : Nat → Prop} {w w1 : World} {v : Value} {l : List Bool} (h : RB B w v l) (hc : Chg S w w1) (hv : ∀ k, v.ownBlock = some k → ¬ S k) : RB B w1 v l := h.move (fun k hk => hc.block k (h.lt k hk) (hv k hk))
theorem RB.form {B : Nat} {w : World} {v : Value} {l : List Bool} (h : RB B w v l) : ∃ A c, v = .slice A l.length c ∧ l.length ≤ c ∧ Kd.C Kd.bool w A l.length l := Kd.R_reads h
theorem RB.ne {B : Nat} {w : World} {v : Value} {l : List Bool} (h : RB B w v l) {g t : Nat} {cs : Array Value} (hb : w.heap[g]? = some (.cells cs t (0, 0))) (ht : 4 ≠ t) : v.ownBlock ≠ some g := fun e => Kd.R_ne h hb ht e.symm
theorem RB.block {B : Nat} {w : World} {v : Value} {xs : List Bool} (h : RB B w v xs) (hx : 0 < xs.length) : ∃ g c, v = .slice (some ⟨g, 0, none⟩) xs.length c := by
  obtain ⟨g, c, e, -⟩ := Kd.R_form h hx
  exact ⟨g, c, e⟩
theorem RB.own {B : Nat} {w : World} {v : Value} {xs : List Bool} (h : RB B w v xs) : w.ownsRow B 4 1 v xs.length (encs Value.bool xs) := Kd.own_of_R h
theorem RB.len {B g n c : Nat} {w : World} {xs : List Bool} (h : RB B w (.slice (some ⟨g, 0, none⟩) n c) xs) : xs.length = n := by
  obtain ⟨A', c', e, -, -⟩ := h.form
  injection e with _ e2 _
  exact e2.symm
theorem RB.at {B g n c : Nat} {w : World} {xs : List Bool} (h : RB B w (.slice (some ⟨g, 0, none⟩) n c) xs) (i : Nat) (hi : i < xs.length) : w.cell? ⟨g, i, none⟩ = some (.bool (rdOf false xs (i : Int))) ∧ w.frozen? ⟨g, i, none⟩ = false := by
  have ho := h.own
  rw [h.len] at ho
  have := own_at_of (d := false) ho (i : Int) (by omega) (by have := h.len; omega)
  simpa using this
theorem RB.put {B g n c : Nat} {w : World} {xs : List Bool} (h : RB B w (.slice (some ⟨g, 0, none⟩) n c) xs) (i : Nat) (hi : i < xs.length) (x : Bool) : RB B (w.setCell ⟨g, i, none⟩ (.bool x)) (.slice (some ⟨g, 0, none⟩) n c) (xs.set i x) := by
  have ho := h.own
  rw [h.len] at ho
  have h2 := (own_store_of ho (i : Int) x).1
  refine Kd.R_of_own ?_ (fun _ _ => trivial)
  rw [List.length_set, h.len]
  simpa using h2
/-- the first i bits of a list, false behind -/
def bitL (Y : List Int) (i : Nat) : List Bool := (Y.take i).map (fun x => decide (x.toNat % 2 = 1)) ++ List.replicate (Y.length - i) false
theorem bitL_len (Y : List Int) (i : Nat) (hi : i ≤ Y.length) : (bitL Y i).length = Y.length := by simp [bitL]; omega
theorem bitL_zero (Y : List Int) : bitL Y 0 = List.replicate Y.length false := by simp [bitL]
theorem bitL_all (Y : List Int) : bitL Y Y.length = Y.map (fun x => decide (x.toNat % 2 = 1)) := by simp [bitL]
theorem rd_get {Y : List Int} {i : Nat} (hi : i < Y.length) : rd Y (i : Int) = Y[i] := by
  unfold rd
  rw [Int.toNat_natCast, List.getD_eq_getElem?_getD, List.getElem?_eq_getElem hi]
  rfl
theorem bitL_set (Y : List Int) (i : Nat) (hi : i < Y.length) : (bitL Y i).set i (decide ((rd Y (i : Int)).toNat % 2 = 1)) = bitL Y (i + 1) := by
  have hl : ((Y.take i).map (fun x : Int => decide (x.toNat % 2 = 1))).length = i := by simp; omega
  rw [rd_get hi]
  unfold bitL
  rw [List.take_succ_eq_append_getElem hi, List.map_append, List.append_assoc, List.set_append_right _ _ (by omega), hl, Nat.sub_self, show Y.length - i = (Y.length - (i + 1)) + 1 by omega, List.replicate_succ]
  rfl
set_option maxHeartbeats 3200000 in
theorem bits_any (n : Int) (w : World) (B g : Nat) (v : Value) (l : List Int) (a : Nat) (h : TAt w B g v l a) (hu : ∀ x ∈ l, 0 ≤ x ∧ x < 18446744073709551616) :
    Calls Tryd.prog 17 #[.pointer (some ⟨g, 0, none⟩), .int .i64 n] w fun e w' => ∃ u ev, e = .returned (.tuple #[u, ev]) ∧ RB w.heap.size w' u ((takeX l a n).map (fun x => decide (x.toNat % 2 = 1))) ∧ Left w w' B g v l (takeA l a n) ev (takeE l a n) := by
  by_cases hE : takeE l a n = 0
  case neg =>
    unfold takeX takeA
    simp only [if_neg hE]
    exact (bits_bad n _ _ w (bad_of h hE)).mono fun e w' ⟨ev, he, hv, hb⟩ => ⟨_, ev, he, Kd.R_nil _ _ _ _ _, .inr ⟨_, hv⟩, h.below hb, Chg.of_below hb _⟩
  obtain ⟨h0, h1⟩ := takeE_zero h.le hE
  have hR := take_okI n n.toNat (by omega) w B g v l a h h1
  have HVL := Lib.hid h.row.lt
  unfold takeX takeA
  simp only [hE, if_pos]
  have hY : ∀ x ∈ (l.take (a + n.toNat)).drop a, 0 ≤ x ∧ x < 18446744073709551616 := fun x hx => hu x (mem_mid hx)
  have hYl : ((l.take (a + n.toNat)).drop a).length = n.toNat ∧ n.toNat ≤ 1048576 := by have := h.len; rw [List.length_drop, List.length_take]; omega
  obtain ⟨m, rfl⟩ : ∃ m : Nat, n = (m : Int) := ⟨n.toNat, by omega⟩
  simp only [Int.toNat_natCast] at *
  generalize (l.take (a + m)).drop a = Y at *
  have HR := Lib.hid hR
  have HY := Lib.hid hY
  have HYL := Lib.hid hYl
  clear hR hY hYl h hu h1 hE
  go_enter Tryd.func17, Tryd.ntmps17
  go_wp2_with (first
    | (go_at_call 12; go_loud ((with_reducible refine HR.out.mono ?_); rintro e w1 ⟨u, rfl, hu, ht, hc⟩; have HU := Lib.hid hu; have HT := Lib.hid ht; have HC := Lib.hid hc; obtain ⟨A1, c1, eu, -, -⟩ := hu.form; rw [HYL.out.1] at eu; subst eu; clear hu ht hc))
    | ((with_reducible refine gate_dst (N := 22) rfl ?_); go_loud (refine Kd.R_make Kd.bool _ 4 rfl (N := 22) rfl 45 _ _ rfl (m : Int) rfl rfl Tryd.underlying45 (.bool false) 1 infoBool rfl (by decide) (by omega) false (ok := fun _ => True) (okp := fun _ => True) rfl (fun _ hk => hk) trivial (by omega) (by rw [Int.toNat_natCast]; have := HYL.out; omega) (Below.refl _ _) (Nat.le_refl _) ?_; intro v4 w4 ho4 hb4 hg_ hnew_; rw [Int.toNat_natCast] at ho4; have HO4 := Lib.hid ho4; have HB4 := Lib.hid hb4; obtain ⟨A4, c4, e4, -, -⟩ := RB.form ho4; rw [List.length_replicate] at e4; subst e4; clear ho4 hb4 hg_ hnew_)))
  have HR4 : Hid (RB w.heap.size w4 (.slice A4 m c4) (bitL Y 0)) := Lib.hid (by rw [bitL_zero, HYL.out.1]; exact Kd.R_lower HO4.out HC.out.size)
  go_loopw [9, 10, 25] (fun v9 v10 v25 wr => ∃ i : Nat, i ≤ m ∧ v25 = .int .i64 (i : Int) ∧ Hid (RB w.heap.size wr (.slice A4 m c4) (bitL Y i)) ∧ Hid (RU w.heap.size wr (.slice A1 m c1) Y) ∧ Hid (TAt wr B g v l (a + m)) ∧ Hid (Chg (fun k => k = g) w wr)) (fun _ _ v25 _ => m - (intOf v25).toNat)
  case atStart => exact ⟨0, by omega, rfl, HR4, Lib.hid (Kd.R_below HU.out HB4.out), Lib.hid (HT.out.below HB4.out), Lib.hid (HC.out.trans (Chg.of_below HB4.out _))⟩
  case round =>
    obtain ⟨wo, rfl⟩ : ∃ wo : World, wo = wr := ⟨_, rfl⟩
    obtain ⟨i, hi, rfl, HRB, HU, HT, HCH⟩ := hrel
    by_cases hlt : i < m
    · have hltI : (i : Int) < (m : Int) := by omega
      have hi0 : (0 : Int) ≤ (i : Int) := by omega
      have hiY : i < Y.length := by have := HYL.out.1; omega
      obtain ⟨ad, rfl, q0⟩ := Kd.at_int (RU.C HU.out).1 (i : Int) hi0 (by omega)
      rw [Int.toNat_natCast] at q0
      obtain ⟨x0, x1⟩ := HY.out _ (rd_mem hiY)
      obtain ⟨x, hx⟩ : ∃ x : Nat, rd Y (i : Int) = (x : Int) := ⟨(rd Y (i : Int)).toNat, by omega⟩
      rw [hx] at q0 x0 x1
      obtain ⟨g4, c4', e4⟩ := HRB.out.block (by rw [bitL_len Y i (by omega)]; omega)
      injection e4 with e4 e5 e6
      subst e4
      clear e5 e6
      obtain ⟨r0, r1⟩ := HRB.out.at i (by rw [bitL_len Y i (by omega)]; exact hiY)
      obtain ⟨z, hz⟩ : ∃ z : Int, z = ((x % 2 : Nat) : Int) := ⟨_, rfl⟩
      have hand : Go.bits .and .u64 (x : Int) 1 = z := by rw [hz]; exact Num.and_mask_nat x 1 (by omega) (by omega)
      have hiw : IntKind.i64.wrap ((i : Int) + 1) = (i : Int) + 1 := IntWalk.i64_in _ ⟨by omega, by have := HYL.out.2; omega⟩
      have HSET := Lib.hid (show (bitL Y i).set i (z == 1) = bitL Y (i + 1) by
        have h := bitL_set Y i hiY
        rw [hx] at h
        have e : (z == 1) = decide ((x : Int).toNat % 2 = 1) := by
          rw [hz, Int.toNat_natCast]
          by_cases hq : x % 2 = 1
          · rw [hq]; rfl
          · have : x % 2 = 0 := by omega
            rw [this]; rfl
        rw [e]; exact h)
      clear hx hz x0 x1
      go_wp2
      go_roundw
      case measure => simp [intOf]; omega
      case rel =>
        refine ⟨i + 1, by omega, by go_num, ?_, ?_, ?_, ?_⟩
        · have h := HRB.out.put i (by rw [bitL_len Y i (by omega)]; exact hiY) (z == 1)
          rw [HSET.out] at h
          exact Lib.hid h
        · refine Lib.hid (HU.out.move (fun k hk => Below.heap_setCell _ _ _ _ (fun e => ?_)))
          rcases own_type_ne HU.out.own HRB.out.own (by decide) with q | q
          · rw [q] at hk; cases hk
          · exact q (by rw [hk, e]; rfl)
        · exact Lib.hid (HT.out.far (fun e => HRB.out.ne HT.out.blk (by decide) (by rw [e]; rfl)) (fun e => by have := HVL.out _ e; have := HRB.out.ge g4 rfl; omega))
        · exact Lib.hid (HCH.out.far (HRB.out.ge g4 rfl) _ _)
    · have hie : i = m := by omega
      subst hie
      have hnlt : ¬ (i : Int) < (i : Int) := by omega
      go_wp2
      go_ret2
      refine ⟨_, _, rfl, ?_, .inl ⟨rfl, rfl⟩, HT.out, HCH.out⟩
      have h := HRB.out
      have hl := HYL.out.1
      rw [← hl, bitL_all, hl] at h
      exact h
/-! ### seeds -/
/-- byte j of four words -/
def seedB (X : List Int) (j : Nat) : Int := ((((rd X ((j / 8 : Nat) : Int)).toNat / 2 ^ (8 * (j % 8))) % 256 : Nat) : Int)
def seedC (X : List Int) (i : Nat) : Array Value := ((List.range 32).map (fun j => Value.int .u8 (if j < i then seedB X j else 0))).toArray
theorem seedC_zero (X : List Int) : seedC X 0 = zc := by unfold seedC; simp; rfl
theorem seedC_size (X : List Int) (i : Nat) : (seedC X i).size = 32 := by simp [seedC]
theorem seedC_at (X : List Int) (i j : Nat) (hj : j < 32) : (seedC X i)[j]? = some (.int .u8 (if j < i then seedB X j else 0)) := by
  simp [seedC, List.getElem?_map, List.getElem?_range hj]
theorem seedC_set (X : List Int) (i : Nat) (hi : i < 32) : (seedC X i).setIfInBounds i (.int .u8 (seedB X i)) = seedC X (i + 1) := by
  apply Array.ext_getElem?
  intro j
  by_cases hj : j < 32
  · rw [seedC_at X (i + 1) j hj, Array.getElem?_setIfInBounds]
    by_cases hij : i = j
    · subst hij
      rw [if_pos rfl, if_pos (by rw [seedC_size]; exact hi), if_pos (by omega)]
    · rw [if_neg hij, seedC_at X i j hj]
      by_cases h1 : j < i
      · rw [if_pos h1, if_pos (by omega)]
      · rw [if_neg h1, if_neg (by omega)]
  · rw [Array.getElem?_eq_none (by simp [seedC_size]; omega), Array.getElem?_eq_none (by rw [seedC_size]; omega)]
theorem seedC_one (X : List Int) (i : Nat) : (seedC X i).all (·.oneCell') = true := by
  rw [Array.all_eq_true_iff_forall_mem]
  intro v hv
  simp only [seedC, List.mem_toArray, List.mem_map] at hv
  obtain ⟨j, -, rfl⟩ := hv
  rfl
theorem oct_facts (i : Nat) (hi : i < 32) : ∃ q r s : Nat, q = i / 8 ∧ r = i % 8 ∧ (s = 8 * (i % 8) ∧ s < 64) ∧ q < 4 ∧ (q : Int) < 4 ∧ (0 : Int) ≤ (q : Int) ∧ wrap64 ((i : Int).tdiv 8) = (q : Int) ∧ (i : Int).tdiv 8 = (q : Int) ∧ wrap64 ((i : Int).tmod 8) = (r : Int) ∧ (i : Int).tmod 8 = (r : Int) ∧ wrap64 (8 * (r : Int)) = (s : Int) ∧ IntKind.i64.wrap (8 * (r : Int)) = (s : Int) ∧ IntKind.u64.wrap (s : Int) = (s : Int) := by
  have e1 : (i : Int).tdiv 8 = ((i / 8 : Nat) : Int) := Num.tdiv_nat i 8
  have e2 : (i : Int).tmod 8 = ((i % 8 : Nat) : Int) := Num.tmod_nat i 8
  have a1 : -9223372036854775808 ≤ ((i / 8 : Nat) : Int) ∧ ((i / 8 : Nat) : Int) ≤ 9223372036854775807 := by omega
  have a2 : -9223372036854775808 ≤ ((i % 8 : Nat) : Int) ∧ ((i % 8 : Nat) : Int) ≤ 9223372036854775807 := by omega
  have a3 : -9223372036854775808 ≤ 8 * ((i % 8 : Nat) : Int) ∧ 8 * ((i % 8 : Nat) : Int) ≤ 9223372036854775807 := by omega
  have a4 : 8 * ((i % 8 : Nat) : Int) = ((8 * (i % 8) : Nat) : Int) := by omega
  have a5 : 8 * (i % 8) < 64 := by omega
  have a6 : 8 * (i % 8) < 18446744073709551616 := by omega
  have a7 : i / 8 < 4 := by omega
  have a8 : ((i / 8 : Nat) : Int) < 4 := by omega
  have a9 : (0 : Int) ≤ ((i / 8 : Nat) : Int) := by omega
  refine ⟨i / 8, i % 8, 8 * (i % 8), rfl, rfl, ⟨rfl, a5⟩, a7, a8, a9, ?_, e1, ?_, e2, ?_, ?_, ?_⟩
  · rw [e1]; exact ew64 a1.1 a1.2
  · rw [e2]; exact ew64 a2.1 a2.2
  · rw [ew64 a3.1 a3.2]; exact a4
  · rw [wrap_i64 a3.1 a3.2]; exact a4
  · exact Num.wu64_nat' a6
def seedV (X : List Int) : Value := .agg (if X.length = 4 then seedC X 32 else zc)
theorem TAt.rowFar {B g : Nat} {w : World} {v : Value} {l : List Int} {a : Nat} (h : TAt w B g v l a) {k : Nat} (cs : Array Value) (hg : g ≠ k) (hv : v.ownBlock ≠ some k) : TAt (w.setRow k cs) B g v l a :=
  ⟨(setRow_other _ _ _ _ hg).trans h.blk, h.ge, h.row.move (fun q hq => setRow_other _ _ _ _ (fun e => hv (by rw [hq, e]))), h.le, h.len⟩
theorem val_cast (x s : Nat) : (x : Int) / 2 ^ s % 256 = ((x / 2 ^ s % 256 : Nat) : Int) := by
  rw [Int.natCast_emod, Int.natCast_ediv, Int.natCast_pow]
  rfl
set_option maxHeartbeats 3200000 in
theorem seed_ok (w : World) (B g : Nat) (v : Value) (l : List Int) (a : Nat) (h : TAt w B g v l a) (hf : a + 4 ≤ l.length) (hu : ∀ x ∈ l, 0 ≤ x ∧ x < 18446744073709551616) :
    Calls Tryd.prog 16 #[.pointer (some ⟨g, 0, none⟩)] w fun e w' => e = .returned (.tuple #[.agg (seedC ((l.take (a + 4)).drop a) 32), .nilIface]) ∧ TAt w' B g v l (a + 4) ∧ Chg (fun k => k = g) w w' := by
  have hb0 := below_alloc (Below.refl w.heap.size w) (.cells zc 42)
  have hR := take_okI 4 4 rfl _ B g v l a (h.below hb0) hf
  have HVL := Lib.hid h.row.lt
  have HGL := Lib.hid (blk_lt h.blk)
  have hY : ∀ x ∈ (l.take (a + 4)).drop a, 0 ≤ x ∧ x < 18446744073709551616 := fun x hx => hu x (mem_mid hx)
  have hYl : ((l.take (a + 4)).drop a).length = 4 := by rw [List.length_drop, List.length_take]; omega
  generalize (l.take (a + 4)).drop a = Y at *
  have HR := Lib.hid hR
  have HY := Lib.hid hY
  have HYL := Lib.hid hYl
  have HB0 := Lib.hid hb0
  have HK0 := Lib.hid (heap_alloc_new w (.cells zc 42))
  clear hR hY hYl h hu hf hb0
  go_enter Tryd.func16, Tryd.ntmps16
  go_wp2_with (go_at_call 12; go_loud ((refine HR.out.mono ?_); rintro e w1 ⟨u, rfl, hu, ht, hc⟩; have HU := Lib.hid hu; have HT := Lib.hid ht; have HC := Lib.hid hc; obtain ⟨A1, c1, eu, -, -⟩ := hu.form; rw [HYL.out] at eu; subst eu; have HK1 := Lib.hid ((hc.block _ (blk_lt HK0.out) (fun e => by have := HGL.out; omega)).trans HK0.out); clear hu ht hc))
  go_loopw [7, 18] (fun v7 v18 wr => ∃ i : Nat, i ≤ 32 ∧ v18 = .int .i64 (i : Int) ∧ Hid (wr.heap[w1.heap.size]? = some (.cells (seedC Y i) 42 (0, 0))) ∧ Hid (wr.heap[w.heap.size]? = some (.cells zc 42 (0, 0))) ∧ Hid (RU 0 wr (.slice A1 4 c1) Y) ∧ Hid (TAt wr B g v l (a + 4)) ∧ Hid (Chg (fun k => k = g) w wr)) (fun _ v18 _ => 32 - (intOf v18).toNat)
  case atStart =>
    refine ⟨0, by omega, rfl, Lib.hid ?_, Lib.hid (blk_alloc HK1.out _), Lib.hid (Kd.R_alloc (Kd.R_lower HU.out (Nat.zero_le _)) _), Lib.hid (HT.out.below (below_alloc (Below.refl _ _) _)), Lib.hid (((Chg.of_below HB0.out (fun k => k = g)).trans HC.out).alloc _)⟩
    rw [seedC_zero]
    exact heap_alloc_new w1 _
  have hsz : w.heap.size < w1.heap.size := blk_lt HK1.out
  have HNV := Lib.hid (fun k (e : v.ownBlock = some k) => Nat.lt_trans (HVL.out k e) hsz)
  case round =>
    obtain ⟨wo, rfl⟩ : ∃ wo : World, wo = wr := ⟨_, rfl⟩
    obtain ⟨i, hi, rfl, HS, HZ, HU, HT, HCH⟩ := hrel
    by_cases hlt : i < 32
    · have hltI : (i : Int) < 32 := by omega
      have hi0 : (0 : Int) ≤ (i : Int) := by omega
      obtain ⟨ad, rfl, q0⟩ := Kd.at_int (RU.C HU.out).1 ((i / 8 : Nat) : Int) (by omega) (by have := HYL.out; omega)
      rw [Int.toNat_natCast] at q0
      have hiY : i / 8 < Y.length := by have := HYL.out; omega
      obtain ⟨x0, x1⟩ := HY.out _ (rd_mem hiY)
      obtain ⟨x, hx⟩ : ∃ x : Nat, rd Y ((i / 8 : Nat) : Int) = (x : Int) := ⟨(rd Y ((i / 8 : Nat) : Int)).toNat, by omega⟩
      rw [hx] at q0
      have hiw : IntKind.i64.wrap ((i : Int) + 1) = (i : Int) + 1 := IntWalk.i64_in _ ⟨by omega, by omega⟩
      obtain ⟨q, r, s, hq, hr, hs, hq4, hq5, hq6, hd1, hd2, hd3, hd4, hd5, hd6, hd7⟩ := oct_facts i hlt
      have hd8 : shr .u64 (x : Int) (s : Int) = ((x / 2 ^ s : Nat) : Int) := Num.shr_nat x s (Nat.le_of_lt hs.2)
      rw [← hq] at q0
      have HX := Lib.hid (show seedB Y i = ((x / 2 ^ s % 256 : Nat) : Int) by unfold seedB; rw [hx, Int.toNat_natCast, hs.1])
      have k0 := blk_cell HS.out i
      rw [seedC_at Y i i hlt] at k0
      have k1 := blk_frozen HS.out i
      have hmin : min s 64 = s := Nat.min_eq_left (Nat.le_of_lt hs.2)
      clear hx hs hq hr x0 x1 hiY
      go_wp2
      clear hd1 hd2 hd3 hd4 hd5 hd6 hd7 hd8 hiw
      have hval : (x : Int) / 2 ^ s % 256 = seedB Y i := by rw [HX.out]; exact val_cast x s
      rw [hval]
      have hne : (Value.slice (some ad) 4 c1).ownBlock ≠ some w1.heap.size := by have h := HU.out.ne HS.out (by decide); exact h
      refine ⟨⟨i + 1, Nat.succ_le_of_lt hlt, by go_num, ?_, ?_, ?_, ?_, ?_⟩, ?_⟩
      · have h := blk_set HS.out i (.int .u8 (seedB Y i))
        rw [seedC_set Y i hlt] at h
        exact Lib.hid h
      · exact Lib.hid (blk_far HZ.out (Nat.ne_of_lt hsz) _)
      · exact Lib.hid (HU.out.move (fun k hk => Below.heap_setCell _ _ _ _ (fun e => hne (by rw [hk, e]))))
      · exact Lib.hid (HT.out.far (Nat.ne_of_lt (Nat.lt_trans HGL.out hsz)) (fun e => Nat.lt_irrefl _ (HNV.out _ e)))
      · exact Lib.hid (HCH.out.far (Nat.le_of_lt hsz) _ _)
      · simp [intOf]; omega
    · have hie : i = 32 := by omega
      subst hie
      clear hi hlt
      go_wp2_with (first
        | ((with_reducible refine gate_dst (N := 35) rfl ?_); go_loud (refine wpList_load_row rfl 42 (.tmp 6) rfl w1.heap.size (by rfl) 42 (seedC Y 32) (0, 0) _ HS.out Tryd.underlying42 (by rfl) (by rw [seedC_size]; kernel_rfl) ?_))
        | ((with_reducible refine gate_store (t := 42) (p := 2) (v := .tmp 35) rfl ?_); go_loud (refine wpList_store_rowTo rfl 42 (.tmp 2) (.tmp 35) rfl rfl w.heap.size (seedC Y 32) (by rfl) (by rfl) 42 zc HZ.out (by rw [seedC_size]; kernel_rfl) (by rw [seedC_size]; rfl) (seedC_one Y 32) ?_)))
      refine bodyPost_ret (results_ct rfl _ _ w.heap.size 42 (seedC Y 32) (0, 0) _ rfl (setRow_heap _ _ _ _ _ _ HZ.out) Tryd.underlying42 rfl (by rw [seedC_size]; kernel_rfl)) rfl ?_
      exact ⟨rfl, HT.out.rowFar _ (Nat.ne_of_lt HGL.out) (fun e => Nat.lt_irrefl _ (HVL.out _ e)), HCH.out.row _ (.inr (Nat.le_refl _))⟩
theorem seed_any (w : World) (B g : Nat) (v : Value) (l : List Int) (a : Nat) (h : TAt w B g v l a) (hu : ∀ x ∈ l, 0 ≤ x ∧ x < 18446744073709551616) :
    Calls Tryd.prog 16 #[.pointer (some ⟨g, 0, none⟩)] w fun e w' => ∃ ev, e = .returned (.tuple #[seedV (takeX l a 4), ev]) ∧ Left w w' B g v l (takeA l a 4) ev (takeE l a 4) := by
  unfold takeX takeA
  by_cases hE : takeE l a 4 = 0
  · obtain ⟨h0, h1⟩ := takeE_zero h.le hE
    have h2 : a + 4 ≤ l.length := h1
    have hl : ((l.take (a + (4 : Int).toNat)).drop a).length = 4 := by
      show ((l.take (a + 4)).drop a).length = 4
      rw [List.length_drop, List.length_take]; omega
    simp only [hE, if_pos]
    unfold seedV
    rw [if_pos hl]
    exact (seed_ok w B g v l a h h2 hu).mono fun e w' ⟨he, ht, hc⟩ => ⟨_, he, .inl ⟨rfl, rfl⟩, ht, hc⟩
  · simp only [if_neg hE]
    unfold seedV
    rw [if_neg (by decide)]
    exact (seed_bad _ _ w (bad_of h hE)).mono fun e w' ⟨ev, he, hv, hb⟩ => ⟨ev, he, .inr ⟨_, hv⟩, h.below hb, Chg.of_below hb _⟩
end Go.Proofs.YtdgngpcfikgoeaaDoor.P
