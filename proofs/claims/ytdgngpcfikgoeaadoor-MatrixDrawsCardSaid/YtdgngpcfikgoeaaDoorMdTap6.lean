/- Numbers of a tape: the program's and the document's. -/
import Derived.Test.YtdgngpcfikgoeaaDoorMdTap5
import Derived.Test.YtdgngpcfikgoeaaDoorMdNum
namespace Go.Proofs.YtdgngpcfikgoeaaDoor.P
open Go.RowKit Go.Extern.Stop Go.Stop Go.Extern Go.Proofs.YtdgngpcfikgoeaaDoorW.PrintWords Go.Proofs.YtdgngpcfikgoeaaDoorW.PrintLast Go.Proofs.YtdgngpcfikgoeaaDoorW.PrintMore
set_option linter.unusedVariables false
set_option linter.unusedSimpArgs false
attribute [local go_sem ↓] Go.wp_at_zero Go.wp_at_succ

/-! ### the lowest bits -/
/-- the lowest b bits of a word -/
def cutB (b : Nat) (x : Int) : Int := ((x.toNat % 2 ^ b : Nat) : Int)
theorem mask_div (b : Nat) (hb : b ≤ 64) (hb0 : 1 ≤ b) : (18446744073709551615 : Int) / 2 ^ (64 - b) = ((2 ^ b - 1 : Nat) : Int) := by
  have h := Num.mask_nat b hb0 hb
  have e : IntKind.u64.wrap (wrap64 (64 - (b : Int))) = ((64 - b : Nat) : Int) := by
    rw [show wrap64 (64 - (b : Int)) = ((64 - b : Nat) : Int) by rw [ew64 (by omega) (by omega)]; omega]
    exact Num.wu64_nat' (by omega)
  rw [e] at h
  have h2 := Num.shr_nat 18446744073709551615 (64 - b) (by omega)
  have h3 : ((18446744073709551615 : Nat) : Int) = 18446744073709551615 := rfl
  rw [h3, h] at h2
  rw [h2, Int.natCast_ediv, Int.natCast_pow]
  rfl
theorem and_pow (x b : Nat) (hb : b ≤ 64) (hb0 : 1 ≤ b) (hx : x < 18446744073709551616) : Go.bits .and .u64 (x : Int) (18446744073709551615 / 2 ^ (64 - b)) = ((x % 2 ^ b : Nat) : Int) := by
  rw [mask_div b hb hb0]
  exact Num.and_mask_nat x b hx hb
/-! ### the program's Numbers -/
theorem numbers_bad (n b : Int) (tp : Value) (c : Int) (w : World) (hb1 : 1 ≤ b) (hb2 : b ≤ 64) (h : Bad w n tp c) : Calls Tryd.prog 37 #[tp, .int .i64 n, .int .i64 b] w fun e w' => ∃ v, e = .returned (.tuple #[.slice none 0 0, v]) ∧ ErrIs 2 w' v c ∧ Below w.heap.size w w' := by
  have HR := Lib.hid (take_bad n tp c w h)
  have HW := Lib.hid (fun W v (hE : ErrIs 1 W v c) => fwrap_err ⟨#[110, 117, 109, 98, 101, 114, 115]⟩ 1 v c W hE)
  have h6 : ¬ b < 1 := by omega
  have h7 : ¬ b > 64 := by omega
  clear h hb1 hb2
  go_enter Tryd.func37, Tryd.ntmps37
  go_wp2_with (first
    | (go_at_call 12; (with_reducible refine HR.out.mono ?_); rintro e w1 ⟨v, rfl, hv, hb⟩; have HV := Lib.hid hv; have HB := Lib.hid hb; obtain ⟨p, rfl⟩ := hv.form; clear hv hb)
    | (go_at_call 34; (with_reducible refine (HW.out _ _ HV.out).mono ?_); rintro e w2 ⟨v2, rfl, hv, hb⟩; have HV2 := Lib.hid hv; have HB2 := Lib.hid hb; clear hv hb))
  go_ret2
  exact ⟨v2, rfl, HV2.out, below_step HB.out HB2.out⟩
theorem Chg.far {S : Nat → Prop} {w w' : World} (h : Chg S w w') {g : Nat} (hg : w.heap.size ≤ g) (j : Nat) (v : Value) : Chg S w (w'.setCell ⟨g, j, Option.none⟩ v) :=
  ⟨h.os, h.tape, h.output, by simpa using h.size, fun k hk hs => (Below.heap_setCell w' ⟨g, j, Option.none⟩ v k (fun e => by simp at e; omega)).trans (h.block k hk hs)⟩
/-- a cell of another block turned -/
theorem TAt.far {B g : Nat} {w : World} {v : Value} {l : List Int} {a : Nat} (h : TAt w B g v l a) {k j : Nat} {u : Value} (hg : g ≠ k) (hv : v.ownBlock ≠ some k) : TAt (w.setCell ⟨k, j, Option.none⟩ u) B g v l a :=
  ⟨blk_far h.blk hg _, h.ge, h.row.move (fun q hq => Below.heap_setCell _ _ _ _ (fun e => hv (by rw [hq, e]))), h.le, h.len⟩
theorem mem_mid {l : List Int} {a n : Nat} {x : Int} (h : x ∈ (l.take (a + n)).drop a) : x ∈ l := List.mem_of_mem_take (List.mem_of_mem_drop h)
theorem rd_mem {l : List Int} {i : Nat} (h : i < l.length) : rd l (i : Int) ∈ l := by
  unfold rd
  rw [Int.toNat_natCast, List.getD_eq_getElem?_getD, List.getElem?_eq_getElem h]
  exact List.getElem_mem h
set_option maxHeartbeats 3200000 in
theorem numbers_ok (n b : Nat) (w : World) (B g : Nat) (v : Value) (l : List Int) (a : Nat) (hb1 : 1 ≤ b) (hb2 : b ≤ 64) (h : TAt w B g v l a) (hf : a + n ≤ l.length) (hu : ∀ x ∈ l, 0 ≤ x ∧ x < 18446744073709551616) :
    Calls Tryd.prog 37 #[.pointer (some ⟨g, 0, none⟩), .int .i64 (n : Int), .int .i64 (b : Int)] w fun e w' => ∃ u, e = .returned (.tuple #[u, .nilIface]) ∧ RU w.heap.size w' u (((l.take (a + n)).drop a).map (cutB b)) ∧ TAt w' B g v l (a + n) ∧ Chg (fun k => k = g) w w' := by
  have HR := Lib.hid (take_ok n w B g v l a h hf)
  have hY : ∀ x ∈ (l.take (a + n)).drop a, 0 ≤ x ∧ x < 18446744073709551616 := fun x hx => hu x (mem_mid hx)
  have hYl : ((l.take (a + n)).drop a).length ≤ 1048576 := by have := h.len; rw [List.length_drop, List.length_take]; omega
  have HYL := Lib.hid hYl
  have HVL := Lib.hid h.row.lt
  generalize (l.take (a + n)).drop a = Y at *
  have HY := Lib.hid hY
  have h6 : ¬ (b : Int) < 1 := by omega
  have h7 : ¬ (b : Int) > 64 := by omega
  have hw1 : wrap64 (64 - (b : Int)) = ((64 - b : Nat) : Int) := by rw [ew64 (by omega) (by omega)]; omega
  have hw2 : IntKind.i64.wrap (64 - (b : Int)) = ((64 - b : Nat) : Int) := by rw [wrap_i64 (by omega) (by omega)]; omega
  have hw3 : IntKind.u64.wrap ((64 - b : Nat) : Int) = ((64 - b : Nat) : Int) := by rw [IntKind.wrap_u64]; omega
  clear h hf hu hY hYl
  go_enter Tryd.func37, Tryd.ntmps37
  go_wp2_with (go_at_call 12; (with_reducible refine HR.out.mono ?_); rintro e w1 ⟨u, rfl, hu, ht, hc⟩; have HU := Lib.hid hu; have HT := Lib.hid ht; have HC := Lib.hid hc; obtain ⟨A1, c1, rfl, -, -⟩ := hu.form; clear hu ht hc)
  go_loopw [10, 30] (fun v10 v30 wr => ∃ i : Nat, i ≤ Y.length ∧ v30 = .int .i64 (i : Int) ∧ Hid (RU w.heap.size wr (.slice A1 Y.length c1) (mixL (cutB b) Y i)) ∧ Hid (TAt wr B g v l (a + n)) ∧ Hid (Chg (fun k => k = g) w wr)) (fun _ v30 _ => Y.length - (intOf v30).toNat)
  case atStart => exact ⟨0, by omega, rfl, Lib.hid (by rw [mixL_zero]; exact HU.out), HT, HC⟩
  case round =>
    obtain ⟨wo, rfl⟩ : ∃ wo : World, wo = wr := ⟨_, rfl⟩
    obtain ⟨i, hi, rfl, HU, HT, HC⟩ := hrel
    by_cases hlt : i < Y.length
    · have hltI : (i : Int) < (Y.length : Int) := by omega
      have hi0 : (0 : Int) ≤ (i : Int) := by omega
      obtain ⟨g1, c1', e1⟩ := HU.out.block (by rw [mixL_len]; omega)
      injection e1 with e1 e2 e3
      subst e1
      clear e2 e3
      obtain ⟨q0, q1⟩ := HU.out.at i (by rw [mixL_len]; exact hlt)
      rw [mixL_rd _ _ _ hlt] at q0
      obtain ⟨x0, x1⟩ := HY.out _ (rd_mem hlt)
      obtain ⟨x, hx⟩ : ∃ x : Nat, rd Y (i : Int) = (x : Int) := ⟨(rd Y (i : Int)).toNat, by omega⟩
      rw [hx] at q0 x0 x1
      have hand := and_pow x b hb2 hb1 (by omega)
      have hiw : IntKind.i64.wrap ((i : Int) + 1) = (i : Int) + 1 := IntWalk.i64_in _ ⟨by omega, by have := HYL.out; omega⟩
      have HX := Lib.hid hx
      clear hx x0 x1
      have HSET := Lib.hid (show (mixL (cutB b) Y i).set i (((x % 2 ^ b : Nat) : Int)) = mixL (cutB b) Y (i + 1) by
        have := mixL_set (cutB b) Y i hlt
        rw [HX.out] at this
        simpa [cutB] using this)
      have HAND := Lib.hid hand
      clear hand
      go_wp2
      refine ⟨⟨i + 1, by omega, by go_num, ?_, ?_, ?_⟩, by simp [intOf]; omega⟩
      · rw [HAND.out]
        have h := HU.out.put i (by rw [mixL_len]; exact hlt) (((x % 2 ^ b : Nat) : Int))
        rw [HSET.out] at h
        exact Lib.hid h
      · have hr := HU.out.ne HT.out.blk (by decide)
        have hg : w.heap.size ≤ g1 := HU.out.ge g1 rfl
        exact Lib.hid (HT.out.far (fun e => hr (by rw [e]; rfl)) (fun e => by have := HVL.out _ e; omega))
      · exact Lib.hid (HC.out.far (HU.out.ge g1 rfl) _ _)
    · have hie : i = Y.length := by omega
      subst hie
      have hnlt : ¬ (Y.length : Int) < (Y.length : Int) := by omega
      go_wp2
      go_ret2
      refine ⟨_, rfl, ?_, HT.out, HC.out⟩
      have h := HU.out
      rw [mixL_all] at h
      exact h
/-! ### the document's Cut and Numbers -/
theorem cut_ok (x : Nat) (b : Nat) (w : World) (hb1 : 1 ≤ b) (hb2 : b ≤ 64) (hx : x < 18446744073709551616) : Calls Tryd.prog 52 #[.int .u64 (x : Int), .int .i64 (b : Int)] w fun e w' => e = .returned (.int .u64 ((x % 2 ^ b : Nat) : Int)) ∧ w = w' := by
  by_cases h : (b : Int) ≥ 64
  · have hb : b = 64 := by omega
    have hm : x % 2 ^ b = x := by rw [hb]; exact Nat.mod_eq_of_lt hx
    rw [hm]
    go_enter Tryd.func52, Tryd.ntmps52
    go_wp2
    go_ret
    exact ⟨rfl, rfl⟩
  · have hb : b < 64 := by omega
    have hw3 : IntKind.u64.wrap (b : Int) = (b : Int) := Num.wu64_nat' (by omega)
    have hp : IntKind.u64.wrap (2 ^ b) = ((2 ^ b : Nat) : Int) := by
      have hlt : 2 ^ b < 18446744073709551616 := Nat.pow_lt_pow_right (a := 2) (by decide) (show b < 64 from hb)
      have e : (2 : Int) ^ b = ((2 ^ b : Nat) : Int) := by rw [Int.natCast_pow]; rfl
      rw [e]
      exact Num.wu64_nat' hlt
    have hpos : 0 < 2 ^ b := Nat.two_pow_pos b
    rw [Int.natCast_emod]
    generalize 2 ^ b = P at *
    have hz : ¬ (P : Int) = 0 := by omega
    go_enter Tryd.func52, Tryd.ntmps52
    go_wp2
    go_ret
    exact ⟨rfl, rfl⟩
set_option maxHeartbeats 3200000 in
theorem rnums_gen (A : Option Addr) (c : Nat) (l : List Int) (a : Nat) (n : Int) (b : Nat) (w : World) (hb1 : 1 ≤ b) (hb2 : b ≤ 64) (a' : Nat) (Y : List Int) (E : Int) (hY : ∀ x ∈ Y, 0 ≤ x ∧ x < 18446744073709551616) (hYl : Y.length ≤ 1048576)
    (hR : ∀ W, Below w.heap.size w W → Calls Tryd.prog 36 #[rT A l.length c a, .int .i64 n] W fun e w' => ∃ u, e = .returned (.tuple #[rT A l.length c a', u, .int .i64 E]) ∧ RU W.heap.size w' u Y ∧ Below W.heap.size W w') :
    Calls Tryd.prog 38 #[rT A l.length c a, .int .i64 n, .int .i64 (b : Int)] w fun e w' => ∃ u, e = .returned (.tuple #[rT A l.length c a', u, .int .i64 E]) ∧ RU w.heap.size w' u (Y.map (cutB b)) ∧ Below w.heap.size w w' := by
  have HB2 := Lib.hid (below_alloc (below_alloc (Below.refl w.heap.size w) (.cells #[.slice A l.length c, .int .i64 (a : Int)] 54)) (.cells #[.slice none 0 0, .int .i64 0] 54))
  have HK := Lib.hid (heap_alloc2_new w (.cells #[.slice A l.length c, .int .i64 (a : Int)] 54) (.cells #[.slice none 0 0, .int .i64 0] 54))
  have HR := Lib.hid (hR _ HB2.out)
  have HYL := Lib.hid hYl
  have HY := Lib.hid hY
  have h6 : ¬ (b : Int) < 1 := by omega
  have h7 : ¬ (b : Int) > 64 := by omega
  clear hR hY hYl
  go_enter Tryd.func38, Tryd.ntmps38
  go_wp2_with (go_at_call 36; go_loud ((with_reducible refine HR.out.mono ?_); rintro e w1 ⟨u, rfl, hu, hb⟩; have HU := Lib.hid hu; have HB1 := Lib.hid (below_step HB2.out hb); have K1 := Lib.hid ((hb.block _ (blk_lt HK.out)).trans HK.out); obtain ⟨A1, c1, rfl, -, -⟩ := hu.form; clear hu hb))
  have HU0 : Hid (RU w.heap.size w1 (.slice A1 Y.length c1) Y) := Lib.hid (Kd.R_lower HU.out HB2.out.size)
  go_loopw [12] (fun v12 wr => ∃ i : Nat, i ≤ Y.length ∧ v12 = .int .i64 (i : Int) ∧ Hid (RU w.heap.size wr (.slice A1 Y.length c1) (mixL (cutB b) Y i)) ∧ Hid (wr.heap[w.heap.size + 1]? = some (.cells #[.slice none 0 0, .int .i64 0] 54 (0, 0))) ∧ Hid (wr.heap[w1.heap.size]? = some (.cells #[.slice A l.length c, .int .i64 (a' : Int)] 54 (0, 0))) ∧ Hid (Below w.heap.size w wr)) (fun v12 _ => Y.length - (intOf v12).toNat)
  case atStart => exact ⟨0, by omega, rfl, Lib.hid (by rw [mixL_zero]; exact Kd.R_alloc HU0.out _), Lib.hid (blk_alloc K1.out _), Lib.hid (heap_alloc_new w1 _), Lib.hid (below_alloc HB1.out _)⟩
  case round =>
    obtain ⟨wo, rfl⟩ : ∃ wo : World, wo = wr := ⟨_, rfl⟩
    obtain ⟨i, hi, rfl, HU, K1, K2, HB⟩ := hrel
    by_cases hlt : i < Y.length
    · have hltI : (i : Int) < (Y.length : Int) := by omega
      have hi0 : (0 : Int) ≤ (i : Int) := by omega
      obtain ⟨g1, c1', e1⟩ := HU.out.block (by rw [mixL_len]; omega)
      injection e1 with e1 e2 e3
      subst e1
      clear e2 e3
      obtain ⟨q0, q1⟩ := HU.out.at i (by rw [mixL_len]; exact hlt)
      rw [mixL_rd _ _ _ hlt] at q0
      obtain ⟨x0, x1⟩ := HY.out _ (rd_mem hlt)
      obtain ⟨x, hx⟩ : ∃ x : Nat, rd Y (i : Int) = (x : Int) := ⟨(rd Y (i : Int)).toNat, by omega⟩
      rw [hx] at q0 x0 x1
      have HCUT := Lib.hid (fun W => cut_ok x b W hb1 hb2 (by omega))
      have hiw : IntKind.i64.wrap ((i : Int) + 1) = (i : Int) + 1 := IntWalk.i64_in _ ⟨by omega, by have := HYL.out; omega⟩
      have HX := Lib.hid hx
      clear hx x0 x1
      have HSET := Lib.hid (show (mixL (cutB b) Y i).set i (((x % 2 ^ b : Nat) : Int)) = mixL (cutB b) Y (i + 1) by
        have := mixL_set (cutB b) Y i hlt
        rw [HX.out] at this
        simpa [cutB] using this)
      obtain ⟨z, hz⟩ : ∃ z : Int, z = ((x % 2 ^ b : Nat) : Int) := ⟨_, rfl⟩
      rw [← hz] at HCUT HSET
      clear hz
      go_wp2_with (go_at_call 52; (with_reducible refine (HCUT.out _).mono ?_); rintro e w2 ⟨rfl, rfl⟩)
      go_roundw
      case measure => simp [intOf]; omega
      case rel =>
        refine ⟨i + 1, by omega, by go_num, ?_, ?_, ?_, ?_⟩
        · have h := HU.out.put i (by rw [mixL_len]; exact hlt) z
          rw [HSET.out] at h
          exact Lib.hid h
        · exact Lib.hid (blk_far K1.out (fun e => HU.out.ne K1.out (by decide) (by rw [e]; rfl)) _)
        · exact Lib.hid (blk_far K2.out (fun e => HU.out.ne K2.out (by decide) (by rw [e]; rfl)) _)
        · exact Lib.hid (below_set HB.out (HU.out.ge g1 rfl))
    · have hie : i = Y.length := by omega
      subst hie
      have hnlt : ¬ (Y.length : Int) < (Y.length : Int) := by omega
      obtain ⟨k0, k1, -, -⟩ := cells_2 K2.out
      obtain ⟨m0, m1, mf0, mf1⟩ := cells_2 K1.out
      go_wp2
      refine bodyPost_ret (results_ctt rfl _ _ (w.heap.size + 1) 54 _ (0, 0) _ rfl (by simpa using blk_set (blk_set K1.out 0 (.slice A l.length c)) 1 (.int .i64 (a' : Int))) Tryd.underlying54 rfl (by kernel_rfl)) rfl ?_
      have hu := HU.out
      rw [mixL_all] at hu
      exact ⟨.slice A1 Y.length c1, rfl, (hu.move (fun k hk => Below.heap_setCell _ _ _ _ (fun e => hu.ne K1.out (by decide) (by rw [hk, e])))).move (fun k hk => Below.heap_setCell _ _ _ _ (fun e => hu.ne K1.out (by decide) (by rw [hk, e]))), below_set (below_set HB.out (by omega)) (by omega)⟩
theorem rnums_ok (A : Option Addr) (c : Nat) (l : List Int) (a n b : Nat) (w : World) (hb1 : 1 ≤ b) (hb2 : b ≤ 64) (hf : a + n ≤ l.length) (hl : l.length ≤ 1048576) (hr : Kd.C (Kd.int .u64) w A l.length l) (hc : l.length ≤ c) (hu : ∀ x ∈ l, 0 ≤ x ∧ x < 18446744073709551616) :
    Calls Tryd.prog 38 #[rT A l.length c a, .int .i64 (n : Int), .int .i64 (b : Int)] w fun e w' => ∃ u, e = .returned (.tuple #[rT A l.length c (a + n), u, .int .i64 0]) ∧ RU w.heap.size w' u (((l.take (a + n)).drop a).map (cutB b)) ∧ Below w.heap.size w w' :=
  rnums_gen A c l a n b w hb1 hb2 (a + n) _ 0 (fun x hx => hu x (mem_mid hx)) (by rw [List.length_drop, List.length_take]; omega) (fun W hW => rtake_ok A c l a n W hf hl (Kd.C_below hr hW) hc)
theorem rnums_bad (A : Option Addr) (c : Nat) (l : List Int) (a b : Nat) (n : Int) (w : World) (hb1 : 1 ≤ b) (hb2 : b ≤ 64) (ha : a ≤ l.length) (hl : l.length ≤ 1048576) (hE : takeE l a n ≠ 0) :
    Calls Tryd.prog 38 #[rT A l.length c a, .int .i64 n, .int .i64 (b : Int)] w fun e w' => ∃ u, e = .returned (.tuple #[rT A l.length c a, u, .int .i64 (takeE l a n)]) ∧ RU w.heap.size w' u [] ∧ Below w.heap.size w w' :=
  rnums_gen A c l a n b w hb1 hb2 a [] (takeE l a n) (fun x hx => by simp at hx) (by simp) (fun W hW => (rtake_bad A c l a n W ha hl hE).mono (fun e w' ⟨he, hb⟩ => ⟨_, he, Kd.R_nil _ _ _ _ _, hb⟩))
end Go.Proofs.YtdgngpcfikgoeaaDoor.P
