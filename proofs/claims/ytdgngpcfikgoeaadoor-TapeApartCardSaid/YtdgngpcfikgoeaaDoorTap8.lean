/- TapeApart: what was handed in, and what was read, is not the tape's; no tape has words. -/
import Derived.Test.YtdgngpcfikgoeaaDoorTap7
import Derived.Test.YtdgngpcfikgoeaaDoorWGuard
namespace Go.Proofs.YtdgngpcfikgoeaaDoor.P
open Go.RowKit Go.Extern.Stop Go.Stop Go.Extern Go.Proofs.YtdgngpcfikgoeaaDoorW.PrintWords Go.Proofs.YtdgngpcfikgoeaaDoorW.PrintLast Go.Proofs.YtdgngpcfikgoeaaDoorW.PrintMore
set_option linter.unusedVariables false
set_option linter.unusedSimpArgs false
attribute [local go_sem ↓] Go.wp_at_zero Go.wp_at_succ

theorem below_row {B : Nat} {w W : World} (h : Below B w W) {g : Nat} (cs : Array Value) (hg : B ≤ g) : Below B w (W.setRow g cs) :=
  ⟨h.os, h.tape, h.output, by simpa [World.setRow] using h.size, fun k hk => (setRow_other W g k cs (fun e => by omega)).trans (h.block k hk)⟩
/-- a tape that isn't there, or was never made -/
structure NoTape (w : World) (tp : Value) : Prop where
  bad : ∀ W, Below w.heap.size w W → ∀ n, Bad W n tp 3
  at0 : ∀ W, Below w.heap.size w W → Calls Tryd.prog 14 #[tp] W fun e w' => e = .returned (.int .i64 0) ∧ Below W.heap.size W w'
  left0 : ∀ W, Below w.heap.size w W → Calls Tryd.prog 20 #[tp] W fun e w' => e = .returned (.int .i64 0) ∧ Below W.heap.size W w'
theorem noTape_nil (w : World) : NoTape w (.pointer none) :=
  ⟨fun W _ n => .none, fun W _ => (at_none W).mono fun e w' ⟨he, hw⟩ => ⟨he, by subst hw; exact Below.refl _ _⟩, fun W _ => (left_none W).mono fun e w' ⟨he, hw⟩ => ⟨he, by subst hw; exact Below.refl _ _⟩⟩
theorem noTape_zero (w : World) (g : Nat) (h : w.heap[g]? = some (.cells #[.slice none 0 0, .int .i64 0, .bool false] 37 (0, 0))) : NoTape w (.pointer (some ⟨g, 0, none⟩)) :=
  ⟨fun W hW n => .zero g ((hW.block g (blk_lt h)).trans h), fun W hW => (at_zero g W ((hW.block g (blk_lt h)).trans h)).mono fun e w' ⟨he, hw⟩ => ⟨he, by subst hw; exact Below.refl _ _⟩, fun W hW => (left_zero g W ((hW.block g (blk_lt h)).trans h)).mono fun e w' ⟨he, hw⟩ => ⟨he, by subst hw; exact below_drew (Below.refl _ _)⟩⟩
set_option maxHeartbeats 3200000 in
set_option maxRecDepth 100000 in
theorem tapeApart_ok (A : Option Addr) (c : Nat) (l : List Int) (n : Int) (w : World) (hr : Kd.C (Kd.int .u64) w A l.length l) (hc : l.length ≤ c) (hd : Door w) :
    Calls Tryd.prog 4 #[.slice A l.length c, .int .i64 n] w fun e w' => e = .returned (.bool true) ∧ Below w.heap.size w w' := by
  have HAW := Lib.hid (fun W (h : Door W) => awake_ok W h)
  have HD := Lib.hid hd
  have HR := Lib.hid hr
  by_cases hl : l.length > 500
  · have h6 : (l.length : Int) > 500 := by omega
    clear hl hr hd
    go_enter Tryd.func4, Tryd.ntmps4
    go_wp2_with (go_at_call 10; (with_reducible refine (HAW.out _ HD.out).mono ?_); rintro e w2 ⟨rfl, hb⟩; have HB := Lib.hid hb; clear hb)
    go_ret
    exact ⟨rfl, HB.out⟩
  have hl5 : l.length ≤ 500 := by omega
  have h6 : ¬ (l.length : Int) > 500 := by omega
  have HRE := Lib.hid (RU_empty w w.heap.size (Nat.le_refl _))
  have HB0 := Lib.hid (below_alloc (Below.refl w.heap.size w) (.cells #[] 35))
  have HC := Lib.hid hc
  clear hl hr hd hc
  go_enter Tryd.func4, Tryd.ntmps4
  go_wp2_with (first
    | (at_builtin; go_loud (refine Kd.R_append_rows (Kd.int .u64) (Rr := (Kd.int .u64).K w) (w0 := w) w.heap.size rfl (.tmp 25) (.tmp 26) 22 35 (.int .u64 0) 8 rfl Tryd.underlying22 infoU64 rfl (by decide) (by omega) (.slice (some ⟨w.heap.size, 0, none⟩) 0 0) [] l A l.length c (fun _ => True) (fun _ => False) rfl rfl HRE.out (Kd.C_alloc HR.out _) (fun _ _ h => h) (fun _ hk => hk.elim) (fun _ _ => trivial) HB0.out HB0.out.size (by simp; omega) ?_; intro v9 w1 ho hb hg hat; rw [List.nil_append] at ho; have HO := Lib.hid ho; have HB1 := Lib.hid hb; obtain ⟨A1, c1, rfl, -, -⟩ := RU.form ho; clear ho hb hg hat))
    | (go_at_call 11; go_loud ((with_reducible refine (tnew_ok A1 c1 l w1 (RU.C HO.out).1 (by omega)).mono ?_); rintro e w2 ⟨g, v, rfl, ht, hb⟩; have HT := Lib.hid ht; have HB2 := Lib.hid (below_step HB1.out hb); have HO2 := Lib.hid (Kd.R_below HO.out hb); have HNE := Lib.hid (show ∀ k, (Value.slice A1 l.length c1).ownBlock = some k → k ≠ g ∧ v.ownBlock ≠ some k from fun k hk => ⟨fun e => by have := RU.lt HO.out k hk; have := ht.ge; omega, fun e => by have := RU.lt HO.out k hk; have := ht.row.ge k e; omega⟩); clear ht hb)))
  go_loopw [8] (fun v8 wr => ∃ i : Nat, i ≤ l.length ∧ v8 = .int .i64 (i : Int) ∧ Hid (RU w.heap.size wr (.slice A1 l.length c1) (mixL (fun _ => 7) l i)) ∧ Hid (TAt wr w1.heap.size g v l 0) ∧ Hid (Below w.heap.size w wr)) (fun v8 _ => l.length - (intOf v8).toNat)
  case atStart => exact ⟨0, by omega, rfl, Lib.hid (by rw [mixL_zero]; exact HO2.out), HT, HB2⟩
  case round =>
    obtain ⟨wo, rfl⟩ : ∃ wo : World, wo = wr := ⟨_, rfl⟩
    obtain ⟨i, hi, rfl, HU, HT, HB⟩ := hrel
    by_cases hlt : i < l.length
    · have hltI : (i : Int) < (l.length : Int) := by omega
      have hi0 : (0 : Int) ≤ (i : Int) := by omega
      obtain ⟨g1, c1', e1⟩ := HU.out.block (by rw [mixL_len]; omega)
      injection e1 with e1 e2 e3
      subst e1
      clear e2 e3
      obtain ⟨q0, q1⟩ := HU.out.at i (by rw [mixL_len]; exact hlt)
      have hiw : IntKind.i64.wrap ((i : Int) + 1) = (i : Int) + 1 := IntWalk.i64_in _ ⟨by omega, by omega⟩
      have HSET := Lib.hid (mixL_set (fun _ => 7) l i hlt)
      go_wp2
      refine ⟨⟨i + 1, by omega, by go_num, ?_, ?_, ?_⟩, by simp [intOf]; omega⟩
      · have h := HU.out.put i (by rw [mixL_len]; exact hlt) 7
        rw [HSET.out] at h
        exact Lib.hid h
      · exact Lib.hid (HT.out.far (fun e => (HNE.out g1 rfl).1 e.symm) (HNE.out g1 rfl).2)
      · exact Lib.hid (below_set HB.out (HU.out.ge g1 rfl))
    · have hnlt : ¬ (i : Int) < (l.length : Int) := by omega
      have HTK := Lib.hid (take_okI (l.length : Int) l.length rfl wo _ g v l 0 HT.out (by omega))
      have HTB := Lib.hid HT.out
      have HGE := Lib.hid HT.out.ge
      have hgw : w.heap.size ≤ g := Nat.le_trans HB1.out.size HT.out.ge
      have HGW := Lib.hid hgw
      clear hlt hi hgw
      go_wp2_with (first
        | (go_at_call 12; go_loud ((with_reducible refine HTK.out.mono ?_); rintro e w3 ⟨u, rfl, hu, ht, hch⟩; have eY : (l.take (0 + l.length)).drop 0 = l := (by simp); rw [eY] at hu; have HU3 := Lib.hid hu; have HB3 := Lib.hid (hch.below HB.out (fun k e => by rw [e]; exact HGW.out)); obtain ⟨Au, cu, rfl, -, -⟩ := RU.form hu; clear hu ht hch eY))
        | (go_at_call 13; go_loud ((with_reducible refine (nums_okI Au l.length cu A l.length c l rfl rfl w3 (RU.C HU3.out).1 (RU.C HU3.out).2 (Kd.C_below HR.out HB3.out) HC.out (by omega)).mono ?_); rintro e w4 ⟨rfl, hb⟩; have HB4 := Lib.hid (below_step HB3.out hb); clear hb)))
      have HBP := Lib.hid (below_alloc (below_alloc HB4.out (.cells #[.slice none 0 0, .int .i64 0, .bool false] 37)) (.cells #[.pointer none, .pointer (some ⟨w4.heap.size, 0, none⟩)] 25))
      have KZ := Lib.hid (blk_alloc (heap_alloc_new w4 (.cells #[.slice none 0 0, .int .i64 0, .bool false] 37)) (.cells #[.pointer none, .pointer (some ⟨w4.heap.size, 0, none⟩)] 25))
      have KP := Lib.hid (heap_alloc2_new w4 (.cells #[.slice none 0 0, .int .i64 0, .bool false] 37) (.cells #[.pointer none, .pointer (some ⟨w4.heap.size, 0, none⟩)] 25))
      go_loopw [12, 13, 14, 15, 16, 17, 18, 19, 20, 65] (fun v12 v13 v14 v15 v16 v17 v18 v19 v20 v65 wr => ∃ i : Nat, i ≤ 2 ∧ v65 = .int .i64 (i : Int) ∧ Hid (Below w.heap.size w wr) ∧ Hid (wr.heap[w4.heap.size]? = some (.cells #[.slice none 0 0, .int .i64 0, .bool false] 37 (0, 0))) ∧ Hid (wr.heap[w4.heap.size + 1]? = some (.cells #[.pointer none, .pointer (some ⟨w4.heap.size, 0, none⟩)] 25 (0, 0)))) (fun _ _ _ _ _ _ _ _ _ v65 _ => 2 - (intOf v65).toNat)
      case atStart => exact ⟨0, by omega, rfl, HBP, KZ, KP⟩
      case round =>
        obtain ⟨wx, rfl⟩ : ∃ wx : World, wx = wr := ⟨_, rfl⟩
        obtain ⟨j, hj, rfl, HBX, KZX, KPX⟩ := hrel
        by_cases hlt : j < 2
        · obtain ⟨tp, htp, hnt⟩ : ∃ tp, wx.cell? ⟨w4.heap.size + 1, j, none⟩ = some tp ∧ NoTape wx tp := by
            obtain ⟨k0, k1, -, -⟩ := cells_2 KPX.out
            have : j = 0 ∨ j = 1 := by omega
            rcases this with rfl | rfl
            · exact ⟨_, k0, noTape_nil wx⟩
            · exact ⟨_, k1, noTape_zero wx _ KZX.out⟩
          have HNT := Lib.hid hnt
          have hltI : (j : Int) < 2 := by omega
          have hj0 : (0 : Int) ≤ (j : Int) := by omega
          have hiw : IntKind.i64.wrap ((j : Int) + 1) = (j : Int) + 1 := IntWalk.i64_in _ ⟨by omega, by omega⟩
          have hrf := Below.refl wx.heap.size wx
          have HRF := Lib.hid hrf
          have hneq : ∀ W, (binOp .neq 42 (.agg zc) (.agg zc)).run Tryd.prog W = .ok (.bool false) W := fun W => by kernel_rfl
          clear hnt hrf
          go_wp2_with (first
            | (go_at_call 12; go_loud ((with_reducible refine (take_bad n tp 3 wx (HNT.out.bad _ HRF.out n)).mono ?_); rintro e w6 ⟨e1, rfl, hv, hb⟩; have E1 := Lib.hid hv; have HB6 := Lib.hid hb; clear hv hb))
            | (go_at_call 15; go_loud ((with_reducible refine (next_bad tp 3 w6 (HNT.out.bad _ HB6.out 1)).mono ?_); rintro e w7 ⟨e2, rfl, hv, hb⟩; have E2 := Lib.hid hv; have E17 := Lib.hid (E1.out.below hb); have HB7 := Lib.hid (below_step HB6.out hb); clear hv hb))
            | (go_at_call 16; go_loud ((with_reducible refine (seed_bad tp 3 w7 (HNT.out.bad _ HB7.out 4)).mono ?_); rintro e w8 ⟨e3, rfl, hv, hb⟩; have hal := below_row (below_alloc (Below.refl w8.heap.size w8) (.cells zc 42)) (g := w8.heap.size) zc (Nat.le_refl _); have E3 := Lib.hid (hv.below hal); have E18 := Lib.hid ((E17.out.below hb).below hal); have E28 := Lib.hid ((E2.out.below hb).below hal); have HB8 := Lib.hid (below_step (below_step HB7.out hb) hal); have KS7 := Lib.hid (heap_alloc_new w8 (.cells zc 42)); have KS8 := Lib.hid (setRow_heap _ _ _ zc _ _ KS7.out); clear hv hb hal))
            | ((with_reducible refine gate_store (t := 42) (p := 17) (v := .tmp 83) rfl ?_); go_loud (refine wpList_store_rowTo rfl 42 (.tmp 17) (.tmp 83) rfl rfl w8.heap.size zc (by rfl) (by rfl) 42 zc KS7.out (by kernel_rfl) rfl (by kernel_rfl) ?_))
            | (go_at_call 17; go_loud ((refine (bits_bad n tp 3 _ (HNT.out.bad _ HB8.out n)).mono ?_); rintro e w9 ⟨e4, rfl, hv, hb⟩; have E4 := Lib.hid hv; have E19 := Lib.hid (E18.out.below hb); have E29 := Lib.hid (E28.out.below hb); have E39 := Lib.hid (E3.out.below hb); have HB9 := Lib.hid (below_step HB8.out hb); have KS9 := Lib.hid ((hb.block _ (blk_lt KS8.out)).trans KS8.out); clear hv hb))
            | (go_at_call 18; ((with_reducible refine (code_ok 1 e1 3 w9 E19.out (HD.out.below (below_step HBX.out HB9.out) HD.out.lt)).mono ?_); rintro e w10 ⟨rfl, hb⟩; have E2A := Lib.hid (E29.out.below hb); have E3A := Lib.hid (E39.out.below hb); have E4A := Lib.hid (E4.out.below hb); have HB10 := Lib.hid (below_step HB9.out hb); have KS10 := Lib.hid ((hb.block _ (blk_lt KS9.out)).trans KS9.out); clear hb))
            | (go_at_call 18; ((with_reducible refine (code_ok 2 e2 3 w10 E2A.out (HD.out.below (below_step HBX.out HB10.out) HD.out.lt)).mono ?_); rintro e w11 ⟨rfl, hb⟩; have E3B := Lib.hid (E3A.out.below hb); have E4B := Lib.hid (E4A.out.below hb); have HB11 := Lib.hid (below_step HB10.out hb); have KS11 := Lib.hid ((hb.block _ (blk_lt KS10.out)).trans KS10.out); clear hb))
            | (go_at_call 18; ((with_reducible refine (code_ok 2 e3 3 w11 E3B.out (HD.out.below (below_step HBX.out HB11.out) HD.out.lt)).mono ?_); rintro e w12 ⟨rfl, hb⟩; have E4C := Lib.hid (E4B.out.below hb); have HB12 := Lib.hid (below_step HB11.out hb); clear hb))
            | (go_at_call 18; ((with_reducible refine (code_ok 2 e4 3 w12 E4C.out (HD.out.below (below_step HBX.out HB12.out) HD.out.lt)).mono ?_); rintro e w13 ⟨rfl, hb⟩; have HB13 := Lib.hid (below_step HB12.out hb); clear hb))
            | ((with_reducible refine gate_dst (N := 109) rfl ?_); go_loud (refine gate_guard (by rfl) ?_; refine wpList_load_row rfl 42 (x := .tmp 17) rfl w8.heap.size (by rfl) 42 zc (0, 0) _ KS11.out Tryd.underlying42 rfl (by kernel_rfl) ?_))
            | ((with_reducible refine gate_dst (N := 110) rfl ?_); go_loud (refine gate_guard (by rfl) ?_; refine Kd.event_run (v := .agg zc) (w1 := w11) rfl (by kernel_rfl) ?_))
            | ((with_reducible refine gate_dst (N := 111) rfl ?_); go_loud (refine gate_guard (by rfl) ?_; refine Kd.event_run (v := .bool false) (w1 := w11) rfl (by kernel_rfl) ?_))
            | (go_at_call 19; go_loud ((with_reducible refine (skip_bad n tp 3 w13 (HNT.out.bad _ HB13.out 0)).mono ?_); rintro e w14 ⟨e5, rfl, hv, hb⟩; have E5 := Lib.hid hv; have HB14 := Lib.hid (below_step HB13.out hb); clear hv hb))
            | (go_at_call 18; ((with_reducible refine (code_ok 1 e5 3 w14 E5.out (HD.out.below (below_step HBX.out HB14.out) HD.out.lt)).mono ?_); rintro e w15 ⟨rfl, hb⟩; have HB15 := Lib.hid (below_step HB14.out hb); clear hb))
            | (go_at_call 14; go_loud ((with_reducible refine (HNT.out.at0 w15 HB15.out).mono ?_); rintro e w16 ⟨rfl, hb⟩; have HB16 := Lib.hid (below_step HB15.out hb); clear hb))
            | (go_at_call 20; go_loud ((with_reducible refine (HNT.out.left0 w16 HB16.out).mono ?_); rintro e w17 ⟨rfl, hb⟩; have HB17 := Lib.hid (below_step HB16.out hb); clear hb)))
          refine ⟨⟨j + 1, by omega, by go_num, Lib.hid (below_step HBX.out HB17.out), Lib.hid ((HB17.out.block _ (blk_lt KZX.out)).trans KZX.out), Lib.hid ((HB17.out.block _ (blk_lt KPX.out)).trans KPX.out)⟩, by simp [intOf]; omega⟩
        · have hnlt : ¬ (j : Int) < 2 := by omega
          go_wp2_with (go_at_call 10; (with_reducible refine (HAW.out wx (HD.out.below HBX.out HD.out.lt)).mono ?_); rintro e w6 ⟨rfl, hb⟩; have HB6 := Lib.hid hb; clear hb)
          go_ret
          exact ⟨rfl, below_step HBX.out HB6.out⟩
end Go.Proofs.YtdgngpcfikgoeaaDoor.P
