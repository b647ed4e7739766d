/- matrix.Draw of the program; MatrixDraws: what is drawn of a tape is the document's. -/
import Derived.Test.YtdgngpcfikgoeaaDoorMdDrw11
import Derived.Test.YtdgngpcfikgoeaaDoorMdK6
import Derived.Test.YtdgngpcfikgoeaaDoorMdK8
import Derived.Test.YtdgngpcfikgoeaaDoorMdK9
namespace Go.Proofs.YtdgngpcfikgoeaaDoor.Lem
open Go.RowKit Go.Proofs.YtdgngpcfikgoeaaDoor.P Go.Proofs.YtdgngpcfikgoeaaDoor.Num Go.Proofs.YtdgngpcfikgoeaaDoorW.PrintWords Go.Proofs.YtdgngpcfikgoeaaDoorW.PrintMore
set_option linter.unusedVariables false
def mchk (c0 c1 c2 c3 c4 n : Int) : Int := if chk c0 c1 c2 c3 c4 = 0 then (if c0 = 2 then (if n < 1 then 2 else (if n > 24 then 2 else (if wrap64 (wrap64 (wrap64 (n * c2) * c3) * c1) > 4096 then 2 else 0))) else 15) else chk c0 c1 c2 c3 c4
theorem mchk_f (k : Nat) (hk : 10 ≤ k) (c0 c1 c2 c3 c4 n : Int) : matrix_check.f k c0 c1 c2 c3 c4 n = some (mchk c0 c1 c2 c3 c4 n) := by
  unfold matrix_check.f mchk
  rw [check_f k hk, Option.bind_some]
  repeat' split
  all_goals rfl
theorem mchk_r (k : Nat) (hk : 10 ≤ k) (c0 c1 c2 c3 c4 n : Int) : trefoilref22_Check.f k c0 c1 c2 c3 c4 2 n = some (mchk c0 c1 c2 c3 c4 n) := by
  unfold trefoilref22_Check.f mchk
  rw [check_r k hk, Option.bind_some, Option.bind_some]
  by_cases h : chk c0 c1 c2 c3 c4 = 0
  · rw [if_pos h, if_pos h]
    by_cases h1 : c0 = 2
    · rw [if_pos h1, if_pos h1]
      unfold trefoilref22_Sides.f
      rw [if_pos h1, Option.bind_some]
      repeat' split
      all_goals rfl
    · rw [if_neg h1, if_neg h1]
  · rw [if_neg h, if_neg h]
theorem mchk_zero {c0 c1 c2 c3 c4 n : Int} (h : mchk c0 c1 c2 c3 c4 n = 0) : chk c0 c1 c2 c3 c4 = 0 ∧ c0 = 2 ∧ 1 ≤ n ∧ n ≤ 24 := by
  unfold mchk at h
  by_cases h1 : chk c0 c1 c2 c3 c4 = 0
  · rw [if_pos h1] at h
    by_cases h2 : c0 = 2
    · rw [if_pos h2] at h
      by_cases h3 : n < 1
      · rw [if_pos h3] at h; cases h
      · rw [if_neg h3] at h
        by_cases h4 : n > 24
        · rw [if_pos h4] at h; cases h
        · exact ⟨h1, h2, by omega, by omega⟩
    · rw [if_neg h2] at h; cases h
  · rw [if_neg h1] at h; exact absurd h h1
end Go.Proofs.YtdgngpcfikgoeaaDoor.Lem
namespace Go.Proofs.YtdgngpcfikgoeaaDoor.P
open Go.RowKit Go.Extern.Stop Go.Stop Go.Extern Go.Proofs.YtdgngpcfikgoeaaDoorW.PrintWords Go.Proofs.YtdgngpcfikgoeaaDoorW.PrintLast Go.Proofs.YtdgngpcfikgoeaaDoorW.PrintMore
set_option linter.unusedVariables false
set_option linter.unusedSimpArgs false
attribute [local go_sem ↓] Go.wp_at_zero Go.wp_at_succ
theorem mcheck_ok (c0 c1 c2 c3 c4 n : Int) (w : World) : Calls Tryd.prog 50 #[cV c0 c1 c2 c3 c4, .int .i64 n] w fun e w' => e = .returned (.int .i64 (Lem.mchk c0 c1 c2 c3 c4 n)) ∧ Below w.heap.size w w' :=
  matrix_check.calls 10 c0 c1 c2 c3 c4 n _ w (Lem.mchk_f 10 (by omega) c0 c1 c2 c3 c4 n)
theorem rcheck23_ok (c0 c1 c2 c3 c4 n : Int) (w : World) : Calls Tryd.prog 47 #[cV c0 c1 c2 c3 c4, .int .i64 2, .int .i64 n] w fun e w' => e = .returned (.int .i64 (Lem.mchk c0 c1 c2 c3 c4 n)) ∧ Below w.heap.size w w' :=
  trefoilref22_Check.calls 10 c0 c1 c2 c3 c4 2 n _ w (Lem.mchk_r 10 (by omega) c0 c1 c2 c3 c4 n)
theorem sides2 (c1 c2 c3 c4 : Int) (w : World) : Calls Tryd.prog 48 #[cV 2 c1 c2 c3 c4] w fun e w' => e = .returned (.tuple #[.int .i64 c2, .int .i64 c3, .int .i64 c4]) ∧ Below w.heap.size w w' :=
  (trefoilref22_Sides.calls 2 c1 c2 c3 c4 c2 c3 c4 w (by unfold trefoilref22_Sides.f; rw [if_pos rfl])).mono fun e w' ⟨he, hw⟩ => ⟨he, by first | exact hw | exact hw.below⟩
theorem awake23_ok (w : World) : Calls Tryd.prog 29 #[] w fun e w' => e = .returned (.bool true) ∧ Below w.heap.size w w' :=
  (trefoillaw23_awake.calls 300 true w (by kernel_rfl)).mono fun e w' ⟨he, hw⟩ => ⟨he, by first | exact hw | exact hw.below⟩
/-! ### the program's matrix.Draw -/
set_option maxHeartbeats 1600000 in
theorem mdraw_no (c0 c1 c2 c3 c4 n : Int) (tp : Value) (w : World) (h : Lem.mchk c0 c1 c2 c3 c4 n ≠ 0) :
    Calls Tryd.prog 30 #[cV c0 c1 c2 c3 c4, .int .i64 n, tp] w fun e w' => ∃ v, e = .returned (.tuple #[.slice none 0 0, v]) ∧ ErrIs 0 w' v (Lem.mchk c0 c1 c2 c3 c4 n) ∧ Below w.heap.size w w' := by
  have HC := Lib.hid (fun W => mcheck_ok c0 c1 c2 c3 c4 n W)
  generalize Lem.mchk c0 c1 c2 c3 c4 n = t at *
  have HN := Lib.hid (fun W => fnew_err t ⟨#[109, 97, 116, 114, 105, 120]⟩ W h)
  have hb : (t != 0) = true := by rw [bne_iff_ne]; exact h
  have HB0 := Lib.hid (below_alloc (Below.refl w.heap.size w) (.cells #[.int .i64 c0, .int .i64 c1, .int .i64 c2, .int .i64 c3, .int .i64 c4] 62))
  clear h
  go_enter Tryd.func30, Tryd.ntmps30
  go_wp2_with (first
    | (go_at_call 50; (with_reducible refine (HC.out _).mono ?_); rintro e w1 ⟨rfl, hb⟩; have HB1 := Lib.hid (below_step HB0.out hb); clear hb)
    | (go_at_call 31; (with_reducible refine (HN.out _).mono ?_); rintro e w2 ⟨v, rfl, hv, hb⟩; have HV := Lib.hid hv; have HB2 := Lib.hid (below_step HB1.out hb); clear hv hb))
  go_ret2
  exact ⟨v, rfl, HV.out, HB2.out⟩
set_option maxHeartbeats 1600000 in
theorem mdraw_bad (c0 c1 c2 c3 c4 n : Int) (x y s N : Nat) (tp : Value) (c : Int) (w : World) (h : Lem.mchk c0 c1 c2 c3 c4 n = 0) (HRk : Reck c2 c3 c4 x y s N n) (hBB : ∀ W, Below w.heap.size w W → Bad W (N : Int) tp c) :
    Calls Tryd.prog 30 #[cV c0 c1 c2 c3 c4, .int .i64 n, tp] w fun e w' => ∃ v, e = .returned (.tuple #[.slice none 0 0, v]) ∧ ErrIs 3 w' v c ∧ Below w.heap.size w w' := by
  have HC := Lib.hid (fun W => mcheck_ok c0 c1 c2 c3 c4 n W)
  rw [h] at HC
  obtain ⟨b1, b2, -, -⟩ := Lem.chk_bits (Lem.mchk_zero h).1
  have HN := Lib.hid (fun W (hW : Below w.heap.size w W) => numbers_bad (N : Int) c1 tp c W (by omega) (by omega) (hBB W hW))
  have HW := Lib.hid (fun W v (hE : ErrIs 2 W v c) => fwrap_err ⟨#[109, 97, 116, 114, 105, 120]⟩ 2 v c W hE)
  have HB0 := Lib.hid (below_alloc (Below.refl w.heap.size w) (.cells #[.int .i64 c0, .int .i64 c1, .int .i64 c2, .int .i64 c3, .int .i64 c4] 62))
  obtain ⟨hx1, hx2, hy1, hy2, hs1, hs2, hn1, hn2⟩ := HRk
  clear h hBB
  go_enter Tryd.func30, Tryd.ntmps30
  go_wp2_with (go_at_call 50; (with_reducible refine (HC.out _).mono ?_); rintro e w1 ⟨rfl, hb⟩; have HB1 := Lib.hid (below_step HB0.out hb); obtain ⟨k0, k1, k2, k3, k4, -⟩ := cells_5 ((hb.block _ (blk_lt (heap_alloc_new w _))).trans (heap_alloc_new w _)); clear hb)
  go_quiet (fail)
  go_wp2_with (first
    | (go_at_call 37; go_loud ((with_reducible refine (HN.out _ (pw_below_drewN HB1.out _)).mono ?_); rintro e w2 ⟨v, rfl, hv, hb⟩; have HV := Lib.hid hv; have HB2 := Lib.hid (below_step (pw_below_drewN HB1.out _) hb); obtain ⟨p, rfl⟩ := hv.form; clear hv hb))
    | (go_at_call 34; (with_reducible refine (HW.out _ _ HV.out).mono ?_); rintro e w3 ⟨v2, rfl, hv, hb⟩; have HV2 := Lib.hid hv; have HB3 := Lib.hid (below_step HB2.out hb); clear hv hb))
  go_ret2
  exact ⟨v2, rfl, HV2.out, HB3.out⟩
/-- append([]uint64(nil), xs...) in a region that draws -/
theorem mclone {ops : Array Oper} {Q : Exit → Act → World → Prop} {o : Oper} {a : Act} {Kc : Act → World → Prop} {wo W : World} (hw : Region.wanted o (yielded ops a.tmps) = true) (x : Operand)
    (ho : o.op = .call { callee := .builtin .append, args := #[.const (.slice none 0 0), x], argTypes := #[22, 22] }) (A : Option Addr) (c : Nat) (ys : List Int) (hx : a.eval x = .slice A ys.length c)
    (HX : Below wo.heap.size wo W) (HR : Kd.C (Kd.int .u64) wo A ys.length ys) (hl : ys.length < 17592186044416)
    (h : ∀ v1 w1, RU wo.heap.size w1 v1 ys → Below wo.heap.size wo w1 → (∀ {v : Value} {zs : List Int}, RU wo.heap.size W v zs → RU wo.heap.size w1 v zs) → Kc (a.put o.dst v1) w1) :
    if Region.wanted o (yielded ops a.tmps) = true then Oper.wp Tryd.prog o a W Kc Q else Kc (a.put o.dst undef) W :=
  Kd.R_append_rows_step (Kd.int .u64) (Rr := (Kd.int .u64).K W) (w0 := W) W.heap.size hw (.const (.slice none 0 0)) x 22 35 (.int .u64 0) 8 ho Tryd.underlying22 infoU64 rfl (by decide) (by omega) (.slice none 0 0) [] ys A ys.length c (fun _ => True) (fun _ => False) rfl hx
    (Kd.R_nil _ _ _ _ _) (Kd.C_below HR HX) (fun _ _ h => h) (fun _ hk => hk.elim) (fun _ _ => trivial) (Below.refl _ _) (Nat.le_refl _) (by simp; omega) (fun v1 w1 hr hb _ _ => h v1 w1 (Kd.R_lower hr HX.size) (below_step HX hb) (fun hq => Kd.R_below hq hb))
theorem shA_cut (Y : List Int) (x y i : Nat) : (⟨(Y.drop (i * (x + y))).take x, ((Y.drop (i * (x + y))).take (x + y)).drop x, []⟩ : S86) = shA Y x y i := by
  unfold shA
  rw [List.drop_take, List.drop_take, List.drop_take, List.drop_drop, Nat.add_sub_cancel_left, Nat.add_sub_cancel_left, Nat.add_sub_cancel_left]
/-- what is left of a row: it is read wherever the whole row is -/
structure Rest (A1 : Option Addr) (Y : List Int) (p : Nat) (Z : List Int) (Ai : Option Addr) (ci : Nat) : Prop where
  eq : Z = Y.drop p
  le : Z.length ≤ ci
  rd : ∀ W, Kd.C (Kd.int .u64) W A1 Y.length Y → Kd.C (Kd.int .u64) W Ai Z.length Z
set_option maxHeartbeats 6400000 in
set_option maxRecDepth 100000 in
theorem mdraw_ok (c0 : Int) (b : Nat) (c2 c3 c4 : Int) (n x y s N : Nat) (w : World) (B g : Nat) (v : Value) (l : List Int) (a : Nat) (h : Lem.mchk c0 (b : Int) c2 c3 c4 (n : Int) = 0) (HRk : Reck c2 c3 c4 x y s N (n : Int)) (hs : s = x + y) (hx0 : 1 ≤ x) (hN : N = n * s) (hT : TAt w B g v l a) (hf : a + N ≤ l.length) (hu : ∀ x ∈ l, 0 ≤ x ∧ x < 18446744073709551616) :
    Calls Tryd.prog 30 #[cV c0 (b : Int) c2 c3 c4, .int .i64 (n : Int), .pointer (some ⟨g, 0, none⟩)] w fun e w' => ∃ u, e = .returned (.tuple #[u, .nilIface]) ∧ SR w.heap.size w' u (shG (((l.take (a + N)).drop a).map (cutB b)) x y n) ∧ TAt w' B g v l (a + N) ∧ Chg (fun k => k = g) w w' := by
  have HC := Lib.hid (fun W => mcheck_ok c0 (b : Int) c2 c3 c4 (n : Int) W)
  rw [h] at HC
  obtain ⟨hchk, -, n1, n24⟩ := Lem.mchk_zero h
  obtain ⟨b1, b2, -, -⟩ := Lem.chk_bits hchk
  have HN := Lib.hid (fun W (hW : TAt W B g v l a) => (show Calls Tryd.prog 37 #[.pointer (some ⟨g, 0, none⟩), .int .i64 (N : Int), .int .i64 (b : Int)] W _ from numbers_ok N b W B g v l a (by omega) (by omega) hW hf hu))
  have hyl : (((l.take (a + N)).drop a).map (cutB b)).length = N := by rw [List.length_map, List.length_drop, List.length_take]; omega
  have hyb : N ≤ 1048576 := by have := hT.len; omega
  generalize ((l.take (a + N)).drop a).map (cutB b) = Y at *
  have HYL := Lib.hid hyl
  have HYB := Lib.hid hyb
  have HB0 := Lib.hid (below_alloc (Below.refl w.heap.size w) (.cells #[.int .i64 c0, .int .i64 (b : Int), .int .i64 c2, .int .i64 c3, .int .i64 c4] 62))
  have HT := Lib.hid hT
  have HNS := Lib.hid hN
  have HSX := Lib.hid hs
  have HX0 := Lib.hid hx0
  obtain ⟨hx1, hx2, hy1, hy2, hs1, hs2, hn1, hn2⟩ := HRk
  clear h hT hf hu hyl hchk hN hyb hs hx0
  go_enter Tryd.func30, Tryd.ntmps30
  go_wp2_with (go_at_call 50; (with_reducible refine (HC.out _).mono ?_); rintro e w1 ⟨rfl, hb⟩; have HB1 := Lib.hid (below_step HB0.out hb); obtain ⟨k0, k1, k2, k3, k4, -⟩ := cells_5 ((hb.block _ (blk_lt (heap_alloc_new w _))).trans (heap_alloc_new w _)); clear hb)
  go_quiet (fail)
  go_wp2_with (first
    | (go_at_call 37; go_loud ((with_reducible refine (HN.out _ (HT.out.below (pw_below_drewN HB1.out _))).mono ?_); rintro e w2 ⟨u, rfl, hu, ht, hc⟩; have HU := Lib.hid hu; have HT2 := Lib.hid ht; have HC2 := Lib.hid ((Chg.of_below (pw_below_drewN HB1.out _) (fun k => k = g)).trans hc); obtain ⟨A1, cp, eu, hcp, -⟩ := hu.form; subst eu; have HCP := Lib.hid hcp; clear hu ht hc hcp))
    | (go_loud (refine Kd.R_makecap k86 _ 86 rfl (N := 48) rfl 63 _ _ rfl (n : Int) rfl rfl Tryd.underlying63 (.agg #[(.slice none 0 0), (.slice none 0 0), (.slice none 0 0)]) 72 info86 rfl (by decide) (by omega) z86 (ok := fun _ => True) (okp := fun _ => True) (k86_mkM _ _ _ z86 (Kd.R_nil _ _ _ _ _) (Kd.R_nil _ _ _ _ _) (Kd.R_nil _ _ _ _ _)) (fun _ hk => hk) trivial (by omega) (by rw [Int.toNat_natCast]; omega) (Below.refl _ _) (Nat.le_refl _) ?_; intro v4 w4 ho4 hb4 hg_ hnew_; have HO4 := Lib.hid ho4; have HB4 := Lib.hid hb4; clear ho4 hb4 hg_ hnew_)))
  have HX2 := Lib.hid (HT2.out.below HB4.out)
  have HC4 := Lib.hid (HC2.out.trans (Chg.of_below HB4.out _))
  have HU4 := Lib.hid (Kd.R_below HU.out HB4.out)
  have hws : w.heap.size ≤ w2.heap.size := HC2.out.size
  have HS4 : Hid (SR w.heap.size w4 v4 (shG Y x y 0)) := Lib.hid (Kd.R_lower HO4.out hws)
  have hn24 : n ≤ 24 := by omega
  clear hws hx1 hx2 hy1 hy2 hn1 hn2 n1 n24 b1 b2
  go_loopw [11, 13] (fun v11 v13 wr => ∃ i : Nat, i ≤ n ∧ ∃ Z Ai ci, v11 = .slice Ai Z.length ci ∧ Hid (Rest A1 Y (i * s) Z Ai ci) ∧ Hid (SR w.heap.size wr v13 (shG Y x y i)) ∧ Hid (RU w1.heap.size wr (.slice A1 Y.length cp) Y) ∧ Hid (TAt wr B g v l (a + N)) ∧ Hid (Chg (fun k => k = g) w wr)) (fun v11 _ _ => (match v11 with | .slice _ m _ => m | _ => 0))
  case atStart => exact ⟨0, by omega, Y, A1, cp, rfl, Lib.hid ⟨by rw [Nat.zero_mul, List.drop_zero], HCP.out, fun _ h => h⟩, HS4, HU4, HX2, HC4⟩
  case round =>
    obtain ⟨wo, rfl⟩ : ∃ wo : World, wo = wr := ⟨_, rfl⟩
    obtain ⟨i, hi, Z, Ai, ci, rfl, HZ, HS, HU, HT, HCH⟩ := hrel
    have hns : i * s ≤ n * s := Nat.mul_le_mul_right _ hi
    have hZl : Z.length = n * s - i * s := by rw [HZ.out.eq, List.length_drop, HYL.out, HNS.out]
    by_cases hlt : i < n
    · have hsu : (i + 1) * s = i * s + s := Nat.succ_mul _ _
      have hle : (i + 1) * s ≤ n * s := Nat.mul_le_mul_right _ hlt
      have hsx := HSX.out
      have hx0 := HX0.out
      have hyb := HYB.out
      have hNN := HNS.out
      have hsz : s ≤ Z.length := by omega
      have hZ0 : (Z.length : Int) > 0 := by omega
      have q1 : (0 : Int) ≤ (x : Int) := by omega
      have q2 : (x : Int) ≤ (Z.length : Int) := by omega
      have q3 : (x : Int) ≤ (s : Int) := by omega
      have q4 : (s : Int) ≤ (Z.length : Int) := by omega
      have q5 : (0 : Int) ≤ (s : Int) := by omega
      have hcZ := HZ.out.le
      have hCw := HZ.out.rd wo (HU.out.C.1)
      obtain ⟨i0, hi0, _, hz1, _⟩ := info_of infoU64
      obtain ⟨Y1, hY1⟩ : ∃ Y1, Y1 = Z.take x := ⟨_, rfl⟩
      have hl1 : Y1.length = x := by rw [hY1, List.length_take]; omega
      have g1 := cut_to (P := Tryd.prog) 22 35 .i64 Tryd.underlying22 hi0 Ai Z.length ci (x : Int) q1 q2 hcZ
      rw [Int.toNat_natCast] at g1
      replace g1 : ∀ W : World, (Instr.slice 22 (.slice Ai Z.length ci) none (some (.int .i64 (x : Int))) none).run Tryd.prog W = .ok (.slice Ai Y1.length ci) W := fun W => by rw [hl1]; exact g1 W
      have HCA := Lib.hid (show Kd.C (Kd.int .u64) wo Ai Y1.length Y1 by rw [hY1]; exact Kd.C_take hCw (by omega))
      obtain ⟨Y2, hY2⟩ : ∃ Y2, Y2 = (Z.take (s : Int).toNat).drop (x : Int).toNat := ⟨_, rfl⟩
      obtain ⟨A3, d3, f1, f2, f3⟩ := cutU Ai ci Z wo hCw hcZ (x : Int) (s : Int) q1 q3 q4 Y2 hY2
      have HCB := Lib.hid f2
      obtain ⟨Z2, hZ2⟩ : ∃ Z2, Z2 = Z.drop s := ⟨_, rfl⟩
      have hl2 : Z2.length = Z.length - s := by rw [hZ2, List.length_drop]
      have e1 := cut_from (P := Tryd.prog) 22 35 .i64 Tryd.underlying22 hi0 1 hz1 Ai Z.length ci (s : Int) q5 q4
      rw [Int.toNat_natCast, ← hl2] at e1
      obtain ⟨A5, hA5⟩ : ∃ A5, A5 = (if ci = s then Ai else Ai.map (·.add (s * 1))) := ⟨_, rfl⟩
      rw [← hA5] at e1
      obtain ⟨c5, hc5⟩ : ∃ c5, c5 = ci - s := ⟨_, rfl⟩
      rw [← hc5] at e1
      have HR5 := Lib.hid (show Rest A1 Y ((i + 1) * s) Z2 A5 c5 from ⟨by rw [hZ2, HZ.out.eq, List.drop_drop, hsu], by omega, fun W hW => by
        rw [hA5, hZ2]
        exact Kd.C_drop (HZ.out.rd W hW) hsz hcZ⟩)
      have HSN := Lib.hid (show shG Y x y i ++ [⟨Y1, Y2, []⟩] = shG Y x y (i + 1) by
        rw [← shG_snoc, ← shA_cut, hY1, hY2, Int.toNat_natCast, Int.toNat_natCast, HZ.out.eq, hsx])
      have HLn := Lib.hid (show (shG Y x y i).length < 1954687338268 by rw [shG_len]; omega)
      have HL1 := Lib.hid (show Y1.length < 17592186044416 by omega)
      have HL2 := Lib.hid (show Y2.length < 17592186044416 by rw [hY2, List.length_drop, List.length_take]; omega)
      have HM := Lib.hid (show Z2.length < Z.length by omega)
      have HSZ := Lib.hid HCH.out.size
      have HW0 := Lib.hid (Below.refl wo.heap.size wo)
      clear hY1 hl1 hY2 f2 f3 hZ2 hl2 hA5 hc5 hns hZl hsu hle hsx hx0 hyb hNN hsz q1 q2 q3 q4 q5 hcZ hCw hz1 hi0
      go_wp2
      go_region_held3 (fun _ => True) (exact True.intro) ((first
        | ((with_reducible refine mclone (wo := wo) ?hw (.tmp 55) ?ho Ai ci Y1 ?hxx ?hx HCA.out HL1.out ?_); (case ho => with_reducible rfl); (case hw => rfl); (case hxx => rfl); (case hx => first | exact HW1.out | exact below_drew HW1.out | exact HW0.out | exact below_drew HW0.out); intro va wa ho hb hcar; obtain ⟨Aya, cya, rfl, -, -⟩ := ho.form; have HVA := Lib.hid ho; (first | (have HVB2 := Lib.hid (hcar HVB.out); have HW2 := Lib.hid hb) | (have HVB2 := Lib.hid (hcar (Kd.R_drew HVB.out)); have HW2 := Lib.hid hb) | have HW1 := Lib.hid hb); clear ho hb hcar)
        | ((with_reducible refine mclone (wo := wo) ?hw (.tmp 62) ?ho A3 d3 Y2 ?hxx ?hx HCB.out HL2.out ?_); (case ho => with_reducible rfl); (case hw => rfl); (case hxx => rfl); (case hx => first | exact HW1.out | exact below_drew HW1.out | exact HW0.out | exact below_drew HW0.out); intro va wa ho hb hcar; obtain ⟨Ayb, cyb, rfl, -, -⟩ := ho.form; have HVB := Lib.hid ho; (first | (have HVA2 := Lib.hid (hcar HVA.out); have HW2 := Lib.hid hb) | (have HVA2 := Lib.hid (hcar (Kd.R_drew HVA.out)); have HW2 := Lib.hid hb) | have HW1 := Lib.hid hb); clear ho hb hcar)
        | (go_loud (refine sr_app_step (W0 := wo) (w0 := wo) (W := wa) (b := w.heap.size) HS.out HW2.out (by first | exact HVA2.out | exact HVA.out) (by first | exact HVB2.out | exact HVB.out) HSZ.out (below_lower HW2.out HSZ.out) HLn.out (by rfl) (.tmp 52) (.tmp 65) (by rfl) (by rfl) (by first | rfl | (simp; rfl) | (simp; done)) ?_); intro v5 w5 hs hb hg; rw [HSN.out] at hs; have HS5 := Lib.hid hs; have HU5 := Lib.hid (grown_row HS.out HU.out hg); have HT5 := Lib.hid (grown_tape HS.out HT.out hg); have HC5 := Lib.hid (HCH.out.grown hg (fun k e => .inr (HS.out.ge k e))); clear hs hb hg)))
      go_wp2
      clear hs1 hs2
      refine ⟨⟨i + 1, Nat.succ_le_of_lt hlt, Z2, A5, c5, rfl, HR5, HS5, HU5, HT5, HC5⟩, ?_⟩
      exact HM.out
    · have hie : i = n := by omega
      subst hie
      have hZ0 : ¬ (Z.length : Int) > 0 := by omega
      clear hns hZl
      go_wp2
      go_ret2
      refine ⟨_, rfl, ?_, HT.out, HCH.out⟩
      exact HS.out
theorem matrix_agree (c0 c1 c2 c3 c4 n : Int) (A : Option Addr) (c : Nat) (l : List Int) (hc : l.length ≤ c) (hl : l.length ≤ 1000) (hu : ∀ x ∈ l, 0 ≤ x ∧ x < 18446744073709551616) :
    ∃ XS E a', Agree2 (Calls Tryd.prog 30) 2 (cV c0 c1 c2 c3 c4) (.int .i64 n) A c l XS E a' := by
  have key : Lem.mchk c0 c1 c2 c3 c4 n = 0 → c1 = ((c1.toNat : Nat) : Int) ∧ 1 ≤ c1.toNat ∧ c1.toNat ≤ 64 ∧ 0 ≤ n ∧ n ≤ 24 ∧ 1 ≤ c2.toNat * c3.toNat ∧ n * ((c2.toNat * c3.toNat + c3.toNat * c4.toNat : Nat) : Int) = ((n.toNat * (c2.toNat * c3.toNat + c3.toNat * c4.toNat) : Nat) : Int) ∧ Reck c2 c3 c4 (c2.toNat * c3.toNat) (c3.toNat * c4.toNat) (c2.toNat * c3.toNat + c3.toNat * c4.toNat) (n.toNat * (c2.toNat * c3.toNat + c3.toNat * c4.toNat)) n := fun h => by
    obtain ⟨hchk, h2, n1, n24⟩ := Lem.mchk_zero h
    obtain ⟨b1, b2, -, -⟩ := Lem.chk_bits hchk
    obtain ⟨s1, s2, s3, s4, s5, s6⟩ := Lem.chk_sides hchk h2
    obtain ⟨r, rfl⟩ : ∃ r : Nat, c2 = (r : Int) := ⟨c2.toNat, by omega⟩
    obtain ⟨q, rfl⟩ : ∃ q : Nat, c3 = (q : Int) := ⟨c3.toNat, by omega⟩
    obtain ⟨t, rfl⟩ : ∃ t : Nat, c4 = (t : Int) := ⟨c4.toNat, by omega⟩
    obtain ⟨m, rfl⟩ : ∃ m : Nat, n = (m : Int) := ⟨n.toNat, by omega⟩
    simp only [Int.toNat_natCast]
    have p1 : r * q ≤ 6 * 6 := Nat.mul_le_mul (by omega) (by omega)
    have p2 : q * t ≤ 6 * 6 := Nat.mul_le_mul (by omega) (by omega)
    have p3 : 1 * 1 ≤ r * q := Nat.mul_le_mul (by omega) (by omega)
    obtain ⟨x, hx⟩ : ∃ x, x = r * q := ⟨_, rfl⟩
    obtain ⟨y, hy⟩ : ∃ y, y = q * t := ⟨_, rfl⟩
    have e1 : (r : Int) * (q : Int) = (x : Int) := by rw [hx]; exact (Int.natCast_mul r q).symm
    have e2 : (q : Int) * (t : Int) = (y : Int) := by rw [hy]; exact (Int.natCast_mul q t).symm
    rw [← hx, ← hy] at *
    have p4 : m * (x + y) ≤ 24 * 72 := Nat.mul_le_mul (by omega) (by omega)
    have e3 : (m : Int) * ((x + y : Nat) : Int) = ((m * (x + y) : Nat) : Int) := (Int.natCast_mul m (x + y)).symm
    obtain ⟨N, hN⟩ : ∃ N, N = m * (x + y) := ⟨_, rfl⟩
    rw [← hN] at e3 p4 ⊢
    have e4 : (x : Int) + (y : Int) = ((x + y : Nat) : Int) := (Int.natCast_add x y).symm
    refine ⟨by omega, by omega, by omega, by omega, by omega, by omega, e3, ?_⟩
    refine ⟨?_, ?_, ?_, ?_, ?_, ?_, ?_, ?_⟩
    · rw [e1]; exact ew64 (by omega) (by omega)
    · rw [e1]; exact wrap_i64 (by omega) (by omega)
    · rw [e2]; exact ew64 (by omega) (by omega)
    · rw [e2]; exact wrap_i64 (by omega) (by omega)
    · rw [e4]; exact ew64 (by omega) (by omega)
    · rw [e4]; exact wrap_i64 (by omega) (by omega)
    · rw [e3]; exact ew64 (by omega) (by omega)
    · rw [e3]; exact wrap_i64 (by omega) (by omega)
  refine agreeG (Calls Tryd.prog 30) (fun h hm => h.mono hm) 2 c0 c1 c2 c3 c4 n A c l hc hl hu (Lem.mchk c0 c1 c2 c3 c4 n) c2 c3 c4 (c2.toNat * c3.toNat) (c3.toNat * c4.toNat) c1.toNat (n.toNat * (c2.toNat * c3.toNat + c3.toNat * c4.toNat)) ⟨fun h W tp => mdraw_no c0 c1 c2 c3 c4 n tp W h, fun h hf W B g v hT => ?_, fun h hf W B g v hT => ?_⟩ (fun W => rcheck23_ok c0 c1 c2 c3 c4 n W) (fun h W => ?_) (fun h => (key h).2.2.2.2.2.2.2) (fun h => ?_)
  · obtain ⟨-, -, -, k4, -, -, -, k8⟩ := key h
    exact mdraw_bad c0 c1 c2 c3 c4 n _ _ _ _ _ 10 W h k8 (fun W' hW => Bad.far B g v l 0 (hT.below hW) (Int.natCast_nonneg _) (by omega))
  · obtain ⟨k1, k2, k3, k4, k5, k6, k7, k8⟩ := key h
    obtain ⟨m, rfl⟩ : ∃ m : Nat, n = (m : Int) := ⟨n.toNat, by omega⟩
    rw [Int.toNat_natCast] at *
    rw [k1] at h ⊢
    have := mdraw_ok c0 c1.toNat c2 c3 c4 m _ _ _ _ W B g v l 0 h k8 rfl k6 rfl hT (by omega) hu
    rw [Nat.zero_add] at this
    exact this
  · obtain ⟨-, rfl, -, -⟩ := Lem.mchk_zero h
    exact sides2 c1 c2 c3 c4 W
  · obtain ⟨k1, k2, k3, k4, k5, k6, k7, k8⟩ := key h
    exact ⟨k4, k5, k1, k2, k3, k7⟩
end Go.Proofs.YtdgngpcfikgoeaaDoor.P
