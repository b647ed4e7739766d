/- The program's scalar.Draw, where it fails; the checks. -/
import Derived.Test.YtdgngpcfikgoeaaDoorSdDrw1
import Derived.Test.YtdgngpcfikgoeaaDoorSdK6
import Derived.Test.YtdgngpcfikgoeaaDoorSdK7
import Derived.Test.YtdgngpcfikgoeaaDoorSdLemShape
namespace Go.Proofs.YtdgngpcfikgoeaaDoor.Lem
open Go.RowKit Go.Proofs.YtdgngpcfikgoeaaDoor.P Go.Proofs.YtdgngpcfikgoeaaDoor.Num Go.Proofs.YtdgngpcfikgoeaaDoorW.PrintWords Go.Proofs.YtdgngpcfikgoeaaDoorW.PrintMore
set_option linter.unusedVariables false
def schk (c0 c1 c2 c3 c4 n : Int) : Int := if chk c0 c1 c2 c3 c4 = 0 then (if c0 = 1 then (if n < 1 then 2 else (if n > 24 then 2 else 0)) else 15) else chk c0 c1 c2 c3 c4
theorem schk_f (k : Nat) (hk : 10 ≤ k) (c0 c1 c2 c3 c4 n : Int) : scalar_check.f k c0 c1 c2 c3 c4 n = some (schk c0 c1 c2 c3 c4 n) := by
  unfold scalar_check.f schk
  rw [check_f k hk, Option.bind_some]
  repeat' split
  all_goals rfl
theorem schk_r (k : Nat) (hk : 10 ≤ k) (c0 c1 c2 c3 c4 n : Int) : trefoilref22_Check.f k c0 c1 c2 c3 c4 1 n = some (schk c0 c1 c2 c3 c4 n) := by
  unfold trefoilref22_Check.f schk
  rw [check_r k hk, Option.bind_some, Option.bind_some]
  by_cases h : chk c0 c1 c2 c3 c4 = 0
  · obtain ⟨b1, b2, _, _⟩ := chk_bits h
    rw [if_pos h, if_pos h]
    by_cases h1 : c0 = 1
    · rw [if_pos h1, if_pos h1]
      unfold trefoilref22_Sides.f
      rw [if_neg (by omega), Option.bind_some]
      by_cases h2 : n < 1
      · rw [if_pos h2, if_pos h2]
      · rw [if_neg h2, if_neg h2]
        by_cases h3 : n > 24
        · rw [if_pos h3, if_pos h3]
        · rw [if_neg h3, if_neg h3]
          have e1 : wrap64 (n * 1) = n := by rw [Int.mul_one]; exact w64 (by omega) (by omega)
          have hm : n * c1 ≤ 24 * 64 := Int.mul_le_mul (by omega) b2 (by omega) (by omega)
          have hp : 0 ≤ n * c1 := Int.mul_nonneg (by omega) (by omega)
          have e2 : wrap64 (n * c1) = n * c1 := w64 (by omega) (by omega)
          simp only [e1, e2]
          rw [if_neg (by omega)]
    · rw [if_neg h1, if_neg h1]
  · rw [if_neg h, if_neg h]
theorem schk_zero {c0 c1 c2 c3 c4 n : Int} (h : schk c0 c1 c2 c3 c4 n = 0) : chk c0 c1 c2 c3 c4 = 0 ∧ c0 = 1 ∧ 1 ≤ n ∧ n ≤ 24 := by
  unfold schk at h
  split at h
  · next h0 =>
    split at h
    · next h1 =>
      split at h
      · cases h
      · split at h
        · cases h
        · exact ⟨h0, h1, by omega, by omega⟩
    · cases h
  · next h0 => exact absurd h h0
end Go.Proofs.YtdgngpcfikgoeaaDoor.Lem
namespace Go.Proofs.YtdgngpcfikgoeaaDoor.P
open Go.RowKit Go.Extern.Stop Go.Stop Go.Extern Go.Proofs.YtdgngpcfikgoeaaDoorW.PrintWords Go.Proofs.YtdgngpcfikgoeaaDoorW.PrintLast Go.Proofs.YtdgngpcfikgoeaaDoorW.PrintMore
set_option linter.unusedVariables false
set_option linter.unusedSimpArgs false
attribute [local go_sem ↓] Go.wp_at_zero Go.wp_at_succ
theorem scheck_ok (c0 c1 c2 c3 c4 n : Int) (w : World) : Calls Tryd.prog 46 #[cV c0 c1 c2 c3 c4, .int .i64 n] w fun e w' => e = .returned (.int .i64 (Lem.schk c0 c1 c2 c3 c4 n)) ∧ Below w.heap.size w w' :=
  scalar_check.calls 10 c0 c1 c2 c3 c4 n _ w (Lem.schk_f 10 (by omega) c0 c1 c2 c3 c4 n)
theorem rcheck22_ok (c0 c1 c2 c3 c4 n : Int) (w : World) : Calls Tryd.prog 47 #[cV c0 c1 c2 c3 c4, .int .i64 1, .int .i64 n] w fun e w' => e = .returned (.int .i64 (Lem.schk c0 c1 c2 c3 c4 n)) ∧ Below w.heap.size w w' :=
  trefoilref22_Check.calls 10 c0 c1 c2 c3 c4 1 n _ w (Lem.schk_r 10 (by omega) c0 c1 c2 c3 c4 n)
/-! ### the program's scalar.Draw -/
set_option maxHeartbeats 1600000 in
theorem sdraw_no (c0 c1 c2 c3 c4 n : Int) (tp : Value) (w : World) (h : Lem.schk c0 c1 c2 c3 c4 n ≠ 0) :
    Calls Tryd.prog 27 #[cV c0 c1 c2 c3 c4, .int .i64 n, tp] w fun e w' => ∃ v, e = .returned (.tuple #[.slice none 0 0, v]) ∧ ErrIs 0 w' v (Lem.schk c0 c1 c2 c3 c4 n) ∧ Below w.heap.size w w' := by
  have HC := Lib.hid (fun W => scheck_ok c0 c1 c2 c3 c4 n W)
  generalize Lem.schk c0 c1 c2 c3 c4 n = t at *
  have HN := Lib.hid (fun W => fnew_err t ⟨#[115, 99, 97, 108, 97, 114]⟩ W h)
  have hb : (t != 0) = true := by rw [bne_iff_ne]; exact h
  have HB0 := Lib.hid (below_alloc (Below.refl w.heap.size w) (.cells #[.int .i64 c0, .int .i64 c1, .int .i64 c2, .int .i64 c3, .int .i64 c4] 62))
  clear h
  go_enter Tryd.func27, Tryd.ntmps27
  go_wp2_with (first
    | (go_at_call 46; (with_reducible refine (HC.out _).mono ?_); rintro e w1 ⟨rfl, hb⟩; have HB1 := Lib.hid (below_step HB0.out hb); clear hb)
    | (go_at_call 31; (with_reducible refine (HN.out _).mono ?_); rintro e w2 ⟨v, rfl, hv, hb⟩; have HV := Lib.hid hv; have HB2 := Lib.hid (below_step HB1.out hb); clear hv hb))
  go_ret2
  exact ⟨v, rfl, HV.out, HB2.out⟩
set_option maxHeartbeats 1600000 in
theorem sdraw_bad (c0 c1 c2 c3 c4 n : Int) (tp : Value) (c : Int) (w : World) (h : Lem.schk c0 c1 c2 c3 c4 n = 0) (hn : wrap64 (2 * n) = 2 * n ∧ IntKind.i64.wrap (2 * n) = 2 * n) (hBB : ∀ W, Below w.heap.size w W → Bad W (2 * n) tp c) :
    Calls Tryd.prog 27 #[cV c0 c1 c2 c3 c4, .int .i64 n, tp] w fun e w' => ∃ v, e = .returned (.tuple #[.slice none 0 0, v]) ∧ ErrIs 3 w' v c ∧ Below w.heap.size w w' := by
  have HC := Lib.hid (fun W => scheck_ok c0 c1 c2 c3 c4 n W)
  rw [h] at HC
  obtain ⟨b1, b2, -, -⟩ := Lem.chk_bits (Lem.schk_zero h).1
  have HN := Lib.hid (fun W (hW : Below w.heap.size w W) => numbers_bad (2 * n) c1 tp c W (by omega) (by omega) (hBB W hW))
  have HW := Lib.hid (fun W v (hE : ErrIs 2 W v c) => fwrap_err ⟨#[115, 99, 97, 108, 97, 114]⟩ 2 v c W hE)
  have HB0 := Lib.hid (below_alloc (Below.refl w.heap.size w) (.cells #[.int .i64 c0, .int .i64 c1, .int .i64 c2, .int .i64 c3, .int .i64 c4] 62))
  obtain ⟨hn1, hn2⟩ := hn
  clear h hBB
  go_enter Tryd.func27, Tryd.ntmps27
  go_wp2_with (first
    | (go_at_call 46; (with_reducible refine (HC.out _).mono ?_); rintro e w1 ⟨rfl, hb⟩; have HB1 := Lib.hid (below_step HB0.out hb); obtain ⟨k0, k1, k2, k3, k4, -⟩ := cells_5 ((hb.block _ (blk_lt (heap_alloc_new w _))).trans (heap_alloc_new w _)); clear hb)
    | (go_at_call 37; (with_reducible refine (HN.out _ HB1.out).mono ?_); rintro e w2 ⟨v, rfl, hv, hb⟩; have HV := Lib.hid hv; have HB2 := Lib.hid (below_step HB1.out hb); obtain ⟨p, rfl⟩ := hv.form; clear hv hb)
    | (go_at_call 34; (with_reducible refine (HW.out _ _ HV.out).mono ?_); rintro e w3 ⟨v2, rfl, hv, hb⟩; have HV2 := Lib.hid hv; have HB3 := Lib.hid (below_step HB2.out hb); clear hv hb))
  go_ret2
  exact ⟨v2, rfl, HV2.out, HB3.out⟩
/-- two numbers a share -/
def sh2 (Y : List Int) (n : Nat) : List S86 := (List.range n).map fun i => ⟨[rd Y ((2 * i : Nat) : Int)], [rd Y ((2 * i + 1 : Nat) : Int)], []⟩
theorem sh2_snoc (Y : List Int) (i : Nat) : sh2 Y i ++ [⟨[rd Y ((2 * i : Nat) : Int)], [rd Y ((2 * i + 1 : Nat) : Int)], []⟩] = sh2 Y (i + 1) := by
  unfold sh2
  rw [List.range_succ, List.map_append]
  rfl
theorem sh2_len (Y : List Int) (n : Nat) : (sh2 Y n).length = n := by simp [sh2]
end Go.Proofs.YtdgngpcfikgoeaaDoor.P
