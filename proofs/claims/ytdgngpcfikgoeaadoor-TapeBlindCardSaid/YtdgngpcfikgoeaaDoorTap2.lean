/- The tape: At, Left, Next, Skip, Numbers. -/
import Derived.Test.YtdgngpcfikgoeaaDoorTap1
import Derived.Test.YtdgngpcfikgoeaaDoorWWords
import Derived.Test.YtdgngpcfikgoeaaDoorWMore
import Derived.Test.YtdgngpcfikgoeaaDoorWLast
import Derived.Lib.Hide
import Derived.IntWalk
import Derived.WalkSpells
import Derived.Outline
import Derived.BigQuiet
import Derived.Deep.RegionHeld3
import Derived.Deep.DrawnRows
import Derived.Deep.RegionLaw
import Derived.Deep.AppendLies
namespace Go.Proofs.YtdgngpcfikgoeaaDoor.P
open Go.RowKit Go.Extern.Stop Go.Stop Go.Extern Go.Proofs.YtdgngpcfikgoeaaDoorW.PrintWords Go.Proofs.YtdgngpcfikgoeaaDoorW.PrintLast Go.Proofs.YtdgngpcfikgoeaaDoorW.PrintMore
set_option linter.unusedVariables false
set_option linter.unusedSimpArgs false
attribute [local go_sem ↓] Go.wp_at_zero Go.wp_at_succ

/-! ### At, Left -/
theorem at_ok (w : World) (B g : Nat) (v : Value) (l : List Int) (a : Nat) (h : TAt w B g v l a) : Calls Tryd.prog 14 #[.pointer (some ⟨g, 0, none⟩)] w fun e w' => e = .returned (.int .i64 (a : Int)) ∧ w = w' := by
  obtain ⟨c0, c1, c2, -⟩ := tcells h
  clear h
  go_enter Tryd.func14, Tryd.ntmps14
  go_wp2
  go_ret
  exact ⟨rfl, rfl⟩
theorem left_ok (w : World) (B g : Nat) (v : Value) (l : List Int) (a : Nat) (h : TAt w B g v l a) : Calls Tryd.prog 20 #[.pointer (some ⟨g, 0, none⟩)] w fun e w' => e = .returned (.int .i64 ((l.length : Int) - a)) ∧ w' = w.drew := by
  obtain ⟨c0, c1, c2, -⟩ := tcells h
  obtain ⟨A, cp, rfl, -, -⟩ := h.row.form
  have hle := h.le
  have hlen := h.len
  have hw1 : IntKind.i64.wrap ((l.length : Int) - (a : Int)) = (l.length : Int) - a := wrap_i64 (by omega) (by omega)
  clear h
  go_enter Tryd.func20, Tryd.ntmps20
  go_wp2_with fail
  go_region_held3 (fun W => W.cell? ⟨g, 0, none⟩ = some (.slice A l.length cp) ∧ W.cell? ⟨g, 1, none⟩ = some (.int .i64 (a : Int))) (go_keep) (fail)
  go_wp2
  go_ret
  exact ⟨rfl, rfl⟩
/-- no tape, and one that was never made: nothing is read, nothing is left -/
theorem at_none (w : World) : Calls Tryd.prog 14 #[.pointer none] w fun e w' => e = .returned (.int .i64 0) ∧ w = w' := by
  go_enter Tryd.func14, Tryd.ntmps14
  go_wp2
  go_ret
  exact ⟨rfl, rfl⟩
theorem left_none (w : World) : Calls Tryd.prog 20 #[.pointer none] w fun e w' => e = .returned (.int .i64 0) ∧ w = w' := by
  go_enter Tryd.func20, Tryd.ntmps20
  go_wp2
  go_ret
  exact ⟨rfl, rfl⟩
theorem at_zero (g : Nat) (w : World) (h : w.heap[g]? = some (.cells #[.slice none 0 0, .int .i64 0, .bool false] 37 (0, 0))) : Calls Tryd.prog 14 #[.pointer (some ⟨g, 0, none⟩)] w fun e w' => e = .returned (.int .i64 0) ∧ w = w' := by
  obtain ⟨c0, c1, c2⟩ := ecells_3 h
  go_enter Tryd.func14, Tryd.ntmps14
  go_wp2
  go_ret
  exact ⟨rfl, rfl⟩
theorem left_zero (g : Nat) (w : World) (h : w.heap[g]? = some (.cells #[.slice none 0 0, .int .i64 0, .bool false] 37 (0, 0))) : Calls Tryd.prog 20 #[.pointer (some ⟨g, 0, none⟩)] w fun e w' => e = .returned (.int .i64 0) ∧ w' = w.drew := by
  obtain ⟨c0, c1, c2⟩ := ecells_3 h
  go_enter Tryd.func20, Tryd.ntmps20
  go_wp2_with fail
  go_region_held3 (fun W => W.cell? ⟨g, 0, none⟩ = some (.slice none 0 0) ∧ W.cell? ⟨g, 1, none⟩ = some (.int .i64 0)) (go_keep) (fail)
  go_wp2
  go_ret
  exact ⟨rfl, rfl⟩

/-! ### Next -/
theorem one_of {B : Nat} {w : World} {u : Value} {x : Int} (hu : RU B w u [x]) : ∃ ad c, u = .slice (some ad) 1 c ∧ w.cell? ad = some (.int .u64 x) := by
  obtain ⟨A, cp, rfl, -, hC⟩ := hu.form
  obtain ⟨ad, rfl, x0⟩ := Kd.at_int hC 0 (by omega) (by simp)
  refine ⟨ad, cp, rfl, ?_⟩
  have h1 : ad.add (0 : Int).toNat = ad := by cases ad; unfold Addr.add; split <;> simp_all
  rw [h1] at x0
  exact x0
theorem next_bad (tp : Value) (c : Int) (w : World) (h : Bad w 1 tp c) : Calls Tryd.prog 15 #[tp] w fun e w' => ∃ v, e = .returned (.tuple #[.int .u64 0, v]) ∧ ErrIs 2 w' v c ∧ Below w.heap.size w w' := by
  have HR := Lib.hid (take_bad 1 tp c w h)
  have HW := Lib.hid (fun W v (hE : ErrIs 1 W v c) => fwrap_err ⟨#[110, 101, 120, 116]⟩ 1 v c W hE)
  clear h
  go_enter Tryd.func15, Tryd.ntmps15
  go_wp2_with (first
    | (go_at_call 12; (with_reducible refine HR.out.mono ?_); rintro e w1 ⟨v, rfl, hv, hb⟩; have HV := Lib.hid hv; have HB := Lib.hid hb; obtain ⟨p, rfl⟩ := hv.form; clear hv hb)
    | (go_at_call 34; (with_reducible refine (HW.out _ _ HV.out).mono ?_); rintro e w2 ⟨v2, rfl, hv, hb⟩; have HV2 := Lib.hid hv; have HB2 := Lib.hid hb; clear hv hb))
  go_ret2
  exact ⟨v2, rfl, HV2.out, below_step HB.out HB2.out⟩
theorem next_ok (w : World) (B g : Nat) (v : Value) (l : List Int) (a : Nat) (h : TAt w B g v l a) (hf : a < l.length) :
    Calls Tryd.prog 15 #[.pointer (some ⟨g, 0, none⟩)] w fun e w' => e = .returned (.tuple #[.int .u64 (rd l (a : Int)), .nilIface]) ∧ TAt w' B g v l (a + 1) ∧ Chg (fun k => k = g) w w' := by
  have hR : Calls Tryd.prog 12 #[.pointer (some ⟨g, 0, none⟩), .int .i64 1] w _ := take_ok 1 w B g v l a h (by omega)
  have HR := Lib.hid hR
  clear hR
  have HY : Hid ((l.take (a + 1)).drop a = [rd l (a : Int)]) := Lib.hid (by
    rw [List.drop_take]
    simp only [show a + 1 - a = 1 by omega]
    rw [List.drop_eq_getElem_cons hf, List.take_succ_cons, List.take_zero]
    unfold rd
    rw [Int.toNat_natCast, List.getD_eq_getElem?_getD, List.getElem?_eq_getElem hf]
    rfl)
  clear h
  go_enter Tryd.func15, Tryd.ntmps15
  go_wp2_with (go_at_call 12; (with_reducible refine HR.out.mono ?_); rintro e w1 ⟨u, rfl, hu, ht, hc⟩; have HT := Lib.hid ht; have HC := Lib.hid hc; obtain ⟨ad, cp, rfl, x1⟩ := one_of (HY.out ▸ hu); clear hu ht hc)
  go_ret2
  exact ⟨rfl, HT.out, HC.out⟩

/-! ### Skip -/
theorem skip_bad (n : Int) (tp : Value) (c : Int) (w : World) (h : Bad w 0 tp c) : Calls Tryd.prog 19 #[tp, .int .i64 n] w fun e w' => ∃ v, e = .returned v ∧ ErrIs 1 w' v c ∧ Below w.heap.size w w' := by
  have HR := Lib.hid (ready_bad 0 tp c w h)
  have HW := Lib.hid (fun W v (hE : ErrIs 0 W v c) => fwrap_err ⟨#[115, 107, 105, 112]⟩ 0 v c W hE)
  clear h
  go_enter Tryd.func19, Tryd.ntmps19
  go_wp2_with (first
    | (go_at_call 33; (with_reducible refine HR.out.mono ?_); rintro e w1 ⟨v, rfl, hv, hb⟩; have HV := Lib.hid hv; have HB := Lib.hid hb; obtain ⟨p, rfl⟩ := hv.form; clear hv hb)
    | (go_at_call 34; (with_reducible refine (HW.out _ _ HV.out).mono ?_); rintro e w2 ⟨v2, rfl, hv, hb⟩; have HV2 := Lib.hid hv; have HB2 := Lib.hid hb; clear hv hb))
  go_ret
  exact ⟨v2, rfl, HV2.out, below_step HB.out HB2.out⟩
/-- what Skip says -/
def skipE (l : List Int) (a : Nat) (n : Int) : Int := if n < a then 1 else if n > (l.length : Int) then 10 else 0
theorem skip_no (n : Int) (w : World) (B g : Nat) (v : Value) (l : List Int) (a : Nat) (h : TAt w B g v l a) (hn : skipE l a n ≠ 0) :
    Calls Tryd.prog 19 #[.pointer (some ⟨g, 0, none⟩), .int .i64 n] w fun e w' => ∃ u, e = .returned u ∧ ErrIs 0 w' u (skipE l a n) ∧ Below w.heap.size w w' := by
  have HR := Lib.hid (ready_ok 0 w B g v l a h (by omega) (by have := h.le; omega))
  have HN := Lib.hid (fun W (c : Int) (hc : c ≠ 0) => fnew_err c ⟨#[115, 107, 105, 112]⟩ W hc)
  obtain ⟨c0, c1, c2, -⟩ := tcells h
  obtain ⟨A, cp, rfl, -, -⟩ := h.row.form
  clear h
  unfold skipE at hn ⊢
  by_cases h1 : n < a
  · rw [if_pos h1]
    clear hn
    go_enter Tryd.func19, Tryd.ntmps19
    go_wp2_with (first
      | (go_at_call 33; (with_reducible refine HR.out.mono ?_); rintro e w1 ⟨rfl, rfl⟩)
      | (go_at_call 31; (with_reducible refine (HN.out _ _ (by decide)).mono ?_); rintro e w1 ⟨v, rfl, hv, hb⟩; have HV := Aside0.mk hv; have HB := Aside0.mk hb; clear hv hb))
    go_ret
    exact ⟨_, rfl, HV.out, undrew HB.out⟩
  · by_cases h2 : n > (l.length : Int)
    · rw [if_neg h1, if_pos h2]
      clear hn
      go_enter Tryd.func19, Tryd.ntmps19
      go_wp2_with (first
        | (go_at_call 33; (with_reducible refine HR.out.mono ?_); rintro e w1 ⟨rfl, rfl⟩)
        | (go_at_call 31; (with_reducible refine (HN.out _ _ (by decide)).mono ?_); rintro e w1 ⟨v, rfl, hv, hb⟩; have HV := Aside0.mk hv; have HB := Aside0.mk hb; clear hv hb))
      go_ret
      exact ⟨_, rfl, HV.out, undrew HB.out⟩
    · rw [if_neg h1, if_neg h2] at hn
      exact absurd rfl hn
theorem skip_ok (n : Nat) (w : World) (B g : Nat) (v : Value) (l : List Int) (a : Nat) (h : TAt w B g v l a) (h1 : a ≤ n) (h2 : n ≤ l.length) :
    Calls Tryd.prog 19 #[.pointer (some ⟨g, 0, none⟩), .int .i64 (n : Int)] w fun e w' => e = .returned .nilIface ∧ TAt w' B g v l n ∧ Chg (fun k => k = g) w w' := by
  have HR := Lib.hid (ready_ok 0 w B g v l a h (by omega) (by have := h.le; omega))
  obtain ⟨c0, c1, c2, cf⟩ := tcells h
  have HT : Hid (TAt w.drew B g v l a) := Lib.hid (h.below (below_drew (Below.refl _ _)))
  obtain ⟨A, cp, rfl, -, -⟩ := h.row.form
  have HL := Lib.hid h2
  have h3 : ¬ (n : Int) < (a : Int) := by omega
  have h4 : ¬ (n : Int) > (l.length : Int) := by omega
  clear h h1 h2
  go_enter Tryd.func19, Tryd.ntmps19
  go_wp2_with (go_at_call 33; (with_reducible refine HR.out.mono ?_); rintro e w1 ⟨rfl, rfl⟩)
  go_ret
  exact ⟨rfl, HT.out.set HL.out, (Chg.refl _ w).drew.set rfl⟩
end Go.Proofs.YtdgngpcfikgoeaaDoor.P
