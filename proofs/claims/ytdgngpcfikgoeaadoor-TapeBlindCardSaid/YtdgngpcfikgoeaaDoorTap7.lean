/- Bits and Seed of a tape that refuses. -/
import Derived.Test.YtdgngpcfikgoeaaDoorTap6
import Derived.Laws.Tables
import Derived.Great.BuildSlice
namespace Go.Proofs.YtdgngpcfikgoeaaDoor.P
open Go.RowKit Go.Extern.Stop Go.Stop Go.Extern Go.Proofs.YtdgngpcfikgoeaaDoorW.PrintWords Go.Proofs.YtdgngpcfikgoeaaDoorW.PrintLast Go.Proofs.YtdgngpcfikgoeaaDoorW.PrintMore
set_option linter.unusedVariables false
set_option linter.unusedSimpArgs false
attribute [local go_sem ↓] Go.wp_at_zero Go.wp_at_succ

theorem bits_bad (n : Int) (tp : Value) (c : Int) (w : World) (h : Bad w n tp c) : Calls Tryd.prog 17 #[tp, .int .i64 n] w fun e w' => ∃ v, e = .returned (.tuple #[.slice none 0 0, v]) ∧ ErrIs 2 w' v c ∧ Below w.heap.size w w' := by
  have HR := Lib.hid (take_bad n tp c w h)
  have HW := Lib.hid (fun W v (hE : ErrIs 1 W v c) => fwrap_err ⟨#[98, 105, 116, 115]⟩ 1 v c W hE)
  clear h
  go_enter Tryd.func17, Tryd.ntmps17
  go_wp2_with (first
    | (go_at_call 12; (with_reducible refine HR.out.mono ?_); rintro e w1 ⟨v, rfl, hv, hb⟩; have HV := Lib.hid hv; have HB := Lib.hid hb; obtain ⟨p, rfl⟩ := hv.form; clear hv hb)
    | (go_at_call 34; (with_reducible refine (HW.out _ _ HV.out).mono ?_); rintro e w2 ⟨v2, rfl, hv, hb⟩; have HV2 := Lib.hid hv; have HB2 := Lib.hid hb; clear hv hb))
  go_ret2
  exact ⟨v2, rfl, HV2.out, below_step HB.out HB2.out⟩
theorem Chg.row {S : Nat → Prop} {w w' : World} (h : Chg S w w') {g : Nat} (cs : Array Value) (hg : S g ∨ w.heap.size ≤ g) : Chg S w (w'.setRow g cs) :=
  ⟨h.os, h.tape, h.output, by simpa [World.setRow] using h.size, fun k hk hs => (setRow_other w' g k cs (fun e => by subst e; rcases hg with q | q; exact hs q; omega)).trans (h.block k hk hs)⟩
theorem Chg.nothing {S : Nat → Prop} {w w' : World} (h : Chg S w w') (hS : ∀ k, k < w.heap.size → ¬ S k) : Below w.heap.size w w' := h.none hS
/-- a seed of zeros -/
def zc : Array Value := #[.int .u8 0, .int .u8 0, .int .u8 0, .int .u8 0, .int .u8 0, .int .u8 0, .int .u8 0, .int .u8 0, .int .u8 0, .int .u8 0, .int .u8 0, .int .u8 0, .int .u8 0, .int .u8 0, .int .u8 0, .int .u8 0, .int .u8 0, .int .u8 0, .int .u8 0, .int .u8 0, .int .u8 0, .int .u8 0, .int .u8 0, .int .u8 0, .int .u8 0, .int .u8 0, .int .u8 0, .int .u8 0, .int .u8 0, .int .u8 0, .int .u8 0, .int .u8 0]
abbrev zSeed : Value := .agg zc
theorem seed_bad (tp : Value) (c : Int) (w : World) (h : Bad w 4 tp c) : Calls Tryd.prog 16 #[tp] w fun e w' => ∃ v, e = .returned (.tuple #[zSeed, v]) ∧ ErrIs 2 w' v c ∧ Below w.heap.size w w' := by
  have hbad : ∀ W, Below w.heap.size w W → Bad W 4 tp c := fun W hW => by
    cases h with
    | none => exact .none
    | zero g h => exact .zero g ((hW.block g (blk_lt h)).trans h)
    | neg B g v l a h hn => exact absurd hn (by decide)
    | far B g v l a h hn hf => exact .far B g v l a (h.below hW) hn hf
  have HR := Lib.hid (fun W (hW : Below w.heap.size w W) => take_bad 4 tp c W (hbad W hW))
  have HW := Lib.hid (fun W v (hE : ErrIs 1 W v c) => fwrap_err ⟨#[115, 101, 101, 100]⟩ 1 v c W hE)
  clear h hbad
  have HB0 := Lib.hid (below_alloc (Below.refl w.heap.size w) (.cells zc 42))
  have HK0 := Lib.hid (heap_alloc_new w (.cells zc 42))
  go_enter Tryd.func16, Tryd.ntmps16
  go_wp2_with (first
    | (go_at_call 12; (refine (HR.out _ HB0.out).mono ?_); rintro e w1 ⟨v, rfl, hv, hb⟩; have HV := Lib.hid hv; have HB := Lib.hid (below_step HB0.out hb); have HK1 := Lib.hid ((hb.block _ (blk_lt HK0.out)).trans HK0.out); obtain ⟨p, rfl⟩ := hv.form; clear hv hb)
    | (go_at_call 34; (with_reducible refine (HW.out _ _ HV.out).mono ?_); rintro e w2 ⟨v2, rfl, hv, hb⟩; have HV2 := Lib.hid hv; have HB2 := Lib.hid (below_step HB.out hb); have KS := Lib.hid ((hb.block _ (blk_lt HK1.out)).trans HK1.out); clear hv hb)
    | ((with_reducible refine gate_store (t := 42) (p := 2) (v := .tmp 15) rfl ?_); go_loud (refine wpList_store_rowTo rfl 42 (.tmp 2) (.tmp 15) rfl rfl w.heap.size zc (by rfl) (by rfl) 42 zc KS.out (by kernel_rfl) rfl (by kernel_rfl) ?_)))
  refine bodyPost_ret (results_ct rfl _ _ w.heap.size 42 zc (0, 0) _ rfl (setRow_heap _ _ _ _ _ _ KS.out) Tryd.underlying42 rfl (by kernel_rfl)) rfl ?_
  have hc := (Chg.refl (fun k => k = w.heap.size) w2).row (g := w.heap.size) zc (.inl rfl)
  refine ⟨v2, rfl, HV2.out.chg hc (fun k cs q hk => by subst q; rw [KS.out] at hk; injection hk with hk; injection hk with _ hk; exact absurd hk (by decide)), ?_⟩
  exact (((Chg.of_below HB2.out (fun k => k = w.heap.size)).row (g := w.heap.size) zc (.inl rfl))).nothing (fun k hk q => by omega)
end Go.Proofs.YtdgngpcfikgoeaaDoor.P
