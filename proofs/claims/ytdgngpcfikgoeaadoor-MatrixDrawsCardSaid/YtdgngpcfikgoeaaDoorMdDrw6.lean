/- The program's scalar.Draw. -/
import Derived.Test.YtdgngpcfikgoeaaDoorMdDrw5
import Derived.Deep.RegionLaw
namespace Go.Proofs.YtdgngpcfikgoeaaDoor.P
open Go.RowKit Go.Extern.Stop Go.Stop Go.Extern Go.Proofs.YtdgngpcfikgoeaaDoorW.PrintWords Go.Proofs.YtdgngpcfikgoeaaDoorW.PrintLast Go.Proofs.YtdgngpcfikgoeaaDoorW.PrintMore
set_option linter.unusedVariables false
set_option linter.unusedSimpArgs false
attribute [local go_sem ↓] Go.wp_at_zero Go.wp_at_succ
section
variable {ops : Array Oper} {o : Oper} {a : Act} {Q : Exit → Act → World → Prop} {Kc : Act → World → Prop}
/-- a share of two new rows is appended, in a drawn region -/
theorem sr_app_step {b : Nat} {w0 W0 W : World} {v u1 u2 : Value} {xs : List S86} {ys zs : List Int} (h : SR b W0 v xs) (hbW : Below W0.heap.size W0 W) (hu1 : Kd.R (Kd.int .u64) 35 W W0.heap.size (fun _ => True) u1 ys) (hu2 : Kd.R (Kd.int .u64) 35 W W0.heap.size (fun _ => True) u2 zs)
    (hb0 : b ≤ W0.heap.size) (HB : Below b w0 W) (hl : xs.length < 1954687338268) (hw : Region.wanted o (yielded ops a.tmps) = true) (s xo : Operand) (ho : o.op = .call { callee := .builtin .append, args := #[s, xo], argTypes := #[63, 63] }) (hs : a.eval s = v) (hx : a.eval xo = .slice (some ⟨W.heap.size, 0, none⟩) 1 1)
    (hk : ∀ v1 w1, SR b w1 v1 (xs ++ [⟨ys, zs, []⟩]) → Below b w0 w1 → W0.grownBy w1 v.ownBlock → Kc (a.put o.dst v1) w1) : if Region.wanted o (yielded ops a.tmps) = true then Oper.wp Tryd.prog o a (W.alloc (.cells #[u1, u2, .slice none 0 0] 86)) Kc Q else Kc (a.put o.dst undef) (W.alloc (.cells #[u1, u2, .slice none 0 0] 86)) := by
  have hlt := SR.lt h
  have hsz := hbW.size
  refine Kd.R_append_step k86 (w0 := w0) b hw s xo 63 86 (.agg #[(.slice none 0 0), (.slice none 0 0), (.slice none 0 0)]) 72 ho Tryd.underlying63 info86 rfl (by decide) (by omega) v xs ⟨ys, zs, []⟩ [u1, u2, .slice none 0 0] (fun _ => True) (fun k => W0.heap.size ≤ k) hs hx
    (k86_mkM _ _ _ _ (Kd.R_lower (Kd.R_mono (Kd.R_bound hu1) (fun k hk => hk.2.1)) hb0) (Kd.R_lower (Kd.R_mono (Kd.R_bound hu2) (fun k hk => hk.2.1)) hb0) (Kd.R_nil _ _ _ _ _)) (fun k hk => ⟨trivial, fun e => by have := hlt k e.symm; omega⟩) (fun k hk => trivial)
    (Kd.R_below h hbW) HB (by omega) (by omega) ?_
  intro v1 w1 hr hb hg _
  exact hk v1 w1 hr hb (World.grownBy.trans (grown_of_below hbW _) hg)
end
end Go.Proofs.YtdgngpcfikgoeaaDoor.P
