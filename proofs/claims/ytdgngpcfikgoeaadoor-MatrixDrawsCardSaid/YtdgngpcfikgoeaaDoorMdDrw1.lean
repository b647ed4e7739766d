/- Shares drawn from a tape: rows of shares that grow; dabit.Draw, the program's and the document's. -/
import Derived.Test.YtdgngpcfikgoeaaDoorMdTap6
import Derived.Test.YtdgngpcfikgoeaaDoorMdLemShape
namespace Go.Proofs.YtdgngpcfikgoeaaDoor.P
open Go.RowKit Go.Extern.Stop Go.Stop Go.Extern Go.Proofs.YtdgngpcfikgoeaaDoorW.PrintWords Go.Proofs.YtdgngpcfikgoeaaDoorW.PrintLast Go.Proofs.YtdgngpcfikgoeaaDoorW.PrintMore
set_option linter.unusedVariables false
set_option linter.unusedSimpArgs false
attribute [local go_sem ↓] Go.wp_at_zero Go.wp_at_succ

/-! ### rows of shares -/
abbrev SR (B : Nat) (w : World) (v : Value) (xs : List S86) : Prop := Kd.R k86 86 w B (fun _ => True) v xs
theorem SR.lt {B : Nat} {w : World} {v : Value} {xs : List S86} (h : SR B w v xs) : ∀ k, v.ownBlock = some k → k < w.heap.size := by
  obtain ⟨inner, ho⟩ := Kd.R_own h
  exact fun k hk => own_lt ho k hk
theorem SR.ge {B : Nat} {w : World} {v : Value} {xs : List S86} (h : SR B w v xs) : ∀ k, v.ownBlock = some k → B ≤ k := by
  obtain ⟨inner, ho⟩ := Kd.R_own h
  exact fun k hk => own_base ho k hk
theorem SR.C2 {B n c : Nat} {w : World} {A : Option Addr} {xs : List S86} (h : SR B w (.slice A n c) xs) : Kd.C k86 w A xs.length xs ∧ xs.length ≤ c := by
  obtain ⟨A', c', e, hc, hC⟩ := Kd.R_reads h
  injection e with e1 e2 e3
  subst e1 e3
  exact ⟨hC, hc⟩
section
variable {ops : Array Oper} {rest : List Oper} {o : Oper} {a : Act} {Q : Exit → Act → World → Prop}
end
/-- a class as a value -/
abbrev cV (c0 c1 c2 c3 c4 : Int) : Value := .agg #[.int .i64 c0, .int .i64 c1, .int .i64 c2, .int .i64 c3, .int .i64 c4]

/-! ### the document's dabit.Draw -/
/-! ### the program's dabit.Draw -/
theorem below_lower {B B2 : Nat} {w w1 : World} (h : Below B w w1) (hb : B2 ≤ B) : Below B2 w w1 := ⟨h.os, h.tape, h.output, h.size, fun k hk => h.block k (Nat.lt_of_lt_of_le hk hb)⟩
/-- a row of shares grew: what else lies there -/
theorem grown_row {B B2 : Nat} {w w1 : World} {v u : Value} {xs : List S86} {l : List Int} (hs : SR B w v xs) (hu : RU B2 w u l) (hg : w.grownBy w1 v.ownBlock) : RU B2 w1 u l := by
  have hc : Chg (fun k => v.ownBlock = some k) w w1 := (Chg.refl _ w).grown hg (fun k e => .inl e)
  obtain ⟨inner, ho⟩ := Kd.R_own hs
  refine hu.chg hc (fun k hk e => ?_)
  rcases own_type_ne hu.own ho (by decide) with q | q
  · rw [q] at hk; cases hk
  · exact q (by rw [hk, e])
theorem grown_tape {B B2 g : Nat} {w w1 : World} {v u : Value} {xs : List S86} {l : List Int} {a : Nat} (hs : SR B w v xs) (ht : TAt w B2 g u l a) (hg : w.grownBy w1 v.ownBlock) : TAt w1 B2 g u l a :=
  ⟨blk_grown ht.blk hg (Kd.R_ne hs ht.blk (by decide)), ht.ge, grown_row hs ht.row hg, ht.le, ht.len⟩
end Go.Proofs.YtdgngpcfikgoeaaDoor.P
