/- StreamOrder: two joiners of one plan, side by side. -/
import Derived.BigQuiet
import Derived.Deep.AppendLies
import Derived.Deep.DrawnRows
import Derived.Deep.RegionHeld3
import Derived.Deep.RegionLaw
import Derived.Deep.RegionWith
import Derived.IntWalk
import Derived.Lib.Hide
import Derived.Outline
import Derived.Test.YtojimoebbinhdaaTrPx0
import Derived.WalkSpells
import Derived.Test.YtojimoebbinhdaaTrK2
import Derived.Test.YtojimoebbinhdaaTrK5
import Derived.Test.YtojimoebbinhdaaTrK6
namespace Go.Proofs.Ytojimoebbinhdaa.P
open Go.RowKit Go.Proofs.YtojimoebbinhdaaW.PrintWords Go.Proofs.YtojimoebbinhdaaW.PrintLast Go.Proofs.YtojimoebbinhdaaW.PrintMore
set_option linter.unusedVariables false
set_option linter.unusedSimpArgs false

/-! ### stream_two: words -/
/-- a step that writes into the rows q and h alone -/
def Writes (w w' : World) (vq vh : Value) : Prop := w.heap.size ≤ w'.heap.size ∧ ∀ k, k < w.heap.size → vq.ownBlock ≠ some k → vh.ownBlock ≠ some k → w'.heap[k]? = w.heap[k]?
theorem R32_other {w0 w w' : World} {vq vh vp : Value} {PL : List (List Int)} {HL : List Bool} {plan : List S32} (hq : kRows.R 50 w w0.heap.size (fun _ => True) vq PL) (hh : Kd.bool.R 4 w w0.heap.size (fun _ => True) vh HL) (hW : Writes w w' vq vh) (hp : k32.R 32 w w0.heap.size (fun _ => True) vp plan) : k32.R 32 w' w0.heap.size (fun _ => True) vp plan :=
  Kd.R_reok rfl (Kd.R_move (Kd.R_tight rfl hp) (fun k hk => hW.2 k (Kd.R_lt hp k hk.symm) (fun e => by obtain ⟨cs, hc⟩ := Kd.R_typed hq k e; exact Kd.R_ne hp hc (by decide) hk) (fun e => by obtain ⟨cs, hc⟩ := Kd.R_typed hh k e; exact Kd.R_ne hp hc (by decide) hk))) (fun _ _ => trivial)
theorem JAt.other {w0 w w' : World} {ga gb : Nat} {plan plan2 : List S32} {ea eb : Int} {PLa PLb : List (List Int)} {HLa HLb : List Bool} {pa qa ha pb qb hb : Value} (a : JAt w0 w ga plan ea PLa HLa pa qa ha) (b : JAt w0 w gb plan2 eb PLb HLb pb qb hb) (hW : Writes w w' qa ha)
    (nq : ∀ k, qa.ownBlock = some k → qb.ownBlock ≠ some k) (nh : ∀ k, ha.ownBlock = some k → hb.ownBlock ≠ some k) : JAt w0 w' gb plan2 eb PLb HLb pb qb hb := by
  have tq : ∀ k, qa.ownBlock = some k → ∃ cs, w.heap[k]? = some (.cells cs 50 (0, 0)) := fun k e => Kd.R_typed a.part k e
  have th : ∀ k, ha.ownBlock = some k → ∃ cs, w.heap[k]? = some (.cells cs 4 (0, 0)) := fun k e => Kd.R_typed a.hav k e
  have away : ∀ (k t : Nat) (cs : Array Value), w.heap[k]? = some (.cells cs t (0, 0)) → t ≠ 50 → t ≠ 4 → w'.heap[k]? = w.heap[k]? := fun k t cs hk h1 h2 =>
    hW.2 k (blk_lt hk) (fun e => by obtain ⟨ds, hd⟩ := tq k e; rw [hk] at hd; injection hd with hd; injection hd with _ hd; exact h1 hd) (fun e => by obtain ⟨ds, hd⟩ := th k e; rw [hk] at hd; injection hd with hd; injection hd with _ hd; exact h2 hd)
  refine ⟨(away _ _ _ b.blk (by decide) (by decide)).trans b.blk, b.ge, R32_other a.part a.hav hW b.plan_, ?_, ?_⟩
  · obtain ⟨h0, inner, ho, hr1, hr2⟩ := b.part
    have mv : ∀ (u : Value) (x : List Int) (ok : Nat → Prop), k64.R 22 w w0.heap.size ok u x → k64.R 22 w' w0.heap.size ok u x := fun u x ok hu =>
      Kd.R_reok rfl (Kd.R_move (Kd.R_tight rfl hu) (fun k hk => by obtain ⟨cs, hc⟩ := Kd.R_typed hu k hk.symm; exact away k 22 cs hc (by decide) (by decide))) (fun k hk => hu.1 k hk)
    refine ⟨h0, inner, own_move ho (fun k hk => ?_), hr1, fun j p hj => ?_⟩
    · obtain ⟨cs, hc⟩ := own_typed ho k hk
      exact hW.2 k (blk_lt hc) (fun e => nq k e hk) (fun e => by obtain ⟨ds, hd⟩ := th k e; rw [hc] at hd; injection hd with hd; injection hd with _ hd; exact absurd hd (by decide))
    · obtain ⟨u, hu, hR⟩ := hr2 j p hj
      exact ⟨u, hu, mv u p _ hR⟩
  · exact Kd.R_reok rfl (Kd.R_move (Kd.R_tight rfl b.hav) (fun k hk => by
      obtain ⟨cs, hc⟩ := Kd.R_typed b.hav k hk.symm
      exact hW.2 k (blk_lt hc) (fun e => by obtain ⟨ds, hd⟩ := tq k e; rw [hc] at hd; injection hd with hd; injection hd with _ hd; exact absurd hd (by decide)) (fun e => nh k e hk.symm))) (fun _ _ => trivial)
/-- the law's state: the plan, and two joiners of it -/
structure OrdAt (w wr : World) (plan : List S32) (vp : Value) (ga gb : Nat) (PLa : List (List Int)) (HLa : List Bool) (PLb : List (List Int)) (HLb : List Bool) (pa qa ha pb qb hb : Value) : Prop where
  pl : k32.R 32 wr w.heap.size (fun _ => True) vp plan
  a : JAt w wr ga plan 1 PLa HLa pa qa ha
  b : JAt w wr gb plan 1 PLb HLb pb qb hb
  nq : ∀ k, qa.ownBlock = some k → qb.ownBlock ≠ some k
  nh : ∀ k, ha.ownBlock = some k → hb.ownBlock ≠ some k
  bel : Below w.heap.size w wr
theorem OrdAt.below {w wr w' : World} {plan : List S32} {vp : Value} {ga gb : Nat} {PLa : List (List Int)} {HLa : List Bool} {PLb : List (List Int)} {HLb : List Bool} {pa qa ha pb qb hb : Value} (h : OrdAt w wr plan vp ga gb PLa HLa PLb HLb pa qa ha pb qb hb) (hB : Below wr.heap.size wr w') : OrdAt w w' plan vp ga gb PLa HLa PLb HLb pa qa ha pb qb hb :=
  ⟨Kd.R_below h.pl hB, h.a.chg hB, h.b.chg hB, h.nq, h.nh, below_step h.bel hB⟩
theorem ord_addA {w wr : World} {plan : List S32} {vp : Value} {ga gb : Nat} {PLa : List (List Int)} {HLa : List Bool} {PLb : List (List Int)} {HLb : List Bool} {pa qa ha pb qb hb : Value} (h : OrdAt w wr plan vp ga gb PLa HLa PLb HLb pa qa ha pb qb hb) (i : Nat) (A : Option Addr) (c : Nat) (l : List Int) (hi : i < plan.length) (hPL : PLa.length = plan.length) (hHL : HLa.length = plan.length) (hf : HLa.getD i false = false)
    (hl : (l.length : Int) = (plan.getD i z32).f1) (hl2 : l.length ≤ 100000) (hC : k64.C wr A l.length l) (hpl : plan.length ≤ 100000) :
    Calls Try.prog 25 #[.pointer (some ⟨ga, 0, none⟩), .int .i64 i, .slice A l.length c] wr fun e w' => e = .returned (.int .i64 0) ∧ OrdAt w w' plan vp ga gb (PLa.set i l) (HLa.set i true) PLb HLb pa qa ha pb qb hb := by
  refine (add_ok w wr ga plan 1 PLa HLa pa qa ha i A c l h.a h.bel hi hPL hHL hf (by omega) hl2 hC hpl).mono ?_
  rintro e w1 ⟨rfl, hj, hb1, hs, hfr⟩
  have hW : Writes wr w1 qa ha := ⟨hs, fun k hk h1 h2 => hfr k hk h1 h2⟩
  exact ⟨rfl, R32_other h.a.part h.a.hav hW h.pl, hj, h.a.other h.b hW h.nq h.nh, h.nq, h.nh, hb1⟩
theorem ord_addB {w wr : World} {plan : List S32} {vp : Value} {ga gb : Nat} {PLa : List (List Int)} {HLa : List Bool} {PLb : List (List Int)} {HLb : List Bool} {pa qa ha pb qb hb : Value} (h : OrdAt w wr plan vp ga gb PLa HLa PLb HLb pa qa ha pb qb hb) (i : Nat) (A : Option Addr) (c : Nat) (l : List Int) (hi : i < plan.length) (hPL : PLb.length = plan.length) (hHL : HLb.length = plan.length) (hf : HLb.getD i false = false)
    (hl : (l.length : Int) = (plan.getD i z32).f1) (hl2 : l.length ≤ 100000) (hC : k64.C wr A l.length l) (hpl : plan.length ≤ 100000) :
    Calls Try.prog 25 #[.pointer (some ⟨gb, 0, none⟩), .int .i64 i, .slice A l.length c] wr fun e w' => e = .returned (.int .i64 0) ∧ OrdAt w w' plan vp ga gb PLa HLa (PLb.set i l) (HLb.set i true) pa qa ha pb qb hb := by
  refine (add_ok w wr gb plan 1 PLb HLb pb qb hb i A c l h.b h.bel hi hPL hHL hf (by omega) hl2 hC hpl).mono ?_
  rintro e w1 ⟨rfl, hj, hb1, hs, hfr⟩
  have hW : Writes wr w1 qb hb := ⟨hs, fun k hk h1 h2 => hfr k hk h1 h2⟩
  exact ⟨rfl, R32_other h.b.part h.b.hav hW h.pl, h.b.other h.a hW (fun k e e2 => h.nq k e2 e) (fun k e e2 => h.nh k e2 e), hj, h.nq, h.nh, hb1⟩
end Go.Proofs.Ytojimoebbinhdaa.P
