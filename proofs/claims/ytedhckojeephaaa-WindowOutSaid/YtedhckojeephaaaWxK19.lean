/- WindowOnce: the state of what is sent, what is held, and what was told. -/
import Derived.BigQuiet
import Derived.Deep.AppendLies
import Derived.Deep.DrawnRows
import Derived.Deep.RegionHeld3
import Derived.Deep.RegionLaw
import Derived.IntWalk
import Derived.Lib.Hide
import Derived.Outline
import Derived.Test.YtedhckojeephaaaWxPx0
import Derived.WalkSpells
import Derived.Test.YtedhckojeephaaaWxK4
import Derived.Test.YtedhckojeephaaaWxK11
import Derived.Test.YtedhckojeephaaaWxK15
import Derived.Test.YtedhckojeephaaaWxK18
namespace Go.Proofs.Ytedhckojeephaaa.P
open Go.RowKit Go.Maps Go.Proofs.YtedhckojeephaaaW.PrintWords Go.Proofs.YtedhckojeephaaaW.PrintLast Go.Proofs.YtedhckojeephaaaW.PrintMore
set_option linter.unusedVariables false
set_option linter.unusedSimpArgs false
attribute [local go_sem ↓] Go.wp_at_zero Go.wp_at_succ

/-! ### window_moves: words -/
theorem RS.chg {w0 w w' : World} {v : Value} {L : List ByteArray} {S : Nat → Prop} (h : RS w0 w v L) (hc : Chg S w w') (hS : ∀ k, v.ownBlock = some k → ¬ S k) : RS w0 w' v L :=
  h.move (fun k hk => hc.block k (Kd.R_lt h k hk) (hS k hk))
theorem OutAt.chg {w0 w w' : World} {g : Nat} {base : Int} {v : Value} {L : List ByteArray} {S : Nat → Prop} (h : OutAt w0 w g base v L) (hc : Chg S w w') (hg : ¬ S g) (hS : ∀ k, v.ownBlock = some k → ¬ S k) : OutAt w0 w' g base v L :=
  ⟨(hc.block g (blk_lt h.blk) hg).trans h.blk, h.ge, h.row.chg hc hS⟩
theorem InAt.chg {w0 w w' : World} {g n : Nat} {base : Int} {mv : Value} {M : Int → Option ByteArray} {S : Nat → Prop} (h : InAt w0 w g n base mv M) (hc : Chg S w w') (hg : ¬ S g) (hS : ∀ k, mv = .map (some k) → ¬ S k) : InAt w0 w' g n base mv M :=
  ⟨(hc.block g (blk_lt h.blk) hg).trans h.blk, h.ge, h.held.imp_right (fun ⟨b, D, m, h1, h2, h3, h4, h5⟩ => ⟨b, D, m, h1, h2, h3, (by obtain ⟨es, clock, q1, q2⟩ := h4; exact ⟨es, clock, (hc.block b (blk_lt q1) (hS b h1)).trans q1, q2⟩), h5⟩)⟩
theorem Chg.of_below {w w' : World} (h : Below w.heap.size w w') : Chg (fun _ => False) w w' := ⟨h.os, h.tape, h.output, h.size, fun k hk _ => h.block k hk⟩
theorem Chg.of_grown {w w' : World} {row : Option Nat} (h : w.grownBy w' row) : Chg (fun k => row = some k) w w' := ⟨h.os, h.tape, h.output, h.size, fun k hk hn => h.block k hk (fun e => hn e.symm)⟩
/-- the law's state: bodies up to n are sent, up to bo known to have come; up to bx told; got holds those up to gl -/
structure OnceAt (w0 w : World) (g1 g2 : Nat) (vg : Value) (B : List ByteArray) (q bo bx n gl : Nat) (vo mv : Value) (M : Int → Option ByteArray) : Prop where
  out : OutAt w0 w g1 bo vo ((B.take n).drop bo)
  inn : InAt w0 w g2 q bx mv M
  got : RS w0 w vg (B.take gl)
  ne : ∀ k, vo.ownBlock = some k → vg.ownBlock ≠ some k
  bel : Below w0.heap.size w0 w
  le1 : bo ≤ bx
  le2 : bx ≤ n
  le3 : n ≤ B.length
  le4 : n ≤ bo + 16
  has : ∀ k t, M k = some t → (bx : Int) < k ∧ k ≤ n ∧ t = B.getD (k - 1).toNat ByteArray.empty
theorem OnceAt.pend {w0 w : World} {g1 g2 : Nat} {vg : Value} {B : List ByteArray} {q bo bx n gl : Nat} {vo mv : Value} {M : Int → Option ByteArray} (h : OnceAt w0 w g1 g2 vg B q bo bx n gl vo mv M) : ((B.take n).drop bo).length = n - bo := by
  rw [List.length_drop, List.length_take, Nat.min_eq_left h.le3]
theorem OnceAt.g_ne {w0 w : World} {g1 g2 : Nat} {vg : Value} {B : List ByteArray} {q bo bx n gl : Nat} {vo mv : Value} {M : Int → Option ByteArray} (h : OnceAt w0 w g1 g2 vg B q bo bx n gl vo mv M) : g1 ≠ g2 := fun e => by
  have h1 := h.out.blk
  rw [e, h.inn.blk] at h1
  injection h1 with h1
  injection h1 with _ h1
  exact absurd h1 (by decide)
theorem OnceAt.vo_g2 {w0 w : World} {g1 g2 : Nat} {vg : Value} {B : List ByteArray} {q bo bx n gl : Nat} {vo mv : Value} {M : Int → Option ByteArray} (h : OnceAt w0 w g1 g2 vg B q bo bx n gl vo mv M) : vo.ownBlock ≠ some g2 := fun e => Kd.R_ne h.out.row h.inn.blk (by decide) e.symm
theorem OnceAt.vg_g2 {w0 w : World} {g1 g2 : Nat} {vg : Value} {B : List ByteArray} {q bo bx n gl : Nat} {vo mv : Value} {M : Int → Option ByteArray} (h : OnceAt w0 w g1 g2 vg B q bo bx n gl vo mv M) : vg.ownBlock ≠ some g2 := fun e => Kd.R_ne h.got h.inn.blk (by decide) e.symm
theorem OnceAt.vo_g1 {w0 w : World} {g1 g2 : Nat} {vg : Value} {B : List ByteArray} {q bo bx n gl : Nat} {vo mv : Value} {M : Int → Option ByteArray} (h : OnceAt w0 w g1 g2 vg B q bo bx n gl vo mv M) : vo.ownBlock ≠ some g1 := fun e => Kd.R_ne h.out.row h.out.blk (by decide) e.symm
theorem OnceAt.vg_g1 {w0 w : World} {g1 g2 : Nat} {vg : Value} {B : List ByteArray} {q bo bx n gl : Nat} {vo mv : Value} {M : Int → Option ByteArray} (h : OnceAt w0 w g1 g2 vg B q bo bx n gl vo mv M) : vg.ownBlock ≠ some g1 := fun e => Kd.R_ne h.got h.out.blk (by decide) e.symm
/-- a row's own block holds cells -/
theorem RS.cells {w0 w : World} {v : Value} {L : List ByteArray} (h : RS w0 w v L) {k : Nat} (hk : v.ownBlock = some k) : ∃ cs, w.heap[k]? = some (.cells cs 9 (0, 0)) := by
  obtain ⟨inner, ho⟩ := Kd.R_own h
  exact own_typed ho k hk
theorem OnceAt.mv_ne {w0 w : World} {g1 g2 : Nat} {vg : Value} {B : List ByteArray} {q bo bx n gl : Nat} {vo mv : Value} {M : Int → Option ByteArray} (h : OnceAt w0 w g1 g2 vg B q bo bx n gl vo mv M) : mv ≠ .map (some g1) ∧ (∀ k, vo.ownBlock = some k → mv ≠ .map (some k)) ∧ ∀ k, vg.ownBlock = some k → mv ≠ .map (some k) :=
  ⟨h.inn.far h.out.blk, fun k hk => (h.out.row.cells hk).elim (fun _ hc => h.inn.far hc), fun k hk => (h.got.cells hk).elim (fun _ hc => h.inn.far hc)⟩
/-- a call that touches nothing of it -/
theorem OnceAt.below {w0 w w' : World} {g1 g2 : Nat} {vg : Value} {B : List ByteArray} {q bo bx n gl : Nat} {vo mv : Value} {M : Int → Option ByteArray} (h : OnceAt w0 w g1 g2 vg B q bo bx n gl vo mv M) (hb : Below w.heap.size w w') : OnceAt w0 w' g1 g2 vg B q bo bx n gl vo mv M :=
  have hc := Chg.of_below hb
  ⟨h.out.chg hc (fun e => e) (fun _ _ e => e), h.inn.chg hc (fun e => e) (fun _ _ e => e), h.got.chg hc (fun _ _ e => e), h.ne, below_step h.bel hb, h.le1, h.le2, h.le3, h.le4, h.has⟩
end Go.Proofs.Ytedhckojeephaaa.P
