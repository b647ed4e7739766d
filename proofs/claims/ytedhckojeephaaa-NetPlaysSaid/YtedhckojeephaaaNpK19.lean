/- NetPlays: the program's network and the document's, side by side. -/
import Derived.Test.YtedhckojeephaaaNpPx0
import Derived.Test.YtedhckojeephaaaNpK0
import Derived.Test.YtedhckojeephaaaNpK1
import Derived.Test.YtedhckojeephaaaNpK2
import Derived.Test.YtedhckojeephaaaNpK5
import Derived.Test.YtedhckojeephaaaNpK8
import Derived.Test.YtedhckojeephaaaNpK9
import Derived.Test.YtedhckojeephaaaNpK10
import Derived.Test.YtedhckojeephaaaNpK18
namespace Go.Proofs.Ytedhckojeephaaa.P
open Go.RowKit Go.Proofs.YtedhckojeephaaaW.PrintWords Go.Proofs.YtedhckojeephaaaW.PrintLast Go.Proofs.YtedhckojeephaaaW.PrintMore
set_option linter.unusedVariables false
set_option linter.unusedSimpArgs false
attribute [local go_sem ↓] Go.wp_at_zero Go.wp_at_succ

/-! ### net_play: both -/
structure PlayAt (w0 w : World) (g gr : Nat) (u0 u1 x0 x1 : Value) (F : Bool → List ByteArray) : Prop where
  blk : w.heap[gr]? = some (.cells #[u0, u1] 77 (0, 0))
  ge : w0.heap.size ≤ gr
  r0 : RS w0 w x0 (F false)
  r1 : RS w0 w x1 (F true)
  net : NetIs (okS gr x0 x1) w0 w g F
  ne : g ≠ gr
  bel : Below w0.heap.size w0 w
/-- both stand alike -/
def PlayIs (w0 w : World) (g gr : Nat) (F : Bool → List ByteArray) : Prop := ∃ u0 u1, PlayAt w0 w g gr u0 u1 u0 u1 F
theorem PlayAt.below {w0 w w1 : World} {g gr : Nat} {u0 u1 x0 x1 : Value} {F : Bool → List ByteArray} (h : PlayAt w0 w g gr u0 u1 x0 x1 F) (hb : Below w.heap.size w w1) : PlayAt w0 w1 g gr u0 u1 x0 x1 F :=
  ⟨blk_below h.blk hb, h.ge, Kd.R_below h.r0 hb, Kd.R_below h.r1 hb, h.net.below hb, h.ne, below_step h.bel hb⟩
/-- a block that holds no text is written: the network stays -/
theorem NetIs.set {ok : Nat → Prop} {w0 w : World} {g k t : Nat} {F : Bool → List ByteArray} {cs : Array Value} (h : NetIs ok w0 w g F) (hk : w.heap[k]? = some (.cells cs t (0, 0))) (ht : 9 ≠ t) (hg : k ≠ g) (j : Nat) (y : Value) : NetIs ok w0 (w.setCell ⟨k, j, none⟩ y) g F := by
  obtain ⟨va, vb, hv⟩ := h
  have na : ∀ q, va.ownBlock = some q → q ≠ k := fun q hq e => Kd.R_ne hv.ra hk ht (by rw [hq, e])
  have nb : ∀ q, vb.ownBlock = some q → q ≠ k := fun q hq e => Kd.R_ne hv.rb hk ht (by rw [hq, e])
  exact ⟨va, vb, (Below.heap_setCell _ _ _ _ (fun e => hg e.symm)).trans hv.blk, hv.ge, hv.ra.move (fun q hq => Below.heap_setCell _ _ _ _ (na q hq)), hv.rb.move (fun q hq => Below.heap_setCell _ _ _ _ (nb q hq)), hv.ne, hv.oka, hv.okb⟩
theorem PlayAt.far {w0 w : World} {g gr k : Nat} {u0 u1 x0 x1 : Value} {F : Bool → List ByteArray} {cs : Array Value} (h : PlayAt w0 w g gr u0 u1 x0 x1 F) (hk : w.heap[k]? = some (.cells cs 77 (0, 0))) (hg : k ≠ g) (hr : k ≠ gr) (hge : w0.heap.size ≤ k) (j : Nat) (y : Value) : PlayAt w0 (w.setCell ⟨k, j, none⟩ y) g gr u0 u1 x0 x1 F :=
  ⟨(Below.heap_setCell _ _ _ _ (fun e => hr e.symm)).trans h.blk, h.ge, Kd.R_set h.r0 hk (by decide) j y, Kd.R_set h.r1 hk (by decide) j y, h.net.set hk (by decide) hg j y, h.ne, below_set h.bel hge⟩
theorem PlayAt.put {w0 w : World} {g gr : Nat} {u0 u1 x0 x1 : Value} {F : Bool → List ByteArray} (h : PlayAt w0 w g gr u0 u1 x0 x1 F) : PlayIs w0 ((w.setCell ⟨gr, 0, none⟩ x0).setCell ⟨gr, 1, none⟩ x1) g gr F := by
  have h1 := h.blk
  have h2 := blk_set h1 0 x0
  have hg : gr ≠ g := fun e => h.ne e.symm
  exact ⟨x0, x1, by simpa using blk_set h2 1 x1, h.ge, Kd.R_set (Kd.R_set h.r0 h1 (by decide) 0 x0) h2 (by decide) 1 x1, Kd.R_set (Kd.R_set h.r1 h1 (by decide) 0 x0) h2 (by decide) 1 x1, (h.net.set h1 (by decide) hg 0 x0).set h2 (by decide) hg 1 x1, h.ne, below_set (below_set h.bel h.ge) h.ge⟩
/-- what a call on the network may write, if it is called behind w -/
def okP (w : World) (gr : Nat) (u0 u1 : Value) : Nat → Prop := fun k => okS gr u0 u1 k ∧ k < w.heap.size
theorem PlayAt.ask {w0 w W : World} {g gr : Nat} {u0 u1 : Value} {F : Bool → List ByteArray} (h : PlayAt w0 w g gr u0 u1 u0 u1 F) (hb : Below w.heap.size w W) : NetIs (okP w gr u0 u1) w0 W g F := by
  obtain ⟨va, vb, hv⟩ := h.net
  have hv' := hv.below hb
  exact ⟨va, vb, hv'.blk, hv'.ge, hv'.ra, hv'.rb, hv'.ne, fun k e => ⟨hv.oka k e, hv.ra.lt k e⟩, fun k e => ⟨hv.okb k e, hv.rb.lt k e⟩⟩
/-- behind both calls -/
theorem PlayAt.step {w0 w W W2 : World} {g gr : Nat} {u0 u1 v x0 x1 : Value} {F : Bool → List ByteArray} {b : Bool} {L : List ByteArray} (h : PlayAt w0 w g gr u0 u1 u0 u1 F) (hb : Below w.heap.size w W) (hv : (v = pickS b u0 u1 ∧ L = F b) ∨ NewRow w W v L) (hq : putS b u0 u1 v = .agg #[x0, x1]) (hn : NetTo (okP w gr u0 u1) w0 W W2 g (upd F b L)) :
    PlayAt w0 W2 g gr u0 u1 x0 x1 (upd F b L) ∧ ∀ k, w.heap.size ≤ k → k < W.heap.size → W2.heap[k]? = W.heap[k]? := by
  obtain ⟨hN, hB2, hk⟩ := hn
  obtain ⟨va, vb, hva⟩ := h.net
  have lg : g < w.heap.size := blk_lt hva.blk
  have lr : gr < w.heap.size := blk_lt h.blk
  have l0 := h.r0.lt
  have l1 := h.r1.lt
  have hsz := hb.size
  have n0 : ∀ k, u0.ownBlock = some k → k ≠ g := fun k e e2 => Kd.R_ne h.r0 hva.blk (by decide) (by rw [e, e2])
  have n1 : ∀ k, u1.ownBlock = some k → k ≠ g := fun k e e2 => Kd.R_ne h.r1 hva.blk (by decide) (by rw [e, e2])
  have R0 : RS w0 W2 u0 (F false) := RS.move (Kd.R_below h.r0 hb) (fun k e => hk k (by have := l0 k e; omega) (n0 k e) (fun o => o.1.2.1 e))
  have R1 : RS w0 W2 u1 (F true) := RS.move (Kd.R_below h.r1 hb) (fun k e => hk k (by have := l1 k e; omega) (n1 k e) (fun o => o.1.2.2 e))
  have hblk : W2.heap[gr]? = some (.cells #[u0, u1] 77 (0, 0)) := (hk gr (by omega) (fun e => h.ne e.symm) (fun o => o.1.1 rfl)).trans (blk_below h.blk hb)
  have hnew : ∀ k, w.heap.size ≤ k → k < W.heap.size → W2.heap[k]? = W.heap[k]? := fun k h1 h2 => hk k h2 (by omega) (fun o => by have := o.2; omega)
  have hV : ((v = pickS b u0 u1 ∧ L = F b) ∨ (RS w0 W2 v L ∧ ∀ k, v.ownBlock = some k → w.heap.size ≤ k ∧ k < W.heap.size)) := by
    rcases hv with hv | hv
    · exact .inl hv
    · have hl : ∀ k, v.ownBlock = some k → w.heap.size ≤ k ∧ k < W.heap.size := fun k e => ⟨Kd.R_base hv k e, Kd.R_lt hv k e⟩
      have : RS w0 W v L := Kd.R_lower hv (show w0.heap.size ≤ w.heap.size from h.bel.size)
      exact .inr ⟨RS.move this (fun k e => hnew k (hl k e).1 (hl k e).2), hl⟩
  refine ⟨?_, hnew⟩
  have mk : ∀ y0 y1, RS w0 W2 y0 (upd F b L false) → RS w0 W2 y1 (upd F b L true) → (∀ k, okP w gr u0 u1 k → y0.ownBlock ≠ some k) → (∀ k, okP w gr u0 u1 k → y1.ownBlock ≠ some k) → (∀ k, y0.ownBlock = some k → k < W.heap.size) → (∀ k, y1.ownBlock = some k → k < W.heap.size) → PlayAt w0 W2 g gr u0 u1 y0 y1 (upd F b L) :=
    fun y0 y1 a0 a1 m0 m1 t0 t1 => ⟨hblk, h.ge, a0, a1, hN.mono (fun k hk => hk.elim (fun o => ⟨o.1.1, m0 k o, m1 k o⟩) (fun o => ⟨fun e => by omega, fun e => by have := t0 k e; omega, fun e => by have := t1 k e; omega⟩)), h.ne, hB2⟩
  cases b
  · have e1 : Value.agg #[v, u1] = .agg #[x0, x1] := hq
    simp only [Value.agg.injEq, Array.mk.injEq, List.cons.injEq, and_true] at e1
    obtain ⟨rfl, rfl⟩ := e1
    rcases hV with ⟨hv1, rfl⟩ | ⟨hr, hl⟩
    · rw [upd_self] at mk ⊢
      rw [show v = u0 from hv1]
      exact mk u0 u1 R0 R1 (fun k o => o.1.2.1) (fun k o => o.1.2.2) (fun k e => by have := l0 k e; omega) (fun k e => by have := l1 k e; omega)
    · exact mk v u1 (by rw [upd_at]; exact hr) (by rw [upd_ne F false true L (by decide)]; exact R1) (fun k o e => by have := (hl k e).1; have := o.2; omega) (fun k o => o.1.2.2) (fun k e => (hl k e).2) (fun k e => by have := l1 k e; omega)
  · have e1 : Value.agg #[u0, v] = .agg #[x0, x1] := hq
    simp only [Value.agg.injEq, Array.mk.injEq, List.cons.injEq, and_true] at e1
    obtain ⟨rfl, rfl⟩ := e1
    rcases hV with ⟨hv1, rfl⟩ | ⟨hr, hl⟩
    · rw [upd_self] at mk ⊢
      rw [show v = u1 from hv1]
      exact mk u0 u1 R0 R1 (fun k o => o.1.2.1) (fun k o => o.1.2.2) (fun k e => by have := l0 k e; omega) (fun k e => by have := l1 k e; omega)
    · exact mk u0 v (by rw [upd_ne F true false L (by decide)]; exact R0) (by rw [upd_at]; exact hr) (fun k o => o.1.2.1) (fun k o e => by have := (hl k e).1; have := o.2; omega) (fun k e => by have := l0 k e; omega) (fun k e => (hl k e).2)
theorem PlayAt.ref {w0 w : World} {g gr : Nat} {u0 u1 x0 x1 : Value} {F : Bool → List ByteArray} (h : PlayAt w0 w g gr u0 u1 x0 x1 F) : ∃ A0 A1 c0 c1, x0 = .slice A0 (F false).length c0 ∧ x1 = .slice A1 (F true).length c1 ∧ RefIs w A0 A1 c0 c1 F := by
  obtain ⟨A0, c0, e0, l0, k0⟩ := h.r0.form
  obtain ⟨A1, c1, e1, l1, k1⟩ := h.r1.form
  exact ⟨A0, A1, c0, c1, e0, e1, l0, l1, k0, k1⟩
end Go.Proofs.Ytedhckojeephaaa.P
