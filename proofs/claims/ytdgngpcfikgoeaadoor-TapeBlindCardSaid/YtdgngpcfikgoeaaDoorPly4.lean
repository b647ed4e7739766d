/- A call of both tapes: what `does` keeps. -/
import Derived.Test.YtdgngpcfikgoeaaDoorPly3
import Derived.Deep.RegionWith
namespace Go.Proofs.YtdgngpcfikgoeaaDoor.P
open Go.RowKit Go.Extern.Stop Go.Stop Go.Extern Go.Proofs.YtdgngpcfikgoeaaDoorW.PrintWords Go.Proofs.YtdgngpcfikgoeaaDoorW.PrintLast Go.Proofs.YtdgngpcfikgoeaaDoorW.PrintMore
set_option linter.unusedVariables false
set_option linter.unusedSimpArgs false
attribute [local go_sem ↓] Go.wp_at_zero Go.wp_at_succ

/-- a list that is only read, and lies below both tapes -/
structure Rd (W : World) (g gr : Nat) (A : Option Addr) (l : List Int) : Prop where
  ex : ∃ w0 : World, Kd.C (Kd.int .u64) w0 A l.length l ∧ Below w0.heap.size w0 W ∧ w0.heap.size ≤ g ∧ w0.heap.size ≤ gr
theorem Rd.C {W : World} {g gr : Nat} {A : Option Addr} {l : List Int} (h : Rd W g gr A l) : Kd.C (Kd.int .u64) W A l.length l := by
  obtain ⟨w0, hC, hb, -⟩ := h.ex
  exact Kd.C_below hC hb
theorem Rd.below {W W1 : World} {g gr : Nat} {A : Option Addr} {l : List Int} (h : Rd W g gr A l) (hb : Below W.heap.size W W1) : Rd W1 g gr A l := by
  obtain ⟨w0, hC, hb0, h1, h2⟩ := h.ex
  exact ⟨w0, hC, below_step hb0 hb, h1, h2⟩
theorem Rd.chg {W W1 : World} {g gr : Nat} {A : Option Addr} {l : List Int} {S : Nat → Prop} (h : Rd W g gr A l) (hc : Chg S W W1) (hS : ∀ k, S k → g ≤ k ∨ gr ≤ k) : Rd W1 g gr A l := by
  obtain ⟨w0, hC, hb0, h1, h2⟩ := h.ex
  exact ⟨w0, hC, hc.below hb0 (fun k e => by rcases hS k e with q | q <;> omega), h1, h2⟩
theorem Rd.far {W : World} {g gr : Nat} {A : Option Addr} {l : List Int} (h : Rd W g gr A l) {k : Nat} (hk : g ≤ k ∨ gr ≤ k) (j : Nat) (v : Value) : Rd (W.setCell ⟨k, j, none⟩ v) g gr A l := by
  obtain ⟨w0, hC, hb0, h1, h2⟩ := h.ex
  exact ⟨w0, hC, below_set hb0 (by rcases hk with q | q <;> show w0.heap.size ≤ k <;> omega), h1, h2⟩
structure Doing (w W : World) (B g gr : Nat) (v : Value) (l : List Int) (A : Option Addr) (c : Nat) (k N b : Int) (at_ nx ar : Nat) : Prop where
  kb : W.heap[w.heap.size]? = some (.cells #[.int .i64 k, .int .i64 N, .int .i64 b] 58 (0, 0))
  nb : W.heap[w.heap.size + 1]? = some (.cells #[.slice A l.length c, .int .i64 (nx : Int)] 54 (0, 0))
  rb : W.heap[gr]? = some (.cells #[.slice A l.length c, .int .i64 (ar : Int)] 54 (0, 0))
  t : TAt W B g v l at_
  rl : Rd W g gr A l
  chg : Chg (fun k => k = g ∨ k = gr) w W
  door : Door W
  g0 : 0 < g
  gr0 : 0 < gr
  gl : g < w.heap.size
  grl : gr < w.heap.size
section
variable {w W W1 : World} {B g gr : Nat} {v : Value} {l : List Int} {A : Option Addr} {c : Nat} {k N b : Int} {at_ nx ar : Nat}
theorem Doing.ne (h : Doing w W B g gr v l A c k N b at_ nx ar) : gr ≠ g := fun e => by
  have h1 := h.rb
  rw [e, h.t.blk] at h1
  injection h1 with h1
  injection h1 with _ h1
  exact absurd h1 (by decide)
theorem Doing.below (h : Doing w W B g gr v l A c k N b at_ nx ar) (hb : Below W.heap.size W W1) : Doing w W1 B g gr v l A c k N b at_ nx ar :=
  ⟨(hb.block _ (blk_lt h.kb)).trans h.kb, (hb.block _ (blk_lt h.nb)).trans h.nb, (hb.block _ (blk_lt h.rb)).trans h.rb, h.t.below hb, h.rl.below hb, h.chg.trans (Chg.of_below hb _), h.door.below hb h.door.lt, h.g0, h.gr0, h.gl, h.grl⟩
theorem Doing.drew (h : Doing w W B g gr v l A c k N b at_ nx ar) : Doing w W.drew B g gr v l A c k N b at_ nx ar := h.below (below_drew (Below.refl _ _))
theorem Doing.tape (h : Doing w W B g gr v l A c k N b at_ nx ar) {a' : Nat} (ht : TAt W1 B g v l a') (hc : Chg (fun k => k = g) W W1) : Doing w W1 B g gr v l A c k N b a' nx ar :=
  ⟨(hc.block _ (blk_lt h.kb) (fun e => by have := h.gl; omega)).trans h.kb, (hc.block _ (blk_lt h.nb) (fun e => by have := h.gl; omega)).trans h.nb, (hc.block _ (blk_lt h.rb) h.ne).trans h.rb, ht, h.rl.chg hc (fun k e => .inl (by rw [e]; exact Nat.le_refl _)), h.chg.trans ⟨hc.os, hc.tape, hc.output, hc.size, fun k hk hs => hc.block k hk (fun e => hs (.inl e))⟩, h.door.chg hc (fun e => by have := h.g0; omega), h.g0, h.gr0, h.gl, h.grl⟩
theorem Doing.put (h : Doing w W B g gr v l A c k N b at_ nx ar) (y : Nat) : Doing w ((W.setCell ⟨w.heap.size + 1, 0, none⟩ (.slice A l.length c)).setCell ⟨w.heap.size + 1, 1, none⟩ (.int .i64 (y : Int))) B g gr v l A c k N b at_ y ar := by
  have n1 : gr ≠ w.heap.size + 1 := by have := h.grl; omega
  have n2 : g ≠ w.heap.size + 1 := by have := h.gl; omega
  have n3 : v.ownBlock ≠ some (w.heap.size + 1) := fun e => h.t.row.ne h.nb (by decide) e
  have n4 : g ≤ w.heap.size + 1 ∨ gr ≤ w.heap.size + 1 := by have := h.gl; omega
  refine ⟨blk_far (blk_far h.kb (by simp) _) (by simp) _, by simpa using blk_set (blk_set h.nb 0 (.slice A l.length c)) 1 (.int .i64 (y : Int)), blk_far (blk_far h.rb n1 _) n1 _, (h.t.far n2 n3).far n2 n3, (h.rl.far n4 _ _).far n4 _ _, (h.chg.far (by omega) _ _).far (by omega) _ _, ?_, h.g0, h.gr0, h.gl, h.grl⟩
  exact ⟨(cell_of_heap (Below.heap_setCell _ _ _ _ (Nat.succ_ne_zero _).symm)).trans ((cell_of_heap (Below.heap_setCell _ _ _ _ (Nat.succ_ne_zero _).symm)).trans h.door.cell)⟩
theorem Doing.keep (h : Doing w W B g gr v l A c k N b at_ nx ar) (y : Nat) : Doing w ((W.setCell ⟨gr, 0, none⟩ (.slice A l.length c)).setCell ⟨gr, 1, none⟩ (.int .i64 (y : Int))) B g gr v l A c k N b at_ nx y := by
  have n1 : w.heap.size ≠ gr := by have := h.grl; omega
  have n5 : w.heap.size + 1 ≠ gr := by have := h.grl; omega
  have n2 : g ≠ gr := fun e => h.ne e.symm
  have n3 : v.ownBlock ≠ some gr := fun e => h.t.row.ne h.rb (by decide) e
  have n4 : g ≤ gr ∨ gr ≤ gr := .inr (Nat.le_refl _)
  have n0 : (0 : Nat) ≠ gr := by have := h.gr0; omega
  have hc : Chg (fun k => k = g ∨ k = gr) W ((W.setCell ⟨gr, 0, none⟩ (.slice A l.length c)).setCell ⟨gr, 1, none⟩ (.int .i64 (y : Int))) :=
    ⟨rfl, rfl, rfl, by simp, fun q hq hs => (Below.heap_setCell _ ⟨gr, 1, none⟩ _ q (fun e => hs (.inr (by simpa using e)))).trans (Below.heap_setCell _ ⟨gr, 0, none⟩ _ q (fun e => hs (.inr (by simpa using e))))⟩
  refine ⟨blk_far (blk_far h.kb n1 _) n1 _, blk_far (blk_far h.nb n5 _) n5 _, by simpa using blk_set (blk_set h.rb 0 (.slice A l.length c)) 1 (.int .i64 (y : Int)), (h.t.far n2 n3).far n2 n3, (h.rl.far n4 _ _).far n4 _ _, h.chg.trans hc, ?_, h.g0, h.gr0, h.gl, h.grl⟩
  exact ⟨(cell_of_heap (Below.heap_setCell _ _ _ _ n0)).trans ((cell_of_heap (Below.heap_setCell _ _ _ _ n0)).trans h.door.cell)⟩
end
/-- what a caller of `does` holds -/
structure Both (W : World) (B g gr : Nat) (v : Value) (l : List Int) (A : Option Addr) (c a : Nat) : Prop where
  t : TAt W B g v l a
  rb : W.heap[gr]? = some (.cells #[.slice A l.length c, .int .i64 (a : Int)] 54 (0, 0))
  rl : Rd W g gr A l
  door : Door W
  g0 : 0 < g
  gr0 : 0 < gr
theorem Both.gl {W : World} {B g gr : Nat} {v : Value} {l : List Int} {A : Option Addr} {c a : Nat} (h : Both W B g gr v l A c a) : g < W.heap.size := blk_lt h.t.blk
theorem doing (w : World) (B g gr : Nat) (v : Value) (l : List Int) (A : Option Addr) (c a : Nat) (k N b : Int) (h : Both w B g gr v l A c a) :
    Doing w ((w.alloc (.cells #[.int .i64 k, .int .i64 N, .int .i64 b] 58)).alloc (.cells #[.slice A l.length c, .int .i64 (a : Int)] 54)) B g gr v l A c k N b a a a := by
  have hb := below_alloc (below_alloc (Below.refl w.heap.size w) (.cells #[.int .i64 k, .int .i64 N, .int .i64 b] 58)) (.cells #[.slice A l.length c, .int .i64 (a : Int)] 54)
  exact ⟨heap_alloc2_old w _ _, heap_alloc2_new w _ _, (hb.block _ (blk_lt h.rb)).trans h.rb, h.t.below hb, h.rl.below hb, Chg.of_below hb _, h.door.below hb h.door.lt, h.g0, h.gr0, h.gl, blk_lt h.rb⟩
theorem Doing.both {w W : World} {B g gr : Nat} {v : Value} {l : List Int} {A : Option Addr} {c : Nat} {k N b : Int} {a nx : Nat} (h : Doing w W B g gr v l A c k N b a nx a) : Both W B g gr v l A c a := ⟨h.t, h.rb, h.rl, h.door, h.g0, h.gr0⟩
/-- what `does` answers -/
def Does (w : World) (B g gr : Nat) (v : Value) (l : List Int) (A : Option Addr) (c a' : Nat) (e : Ending) (w' : World) : Prop :=
  e = .returned (.bool true) ∧ Both w' B g gr v l A c a' ∧ Chg (fun k => k = g ∨ k = gr) w w'
theorem ErrW.put {W : World} {ev : Value} {E : Int} (h : ErrW W ev E) {q : Nat} {cs : Array Value} (hk : W.heap[q]? = some (.cells cs 54 (0, 0))) (x y : Value) : ErrW ((W.setCell ⟨q, 0, none⟩ x).setCell ⟨q, 1, none⟩ y) ev E :=
  h.chg (S := fun k => k = q) (w' := (W.setCell ⟨q, 0, none⟩ x).setCell ⟨q, 1, none⟩ y) ⟨rfl, rfl, rfl, by simp, fun k hk hs => (Below.heap_setCell _ ⟨q, 1, none⟩ _ k (fun e => hs (by simpa using e))).trans (Below.heap_setCell _ ⟨q, 0, none⟩ _ k (fun e => hs (by simpa using e)))⟩ (fun k cs' e h' => by
    subst e
    rw [hk] at h'
    injection h' with h'
    injection h' with _ h'
    exact absurd h' (by decide))
theorem RU.put2 {B : Nat} {W : World} {u : Value} {xs : List Int} (h : RU B W u xs) {q : Nat} {cs : Array Value} (hk : W.heap[q]? = some (.cells cs 54 (0, 0))) (x y : Value) : RU B ((W.setCell ⟨q, 0, none⟩ x).setCell ⟨q, 1, none⟩ y) u xs :=
  have n4 : u.ownBlock ≠ some q := fun e => h.ne hk (by decide) e
  (h.move (fun k hq => Below.heap_setCell _ _ _ _ (fun e => n4 (by rw [hq, e])))).move (fun k hq => Below.heap_setCell _ _ _ _ (fun e => n4 (by rw [hq, e])))
theorem left_wrap {l : List Int} {a : Nat} (ha : a ≤ l.length) (hl : l.length ≤ 1048576) : IntKind.i64.wrap ((l.length : Int) - (a : Int)) = (l.length : Int) - a := wrap_i64 (by omega) (by omega)
end Go.Proofs.YtdgngpcfikgoeaaDoor.P
