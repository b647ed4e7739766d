/- The pool: what is put, share by share (plain words). -/
import Derived.Test.YtieaealkdjnolaaPaPl7
namespace Go.Proofs.Ytieaealkdjnolaa.P
open Go.RowKit Go.Maps Go.Proofs.YtieaealkdjnolaaW.PrintWords Go.Proofs.YtieaealkdjnolaaW.PrintLast Go.Proofs.YtieaealkdjnolaaW.PrintMore
set_option linter.unusedVariables false
set_option linter.unusedSimpArgs false
section
variable {ops : Array Oper} {o : Oper} {a : Act} {w : World} {K : Act → World → Prop} {Q : Exit → Act → World → Prop} {E : Prop}
end
/-- behind j of the shares -/
structure Puts (w0 w1 wr : World) (g : Nat) (c : S26) (b1 b : Bn) (l : List S32) (j : Nat) : Prop where
  at_ : BinAt w0 wr g c b
  eqs : b.r = b1.r ∧ b.cap = b1.cap ∧ b.p = b1.p ∧ b.mb = b1.mb ∧ b.n = b1.n + j ∧ b.total = b1.total + j ∧ b.mark = b1.mark ∧ b.next = b1.next ∧ Maps.size b.D = Maps.size b1.D + j
  old : ∀ i, i < b1.total → b.V i = b1.V i ∧ b.X i = b1.X i
  new : ∀ k : Nat, k < j → b.X (b1.total + k) = rd_T32 l (k : Int) ∧ (b.V (b1.total + k)).isSome = true
  chg : Chg (fun k => k = b1.p ∨ k = b1.mb) w1 wr
theorem Puts.begin {w0 w1 : World} {g : Nat} {c : S26} {b1 : Bn} {l : List S32} (h : BinAt w0 w1 g c b1) : Puts w0 w1 w1 g c b1 b1 l 0 :=
  ⟨h, ⟨rfl, rfl, rfl, rfl, rfl, by omega, rfl, rfl, rfl⟩, fun _ _ => ⟨rfl, rfl⟩, fun k hk => by omega, Chg.refl _ _⟩
theorem Puts.below {w0 w1 wr w' : World} {g : Nat} {c : S26} {b1 b : Bn} {l : List S32} {j : Nat} (h : Puts w0 w1 wr g c b1 b l j) (hb : Below wr.heap.size wr w') : Puts w0 w1 w' g c b1 b l j :=
  ⟨h.at_.below hb, h.eqs, h.old, h.new, h.chg.trans (Chg.of_below hb _)⟩
theorem R64_grown {w w' : World} {base b : Nat} {v : Value} {l : List Int} {n : Nat} {D : DV} (h : k64.R 34 w base (fun _ => True) v l) (ho : OwnV w b n D) (hg : w.grownBy w' (some b)) : k64.R 34 w' base (fun _ => True) v l :=
  R64_chg h (S := fun k => k = b) ((Chg.refl _ w).grown hg (fun k e => .inl (by injection e with e; exact e.symm))) (fun k cs hk hc => own_neV ho hc hk)
theorem R64_set {w : World} {base p j t : Nat} {v u : Value} {l : List Int} {cs : Array Value} (h : k64.R 34 w base (fun _ => True) v l) (hp : w.heap[p]? = some (.cells cs t (0, 0))) (ht : t ≠ 34) : k64.R 34 (w.setCell ⟨p, j, none⟩ u) base (fun _ => True) v l :=
  R64_chg h (S := fun k => k = p) ((Chg.refl _ w).set rfl) (fun k cs' hk hc => by
    rw [hk, hp] at hc
    injection hc with hc; injection hc with h1 h2 h3
    exact ht h2)
/-- one share more -/
theorem Puts.step {w0 w1 wr wC w2 : World} {g : Nat} {c : S26} {b1 b : Bn} {l : List S32} {j : Nat} {v0 v1 v2 : Value} (h : Puts w0 w1 wr g c b1 b l j) (hb : Below wr.heap.size wr wC) (hw0 : w0.heap.size ≤ w1.heap.size) {base : Nat} (hbase : w1.heap.size ≤ base)
    (h0 : k64.R 34 wC base (fun _ => True) v0 (rd_T32 l (j : Int)).f0) (h1 : k64.R 34 wC base (fun _ => True) v1 (rd_T32 l (j : Int)).f1) (h2 : k64.R 34 wC base (fun _ => True) v2 (rd_T32 l (j : Int)).f2)
    (hO : OwnV w2 b.mb (b.n + 1) (b.D.put (.int .i64 b.total) (.held (.agg #[v0, v1, v2])))) (hG : wC.grownBy w2 (some b.mb)) (hlim : b.total + 1 ≤ 100000 ∧ b.n + 1 ≤ 100000) :
    Puts w0 w1 (w2.setCell ⟨b.p, 5, none⟩ (.int .i64 (b.total + 1))) g c b1 { b with n := b.n + 1, D := b.D.put (.int .i64 b.total) (.held (.agg #[v0, v1, v2])), V := putV b.V b.total (.agg #[v0, v1, v2]), X := fun i => if i = b.total then rd_T32 l (j : Int) else b.X i, total := b.total + 1 } l (j + 1) := by
  have hC := h.at_.below hb
  have hbw : w0.heap.size ≤ base := Nat.le_trans hw0 hbase
  obtain ⟨cs, hr, hr0⟩ := hC.row
  have hbr : ∀ {k t : Nat} {cs : Array Value}, wC.heap[k]? = some (.cells cs t (0, 0)) → w2.heap[k]? = some (.cells cs t (0, 0)) := fun hk => blk_grown hk hG (fun e => own_neV hC.own hk (by injection e))
  have hp2 := hbr hC.blk
  have hg2 := hbr hC.pool
  have hr2 := hbr hr
  obtain ⟨e1, e2, e3, e4, e5, e6, e7, e8, e9⟩ := h.eqs
  have hnone : b.V b.total = none := hC.top _ (.inr (Int.le_refl _))
  have hel : ∀ {x : S32} {v : Value}, ElemAt w0 wC v x → ElemAt w0 (w2.setCell ⟨b.p, 5, none⟩ (.int .i64 (b.total + 1))) v x := by
    rintro x v ⟨u0, u1, u2, e, q0, q1, q2⟩
    exact ⟨u0, u1, u2, e, R64_set (R64_grown q0 hC.own hG) hp2 (by decide), R64_set (R64_grown q1 hC.own hG) hp2 (by decide), R64_set (R64_grown q2 hC.own hG) hp2 (by decide)⟩
  refine ⟨⟨blk_far hg2 (blk_ne hg2 hp2 (by decide)) _, ⟨cs, blk_far hr2 (blk_ne hr2 hp2 (by decide)) _, hr0⟩, hC.cap, blk_put hp2 5 _ rfl, hO.setCell (fun e => own_neV hO hp2 e.symm) _, hC.has.put hC.ismap b.total _, IsMap.put hC.ismap _ _, hC.ge, ?_, ?_, ?_⟩, ⟨e1, e2, e3, e4, ?_, ?_, e7, e8, ?_⟩, ?_, ?_, ?_⟩
  · intro i v hv
    show ElemAt w0 _ v (if i = b.total then _ else b.X i)
    replace hv : putV b.V b.total (.agg #[v0, v1, v2]) i = some v := hv
    unfold putV at hv
    by_cases e : i = b.total
    · rw [if_pos e] at hv
      rw [if_pos e]
      obtain rfl := Option.some.inj hv
      exact hel ⟨v0, v1, v2, rfl, Kd.R_lower h0 hbw, Kd.R_lower h1 hbw, Kd.R_lower h2 hbw⟩
    · rw [if_neg e] at hv
      rw [if_neg e]
      exact hel (hC.elem i v hv)
  · intro i hi
    replace hi : i < 0 ∨ b.total + 1 ≤ i := hi
    have hbd := hC.bd
    show putV b.V b.total (.agg #[v0, v1, v2]) i = none
    unfold putV
    rw [if_neg (by omega)]
    exact hC.top i (by omega)
  · obtain ⟨k1, k2, k3, k4, k5, k6, k7⟩ := hC.bd
    exact ⟨by show 0 ≤ b.total + 1; omega, by show b.total + 1 ≤ 100000; omega, k3, k4, k5, by show b.next ≤ b.total + 1; omega, by show b.n + 1 ≤ 100000; omega⟩
  · show b.n + 1 = b1.n + (j + 1); omega
  · show b.total + 1 = b1.total + ((j + 1 : Nat) : Int); omega
  · show Maps.size (b.D.put _ _) = Maps.size b1.D + (j + 1)
    rw [size_put (hC.own.tidy lawI), (hC.has b.total).1, hnone]
    show (if false = true then _ else Maps.size b.D + 1) = _
    rw [if_neg (by decide)]; omega
  · intro i hi
    have hne : i ≠ b.total := by omega
    show putV b.V b.total _ i = _ ∧ (if i = b.total then _ else b.X i) = _
    unfold putV
    rw [if_neg hne, if_neg hne]
    exact h.old i hi
  · intro k hk
    show (if b1.total + (k : Int) = b.total then _ else b.X (b1.total + k)) = _ ∧ (putV b.V b.total _ (b1.total + k)).isSome = true
    unfold putV
    by_cases e : b1.total + (k : Int) = b.total
    · rw [if_pos e, if_pos e]
      obtain rfl : k = j := by omega
      exact ⟨rfl, rfl⟩
    · rw [if_neg e, if_neg e]
      exact h.new k (by omega)
  · have hc1 : Chg (fun k => k = b1.p ∨ k = b1.mb) w1 wC := h.chg.trans (Chg.of_below hb _)
    exact (hc1.grown hG (fun k e => .inl (.inr (by injection e with e; rw [← e]; exact e4)))).set (.inl e3)
end Go.Proofs.Ytieaealkdjnolaa.P
