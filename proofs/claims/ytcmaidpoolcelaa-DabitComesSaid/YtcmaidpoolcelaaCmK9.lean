/- Four rows that grow beside each other: two of shares, two of numbers. -/
import Derived.BigQuiet
import Derived.Deep.DrawnRows
import Derived.Deep.RegionHeld3
import Derived.IntWalk
import Derived.Lib.Hide
import Derived.Test.YtcmaidpoolcelaaCmPx0
import Derived.Test.YtcmaidpoolcelaaCmSh
namespace Go.Proofs.Ytcmaidpoolcelaa.P
open Go.RowKit Go.Proofs.YtcmaidpoolcelaaW.PrintWords Go.Proofs.YtcmaidpoolcelaaW.PrintLast Go.Proofs.YtcmaidpoolcelaaW.PrintMore
set_option linter.unusedVariables false
set_option linter.unusedSimpArgs false

/-! ### rows four -/
/-- Two rows of shares and two of numbers, all of the call's own, none with a block of another's. -/
def Four (b : Nat) (W : World) (v1 v2 v3 v4 : Value) (xs ys : List S26) (M D : List Int) : Prop := ∃ P1 P2 P3 P4 : Nat → Prop, (∀ k, P1 k → ¬ P2 k ∧ ¬ P3 k ∧ ¬ P4 k) ∧ (∀ k, P2 k → ¬ P3 k ∧ ¬ P4 k) ∧ (∀ k, P3 k → ¬ P4 k) ∧
  Kd.S k26 26 W b P1 v1 xs ∧ Kd.S k26 26 W b P2 v2 ys ∧ Kd.R (Kd.int .u64) 35 W b P3 v3 M ∧ Kd.R (Kd.int .u64) 35 W b P4 v4 D
theorem four_nil (b : Nat) (W : World) : Four b W (.slice none 0 0) (.slice none 0 0) (.slice none 0 0) (.slice none 0 0) [] [] [] [] :=
  ⟨fun _ => False, fun _ => False, fun _ => False, fun _ => False, fun _ h => h.elim, fun _ h => h.elim, fun _ h => h.elim, Kd.S_nil _ _ _ _ _, Kd.S_nil _ _ _ _ _, Kd.R_nil _ _ _ _ _, Kd.R_nil _ _ _ _ _⟩
theorem four_below {b : Nat} {W W1 : World} {v1 v2 v3 v4 : Value} {xs ys : List S26} {M D : List Int} (h : Four b W v1 v2 v3 v4 xs ys M D) (hb : Below W.heap.size W W1) : Four b W1 v1 v2 v3 v4 xs ys M D := by
  obtain ⟨P1, P2, P3, P4, d1, d2, d3, s1, s2, s3, s4⟩ := h
  exact ⟨P1, P2, P3, P4, d1, d2, d3, Kd.S_below s1 hb, Kd.S_below s2 hb, Kd.R_below s3 hb, Kd.R_below s4 hb⟩
/-- every row's blocks are below the world's size -/
theorem four_bound {b : Nat} {W : World} {v1 v2 v3 v4 : Value} {xs ys : List S26} {M D : List Int} (h : Four b W v1 v2 v3 v4 xs ys M D) : ∃ P1 P2 P3 P4 : Nat → Prop, (∀ k, P1 k → ¬ P2 k ∧ ¬ P3 k ∧ ¬ P4 k) ∧ (∀ k, P2 k → ¬ P3 k ∧ ¬ P4 k) ∧ (∀ k, P3 k → ¬ P4 k) ∧
    (∀ k, P1 k → k < W.heap.size) ∧ (∀ k, P2 k → k < W.heap.size) ∧ (∀ k, P3 k → k < W.heap.size) ∧ (∀ k, P4 k → k < W.heap.size) ∧
    Kd.S k26 26 W b P1 v1 xs ∧ Kd.S k26 26 W b P2 v2 ys ∧ Kd.R (Kd.int .u64) 35 W b P3 v3 M ∧ Kd.R (Kd.int .u64) 35 W b P4 v4 D := by
  obtain ⟨P1, P2, P3, P4, d1, d2, d3, s1, s2, s3, s4⟩ := h
  refine ⟨fun k => P1 k ∧ k < W.heap.size, fun k => P2 k ∧ k < W.heap.size, fun k => P3 k ∧ k < W.heap.size, fun k => P4 k ∧ k < W.heap.size, ?_, ?_, ?_, fun _ h => h.2, fun _ h => h.2, fun _ h => h.2, fun _ h => h.2,
    Kd.S_mono (Kd.S_bound s1) (fun k hk => ⟨hk.1, hk.2.2.1⟩), Kd.S_mono (Kd.S_bound s2) (fun k hk => ⟨hk.1, hk.2.2.1⟩), Kd.R_mono (Kd.R_bound s3) (fun k hk => ⟨hk.1, hk.2.2.1⟩), Kd.R_mono (Kd.R_bound s4) (fun k hk => ⟨hk.1, hk.2.2.1⟩)⟩
  · exact fun k hk => ⟨fun h => (d1 k hk.1).1 h.1, fun h => (d1 k hk.1).2.1 h.1, fun h => (d1 k hk.1).2.2 h.1⟩
  · exact fun k hk => ⟨fun h => (d2 k hk.1).1 h.1, fun h => (d2 k hk.1).2 h.1⟩
  · exact fun k hk h => d3 k hk.1 h.1
section
variable {ops : Array Oper} {rest : List Oper} {o : Oper} {a : Act} {Q : Exit → Act → World → Prop}
/-- a share of one number is appended to the first row -/
theorem four_app1 {b : Nat} {w0 W0 W : World} {v1 v2 v3 v4 u : Value} {xs ys : List S26} {M D : List Int} {x : Int} (h : Four b W0 v1 v2 v3 v4 xs ys M D) (hbW : Below W0.heap.size W0 W) (hu : Kd.R (Kd.int .u64) 35 W W0.heap.size (fun _ => True) u [x])
    (hb0 : b ≤ W0.heap.size) (HB : Below b w0 W) (hl : xs.length < 1954687338268) (hgd : o.guard = none) (s xo : Operand) (ho : o.op = .call { callee := .builtin .append, args := #[s, xo], argTypes := #[30, 30] }) (hs : a.eval s = v1) (hx : a.eval xo = .slice (some ⟨W.heap.size, 0, none⟩) 1 1)
    (hk : ∀ v w1, Four b w1 v v2 v3 v4 (xs ++ [⟨[x], [], []⟩]) ys M D → Below b w0 w1 → wpList Try.prog ops Q rest (a.put o.dst v) w1) : wpList Try.prog ops Q (o :: rest) a (W.alloc (.cells #[u, .slice none 0 0, .slice none 0 0] 26)) := by
  obtain ⟨P1, P2, P3, P4, d1, d2, d3, l1, l2, l3, l4, s1, s2, s3, s4⟩ := four_bound h
  have t1 := Kd.S_below s1 hbW
  have hsz := hbW.size
  refine Kd.S_append k26 (w0 := w0) b hgd s xo 30 26 (.agg #[(.slice none 0 0), (.slice none 0 0), (.slice none 0 0)]) 72 ho Try.underlying30 info26 rfl (by decide) (by omega) v1 xs ⟨[x], [], []⟩ [u, .slice none 0 0, .slice none 0 0] (fun k => P1 k ∨ W0.heap.size ≤ k) (fun k => W0.heap.size ≤ k) hs hx
    (k26_mkM _ _ _ _ (Kd.R_lower (Kd.R_mono (Kd.R_bound hu) (fun k hk => hk.2.1)) hb0) (Kd.R_nil _ _ _ _ _) (Kd.R_nil _ _ _ _ _)) (fun k hk => ⟨.inr hk, fun e => by have := l1 k ((Kd.S_R t1).1 k e.symm); omega⟩) (fun k hk => .inr (by omega))
    (Kd.S_mono t1 (fun k hk => ⟨.inl hk, by have := l1 k hk; omega⟩)) HB (by omega) (by omega) ?_
  intro v w1 hr hb hg _
  refine hk v w1 ⟨fun k => P1 k ∨ W0.heap.size ≤ k, P2, P3, P4, ?_, d2, d3, hr, ?_, ?_, ?_⟩ hb
  · rintro k (hk | hk)
    · exact d1 k hk
    · exact ⟨fun h => by have := l2 k h; omega, fun h => by have := l3 k h; omega, fun h => by have := l4 k h; omega⟩
  · exact Kd.S_grown (Kd.S_below s2 hbW) hg (fun k hk e => (d1 k ((Kd.S_R t1).1 k e.symm)).1 hk)
  · exact Kd.R_grown (Kd.R_below s3 hbW) hg (fun k hk e => (d1 k ((Kd.S_R t1).1 k e.symm)).2.1 hk)
  · exact Kd.R_grown (Kd.R_below s4 hbW) hg (fun k hk e => (d1 k ((Kd.S_R t1).1 k e.symm)).2.2 hk)
theorem four_app2 {b : Nat} {w0 W0 W : World} {v1 v2 v3 v4 u : Value} {xs ys : List S26} {M D : List Int} {x : Int} (h : Four b W0 v1 v2 v3 v4 xs ys M D) (hbW : Below W0.heap.size W0 W) (hu : Kd.R (Kd.int .u64) 35 W W0.heap.size (fun _ => True) u [x])
    (hb0 : b ≤ W0.heap.size) (HB : Below b w0 W) (hl : ys.length < 1954687338268) (hgd : o.guard = none) (s xo : Operand) (ho : o.op = .call { callee := .builtin .append, args := #[s, xo], argTypes := #[30, 30] }) (hs : a.eval s = v2) (hx : a.eval xo = .slice (some ⟨W.heap.size, 0, none⟩) 1 1)
    (hk : ∀ v w1, Four b w1 v1 v v3 v4 xs (ys ++ [⟨[x], [], []⟩]) M D → Below b w0 w1 → wpList Try.prog ops Q rest (a.put o.dst v) w1) : wpList Try.prog ops Q (o :: rest) a (W.alloc (.cells #[u, .slice none 0 0, .slice none 0 0] 26)) := by
  obtain ⟨P1, P2, P3, P4, d1, d2, d3, s1, s2, s3, s4⟩ := h
  refine four_app1 (v1 := v2) (v2 := v1) (xs := ys) (ys := xs) (v3 := v3) (v4 := v4) (M := M) (D := D) ⟨P2, P1, P3, P4, fun k hk => ⟨fun h => (d1 k h).1 hk, (d2 k hk).1, (d2 k hk).2⟩, fun k hk => ⟨(d1 k hk).2.1, (d1 k hk).2.2⟩, d3, s2, s1, s3, s4⟩ hbW hu hb0 HB hl hgd s xo ho hs hx (fun v w1 h hb => ?_)
  obtain ⟨P1, P2, P3, P4, d1, d2, d3, s1, s2, s3, s4⟩ := h
  exact hk v w1 ⟨P2, P1, P3, P4, fun k hk => ⟨fun h => (d1 k h).1 hk, (d2 k hk).1, (d2 k hk).2⟩, fun k hk => ⟨(d1 k hk).2.1, (d1 k hk).2.2⟩, d3, s2, s1, s3, s4⟩ hb
/-- a number is appended to the third row -/
theorem four_app3 {b : Nat} {w0 W : World} {v1 v2 v3 v4 : Value} {xs ys : List S26} {M D : List Int} {x : Int} (h : Four b W v1 v2 v3 v4 xs ys M D)
    (hb0 : b ≤ W.heap.size) (HB : Below b w0 W) (hl : M.length < 17592186044416) (hgd : o.guard = none) (s xo : Operand) (ho : o.op = .call { callee := .builtin .append, args := #[s, xo], argTypes := #[24, 24] }) (hs : a.eval s = v3) (hx : a.eval xo = .slice (some ⟨W.heap.size, 0, none⟩) 1 1)
    (hk : ∀ v w1, Four b w1 v1 v2 v v4 xs ys (M ++ [x]) D → Below b w0 w1 → wpList Try.prog ops Q rest (a.put o.dst v) w1) : wpList Try.prog ops Q (o :: rest) a (W.alloc (.cells #[.int .u64 x] 35)) := by
  obtain ⟨P1, P2, P3, P4, d1, d2, d3, l1, l2, l3, l4, s1, s2, s3, s4⟩ := four_bound h
  refine Kd.R_append (Kd.int .u64) (w0 := w0) b hgd s xo 24 35 (.int .u64 0) 8 ho Try.underlying24 info35 rfl (by decide) (by omega) v3 M x [.int .u64 x] (fun k => P3 k ∨ W.heap.size ≤ k) (fun _ => False) hs hx rfl (fun _ hk => hk.elim) (fun k hk => .inr hk)
    (Kd.R_mono s3 (fun k hk => .inl hk)) HB hb0 (by omega) ?_
  intro v w1 hr hb hg _
  refine hk v w1 ⟨P1, P2, fun k => P3 k ∨ W.heap.size ≤ k, P4, ?_, ?_, ?_, ?_, ?_, hr, ?_⟩ hb
  · exact fun k hk => ⟨(d1 k hk).1, fun h => h.elim (d1 k hk).2.1 (fun h => by have := l1 k hk; omega), (d1 k hk).2.2⟩
  · exact fun k hk => ⟨fun h => h.elim (d2 k hk).1 (fun h => by have := l2 k hk; omega), (d2 k hk).2⟩
  · rintro k (hk | hk)
    · exact d3 k hk
    · exact fun h => by have := l4 k h; omega
  · exact Kd.S_grown s1 hg (fun k hk e => (d1 k hk).2.1 (s3.1 k e.symm))
  · exact Kd.S_grown s2 hg (fun k hk e => (d2 k hk).1 (s3.1 k e.symm))
  · exact Kd.R_grown s4 hg (fun k hk e => d3 k (s3.1 k e.symm) hk)
theorem four_app4 {b : Nat} {w0 W : World} {v1 v2 v3 v4 : Value} {xs ys : List S26} {M D : List Int} {x : Int} (h : Four b W v1 v2 v3 v4 xs ys M D)
    (hb0 : b ≤ W.heap.size) (HB : Below b w0 W) (hl : D.length < 17592186044416) (hgd : o.guard = none) (s xo : Operand) (ho : o.op = .call { callee := .builtin .append, args := #[s, xo], argTypes := #[24, 24] }) (hs : a.eval s = v4) (hx : a.eval xo = .slice (some ⟨W.heap.size, 0, none⟩) 1 1)
    (hk : ∀ v w1, Four b w1 v1 v2 v3 v xs ys M (D ++ [x]) → Below b w0 w1 → wpList Try.prog ops Q rest (a.put o.dst v) w1) : wpList Try.prog ops Q (o :: rest) a (W.alloc (.cells #[.int .u64 x] 35)) := by
  obtain ⟨P1, P2, P3, P4, d1, d2, d3, s1, s2, s3, s4⟩ := h
  refine four_app3 (v1 := v1) (v2 := v2) (v3 := v4) (v4 := v3) (M := D) (D := M) (xs := xs) (ys := ys) ⟨P1, P2, P4, P3, fun k hk => ⟨(d1 k hk).1, (d1 k hk).2.2, (d1 k hk).2.1⟩, fun k hk => ⟨(d2 k hk).2, (d2 k hk).1⟩, fun k hk h => d3 k h hk, s1, s2, s4, s3⟩ hb0 HB hl hgd s xo ho hs hx (fun v w1 h hb => ?_)
  obtain ⟨P1, P2, P3, P4, d1, d2, d3, s1, s2, s3, s4⟩ := h
  exact hk v w1 ⟨P1, P2, P4, P3, fun k hk => ⟨(d1 k hk).1, (d1 k hk).2.2, (d1 k hk).2.1⟩, fun k hk => ⟨(d2 k hk).2, (d2 k hk).1⟩, fun k hk h => d3 k h hk, s1, s2, s4, s3⟩ hb
end
end Go.Proofs.Ytcmaidpoolcelaa.P
