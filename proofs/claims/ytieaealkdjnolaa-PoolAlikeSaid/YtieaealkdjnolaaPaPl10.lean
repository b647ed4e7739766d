/- The pool: words for Take. -/
import Derived.Test.YtieaealkdjnolaaPaPl9
namespace Go.Proofs.Ytieaealkdjnolaa.P
open Go.RowKit Go.Maps Go.Proofs.YtieaealkdjnolaaW.PrintWords Go.Proofs.YtieaealkdjnolaaW.PrintLast Go.Proofs.YtieaealkdjnolaaW.PrintMore
set_option linter.unusedVariables false
set_option linter.unusedSimpArgs false
/-- an own row of shares whose parts lie in rows of an earlier world w2 -/
def KF (B : Nat) (w w2 : World) (v : Value) (xs : List S32) : Prop := OwnRow (k32.K w2) 32 3 w B v xs
theorem KF.of_R {B : Nat} {ok : Nat → Prop} {w w2 : World} {v : Value} (h : Kd.R k32 32 w B ok v []) : KF B w w2 v [] := by
  obtain ⟨-, inner, ho, hr⟩ := h
  exact ⟨inner, ho, hr.1, fun j p hj => by simp at hj⟩
theorem KF.below {B : Nat} {w w' w2 : World} {v : Value} {xs : List S32} (h : KF B w w2 v xs) (hb : Below w.heap.size w w') : KF B w' w2 v xs := OwnRow.below h hb
theorem KF.C {B : Nat} {w w2 : World} {v : Value} {xs : List S32} (h : KF B w w2 v xs) (hb : Below w2.heap.size w2 w) : ∃ A c, v = .slice A xs.length c ∧ xs.length ≤ c ∧ Kd.C k32 w A xs.length xs := by
  obtain ⟨inner, ho, hr⟩ := h
  obtain ⟨A, c, he, hl, hr⟩ := OwnRow.reads (R := k32.K w) ⟨inner, ho, hr.imp_ (fun _ _ hp => Kd.K_below _ hb hp)⟩
  exact ⟨A, c, he, hl, hr⟩
section
variable {ops : Array Oper} {rest : List Oper} {o : Oper} {a : Act} {Q : Exit → Act → World → Prop}
theorem kf_app {b : Nat} {w0 w2 V : World} {v u1 u2 u3 : Value} {xs : List S32} {p : S32} (h : KF b V w2 v xs) (hp : k32.K w2 p [u1, u2, u3]) (hb0 : b ≤ V.heap.size) (HB : Below b w0 V) (hl : xs.length < 1954687338268) (hgd : o.guard = none) (s xo : Operand) (ho : o.op = .call { callee := .builtin .append, args := #[s, xo], argTypes := #[35, 35] }) (hs : a.eval s = v) (k : Nat) (hkk : k = V.heap.size) (hx : a.eval xo = .slice (some ⟨k, 0, none⟩) 1 1)
    (hk : ∀ v1 w1, KF b w1 w2 v1 (xs ++ [p]) → Below b w0 w1 → V.grownBy w1 v.ownBlock → wpList Try.prog ops Q rest (a.put o.dst v1) w1) : wpList Try.prog ops Q (o :: rest) a (V.alloc (.cells #[u1, u2, u3] 32)) := by
  subst hkk
  obtain ⟨inner, hown, hr⟩ := h
  refine print_append_cells (W := V) (w0 := w0) b hgd s xo 35 32 (.agg #[(.slice none 0 0), (.slice none 0 0), (.slice none 0 0)]) 3 72 ho Try.underlying35 info32 rfl (by decide) (by decide) v xs.length inner [u1, u2, u3] hs hx rfl (Kd.K_one _ hp) hown HB hb0 (by omega) ?_
  intro v1 w1 hown1 hb1 hg1 _
  exact hk v1 w1 ⟨inner ++ [u1, u2, u3], by rw [List.length_append]; exact hown1, hr.snoc hp rfl⟩ hb1 hg1
end
theorem cell_map {w w' : World} {b n : Nat} {D : DV} (ho : OwnV w b n D) (hc : Chg (fun k => k = b) w w') {a : Addr} {u : Value} (h : w.cell? a = some u) : w'.cell? a = some u := by
  have hlt := World.block_lt_of_cell? w a h
  have hne : a.block ≠ b := by
    intro e
    obtain ⟨es, clock, hb, _⟩ := ho
    rw [← e] at hb
    simp [World.cell?, hb] at h
  exact (World.cell?_of_block (hc.block _ hlt hne)).trans h
theorem ReadsRow.cells {α : Type} {R R' : α → List Value → Prop} {size : Nat} {w w1 : World} {A : Option Addr} {n : Nat} {ps : List α} (h : ReadsRow R size w A n ps) (hb : ∀ a u, w.cell? a = some u → w1.cell? a = some u) (hR : ∀ p c, R p c → R' p c) : ReadsRow R' size w1 A n ps :=
  ⟨h.1, h.2.1, fun hn => by
    obtain ⟨ad, e, hc⟩ := h.2.2 hn
    refine ⟨ad, e, fun j p hj => ?_⟩
    obtain ⟨c, hs, hr, hcell⟩ := hc j p hj
    exact ⟨c, hs, hR _ _ hr, fun i u hu => hb _ _ (hcell i u hu)⟩⟩
theorem C64_cells {w w1 : World} {A : Option Addr} {n : Nat} {l : List Int} (h : k64.C w A n l) (hb : ∀ a u, w.cell? a = some u → w1.cell? a = some u) : k64.C w1 A n l := ReadsRow.cells h hb (fun _ _ hp => hp)
theorem CS_cells {w w1 : World} {A : Option Addr} {n : Nat} {l : List S32} (h : Kd.C k32 w A n l) (hb : ∀ a u, w.cell? a = some u → w1.cell? a = some u) : Kd.C k32 w1 A n l :=
  ReadsRow.cells h hb (fun x cs hp => by
    obtain ⟨A0, c0, A1, c1, A2, c2, rfl, l0, g0, l1, g1, l2, g2⟩ := k32_open hp
    exact k32_mk w1 x l0 (C64_cells g0 hb) l1 (C64_cells g1 hb) l2 (C64_cells g2 hb))
/-- a share of the map is read -/
theorem ElemAt.K {w0 w : World} {v : Value} {x : S32} (h : ElemAt w0 w v x) : ∃ v0 v1 v2, v = .agg #[v0, v1, v2] ∧ k32.K w x [v0, v1, v2] := by
  obtain ⟨v0, v1, v2, rfl, h0, h1, h2⟩ := h
  exact ⟨v0, v1, v2, rfl, Kd.K_of_M _ (k32_mkM w w0.heap.size (fun _ => True) x h0 h1 h2)⟩
/-- the shares from an index on -/
def xsOf (X : Int → S32) (first : Int) (j : Nat) : List S32 := (List.range j).map fun (k : Nat) => X (first + (k : Int))
theorem xsOf_length (X : Int → S32) (first : Int) (j : Nat) : (xsOf X first j).length = j := by simp [xsOf]
theorem xsOf_succ (X : Int → S32) (first : Int) (j : Nat) : xsOf X first j ++ [X (first + (j : Int))] = xsOf X first (j + 1) := by simp [xsOf, List.range_succ]
/-- what is left when j were taken -/
def dels (V : Vm) (first : Int) (j : Nat) : Vm := fun i => if first ≤ i ∧ i < first + (j : Int) then none else V i
theorem dels_succ (V : Vm) (first : Int) (j : Nat) : delV (dels V first j) (first + (j : Int)) = dels V first (j + 1) := by
  funext i
  unfold delV dels
  by_cases e : i = first + (j : Int)
  · rw [if_pos e, if_pos (by omega)]
  · rw [if_neg e]
    by_cases h : first ≤ i ∧ i < first + (j : Int)
    · rw [if_pos h, if_pos (by omega)]
    · rw [if_neg h, if_neg (by omega)]
theorem dels_zero (V : Vm) (first : Int) : dels V first 0 = V := by
  funext i
  unfold dels
  rw [if_neg (by omega)]
theorem BinAt.drop {w0 w w2 : World} {g : Nat} {c : S26} {b : Bn} {k : Int} (h : BinAt w0 w g c b) (hO : OwnV w2 b.mb b.n (b.D.del (.int .i64 k))) (hG : w.grownBy w2 (some b.mb)) : BinAt w0 w2 g c { b with D := b.D.del (.int .i64 k), V := delV b.V k } := by
  obtain ⟨cs, hr, hr0⟩ := h.row
  have hbr : ∀ {k t : Nat} {cs : Array Value}, w.heap[k]? = some (.cells cs t (0, 0)) → w2.heap[k]? = some (.cells cs t (0, 0)) := fun hk => blk_grown hk hG (fun e => own_neV h.own hk (by injection e))
  refine ⟨hbr h.pool, ⟨cs, hbr hr, hr0⟩, h.cap, hbr h.blk, hO, h.has.del h.ismap k, IsMap.del h.ismap _, h.ge, ?_, ?_, h.bd⟩
  · intro i v hv
    replace hv : delV b.V k i = some v := hv
    unfold delV at hv
    by_cases e : i = k
    · rw [if_pos e] at hv; cases hv
    · rw [if_neg e] at hv
      obtain ⟨v0, v1, v2, e, h0, h1, h2⟩ := h.elem i v hv
      exact ⟨v0, v1, v2, e, R64_grown h0 h.own hG, R64_grown h1 h.own hG, R64_grown h2 h.own hG⟩
  · intro i hi
    show delV b.V k i = none
    unfold delV
    by_cases e : i = k
    · rw [if_pos e]
    · rw [if_neg e]; exact h.top i hi
end Go.Proofs.Ytieaealkdjnolaa.P
