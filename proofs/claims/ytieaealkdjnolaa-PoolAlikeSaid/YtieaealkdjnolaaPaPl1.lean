/- The pool's words: a map of shares, a bin, a pool of one bin. -/
import Derived.Below
import Derived.Deep.Draws
import Derived.Maps.AppendAt
import Derived.OwnWalk
import Derived.Laws.BytesArg
import Derived.Laws.MakeOwn
import Derived.Laws.OwnMore
import Derived.Deep.OwnRows
import Derived.Tactics
import Derived.Lib.ConvBytes
import Derived.Laws.Slices
import Derived.WalkKit
import Derived.KernelRfl
import Derived.RowKit3
import Derived.Deep.LoopGhost
import Derived.Deep.QuietTactic
import Derived.WideLaws
import Derived.Deep.DeepCutAuto
import Derived.Deep.CutBlock
import Derived.Laws.Rows
import Derived.Lib.AppendStr
import Derived.ArgAppend
import Derived.Laws.IdiomCopy
import Derived.OrdersHeld
import Derived.Laws.BitsLemmas
import Derived.RowKit
import Derived.Test.YtieaealkdjnolaaPaMine
import Derived.Test.YtieaealkdjnolaaPaPx0
import Derived.Test.YtieaealkdjnolaaPaChg
import Derived.Test.YtieaealkdjnolaaProg
import Derived.Maps.OwnSet
import Derived.Maps.StringElems
import Derived.Lib.Hide
import Derived.IntWalk
import Derived.WalkSpells
import Derived.Outline
import Derived.BigQuiet
import Derived.Deep.RegionHeld3
import Derived.Deep.DrawnRows
import Derived.Deep.RegionLaw
import Derived.Deep.AppendLies
namespace Go.Proofs.Ytieaealkdjnolaa.P
open Go.RowKit Go.Maps Go.Proofs.YtieaealkdjnolaaW.PrintWords Go.Proofs.YtieaealkdjnolaaW.PrintLast Go.Proofs.YtieaealkdjnolaaW.PrintMore
set_option linter.unusedVariables false
set_option linter.unusedSimpArgs false
attribute [local go_sem ↓] Go.wp_at_zero Go.wp_at_succ

abbrev k64 : Kd Int := Kd.int .u64
abbrev DV := DataW Value
theorem lawI : Keyed Try.prog 3 := int_keyed Try.underlying3
abbrev zS : Value := .agg #[.slice none 0 0, .slice none 0 0, .slice none 0 0]
theorem zeroS (w : World) : (zeroValue 32).run Try.prog w = .ok zS w := by kernel_rfl
/-- a value reads as itself -/
def RV (v : Value) : Option (DV × List MemPlace) := some (.held v, [])
theorem RV_inv {v u : Value} {ps : List MemPlace} (h : RV v = some (.held u, ps)) : v = u := by
  unfold RV at h
  have h1 := congrArg Prod.fst (Option.some.inj h)
  exact DataW.held.inj h1
theorem keyI (k : Int) : WideAt.IsKeyLit (.int .i64 k) := by first | exact trivial | simp [WideAt.IsKeyLit] | exact ⟨⟩
abbrev Vm := Int → Option Value
def HasV (D : DV) (V : Vm) : Prop := ∀ k : Int, has D (.int .i64 k) = (V k).isSome ∧ ∀ v, V k = some v → ∀ z, D.atKey (.int .i64 k) z = .held v
def putV (V : Vm) (k : Int) (v : Value) : Vm := fun j => if j = k then some v else V j
def delV (V : Vm) (k : Int) : Vm := fun j => if j = k then none else V j
theorem hasV_empty : HasV (.map []) (fun _ => none) := fun k => ⟨rfl, fun s h => by cases h⟩
theorem HasV.put {D : DV} {V : Vm} (h : HasV D V) (hD : IsMap D) (k : Int) (v : Value) : HasV (D.put (.int .i64 k) (.held v)) (putV V k v) := fun j => by
  unfold putV
  by_cases e : j = k
  · subst e
    rw [if_pos rfl, has_put_same hD (keyI j)]
    exact ⟨rfl, fun t ht z => by cases ht; exact atKey_put_same hD (keyI j) _ z⟩
  · have hne : (Lit.int .i64 j) ≠ .int .i64 k := fun q => e (by injection q)
    rw [if_neg e, has_put_other hne]
    exact ⟨(h j).1, fun t ht z => by rw [atKey_put_other hne]; exact (h j).2 t ht z⟩
theorem HasV.del {D : DV} {V : Vm} (h : HasV D V) (hD : IsMap D) (k : Int) : HasV (D.del (.int .i64 k)) (delV V k) := fun j => by
  unfold delV
  by_cases e : j = k
  · subst e
    rw [if_pos rfl, has_del_same]
    exact ⟨rfl, fun t ht z => by cases ht⟩
  · have hne : (Lit.int .i64 j) ≠ .int .i64 k := fun q => e (by injection q)
    rw [if_neg e, has_del_other hne]
    exact ⟨(h j).1, fun t ht z => by rw [atKey_del_other hne]; exact (h j).2 t ht z⟩
abbrev OwnV (w : World) (b n : Nat) (D : DV) : Prop := w.ownsMap Try.prog 3 RV b n D
def lookV (o : Option Value) : Value := match o with | some v => .tuple #[v, .bool true] | none => .tuple #[zS, .bool false]
theorem lookV_run {w : World} {b n : Nat} {D : DV} {V : Vm} (h : OwnV w b n D) (hM : HasV D V) {k : Int} (hk : (Lit.int .i64 k).wf = true) : (Instr.lookup 69 (.map (some b)) (.int .i64 k) true).run Try.prog w = .ok (lookV (V k)) w := by
  obtain ⟨v, ps, hrun, hv⟩ := h.look_ok lawI Try.underlying69 (zeroS w) (show RV zS = some (.held zS, []) from rfl) (keyOf_int_mk Try.underlying3 hk)
  rw [hrun, (hM k).1]
  cases hs : V k with
  | none =>
    have hn : has D (.int .i64 k) = false := by rw [(hM k).1, hs]; rfl
    rw [atKey_of_not_has hn] at hv
    obtain rfl : v = zS := RV_inv hv
    rfl
  | some s =>
    rw [(hM k).2 s hs] at hv
    obtain rfl : v = s := RV_inv hv
    rfl
theorem own_neV {w : World} {b n : Nat} {D : DV} (h : OwnV w b n D) {k : Nat} {cs : Array Value} {t : Nat} {fr : Nat × Nat} (hk : w.heap[k]? = some (.cells cs t fr)) : k ≠ b := fun e => by
  obtain ⟨es, clock, hb, _⟩ := h
  rw [e, hb] at hk
  cases hk
theorem OwnV.move {w w' : World} {b n : Nat} {D : DV} (h : OwnV w b n D) (hb : w'.heap[b]? = w.heap[b]?) : OwnV w' b n D := by
  obtain ⟨es, clock, hb', Ft, hs, hD⟩ := h
  exact ⟨es, clock, hb.trans hb', Ft, hs, hD⟩
theorem OwnV.below {w w' : World} {b n : Nat} {D : DV} (h : OwnV w b n D) (hb : Below w.heap.size w w') : OwnV w' b n D := h.move (hb.block _ h.lt)
/-- a share's value: three rows of the call's own -/
def ElemAt (w0 w : World) (v : Value) (x : S32) : Prop := ∃ v0 v1 v2, v = .agg #[v0, v1, v2] ∧ k64.R 34 w w0.heap.size (fun _ => True) v0 x.f0 ∧ k64.R 34 w w0.heap.size (fun _ => True) v1 x.f1 ∧ k64.R 34 w w0.heap.size (fun _ => True) v2 x.f2
theorem R64_chg {w w' : World} {base : Nat} {v : Value} {l : List Int} {S : Nat → Prop} (h : k64.R 34 w base (fun _ => True) v l) (hc : Chg S w w') (hS : ∀ k cs, S k → w.heap[k]? ≠ some (.cells cs 34 (0, 0))) : k64.R 34 w' base (fun _ => True) v l :=
  Kd.R_mono (Kd.R_step (Kd.R_bound h) (fun k hk hlt => by
    obtain ⟨-, -, -, q, hq, cells, hcell⟩ := hk
    obtain rfl : q = 34 := by rcases List.mem_cons.1 hq with rfl | hq; rfl; cases hq
    exact hc.block k hlt (fun hs => hS k cells hs hcell))) (fun _ _ => trivial)
theorem ElemAt.chg {w0 w w' : World} {v : Value} {x : S32} {S : Nat → Prop} (h : ElemAt w0 w v x) (hc : Chg S w w') (hS : ∀ k cs, S k → w.heap[k]? ≠ some (.cells cs 34 (0, 0))) : ElemAt w0 w' v x := by
  obtain ⟨v0, v1, v2, e, h0, h1, h2⟩ := h
  exact ⟨v0, v1, v2, e, R64_chg h0 hc hS, R64_chg h1 hc hS, R64_chg h2 hc hS⟩
/-- a bin: its row, its block, its map -/
structure Bn where
  r : Nat
  cap : Nat
  p : Nat
  mb : Nat
  n : Nat
  D : DV
  V : Vm
  X : Int → S32
  total : Int
  mark : Int
  next : Int
abbrev bC (c : S26) (mb : Nat) (total mark next : Int) : Array Value := #[.int .i64 c.f0, .int .i64 c.f1, .int .i64 c.f2, .int .i64 c.f3, .int .i64 c.f4, .int .i64 total, .map (some mb), .int .i64 mark, .int .i64 next]
abbrev cC (c : S26) : Array Value := #[.int .i64 c.f0, .int .i64 c.f1, .int .i64 c.f2, .int .i64 c.f3, .int .i64 c.f4]
/-- a pool of one bin -/
structure BinAt (w0 w : World) (g : Nat) (c : S26) (b : Bn) : Prop where
  pool : w.heap[g]? = some (.cells #[.slice (some ⟨b.r, 0, none⟩) 1 b.cap, .bool true] 52 (0, 0))
  row : ∃ cs, w.heap[b.r]? = some (.cells cs 67 (0, 0)) ∧ cs[0]? = some (.pointer (some ⟨b.p, 0, none⟩))
  cap : 1 ≤ b.cap
  blk : w.heap[b.p]? = some (.cells (bC c b.mb b.total b.mark b.next) 71 (0, 0))
  own : OwnV w b.mb b.n b.D
  has : HasV b.D b.V
  ismap : IsMap b.D
  ge : w0.heap.size ≤ g ∧ w0.heap.size ≤ b.r ∧ w0.heap.size ≤ b.p ∧ w0.heap.size ≤ b.mb
  elem : ∀ i v, b.V i = some v → ElemAt w0 w v (b.X i)
  top : ∀ i, i < 0 ∨ b.total ≤ i → b.V i = none
  bd : 0 ≤ b.total ∧ b.total ≤ 100000 ∧ 0 ≤ b.mark ∧ b.mark ≤ 1099511627776 ∧ 0 ≤ b.next ∧ b.next ≤ b.total ∧ b.n ≤ 100000
/-- a pool of no bin, or of one -/
def PoolAt (w0 w : World) (g : Nat) (c : S26) : Option Bn → Prop
  | none => w.heap[g]? = some (.cells #[.slice none 0 0, .bool true] 52 (0, 0)) ∧ w0.heap.size ≤ g
  | some b => BinAt w0 w g c b
theorem BinAt.chg {w0 w w' : World} {g : Nat} {c : S26} {b : Bn} {S : Nat → Prop} (h : BinAt w0 w g c b) (hc : Chg S w w') (hS : ∀ k, S k → k ≠ b.mb ∧ k ≠ g ∧ k ≠ b.r ∧ k ≠ b.p ∧ ∀ cs, w.heap[k]? ≠ some (.cells cs 34 (0, 0))) : BinAt w0 w' g c b := by
  obtain ⟨cs, hr, hr0⟩ := h.row
  exact ⟨hc.blk h.pool (fun hs => (hS g hs).2.1 rfl), ⟨cs, hc.blk hr (fun hs => (hS b.r hs).2.2.1 rfl), hr0⟩, h.cap, hc.blk h.blk (fun hs => (hS b.p hs).2.2.2.1 rfl), h.own.move (hc.block _ h.own.lt (fun hs => (hS b.mb hs).1 rfl)), h.has, h.ismap, h.ge, fun i v hv => (h.elem i v hv).chg hc (fun k cs hs => (hS k hs).2.2.2.2 cs), h.top, h.bd⟩
theorem BinAt.below {w0 w w' : World} {g : Nat} {c : S26} {b : Bn} (h : BinAt w0 w g c b) (hb : Below w.heap.size w w') : BinAt w0 w' g c b := h.chg (S := fun _ => False) (Chg.of_below hb _) (fun k hk => hk.elim)
theorem PoolAt.below {w0 w w' : World} {g : Nat} {c : S26} {o : Option Bn} (h : PoolAt w0 w g c o) (hb : Below w.heap.size w w') : PoolAt w0 w' g c o := by
  cases o with
  | none => exact ⟨blk_below h.1 hb, h.2⟩
  | some b => exact BinAt.below h hb
/-- what a call may change of a pool -/
def PoolOf (g : Nat) : Option Bn → Nat → Prop
  | none, k => k = g
  | some b, k => k = g ∨ k = b.p ∨ k = b.mb
theorem PoolAt.ge {w0 w : World} {g : Nat} {c : S26} {o : Option Bn} (h : PoolAt w0 w g c o) {k : Nat} (hk : PoolOf g o k) : w0.heap.size ≤ k := by
  cases o with
  | none => rw [hk]; exact h.2
  | some b =>
    rcases hk with e | e | e
    · rw [e]; exact (BinAt.ge h).1
    · rw [e]; exact (BinAt.ge h).2.2.1
    · rw [e]; exact (BinAt.ge h).2.2.2
/-- a block of another type is none of a pool's -/
theorem PoolAt.not {w0 w : World} {g : Nat} {c : S26} {o : Option Bn} (h : PoolAt w0 w g c o) {k t : Nat} {cs : Array Value} (hk : w.heap[k]? = some (.cells cs t (0, 0))) (h1 : t ≠ 52) (h2 : t ≠ 71) : ¬ PoolOf g o k := by
  cases o with
  | none => intro e; subst e; exact blk_ne hk h.1 h1 rfl
  | some b =>
    rintro (e | e | e)
    · subst e; exact blk_ne hk (BinAt.pool h) h1 rfl
    · subst e; exact blk_ne hk (BinAt.blk h) h2 rfl
    · subst e; exact own_neV (BinAt.own h) hk rfl
end Go.Proofs.Ytieaealkdjnolaa.P
