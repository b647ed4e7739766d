/- Arguments of a row opened to plain data: a value that reads as data of a type is told by the print's kinds, whatever its depth. -/
import Derived.Test.YtmeafbjnjiadnaaVnWWords
import Derived.Deep.Slices
import Derived.Deep.Fields
import Derived.ChangeSame
import Derived.ChangeArms
import Derived.OpenShut
namespace Go.Proofs.Ytmeafbjnjiadnaa.Opens
open Go.ChangeShapes Go.WideShapes Go.Deep Go.RowKit Go.Proofs.YtmeafbjnjiadnaaW.PrintWords

/-- What reads as data of type t is told by kind d, and what is told of it is well formed. -/
structure Opens {α : Type} (P : Program) (t : TypeId) (d : Kd α) (wf : α → Prop) : Prop where
  size : P.cellsOf t = d.sz
  read : ∀ {H : Type} {enc : TypeId × Value → H} {w : World} {base : Nat} {spare : Nat → Bool} {held : Bool} {fuel : Nat} {cs : List Value} {y : DataW H × List MemPlace},
    DataW.trod enc P w base spare held fuel t cs = some y → ∃ x : α, d.K w x cs ∧ wf x

section
variable {P : Program} {t e : TypeId}

theorem opens_int {k : IntKind} (hu : P.underlying t = some (.int k)) (hc : P.cellsOf t = 1) : Opens P t (Kd.int k) (fun x => (Lit.int k x).wf = true) where
  size := hc
  read := fun h => by
    obtain ⟨n, rfl, _, hw⟩ := DataW.trod_int hu h
    exact ⟨n, rfl, hw⟩

/-- The fields from offset o on, told together. -/
structure OpensFs {α : Type} (P : Program) (fs : List Field) (o : Nat) (d : Kd α) (wf : α → Prop) : Prop where
  read : ∀ {H : Type} {enc : TypeId × Value → H} {w : World} {base : Nat} {spare : Nat → Bool} {held : Bool} {fuel : Nat} {cs : List Value}, cs.length = o + d.sz →
    (∀ f ∈ fs, ∃ y, DataW.trod enc P w base spare held fuel f.type ((cs.drop f.offset).take (P.cellsOf f.type)) = some y) → ∃ x : α, d.K w x (cs.drop o) ∧ wf x

theorem opensFs_last {α : Type} {d : Kd α} {wf : α → Prop} {f : Field} {o : Nat} (ho : f.offset = o) (hf : Opens P f.type d wf) : OpensFs P [f] o d wf where
  read := fun {H enc w base spare held fuel cs} hl h => by
    obtain ⟨y, hy⟩ := h f List.mem_cons_self
    rw [ho, hf.size, List.take_of_length_le (by rw [List.length_drop]; omega)] at hy
    exact hf.read hy

theorem opensFs_cons {α β : Type} {d : Kd α} {d' : Kd β} {wf : α → Prop} {wf' : β → Prop} {f : Field} {fs : List Field} {o o' : Nat} (ho : f.offset = o) (ho' : o' = o + d.sz) (hf : Opens P f.type d wf) (hr : OpensFs P fs o' d' wf') :
    OpensFs P (f :: fs) o (Kd.pair d d') (fun x => wf x.1 ∧ wf' x.2) where
  read := fun {H enc w base spare held fuel cs} hl h => by
    have hsz : (Kd.pair d d').sz = d.sz + d'.sz := rfl
    obtain ⟨y, hy⟩ := h f List.mem_cons_self
    rw [ho, hf.size] at hy
    obtain ⟨x, hx, hw⟩ := hf.read hy
    obtain ⟨x', hx', hw'⟩ := hr.read (cs := cs) (by omega) (fun g hg => h g (List.mem_cons_of_mem _ hg))
    refine ⟨(x, x'), ⟨_, _, ?_, hx, hx'⟩, hw, hw'⟩
    rw [ho', ← List.drop_drop]
    exact (List.take_append_drop _ _).symm

/-- A struct: its fields' kinds, told as a record. -/
theorem opens_struct {α β : Type} {d : Kd α} {wf : α → Prop} {fs : Array Field} (f : β → α) (g : α → β) (hfg : ∀ x, f (g x) = x) (hu : P.underlying t = some (.struct fs)) (hc : P.cellsOf t = d.sz)
    (l : List Field) (hl : fs.toList = l) (hf : OpensFs P l 0 d wf) : Opens P t (Kd.iso d f) (fun x => wf (f x)) where
  size := hc
  read := fun {H enc w base spare held fuel cs y} h => by
    obtain ⟨xs, n, _, _, hlen, hxl, hat⟩ := DataW.trod_struct hu h
    obtain ⟨x, hK, hw⟩ := hf.read (cs := cs) (enc := enc) (w := w) (base := base) (spare := spare) (held := held) (fuel := n) (by omega) (fun q hq => by
      rw [← hl] at hq
      obtain ⟨i, hi, rfl⟩ := List.getElem_of_mem hq
      have hi' : i < fs.size := by simpa using hi
      have := hat i fs[i] (Array.getElem?_eq_getElem hi')
      refine ⟨xs[i]'(by omega), ?_⟩
      rw [Array.getElem_toList, this, List.getElem?_eq_getElem])
    exact ⟨g x, by show d.K w (f (g x)) cs; rw [hfg]; simpa using hK, by show wf (f (g x)); rw [hfg]; exact hw⟩

end
end Go.Proofs.Ytmeafbjnjiadnaa.Opens
