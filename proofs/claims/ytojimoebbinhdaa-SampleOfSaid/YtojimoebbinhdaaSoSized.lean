/- Arguments of a row opened to plain data, with the size that the row's own form gives to every slice inside. -/
import Derived.Test.YtojimoebbinhdaaSoOps
import Derived.SizedLaws
namespace Go.Proofs.Ytojimoebbinhdaa.Opens
open Go.ChangeShapes Go.WideShapes Go.Deep Go.RowKit Go.Proofs.Ytojimoebbinhdaa.P Go.Proofs.Ytojimoebbinhdaa.Ops Go.Proofs.YtojimoebbinhdaaW.PrintWords
set_option linter.unusedVariables false

/-- As Opens, where all weights of the datum are within reach. -/
structure OpensB {α : Type} (P : Program) (t : TypeId) (d : Kd α) (wf : α → Prop) : Prop where
  size : P.cellsOf t = d.sz
  read : ∀ {H : Type} {enc : TypeId × Value → H} {w : World} {base : Nat} {spare : Nat → Bool} {held : Bool} {fuel : Nat} {cs : List Value} {y : DataW H × List MemPlace},
    DataW.trod enc P w base spare held fuel t cs = some y → (∀ n ∈ y.1.weights P t, n ≤ reachBytes) → ∃ x : α, d.K w x cs ∧ wf x
/-- The fields from offset o on, told together. -/
structure OpensFsB {α : Type} (P : Program) (fs : List Field) (o : Nat) (d : Kd α) (wf : α → Prop) : Prop where
  read : ∀ {H : Type} {enc : TypeId × Value → H} {w : World} {base : Nat} {spare : Nat → Bool} {held : Bool} {fuel : Nat} {cs : List Value}, cs.length = o + d.sz →
    (∀ f ∈ fs, ∃ y, DataW.trod enc P w base spare held fuel f.type ((cs.drop f.offset).take (P.cellsOf f.type)) = some y ∧ ∀ n ∈ y.1.weights P f.type, n ≤ reachBytes) → ∃ x : α, d.K w x (cs.drop o) ∧ wf x

theorem opensB_of {α : Type} {P : Program} {t : TypeId} {d : Kd α} {wf : α → Prop} (h : Opens P t d wf) : OpensB P t d wf := ⟨h.size, fun h1 _ => h.read h1⟩
theorem weightsAll_in {H : Type} {P : Program} {e : TypeId} : ∀ {l : List (DataW H)} {d : DataW H}, d ∈ l → ∀ n ∈ d.weights P e, n ∈ DataW.weightsAll P e l
  | d' :: r, d, hd, n, hn => by
    simp only [DataW.weightsAll, List.mem_append]
    rcases List.mem_cons.1 hd with rfl | h
    · exact Or.inl hn
    · exact Or.inr (weightsAll_in h n hn)
theorem opensB_slice {α : Type} {P : Program} {t e : TypeId} {d : Kd α} {wf : α → Prop} (hu : P.underlying t = some (.slice e)) (hc : P.cellsOf t = 1) (he : OpensB P e d wf) :
    OpensB P t (Kd.slice e d) (fun xs => xs.length * P.bytesOf e ≤ reachBytes ∧ ∀ x ∈ xs, wf x) where
  size := hc
  read := fun {H enc w base spare held fuel cs y} h hw => by
    rcases open_slice hu h with ⟨rfl, rfl⟩ | ⟨a, len, cap, m, n, D, Pl, rfl, hb, hl, hm, hmm, rfl, hi⟩
    · exact ⟨[], ⟨none, 0, rfl, Nat.le_refl _, Kd.C_nil _ _⟩, by simp, fun x hx => by simp at hx⟩
    · have hlm : len ≤ m := by rw [hmm]; split <;> omega
      simp only [DataW.weights, hu, List.mem_cons, List.mem_append] at hw
      have h1 := hw _ (Or.inl rfl)
      obtain ⟨xs, hlen, hxs⟩ := gather (p := fun i x => (∃ c, c.length = d.sz ∧ d.K w x c ∧ ∀ j u, c[j]? = some u → w.cell? (a.add (i * d.sz + j)) = some u) ∧ wf x) len (fun i hil => by
        obtain ⟨cs', hcs, ht⟩ := hi i (by omega)
        rw [he.size] at hcs
        obtain ⟨x, hK, hwx⟩ := he.read ht (fun n hn => hw n (Or.inr (Or.inl (weightsAll_in (List.mem_map.2 ⟨i, List.mem_range.2 hil, rfl⟩) n hn))))
        obtain ⟨_, hcl, hat⟩ := World.cells?_some hcs
        refine ⟨x, ⟨cs', hcl, hK, fun j u hj => ?_⟩, hwx⟩
        have hjl := (List.getElem?_eq_some_iff.1 hj).1
        rw [← Go.Deep.add_add, hat j (by omega), hj])
      have hmx : maxLen = 9223372036854775807 := rfl
      refine ⟨xs, ⟨some a, cap, by rw [hlen], by omega, rfl, by rw [hlen]; omega, fun _ => ⟨a, rfl, fun j p hj => (hxs j p hj).1⟩⟩, ?_, fun x hx => ?_⟩
      · rw [hlen]
        simp only [List.length_map, List.length_range] at h1
        exact Nat.le_trans (Nat.mul_le_mul_right _ (Nat.le_add_right _ _)) h1
      · obtain ⟨i, hi', rfl⟩ := List.getElem_of_mem hx
        exact (hxs i _ (List.getElem?_eq_getElem hi')).2
theorem opensFsB_last {α : Type} {P : Program} {d : Kd α} {wf : α → Prop} {f : Field} {o : Nat} (ho : f.offset = o) (hf : OpensB P f.type d wf) : OpensFsB P [f] o d wf where
  read := fun {H enc w base spare held fuel cs} hl h => by
    obtain ⟨y, hy, hw⟩ := h f List.mem_cons_self
    rw [ho, hf.size, List.take_of_length_le (by rw [List.length_drop]; omega)] at hy
    exact hf.read hy hw
theorem opensFsB_cons {α β : Type} {P : Program} {d : Kd α} {d' : Kd β} {wf : α → Prop} {wf' : β → Prop} {f : Field} {fs : List Field} {o o' : Nat} (ho : f.offset = o) (ho' : o' = o + d.sz) (hf : OpensB P f.type d wf) (hr : OpensFsB P fs o' d' wf') :
    OpensFsB P (f :: fs) o (Kd.pair d d') (fun x => wf x.1 ∧ wf' x.2) where
  read := fun {H enc w base spare held fuel cs} hl h => by
    have hsz : (Kd.pair d d').sz = d.sz + d'.sz := rfl
    obtain ⟨y, hy, hwy⟩ := h f List.mem_cons_self
    rw [ho, hf.size] at hy
    obtain ⟨x, hx, hw⟩ := hf.read hy hwy
    obtain ⟨x', hx', hw'⟩ := hr.read (cs := cs) (by omega) (fun g hg => h g (List.mem_cons_of_mem _ hg))
    refine ⟨(x, x'), ⟨_, _, ?_, hx, hx'⟩, hw, hw'⟩
    rw [ho', ← List.drop_drop]
    exact (List.take_append_drop _ _).symm
theorem opensB_struct {α β : Type} {P : Program} {t : TypeId} {d : Kd α} {wf : α → Prop} {fs : Array Field} (f : β → α) (g : α → β) (hfg : ∀ x, f (g x) = x) (hu : P.underlying t = some (.struct fs)) (hc : P.cellsOf t = d.sz)
    (l : List Field) (hl : fs.toList = l) (hf : OpensFsB P l 0 d wf) : OpensB P t (Kd.iso d f) (fun x => wf (f x)) where
  size := hc
  read := fun {H enc w base spare held fuel cs y} h hw => by
    obtain ⟨xs, n, _, rfl, hlen, hxl, hat⟩ := DataW.trod_struct hu h
    simp only [DataW.weights, hu] at hw
    obtain ⟨x, hK, hwx⟩ := hf.read (cs := cs) (enc := enc) (w := w) (base := base) (spare := spare) (held := held) (fuel := n) (by omega) (fun q hq => by
      rw [← hl] at hq
      obtain ⟨i, hi, rfl⟩ := List.getElem_of_mem hq
      have hi' : i < fs.size := by simpa using hi
      have hix : i < xs.length := by omega
      have := hat i fs[i] (Array.getElem?_eq_getElem hi')
      refine ⟨xs[i], ?_, fun n hn => hw n (DataW.weights_mem_each (j := i) (t := fs.toList[i].type) (d := xs[i].1) ?_ ?_ n hn)⟩
      · rw [Array.getElem_toList, this, List.getElem?_eq_getElem]
      · rw [List.getElem?_map, List.getElem?_eq_getElem hi]; rfl
      · rw [List.getElem?_map, List.getElem?_eq_getElem hix]; rfl)
    exact ⟨g x, by show d.K w (f (g x)) cs; rw [hfg]; simpa using hK, by show wf (f (g x)); rw [hfg]; exact hwx⟩
theorem bytes22 : Try.prog.bytesOf 22 = 8 := by kernel_rfl
theorem opB50 : OpensB Try.prog 50 (Kd.slice 22 (Kd.int .u64)) (fun x => (x.length * Try.prog.bytesOf 22 ≤ reachBytes ∧ ∀ y ∈ x, (Lit.int .u64 y).wf = true)) := opensB_slice Try.underlying50 (by kernel_rfl) (opensB_of op22)
def wfB52 (x : S52) : Prop := (x.f0.length * Try.prog.bytesOf 22 ≤ reachBytes ∧ ∀ y ∈ x.f0, (Lit.int .u64 y).wf = true) ∧ (x.f1.length * Try.prog.bytesOf 22 ≤ reachBytes ∧ ∀ y ∈ x.f1, (Lit.int .u64 y).wf = true) ∧ (x.f2.length * Try.prog.bytesOf 22 ≤ reachBytes ∧ ∀ y ∈ x.f2, (Lit.int .u64 y).wf = true)
theorem opB52 : OpensB Try.prog 52 k52 wfB52 := opensB_struct (fun x : S52 => (x.f0, x.f1, x.f2)) (fun p => ⟨p.1, p.2.1, p.2.2⟩) (fun _ => rfl) Try.underlying52 (by kernel_rfl) _ rfl (opensFsB_cons rfl rfl opB50 (opensFsB_cons rfl rfl opB50 (opensFsB_last rfl opB50)))
theorem opB49 : OpensB Try.prog 49 (Kd.slice 52 k52) (fun x => (x.length * Try.prog.bytesOf 52 ≤ reachBytes ∧ ∀ y ∈ x, wfB52 y)) := opensB_slice Try.underlying49 (by kernel_rfl) opB52
end Go.Proofs.Ytojimoebbinhdaa.Opens
