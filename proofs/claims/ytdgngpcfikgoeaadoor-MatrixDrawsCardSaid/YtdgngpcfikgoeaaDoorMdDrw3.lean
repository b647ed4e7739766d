/- DabitDraws: what is drawn of a tape is the document's. -/
import Derived.Test.YtdgngpcfikgoeaaDoorMdDrw2
import Derived.Test.YtdgngpcfikgoeaaDoorMdLemSame
namespace Go.Proofs.YtdgngpcfikgoeaaDoor.P
open Go.RowKit Go.Extern.Stop Go.Stop Go.Extern Go.Proofs.YtdgngpcfikgoeaaDoorW.PrintWords Go.Proofs.YtdgngpcfikgoeaaDoorW.PrintLast Go.Proofs.YtdgngpcfikgoeaaDoorW.PrintMore
set_option linter.unusedVariables false
set_option linter.unusedSimpArgs false
attribute [local go_sem ↓] Go.wp_at_zero Go.wp_at_succ

/-- an error value and its number -/
def ErrV (w : World) (v : Value) (c : Int) : Prop := (v = .nilIface ∧ c = 0) ∨ ∃ n, ErrIs n w v c
theorem ErrV.below {w w' : World} {v : Value} {c : Int} (h : ErrV w v c) (hb : Below w.heap.size w w') : ErrV w' v c := by
  rcases h with h | ⟨n, h⟩
  · exact .inl h
  · exact .inr ⟨n, h.below hb⟩
theorem code_any (v : Value) (c : Int) (w : World) (h : ErrV w v c) (hd : Door w) : Calls Tryd.prog 18 #[v] w fun e w' => e = .returned (.int .i64 c) ∧ Below w.heap.size w w' := by
  rcases h with ⟨rfl, rfl⟩ | ⟨n, h⟩
  · exact (code_nil w).mono fun e w' ⟨he, hw⟩ => ⟨he, by subst hw; exact Below.refl _ _⟩
  · exact code_ok n v c w h hd
/-- what the program's Draw and the document's come to -/
structure Agree (F : Array Value → World → (Ending → World → Prop) → Prop) (G : Array Value → World → (Ending → World → Prop) → Prop) (cl n : Value) (A : Option Addr) (c : Nat) (l : List Int) (XS : List S86) (E : Int) (a' : Nat) : Prop where
  len : XS.length ≤ 1000 ∧ ∀ x ∈ XS, x.f0.length ≤ 100000 ∧ x.f1.length ≤ 100000 ∧ x.f2.length ≤ 100000
  prog : ∀ (W : World) (B g : Nat) (v : Value), TAt W B g v l 0 → F #[cl, n, .pointer (some ⟨g, 0, none⟩)] W fun e w' => ∃ u ev, e = .returned (.tuple #[u, ev]) ∧ SR W.heap.size w' u XS ∧ ErrV w' ev E ∧ TAt w' B g v l a' ∧ Chg (fun k => k = g) W w'
  doc : ∀ W : World, Kd.C (Kd.int .u64) W A l.length l → G #[cl, n, rT A l.length c 0] W fun e w' => ∃ u, e = .returned (.tuple #[rT A l.length c a', u, .int .i64 E]) ∧ SR W.heap.size w' u XS ∧ Below W.heap.size W w'
theorem shares_ok (A0 : Option Addr) (c0 : Nat) (A1 : Option Addr) (c1 : Nat) (xs : List S86) (w : World) (h0 : Kd.C k86 w A0 xs.length xs) (hc0 : xs.length ≤ c0) (h1 : Kd.C k86 w A1 xs.length xs) (hc1 : xs.length ≤ c1) (hl : xs.length ≤ 1000 ∧ ∀ x ∈ xs, x.f0.length ≤ 100000 ∧ x.f1.length ≤ 100000 ∧ x.f2.length ≤ 100000) :
    Calls Tryd.prog 25 #[.slice A0 xs.length c0, .slice A1 xs.length c1] w fun e w' => e = .returned (.bool true) ∧ Below w.heap.size w w' :=
  (trefoilref22_Shares.calls 101010 A0 c0 xs A1 c1 xs true w h0 hc0 h1 hc1 (Lem.shares_f xs 101010 hl.1 hl.2 (by omega))).mono fun e w' ⟨he, hw⟩ => ⟨he, by first | exact hw | exact hw.below⟩
/-- behind both draws: the document's tape lies at p -/
structure Late (w3 W : World) (A : Option Addr) (n c a : Nat) : Prop where
  bel : Below w3.heap.size w3 W
  k9 : W.heap[w3.heap.size]? = some (.cells #[.slice A n c, .int .i64 (a : Int)] 54 (0, 0))
theorem Late.below {w3 W W1 : World} {A : Option Addr} {n c a : Nat} (h : Late w3 W A n c a) (hb : Below W.heap.size W W1) : Late w3 W1 A n c a := ⟨below_step h.bel hb, (hb.block _ (blk_lt h.k9)).trans h.k9⟩
theorem Late.drew {w3 W : World} {A : Option Addr} {n c a : Nat} (h : Late w3 W A n c a) : Late w3 W.drew A n c a := h.below (below_drew (Below.refl _ _))
theorem late (w3 : World) (A : Option Addr) (n c a : Nat) : Late w3 (w3.alloc (.cells #[.slice A n c, .int .i64 (a : Int)] 54)) A n c a := ⟨below_alloc (Below.refl _ _) _, heap_alloc_new w3 _⟩
end Go.Proofs.YtdgngpcfikgoeaaDoor.P
