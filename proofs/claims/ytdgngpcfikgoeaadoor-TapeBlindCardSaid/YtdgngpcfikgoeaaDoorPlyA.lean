/- A call of both tapes, whatever its kind: what is told, as one statement; TapePlays and TapeBlind lean on it. -/
import Derived.Test.YtdgngpcfikgoeaaDoorPly4
namespace Go.Proofs.YtdgngpcfikgoeaaDoor.P
open Go.RowKit Go.Extern.Stop Go.Stop Go.Extern Go.Proofs.YtdgngpcfikgoeaaDoorW.PrintWords Go.Proofs.YtdgngpcfikgoeaaDoorW.PrintLast Go.Proofs.YtdgngpcfikgoeaaDoorW.PrintMore
set_option linter.unusedVariables false
/-- how far both tapes are read behind a call -/
def actA (l : List Int) (a : Nat) (k N b : Int) : Nat :=
  if k = 0 then takeA l a N else if k = 1 then takeA l a 1 else if k = 2 then numA l a N b else if k = 3 then takeA l a N else if k = 4 then takeA l a 4 else skipA l a N
theorem takeE_len {l m : List Int} (h : l.length = m.length) (a : Nat) (n : Int) : takeE l a n = takeE m a n := by unfold takeE; rw [h]
theorem takeA_len {l m : List Int} (h : l.length = m.length) (a : Nat) (n : Int) : takeA l a n = takeA m a n := by unfold takeA; rw [takeE_len h]
theorem skipA_len {l m : List Int} (h : l.length = m.length) (a : Nat) (n : Int) : skipA l a n = skipA m a n := by unfold skipA skipE; rw [h]
theorem actA_len {l m : List Int} (h : l.length = m.length) (a : Nat) (k N b : Int) : actA l a k N b = actA m a k N b := by
  unfold actA numA
  rw [takeA_len h, takeA_len h, takeA_len h, skipA_len h]
/-- both tapes, new -/
theorem both_new (w w1 : World) (g : Nat) (v : Value) (l : List Int) (A : Option Addr) (c : Nat) (ht : TAt w1 w.heap.size g v l 0) (hb : Below w.heap.size w w1) (hC : Kd.C (Kd.int .u64) w A l.length l) (hd : Door w) :
    Both (w1.alloc (.cells #[.slice A l.length c, .int .i64 0] 54)) w.heap.size g w1.heap.size v l A c 0 := by
  have ha := below_alloc (Below.refl w1.heap.size w1) (.cells #[.slice A l.length c, .int .i64 0] 54)
  have hb2 := below_step hb ha
  have h0 := hd.lt
  exact ⟨ht.below ha, heap_alloc_new w1 _, ⟨w, hC, hb2, ht.ge, hb.size⟩, hd.below hb2 h0, Nat.lt_of_lt_of_le h0 ht.ge, Nat.lt_of_lt_of_le h0 hb.size⟩
def DoesAny : Prop := ∀ (w : World) (B g gr : Nat) (v : Value) (l : List Int) (A : Option Addr) (c a : Nat) (k N b : Int), Both w B g gr v l A c a → l.length ≤ c → (∀ x ∈ l, 0 ≤ x ∧ x < 18446744073709551616) →
    Calls Tryd.prog 21 #[.pointer (some ⟨g, 0, none⟩), .pointer (some ⟨gr, 0, none⟩), .agg #[.int .i64 k, .int .i64 N, .int .i64 b]] w (Does w B g gr v l A c (actA l a k N b))
end Go.Proofs.YtdgngpcfikgoeaaDoor.P
