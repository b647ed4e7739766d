/- Which shares are of a class: the program's check and the document's come to the same. -/
import Derived.Test.YtcmaidpoolcelaaMfPx0
import Derived.Test.YtcmaidpoolcelaaMfLemShape
namespace Go.Proofs.Ytcmaidpoolcelaa.Lem
open Go.RowKit Go.Proofs.Ytcmaidpoolcelaa.P Go.Proofs.Ytcmaidpoolcelaa.Num Go.Proofs.YtcmaidpoolcelaaW.PrintWords Go.Proofs.YtcmaidpoolcelaaW.PrintMore
set_option linter.unusedVariables false

/-- every number is one of 64 bits -/
def U64s (l : List Int) : Prop := ∀ x ∈ l, 0 ≤ x ∧ x < 18446744073709551616

def lows (w : Nat) (l : List Int) : Bool := l.all fun x => decide (x < ((2 ^ w : Nat) : Int))
theorem rd_drop (l : List Int) (i : Nat) (h : i < l.length) : l.drop i = rd l (i : Int) :: l.drop (i + 1) := by
  rw [List.drop_eq_getElem_cons h]
  congr 1
  simp [rd, h]
theorem rd_mem (l : List Int) (i : Nat) (h : i < l.length) : rd l (i : Int) ∈ l := by
  simp only [rd, Int.toNat_natCast]
  rw [List.getD_eq_getElem?_getD, List.getElem?_eq_getElem h]
  exact List.getElem_mem h
theorem lows_drop (w : Nat) (l : List Int) (i : Nat) (h : i < l.length) : lows w (l.drop i) = (decide (rd l (i : Int) < ((2 ^ w : Nat) : Int)) && lows w (l.drop (i + 1))) := by
  rw [rd_drop l i h]; rfl
end Go.Proofs.Ytcmaidpoolcelaa.Lem
