/- ServeOnce: the law's text, walked whole. -/
import Derived.Test.YtdifkcbiifhkeaaOoPx0
import Derived.Test.YtdifkcbiifhkeaaOoK4
import Derived.Test.YtdifkcbiifhkeaaOoK5
import Derived.Test.YtdifkcbiifhkeaaOoK6
namespace Go.Proofs.Ytdifkcbiifhkeaa.P
open Go.RowKit Go.Maps Go.Proofs.YtdifkcbiifhkeaaW.PrintWords Go.Proofs.YtdifkcbiifhkeaaW.PrintLast Go.Proofs.YtdifkcbiifhkeaaW.PrintMore
set_option linter.unusedVariables false
/-! ### trefoillaw33_ServeOnce: function 3 -/
def trefoillaw33_ServeOnce.f (a0 a1_0 a1_1 a1_2 a2 : Int) (l3 : List S42) : Option Bool := if (Lit.int .i64 a0).wf = true ∧ ∀ y ∈ l3, (Lit.int .i64 y.f1.f0).wf = true then some true else none
theorem trefoillaw33_ServeOnce.calls (a0 a1_0 a1_1 a1_2 a2 : Int) (A3 : Option Addr) (c3 : Nat) (l3 : List S42) (r : Bool) (w : World) (hr3 : Kd.C k42 w A3 l3.length l3) (hc3 : l3.length ≤ c3) (h : trefoillaw33_ServeOnce.f a0 a1_0 a1_1 a1_2 a2 l3 = some r) :
    Calls Try.prog 3 #[.int .i64 a0, .agg #[.int .i64 a1_0, .int .i64 a1_1, .int .i64 a1_2], .int .i64 a2, .slice A3 l3.length c3] w fun e w' => e = .returned (.bool r) ∧ Below w.heap.size w w' := by
  unfold trefoillaw33_ServeOnce.f at h
  by_cases hk : (Lit.int .i64 a0).wf = true ∧ ∀ y ∈ l3, (Lit.int .i64 y.f1.f0).wf = true
  case neg => rw [if_neg hk] at h; cases h
  rw [if_pos hk] at h
  obtain rfl := Option.some.inj h
  obtain ⟨hk, hw⟩ := hk
  by_cases hz : tchk (oT a0 a1_2) = 0
  case neg => exact once_bad a0 a1_0 a1_1 a1_2 a2 A3 l3.length c3 w hz
  by_cases hf : a1_1 < 0
  · by_cases hc : a2 = 0
    · subst hc; exact once_refuse0_f a0 a1_0 a1_1 a1_2 A3 c3 l3 w hr3 hw hk hz hf
    · exact once_refuse_f a0 a1_0 a1_1 a1_2 a2 A3 c3 l3 w hr3 hw hk hz hf hc
  by_cases he : a1_0 < 0
  · by_cases hc : a2 = 0
    · subst hc; exact once_refuse0_e a0 a1_0 a1_1 a1_2 A3 c3 l3 w hr3 hw hk hz (by omega) he
    · exact once_refuse_e a0 a1_0 a1_1 a1_2 a2 A3 c3 l3 w hr3 hw hk hz (by omega) he hc
  exact once_grant a0 a1_0 a1_1 a1_2 a2 A3 c3 l3 w hr3 hw hk hz (by omega) (by omega)
end Go.Proofs.Ytdifkcbiifhkeaa.P
