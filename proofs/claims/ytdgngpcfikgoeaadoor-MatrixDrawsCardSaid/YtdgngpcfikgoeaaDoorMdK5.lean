/- Functions of the program as plain Lean functions, and proofs that the machine's calls do what these do: written by a program of this workplace (wip/tools/pp.py). -/
import Derived.Test.YtdgngpcfikgoeaaDoorMdPx0
import Derived.Test.YtdgngpcfikgoeaaDoorMdK0
import Derived.Test.YtdgngpcfikgoeaaDoorMdK1
import Derived.Test.YtdgngpcfikgoeaaDoorMdK2
import Derived.Test.YtdgngpcfikgoeaaDoorMdK3
namespace Go.Proofs.YtdgngpcfikgoeaaDoor.P
open Go.RowKit Go.Proofs.YtdgngpcfikgoeaaDoorW.PrintWords Go.Proofs.YtdgngpcfikgoeaaDoorW.PrintLast Go.Proofs.YtdgngpcfikgoeaaDoorW.PrintMore
attribute [local go_sem] max2_int min2_int max_two min_two max_three min_three max_four min_four   -- for this text's walks alone
set_option linter.unusedVariables false
set_option linter.unusedSimpArgs false

-- NOT PRINTED: function 7 (trefoillaw25_DabitDraws)

/-! ### ring_Mul: function 58 -/
def ring_Mul.f (a0 : Int) (a1 : Int) (a2 : Int) : Option (Int) := (ring_mask.f a0).bind fun t230 => (some (Go.bits .and .u64 (IntKind.u64.wrap (a1 * a2)) t230))
set_option maxHeartbeats 8000000 in
set_option maxRecDepth 100000 in
theorem ring_Mul.calls (a0 : Int) (a1 : Int) (a2 : Int) (r : Int) (w : World) (h : ring_Mul.f a0 a1 a2 = some r) :
  Calls Tryd.prog 58 #[.int .i64 a0, .int .u64 a1, .int .u64 a2] w fun e w' => e = .returned (.int .u64 r) ∧ Drawn0 w w' := by
 have H : ((ring_mask.f a0).bind fun t230 => (some (Go.bits .and .u64 (IntKind.u64.wrap (a1 * a2)) t230))) = some r := h
 clear h
 replace H := Option.bind_eq_some_iff.mp H
 obtain ⟨t230, A40, H⟩ := H
 replace H : (some (Go.bits .and .u64 (IntKind.u64.wrap (a1 * a2)) t230)) = some r := H
 have A4 := Aside0.mk A40
 clear A40
 obtain rfl := Option.some.inj H
 go_enter Tryd.func58, Tryd.ntmps58
 go_wp2_with (first | ((with_reducible refine gate_callee (f := 65) rfl ?_); refine goesL_ (some 11) rfl rfl Tryd.func65 (by kernel_rfl) rfl #[.int .i64 a0] rfl (by (try simp only [List.map_toArray, List.map_cons, List.map_nil]); first | done | rfl | (simp only [List.length_drop, List.length_take]; rfl)) ?_; (with_reducible refine (ring_mask.calls a0 t230 _ A4.out).mono ?_); rintro e w' ⟨rfl, ⟨nd, rfl⟩⟩; refine ⟨_, rfl, ?_⟩))
 go_ret
 exact ⟨by first | rfl | (simp; done) | (simp [*]; done), by repeat (first | exact Drawn0.refl _ | apply Drawn0.step)⟩
end Go.Proofs.YtdgngpcfikgoeaaDoor.P
