/- The document's network (package trefoilref12): its small functions on values. -/
import Derived.BigQuiet
import Derived.Deep.AppendLies
import Derived.Deep.DrawnRows
import Derived.Deep.RegionHeld3
import Derived.Deep.RegionLaw
import Derived.Deep.RegionWith
import Derived.IntWalk
import Derived.Lib.Hide
import Derived.Outline
import Derived.Test.YtedhckojeephaaaNpPx0
import Derived.WalkSpells
import Derived.Test.YtedhckojeephaaaNpK0
import Derived.Test.YtedhckojeephaaaNpK2
namespace Go.Proofs.Ytedhckojeephaaa.P
open Go.RowKit Go.Proofs.YtedhckojeephaaaW.PrintWords Go.Proofs.YtedhckojeephaaaW.PrintLast Go.Proofs.YtedhckojeephaaaW.PrintMore
set_option linter.unusedVariables false
set_option linter.unusedSimpArgs false

/-! ### ref_net: functions 52 to 57 -/
def pickS : Bool → Value → Value → Value
  | false, x, _ => x
  | true, _, y => y
def putS : Bool → Value → Value → Value → Value
  | false, _, y, v => .agg #[v, y]
  | true, x, _, v => .agg #[x, v]
set_option maxRecDepth 100000 in
theorem r_to (A0 A1 : Option Addr) (n0 n1 c0 c1 : Nat) (t : Int) (b : Bool) (ht : t = toOf b) (w : World) : Calls Try.prog 55 #[.agg #[.slice A0 n0 c0, .slice A1 n1 c1], .int .i64 t] w fun e w' => e = .returned (pickS b (.slice A0 n0 c0) (.slice A1 n1 c1)) ∧ Below w.heap.size w w' := by
  subst ht
  cases b
  all_goals
    simp only [toOf, pickS]
    go_enter Try.func55, Try.ntmps55
    go_wp2
    go_ret
    exact ⟨rfl, below_alloc (Below.refl _ _) _⟩
theorem blk_snd (w : World) (o1 : Obj) (x y : Value) : ((w.alloc o1).alloc (.cells #[x, y] 77)).heap[w.heap.size + 1]? = some (.cells #[x, y] 77 (0, 0)) := by
  have h := heap_alloc_new (w.alloc o1) (.cells #[x, y] 77)
  rw [show (w.alloc o1).heap.size = w.heap.size + 1 by simp] at h
  exact h
set_option maxRecDepth 100000 in
theorem r_with (A0 A1 A : Option Addr) (n0 n1 n c0 c1 c : Nat) (t : Int) (b : Bool) (ht : t = toOf b) (w : World) : Calls Try.prog 52 #[.agg #[.slice A0 n0 c0, .slice A1 n1 c1], .int .i64 t, .slice A n c] w fun e w' => e = .returned (putS b (.slice A0 n0 c0) (.slice A1 n1 c1) (.slice A n c)) ∧ Below w.heap.size w w' := by
  subst ht
  cases b
  all_goals
    simp only [toOf, putS]
    go_enter Try.func52, Try.ntmps52
    go_wp2
    refine bodyPost_ret (results_cell_row rfl _ _ (w.heap.size + 1) 77 _ (0, 0) _ rfl (blk_snd w _ _ _) Try.underlying77 rfl (by kernel_rfl)) rfl ?_
    exact ⟨rfl, below_alloc (below_alloc (Below.refl _ _) _) _⟩
/-- a list's place, or none -/
abbrev okI (L : List ByteArray) (i : Int) : Prop := 0 ≤ i ∧ i < (L.length : Int)
set_option maxRecDepth 100000 in
theorem r_wrong_bad (A0 A1 : Option Addr) (n0 n1 c0 c1 : Nat) (t i : Int) (ht : t < 0 ∨ t > 1) (w : World) : Calls Try.prog 56 #[.agg #[.slice A0 n0 c0, .slice A1 n1 c1], .int .i64 t, .int .i64 i] w fun e w' => e = .returned (.int .i64 1) ∧ Below w.heap.size w w' := by
  rcases ht with ht | ht
  all_goals
    go_enter Try.func56, Try.ntmps56
    go_wp2
    all_goals
      go_ret
      exact ⟨rfl, below_alloc (Below.refl _ _) _⟩
set_option maxRecDepth 100000 in
theorem r_wrong (A0 A1 : Option Addr) (c0 c1 : Nat) (F : Bool → List ByteArray) (t i : Int) (b : Bool) (ht : t = toOf b) (w : World) : Calls Try.prog 56 #[.agg #[.slice A0 (F false).length c0, .slice A1 (F true).length c1], .int .i64 t, .int .i64 i] w fun e w' => e = .returned (.int .i64 (if okI (F b) i then 0 else 6)) ∧ Below w.heap.size w w' := by
  have h01 := toOf_01 b
  have hp : ∃ A c, pickS b (.slice A0 (F false).length c0) (.slice A1 (F true).length c1) = .slice A (F b).length c := by cases b <;> exact ⟨_, _, rfl⟩
  obtain ⟨A, c, hp⟩ := hp
  have HT := Lib.hid ht
  have HP := Lib.hid hp
  rw [← ht] at h01
  have g0 : 0 ≤ t := by omega
  have g1 : t ≤ 1 := by omega
  clear ht hp h01
  unfold okI
  by_cases h0 : i < 0
  · rw [if_neg (by omega)]
    go_enter Try.func56, Try.ntmps56
    go_wp2
    go_ret
    exact ⟨rfl, below_alloc (Below.refl _ _) _⟩
  · by_cases h1 : i < ((F b).length : Int)
    · rw [if_pos (by omega)]
      have k0 : 0 ≤ i := by omega
      clear h0
      go_enter Try.func56, Try.ntmps56
      go_wp2_with (go_at_call 55; refine (r_to A0 A1 _ _ c0 c1 t b HT.out _).mono ?_; rintro e w1 ⟨rfl, hb⟩; rw [HP.out]; have HB := Aside0.mk hb; clear hb)
      go_ret
      exact ⟨rfl, below_step (below_alloc (Below.refl _ _) _) HB.out⟩
    · rw [if_neg (by omega)]
      have k0 : 0 ≤ i := by omega
      have k1 : ((F b).length : Int) ≤ i := by omega
      clear h0 h1
      go_enter Try.func56, Try.ntmps56
      go_wp2_with (go_at_call 55; refine (r_to A0 A1 _ _ c0 c1 t b HT.out _).mono ?_; rintro e w1 ⟨rfl, hb⟩; rw [HP.out]; have HB := Aside0.mk hb; clear hb)
      go_ret
      exact ⟨rfl, below_step (below_alloc (Below.refl _ _) _) HB.out⟩
end Go.Proofs.Ytedhckojeephaaa.P
