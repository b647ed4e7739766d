/- slices.Clone, and what is made of it. -/
import Derived.IntWalk
import Derived.Lib.Hide
import Derived.Outline
import Derived.Test.YtojimoebbinhdaaTrPx0
import Derived.WalkSpells
namespace Go.Proofs.Ytojimoebbinhdaa.P
open Go.RowKit Go.Proofs.YtojimoebbinhdaaW.PrintWords Go.Proofs.YtojimoebbinhdaaW.PrintLast Go.Proofs.YtojimoebbinhdaaW.PrintMore
set_option linter.unusedVariables false
set_option linter.unusedSimpArgs false

theorem R_empty {α : Type} (d : Kd α) (W : World) (base e : Nat) {ok : Nat → Prop} (hok : ok W.heap.size) (hbase : base ≤ W.heap.size) :
    d.R e (W.alloc (.cells #[] e)) base ok (.slice (some ⟨W.heap.size, 0, none⟩) 0 0) ([] : List α) := by
  refine ⟨fun k hk => ?_, [], ⟨by simp, .inr ⟨W.heap.size, 0, #[], rfl, hbase, heap_alloc_new W _, Nat.le_refl _, by unfold maxLen; omega, by simp, by simp⟩⟩, Reps.none _ _⟩
  have : W.heap.size = k := by simpa [Value.ownBlock] using hk
  subst this
  exact hok
theorem C_none {α : Type} {d : Kd α} {w : World} {n : Nat} {xs : List α} (h : d.C w none n xs) : xs = [] := by
  have h0 := h.1
  rcases Nat.eq_zero_or_pos n with h1 | h1
  · exact List.eq_nil_of_length_eq_zero (by omega)
  · obtain ⟨ad, he, _⟩ := h.2.2 h1
    cases he

set_option maxHeartbeats 400000 in
theorem clone_u64.calls (A : Option Addr) (c : Nat) (l : List Int) (w : World) (hr : Kd.C (Kd.int .u64) w A l.length l) (hs : l.length * 8 ≤ 140737488355328) :
    Calls Try.prog 34 #[.slice A l.length c] w fun e w' => ∃ v, e = .returned v ∧ Kd.R (Kd.int .u64) 22 w' w.heap.size (fun _ => True) v l ∧ Below w.heap.size w w' := by
  have q : ∀ (w : World) (a : Option Addr) (n c n' c' : Nat), (binOp .eql 50 (.slice a n c) (.slice none n' c')).run Try.prog w = .ok (.bool a.isNone) w := fun w a n c n' c' => Lib.run_eql_slice_nil w _ _ a n c n' c' Try.underlying50
  have HR := Aside0.mk hr
  clear hr
  cases A with
  | none =>
    have HL := Aside0.mk (C_none HR.out)
    go_enter Try.func34, Try.ntmps34
    go_wp2
    go_ret
    refine ⟨_, rfl, ?_, Below.refl _ _⟩
    rw [HL.out]
    exact Kd.R_nil _ _ _ _ _
  | some ad =>
    go_enter Try.func34, Try.ntmps34
    go_wp2_with (at_builtin; refine Kd.R_append_rows (Kd.int .u64) (Rr := (Kd.int .u64).K w) (w0 := w) w.heap.size rfl (.tmp 5) (.tmp 6) 50 22 (.int .u64 0) 8 rfl Try.underlying50 info22 rfl (by decide) (by omega) (.slice (some ⟨w.heap.size, 0, none⟩) 0 0) [] l (some ad) l.length c (fun _ => True) (fun _ => False) rfl rfl ?aO ?aR ?aK (fun _ hk => hk.elim) (fun _ _ => trivial) ?aB ?aS ?aL ?_; (case aO => exact R_empty _ _ _ _ trivial (Nat.le_refl _)); (case aR => exact Kd.C_alloc HR.out _); (case aK => exact fun _ _ h => h); (case aB => exact below_alloc (Below.refl _ _) _); (case aS => simp); (case aL => simpa using hs); intro v w1 ho hb hg hat)
    go_ret
    exact ⟨v, rfl, ho, hb⟩
end Go.Proofs.Ytojimoebbinhdaa.P
