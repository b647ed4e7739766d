/- The table of tickets: what a settled ticket answers. -/
import Derived.Test.YtdifkcbiifhkeaaOoSw4
namespace Go.Proofs.Ytdifkcbiifhkeaa.P
open Go.RowKit Go.Maps Go.Proofs.YtdifkcbiifhkeaaW.PrintWords Go.Proofs.YtdifkcbiifhkeaaW.PrintLast Go.Proofs.YtdifkcbiifhkeaaW.PrintMore
set_option linter.unusedVariables false
set_option linter.unusedSimpArgs false
theorem Stays.E {s s' : Sl} (h : Stays s s') : s'.E = s.E := by
  obtain ⟨h1, h2, h3, h4, h5, h6, h7⟩ := h
  show #[Value.int .i64 s'.own.id, Value.int .i64 s'.own.k, Value.int .i64 s'.own.b, Value.int .i64 s'.own.m, Value.int .i64 s'.own.q, Value.int .i64 s'.own.n, Value.int .i64 s'.own.c, Value.int .i64 s'.state, Value.int .i64 s'.code, Value.int .i64 s'.ep, Value.int .i64 s'.fi, Value.int .i64 s'.co] = _
  rw [h1, h3, h4, h5, h6, h7]
section
variable {w0 w : World} {g mb n : Nat} {D : DU} {M : Sm} {F : Ss} {count id : Int} {p : Nat} {s : Sl} (h : Sets w0 w g mb n D M F count id p s) (hk : (Lit.int .i64 id).wf = true)
include h hk
theorem get_sets : Calls Try.prog 10 #[.pointer (some ⟨g, 0, none⟩), .int .i64 id] w fun e w' => e = .returned (.tuple #[.agg s.E, .bool true]) ∧ Below w.heap.size w w' :=
  (get_ok w0 w g mb n D M F count id p h.tab hk h.hm h.ha).mono fun e w' ⟨he, hb⟩ => ⟨by rw [he, h.st.E], hb⟩
theorem grant_sets (e f c : Int) (hs : s.state ≠ 1) : Calls Try.prog 8 #[.pointer (some ⟨g, 0, none⟩), .int .i64 id, .agg (rC e f c)] w fun e w' => e = .returned (.int .i64 8) ∧ Below w.heap.size w w' :=
  grant_state w0 w g mb n D M F count id p h.tab hk h.hm h.ha e f c (by rw [h.st.2.2.1]; exact hs)
theorem refuse_sets (c : Int) (hs : s.state ≠ 1) : Calls Try.prog 9 #[.pointer (some ⟨g, 0, none⟩), .int .i64 id, .int .i64 c] w fun e w' => e = .returned (.int .i64 8) ∧ Below w.heap.size w w' :=
  refuse_state w0 w g mb n D M F count id p h.tab hk h.hm h.ha c (by rw [h.st.2.2.1]; exact hs)
theorem dup_sets (t : Tk) (ht : t.id = id) (hz : tchk t = 0) : Calls Try.prog 5 #[.pointer (some ⟨g, 0, none⟩), .agg t.C] w fun e w' => e = .returned (.int .i64 41) ∧ Below w.heap.size w w' :=
  ask_dup w0 w g mb n D M F count p t h.tab hz (by rw [ht]; exact hk) (by rw [ht]; exact h.hm) h.ha
end
theorem Sets.below {w0 w w' : World} {g mb n : Nat} {D : DU} {M : Sm} {F : Ss} {count id : Int} {p : Nat} {s : Sl} (h : Sets w0 w g mb n D M F count id p s) (hb : Below w.heap.size w w') : Sets w0 w' g mb n D M F count id p s :=
  ⟨h.tab.below hb, h.hm, h.ha, h.st, h.bn⟩
end Go.Proofs.Ytdifkcbiifhkeaa.P
