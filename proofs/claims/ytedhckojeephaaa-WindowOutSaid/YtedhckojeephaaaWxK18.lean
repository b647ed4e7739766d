/- Bodies that came (window.In): Take, all its answers in one. -/
import Derived.BigQuiet
import Derived.Deep.AppendLies
import Derived.Deep.DrawnRows
import Derived.Deep.RegionHeld3
import Derived.Deep.RegionLaw
import Derived.IntWalk
import Derived.Lib.Hide
import Derived.Outline
import Derived.Test.YtedhckojeephaaaWxPx0
import Derived.WalkSpells
import Derived.Test.YtedhckojeephaaaWxK4
import Derived.Test.YtedhckojeephaaaWxK9
import Derived.Test.YtedhckojeephaaaWxK11
import Derived.Test.YtedhckojeephaaaWxK12
import Derived.Test.YtedhckojeephaaaWxK13
namespace Go.Proofs.Ytedhckojeephaaa.P
open Go.RowKit Go.Maps Go.Proofs.YtedhckojeephaaaW.PrintWords Go.Proofs.YtedhckojeephaaaW.PrintLast Go.Proofs.YtedhckojeephaaaW.PrintMore
set_option linter.unusedVariables false
set_option linter.unusedSimpArgs false
attribute [local go_sem ↓] Go.wp_at_zero Go.wp_at_succ

/-! ### window_takes: function 23 -/
/-- a window at g: its base, and the map in its field: none, or one in a block of the call's own -/
structure InAt (w0 w : World) (g n : Nat) (base : Int) (mv : Value) (M : Int → Option ByteArray) : Prop where
  blk : w.heap[g]? = some (.cells #[.int .u32 base, mv] 55 (0, 0))
  ge : w0.heap.size ≤ g
  held : (mv = .map none ∧ M = fun _ => none) ∨ ∃ b D m, mv = .map (some b) ∧ w0.heap.size ≤ b ∧ m ≤ n ∧ Own22 w b m D ∧ HasM D M
theorem Chg.mono {S S2 : Nat → Prop} {w w' : World} (h : Chg S w w') (hS : ∀ k, k < w.heap.size → S k → S2 k) : Chg S2 w w' :=
  ⟨h.os, h.tape, h.output, h.size, fun k hk h2 => h.block k hk (fun h3 => h2 (hS k hk h3))⟩
theorem InAt.far {w0 w : World} {g n : Nat} {base : Int} {mv : Value} {M : Int → Option ByteArray} (h : InAt w0 w g n base mv M) {k : Nat} {cs : Array Value} {t : Nat} {fr : Nat × Nat} (hk : w.heap[k]? = some (.cells cs t fr)) : mv ≠ .map (some k) := fun e => by
  rcases h.held with ⟨h1, -⟩ | ⟨b, D, m, h1, -, -, h2, -⟩
  · rw [e] at h1; cases h1
  · rw [e] at h1
    injection h1 with h1
    injection h1 with h1
    subst h1
    exact own_ne h2 hk rfl
theorem InAt.lower {w0 w : World} {g n m : Nat} {base : Int} {mv : Value} {M : Int → Option ByteArray} (h : InAt w0 w g n base mv M) (hnm : n ≤ m) : InAt w0 w g m base mv M :=
  ⟨h.blk, h.ge, h.held.imp_right (fun ⟨b, D, q, h1, h2, h3, h4⟩ => ⟨b, D, q, h1, h2, Nat.le_trans h3 hnm, h4⟩)⟩
/-- what a call of Take leaves behind -/
structure TakeAns (w0 w w' : World) (g n : Nat) (bx seq : Int) (s : ByteArray) (mv : Value) (M : Int → Option ByteArray) (v : Value) (L1 : List ByteArray) (mv1 : Value) (M1 : Int → Option ByteArray) (c : Int) : Prop where
  row : RS w w' v L1
  at_ : InAt w0 w' g (n + 1) (bx + L1.length) mv1 M1
  keep : Chg (fun k => k = g ∨ mv = .map (some k)) w w'
  new : mv1 = mv ∨ ∃ k, mv1 = .map (some k) ∧ w.heap.size ≤ k
  len : L1.length ≤ 16
  ans : (c = 21 ∧ L1 = [] ∧ M1 = M ∧ (seq ≤ bx ∨ M seq ≠ none)) ∨ (c = 0 ∧ bx < seq ∧ M seq = none ∧ L1 = runM (putM M seq s) 17 bx ∧ M1 = cutM (putM M seq s) (bx + L1.length))
theorem TakeAns.same {w0 w : World} {g n : Nat} {bx seq : Int} {s : ByteArray} {mv : Value} {M : Int → Option ByteArray} (hI : InAt w0 w g n bx mv M) (h : seq ≤ bx ∨ M seq ≠ none) : TakeAns w0 w w g n bx seq s mv M (.slice none 0 0) [] mv M 21 :=
  ⟨Kd.R_nil _ _ _ _ _, by have := hI.lower (Nat.le_succ n); simpa using this, Chg.refl _ _, .inl rfl, by simp, .inl ⟨rfl, rfl, rfl, h⟩⟩
theorem wtake_any (w0 w : World) (g n : Nat) (bx seq : Int) (mv : Value) (M : Int → Option ByteArray) (s : ByteArray) (hI : InAt w0 w g n bx mv M) (hlow : ∀ k, M k ≠ none → bx < k ∧ k ≤ bx + 16) (h0 : 0 ≤ bx) (h1 : bx < 1000000) (hs0 : 0 ≤ seq) (h16 : seq ≤ bx + 16) (hn : n < 100000) (hw0 : w0.heap.size ≤ w.heap.size) (hsz : s.size ≤ maxLen) :
    Calls Try.prog 23 #[.pointer (some ⟨g, 0, none⟩), .int .u32 seq, .string s] w fun e w' => ∃ v L1 mv1 M1 c, e = .returned (.tuple #[v, .int .i64 c]) ∧ TakeAns w0 w w' g n bx seq s mv M v L1 mv1 M1 c := by
  obtain ⟨c0, c1, -, -⟩ := cells_2 hI.blk
  by_cases hold : seq ≤ bx
  · refine (wtake_stale g bx seq mv s w c0 hold).mono ?_
    rintro e w1 ⟨rfl, rfl⟩
    exact ⟨_, _, _, _, _, rfl, TakeAns.same hI (.inl hold)⟩
  rcases hI.held with ⟨rfl, rfl⟩ | ⟨b, D, m, rfl, hb, hm, hown, hM⟩
  · refine (wtake_first w g w.heap.size 0 rfl rfl bx seq s hI.blk h0 h1 (by omega) h16 hsz _ rfl).mono ?_
    rintro e w1 ⟨v, D', rfl, T⟩
    refine ⟨v, _, .map (some w.heap.size), _, 0, rfl, T.row, ⟨T.blk, hI.ge, .inr ⟨_, D', 1, rfl, hw0, by omega, T.own, T.has⟩⟩, T.keep.mono (fun k hk h => .inl (h.elim id (fun e => by omega))), .inr ⟨_, rfl, Nat.le_refl _⟩, T.len, .inr ⟨rfl, by omega, rfl, rfl, rfl⟩⟩
  · cases hq : M seq with
    | some t =>
      refine (wtake_there g bx seq b m D M s t w c0 c1 hown hM hq h0 (by omega) (by omega) (by omega)).mono ?_
      rintro e w1 ⟨rfl, rfl⟩
      exact ⟨_, _, _, _, _, rfl, TakeAns.same hI (.inr (by rw [hq]; simp))⟩
    | none =>
      refine (wtake_own w g b m bx seq D M s hI.blk hown hM h0 h1 (by omega) h16 hq hlow (by omega) hsz _ rfl).mono ?_
      rintro e w1 ⟨v, D', rfl, T⟩
      refine ⟨v, _, .map (some b), _, 0, rfl, T.row, ⟨T.blk, hI.ge, .inr ⟨b, D', m + 1, rfl, hb, by omega, T.own, T.has⟩⟩, T.keep.mono (fun k hk h => h.imp_right (fun e => by rw [e])), .inl rfl, T.len, .inr ⟨rfl, by omega, hq, rfl, rfl⟩⟩
end Go.Proofs.Ytedhckojeephaaa.P
