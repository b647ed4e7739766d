/- Bodies that came (window.In): Take's answers. -/
import Derived.BigQuiet
import Derived.Deep.AppendLies
import Derived.Deep.DrawnRows
import Derived.Deep.RegionHeld3
import Derived.Deep.RegionLaw
import Derived.IntWalk
import Derived.Lib.Hide
import Derived.Outline
import Derived.Test.YtedhckojeephaaaWxPx0
import Derived.WalkSpells
import Derived.Test.YtedhckojeephaaaWxK4
import Derived.Test.YtedhckojeephaaaWxK9
import Derived.Test.YtedhckojeephaaaWxK10
namespace Go.Proofs.Ytedhckojeephaaa.P
open Go.RowKit Go.Maps Go.Proofs.YtedhckojeephaaaW.PrintWords Go.Proofs.YtedhckojeephaaaW.PrintLast Go.Proofs.YtedhckojeephaaaW.PrintMore
set_option linter.unusedVariables false
set_option linter.unusedSimpArgs false
attribute [local go_sem ↓] Go.wp_at_zero Go.wp_at_succ

/-! ### window_ints: words -/
theorem wrap32 {n : Int} (h0 : 0 ≤ n) (h1 : n < 4294967296) : IntKind.u32.wrap n = n := by rw [IntKind.wrap_u32]; omega
theorem wf32 {k : Int} (h0 : 0 ≤ k) (h1 : k < 4294967296) : (Lit.int .u32 k).wf = true := by
  have a : IntKind.u32.min = 0 := by decide
  have b : IntKind.u32.max = 4294967295 := by decide
  simp [Lit.wf, a, b]; omega
/-! ### window_take: function 23 -/
set_option maxRecDepth 100000 in
theorem wtake_stale (g : Nat) (base seq : Int) (mv : Value) (s : ByteArray) (w : World) (hc : w.cell? ⟨g, 0, none⟩ = some (.int .u32 base)) (h : seq ≤ base) : Calls Try.prog 23 #[.pointer (some ⟨g, 0, none⟩), .int .u32 seq, .string s] w fun e w' => e = .returned (.tuple #[.slice none 0 0, .int .i64 21]) ∧ w = w' := by
  go_enter Try.func23, Try.ntmps23
  go_wp2
  go_ret2
  exact ⟨rfl, rfl⟩
set_option maxRecDepth 100000 in
theorem wtake_far (g : Nat) (base seq : Int) (mv : Value) (s : ByteArray) (w : World) (hc : w.cell? ⟨g, 0, none⟩ = some (.int .u32 base)) (h0 : 0 ≤ base) (h1 : seq < 4294967296) (h2 : base < seq) (h : seq - base > 16) : Calls Try.prog 23 #[.pointer (some ⟨g, 0, none⟩), .int .u32 seq, .string s] w fun e w' => e = .returned (.tuple #[.slice none 0 0, .int .i64 23]) ∧ w = w' := by
  have hd : IntKind.u32.wrap (seq - base) = seq - base := wrap32 (by omega) (by omega)
  go_enter Try.func23, Try.ntmps23
  go_wp2
  go_ret2
  exact ⟨rfl, rfl⟩
set_option maxRecDepth 100000 in
theorem wtake_there (g : Nat) (base seq : Int) (b n : Nat) (D : DU) (M : Int → Option ByteArray) (s t : ByteArray) (w : World) (hc : w.cell? ⟨g, 0, none⟩ = some (.int .u32 base)) (hm : w.cell? ⟨g, 1, none⟩ = some (.map (some b))) (hown : Own22 w b n D) (hM : HasM D M) (hs : M seq = some t) (h0 : 0 ≤ base) (h1 : seq < 4294967296) (h2 : base < seq) (h : seq - base ≤ 16) : Calls Try.prog 23 #[.pointer (some ⟨g, 0, none⟩), .int .u32 seq, .string s] w fun e w' => e = .returned (.tuple #[.slice none 0 0, .int .i64 21]) ∧ w = w' := by
  have hd : IntKind.u32.wrap (seq - base) = seq - base := wrap32 (by omega) (by omega)
  have hl := look_run hown hM (k := seq) (wf32 (by omega) h1)
  rw [hs] at hl
  simp only [lookV] at hl
  clear hown hM hs
  go_enter Try.func23, Try.ntmps23
  go_wp2
  go_ret2
  exact ⟨rfl, rfl⟩
/-! ### window_new: function 23 -/
def cutM (M : Int → Option ByteArray) (b : Int) : Int → Option ByteArray := fun k => if k ≤ b then none else M k
theorem cut_del (M : Int → Option ByteArray) (b : Int) : delM (cutM M b) (b + 1) = cutM M (b + 1) := by
  funext k
  unfold delM cutM
  by_cases h : k = b + 1
  · rw [if_pos h, if_pos (by omega)]
  · rw [if_neg h]
    by_cases h2 : k ≤ b
    · rw [if_pos h2, if_pos (by omega)]
    · rw [if_neg h2, if_neg (by omega)]
theorem cut_at (M : Int → Option ByteArray) (b : Int) : cutM M b (b + 1) = M (b + 1) := by unfold cutM; rw [if_neg (by omega)]
theorem cut_none {M : Int → Option ByteArray} {b : Int} (h : ∀ k, M k ≠ none → b < k) : cutM M b = M := by
  funext k
  unfold cutM
  by_cases hk : k ≤ b
  · rw [if_pos hk]
    cases e : M k with
    | none => rfl
    | some s => have := h k (by rw [e]; simp); omega
  · rw [if_neg hk]
/-- all but the blocks of S stands as it stood -/
structure Chg (S : Nat → Prop) (w w' : World) : Prop where
  os : w'.os = w.os
  tape : w'.tape = w.tape
  output : w'.output = w.output
  size : w.heap.size ≤ w'.heap.size
  block : ∀ k, k < w.heap.size → ¬ S k → w'.heap[k]? = w.heap[k]?
theorem Chg.refl (S : Nat → Prop) (w : World) : Chg S w w := ⟨rfl, rfl, rfl, Nat.le_refl _, fun _ _ _ => rfl⟩
theorem Chg.drew {S : Nat → Prop} {w w' : World} (h : Chg S w w') : Chg S w w'.drew := ⟨h.os, h.tape, h.output, h.size, h.block⟩
theorem Chg.set {S : Nat → Prop} {w w' : World} (h : Chg S w w') {g j : Nat} {v : Value} (hg : S g) : Chg S w (w'.setCell ⟨g, j, none⟩ v) :=
  have b : Below 0 w' (w'.setCell ⟨g, j, none⟩ v) := (Below.refl 0 w').setCell (Nat.zero_le _) v
  ⟨b.os.trans h.os, b.tape.trans h.tape, b.output.trans h.output, Nat.le_trans h.size b.size, fun k hk hS => (Below.heap_setCell _ _ _ _ (fun e => hS (by rw [e]; exact hg))).trans (h.block k hk hS)⟩
theorem Chg.grown {S : Nat → Prop} {w w' w2 : World} (h : Chg S w w') {row : Option Nat} (hg : w'.grownBy w2 row) (hr : ∀ k, row = some k → S k ∨ w.heap.size ≤ k) : Chg S w w2 :=
  ⟨hg.os.trans h.os, hg.tape.trans h.tape, hg.output.trans h.output, Nat.le_trans h.size hg.size, fun k hk hS => (hg.block k (Nat.lt_of_lt_of_le hk h.size) (fun e => (hr k e.symm).elim hS (fun q => by omega))).trans (h.block k hk hS)⟩
theorem Chg.alloc {S : Nat → Prop} {w w' : World} (h : Chg S w w') (o : Obj) : Chg S w (w'.alloc o) := h.grown (World.grownBy_alloc w' o none) (fun k e => by cases e)
theorem Chg.below {S : Nat → Prop} {w0 w w' : World} (h : Chg S w w') (hB : Below w0.heap.size w0 w) (hS : ∀ k, S k → w0.heap.size ≤ k) : Below w0.heap.size w0 w' :=
  ⟨h.os.trans hB.os, h.tape.trans hB.tape, h.output.trans hB.output, Nat.le_trans hB.size h.size, fun k hk => (h.block k (Nat.lt_of_lt_of_le hk hB.size) (fun e => by have := hS k e; omega)).trans (hB.block k hk)⟩
/-- what has been told when j bodies are out -/
structure Told (w wr : World) (g b n : Nat) (base : Int) (M : Int → Option ByteArray) (v : Value) (D : DU) (L1 : List ByteArray) : Prop where
  blk : wr.heap[g]? = some (.cells #[.int .u32 (base + L1.length), .map (some b)] 55 (0, 0))
  lt : g < w.heap.size
  own : Own22 wr b n D
  has : HasM D (cutM M (base + L1.length))
  row : RS w wr v L1
  far : ∀ k, v.ownBlock = some k → k ≠ b
  keep : Chg (fun k => k = g ∨ k = b) w wr
  all : L1 ++ runM M (17 - L1.length) (base + L1.length) = runM M 17 base
  len : L1.length ≤ 16
theorem Told.base {w wr : World} {g b n : Nat} {base : Int} {M : Int → Option ByteArray} {v : Value} {D : DU} {L1 : List ByteArray} (T : Told w wr g b n base M v D L1) : ∀ k, v.ownBlock = some k → w.heap.size ≤ k := fun k hk => Kd.R_base T.row k hk
/-- behind the delete and the count -/
theorem Told.mid {w wr wd w1 : World} {g b n : Nat} {base : Int} {M : Int → Option ByteArray} {v : Value} {D : DU} {L1 : List ByteArray} (T : Told w wr g b n base M v D L1) (hd : wr.grownBy wd none) (h1 : wd.grownBy w1 (some b)) (u : Value) (hne : g ≠ b) :
    RS w (w1.setCell ⟨g, 0, none⟩ u) v L1 ∧ Chg (fun k => k = g ∨ k = b) w (w1.setCell ⟨g, 0, none⟩ u) ∧ (w1.setCell ⟨g, 0, none⟩ u).heap[g]? = some (.cells #[u, .map (some b)] 55 (0, 0)) := by
  have hr := (T.row.grown hd (fun k hk e => by cases e)).grown h1 (fun k hk e => T.far k hk (by injection e with e; exact e.symm))
  refine ⟨hr.move (fun k hk => Below.heap_setCell _ _ _ _ (fun e => ?_)), ((T.keep.grown hd (fun k e => by cases e)).grown h1 (fun k e => by injection e with e; exact .inl (.inr e.symm))).set (.inl rfl), ?_⟩
  · have := T.base k hk; have := T.lt; simp at e; omega
  · have := blk_set (blk_grown (blk_grown T.blk hd (by simp)) h1 (fun e => hne (by injection e))) 0 u
    simpa using this
end Go.Proofs.Ytedhckojeephaaa.P
