/- WindowOut: what the document's own answer does, in one state with the program's. -/
import Derived.BigQuiet
import Derived.Deep.AppendLies
import Derived.Deep.DrawnRows
import Derived.Deep.RegionHeld3
import Derived.Deep.RegionLaw
import Derived.IntWalk
import Derived.Lib.Hide
import Derived.Outline
import Derived.Test.YtedhckojeephaaaWxPx0
import Derived.WalkSpells
import Derived.Test.YtedhckojeephaaaWxK1
import Derived.Test.YtedhckojeephaaaWxK2
import Derived.Test.YtedhckojeephaaaWxK3
import Derived.Test.YtedhckojeephaaaWxK4
import Derived.Test.YtedhckojeephaaaWxK11
import Derived.Test.YtedhckojeephaaaWxK15
import Derived.Test.YtedhckojeephaaaWxK16
import Derived.Test.YtedhckojeephaaaWxK17
import Derived.Test.YtedhckojeephaaaWxK19
namespace Go.Proofs.Ytedhckojeephaaa.P
open Go.RowKit Go.Maps Go.Proofs.YtedhckojeephaaaW.PrintWords Go.Proofs.YtedhckojeephaaaW.PrintLast Go.Proofs.YtedhckojeephaaaW.PrintMore
set_option linter.unusedVariables false
set_option linter.unusedSimpArgs false
attribute [local go_sem ↓] Go.wp_at_zero Go.wp_at_succ

/-! ### window_plain: words -/
theorem w64 {x : Int} (h0 : -9223372036854775808 ≤ x) (h1 : x ≤ 9223372036854775807) : wrap64 x = x := by unfold wrap64; omega
theorem rnext_f (rb : Nat) (RL : List ByteArray) (rc : Int) (hb : rb + RL.length ≤ 4294967294) : trefoilref13_Out_Next.f rb RL rc = some ((rb : Int) + RL.length + 1) := by
  unfold trefoilref13_Out_Next.f
  rw [w64 (x := (rb : Int) + RL.length) (by omega) (by omega), w64 (by omega) (by omega)]
theorem rput_full (rb rc : Nat) (RL : List ByteArray) (s : ByteArray) (hl : RL.length ≤ 100) (h : RL.length ≥ rc + 16) : trefoilref13_Out_Put.f rb RL rc s = some ((rb : Int), RL, (rc : Int), 0, 23) := by
  unfold trefoilref13_Out_Put.f
  rw [w64 (by omega) (by omega), if_pos (by omega)]
theorem rput_count (rb rc : Nat) (RL : List ByteArray) (s : ByteArray) (hl : RL.length ≤ 100) (hc : rc ≤ RL.length) (h : RL.length < rc + 16) (hb : rb + RL.length ≤ 4294967294) (hn : rb + RL.length + 1 > 4294967294) : trefoilref13_Out_Put.f rb RL rc s = some ((rb : Int), RL, (rc : Int), 0, 24) := by
  unfold trefoilref13_Out_Put.f
  rw [w64 (by omega) (by omega), if_neg (by omega), rnext_f rb RL rc hb, Option.bind_some, if_pos (by omega)]
theorem rput_ok (rb rc : Nat) (RL : List ByteArray) (s : ByteArray) (hl : RL.length ≤ 100) (hc : rc ≤ RL.length) (h : RL.length < rc + 16) (hn : rb + RL.length + 1 ≤ 4294967294) : trefoilref13_Out_Put.f rb RL rc s = some ((rb : Int), RL ++ [s], (rc : Int), (rb : Int) + RL.length + 1, 0) := by
  unfold trefoilref13_Out_Put.f
  rw [w64 (by omega) (by omega), if_neg (by omega), rnext_f rb RL rc (by omega), Option.bind_some, if_neg (by omega), Option.bind_some, Option.bind_some, if_pos (by simp; omega), Option.bind_some, if_pos (by simp; omega)]
  rfl
theorem rack_gap (rb rc : Nat) (RL : List ByteArray) (n : Int) (hb : rb + RL.length ≤ 4294967294) (h : n = 0 ∨ n > rb + RL.length + 1) : trefoilref13_Out_Ack.f 1 rb RL rc n = some ((rb : Int), RL, (rc : Int), 22) := by
  unfold trefoilref13_Out_Ack.f
  by_cases h0 : n = 0
  · rw [if_pos h0]; rfl
  · rw [if_neg h0, rnext_f rb RL rc hb, Option.bind_some, decide_eq_true (by omega : n > (rb : Int) + RL.length + 1)]; rfl
theorem rack_ok (rb rc : Nat) (RL : List ByteArray) (n : Int) (hb : rb + RL.length ≤ 4294967294) (h0 : 0 < n) (h1 : n ≤ rb + RL.length + 1) : trefoilref13_Out_Ack.f 1 rb RL rc n = some ((rb : Int), RL, (if n - 1 - rb > rc then n - 1 - rb else (rc : Int)), 0) := by
  unfold trefoilref13_Out_Ack.f
  rw [if_neg (by omega), rnext_f rb RL rc hb, Option.bind_some, decide_eq_false (by omega : ¬ n > (rb : Int) + RL.length + 1)]
  simp only [trefoilref13_Out_Ack.j0]
  rw [if_neg (by simp), w64 (x := n - 1) (by omega) (by omega), w64 (by omega) (by omega)]
  split <;> rfl
def to96 (x : S57) : S96 := ⟨x.f0, x.f1⟩
theorem told_l0 (xs : List S57) (hl : xs.length ≤ 100) : ∀ (k : Nat) (acc : List S96) (i : Nat), i ≤ xs.length → acc.length ≤ i → xs.length - i < k → trefoillaw13_told.l0 k xs acc i = some (acc ++ (xs.drop i).map to96)
  | 0, acc, i, _, _, h => by omega
  | k + 1, acc, i, hi, ha, h => by
    unfold trefoillaw13_told.l0
    by_cases hlt : i < xs.length
    · rw [if_pos (by omega), if_pos (by omega), if_pos (by omega), w64 (by omega) (by omega), show ((i : Int) + 1) = ((i + 1 : Nat) : Int) by omega, told_l0 xs hl k _ (i + 1) (by omega) (by simp; omega) (by omega)]
      rw [List.drop_eq_getElem_cons hlt, List.map_cons, List.append_assoc, List.singleton_append]
      congr 3
      unfold rd_T57
      rw [Int.toNat_natCast, List.getD_eq_getElem?_getD, List.getElem?_eq_getElem hlt]
      rfl
    · rw [if_neg (by omega), List.drop_of_length_le (by omega)]
      simp
theorem told_f (xs : List S57) (hl : xs.length ≤ 100) : trefoillaw13_told.f (xs.length + 1) xs = some (xs.map to96) := by
  have h := told_l0 xs hl (xs.length + 1) [] 0 (by omega) (by simp) (by omega)
  simpa [trefoillaw13_told.f] using h
theorem rpend_l0 (rb : Nat) (RL : List ByteArray) (rc : Int) (hl : RL.length ≤ 100) (hb : rb + RL.length ≤ 4294967294) : ∀ (k : Nat) (acc : List S96) (i : Nat), i ≤ RL.length → acc.length ≤ i → RL.length - i < k → trefoilref13_Out_Pending.l0 k acc i rb RL rc = some (acc ++ (pendL ((rb : Int) + i) (RL.drop i)).map to96)
  | 0, acc, i, _, _, h => by omega
  | k + 1, acc, i, hi, ha, h => by
    unfold trefoilref13_Out_Pending.l0
    by_cases hlt : i < RL.length
    · rw [if_pos (by omega), if_pos (by omega), if_pos (by omega), w64 (x := (i : Int) + 1) (by omega) (by omega), w64 (x := (rb : Int) + i) (by omega) (by omega), w64 (by omega) (by omega), Int.emod_eq_of_lt (by omega) (by omega), show ((i : Int) + 1) = ((i + 1 : Nat) : Int) by omega, rpend_l0 rb RL rc hl hb k _ (i + 1) (by omega) (by simp; omega) (by omega)]
      rw [List.drop_eq_getElem_cons hlt, pendL, List.map_cons, List.append_assoc, List.singleton_append, show (rb : Int) + ((i + 1 : Nat) : Int) = (rb : Int) + i + 1 by omega]
      congr 3
      rw [rdOf, Int.toNat_natCast, List.getD_eq_getElem?_getD, List.getElem?_eq_getElem hlt]
      rfl
    · rw [if_neg (by omega), List.drop_of_length_le (by omega)]
      simp [pendL]
theorem rpend_f (rb rc : Nat) (RL : List ByteArray) (hl : RL.length ≤ 100) (hb : rb + RL.length ≤ 4294967294) (hc : rc ≤ RL.length) : trefoilref13_Out_Pending.f (RL.length + 1) rb RL rc = some ((pendL ((rb : Int) + rc) (RL.drop rc)).map to96) := by
  have h := rpend_l0 rb RL rc hl hb (RL.length + 1) [] rc hc (by simp) (by omega)
  simpa [trefoilref13_Out_Pending.f] using h
theorem same_l0 (xs : List S96) (hl : xs.length ≤ 100) : ∀ (k : Nat) (i : Nat), i ≤ xs.length → xs.length - i < k → trefoilref13_Same.l0 k xs xs i = some true
  | 0, i, _, h => by omega
  | k + 1, i, hi, h => by
    unfold trefoilref13_Same.l0
    by_cases hlt : i < xs.length
    · rw [if_pos (by omega), if_pos (by omega), if_pos (by omega), if_neg (by simp), w64 (by omega) (by omega), show ((i : Int) + 1) = ((i + 1 : Nat) : Int) by omega]
      exact same_l0 xs hl k (i + 1) (by omega) (by omega)
    · rw [if_neg (by omega)]
theorem same_f (xs : List S96) (hl : xs.length ≤ 100) : trefoilref13_Same.f (xs.length + 1) xs xs = some true := by
  unfold trefoilref13_Same.f
  rw [if_pos rfl]
  exact same_l0 xs hl (xs.length + 1) 0 (by omega) (by omega)
/-! ### window_two: the calls -/
/-- the program's state at g1, the document's at g2 -/
structure OutTwo (w0 w : World) (g1 g2 : Nat) (pb : Int) (PL : List ByteArray) (vo : Value) (rb rc : Int) (RL : List ByteArray) (vr : Value) : Prop where
  out : OutAt w0 w g1 pb vo PL
  ref : w.heap[g2]? = some (.cells #[.int .i64 rb, vr, .int .i64 rc] 29 (0, 0))
  ge2 : w0.heap.size ≤ g2
  row : RS w0 w vr RL
  ne : ∀ k, vo.ownBlock = some k → vr.ownBlock ≠ some k
  bel : Below w0.heap.size w0 w
theorem OutTwo.below {w0 w w' : World} {g1 g2 : Nat} {pb : Int} {PL : List ByteArray} {vo : Value} {rb rc : Int} {RL : List ByteArray} {vr : Value} (h : OutTwo w0 w g1 g2 pb PL vo rb rc RL vr) (hb : Below w.heap.size w w') : OutTwo w0 w' g1 g2 pb PL vo rb rc RL vr :=
  have hc := Chg.of_below hb
  ⟨h.out.chg hc (fun e => e) (fun _ _ e => e), (hb.block g2 (blk_lt h.ref)).trans h.ref, h.ge2, h.row.chg hc (fun _ _ e => e), h.ne, below_step h.bel hb⟩
theorem OutTwo.g_ne {w0 w : World} {g1 g2 : Nat} {pb : Int} {PL : List ByteArray} {vo : Value} {rb rc : Int} {RL : List ByteArray} {vr : Value} (h : OutTwo w0 w g1 g2 pb PL vo rb rc RL vr) : g1 ≠ g2 := fun e => by
  have h1 := h.out.blk
  rw [e, h.ref] at h1
  injection h1 with h1
  injection h1 with _ h1
  exact absurd h1 (by decide)
theorem OutTwo.vo_ne {w0 w : World} {g1 g2 : Nat} {pb : Int} {PL : List ByteArray} {vo : Value} {rb rc : Int} {RL : List ByteArray} {vr : Value} (h : OutTwo w0 w g1 g2 pb PL vo rb rc RL vr) : vo.ownBlock ≠ some g1 ∧ vo.ownBlock ≠ some g2 ∧ vr.ownBlock ≠ some g1 ∧ vr.ownBlock ≠ some g2 :=
  ⟨fun e => Kd.R_ne h.out.row h.out.blk (by decide) e.symm, fun e => Kd.R_ne h.out.row h.ref (by decide) e.symm, fun e => Kd.R_ne h.row h.out.blk (by decide) e.symm, fun e => Kd.R_ne h.row h.ref (by decide) e.symm⟩
theorem two_put {w0 w : World} {g1 g2 : Nat} {pb : Int} {PL : List ByteArray} {vo : Value} {rb rc : Int} {RL : List ByteArray} {vr : Value} (h : OutTwo w0 w g1 g2 pb PL vo rb rc RL vr) (s : ByteArray) (hl : PL.length < 16) (h0 : 0 ≤ pb) (h1 : pb + PL.length + 1 ≤ 4294967294) :
    Calls Try.prog 12 #[.pointer (some ⟨g1, 0, none⟩), .string s] w fun e w' => e = .returned (.tuple #[.int .u32 (pb + (PL.length + 1 : Nat)), .int .i64 0]) ∧ ∃ vo', OutTwo w0 w' g1 g2 pb (PL ++ [s]) vo' rb rc RL vr := by
  obtain ⟨n1, n2, n3, n4⟩ := h.vo_ne
  refine (wput_ok w0 w g1 pb vo PL s h.out h.bel hl h0 h1).mono ?_
  rintro e w1 ⟨v1, rfl, ho, hc, hn1⟩
  refine ⟨rfl, v1, ho, (hc.block g2 (blk_lt h.ref) (fun e => e.elim (fun e => h.g_ne e.symm) n2)).trans h.ref, h.ge2, h.row.chg hc (fun k hk e => e.elim (fun e => n3 (by rw [hk, e])) (fun e => h.ne k e hk)), fun k hk e => ?_, hc.below h.bel (fun k hk => hk.elim (fun e => by rw [e]; exact h.out.ge) (fun e => Kd.R_base h.out.row k e))⟩
  rcases hn1 with h1 | ⟨j, h1, h2⟩
  · exact h.ne k (by rw [← h1]; exact hk) e
  · rw [hk] at h1
    injection h1 with h1
    have := Kd.R_lt h.row k e
    omega
theorem two_ack {w0 w : World} {g1 g2 : Nat} {pb : Int} {PL : List ByteArray} {vo : Value} {rb rc : Int} {RL : List ByteArray} {vr : Value} (h : OutTwo w0 w g1 g2 pb PL vo rb rc RL vr) (n : Int) (hl : PL.length ≤ 16) (h0 : 0 ≤ pb) (h1 : pb + PL.length + 1 < 4294967296) (hn1 : pb + 1 < n) (hn : n ≤ pb + PL.length + 1) :
    Calls Try.prog 14 #[.pointer (some ⟨g1, 0, none⟩), .int .u32 n] w fun e w' => e = .returned (.int .i64 0) ∧ ∃ vo', OutTwo w0 w' g1 g2 (n - 1) (PL.drop (n - 1 - pb).toNat) vo' rb rc RL vr := by
  obtain ⟨n1, n2, n3, n4⟩ := h.vo_ne
  refine (wack_ok w0 w g1 pb n vo PL h.out h0 h1 hl hn1 hn).mono ?_
  rintro e w1 ⟨v1, rfl, ho, hc, hnew⟩
  refine ⟨rfl, v1, ho, (hc.block g2 (blk_lt h.ref) (fun e => h.g_ne e.symm)).trans h.ref, h.ge2, h.row.chg hc (fun k hk e => n3 (by rw [hk, e])), fun k hk e => ?_, hc.below h.bel (fun k hk => by rw [hk]; exact h.out.ge)⟩
  have := hnew k hk
  have := Kd.R_lt h.row k e
  omega
/-- what a call on the document's answer leaves: its state stands apart, in a value -/
structure OutVal (w0 w : World) (g1 g2 : Nat) (pb : Int) (PL : List ByteArray) (vo : Value) (RL : List ByteArray) (v1 : Value) : Prop where
  out : OutAt w0 w g1 pb vo PL
  ref : ∃ a b c : Value, w.heap[g2]? = some (.cells #[a, b, c] 29 (0, 0))
  ge2 : w0.heap.size ≤ g2
  row : RS w0 w v1 RL
  ne : ∀ k, vo.ownBlock = some k → v1.ownBlock ≠ some k
  bel : Below w0.heap.size w0 w
theorem val_of {w0 w w' : World} {g1 g2 : Nat} {pb : Int} {PL : List ByteArray} {vo : Value} {rb rc : Int} {RL L1 : List ByteArray} {vr v1 : Value} (h : OutTwo w0 w g1 g2 pb PL vo rb rc RL vr) (ho : Kd.R Kd.string 9 w' w0.heap.size (fun k => some k = vr.ownBlock ∨ w.heap.size ≤ k) v1 L1) (hb : Below w0.heap.size w0 w') (hk : Kept w w' (fun k => some k = vr.ownBlock)) :
    OutVal w0 w' g1 g2 pb PL vo L1 v1 ∧ ∀ (k : Nat) (cs : Array Value), w.heap[k]? = some (.cells cs 29 (0, 0)) → w'.heap[k]? = some (.cells cs 29 (0, 0)) := by
  obtain ⟨n1, n2, n3, n4⟩ := h.vo_ne
  have hc : Chg (fun k => some k = vr.ownBlock) w w' := ⟨hb.os.trans h.bel.os.symm, hb.tape.trans h.bel.tape.symm, hb.output.trans h.bel.output.symm, hk.1, hk.2⟩
  have hall : ∀ (k : Nat) (cs : Array Value), w.heap[k]? = some (.cells cs 29 (0, 0)) → w'.heap[k]? = some (.cells cs 29 (0, 0)) := fun k cs hq => (hc.block k (blk_lt hq) (fun e => Kd.R_ne h.row hq (by decide) e)).trans hq
  refine ⟨⟨h.out.chg hc (fun e => n3 e.symm) (fun k hk e => h.ne k hk e.symm), ⟨_, _, _, hall g2 _ h.ref⟩, h.ge2, Kd.R_mono ho (fun _ _ => trivial), fun k hk e => ?_, hb⟩, hall⟩
  rcases ho.1 k e with h1 | h1
  · exact h.ne k hk h1.symm
  · have := Kd.R_lt h.out.row k hk
    omega
theorem two_rput {w0 w : World} {g1 g2 : Nat} {pb : Int} {PL : List ByteArray} {vo : Value} {rb rc : Int} {RL : List ByteArray} {vr : Value} (h : OutTwo w0 w g1 g2 pb PL vo rb rc RL vr) (s : ByteArray) (r1 : Int) (L1 : List ByteArray) (r3 r4 r5 : Int) (hf : trefoilref13_Out_Put.f rb RL rc s = some (r1, L1, r3, r4, r5)) :
    Calls Try.prog 13 #[.agg #[.int .i64 rb, vr, .int .i64 rc], .string s] w fun e w' => ∃ v1, e = .returned (.tuple #[.agg #[.int .i64 r1, v1, .int .i64 r3], .int .i64 r4, .int .i64 r5]) ∧ OutVal w0 w' g1 g2 pb PL vo L1 v1 ∧ ∀ (k : Nat) (cs : Array Value), w.heap[k]? = some (.cells cs 29 (0, 0)) → w'.heap[k]? = some (.cells cs 29 (0, 0)) := by
  refine (trefoilref13_Out_Put.calls rb _ vr RL rc s r1 L1 r3 r4 r5 w0 w h.bel (Kd.R_tight rfl h.row) hf).mono ?_
  rintro e w1 ⟨v1, rfl, ho, hb, hk⟩
  exact ⟨v1, rfl, val_of h ho hb hk⟩
theorem two_rack {w0 w : World} {g1 g2 : Nat} {pb : Int} {PL : List ByteArray} {vo : Value} {rb rc : Int} {RL : List ByteArray} {vr : Value} (h : OutTwo w0 w g1 g2 pb PL vo rb rc RL vr) (n : Int) (r1 : Int) (L1 : List ByteArray) (r3 r4 : Int) (hf : trefoilref13_Out_Ack.f 1 rb RL rc n = some (r1, L1, r3, r4)) :
    Calls Try.prog 15 #[.agg #[.int .i64 rb, vr, .int .i64 rc], .int .i64 n] w fun e w' => ∃ v1, e = .returned (.tuple #[.agg #[.int .i64 r1, v1, .int .i64 r3], .int .i64 r4]) ∧ OutVal w0 w' g1 g2 pb PL vo L1 v1 ∧ ∀ (k : Nat) (cs : Array Value), w.heap[k]? = some (.cells cs 29 (0, 0)) → w'.heap[k]? = some (.cells cs 29 (0, 0)) := by
  refine (trefoilref13_Out_Ack.calls 1 rb _ vr RL rc n r1 L1 r3 r4 w0 w h.bel (Kd.R_tight rfl h.row) hf).mono ?_
  rintro e w1 ⟨v1, rfl, ho, hb, hk⟩
  exact ⟨v1, rfl, val_of h ho hb hk⟩
theorem two_put_any {w0 w : World} {g1 g2 rb rc : Nat} {vo : Value} {RL : List ByteArray} {vr : Value} (h : OutTwo w0 w g1 g2 ((rb : Int) + rc) (RL.drop rc) vo rb rc RL vr) (s : ByteArray) (hl : RL.length ≤ 99) (hc : rc ≤ RL.length) (h16 : RL.length ≤ rc + 16) (hb : rb + RL.length ≤ 4294967294) :
    Calls Try.prog 12 #[.pointer (some ⟨g1, 0, none⟩), .string s] w fun e w' => ∃ (RL' : List ByteArray) (n : Nat) (c : Int) (vo' : Value), e = .returned (.tuple #[.int .u32 (n : Int), .int .i64 c]) ∧ OutTwo w0 w' g1 g2 ((rb : Int) + rc) (RL'.drop rc) vo' rb rc RL vr ∧ trefoilref13_Out_Put.f rb RL rc s = some ((rb : Int), RL', (rc : Int), (n : Int), c) ∧ n < 4294967296 ∧ RL'.length ≤ RL.length + 1 ∧ rc ≤ RL'.length ∧ RL'.length ≤ rc + 16 ∧ rb + RL'.length ≤ 4294967294 := by
  have hd : (RL.drop rc).length = RL.length - rc := List.length_drop
  by_cases hf : RL.length ≥ rc + 16
  · refine (wput_full w0 w g1 _ vo _ s h.out (by omega)).mono ?_
    rintro e w1 ⟨rfl, rfl⟩
    exact ⟨RL, 0, 23, vo, rfl, h, rput_full rb rc RL s (by omega) hf, by omega, by omega, hc, h16, hb⟩
  by_cases hn : rb + RL.length + 1 > 4294967294
  · refine (wput_count w0 w g1 _ vo _ s h.out (by omega) (by omega) (by omega) (by omega)).mono ?_
    rintro e w1 ⟨rfl, rfl⟩
    exact ⟨RL, 0, 24, vo, rfl, h.below (below_drew (Below.refl _ _)), rput_count rb rc RL s (by omega) hc (by omega) hb hn, by omega, by omega, hc, h16, hb⟩
  · refine (two_put h s (by omega) (by omega) (by omega)).mono ?_
    rintro e w1 ⟨rfl, vo', ht⟩
    refine ⟨RL ++ [s], rb + RL.length + 1, 0, vo', ?_, ?_, ?_, by omega, by simp, by simp; omega, by simp; omega, by simp; omega⟩
    · rw [hd, show (rb : Int) + rc + ((RL.length - rc + 1 : Nat) : Int) = ((rb + RL.length + 1 : Nat) : Int) by omega]
    · rw [List.drop_append_of_le_length hc]; exact ht
    · rw [rput_ok rb rc RL s (by omega) hc (by omega) (by omega)]
      simp
theorem two_ack_any {w0 w : World} {g1 g2 rb rc : Nat} {vo : Value} {RL : List ByteArray} {vr : Value} (h : OutTwo w0 w g1 g2 ((rb : Int) + rc) (RL.drop rc) vo rb rc RL vr) (n : Int) (hn0 : 0 ≤ n) (hc : rc ≤ RL.length) (h16 : RL.length ≤ rc + 16) (hb : rb + RL.length ≤ 4294967294) :
    Calls Try.prog 14 #[.pointer (some ⟨g1, 0, none⟩), .int .u32 n] w fun e w' => ∃ (rc' : Nat) (c : Int) (vo' : Value), e = .returned (.int .i64 c) ∧ OutTwo w0 w' g1 g2 ((rb : Int) + rc') (RL.drop rc') vo' rb rc RL vr ∧ trefoilref13_Out_Ack.f 1 rb RL rc n = some ((rb : Int), RL, (rc' : Int), c) ∧ rc ≤ rc' ∧ rc' ≤ RL.length := by
  have hd : (RL.drop rc).length = RL.length - rc := List.length_drop
  by_cases h0 : n = 0
  · subst h0
    refine (wack_zero w0 w g1 _ vo _ h.out (by omega) (by omega)).mono ?_
    rintro e w1 ⟨rfl, rfl⟩
    exact ⟨rc, 22, vo, rfl, h, rack_gap rb rc RL 0 hb (.inl rfl), Nat.le_refl _, hc⟩
  by_cases hg : n > rb + RL.length + 1
  · refine (wack_gap w0 w g1 _ n vo _ h.out (by omega) (by omega) (by omega)).mono ?_
    rintro e w1 ⟨rfl, rfl⟩
    exact ⟨rc, 22, vo, rfl, h.below (below_drew (Below.refl _ _)), rack_gap rb rc RL n hb (.inr hg), Nat.le_refl _, hc⟩
  have hk := rack_ok rb rc RL n hb (by omega) (by omega)
  by_cases ho : n ≤ (rb : Int) + rc + 1
  · refine (wack_old w0 w g1 _ n vo _ h.out (by omega) (by omega) (by omega) ho).mono ?_
    rintro e w1 ⟨rfl, rfl⟩
    rw [if_neg (by omega)] at hk
    exact ⟨rc, 0, vo, rfl, h.below (below_drew (Below.refl _ _)), hk, Nat.le_refl _, hc⟩
  · refine (two_ack h n (by omega) (by omega) (by omega) (by omega) (by omega)).mono ?_
    rintro e w1 ⟨rfl, vo', ht⟩
    rw [if_pos (by omega)] at hk
    obtain ⟨m, hm⟩ : ∃ m : Nat, (m : Int) = n - 1 - rb := ⟨(n - 1 - rb).toNat, by omega⟩
    rw [← hm] at hk
    rw [List.drop_drop, show rc + (n - 1 - ((rb : Int) + rc)).toNat = m by omega, show n - 1 = (rb : Int) + m by omega] at ht
    exact ⟨m, 0, vo', rfl, ht, hk, by omega, by omega⟩
/-! #### moves -/
theorem OutVal.below {w0 w w' : World} {g1 g2 : Nat} {pb : Int} {PL : List ByteArray} {vo : Value} {RL : List ByteArray} {v1 : Value} (h : OutVal w0 w g1 g2 pb PL vo RL v1) (hb : Below w.heap.size w w') : OutVal w0 w' g1 g2 pb PL vo RL v1 :=
  have hc := Chg.of_below hb
  ⟨h.out.chg hc (fun e => e) (fun _ _ e => e), (by obtain ⟨a, b, c, hq⟩ := h.ref; exact ⟨a, b, c, (hb.block g2 (blk_lt hq)).trans hq⟩), h.ge2, h.row.chg hc (fun _ _ e => e), h.ne, below_step h.bel hb⟩
theorem cells_type {w : World} {g k t s : Nat} {cs ds : Array Value} (h1 : w.heap[g]? = some (.cells cs t (0, 0))) (h2 : w.heap[k]? = some (.cells ds s (0, 0))) (ht : t ≠ s) : g ≠ k := fun e => by
  subst e
  rw [h1] at h2
  injection h2 with h2
  injection h2 with _ h2
  exact ht h2
theorem OutVal.three {w0 w : World} {g1 g2 : Nat} {pb : Int} {PL : List ByteArray} {vo : Value} {RL : List ByteArray} {v1 : Value} (h : OutVal w0 w g1 g2 pb PL vo RL v1) {gb : Nat} {a b c : Value} (hz : w.heap[gb]? = some (.cells #[a, b, c] 29 (0, 0))) (hge : w0.heap.size ≤ gb) (hne : g2 ≠ gb) (x y z : Value) :
    (((w.setCell ⟨gb, 0, none⟩ x).setCell ⟨gb, 1, none⟩ y).setCell ⟨gb, 2, none⟩ z).heap[gb]? = some (.cells #[x, y, z] 29 (0, 0)) ∧ OutVal w0 (((w.setCell ⟨gb, 0, none⟩ x).setCell ⟨gb, 1, none⟩ y).setCell ⟨gb, 2, none⟩ z) g1 g2 pb PL vo RL v1 := by
  have h1 := blk_set hz 0 x
  have h2 := blk_set h1 1 y
  have h3 := blk_set h2 2 z
  have hc := (((Chg.refl (fun k => k = gb) w).set (g := gb) (j := 0) (v := x) rfl).set (g := gb) (j := 1) (v := y) rfl).set (g := gb) (j := 2) (v := z) rfl
  refine ⟨by simpa using h3, h.out.chg hc (fun e => cells_type h.out.blk hz (by decide) e) (fun k hk e => Kd.R_ne h.out.row hz (by decide) (by rw [hk, e])), ?_, h.ge2, h.row.chg hc (fun k hk e => Kd.R_ne h.row hz (by decide) (by rw [hk, e])), h.ne, hc.below h.bel (fun k hk => by rw [hk]; exact hge)⟩
  obtain ⟨a', b', c', hq⟩ := h.ref
  exact ⟨a', b', c', (hc.block g2 (blk_lt hq) hne).trans hq⟩
/-- the value is laid into the document's variable -/
theorem OutVal.two {w0 w : World} {g1 g2 : Nat} {pb : Int} {PL : List ByteArray} {vo : Value} {RL : List ByteArray} {v1 : Value} (h : OutVal w0 w g1 g2 pb PL vo RL v1) (rb rc : Int) :
    OutTwo w0 (((w.setCell ⟨g2, 0, none⟩ (.int .i64 rb)).setCell ⟨g2, 1, none⟩ v1).setCell ⟨g2, 2, none⟩ (.int .i64 rc)) g1 g2 pb PL vo rb rc RL v1 := by
  obtain ⟨a, b, c, hz⟩ := h.ref
  have h1 := blk_set hz 0 (.int .i64 rb)
  have h2 := blk_set h1 1 v1
  have h3 := blk_set h2 2 (.int .i64 rc)
  have hc := (((Chg.refl (fun k => k = g2) w).set (g := g2) (j := 0) (v := .int .i64 rb) rfl).set (g := g2) (j := 1) (v := v1) rfl).set (g := g2) (j := 2) (v := .int .i64 rc) rfl
  exact ⟨h.out.chg hc (fun e => cells_type h.out.blk hz (by decide) e) (fun k hk e => Kd.R_ne h.out.row hz (by decide) (by rw [hk, e])), by simpa using h3, h.ge2, h.row.chg hc (fun k hk e => Kd.R_ne h.row hz (by decide) (by rw [hk, e])), h.ne, hc.below h.bel (fun k hk => by rw [hk]; exact h.ge2)⟩
/-! #### the calls of the round's test -/
theorem two_pend {w0 W : World} {g1 g2 rb rc : Nat} {vo : Value} {RL : List ByteArray} {vr : Value} (h : OutTwo w0 W g1 g2 ((rb : Int) + rc) (RL.drop rc) vo rb rc RL vr) (hc : rc ≤ RL.length) (h16 : RL.length ≤ rc + 16) (hb : rb + RL.length ≤ 4294967294) (P : List S57) (hP : P = pendL ((rb : Int) + rc) (RL.drop rc)) :
    Calls Try.prog 18 #[.pointer (some ⟨g1, 0, none⟩)] W fun e w' => ∃ A c, e = .returned (.slice A P.length c) ∧ P.length ≤ c ∧ Kd.C k57 w' A P.length P ∧ Below W.heap.size W w' := by
  have hd : (RL.drop rc).length = RL.length - rc := List.length_drop
  refine (wpend_ok w0 W g1 _ vo _ h.out (by omega) (by omega) (by omega)).mono ?_
  rintro e w1 ⟨v1, rfl, ho, hb1⟩
  rw [← hP] at ho
  obtain ⟨A, c, rfl, h1, h2⟩ := Kd.R_reads ho
  exact ⟨A, c, rfl, h1, h2, hb1⟩
theorem two_told {W : World} {A : Option Addr} {c : Nat} {P : List S57} (hC : Kd.C k57 W A P.length P) (hc : P.length ≤ c) (hl : P.length ≤ 100) (Q : List S96) (hQ : Q = P.map to96) :
    Calls Try.prog 17 #[.slice A P.length c] W fun e w' => ∃ A c, e = .returned (.slice A Q.length c) ∧ Q.length ≤ c ∧ Kd.C k96 w' A Q.length Q ∧ Below W.heap.size W w' := by
  refine (trefoillaw13_told.calls (P.length + 1) A c P Q W hC hc (by rw [hQ]; exact told_f P hl)).mono ?_
  rintro e w1 ⟨v1, rfl, ho, hb1⟩
  obtain ⟨A, c, rfl, h1, h2⟩ := Kd.R_reads ho
  exact ⟨A, c, rfl, h1, h2, hb1⟩
theorem two_rpend {w0 W : World} {g1 g2 rb rc : Nat} {vo : Value} {RL : List ByteArray} {Ar : Option Addr} {cr : Nat} (h : OutTwo w0 W g1 g2 ((rb : Int) + rc) (RL.drop rc) vo rb rc RL (.slice Ar RL.length cr)) (hc : rc ≤ RL.length) (hl : RL.length ≤ 100) (hb : rb + RL.length ≤ 4294967294) (Q : List S96) (hQ : Q = (pendL ((rb : Int) + rc) (RL.drop rc)).map to96) :
    Calls Try.prog 19 #[.agg #[.int .i64 rb, .slice Ar RL.length cr, .int .i64 rc]] W fun e w' => ∃ A c, e = .returned (.slice A Q.length c) ∧ Q.length ≤ c ∧ Kd.C k96 w' A Q.length Q ∧ Below W.heap.size W w' := by
  obtain ⟨A', c', e', h1, h2⟩ := h.row.form
  injection e' with e1 e2 e3
  subst e1 e3
  refine (trefoilref13_Out_Pending.calls (RL.length + 1) rb Ar cr RL rc Q W h2 h1 (by rw [hQ]; exact rpend_f rb rc RL hl hb hc)).mono ?_
  rintro e w1 ⟨v1, rfl, ho, hb1⟩
  obtain ⟨A, c, rfl, h1, h2⟩ := Kd.R_reads ho
  exact ⟨A, c, rfl, h1, h2, hb1⟩
theorem two_same {W : World} {A B : Option Addr} {a b : Nat} {Q : List S96} (h1 : Kd.C k96 W A Q.length Q) (ha : Q.length ≤ a) (h2 : Kd.C k96 W B Q.length Q) (hb : Q.length ≤ b) (hl : Q.length ≤ 100) :
    Calls Try.prog 16 #[.slice A Q.length a, .slice B Q.length b] W fun e w' => e = .returned (.bool true) ∧ Drawn0 W w' :=
  trefoilref13_Same.calls (Q.length + 1) A a Q B b Q true W h1 ha h2 hb (same_f Q hl)
theorem two_next {w0 W : World} {g1 g2 rb rc : Nat} {vo : Value} {RL : List ByteArray} {vr : Value} (h : OutTwo w0 W g1 g2 ((rb : Int) + rc) (RL.drop rc) vo rb rc RL vr) (hc : rc ≤ RL.length) (hb : rb + RL.length ≤ 4294967294) (nx : Nat) (hn : nx = rb + RL.length + 1) :
    Calls Try.prog 20 #[.pointer (some ⟨g1, 0, none⟩)] W fun e w' => e = .returned (.int .u32 nx) ∧ w' = W.drew := by
  have hd : (RL.drop rc).length = RL.length - rc := List.length_drop
  have h1 := wnext_ok w0 W g1 _ vo _ h.out (by omega) (by omega)
  rw [show (rb : Int) + rc + ((RL.drop rc).length : Int) + 1 = (nx : Int) by omega] at h1
  exact h1
theorem two_rnext {w0 W : World} {g1 g2 rb rc : Nat} {vo : Value} {RL : List ByteArray} {Ar : Option Addr} {cr : Nat} (h : OutTwo w0 W g1 g2 ((rb : Int) + rc) (RL.drop rc) vo rb rc RL (.slice Ar RL.length cr)) (hb : rb + RL.length ≤ 4294967294) (nx : Nat) (hn : nx = rb + RL.length + 1) :
    Calls Try.prog 21 #[.agg #[.int .i64 rb, .slice Ar RL.length cr, .int .i64 rc]] W fun e w' => e = .returned (.int .i64 nx) ∧ Below W.heap.size W w' := by
  obtain ⟨A', c', e', h1, h2⟩ := h.row.form
  injection e' with e1 e2 e3
  subst e1 e3
  exact trefoilref13_Out_Next.calls rb Ar cr RL rc nx W h2 h1 (by rw [rnext_f rb RL rc hb, show (rb : Int) + RL.length + 1 = (nx : Int) by omega])
theorem two_room {w0 W : World} {g1 g2 rb rc : Nat} {vo : Value} {RL : List ByteArray} {vr : Value} (h : OutTwo w0 W g1 g2 ((rb : Int) + rc) (RL.drop rc) vo rb rc RL vr) (h16 : RL.length ≤ rc + 16) (Q : List S96) (hQ : Q = (pendL ((rb : Int) + rc) (RL.drop rc)).map to96) :
    Calls Try.prog 22 #[.pointer (some ⟨g1, 0, none⟩)] W fun e w' => e = .returned (.int .i64 (16 - Q.length)) ∧ W = w' := by
  have hd : (RL.drop rc).length = RL.length - rc := List.length_drop
  have h1 := wroom_ok w0 W g1 _ vo _ h.out (by omega)
  have hq : Q.length = (RL.drop rc).length := by rw [hQ, List.length_map, pendL_len]
  rw [← hq] at h1
  exact h1
end Go.Proofs.Ytedhckojeephaaa.P
