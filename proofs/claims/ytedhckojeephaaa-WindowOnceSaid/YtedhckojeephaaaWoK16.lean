/- WindowOnce: the state of what is sent, what is held, and what was told. -/
import Derived.BigQuiet
import Derived.Deep.AppendLies
import Derived.Deep.DrawnRows
import Derived.Deep.RegionHeld3
import Derived.Deep.RegionLaw
import Derived.IntWalk
import Derived.Lib.Hide
import Derived.Outline
import Derived.Test.YtedhckojeephaaaWoPx0
import Derived.WalkSpells
import Derived.Test.YtedhckojeephaaaWoK1
import Derived.Test.YtedhckojeephaaaWoK6
import Derived.Test.YtedhckojeephaaaWoK8
import Derived.Test.YtedhckojeephaaaWoK12
import Derived.Test.YtedhckojeephaaaWoK13
import Derived.Test.YtedhckojeephaaaWoK14
import Derived.Test.YtedhckojeephaaaWoK15
namespace Go.Proofs.Ytedhckojeephaaa.P
open Go.RowKit Go.Maps Go.Proofs.YtedhckojeephaaaW.PrintWords Go.Proofs.YtedhckojeephaaaW.PrintLast Go.Proofs.YtedhckojeephaaaW.PrintMore
set_option linter.unusedVariables false
set_option linter.unusedSimpArgs false
attribute [local go_sem ↓] Go.wp_at_zero Go.wp_at_succ

/-! ### window_moves: words -/
theorem RS.chg {w0 w w' : World} {v : Value} {L : List ByteArray} {S : Nat → Prop} (h : RS w0 w v L) (hc : Chg S w w') (hS : ∀ k, v.ownBlock = some k → ¬ S k) : RS w0 w' v L :=
  h.move (fun k hk => hc.block k (Kd.R_lt h k hk) (hS k hk))
theorem OutAt.chg {w0 w w' : World} {g : Nat} {base : Int} {v : Value} {L : List ByteArray} {S : Nat → Prop} (h : OutAt w0 w g base v L) (hc : Chg S w w') (hg : ¬ S g) (hS : ∀ k, v.ownBlock = some k → ¬ S k) : OutAt w0 w' g base v L :=
  ⟨(hc.block g (blk_lt h.blk) hg).trans h.blk, h.ge, h.row.chg hc hS⟩
theorem InAt.chg {w0 w w' : World} {g n : Nat} {base : Int} {mv : Value} {M : Int → Option ByteArray} {S : Nat → Prop} (h : InAt w0 w g n base mv M) (hc : Chg S w w') (hg : ¬ S g) (hS : ∀ k, mv = .map (some k) → ¬ S k) : InAt w0 w' g n base mv M :=
  ⟨(hc.block g (blk_lt h.blk) hg).trans h.blk, h.ge, h.held.imp_right (fun ⟨b, D, m, h1, h2, h3, h4, h5⟩ => ⟨b, D, m, h1, h2, h3, (by obtain ⟨es, clock, q1, q2⟩ := h4; exact ⟨es, clock, (hc.block b (blk_lt q1) (hS b h1)).trans q1, q2⟩), h5⟩)⟩
theorem Chg.of_below {w w' : World} (h : Below w.heap.size w w') : Chg (fun _ => False) w w' := ⟨h.os, h.tape, h.output, h.size, fun k hk _ => h.block k hk⟩
theorem Chg.of_grown {w w' : World} {row : Option Nat} (h : w.grownBy w' row) : Chg (fun k => row = some k) w w' := ⟨h.os, h.tape, h.output, h.size, fun k hk hn => h.block k hk (fun e => hn e.symm)⟩
/-- the law's state: bodies up to n are sent, up to bo known to have come; up to bx told; got holds those up to gl -/
structure OnceAt (w0 w : World) (g1 g2 : Nat) (vg : Value) (B : List ByteArray) (q bo bx n gl : Nat) (vo mv : Value) (M : Int → Option ByteArray) : Prop where
  out : OutAt w0 w g1 bo vo ((B.take n).drop bo)
  inn : InAt w0 w g2 q bx mv M
  got : RS w0 w vg (B.take gl)
  ne : ∀ k, vo.ownBlock = some k → vg.ownBlock ≠ some k
  bel : Below w0.heap.size w0 w
  le1 : bo ≤ bx
  le2 : bx ≤ n
  le3 : n ≤ B.length
  le4 : n ≤ bo + 16
  has : ∀ k t, M k = some t → (bx : Int) < k ∧ k ≤ n ∧ t = B.getD (k - 1).toNat ByteArray.empty
theorem OnceAt.pend {w0 w : World} {g1 g2 : Nat} {vg : Value} {B : List ByteArray} {q bo bx n gl : Nat} {vo mv : Value} {M : Int → Option ByteArray} (h : OnceAt w0 w g1 g2 vg B q bo bx n gl vo mv M) : ((B.take n).drop bo).length = n - bo := by
  rw [List.length_drop, List.length_take, Nat.min_eq_left h.le3]
theorem OnceAt.g_ne {w0 w : World} {g1 g2 : Nat} {vg : Value} {B : List ByteArray} {q bo bx n gl : Nat} {vo mv : Value} {M : Int → Option ByteArray} (h : OnceAt w0 w g1 g2 vg B q bo bx n gl vo mv M) : g1 ≠ g2 := fun e => by
  have h1 := h.out.blk
  rw [e, h.inn.blk] at h1
  injection h1 with h1
  injection h1 with _ h1
  exact absurd h1 (by decide)
theorem OnceAt.vo_g2 {w0 w : World} {g1 g2 : Nat} {vg : Value} {B : List ByteArray} {q bo bx n gl : Nat} {vo mv : Value} {M : Int → Option ByteArray} (h : OnceAt w0 w g1 g2 vg B q bo bx n gl vo mv M) : vo.ownBlock ≠ some g2 := fun e => Kd.R_ne h.out.row h.inn.blk (by decide) e.symm
theorem OnceAt.vg_g2 {w0 w : World} {g1 g2 : Nat} {vg : Value} {B : List ByteArray} {q bo bx n gl : Nat} {vo mv : Value} {M : Int → Option ByteArray} (h : OnceAt w0 w g1 g2 vg B q bo bx n gl vo mv M) : vg.ownBlock ≠ some g2 := fun e => Kd.R_ne h.got h.inn.blk (by decide) e.symm
theorem OnceAt.vo_g1 {w0 w : World} {g1 g2 : Nat} {vg : Value} {B : List ByteArray} {q bo bx n gl : Nat} {vo mv : Value} {M : Int → Option ByteArray} (h : OnceAt w0 w g1 g2 vg B q bo bx n gl vo mv M) : vo.ownBlock ≠ some g1 := fun e => Kd.R_ne h.out.row h.out.blk (by decide) e.symm
theorem OnceAt.vg_g1 {w0 w : World} {g1 g2 : Nat} {vg : Value} {B : List ByteArray} {q bo bx n gl : Nat} {vo mv : Value} {M : Int → Option ByteArray} (h : OnceAt w0 w g1 g2 vg B q bo bx n gl vo mv M) : vg.ownBlock ≠ some g1 := fun e => Kd.R_ne h.got h.out.blk (by decide) e.symm
/-- a row's own block holds cells -/
theorem RS.cells {w0 w : World} {v : Value} {L : List ByteArray} (h : RS w0 w v L) {k : Nat} (hk : v.ownBlock = some k) : ∃ cs, w.heap[k]? = some (.cells cs 9 (0, 0)) := by
  obtain ⟨inner, ho⟩ := Kd.R_own h
  exact own_typed ho k hk
theorem OnceAt.mv_ne {w0 w : World} {g1 g2 : Nat} {vg : Value} {B : List ByteArray} {q bo bx n gl : Nat} {vo mv : Value} {M : Int → Option ByteArray} (h : OnceAt w0 w g1 g2 vg B q bo bx n gl vo mv M) : mv ≠ .map (some g1) ∧ (∀ k, vo.ownBlock = some k → mv ≠ .map (some k)) ∧ ∀ k, vg.ownBlock = some k → mv ≠ .map (some k) :=
  ⟨h.inn.far h.out.blk, fun k hk => (h.out.row.cells hk).elim (fun _ hc => h.inn.far hc), fun k hk => (h.got.cells hk).elim (fun _ hc => h.inn.far hc)⟩
/-- a call that touches nothing of it -/
theorem OnceAt.below {w0 w w' : World} {g1 g2 : Nat} {vg : Value} {B : List ByteArray} {q bo bx n gl : Nat} {vo mv : Value} {M : Int → Option ByteArray} (h : OnceAt w0 w g1 g2 vg B q bo bx n gl vo mv M) (hb : Below w.heap.size w w') : OnceAt w0 w' g1 g2 vg B q bo bx n gl vo mv M :=
  have hc := Chg.of_below hb
  ⟨h.out.chg hc (fun e => e) (fun _ _ e => e), h.inn.chg hc (fun e => e) (fun _ _ e => e), h.got.chg hc (fun _ _ e => e), h.ne, below_step h.bel hb, h.le1, h.le2, h.le3, h.le4, h.has⟩

/-! ### window_once: the calls -/
theorem drop_snoc (B : List ByteArray) (bo n : Nat) (hn : n < B.length) (hb : bo ≤ n) : (B.take (n + 1)).drop bo = (B.take n).drop bo ++ [B.getD n ByteArray.empty] := by
  rw [take_snoc B n hn, List.drop_append_of_le_length (by rw [List.length_take]; omega)]
theorem once_put {w0 w : World} {g1 g2 : Nat} {vg : Value} {B : List ByteArray} {q bo bx n gl : Nat} {vo mv : Value} {M : Int → Option ByteArray} (h : OnceAt w0 w g1 g2 vg B q bo bx n gl vo mv M) (hn : n < B.length) (hr : n < bo + 16) (hB : B.length ≤ 60) :
    Calls Try.prog 12 #[.pointer (some ⟨g1, 0, none⟩), .string (B.getD n ByteArray.empty)] w fun e w' => e = .returned (.tuple #[.int .u32 (n + 1 : Nat), .int .i64 0]) ∧ ∃ vo', OnceAt w0 w' g1 g2 vg B q bo bx (n + 1) gl vo' mv M := by
  have hl := h.pend
  have l1 := h.le1
  have l2 := h.le2
  refine (wput_ok w0 w g1 bo vo _ (B.getD n ByteArray.empty) h.out h.bel (by omega) (by omega) (by omega)).mono ?_
  rintro e w1 ⟨v1, rfl, ho, hc, hn1⟩
  have hg : ∀ k, vg.ownBlock = some k → ¬ (k = g1 ∨ vo.ownBlock = some k) := fun k hk e => e.elim (fun e => h.vg_g1 (by rw [hk, e])) (fun e => h.ne k e hk)
  have hm : ∀ k, mv = .map (some k) → ¬ (k = g1 ∨ vo.ownBlock = some k) := fun k hk e => e.elim (fun e => h.mv_ne.1 (by rw [hk, e])) (fun e => h.mv_ne.2.1 k e hk)
  refine ⟨by rw [hl, show (bo : Int) + ((n - bo + 1 : Nat) : Int) = ((n + 1 : Nat) : Int) by omega], v1, by rw [drop_snoc B bo n hn (by omega)]; exact ho, h.inn.chg hc (fun e => e.elim (fun e => h.g_ne e.symm) (fun e => h.vo_g2 e)) hm, h.got.chg hc hg, fun k hk e => ?_, hc.below h.bel (fun k hk => hk.elim (fun e => by rw [e]; exact h.out.ge) (fun e => Kd.R_base h.out.row k e)), h.le1, by omega, by omega, by omega, fun k t hk => by have := h.has k t hk; exact ⟨this.1, by omega, this.2.2⟩⟩
  rcases hn1 with h1 | ⟨j, h1, h2⟩
  · exact h.ne k (by rw [← h1]; exact hk) e
  · rw [hk] at h1
    injection h1 with h1
    have := Kd.R_lt h.got k e
    omega
theorem runM_bodies {M : Int → Option ByteArray} {B : List ByteArray} : ∀ (f bx : Nat), (∀ k t, M k = some t → (bx : Int) < k → k ≤ B.length ∧ t = B.getD (k - 1).toNat ByteArray.empty) → runM M f bx = (B.take (bx + (runM M f bx).length)).drop bx ∧ (runM M f bx).length ≤ f ∧ (bx + (runM M f bx).length ≤ B.length ∨ runM M f bx = []) ∧ (∀ (j : Nat), j < (runM M f bx).length → M (bx + j + 1) ≠ none)
  | 0, bx, _ => ⟨by simp [runM], by simp [runM], .inr rfl, fun j hj => by simp [runM] at hj⟩
  | f + 1, bx, h => by
    unfold runM
    cases hm : M ((bx : Int) + 1) with
    | none => exact ⟨by simp, by simp, .inr rfl, fun j hj => by simp at hj⟩
    | some s =>
      have h1 := h _ _ hm (by omega)
      obtain ⟨r1, r2, r3, r4⟩ := runM_bodies (M := M) (B := B) f (bx + 1) (fun k t hk hlt => h k t hk (by omega))
      have e0 : ((bx : Int) + 1) = ((bx + 1 : Nat) : Int) := by omega
      simp only [e0]
      obtain ⟨R, hR⟩ : ∃ R, R = runM M f ((bx + 1 : Nat) : Int) := ⟨_, rfl⟩
      rw [← hR] at r1 r2 r3 r4 ⊢
      have hs : s = B.getD bx ByteArray.empty := by rw [h1.2]; congr 1; omega
      have hlen : bx + (R.length + 1) ≤ B.length := by
        rcases r3 with r3 | r3
        · omega
        · rw [r3]; simp; omega
      refine ⟨?_, by simp; omega, .inl (by simpa using hlen), fun j hj => ?_⟩
      · rw [List.length_cons, show bx + (R.length + 1) = bx + 1 + R.length by omega]
        have e1 : (B.take (bx + 1 + R.length)).drop bx = B.getD bx ByteArray.empty :: (B.take (bx + 1 + R.length)).drop (bx + 1) := by
          have hlt : bx < (B.take (bx + 1 + R.length)).length := by rw [List.length_take]; omega
          rw [List.drop_eq_getElem_cons hlt, List.getElem_take, List.getD_eq_getElem?_getD, List.getElem?_eq_getElem (by omega)]
          rfl
        rw [e1, hs]
        exact congrArg _ r1
      · cases j with
        | zero => show M ((bx : Int) + 0 + 1) ≠ none; rw [Int.add_zero, hm]; simp
        | succ j =>
          have := r4 j (by simpa using hj)
          rw [show ((bx : Int) + ((j + 1 : Nat) : Int) + 1) = (((bx + 1 : Nat) : Int) + j + 1) by omega]
          exact this
theorem take_more (B : List ByteArray) (a b : Nat) : B.take a ++ (B.take (a + b)).drop a = B.take (a + b) := by
  have h := List.take_append_drop a (B.take (a + b))
  rw [List.take_take, Nat.min_eq_left (by omega)] at h
  exact h
theorem once_take {w0 w : World} {g1 g2 : Nat} {vg : Value} {B : List ByteArray} {q bo bx n : Nat} {vo mv : Value} {M : Int → Option ByteArray} (h : OnceAt w0 w g1 g2 vg B q bo bx n bx vo mv M) (j : Nat) (hj : bo + j < n) (hB : B.length ≤ 60) (hq : q < 100000) (hsz : (B.getD (bo + j) ByteArray.empty).size ≤ maxLen) (seq : Int) (hseq : seq = (bo : Int) + j + 1) :
    Calls Try.prog 23 #[.pointer (some ⟨g2, 0, none⟩), .int .u32 seq, .string (B.getD (bo + j) ByteArray.empty)] w fun e w' => ∃ v c L1 mv' M', e = .returned (.tuple #[v, .int .i64 c]) ∧ (c = 0 ∨ c = 21) ∧ RS w w' v L1 ∧ L1.length ≤ 16 ∧ B.take bx ++ L1 = B.take (bx + L1.length) ∧ OnceAt w0 w' g1 g2 vg B (q + 1) bo (bx + L1.length) n bx vo mv' M' := by
  have l1 := h.le1
  have l2 := h.le2
  have l3 := h.le3
  have l4 := h.le4
  subst hseq
  refine (wtake_any w0 w g2 q bx ((bo : Int) + j + 1) mv M (B.getD (bo + j) ByteArray.empty) h.inn (fun k hk => ?_) (by omega) (by omega) (by omega) (by omega) hq h.bel.size hsz).mono ?_
  · cases e : M k with
    | none => exact absurd e hk
    | some t => have := h.has k t e; exact ⟨this.1, by omega⟩
  rintro e w1 ⟨v, L1, mv1, M1, c, rfl, T⟩
  have hnew : ∀ k, mv1 = .map (some k) → mv = .map (some k) ∨ w.heap.size ≤ k := fun k hk => by
    rcases T.new with h1 | ⟨b, h1, h2⟩
    · exact .inl (by rw [← h1]; exact hk)
    · rw [hk] at h1; injection h1 with h1; injection h1 with h1; exact .inr (by rw [h1]; exact h2)
  have hP : ∀ k t, putM M ((bo : Int) + j + 1) (B.getD (bo + j) ByteArray.empty) k = some t → (k ≤ n ∧ t = B.getD (k - 1).toNat ByteArray.empty) := by
    intro k t hk
    unfold putM at hk
    by_cases e : k = (bo : Int) + j + 1
    · rw [if_pos e] at hk
      injection hk with hk
      subst e
      exact ⟨by omega, by rw [← hk]; congr 1; omega⟩
    · rw [if_neg e] at hk
      exact (h.has k t hk).2
  have hmain : B.take bx ++ L1 = B.take (bx + L1.length) ∧ bx + L1.length ≤ n ∧ ∀ k t, M1 k = some t → ((bx + L1.length : Nat) : Int) < k ∧ k ≤ n ∧ t = B.getD (k - 1).toNat ByteArray.empty := by
    rcases T.ans with ⟨-, rfl, rfl, -⟩ | ⟨-, -, -, hL, rfl⟩
    · exact ⟨by simp, by simpa using h.le2, fun k t hk => by have := h.has k t hk; simpa using this⟩
    · obtain ⟨r1, -, -, r4⟩ := runM_bodies (B := B) 17 bx (fun k t hk _ => ⟨by have := (hP k t hk).1; omega, (hP k t hk).2⟩)
      rw [← hL] at r1 r4
      refine ⟨?_, ?_, fun k t hk => ?_⟩
      · rw [← take_more B bx L1.length, ← r1]
      · rcases Nat.eq_zero_or_pos L1.length with h0 | h0
        · omega
        · have := r4 (L1.length - 1) (by omega)
          cases hm : putM M ((bo : Int) + j + 1) (B.getD (bo + j) ByteArray.empty) ((bx : Int) + ((L1.length - 1 : Nat) : Int) + 1) with
          | none => exact absurd hm this
          | some t => have := (hP _ t hm).1; omega
      · unfold cutM at hk
        by_cases e : k ≤ (bx : Int) + L1.length
        · rw [if_pos e] at hk; cases hk
        · rw [if_neg e] at hk
          have := hP k t hk
          exact ⟨by omega, this.1, this.2⟩
  have hat := T.at_
  rw [show (bx : Int) + (L1.length : Int) = ((bx + L1.length : Nat) : Int) by omega] at hat
  refine ⟨v, c, L1, mv1, M1, rfl, ?_, T.row, T.len, hmain.1, ⟨h.out.chg T.keep (fun e => e.elim (fun e => h.g_ne e) (fun e => h.mv_ne.1 e)) (fun k hk e => e.elim (fun e => h.vo_g2 (by rw [hk, e])) (fun e => h.mv_ne.2.1 k hk e)), hat, h.got.chg T.keep (fun k hk e => e.elim (fun e => h.vg_g2 (by rw [hk, e])) (fun e => h.mv_ne.2.2 k hk e)), h.ne, T.keep.below h.bel (fun k hk => ?_), by omega, hmain.2.1, h.le3, h.le4, hmain.2.2⟩⟩
  · rcases T.ans with ⟨h1, -⟩ | ⟨h1, -⟩
    · exact .inr h1
    · exact .inl h1
  · rcases hk with e | e
    · rw [e]; exact h.inn.ge
    · rcases h.inn.held with ⟨h1, -⟩ | ⟨b, D, m, h1, h2, -⟩
      · rw [e] at h1; cases h1
      · rw [e] at h1; injection h1 with h1; injection h1 with h1; rw [h1]; exact h2
theorem once_got {w0 w w1 : World} {g1 g2 : Nat} {vg v1 : Value} {B : List ByteArray} {q bo bx n gl gl' : Nat} {vo mv : Value} {M : Int → Option ByteArray} (h : OnceAt w0 w g1 g2 vg B q bo bx n gl vo mv M) (hr : RS w0 w1 v1 (B.take gl')) (hg : w.grownBy w1 vg.ownBlock) (hat : v1.ownBlock = vg.ownBlock ∨ ∃ b, v1.ownBlock = some b ∧ w.heap.size ≤ b) :
    OnceAt w0 w1 g1 g2 v1 B q bo bx n gl' vo mv M := by
  have hc := Chg.of_grown hg
  refine ⟨h.out.chg hc (fun e => h.vg_g1 e) (fun k hk e => h.ne k hk e), h.inn.chg hc (fun e => h.vg_g2 e) (fun k hk e => h.mv_ne.2.2 k e hk), hr, fun k hk e => ?_, hc.below h.bel (fun k hk => Kd.R_base h.got k hk), h.le1, h.le2, h.le3, h.le4, h.has⟩
  rcases hat with h1 | ⟨b, h1, h2⟩
  · exact h.ne k hk (by rw [← h1]; exact e)
  · rw [e] at h1
    injection h1 with h1
    have := Kd.R_lt h.out.row k hk
    omega
theorem once_ack {w0 w : World} {g1 g2 : Nat} {vg : Value} {B : List ByteArray} {q bo bx n gl : Nat} {vo mv : Value} {M : Int → Option ByteArray} (h : OnceAt w0 w g1 g2 vg B q bo bx n gl vo mv M) (hB : B.length ≤ 60) :
    Calls Try.prog 14 #[.pointer (some ⟨g1, 0, none⟩), .int .u32 ((bx : Int) + 1)] w fun e w' => e = .returned (.int .i64 0) ∧ ∃ vo', OnceAt w0 w' g1 g2 vg B q bx bx n gl vo' mv M := by
  have hl := h.pend
  have l1 := h.le1
  have l2 := h.le2
  have l3 := h.le3
  have l4 := h.le4
  by_cases hbo : bx = bo
  · refine (wack_old w0 w g1 bo ((bx : Int) + 1) vo _ h.out (by omega) (by omega) (by omega) (by omega)).mono ?_
    rintro e w1 ⟨rfl, rfl⟩
    refine ⟨rfl, vo, ?_⟩
    subst hbo
    exact h.below (below_drew (Below.refl _ _))
  · refine (wack_ok w0 w g1 bo ((bx : Int) + 1) vo _ h.out (by omega) (by omega) (by omega) (by omega) (by omega)).mono ?_
    rintro e w1 ⟨v1, rfl, ho, hc, hnew⟩
    rw [show (bx : Int) + 1 - 1 = bx by omega, List.drop_drop, show bo + ((bx : Int) - (bo : Int)).toNat = bx by omega] at ho
    refine ⟨rfl, v1, ho, h.inn.chg hc (fun e => h.g_ne e.symm) (fun k hk e => h.mv_ne.1 (by rw [hk, e])), h.got.chg hc (fun k hk e => h.vg_g1 (by rw [hk, e])), fun k hk e => ?_, hc.below h.bel (fun k hk => by rw [hk]; exact h.out.ge), Nat.le_refl _, h.le2, h.le3, by omega, h.has⟩
    have := hnew k hk
    have := Kd.R_lt h.got k e
    omega
end Go.Proofs.Ytedhckojeephaaa.P
