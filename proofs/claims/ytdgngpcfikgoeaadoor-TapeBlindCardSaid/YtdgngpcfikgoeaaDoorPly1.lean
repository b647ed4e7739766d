/- Every call of a tape in one contract each: the program's and the document's. -/
import Derived.Test.YtdgngpcfikgoeaaDoorTap7
namespace Go.Proofs.YtdgngpcfikgoeaaDoor.P
open Go.RowKit Go.Extern.Stop Go.Stop Go.Extern Go.Proofs.YtdgngpcfikgoeaaDoorW.PrintWords Go.Proofs.YtdgngpcfikgoeaaDoorW.PrintLast Go.Proofs.YtdgngpcfikgoeaaDoorW.PrintMore
set_option linter.unusedVariables false
set_option linter.unusedSimpArgs false
attribute [local go_sem ↓] Go.wp_at_zero Go.wp_at_succ

/-- an error value and its number -/
def ErrW (w : World) (v : Value) (c : Int) : Prop := (v = .nilIface ∧ c = 0) ∨ ∃ n, ErrIs n w v c
theorem ErrW.below {w w' : World} {v : Value} {c : Int} (h : ErrW w v c) (hb : Below w.heap.size w w') : ErrW w' v c := by
  rcases h with h | ⟨n, h⟩
  · exact .inl h
  · exact .inr ⟨n, h.below hb⟩
theorem ErrW.chg {S : Nat → Prop} {w w' : World} {v : Value} {c : Int} (h : ErrW w v c) (hc : Chg S w w') (hS : ∀ k cs, S k → w.heap[k]? ≠ some (.cells cs 95 (0, 0))) : ErrW w' v c := by
  rcases h with h | ⟨n, h⟩
  · exact .inl h
  · exact .inr ⟨n, h.chg hc hS⟩
theorem codeW (v : Value) (c : Int) (w : World) (h : ErrW w v c) (hd : Door w) : Calls Tryd.prog 18 #[v] w fun e w' => e = .returned (.int .i64 c) ∧ Below w.heap.size w w' := by
  rcases h with ⟨rfl, rfl⟩ | ⟨n, h⟩
  · exact (code_nil w).mono fun e w' ⟨he, hw⟩ => ⟨he, by subst hw; exact Below.refl _ _⟩
  · exact code_ok n v c w h hd
/-- how far a tape is read behind a call for n words, and what is read -/
def takeA (l : List Int) (a : Nat) (n : Int) : Nat := if takeE l a n = 0 then a + n.toNat else a
def takeX (l : List Int) (a : Nat) (n : Int) : List Int := if takeE l a n = 0 then (l.take (a + n.toNat)).drop a else []
theorem takeE_zero {l : List Int} {a : Nat} {n : Int} (ha : a ≤ l.length) (h : takeE l a n = 0) : 0 ≤ n ∧ a + n.toNat ≤ l.length := by
  unfold takeE at h
  split at h
  · cases h
  · split at h
    · cases h
    · omega
theorem takeA_le {l : List Int} {a : Nat} {n : Int} (ha : a ≤ l.length) : takeA l a n ≤ l.length := by
  unfold takeA
  split
  · next h => exact (takeE_zero ha h).2
  · exact ha
theorem takeX_len {l : List Int} {a : Nat} {n : Int} (ha : a ≤ l.length) : (takeX l a n).length ≤ l.length := by
  unfold takeX
  split
  · rw [List.length_drop, List.length_take]; omega
  · simp
theorem takeX_mem {l : List Int} {a : Nat} {n : Int} {x : Int} (h : x ∈ takeX l a n) : x ∈ l := by
  unfold takeX at h
  split at h
  · exact List.mem_of_mem_take (List.mem_of_mem_drop h)
  · simp at h
theorem bad_of {w : World} {B g : Nat} {v : Value} {l : List Int} {a : Nat} (h : TAt w B g v l a) {n : Int} (hE : takeE l a n ≠ 0) : Bad w n (.pointer (some ⟨g, 0, none⟩)) (takeE l a n) := by
  unfold takeE at hE ⊢
  by_cases h1 : n < 0
  · rw [if_pos h1]; exact .neg B g v l a h h1
  · rw [if_neg h1] at hE ⊢
    by_cases h2 : n > (l.length : Int) - a
    · rw [if_pos h2]; exact .far B g v l a h (by omega) h2
    · rw [if_neg h2] at hE; exact absurd rfl hE
/-- what a call on the program's tape leaves -/
structure Left (w w' : World) (B g : Nat) (v : Value) (l : List Int) (a' : Nat) (ev : Value) (E : Int) : Prop where
  err : ErrW w' ev E
  tape : TAt w' B g v l a'
  chg : Chg (fun k => k = g) w w'
theorem take_any (n : Int) (w : World) (B g : Nat) (v : Value) (l : List Int) (a : Nat) (h : TAt w B g v l a) :
    Calls Tryd.prog 12 #[.pointer (some ⟨g, 0, none⟩), .int .i64 n] w fun e w' => ∃ u ev, e = .returned (.tuple #[u, ev]) ∧ RU w.heap.size w' u (takeX l a n) ∧ Left w w' B g v l (takeA l a n) ev (takeE l a n) := by
  by_cases hE : takeE l a n = 0
  · obtain ⟨h0, h1⟩ := takeE_zero h.le hE
    unfold takeX takeA
    simp only [hE, if_pos]
    exact (take_okI n n.toNat (by omega) w B g v l a h h1).mono fun e w' ⟨u, he, hu, ht, hc⟩ => ⟨u, _, he, hu, .inl ⟨rfl, rfl⟩, ht, hc⟩
  · unfold takeX takeA
    simp only [if_neg hE]
    exact (take_bad n _ _ w (bad_of h hE)).mono fun e w' ⟨ev, he, hv, hb⟩ => ⟨_, ev, he, Kd.R_nil _ _ _ _ _, .inr ⟨_, hv⟩, h.below hb, Chg.of_below hb _⟩
theorem rtake_any (A : Option Addr) (c : Nat) (l : List Int) (a : Nat) (n : Int) (w : World) (ha : a ≤ l.length) (hl : l.length ≤ 1048576) (hr : Kd.C (Kd.int .u64) w A l.length l) (hc : l.length ≤ c) :
    Calls Tryd.prog 36 #[rT A l.length c a, .int .i64 n] w fun e w' => ∃ u, e = .returned (.tuple #[rT A l.length c (takeA l a n), u, .int .i64 (takeE l a n)]) ∧ RU w.heap.size w' u (takeX l a n) ∧ Below w.heap.size w w' := by
  by_cases hE : takeE l a n = 0
  · obtain ⟨h0, h1⟩ := takeE_zero ha hE
    have e : n = ((n.toNat : Nat) : Int) := by omega
    unfold takeX takeA
    simp only [hE, if_pos]
    rw [e, Int.toNat_natCast]
    exact rtake_ok A c l a n.toNat w h1 hl hr hc
  · unfold takeX takeA
    simp only [if_neg hE]
    exact (rtake_bad A c l a n w ha hl hE).mono fun e w' ⟨he, hb⟩ => ⟨_, he, Kd.R_nil _ _ _ _ _, hb⟩
/-- Numbers -/
def numE (l : List Int) (a : Nat) (n b : Int) : Int := if b < 1 ∨ b > 64 then 11 else takeE l a n
def numA (l : List Int) (a : Nat) (n b : Int) : Nat := if b < 1 ∨ b > 64 then a else takeA l a n
def numX (l : List Int) (a : Nat) (n b : Int) : List Int := if b < 1 ∨ b > 64 then [] else (takeX l a n).map (cutB b.toNat)
theorem numbers_any (n b : Int) (w : World) (B g : Nat) (v : Value) (l : List Int) (a : Nat) (h : TAt w B g v l a) (hu : ∀ x ∈ l, 0 ≤ x ∧ x < 18446744073709551616) :
    Calls Tryd.prog 37 #[.pointer (some ⟨g, 0, none⟩), .int .i64 n, .int .i64 b] w fun e w' => ∃ u ev, e = .returned (.tuple #[u, ev]) ∧ RU w.heap.size w' u (numX l a n b) ∧ Left w w' B g v l (numA l a n b) ev (numE l a n b) := by
  unfold numX numA numE
  by_cases hb : b < 1 ∨ b > 64
  · simp only [if_pos hb]
    exact (numbers_shape _ n b w hb).mono fun e w' ⟨ev, he, hv, hb⟩ => ⟨_, ev, he, Kd.R_nil _ _ _ _ _, .inr ⟨_, hv⟩, h.below hb, Chg.of_below hb _⟩
  · simp only [if_neg hb]
    by_cases hE : takeE l a n = 0
    · obtain ⟨h0, h1⟩ := takeE_zero h.le hE
      have e : n = ((n.toNat : Nat) : Int) := by omega
      have eb : b = ((b.toNat : Nat) : Int) := by omega
      unfold takeX takeA
      simp only [hE, if_pos]
      rw [e, eb, Int.toNat_natCast, Int.toNat_natCast]
      exact (numbers_ok n.toNat b.toNat w B g v l a (by omega) (by omega) h h1 hu).mono fun e w' ⟨u, he, hu, ht, hc⟩ => ⟨u, _, he, hu, .inl ⟨rfl, rfl⟩, ht, hc⟩
    · unfold takeX takeA
      simp only [if_neg hE]
      exact (numbers_bad n b _ _ w (by omega) (by omega) (bad_of h hE)).mono fun e w' ⟨ev, he, hv, hb⟩ => ⟨_, ev, he, Kd.R_nil _ _ _ _ _, .inr ⟨_, hv⟩, h.below hb, Chg.of_below hb _⟩
theorem rnums_any (A : Option Addr) (c : Nat) (l : List Int) (a : Nat) (n b : Int) (w : World) (ha : a ≤ l.length) (hl : l.length ≤ 1048576) (hr : Kd.C (Kd.int .u64) w A l.length l) (hc : l.length ≤ c) (hu : ∀ x ∈ l, 0 ≤ x ∧ x < 18446744073709551616) :
    Calls Tryd.prog 38 #[rT A l.length c a, .int .i64 n, .int .i64 b] w fun e w' => ∃ u, e = .returned (.tuple #[rT A l.length c (numA l a n b), u, .int .i64 (numE l a n b)]) ∧ RU w.heap.size w' u (numX l a n b) ∧ Below w.heap.size w w' := by
  unfold numX numA numE
  by_cases hb : b < 1 ∨ b > 64
  · simp only [if_pos hb]
    exact (rnums_shape A c l a n b w hb).mono fun e w' ⟨he, hb⟩ => ⟨_, he, Kd.R_nil _ _ _ _ _, hb⟩
  · simp only [if_neg hb]
    have eb : b = ((b.toNat : Nat) : Int) := by omega
    rw [eb, Int.toNat_natCast]
    exact rnums_gen A c l a n b.toNat w (by omega) (by omega) _ _ _ (fun x hx => hu x (takeX_mem hx)) (Nat.le_trans (takeX_len ha) hl) (fun W hW => rtake_any A c l a n W ha hl (Kd.C_below hr hW) hc)
/-- Next -/
def nextX (l : List Int) (a : Nat) : Int := if a < l.length then rd l (a : Int) else 0
theorem takeE_one (l : List Int) (a : Nat) (ha : a ≤ l.length) : takeE l a 1 = if a < l.length then 0 else 10 := by
  unfold takeE
  by_cases h : a < l.length
  · rw [if_pos h, if_neg (by omega), if_neg (by omega)]
  · rw [if_neg h, if_neg (by omega), if_pos (by omega)]
theorem next_any (w : World) (B g : Nat) (v : Value) (l : List Int) (a : Nat) (h : TAt w B g v l a) :
    Calls Tryd.prog 15 #[.pointer (some ⟨g, 0, none⟩)] w fun e w' => ∃ ev, e = .returned (.tuple #[.int .u64 (nextX l a), ev]) ∧ Left w w' B g v l (takeA l a 1) ev (takeE l a 1) := by
  have e1 := takeE_one l a h.le
  unfold nextX takeA
  by_cases hf : a < l.length
  · rw [if_pos hf] at e1
    simp only [e1, if_pos hf, if_pos]
    exact (next_ok w B g v l a h hf).mono fun e w' ⟨he, ht, hc⟩ => ⟨_, he, .inl ⟨rfl, rfl⟩, ht, hc⟩
  · rw [if_neg hf] at e1
    have hE : takeE l a 1 ≠ 0 := by rw [e1]; decide
    have hb := bad_of h hE
    simp only [if_neg hf, if_neg hE]
    exact (next_bad _ _ w hb).mono fun e w' ⟨ev, he, hv, hb⟩ => ⟨ev, he, .inr ⟨_, hv⟩, h.below hb, Chg.of_below hb _⟩
/-- Skip -/
def skipA (l : List Int) (a : Nat) (n : Int) : Nat := if skipE l a n = 0 then n.toNat else a
theorem skipE_zero {l : List Int} {a : Nat} {n : Int} (h : skipE l a n = 0) : (a : Int) ≤ n ∧ n ≤ (l.length : Int) := by
  unfold skipE at h
  split at h
  · cases h
  · split at h
    · cases h
    · omega
theorem skip_any (n : Int) (w : World) (B g : Nat) (v : Value) (l : List Int) (a : Nat) (h : TAt w B g v l a) :
    Calls Tryd.prog 19 #[.pointer (some ⟨g, 0, none⟩), .int .i64 n] w fun e w' => ∃ ev, e = .returned ev ∧ Left w w' B g v l (skipA l a n) ev (skipE l a n) := by
  unfold skipA
  by_cases hE : skipE l a n = 0
  · obtain ⟨h0, h1⟩ := skipE_zero hE
    have e : n = ((n.toNat : Nat) : Int) := by omega
    simp only [hE, if_pos]
    rw [e, Int.toNat_natCast]
    exact (skip_ok n.toNat w B g v l a h (by omega) (by omega)).mono fun e w' ⟨he, ht, hc⟩ => ⟨_, he, .inl ⟨rfl, rfl⟩, ht, hc⟩
  · simp only [if_neg hE]
    exact (skip_no n w B g v l a h hE).mono fun e w' ⟨ev, he, hv, hb⟩ => ⟨ev, he, .inr ⟨_, hv⟩, h.below hb, Chg.of_below hb _⟩
theorem rskip_any (A : Option Addr) (c : Nat) (l : List Int) (a : Nat) (n : Int) (w : World) (ha : a ≤ l.length) (hl : l.length ≤ 1048576) :
    Calls Tryd.prog 40 #[rT A l.length c a, .int .i64 n] w fun e w' => e = .returned (.tuple #[rT A l.length c (skipA l a n), .int .i64 (skipE l a n)]) ∧ Below w.heap.size w w' :=
  (rskip_ok A c l a n w ha hl).mono fun e w' ⟨he, hb⟩ => ⟨by
    rw [he]
    unfold skipA
    by_cases hE : skipE l a n = 0
    · have := skipE_zero hE
      simp only [if_pos hE]
      have e2 : ((n.toNat : Nat) : Int) = n := by omega
      show Ending.returned (.tuple #[.agg #[.slice A l.length c, .int .i64 n], .int .i64 (skipE l a n)]) = Ending.returned (.tuple #[.agg #[.slice A l.length c, .int .i64 ((n.toNat : Nat) : Int)], .int .i64 (skipE l a n)])
      rw [e2]
    · simp only [if_neg hE], hb⟩
end Go.Proofs.YtdgngpcfikgoeaaDoor.P
