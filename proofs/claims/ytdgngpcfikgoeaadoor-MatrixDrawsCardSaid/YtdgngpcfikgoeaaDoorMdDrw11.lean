/- ScalarDraws: what is drawn of a tape is the document's. -/
import Derived.Test.YtdgngpcfikgoeaaDoorMdDrw10
import Derived.Test.YtdgngpcfikgoeaaDoorMdDrw3
namespace Go.Proofs.YtdgngpcfikgoeaaDoor.P
open Go.RowKit Go.Extern.Stop Go.Stop Go.Extern Go.Proofs.YtdgngpcfikgoeaaDoorW.PrintWords Go.Proofs.YtdgngpcfikgoeaaDoorW.PrintLast Go.Proofs.YtdgngpcfikgoeaaDoorW.PrintMore
set_option linter.unusedVariables false
set_option linter.unusedSimpArgs false
/-- what the program's Draw and the document's ref22.Draw come to: the document's shares lie in one row -/
structure Agree2 (F : Array Value → World → (Ending → World → Prop) → Prop) (kind : Int) (cl n : Value) (A : Option Addr) (c : Nat) (l : List Int) (XS : List S86) (E : Int) (a' : Nat) : Prop where
  len : XS.length ≤ 1000 ∧ ∀ x ∈ XS, x.f0.length ≤ 100000 ∧ x.f1.length ≤ 100000 ∧ x.f2.length ≤ 100000
  prog : ∀ (W : World) (B g : Nat) (v : Value), TAt W B g v l 0 → F #[cl, n, .pointer (some ⟨g, 0, none⟩)] W fun e w' => ∃ u ev, e = .returned (.tuple #[u, ev]) ∧ SR W.heap.size w' u XS ∧ ErrV w' ev E ∧ TAt w' B g v l a' ∧ Chg (fun k => k = g) W w'
  doc : ∀ W : World, Kd.C (Kd.int .u64) W A l.length l → Calls Tryd.prog 28 #[cl, .int .i64 kind, n, rT A l.length c 0] W fun e w' => ∃ Ar cr, e = .returned (.tuple #[rT A l.length c a', .slice Ar XS.length cr, .int .i64 E]) ∧ XS.length ≤ cr ∧ Kd.C k86 w' Ar XS.length XS ∧ Below W.heap.size W w'
theorem shG_small (Y : List Int) (x y n : Nat) (hY : Y.length ≤ 100000) : ∀ s ∈ shG Y x y n, s.f0.length ≤ 100000 ∧ s.f1.length ≤ 100000 ∧ s.f2.length ≤ 100000 := by
  intro s hs
  unfold shG at hs
  obtain ⟨i, -, rfl⟩ := List.mem_map.1 hs
  unfold shA
  simp only [List.length_drop, List.length_take, List.length_nil]
  omega
/-- the program's half: no share at a wrong class; none at a short tape; the shares -/
structure ProgHalf (F : Array Value → World → (Ending → World → Prop) → Prop) (cl : Value) (n : Int) (l : List Int) (chk : Int) (b N : Nat) (XS : List S86) : Prop where
  no : chk ≠ 0 → ∀ (W : World) (tp : Value), F #[cl, .int .i64 n, tp] W fun e w' => ∃ v, e = .returned (.tuple #[.slice none 0 0, v]) ∧ ErrIs 0 w' v chk ∧ Below W.heap.size W w'
  bad : chk = 0 → l.length < N → ∀ (W : World) (B g : Nat) (v : Value), TAt W B g v l 0 → F #[cl, .int .i64 n, .pointer (some ⟨g, 0, none⟩)] W fun e w' => ∃ v, e = .returned (.tuple #[.slice none 0 0, v]) ∧ ErrIs 3 w' v 10 ∧ Below W.heap.size W w'
  ok : chk = 0 → N ≤ l.length → ∀ (W : World) (B g : Nat) (v : Value), TAt W B g v l 0 → F #[cl, .int .i64 n, .pointer (some ⟨g, 0, none⟩)] W fun e w' => ∃ u, e = .returned (.tuple #[u, .nilIface]) ∧ SR W.heap.size w' u XS ∧ TAt w' B g v l N ∧ Chg (fun k => k = g) W w'
theorem agreeG (F : Array Value → World → (Ending → World → Prop) → Prop) (hmono : ∀ {args : Array Value} {W : World} {Q Q' : Ending → World → Prop}, F args W Q → (∀ e w, Q e w → Q' e w) → F args W Q') (kind c0 c1 c2 c3 c4 n : Int) (A : Option Addr) (c : Nat) (l : List Int) (hc : l.length ≤ c) (hl : l.length ≤ 1000) (hu : ∀ x ∈ l, 0 ≤ x ∧ x < 18446744073709551616)
    (chk : Int) (m k q : Int) (x y b N : Nat) (HP : ProgHalf F (cV c0 c1 c2 c3 c4) n l chk b N (shG (((l.take N).drop 0).map (cutB b)) x y n.toNat))
    (HCk : ∀ W, Calls Tryd.prog 47 #[cV c0 c1 c2 c3 c4, .int .i64 kind, .int .i64 n] W fun e w' => e = .returned (.int .i64 chk) ∧ Below W.heap.size W w')
    (HSd : chk = 0 → ∀ W, Calls Tryd.prog 48 #[cV c0 c1 c2 c3 c4] W fun e w' => e = .returned (.tuple #[.int .i64 m, .int .i64 k, .int .i64 q]) ∧ Below W.heap.size W w')
    (HRk : chk = 0 → Reck m k q x y (x + y) N n) (hz : chk = 0 → 0 ≤ n ∧ n ≤ 24 ∧ c1 = (b : Int) ∧ 1 ≤ b ∧ b ≤ 64 ∧ n * ((x + y : Nat) : Int) = (N : Int)) :
    ∃ XS E a', Agree2 F kind (cV c0 c1 c2 c3 c4) (.int .i64 n) A c l XS E a' := by
  by_cases h : chk = 0
  · obtain ⟨n0, n24, rfl, b1, b2, hN⟩ := hz h
    have HCk0 : ∀ W, Calls Tryd.prog 47 #[cV c0 (b : Int) c2 c3 c4, .int .i64 kind, .int .i64 n] W fun e w' => e = .returned (.int .i64 0) ∧ Below W.heap.size W w' := by rw [h] at HCk; exact HCk
    by_cases hf : N ≤ l.length
    · have hyl : (((l.take N).drop 0).map (cutB b)).length = N := by rw [List.length_map, List.length_drop, List.length_take]; omega
      refine ⟨shG (((l.take N).drop 0).map (cutB b)) x y n.toNat, 0, N, ⟨by rw [shG_len]; omega, shG_small _ _ _ _ (by rw [hyl]; omega)⟩, fun W B g v hT => hmono (HP.ok h hf W B g v hT) (fun e w' ⟨u, he, hs, ht, hc⟩ => ⟨u, _, he, hs, .inl ⟨rfl, rfl⟩, ht, hc⟩), fun W hr => ?_⟩
      exact rdrawG_ok kind c0 (b : Int) c2 c3 c4 n A c l 0 W m k q x y (x + y) N (HRk h) HCk0 (HSd h) ⟨n0, n24⟩ rfl hN _ hyl (by rw [hyl]; omega) N (fun W' hW => by
        have := rnums_ok A c l 0 N b W' b1 b2 (by omega) (by omega) (Kd.C_below hr hW) hc hu
        rw [Nat.zero_add] at this
        exact this)
    · have hE : takeE l 0 (N : Int) = 10 := by unfold takeE; rw [if_neg (by omega), if_pos (by omega)]
      refine ⟨[], 10, 0, ⟨by simp, fun x hx => by simp at hx⟩, fun W B g v hT => hmono (HP.bad h (by omega) W B g v hT) (fun e w' ⟨ev, he, hE, hb⟩ => ⟨_, ev, he, Kd.R_nil _ _ _ _ _, .inr ⟨_, hE⟩, hT.below hb, Chg.of_below hb _⟩), fun W hr => ?_⟩
      exact (rdrawG_bad kind c0 (b : Int) c2 c3 c4 n A c l 0 W m k q x y (x + y) N (HRk h) HCk0 (HSd h) 10 (by decide) (fun W' hW => by
        have := rnums_bad A c l 0 b (N : Int) W' b1 b2 (by omega) (by omega) (by rw [hE]; decide)
        rw [hE] at this
        exact this.mono (fun e w' ⟨u, he, _, hb⟩ => ⟨u, he, hb⟩))).mono (fun e w' ⟨he, hb⟩ => ⟨none, 0, he, Nat.le_refl _, Kd.C_nil _ _, hb⟩)
  · refine ⟨[], chk, 0, ⟨by simp, fun x hx => by simp at hx⟩, fun W B g v hT => hmono (HP.no h W _) (fun e w' ⟨ev, he, hE, hb⟩ => ⟨_, ev, he, Kd.R_nil _ _ _ _ _, .inr ⟨_, hE⟩, hT.below hb, Chg.of_below hb _⟩), fun W hr => ?_⟩
    exact (rdrawG_no kind c0 c1 c2 c3 c4 n A c l 0 W chk h HCk).mono (fun e w' ⟨he, hb⟩ => ⟨none, 0, he, Nat.le_refl _, Kd.C_nil _ _, hb⟩)
end Go.Proofs.YtdgngpcfikgoeaaDoor.P
