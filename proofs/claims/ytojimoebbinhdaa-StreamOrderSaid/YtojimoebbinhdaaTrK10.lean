/- StreamOrder: what has come, round by round. -/
import Derived.BigQuiet
import Derived.Deep.AppendLies
import Derived.Deep.DrawnRows
import Derived.Deep.RegionHeld3
import Derived.Deep.RegionLaw
import Derived.Deep.RegionWith
import Derived.IntWalk
import Derived.Lib.Hide
import Derived.Outline
import Derived.Test.YtojimoebbinhdaaTrPx0
import Derived.WalkSpells
namespace Go.Proofs.Ytojimoebbinhdaa.P
open Go.RowKit Go.Proofs.YtojimoebbinhdaaW.PrintWords Go.Proofs.YtojimoebbinhdaaW.PrintLast Go.Proofs.YtojimoebbinhdaaW.PrintMore
set_option linter.unusedVariables false
set_option linter.unusedSimpArgs false

/-! ### stream_inv: words -/
structure Inv (c T i : Nat) (parts : List (List Int)) (PLa : List (List Int)) (HLa : List Bool) (PLb : List (List Int)) (HLb : List Bool) : Prop where
  l0 : parts.length = c
  l1 : PLa.length = c
  l2 : HLa.length = c
  l3 : PLb.length = c
  l4 : HLb.length = c
  a1 : ∀ j, j < c → (HLa.getD j false = true ↔ j < i)
  a2 : ∀ j, j < i → PLa.getD j [] = parts.getD j []
  b1 : ∀ j, j < c → (HLb.getD j false = true ↔ ∃ t, t < i ∧ (t + T) % c = j)
  b2 : ∀ t, t < i → PLb.getD ((t + T) % c) [] = parts.getD ((t + T) % c) []
theorem getD_set {α : Type} (L : List α) (i j : Nat) (x d : α) (h : i < L.length) : (L.set i x).getD j d = if i = j then x else L.getD j d := by
  rw [List.getD_eq_getElem?_getD, List.getElem?_set]
  by_cases e : i = j
  · subst e
    rw [if_pos rfl, if_pos h, if_pos rfl]
    rfl
  · rw [if_neg e, if_neg e, List.getD_eq_getElem?_getD]
theorem Inv.start (c T : Nat) (parts : List (List Int)) (h : parts.length = c) : Inv c T 0 parts (List.replicate c []) (List.replicate c false) (List.replicate c []) (List.replicate c false) := by
  have hf : ∀ j, j < c → (List.replicate c false).getD j false = false := fun j hj => by
    rw [List.getD_eq_getElem?_getD, List.getElem?_replicate]; split <;> rfl
  exact ⟨h, by simp, by simp, by simp, by simp, fun j hj => by rw [hf j hj]; simp, fun j hj => by omega, fun j hj => by rw [hf j hj]; simp, fun t ht => by omega⟩
theorem Inv.freeA {c T i : Nat} {parts PLa PLb : List (List Int)} {HLa HLb : List Bool} (h : Inv c T i parts PLa HLa PLb HLb) (hi : i < c) : HLa.getD i false = false := by
  have := h.a1 i hi
  cases e : HLa.getD i false with
  | false => rfl
  | true => have := this.1 e; omega
theorem mod_ne (c T i t : Nat) (hi : i < c) (ht : t < i) : (t + T) % c ≠ (i + T) % c := fun e => by
  have h1 : (i - t + (t + T)) % c = (t + T) % c := by rw [show i - t + (t + T) = i + T by omega]; exact e.symm
  have h2 := Nat.mod_lt (t + T) (show 0 < c by omega)
  have h3 : (i - t + (t + T) % c) % c = (t + T) % c := by rw [Nat.add_mod_mod]; exact h1
  obtain ⟨r, hr⟩ : ∃ r, r = (t + T) % c := ⟨_, rfl⟩
  rw [← hr] at h2 h3
  by_cases hlt : i - t + r < c
  · rw [Nat.mod_eq_of_lt hlt] at h3; omega
  · have h4 : i - t + r = c + (i - t + r - c) := by omega
    rw [h4, Nat.add_mod_left, Nat.mod_eq_of_lt (by omega)] at h3
    omega
theorem Inv.freeB {c T i : Nat} {parts PLa PLb : List (List Int)} {HLa HLb : List Bool} (h : Inv c T i parts PLa HLa PLb HLb) (hi : i < c) : HLb.getD ((i + T) % c) false = false := by
  have := h.b1 ((i + T) % c) (Nat.mod_lt _ (by omega))
  cases e : HLb.getD ((i + T) % c) false with
  | false => rfl
  | true =>
    obtain ⟨t, ht, h2⟩ := this.1 e
    exact absurd h2 (mod_ne c T i t hi ht)
theorem Inv.step {c T i : Nat} {parts PLa PLb : List (List Int)} {HLa HLb : List Bool} (h : Inv c T i parts PLa HLa PLb HLb) (hi : i < c) :
    Inv c T (i + 1) parts (PLa.set i (parts.getD i [])) (HLa.set i true) (PLb.set ((i + T) % c) (parts.getD ((i + T) % c) [])) (HLb.set ((i + T) % c) true) := by
  have hk : (i + T) % c < c := Nat.mod_lt _ (by omega)
  refine ⟨h.l0, by simp [h.l1], by simp [h.l2], by simp [h.l3], by simp [h.l4], fun j hj => ?_, fun j hj => ?_, fun j hj => ?_, fun t ht => ?_⟩
  · rw [getD_set _ _ _ _ _ (by rw [h.l2]; exact hi)]
    by_cases e : i = j
    · rw [if_pos e]; simp; omega
    · rw [if_neg e, h.a1 j hj]; omega
  · rw [getD_set _ _ _ _ _ (by rw [h.l1]; exact hi)]
    by_cases e : i = j
    · rw [if_pos e, e]
    · rw [if_neg e]; exact h.a2 j (by omega)
  · rw [getD_set _ _ _ _ _ (by rw [h.l4]; exact hk)]
    by_cases e : (i + T) % c = j
    · rw [if_pos e]
      exact ⟨fun _ => ⟨i, by omega, e⟩, fun _ => rfl⟩
    · rw [if_neg e, h.b1 j hj]
      constructor
      · rintro ⟨t, h1, h2⟩; exact ⟨t, by omega, h2⟩
      · rintro ⟨t, h1, h2⟩
        have : t ≠ i := fun e2 => e (by rw [← e2]; exact h2)
        exact ⟨t, by omega, h2⟩
  · rw [getD_set _ _ _ _ _ (by rw [h.l3]; exact hk)]
    by_cases e : (i + T) % c = (t + T) % c
    · rw [if_pos e, e]
    · rw [if_neg e]
      have : t ≠ i := fun e2 => e (by rw [e2])
      exact h.b2 t (by omega)
theorem ext_getD {L M : List (List Int)} {c : Nat} (h1 : L.length = c) (h2 : M.length = c) (h : ∀ j, j < c → L.getD j [] = M.getD j []) : L = M := by
  apply List.ext_getElem (by omega)
  intro j hj hj'
  have := h j (by omega)
  rw [List.getD_eq_getElem?_getD, List.getD_eq_getElem?_getD, List.getElem?_eq_getElem hj, List.getElem?_eq_getElem hj'] at this
  exact this
theorem Inv.done {c T : Nat} {parts PLa PLb : List (List Int)} {HLa HLb : List Bool} (h : Inv c T c parts PLa HLa PLb HLb) : PLa = parts ∧ PLb = parts ∧ (∀ j, j < HLa.length → HLa.getD j false = true) ∧ ∀ j, j < HLb.length → HLb.getD j false = true := by
  have hex : ∀ j, j < c → ∃ t, t < c ∧ (t + T) % c = j := fun j hj => by
    refine ⟨(j + (c - T % c)) % c, Nat.mod_lt _ (by omega), ?_⟩
    have hT := Nat.mod_lt T (show 0 < c by omega)
    have e1 : ((j + (c - T % c)) % c + T) % c = (j + (c - T % c) + T % c) % c := by
      rw [Nat.mod_add_mod, ← Nat.add_mod_mod (j + (c - T % c)) T c]
    rw [e1, show j + (c - T % c) + T % c = j + c by omega, Nat.add_mod_right, Nat.mod_eq_of_lt hj]
  refine ⟨ext_getD h.l1 h.l0 (fun j hj => h.a2 j hj), ext_getD h.l3 h.l0 (fun j hj => ?_), fun j hj => (h.a1 j (by rw [← h.l2]; exact hj)).2 (by rw [← h.l2]; exact hj), fun j hj => (h.b1 j (by rw [← h.l4]; exact hj)).2 (hex j (by rw [← h.l4]; exact hj))⟩
  obtain ⟨t, h1, h2⟩ := hex j hj
  have := h.b2 t h1
  rw [h2] at this
  exact this
end Go.Proofs.Ytojimoebbinhdaa.P
