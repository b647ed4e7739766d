/- Lists held against each other: the document's comparisons say yes of what is the same. -/
import Derived.Test.YtdgngpcfikgoeaaDoorMdPx0
import Derived.Test.YtdgngpcfikgoeaaDoorMdK4
import Derived.Test.YtdgngpcfikgoeaaDoorMdNum
namespace Go.Proofs.YtdgngpcfikgoeaaDoor.Lem
open Go.RowKit Go.Proofs.YtdgngpcfikgoeaaDoor.P Go.Proofs.YtdgngpcfikgoeaaDoor.Num Go.Proofs.YtdgngpcfikgoeaaDoorW.PrintWords Go.Proofs.YtdgngpcfikgoeaaDoorW.PrintMore
set_option linter.unusedVariables false

theorem nums09_loop (a : List Int) (hm : a.length ≤ 100000) (d : Nat) : ∀ (k i : Nat), i + d = a.length → d < k → trefoilref09_nums.l0 k a a i = some true := by
  induction d with
  | zero =>
    intro k i hi hk
    obtain ⟨k, rfl⟩ : ∃ q, k = q + 1 := ⟨k - 1, by omega⟩
    simp only [trefoilref09_nums.l0]; rw [if_neg (by omega)]
  | succ d ih =>
    intro k i hi hk
    obtain ⟨k, rfl⟩ : ∃ q, k = q + 1 := ⟨k - 1, by omega⟩
    simp only [trefoilref09_nums.l0]
    rw [if_pos (by omega), if_pos (by omega), if_pos (by omega), if_pos trivial]
    have : wrap64 ((i : Int) + 1) = ((i + 1 : Nat) : Int) := by rw [w64 (by omega) (by omega)]; omega
    rw [this]
    exact ih k (i + 1) (by omega) (by omega)
theorem nums09_f (a : List Int) (k : Nat) (hm : a.length ≤ 100000) (hk : a.length < k) : trefoilref09_nums.f k a a = some true := by
  unfold trefoilref09_nums.f
  rw [if_pos rfl]
  exact nums09_loop a hm a.length k 0 (by omega) hk

theorem same_f (a b c : List Int) (k : Nat) (ha : a.length ≤ 100000) (hb : b.length ≤ 100000) (hc : c.length ≤ 100000) (hk : 100001 ≤ k) : trefoilref09_Same.f k a b c a b c = some true := by
  unfold trefoilref09_Same.f
  rw [nums09_f a k ha (by omega), Option.bind_some, if_pos rfl, nums09_f b k hb (by omega), Option.bind_some, if_pos rfl, nums09_f c k hc (by omega)]; rfl

/-- no list of a share is long -/
def Shorts (l : List S86) : Prop := ∀ x ∈ l, x.f0.length ≤ 100000 ∧ x.f1.length ≤ 100000 ∧ x.f2.length ≤ 100000
theorem rd_share_mem (l : List S86) (i : Nat) (h : i < l.length) : rd_T86 l (i : Int) ∈ l := by
  simp only [rd_T86, Int.toNat_natCast]
  rw [List.getD_eq_getElem?_getD, List.getElem?_eq_getElem h]
  exact List.getElem_mem h

theorem shares_loop (a : List S86) (hm : a.length ≤ 1000) (hs : Shorts a) (d : Nat) : ∀ (k i : Nat), i + d = a.length → d + 100001 < k → trefoilref22_Shares.l0 k a a i = some true := by
  induction d with
  | zero =>
    intro k i hi hk
    obtain ⟨k, rfl⟩ : ∃ q, k = q + 1 := ⟨k - 1, by omega⟩
    simp only [trefoilref22_Shares.l0]; rw [if_neg (by omega)]
  | succ d ih =>
    intro k i hi hk
    obtain ⟨k, rfl⟩ : ∃ q, k = q + 1 := ⟨k - 1, by omega⟩
    obtain ⟨h1, h2, h3⟩ := hs _ (rd_share_mem a i (by omega))
    simp only [trefoilref22_Shares.l0]
    rw [if_pos (by omega), if_pos (by omega), if_pos (by omega), same_f _ _ _ k h1 h2 h3 (by omega), Option.bind_some, if_pos rfl]
    have : wrap64 ((i : Int) + 1) = ((i + 1 : Nat) : Int) := by rw [w64 (by omega) (by omega)]; omega
    rw [this]
    exact ih k (i + 1) (by omega) (by omega)
theorem shares_f (a : List S86) (k : Nat) (hm : a.length ≤ 1000) (hs : Shorts a) (hk : 101010 ≤ k) : trefoilref22_Shares.f k a a = some true := by
  unfold trefoilref22_Shares.f
  rw [if_pos rfl]
  exact shares_loop a hm hs a.length k 0 (by omega) (by omega)
end Go.Proofs.YtdgngpcfikgoeaaDoor.Lem
