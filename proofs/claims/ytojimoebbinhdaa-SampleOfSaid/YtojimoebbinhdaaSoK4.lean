/- SampleOf: words: rows of the call's own that are written into; equal shares; what came in, read wherever its blocks stand. -/
import Derived.BigQuiet
import Derived.Deep.AppendLies
import Derived.Deep.DrawnRows
import Derived.Deep.RegionHeld3
import Derived.Deep.RegionLaw
import Derived.Deep.RegionWith
import Derived.IntWalk
import Derived.Lib.Hide
import Derived.Outline
import Derived.Test.YtojimoebbinhdaaSoPx0
import Derived.WalkSpells
import Derived.Test.YtojimoebbinhdaaSoK0
import Derived.Test.YtojimoebbinhdaaSoK2
import Derived.Test.YtojimoebbinhdaaSoK3
namespace Go.Proofs.Ytojimoebbinhdaa.P
open Go.RowKit Go.Proofs.YtojimoebbinhdaaW.PrintWords Go.Proofs.YtojimoebbinhdaaW.PrintLast Go.Proofs.YtojimoebbinhdaaW.PrintMore
set_option linter.unusedVariables false
set_option linter.unusedSimpArgs false

/-! ### sampleof_same: words -/
theorem w64a {x : Int} (h0 : -9223372036854775808 ≤ x) (h1 : x ≤ 9223372036854775807) : wrap64 x = x := by unfold wrap64; omega
theorem nums_l0 (xs : List Int) (hl : xs.length ≤ 9000000000000000000) : ∀ (k : Nat) (i : Nat), i ≤ xs.length → xs.length - i < k → trefoilref09_nums.l0 k xs xs i = some true
  | 0, i, _, h => by omega
  | k + 1, i, hi, h => by
    unfold trefoilref09_nums.l0
    by_cases hlt : i < xs.length
    · rw [if_pos (by omega), if_pos (by omega), if_pos (by omega), if_pos rfl, w64a (by omega) (by omega), show ((i : Int) + 1) = ((i + 1 : Nat) : Int) by omega]
      exact nums_l0 xs hl k (i + 1) (by omega) (by omega)
    · rw [if_neg (by omega)]
theorem nums_same (xs : List Int) (hl : xs.length ≤ 9000000000000000000) (k : Nat) (hk : xs.length < k) : trefoilref09_nums.f k xs xs = some true := by
  unfold trefoilref09_nums.f
  rw [if_pos rfl]
  exact nums_l0 xs hl k 0 (by omega) (by omega)
theorem same09 (x : S52) (h : okS x) (k : Nat) (hk : 17592186044416 < k) : trefoilref09_Same.f k x.f0 x.f1 x.f2 x.f0 x.f1 x.f2 = some true := by
  obtain ⟨h0, h1, h2⟩ := h
  unfold trefoilref09_Same.f
  rw [nums_same x.f0 (by omega) k (by omega), nums_same x.f1 (by omega) k (by omega), nums_same x.f2 (by omega) k (by omega)]
  rfl
theorem shares_l0 (l : List S52) (hl : l.length ≤ 1000000) (hs : ∀ x ∈ l, okS x) : ∀ (k : Nat) (i : Nat), i ≤ l.length → 17592186044416 + (l.length - i) + 1 < k → trefoilref22_Shares.l0 k l l i = some true
  | 0, i, _, h => by omega
  | k + 1, i, hi, h => by
    unfold trefoilref22_Shares.l0
    by_cases hlt : i < l.length
    · have hok : okS (rd_T52 l (i : Int)) := by
        apply hs
        unfold rd_T52
        rw [Int.toNat_natCast, List.getD_eq_getElem?_getD, List.getElem?_eq_getElem hlt]
        exact List.getElem_mem _
      rw [if_pos (by omega), if_pos (by omega), if_pos (by omega), same09 _ hok k (by omega), Option.bind_some, if_pos rfl, w64a (by omega) (by omega), show ((i : Int) + 1) = ((i + 1 : Nat) : Int) by omega]
      exact shares_l0 l hl hs k (i + 1) (by omega) (by omega)
    · rw [if_neg (by omega)]
abbrev fuelS : Nat := 17592190044416
theorem shares_same (l : List S52) (hl : l.length ≤ 1000000) (hs : ∀ x ∈ l, okS x) : trefoilref22_Shares.f fuelS l l = some true := by
  unfold trefoilref22_Shares.f
  rw [if_pos rfl]
  exact shares_l0 l hl hs fuelS 0 (by omega) (by unfold fuelS; omega)
theorem awake29 : trefoillaw29_awake.f 20 = some true := by kernel_rfl
/-! #### what came in -/
theorem cell_heap {w w' : World} (h : w'.heap = w.heap) (a : Addr) : w'.cell? a = w.cell? a := by unfold World.cell?; rw [h]
theorem C64_heap {w w' : World} {A : Option Addr} {n : Nat} {xs : List Int} (h : k64.C w A n xs) (hh : w'.heap = w.heap) : k64.C w' A n xs := by
  obtain ⟨hl, hm, hn⟩ := h
  refine ⟨hl, hm, fun hp => ?_⟩
  obtain ⟨ad, e, hc⟩ := hn hp
  refine ⟨ad, e, fun j p hj => ?_⟩
  obtain ⟨cs, h1, h2, h3⟩ := hc j p hj
  exact ⟨cs, h1, h2, fun i u hu => (cell_heap hh _).trans (h3 i u hu)⟩
theorem C52_heap {w w' : World} {A : Option Addr} {n : Nat} {xs : List S52} (h : k52.C w A n xs) (hh : w'.heap = w.heap) : k52.C w' A n xs := by
  obtain ⟨hl, hm, hn⟩ := h
  refine ⟨hl, hm, fun hp => ?_⟩
  obtain ⟨ad, e, hc⟩ := hn hp
  refine ⟨ad, e, fun j p hj => ?_⟩
  obtain ⟨cs, h1, h2, h3⟩ := hc j p hj
  obtain ⟨A0, c0, A1, c1, A2, c2, rfl, l0, g0, l1, g1, l2, g2⟩ := k52_open h2
  exact ⟨_, h1, k52_mk w' p l0 (C64_heap g0 hh) l1 (C64_heap g1 hh) l2 (C64_heap g2 hh), fun i u hu => (cell_heap hh _).trans (h3 i u hu)⟩
theorem foot52 {w : World} {A : Option Addr} {n : Nat} {xs : List S52} (h : k52.C w A n xs) : Kd.F k52 w (fun k => k < w.heap.size) A n xs := fun W' hW => by
  have hsz : w.heap.size ≤ W'.heap.size := by
    rcases Nat.eq_zero_or_pos w.heap.size with h0 | h0
    · omega
    · have h1 := hW (w.heap.size - 1) (by omega) (by omega)
      have := heap_lt h1 (by omega)
      omega
  have hb : Below w.heap.size w { w with heap := W'.heap } := ⟨rfl, rfl, rfl, hsz, fun k hk => hW k hk hk⟩
  exact C52_heap (Kd.C_below h hb) rfl
/-! #### rows that are written into -/
def RowW (w : World) (lo hi : Nat) (v : Value) (n : Nat) : Prop := ∃ ai c, v = .slice ai n c ∧ (n = 0 ∨ ∃ g cs, ai = some ⟨g, 0, none⟩ ∧ lo ≤ g ∧ g < hi ∧ w.heap[g]? = some (.cells cs 22 (0, 0)) ∧ ∀ k, k < n → ∃ x, cs[k]? = some (.int .u64 x))
theorem RowW.of_R {w : World} {base : Nat} {ok : Nat → Prop} {v : Value} {l : List Int} (h : k64.R 22 w base ok v l) : RowW w base w.heap.size v l.length := by
  rcases Nat.eq_zero_or_pos l.length with h0 | h0
  · obtain ⟨A, c, rfl, -, -⟩ := Kd.R_reads h
    exact ⟨A, c, rfl, .inl h0⟩
  · obtain ⟨g, cap, rfl, hg, hlt, cs, hc⟩ := Kd.R_form h h0
    refine ⟨_, cap, rfl, .inr ⟨g, cs, rfl, hg, hlt, hc, fun k hk => ?_⟩⟩
    have h1 := (Kd.R_cell (0 : Int) h (k : Int) (by omega) (by omega)).1
    rw [Int.toNat_natCast, blk_cell hc] at h1
    exact ⟨_, h1⟩
theorem RowW.same {w w' : World} {lo hi n : Nat} {v : Value} (h : RowW w lo hi v n) (hm : ∀ k, lo ≤ k → k < hi → w'.heap[k]? = w.heap[k]?) : RowW w' lo hi v n := by
  obtain ⟨ai, c, e, h0 | ⟨g, cs, e2, h1, h2, h3, h4⟩⟩ := h
  · exact ⟨ai, c, e, .inl h0⟩
  · exact ⟨ai, c, e, .inr ⟨g, cs, e2, h1, h2, (hm g h1 h2).trans h3, h4⟩⟩
theorem RowW.set {w : World} {lo hi n : Nat} {v : Value} (h : RowW w lo hi v n) (g j : Nat) (y : Int) : RowW (w.setCell ⟨g, j, none⟩ (.int .u64 y)) lo hi v n := by
  obtain ⟨ai, c, e, h0 | ⟨g', cs, e2, h1, h2, h3, h4⟩⟩ := h
  · exact ⟨ai, c, e, .inl h0⟩
  · by_cases hg : g' = g
    · subst hg
      refine ⟨ai, c, e, .inr ⟨g', _, e2, h1, h2, blk_set h3 j (.int .u64 y), fun k hk => ?_⟩⟩
      obtain ⟨x, hx⟩ := h4 k hk
      rw [Array.getElem?_setIfInBounds]
      by_cases hkj : j = k
      · rw [if_pos hkj, if_pos (by subst hkj; exact (Array.getElem?_eq_some_iff.1 hx).1)]
        exact ⟨y, rfl⟩
      · rw [if_neg hkj]
        exact ⟨x, hx⟩
    · exact ⟨ai, c, e, .inr ⟨g', cs, e2, h1, h2, (Below.heap_setCell _ _ _ _ hg).trans h3, h4⟩⟩
def StX (w : World) (lo hi : Nat) (Ao : Option Addr) (l : List S52) : Prop := ∀ i, i < l.length → ∃ ad cs v, Ao = some ad ∧ lo ≤ ad.block ∧ ad.block < hi ∧ w.heap[ad.block]? = some (.cells cs 52 (0, 0)) ∧ w.cell? (ad.add (i * 3)) = some v ∧ RowW w lo hi v (l.getD i z52).f0.length
theorem StX.of_R {w : World} {base : Nat} {ok : Nat → Prop} {Ao : Option Addr} {n c : Nat} {l : List S52} (h : k52.R 52 w base ok (.slice Ao n c) l) : StX w base w.heap.size Ao l := fun i hi => by
  obtain ⟨g, cap, e, hg, hlt, cs, hc⟩ := Kd.R_form h (by omega)
  injection e with e1 e2 e3
  subst e1 e2
  obtain ⟨c', hcl, hM, hcc⟩ := Kd.R_getA h z52 (i : Int) (by omega) (by omega)
  obtain ⟨v0, v1, v2, rfl, r0, r1, r2⟩ := k52_openM hM
  rw [Int.toNat_natCast] at hcc r0
  exact ⟨_, cs, v0, rfl, hg, hlt, hc, hcc 0 v0 rfl, RowW.of_R r0⟩
theorem StX.below {w w' : World} {lo hi : Nat} {Ao : Option Addr} {l : List S52} (h : StX w lo hi Ao l) (hb : Below w.heap.size w w') (hhi : hi ≤ w.heap.size) : StX w' lo hi Ao l := fun i hi' => by
  obtain ⟨ad, cs, v, e, h1, h2, h3, h4, h5⟩ := h i hi'
  exact ⟨ad, cs, v, e, h1, h2, (hb.block _ (by omega)).trans h3, pw_cell_below hb h4, h5.same (fun k _ hk => hb.block k (by omega))⟩
theorem StX.set {w : World} {lo hi : Nat} {Ao : Option Addr} {l : List S52} (h : StX w lo hi Ao l) {g : Nat} {ds : Array Value} (hg : w.heap[g]? = some (.cells ds 22 (0, 0))) (j : Nat) (y : Int) : StX (w.setCell ⟨g, j, none⟩ (.int .u64 y)) lo hi Ao l := fun i hi' => by
  obtain ⟨ad, cs, v, e, h1, h2, h3, h4, h5⟩ := h i hi'
  have hne : ad.block ≠ g := fun e => by
    rw [e, hg] at h3
    injection h3 with h3
    injection h3 with _ h3
    exact absurd h3 (by decide)
  have hb := Below.heap_setCell w ⟨g, j, none⟩ (.int .u64 y) ad.block hne
  exact ⟨ad, cs, v, e, h1, h2, hb.trans h3, (World.cell?_of_block (a := ad.add (i * 3)) (by rw [add_block]; exact hb)).trans h4, h5.set g j y⟩
end Go.Proofs.Ytojimoebbinhdaa.P
