/- The window's example (trefoillaw13.awake) comes true. -/
import Derived.BigQuiet
import Derived.Deep.AppendLies
import Derived.Deep.DrawnRows
import Derived.Deep.RegionHeld3
import Derived.Deep.RegionLaw
import Derived.IntWalk
import Derived.Lib.Hide
import Derived.Outline
import Derived.Test.YtedhckojeephaaaWxPx0
import Derived.WalkSpells
import Derived.Test.YtedhckojeephaaaWxK1
import Derived.Test.YtedhckojeephaaaWxK4
import Derived.Test.YtedhckojeephaaaWxK9
import Derived.Test.YtedhckojeephaaaWxK11
import Derived.Test.YtedhckojeephaaaWxK12
import Derived.Test.YtedhckojeephaaaWxK13
namespace Go.Proofs.Ytedhckojeephaaa.P
open Go.RowKit Go.Maps Go.Proofs.YtedhckojeephaaaW.PrintWords Go.Proofs.YtedhckojeephaaaW.PrintLast Go.Proofs.YtedhckojeephaaaW.PrintMore
set_option linter.unusedVariables false
set_option linter.unusedSimpArgs false
attribute [local go_sem ↓] Go.wp_at_zero Go.wp_at_succ

/-! ### window_awake: function 10 -/
def MB : Int → Option ByteArray := putM (fun _ => none) 2 ⟨#[98]⟩
def MA : Int → Option ByteArray := putM MB 1 ⟨#[97]⟩
theorem runB : runM MB 17 0 = [] := by decide
theorem runA : runM MA 17 0 = [⟨#[97]⟩, ⟨#[98]⟩] := by decide
theorem aw1 (w1 : World) (g : Nat) (hblk : w1.heap[g]? = some (.cells #[.int .u32 0, .map none] 55 (0, 0))) : Calls Try.prog 23 #[.pointer (some ⟨g, 0, none⟩), .int .u32 2, .string ⟨#[98]⟩] w1 fun e w' => ∃ A c, e = .returned (.tuple #[.slice A 0 c, .int .i64 0]) ∧ ∃ D, w'.heap[g]? = some (.cells #[.int .u32 0, .map (some w1.heap.size)] 55 (0, 0)) ∧ Own22 w' w1.heap.size 1 D ∧ HasM D MB ∧ Chg (fun k => k = g ∨ k = w1.heap.size) w1 w' := by
  refine (wtake_first w1 g w1.heap.size 0 rfl rfl 0 2 ⟨#[98]⟩ hblk (by omega) (by omega) (by omega) (by omega) (by decide) MB rfl).mono ?_
  rintro e w' ⟨v, D, rfl, hT⟩
  rw [runB] at hT
  obtain ⟨A, c, rfl, -, -⟩ := RS.form hT.row
  have h1 := hT.blk
  have h2 := hT.has
  simp only [List.length_nil, Int.natCast_zero, Int.add_zero] at h1 h2
  refine ⟨A, c, rfl, D, h1, hT.own, ?_, hT.keep⟩
  rw [cut_none] at h2
  · exact h2
  · intro k hk
    by_cases e : k = 2
    · omega
    · unfold MB putM at hk
      rw [if_neg e] at hk
      exact absurd rfl hk
theorem aw2 (w1 : World) (g b : Nat) (D : DU) (hblk : w1.heap[g]? = some (.cells #[.int .u32 0, .map (some b)] 55 (0, 0))) (hown : Own22 w1 b 1 D) (hD : HasM D MB) : Calls Try.prog 23 #[.pointer (some ⟨g, 0, none⟩), .int .u32 1, .string ⟨#[97]⟩] w1 fun e w' => ∃ A c, e = .returned (.tuple #[.slice A 2 c, .int .i64 0]) ∧ 2 ≤ c ∧ Kd.C Kd.string w' A 2 [⟨#[97]⟩, ⟨#[98]⟩] ∧ w'.cell? ⟨g, 0, none⟩ = some (.int .u32 2) ∧ Chg (fun k => k = g ∨ k = b) w1 w' := by
  refine (wtake_own w1 g b 1 0 1 D MB ⟨#[97]⟩ hblk hown hD (by omega) (by omega) (by omega) (by omega) (by decide) ?_ (by omega) (by decide) MA rfl).mono ?_
  · intro k hk
    by_cases e : k = 2
    · omega
    · unfold MB putM at hk
      rw [if_neg e] at hk
      exact absurd rfl hk
  · rintro e w' ⟨v, D', rfl, hT⟩
    rw [runA] at hT
    obtain ⟨A, c, rfl, hc, hC⟩ := RS.form hT.row
    obtain ⟨c0, -⟩ := cells_2 hT.blk
    exact ⟨A, c, rfl, hc, hC, c0, hT.keep⟩
theorem lit2 (w : World) (a b : ByteArray) : Kd.C Kd.string (w.alloc (.cells #[.string a, .string b] 9)) (some ⟨w.heap.size, 0, none⟩) 2 [a, b] := by
  refine ⟨rfl, by simp, fun _ => ⟨_, rfl, fun j p hj => ⟨[.string p], rfl, rfl, fun i u hu => ?_⟩⟩⟩
  rw [add_plain, blk_cell (heap_alloc_new w _)]
  match i, hu with
  | 0, hu =>
    obtain rfl := Option.some.inj hu
    match j, hj with
    | 0, hj => obtain rfl := Option.some.inj hj; rfl
    | 1, hj => obtain rfl := Option.some.inj hj; rfl
set_option maxHeartbeats 4000000 in
set_option maxRecDepth 100000 in
theorem awake13.calls (w : World) : Calls Try.prog 10 #[] w fun e w' => e = .returned (.bool true) ∧ Below w.heap.size w w' := by
  have HT := Aside0.mk (show trefoilref01_Texts.f 10 [(⟨#[97]⟩ : ByteArray), ⟨#[98]⟩] [⟨#[97]⟩, ⟨#[98]⟩] = some true from by kernel_rfl)
  have tok1 : True := trivial
  have HN := Aside0.mk (heap_alloc_new w (.cells #[.int .u32 0, .map none] 55))
  go_enter Try.func10, Try.ntmps10
  go_wp2_with (first
    | (go_at_call 23; have _t := tok1; (with_reducible refine (aw1 _ w.heap.size HN.out).mono ?_); rintro e w1 ⟨A, c, rfl, D, hb, hown, hD, hch⟩; clear tok1; have HB1 := Aside0.mk hb; have HO1 := Aside0.mk hown; have HD1 := Aside0.mk hD; have HC1 := Aside0.mk hch; clear hb hown hD hch)
    | (go_at_call 23; (with_reducible refine (aw2 _ w.heap.size _ D HB1.out HO1.out HD1.out).mono ?_); rintro e w2 ⟨A2, c2, rfl, hc2, hC2, h2, hch⟩; have HC2 := Aside0.mk hch; have HL2 := Aside0.mk hC2; clear hch hC2 HO1)
    | (go_at_call 23; (with_reducible refine (wtake_stale w.heap.size 2 1 (.map none) _ _ h2 (by omega)).mono ?_); rintro e w3 ⟨rfl, rfl⟩)
    | (go_at_call 25; refine (trefoilref01_Texts.calls 10 _ _ [⟨#[97]⟩, ⟨#[98]⟩] _ 2 [⟨#[97]⟩, ⟨#[98]⟩] true _ (Kd.C_alloc HL2.out _) hc2 (lit2 w2 _ _) (by decide) HT.out).mono ?_; rintro e w4 ⟨rfl, hd⟩; have HDD := Aside0.mk hd.below; clear hd))
  go_ret
  refine ⟨rfl, below_step (below_alloc (HC2.out.below (HC1.out.below (below_alloc (Below.refl _ _) _) ?_) ?_) _) HDD.out⟩
  · rintro k (rfl | rfl)
    · exact Nat.le_refl _
    · simp
  · rintro k (rfl | rfl)
    · exact Nat.le_refl _
    · simp
end Go.Proofs.Ytedhckojeephaaa.P
