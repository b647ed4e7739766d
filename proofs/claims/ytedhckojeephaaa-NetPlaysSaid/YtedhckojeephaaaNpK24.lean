/- NetPlays: the law's text, walked. -/
import Derived.Test.YtedhckojeephaaaNpPx0
import Derived.Test.YtedhckojeephaaaNpK0
import Derived.Test.YtedhckojeephaaaNpK1
import Derived.Test.YtedhckojeephaaaNpK2
import Derived.Test.YtedhckojeephaaaNpK6
import Derived.Test.YtedhckojeephaaaNpK8
import Derived.Test.YtedhckojeephaaaNpK10
import Derived.Test.YtedhckojeephaaaNpK18
import Derived.Test.YtedhckojeephaaaNpK19
import Derived.Test.YtedhckojeephaaaNpK22
import Derived.Test.YtedhckojeephaaaNpK23
namespace Go.Proofs.Ytedhckojeephaaa.P
open Go.RowKit Go.Proofs.YtedhckojeephaaaW.PrintWords Go.Proofs.YtedhckojeephaaaW.PrintLast Go.Proofs.YtedhckojeephaaaW.PrintMore
set_option linter.unusedVariables false
set_option linter.unusedSimpArgs false
attribute [local go_sem ↓] Go.wp_at_zero Go.wp_at_succ

/-! ### trefoillaw12_NetPlays: function 6 -/
def trefoillaw12_NetPlays.f (l0 : List S67) : Option Bool := some true
theorem to0 : (0 : Int) = toOf false := rfl
theorem to1 : (1 : Int) = toOf true := rfl
def HeadPlay (w wr : World) (g gr : Nat) : Prop := ∃ F, PlayIs w wr g gr F ∧ Bnd F
theorem texts_own (l : List ByteArray) (hl : l.length ≤ 64) : trefoilref01_Texts.f 100 l l = some true := by
  have go : ∀ (k i : Nat), i ≤ l.length → l.length - i < k → trefoilref01_Texts.l0 k l l (i : Int) = some true := by
    intro k
    induction k with
    | zero => intro i _ h; omega
    | succ k ih =>
      intro i hi h
      unfold trefoilref01_Texts.l0
      by_cases hlt : i < l.length
      · have t1 : (i : Int) < (l.length : Int) := by omega
        have t2 : (0 : Int) ≤ (i : Int) := by omega
        have e5 : wrap64 ((i : Int) + 1) = ((i + 1 : Nat) : Int) := by unfold wrap64; omega
        simp only [t1, t2, if_true, true_and, and_self, e5, ne_eq, not_true_eq_false, if_false]
        exact ih (i + 1) (by omega) (by omega)
      · rw [if_neg (by omega)]
  unfold trefoilref01_Texts.f
  have := go 100 0 (by omega) (by omega)
  simp only [ne_eq, not_true_eq_false, if_false, if_true]
  exact this
set_option maxHeartbeats 8000000 in
set_option maxRecDepth 100000 in
theorem trefoillaw12_NetPlays.calls (A0 : Option Addr) (c0 : Nat) (l0 : List S67) (r : Bool) (w : World) (hr0 : Kd.C k67 w A0 l0.length l0) (hc0 : l0.length ≤ c0) (h : trefoillaw12_NetPlays.f l0 = some r) :
    Calls Try.prog 6 #[.slice A0 l0.length c0] w fun e w' => e = .returned (.bool r) ∧ Below w.heap.size w w' := by
  obtain rfl : true = r := Option.some.inj h
  clear h
  have hm := Kd.C_max hr0
  have HR := Aside0.mk hr0
  clear hr0
  go_enter Try.func6, Try.ntmps6
  go_wp2_with (go_at_call 26; refine (new_net (fun _ => False) w w (Below.refl _ _)).mono ?_; rintro e w1 ⟨rfl, hi1, hb1⟩; have HI := Aside0.mk hi1; have HB := Aside0.mk hb1; clear hi1 hb1)
  have HS : Aside0 (HeadPlay w (w1.alloc (.cells #[.slice none 0 0, .slice none 0 0] 77)) w.heap.size w1.heap.size) := by
    have hb := HB.out
    have hg : w.heap.size ≠ w1.heap.size := by obtain ⟨va, vb, hv⟩ := HI.out; have := blk_lt hv.blk; omega
    exact ⟨fun _ => [], ⟨_, _, heap_alloc_new w1 _, hb.size, Kd.R_nil _ _ _ _ _, Kd.R_nil _ _ _ _ _, (HI.out.below (below_alloc (Below.refl _ _) _)).mono (fun _ h => h.elim), hg, below_alloc hb _⟩, fun b => ⟨by simp, by simp⟩⟩
  obtain ⟨g, hg⟩ : ∃ g, g = w.heap.size := ⟨_, rfl⟩
  obtain ⟨gr, hgr⟩ : ∃ gr, gr = w1.heap.size := ⟨_, rfl⟩
  rw [← hg, ← hgr] at HS
  rw [← hg, ← hgr]
  clear hg hgr HI HB
  go_loopw [5] (fun s5 wr => ∃ i : Nat, i ≤ l0.length ∧ i ≤ 100 ∧ s5 = .int .i64 i ∧ Aside0 (HeadPlay w wr g gr)) (fun s5 _ => l0.length - (intOf s5).toNat)
  case atStart => exact ⟨0, by omega, by omega, rfl, HS⟩
  case round =>
    clear HS
    obtain ⟨wo, rfl⟩ : ∃ wo : World, wo = wr := ⟨_, rfl⟩
    obtain ⟨i, hi, hi100, rfl, HT⟩ := hrel
    by_cases hlt : i < l0.length ∧ i < 100
    · have hl1 : (i : Int) < (l0.length : Int) := by omega
      have h100 : (i : Int) < 100 := by omega
      obtain ⟨F, hP, hF⟩ := HT.out
      have hTb : Below w.heap.size w wo := by obtain ⟨_, _, h⟩ := hP; exact h.bel
      obtain ⟨ad, rfl, q0, q1, q2, q3, q4, q5⟩ := at_T67 (Kd.C_below HR.out hTb) (i : Int) (by omega) (by omega)
      rw [Int.toNat_natCast] at q0 q1 q2 q3 q4 q5
      obtain ⟨x, hx⟩ : ∃ x, x = rd_T67 l0 (i : Int) := ⟨_, rfl⟩
      rw [← hx] at q0 q1 q2 q3 q4 q5
      have HP := Aside0.mk hP
      have HF := Aside0.mk hF
      have hi0 : (0 : Int) ≤ (i : Int) := by omega
      clear hx hP hF hlt hTb
      by_cases hbig : (x.f4.size : Int) > 1000
      · go_wp2
        all_goals
          go_roundw
          all_goals first
            | (case rel => exact ⟨i + 1, by omega, by omega, by go_num, HT⟩)
            | (case measure => simp [intOf]; omega)
      · have hsz : (x.f4.size : Int) ≤ 1000 := by omega
        have HZ := Aside0.mk (show x.f4.size ≤ 1000 by omega)
        clear hbig HT
        go_wp2_with fail
        have tok : True := trivial
        go_region_with (first
          | (go_at_call 35; (with_reducible refine (does_any w _ g gr F x (HP.out.below (below_drew (Below.refl _ _))) HF.out HZ.out).mono ?_); rintro e w2 ⟨rfl, F', ⟨v0, v1, hA⟩, hF'⟩; obtain ⟨B0, B1, d0, d1, rfl, rfl, hR⟩ := hA.ref; have HA := Aside0.mk hA; have HF' := Aside0.mk hF'; have hl0 := (hF' false).1; have hl1 := (hF' true).1; obtain ⟨k0, k1, -⟩ := cells_2 hA.blk; clear hA hF' hR)
          | (go_at_call 33; (with_reducible refine (all_ok _ w _ g F' 0 false to0 HA.out.net (by omega)).mono ?_); rintro e w3 ⟨A, c, rfl, hlc, hlr, hb⟩; replace HA := Aside0.mk (HA.out.below hb); have HLR := Aside0.mk hlr; obtain ⟨k2, k3, -⟩ := cells_2 HA.out.blk; clear hb hlr)
          | (go_at_call 33; (with_reducible refine (all_ok _ w _ g F' 1 true to1 HA.out.net (by omega)).mono ?_); rintro e w3 ⟨A, c, rfl, hlc, hlr, hb⟩; replace HA := Aside0.mk (HA.out.below hb); have HLR := Aside0.mk hlr; obtain ⟨k2, k3, -⟩ := cells_2 HA.out.blk; clear hb hlr)
          | (go_at_call 25; (with_reducible refine (trefoilref01_Texts.calls 100 _ _ (F' false) _ _ (F' false) true _ HLR.out hlc (Kd.R_reads' HA.out.r0).2.2 (Kd.R_reads' HA.out.r0).2.1 (texts_own _ hl0)).mono ?_); rintro e w4 ⟨rfl, hd⟩; replace HA := Aside0.mk (HA.out.below hd.below); obtain ⟨k4, k5, -⟩ := cells_2 HA.out.blk; clear hd)
          | (go_at_call 25; (with_reducible refine (trefoilref01_Texts.calls 100 _ _ (F' true) _ _ (F' true) true _ HLR.out hlc (Kd.R_reads' HA.out.r1).2.2 (Kd.R_reads' HA.out.r1).2.1 (texts_own _ hl1)).mono ?_); rintro e w4 ⟨rfl, hd⟩; replace HA := Aside0.mk (HA.out.below hd.below); obtain ⟨k4, k5, -⟩ := cells_2 HA.out.blk; clear hd)
          | (go_at_call 36; (with_reducible refine (len_ok _ w _ g F' 0 false to0 HA.out.net).mono ?_); rintro e w5 ⟨rfl, rfl⟩)
          | (go_at_call 36; (with_reducible refine (len_ok _ w _ g F' 1 true to1 HA.out.net).mono ?_); rintro e w5 ⟨rfl, rfl⟩))
        all_goals (try go_wp2)
        all_goals
          go_roundw
          all_goals first
            | (case rel => exact ⟨i + 1, by omega, by omega, by go_num, ⟨⟨F', ⟨_, _, HA.out⟩, HF'.out⟩⟩⟩)
            | (case measure => simp [intOf]; omega)
    · have hTb : Aside0 (Below w.heap.size w wo) := by obtain ⟨F, ⟨_, _, h⟩, hG⟩ := HT.out; exact ⟨h.bel⟩
      obtain ⟨ok, F, hN⟩ : ∃ ok F, NetIs ok w wo g F := by
        obtain ⟨F, ⟨u0, u1, hA⟩, hG⟩ := HT.out
        exact ⟨_, F, hA.net⟩
      have HN := Aside0.mk hN
      have t2 : (2 : Int) < 0 ∨ (2 : Int) > 1 := by omega
      have tm : (-1 : Int) < 0 ∨ (-1 : Int) > 1 := by omega
      have ends : i = l0.length ∨ (i < l0.length ∧ i = 100) := by omega
      clear hN hlt
      rcases ends with rfl | ⟨hl, rfl⟩
      all_goals
        go_wp2_with (first
          | (go_at_call 33; (with_reducible refine (all_bad ok w _ g F 2 t2 HN.out).mono ?_); rintro e w2 ⟨rfl, rfl⟩)
          | (go_at_call 36; (with_reducible refine (len_bad ok w _ g F (-1) tm HN.out).mono ?_); rintro e w2 ⟨rfl, rfl⟩)
          | (go_at_call 34; refine (awake12.calls _).mono ?_; rintro e w2 ⟨rfl, hb⟩; replace hTb := Aside0.mk (below_step hTb.out hb); clear hb))
        go_ret
        exact ⟨rfl, hTb.out⟩
end Go.Proofs.Ytedhckojeephaaa.P
