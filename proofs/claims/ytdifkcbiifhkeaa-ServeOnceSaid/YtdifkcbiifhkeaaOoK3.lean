/- Functions of the program as plain Lean functions, and proofs that the machine's calls do what these do: written by a program of this workplace (wip/tools/pp.py). -/
import Derived.Test.YtdifkcbiifhkeaaOoPx0
import Derived.Test.YtdifkcbiifhkeaaOoK0
namespace Go.Proofs.Ytdifkcbiifhkeaa.P
open Go.RowKit Go.Proofs.YtdifkcbiifhkeaaW.PrintWords Go.Proofs.YtdifkcbiifhkeaaW.PrintLast Go.Proofs.YtdifkcbiifhkeaaW.PrintMore
attribute [local go_sem] max2_int min2_int max_two min_two max_three min_three max_four min_four   -- for this text's walks alone
set_option linter.unusedVariables false
set_option linter.unusedSimpArgs false

attribute [local go_sem high] eqA30
-- NOT PRINTED: function 46 (slices_partitionOrdered_int)

-- NOT PRINTED: function 34 (slices_pdqsortOrdered_int)

-- NOT PRINTED: function 30 (slices_Sort_int_int)

-- NOT PRINTED: function 24 (slices_Sorted_int)

-- NOT PRINTED: function 25 (serve_slot_25)

-- NOT PRINTED: function 36 (serve_slot_36)

-- NOT PRINTED: function 56 (serve_slot_56)

-- NOT PRINTED: function 49 (serve_slot_49)

-- NOT PRINTED: function 37 (serve_slot_37)

-- NOT PRINTED: function 32 (serve_slot_32)

-- NOT PRINTED: function 26 (serve_slot_26)

-- NOT PRINTED: function 22 (serve_Table_open)

-- NOT PRINTED: function 16 (serve_Table_Unlike)

/-! ### trefoilref33_Tickets: function 17 -/
def trefoilref33_Tickets.l0 : Nat → List (S30) → List (S30) → Int → Option (Bool)
 | 0, _, _, _ => none
 | k + 1, x0, x1, x5 => if x5 < (x0.length : Int) then (if 0 ≤ x5 then (if x5 < (x1.length : Int) then (if (!(((rd_T30 x0 x5).f0) == ((rd_T30 x1 x5).f0)) || ((!(((rd_T30 x0 x5).f1.f0) == ((rd_T30 x1 x5).f1.f0)) || (!(((rd_T30 x0 x5).f1.f1) == ((rd_T30 x1 x5).f1.f1)) || (!(((rd_T30 x0 x5).f1.f2) == ((rd_T30 x1 x5).f1.f2)) || (!(((rd_T30 x0 x5).f1.f3) == ((rd_T30 x1 x5).f1.f3)) || (!(((rd_T30 x0 x5).f1.f4) == ((rd_T30 x1 x5).f1.f4))))))) || (!(((rd_T30 x0 x5).f2) == ((rd_T30 x1 x5).f2))))) = true then (some false) else (trefoilref33_Tickets.l0 k x0 x1 (wrap64 (x5 + 1)))) else (none)) else (none)) else (some true)
def trefoilref33_Tickets.f (k : Nat) (l0 : List (S30)) (l1 : List (S30)) : Option (Bool) := if (l0.length : Int) = (l1.length : Int) then (trefoilref33_Tickets.l0 k l0 l1 0) else (some false)
theorem trefoilref33_Tickets.mono_l : ∀ k, (∀ y0 y1 y2, LeO (trefoilref33_Tickets.l0 k y0 y1 y2) (trefoilref33_Tickets.l0 (k + 1) y0 y1 y2))
 | 0 => fun _ _ _ r h => by simp [trefoilref33_Tickets.l0] at h
 | k + 1 => by
  have ih0 := trefoilref33_Tickets.mono_l k
  ·intro y0 y1 y2
   unfold trefoilref33_Tickets.l0
   repeat' first
   | (with_reducible exact ih0 _ _ _)
   | (with_reducible exact LeO.refl _)
   | (with_reducible exact LeO.none _)
   | (with_reducible refine LeO.ite ?_ ?_)
   | (with_reducible refine LeO.bind ?_ (fun _ => ?_))
   | exact ih0 _ _ _
   | exact LeO.none _
   | refine LeO.ite ?_ ?_
   | refine LeO.bind ?_ (fun _ => ?_)
theorem trefoilref33_Tickets.mono : ∀ a0 a1 k, LeO (trefoilref33_Tickets.f k a0 a1) (trefoilref33_Tickets.f (k + 1) a0 a1) := by
 intro a0 a1 k
 have ih0 := trefoilref33_Tickets.mono_l k
 unfold trefoilref33_Tickets.f
 repeat' first
   | (with_reducible exact ih0 _ _ _)
   | (with_reducible exact LeO.refl _)
   | (with_reducible exact LeO.none _)
   | (with_reducible refine LeO.ite ?_ ?_)
   | (with_reducible refine LeO.bind ?_ (fun _ => ?_))
   | exact ih0 _ _ _
   | exact LeO.none _
   | refine LeO.ite ?_ ?_
   | refine LeO.bind ?_ (fun _ => ?_)
set_option maxHeartbeats 8000000 in
set_option maxRecDepth 100000 in
theorem trefoilref33_Tickets.calls (k : Nat) (A0 : Option Addr) (c0 : Nat) (l0 : List (S30)) (A1 : Option Addr) (c1 : Nat) (l1 : List (S30)) (r : Bool) (w : World) (hr0 : Kd.C k30 w A0 l0.length l0) (hc0 : l0.length ≤ c0) (hr1 : Kd.C k30 w A1 l1.length l1) (hc1 : l1.length ≤ c1) (h : trefoilref33_Tickets.f k l0 l1 = some r) :
  Calls Try.prog 17 #[.slice A0 l0.length c0, .slice A1 l1.length c1] w fun e w' => e = .returned (.bool r) ∧ Drawn0 w w' := by
 have hu30 := Try.underlying30
 have HR0 := Aside0.mk hr0
 have HC0 := Aside0.mk hc0
 clear hr0 hc0
 have HR1 := Aside0.mk hr1
 have HC1 := Aside0.mk hc1
 clear hr1 hc1
 have H : (if (l0.length : Int) = (l1.length : Int) then (trefoilref33_Tickets.l0 k l0 l1 0) else (some false)) = some r := h
 clear h
 by_cases c3 : (l0.length : Int) = (l1.length : Int)
 ·rw [if_pos c3] at H
  have c3b0 : ((l0.length : Int) == (l1.length : Int)) = true := beq_iff_eq.mpr c3
  have c3b1 : ((l0.length : Int) != (l1.length : Int)) = false := bne_eq_false_iff_eq.mpr c3
  have c3b2 : (l0.length == l1.length) = true := by first | simpa using c3 | (simp at c3 ⊢; omega)
  clear c3
  have H' := Aside0.mk H
  clear H
  go_enter Try.func17, Try.ntmps17
  go_wp2
  repeat (go_quiet (fail); try go_wp2)
  go_loopg [5] k (fun kq v5 w' => ∃ (x5_1 : Int), v5 = .int .i64 x5_1 ∧ Aside0 (trefoilref33_Tickets.l0 kq l0 l1 x5_1 = some r) ∧ Aside0 (kq ≤ k) ∧ Drawn0 w w')
  case atStart => exact ⟨(0), (by first | rfl | (simp; done) | (simp [*]; done)), H', ⟨Nat.le_refl _⟩, by repeat (first | exact Drawn0.refl _ | apply Drawn0.step)⟩
  case round =>
   clear H'
   try clear c1
   try clear p2
   try clear c3
   try clear c3b0
   try clear c3b1
   try clear c3b2
   obtain ⟨x5_1, rfl, HA, HK1, ⟨m1, rfl⟩⟩ := hrel
   cases gk with
   | zero => exact absurd HA.out (by simp [trefoilref33_Tickets.l0])
   | succ k1 =>
    have H := HA.out
    clear HA
    simp only [trefoilref33_Tickets.l0] at H
    by_cases c4 : x5_1 < (l0.length : Int)
    ·rw [if_pos c4] at H
     have c4b0 : decide (x5_1 < (l0.length : Int)) = true := decide_eq_true c4
     clear c4
     by_cases c5 : 0 ≤ x5_1
     ·rw [if_pos c5] at H
      have c5b0 : decide (0 ≤ x5_1) = true := decide_eq_true c5
      clear c5
      by_cases c6 : x5_1 < (l1.length : Int)
      ·rw [if_pos c6] at H
       have c6b0 : decide (x5_1 < (l1.length : Int)) = true := decide_eq_true c6
       clear c6
       by_cases c7 : (!(((rd_T30 l0 x5_1).f0) == ((rd_T30 l1 x5_1).f0)) || ((!(((rd_T30 l0 x5_1).f1.f0) == ((rd_T30 l1 x5_1).f1.f0)) || (!(((rd_T30 l0 x5_1).f1.f1) == ((rd_T30 l1 x5_1).f1.f1)) || (!(((rd_T30 l0 x5_1).f1.f2) == ((rd_T30 l1 x5_1).f1.f2)) || (!(((rd_T30 l0 x5_1).f1.f3) == ((rd_T30 l1 x5_1).f1.f3)) || (!(((rd_T30 l0 x5_1).f1.f4) == ((rd_T30 l1 x5_1).f1.f4))))))) || (!(((rd_T30 l0 x5_1).f2) == ((rd_T30 l1 x5_1).f2))))) = true
       ·rw [if_pos c7] at H
        have c7b0 : (!(((rd_T30 l0 x5_1).f0) == ((rd_T30 l1 x5_1).f0)) || ((!(((rd_T30 l0 x5_1).f1.f0) == ((rd_T30 l1 x5_1).f1.f0)) || (!(((rd_T30 l0 x5_1).f1.f1) == ((rd_T30 l1 x5_1).f1.f1)) || (!(((rd_T30 l0 x5_1).f1.f2) == ((rd_T30 l1 x5_1).f1.f2)) || (!(((rd_T30 l0 x5_1).f1.f3) == ((rd_T30 l1 x5_1).f1.f3)) || (!(((rd_T30 l0 x5_1).f1.f4) == ((rd_T30 l1 x5_1).f1.f4))))))) || (!(((rd_T30 l0 x5_1).f2) == ((rd_T30 l1 x5_1).f2))))) = true := c7
        clear c7
        obtain rfl := Option.some.inj H
        have p238 : 0 ≤ (x5_1 : Int) := of_decide_eq_true (by first | (with_reducible assumption) | assumption)
        have q238 : x5_1 < (l0.length : Int) := of_decide_eq_true (by first | (with_reducible assumption) | assumption)
        obtain ⟨ad238, e238, hx238_0, hx238_1, hx238_2, hx238_3, hx238_4, hx238_5, hx238_6⟩ := at_T30 HR0.out x5_1 p238 q238
        cases e238
        replace p238 := eq_true p238
        replace q238 := eq_true q238
        have p239 : 0 ≤ (x5_1 : Int) := of_decide_eq_true (by first | (with_reducible assumption) | assumption)
        have q239 : x5_1 < (l1.length : Int) := of_decide_eq_true (by first | (with_reducible assumption) | assumption)
        obtain ⟨ad239, e239, hx239_0, hx239_1, hx239_2, hx239_3, hx239_4, hx239_5, hx239_6⟩ := at_T30 HR1.out x5_1 p239 q239
        cases e239
        replace p239 := eq_true p239
        replace q239 := eq_true q239
        go_wp2
        repeat (go_quiet (fail); try go_wp2)
        go_ret
        exact ⟨by first | rfl | (simp; done) | (simp [*]; done), by repeat (first | exact Drawn0.refl _ | apply Drawn0.step)⟩
       ·rw [if_neg c7] at H
        have c7b0 : (!(((rd_T30 l0 x5_1).f0) == ((rd_T30 l1 x5_1).f0)) || ((!(((rd_T30 l0 x5_1).f1.f0) == ((rd_T30 l1 x5_1).f1.f0)) || (!(((rd_T30 l0 x5_1).f1.f1) == ((rd_T30 l1 x5_1).f1.f1)) || (!(((rd_T30 l0 x5_1).f1.f2) == ((rd_T30 l1 x5_1).f1.f2)) || (!(((rd_T30 l0 x5_1).f1.f3) == ((rd_T30 l1 x5_1).f1.f3)) || (!(((rd_T30 l0 x5_1).f1.f4) == ((rd_T30 l1 x5_1).f1.f4))))))) || (!(((rd_T30 l0 x5_1).f2) == ((rd_T30 l1 x5_1).f2))))) = false := by simpa using c7
        clear c7
        have H' := Aside0.mk H
        clear H
        have p238 : 0 ≤ (x5_1 : Int) := of_decide_eq_true (by first | (with_reducible assumption) | assumption)
        have q238 : x5_1 < (l0.length : Int) := of_decide_eq_true (by first | (with_reducible assumption) | assumption)
        obtain ⟨ad238, e238, hx238_0, hx238_1, hx238_2, hx238_3, hx238_4, hx238_5, hx238_6⟩ := at_T30 HR0.out x5_1 p238 q238
        cases e238
        replace p238 := eq_true p238
        replace q238 := eq_true q238
        have p239 : 0 ≤ (x5_1 : Int) := of_decide_eq_true (by first | (with_reducible assumption) | assumption)
        have q239 : x5_1 < (l1.length : Int) := of_decide_eq_true (by first | (with_reducible assumption) | assumption)
        obtain ⟨ad239, e239, hx239_0, hx239_1, hx239_2, hx239_3, hx239_4, hx239_5, hx239_6⟩ := at_T30 HR1.out x5_1 p239 q239
        cases e239
        replace p239 := eq_true p239
        replace q239 := eq_true q239
        go_wp2
        repeat (go_quiet (fail); try go_wp2)
        go_roundg k1
        case measure => have := HK1.out; omega
        case rel => exact ⟨(wrap64 (x5_1 + 1)), (by first | rfl | (simp; done) | (simp [*]; done)), H', ⟨by have := HK1.out; omega⟩, by repeat (first | exact Drawn0.refl _ | apply Drawn0.step)⟩
      ·rw [if_neg c6] at H
       exact absurd H (by simp)
     ·rw [if_neg c5] at H
      exact absurd H (by simp)
    ·rw [if_neg c4] at H
     have c4b0 : decide (x5_1 < (l0.length : Int)) = false := decide_eq_false c4
     clear c4
     obtain rfl := Option.some.inj H
     go_wp2
     repeat (go_quiet (fail); try go_wp2)
     go_ret
     exact ⟨by first | rfl | (simp; done) | (simp [*]; done), by repeat (first | exact Drawn0.refl _ | apply Drawn0.step)⟩
 ·rw [if_neg c3] at H
  have c3b0 : ((l0.length : Int) == (l1.length : Int)) = false := beq_eq_false_iff_ne.mpr c3
  have c3b1 : ((l0.length : Int) != (l1.length : Int)) = true := bne_iff_ne.mpr c3
  have c3b2 : (l0.length == l1.length) = false := by first | simpa using c3 | (simp at c3 ⊢; omega)
  obtain rfl := Option.some.inj H
  go_enter Try.func17, Try.ntmps17
  go_wp2
  repeat (go_quiet (fail); try go_wp2)
  go_ret
  exact ⟨by first | rfl | (simp; done) | (simp [*]; done), by repeat (first | exact Drawn0.refl _ | apply Drawn0.step)⟩

-- NOT PRINTED: function 18 (serve_Table_Matched)

-- NOT PRINTED: function 7 (trefoillaw33_awake)

-- NOT PRINTED: function 19 (serve_Table_own)

-- NOT PRINTED: function 8 (serve_Table_Grant)

-- NOT PRINTED: function 9 (serve_Table_Refuse)

-- NOT PRINTED: function 10 (serve_Table_Get)

-- NOT PRINTED: function 3 (trefoillaw33_ServeOnce)
end Go.Proofs.Ytdifkcbiifhkeaa.P
