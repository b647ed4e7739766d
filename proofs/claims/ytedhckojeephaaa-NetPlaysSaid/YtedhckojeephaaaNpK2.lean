/- A network between two: each call's answer, and what is on its way behind it. -/
import Derived.BigQuiet
import Derived.Deep.AppendLies
import Derived.Deep.DrawnRows
import Derived.Deep.RegionHeld3
import Derived.Deep.RegionLaw
import Derived.IntWalk
import Derived.Lib.Hide
import Derived.Outline
import Derived.Test.YtedhckojeephaaaNpPx0
import Derived.Test.YtedhckojeephaaaNpShelf
import Derived.WalkSpells
import Derived.Test.YtedhckojeephaaaNpK0
namespace Go.Proofs.Ytedhckojeephaaa.P
open Go.RowKit Go.Proofs.YtedhckojeephaaaW.PrintWords Go.Proofs.YtedhckojeephaaaW.PrintLast Go.Proofs.YtedhckojeephaaaW.PrintMore
set_option linter.unusedVariables false
set_option linter.unusedSimpArgs false
attribute [local go_sem ↓] Go.wp_at_zero Go.wp_at_succ

/-! ### net: functions 26 to 45 -/
theorem ready_nil (t : Int) (w : World) : Calls Try.prog 43 #[.pointer none, .int .i64 t] w fun e w' => e = .returned (.int .i64 3) ∧ w = w' := by
  go_enter Try.func43, Try.ntmps43
  go_wp2
  go_ret
  exact ⟨rfl, rfl⟩
theorem ready_zero (g : Nat) (t : Int) (w : World) (h : w.cell? ⟨g, 2, none⟩ = some (.bool false)) : Calls Try.prog 43 #[.pointer (some ⟨g, 0, none⟩), .int .i64 t] w fun e w' => e = .returned (.int .i64 3) ∧ w = w' := by
  go_enter Try.func43, Try.ntmps43
  go_wp2
  go_ret
  exact ⟨rfl, rfl⟩
theorem ready_bad (g : Nat) (t : Int) (w : World) (h : w.cell? ⟨g, 2, none⟩ = some (.bool true)) (ht : t < 0 ∨ t > 1) : Calls Try.prog 43 #[.pointer (some ⟨g, 0, none⟩), .int .i64 t] w fun e w' => e = .returned (.int .i64 1) ∧ w = w' := by
  rcases ht with ht | ht
  all_goals
    go_enter Try.func43, Try.ntmps43
    go_wp2
    all_goals (go_ret; exact ⟨rfl, rfl⟩)
theorem ready_ok (g : Nat) (t : Int) (w : World) (h : w.cell? ⟨g, 2, none⟩ = some (.bool true)) (ht : t = 0 ∨ t = 1) : Calls Try.prog 43 #[.pointer (some ⟨g, 0, none⟩), .int .i64 t] w fun e w' => e = .returned (.int .i64 0) ∧ w = w' := by
  rcases ht with rfl | rfl
  all_goals
    go_enter Try.func43, Try.ntmps43
    go_wp2
    go_ret
    exact ⟨rfl, rfl⟩
theorem at_nil (t i : Int) (w : World) : Calls Try.prog 44 #[.pointer none, .int .i64 t, .int .i64 i] w fun e w' => e = .returned (.int .i64 3) ∧ w = w' := by
  go_enter Try.func44, Try.ntmps44
  go_wp2_with (go_at_call 43; refine (ready_nil t _).mono ?_; rintro e w1 ⟨rfl, rfl⟩)
  go_ret
  exact ⟨rfl, rfl⟩
theorem at_zero (g : Nat) (t i : Int) (w : World) (h : w.cell? ⟨g, 2, none⟩ = some (.bool false)) : Calls Try.prog 44 #[.pointer (some ⟨g, 0, none⟩), .int .i64 t, .int .i64 i] w fun e w' => e = .returned (.int .i64 3) ∧ w = w' := by
  go_enter Try.func44, Try.ntmps44
  go_wp2_with (go_at_call 43; refine (ready_zero g t _ h).mono ?_; rintro e w1 ⟨rfl, rfl⟩)
  go_ret
  exact ⟨rfl, rfl⟩
theorem at_bad (g : Nat) (t i : Int) (w : World) (h : w.cell? ⟨g, 2, none⟩ = some (.bool true)) (ht : t < 0 ∨ t > 1) : Calls Try.prog 44 #[.pointer (some ⟨g, 0, none⟩), .int .i64 t, .int .i64 i] w fun e w' => e = .returned (.int .i64 1) ∧ w = w' := by
  go_enter Try.func44, Try.ntmps44
  go_wp2_with (go_at_call 43; refine (ready_bad g t _ h ht).mono ?_; rintro e w1 ⟨rfl, rfl⟩)
  go_ret
  exact ⟨rfl, rfl⟩
theorem at_out (g : Nat) (t i : Int) (A : Option Addr) (n c : Nat) (w : World) (h : w.cell? ⟨g, 2, none⟩ = some (.bool true)) (ht : t = 0 ∨ t = 1) (hc : w.cell? ⟨g, t.toNat, none⟩ = some (.slice A n c)) (hi : i < 0 ∨ i ≥ (n : Int)) : Calls Try.prog 44 #[.pointer (some ⟨g, 0, none⟩), .int .i64 t, .int .i64 i] w fun e w' => e = .returned (.int .i64 6) ∧ w = w' := by
  rcases ht with rfl | rfl
  all_goals
    simp only [Int.toNat_zero, Int.toNat_one] at hc
    rcases hi with hi | hi
    all_goals
      go_enter Try.func44, Try.ntmps44
      go_wp2_with (go_at_call 43; refine (ready_ok g _ _ h (by omega)).mono ?_; rintro e w1 ⟨rfl, rfl⟩)
      all_goals (go_ret; exact ⟨rfl, rfl⟩)
theorem at_ok (g : Nat) (t i : Int) (A : Option Addr) (n c : Nat) (w : World) (h : w.cell? ⟨g, 2, none⟩ = some (.bool true)) (ht : t = 0 ∨ t = 1) (hc : w.cell? ⟨g, t.toNat, none⟩ = some (.slice A n c)) (hi : 0 ≤ i) (hi2 : i < (n : Int)) : Calls Try.prog 44 #[.pointer (some ⟨g, 0, none⟩), .int .i64 t, .int .i64 i] w fun e w' => e = .returned (.int .i64 0) ∧ w = w' := by
  rcases ht with rfl | rfl
  all_goals
    simp only [Int.toNat_zero, Int.toNat_one] at hc
    go_enter Try.func44, Try.ntmps44
    go_wp2_with (go_at_call 43; refine (ready_ok g _ _ h (by omega)).mono ?_; rintro e w1 ⟨rfl, rfl⟩)
    go_ret
    exact ⟨rfl, rfl⟩

/-- a row of strings of the law's own -/
abbrev RS (w0 w : World) (v : Value) (L : List ByteArray) : Prop := Kd.R Kd.string 9 w w0.heap.size (fun _ => True) v L
theorem RS.move {w0 w w1 : World} {v : Value} {L : List ByteArray} (h : RS w0 w v L) (hm : ∀ k, v.ownBlock = some k → w1.heap[k]? = w.heap[k]?) : RS w0 w1 v L :=
  Kd.R_reok rfl (Kd.R_move (Kd.R_tight rfl h) (fun k hk => hm k hk.symm)) (fun _ _ => trivial)
theorem RS.grown {w0 w w1 : World} {v : Value} {L : List ByteArray} (h : RS w0 w v L) {row : Option Nat} (hg : w.grownBy w1 row) (hne : ∀ k, v.ownBlock = some k → row ≠ some k) : RS w0 w1 v L := by
  refine h.move (fun k hk => hg.block k ?_ (fun e => hne k hk e.symm))
  obtain ⟨inner, ho⟩ := Kd.R_own h
  exact own_lt ho k hk
theorem RS.form {w0 w : World} {v : Value} {L : List ByteArray} (h : RS w0 w v L) : ∃ A c, v = .slice A L.length c ∧ L.length ≤ c ∧ Kd.C Kd.string w A L.length L := Kd.R_reads h
structure NetAt (ok : Nat → Prop) (w0 w : World) (g : Nat) (va vb : Value) (A B : List ByteArray) : Prop where
  blk : w.heap[g]? = some (.cells #[va, vb, .bool true] 82 (0, 0))
  ge : w0.heap.size ≤ g
  ra : RS w0 w va A
  rb : RS w0 w vb B
  ne : ∀ k, va.ownBlock = some k → vb.ownBlock ≠ some k
  oka : ∀ k, va.ownBlock = some k → ok k
  okb : ∀ k, vb.ownBlock = some k → ok k
def NetIs (ok : Nat → Prop) (w0 w : World) (g : Nat) (F : Bool → List ByteArray) : Prop := ∃ va vb, NetAt ok w0 w g va vb (F false) (F true)
/-- what may be a row's block behind a call -/
def okTo (ok : Nat → Prop) (w : World) : Nat → Prop := fun k => ok k ∨ w.heap.size ≤ k
/-- what a call leaves: the network, and all blocks that aren't its own as they were -/
def NetTo (ok : Nat → Prop) (w0 w w' : World) (g : Nat) (F : Bool → List ByteArray) : Prop := NetIs (okTo ok w) w0 w' g F ∧ Below w0.heap.size w0 w' ∧ ∀ k, k < w.heap.size → k ≠ g → ¬ ok k → w'.heap[k]? = w.heap[k]?
def toOf : Bool → Int
  | false => 0
  | true => 1
def upd (F : Bool → List ByteArray) (b : Bool) (L : List ByteArray) : Bool → List ByteArray := fun c => if c = b then L else F c
theorem toOf_01 (b : Bool) : toOf b = 0 ∨ toOf b = 1 := by cases b <;> simp [toOf]
theorem NetIs.made {ok : Nat → Prop} {w0 w : World} {g : Nat} {F : Bool → List ByteArray} (h : NetIs ok w0 w g F) : w.cell? ⟨g, 2, none⟩ = some (.bool true) := by
  obtain ⟨va, vb, h⟩ := h
  exact (cells_3 h.blk).2.2.1
theorem NetIs.way {ok : Nat → Prop} {w0 w : World} {g : Nat} {F : Bool → List ByteArray} (h : NetIs ok w0 w g F) (b : Bool) : ∃ A c, w.cell? ⟨g, (toOf b).toNat, none⟩ = some (.slice A (F b).length c) ∧ (F b).length ≤ c ∧ Kd.C Kd.string w A (F b).length (F b) := by
  obtain ⟨va, vb, h⟩ := h
  obtain ⟨c0, c1, _⟩ := cells_3 h.blk
  cases b with
  | false => obtain ⟨A, c, e, l, r⟩ := h.ra.form; exact ⟨A, c, by rw [← e]; exact c0, l, r⟩
  | true => obtain ⟨A, c, e, l, r⟩ := h.rb.form; exact ⟨A, c, by rw [← e]; exact c1, l, r⟩
theorem NetAt.ne_a {ok : Nat → Prop} {w0 w : World} {g : Nat} {va vb : Value} {A B : List ByteArray} (h : NetAt ok w0 w g va vb A B) : ∀ k, va.ownBlock = some k → k ≠ g := fun k hk e => Kd.R_ne h.ra h.blk (by decide) (by rw [hk, e])
theorem NetAt.ne_b {ok : Nat → Prop} {w0 w : World} {g : Nat} {va vb : Value} {A B : List ByteArray} (h : NetAt ok w0 w g va vb A B) : ∀ k, vb.ownBlock = some k → k ≠ g := fun k hk e => Kd.R_ne h.rb h.blk (by decide) (by rw [hk, e])
theorem NetIs.below {ok : Nat → Prop} {w0 w w1 : World} {g : Nat} {F : Bool → List ByteArray} (h : NetIs ok w0 w g F) (hb : Below w.heap.size w w1) : NetIs ok w0 w1 g F := by
  obtain ⟨va, vb, h⟩ := h
  exact ⟨va, vb, blk_below h.blk hb, h.ge, Kd.R_below h.ra hb, Kd.R_below h.rb hb, h.ne, h.oka, h.okb⟩
theorem NetIs.mono {ok ok' : Nat → Prop} {w0 w : World} {g : Nat} {F : Bool → List ByteArray} (h : NetIs ok w0 w g F) (hk : ∀ k, ok k → ok' k) : NetIs ok' w0 w g F := by
  obtain ⟨va, vb, h⟩ := h
  exact ⟨va, vb, h.blk, h.ge, h.ra, h.rb, h.ne, fun k e => hk k (h.oka k e), fun k e => hk k (h.okb k e)⟩
theorem net_stay {ok : Nat → Prop} {w0 w : World} {g : Nat} {F : Bool → List ByteArray} (h : NetIs ok w0 w g F) (hB : Below w0.heap.size w0 w) : NetTo ok w0 w w g F := ⟨h.mono (fun _ hk => .inl hk), hB, fun _ _ _ _ => rfl⟩
/-- what is left when a row has been made or written anew, and laid into the first place -/
theorem NetAt.put0 {ok : Nat → Prop} {w0 w w1 : World} {g : Nat} {va vb v : Value} {A B L : List ByteArray} (h : NetAt ok w0 w g va vb A B) {row : Option Nat} (hg : w.grownBy w1 row) (hrow : ∀ k, row = some k → va.ownBlock = some k) (hv : RS w0 w1 v L) (hn : ∀ k, v.ownBlock = some k → va.ownBlock = some k ∨ w.heap.size ≤ k) :
    NetAt (okTo ok w) w0 (w1.setCell ⟨g, 0, none⟩ v) g v vb L B ∧ ∀ k, k < w.heap.size → k ≠ g → ¬ ok k → (w1.setCell ⟨g, 0, none⟩ v).heap[k]? = w.heap[k]? := by
  have hblk := blk_grown h.blk hg (fun e => h.ne_a g (hrow g e.symm) rfl)
  have hrb := h.rb.grown hg (fun k hk e => h.ne k (hrow k e) hk)
  have hvne : ∀ k, v.ownBlock = some k → k ≠ g := fun k hk e => Kd.R_ne hv hblk (by decide) (by rw [hk, e])
  have hbne : ∀ k, vb.ownBlock = some k → k ≠ g := fun k hk e => Kd.R_ne hrb hblk (by decide) (by rw [hk, e])
  refine ⟨⟨by simpa using blk_set hblk 0 v, h.ge, hv.move (fun k hk => Below.heap_setCell _ _ _ _ (hvne k hk)), hrb.move (fun k hk => Below.heap_setCell _ _ _ _ (hbne k hk)), fun k hk hk2 => ?_, fun k hk => (hn k hk).elim (fun e => .inl (h.oka k e)) .inr, fun k hk => .inl (h.okb k hk)⟩, fun k hk hkg hko => (Below.heap_setCell _ _ _ _ hkg).trans (hg.block k hk (fun e => hko (h.oka k (hrow k e.symm))))⟩
  rcases hn k hk with h1 | h1
  · exact h.ne k h1 hk2
  · obtain ⟨inner, ho⟩ := Kd.R_own h.rb
    have := own_lt ho k hk2
    omega
theorem NetAt.put1 {ok : Nat → Prop} {w0 w w1 : World} {g : Nat} {va vb v : Value} {A B L : List ByteArray} (h : NetAt ok w0 w g va vb A B) {row : Option Nat} (hg : w.grownBy w1 row) (hrow : ∀ k, row = some k → vb.ownBlock = some k) (hv : RS w0 w1 v L) (hn : ∀ k, v.ownBlock = some k → vb.ownBlock = some k ∨ w.heap.size ≤ k) :
    NetAt (okTo ok w) w0 (w1.setCell ⟨g, 1, none⟩ v) g va v A L ∧ ∀ k, k < w.heap.size → k ≠ g → ¬ ok k → (w1.setCell ⟨g, 1, none⟩ v).heap[k]? = w.heap[k]? := by
  have hblk := blk_grown h.blk hg (fun e => h.ne_b g (hrow g e.symm) rfl)
  have hra := h.ra.grown hg (fun k hk e => h.ne k hk (hrow k e))
  have hvne : ∀ k, v.ownBlock = some k → k ≠ g := fun k hk e => Kd.R_ne hv hblk (by decide) (by rw [hk, e])
  have hane : ∀ k, va.ownBlock = some k → k ≠ g := fun k hk e => Kd.R_ne hra hblk (by decide) (by rw [hk, e])
  refine ⟨⟨by simpa using blk_set hblk 1 v, h.ge, hra.move (fun k hk => Below.heap_setCell _ _ _ _ (hane k hk)), hv.move (fun k hk => Below.heap_setCell _ _ _ _ (hvne k hk)), fun k hk hk2 => ?_, fun k hk => .inl (h.oka k hk), fun k hk => (hn k hk).elim (fun e => .inl (h.okb k e)) .inr⟩, fun k hk hkg hko => (Below.heap_setCell _ _ _ _ hkg).trans (hg.block k hk (fun e => hko (h.okb k (hrow k e.symm))))⟩
  rcases hn k hk2 with h1 | h1
  · exact h.ne k hk h1
  · obtain ⟨inner, ho⟩ := Kd.R_own h.ra
    have := own_lt ho k hk
    omega

/-! #### what every call answers -/
theorem new_net (ok : Nat → Prop) (w0 w : World) (hB : Below w0.heap.size w0 w) : Calls Try.prog 26 #[] w fun e w' => e = .returned (.pointer (some ⟨w.heap.size, 0, none⟩)) ∧ NetIs ok w0 w' w.heap.size (fun _ => []) ∧ Below w0.heap.size w0 w' := by
  have HB := Aside0.mk hB
  clear hB
  go_enter Try.func26, Try.ntmps26
  go_wp2
  go_ret
  refine ⟨rfl, ⟨.slice none 0 0, .slice none 0 0, ?_, HB.out.size, Kd.R_nil _ _ _ _ _, Kd.R_nil _ _ _ _ _, fun k hk => by simp [Value.ownBlock] at hk, fun k hk => by simp [Value.ownBlock] at hk, fun k hk => by simp [Value.ownBlock] at hk⟩, below_alloc HB.out _⟩
  exact heap_alloc_new w _
theorem len_ok (ok : Nat → Prop) (w0 w : World) (g : Nat) (F : Bool → List ByteArray) (t : Int) (b : Bool) (ht : t = toOf b) (hI : NetIs ok w0 w g F) : Calls Try.prog 36 #[.pointer (some ⟨g, 0, none⟩), .int .i64 t] w fun e w' => e = .returned (.int .i64 ((F b).length : Int)) ∧ w = w' := by
  have hm := hI.made
  obtain ⟨A, c, hc, -, -⟩ := hI.way b
  subst ht
  clear hI
  cases b
  all_goals
    simp only [toOf, Int.toNat_zero, Int.toNat_one] at hc ⊢
    go_enter Try.func36, Try.ntmps36
    go_wp2_with (go_at_call 43; refine (ready_ok g _ _ hm (by omega)).mono ?_; rintro e w1 ⟨rfl, rfl⟩)
    go_ret
    exact ⟨rfl, rfl⟩
theorem len_bad (ok : Nat → Prop) (w0 w : World) (g : Nat) (F : Bool → List ByteArray) (t : Int) (ht : t < 0 ∨ t > 1) (hI : NetIs ok w0 w g F) : Calls Try.prog 36 #[.pointer (some ⟨g, 0, none⟩), .int .i64 t] w fun e w' => e = .returned (.int .i64 0) ∧ w = w' := by
  have hm := hI.made
  clear hI
  go_enter Try.func36, Try.ntmps36
  go_wp2_with (go_at_call 43; refine (ready_bad g _ _ hm ht).mono ?_; rintro e w1 ⟨rfl, rfl⟩)
  go_ret
  exact ⟨rfl, rfl⟩
theorem clear_ok (ok : Nat → Prop) (w0 w : World) (g : Nat) (F : Bool → List ByteArray) (t : Int) (b : Bool) (ht : t = toOf b) (hI : NetIs ok w0 w g F) (hB : Below w0.heap.size w0 w) : Calls Try.prog 39 #[.pointer (some ⟨g, 0, none⟩), .int .i64 t] w fun e w' => e = .returned (.int .i64 0) ∧ NetTo ok w0 w w' g (upd F b []) := by
  obtain ⟨va, vb, h⟩ := hI
  obtain ⟨c0, c1, hm, f0, f1, f2⟩ := cells_3 h.blk
  have H := Aside0.mk h
  have HB := Aside0.mk hB
  clear h hB
  subst ht
  cases b
  all_goals
    simp only [toOf]
    go_enter Try.func39, Try.ntmps39
    go_wp2_with (go_at_call 43; refine (ready_ok g _ _ hm (by omega)).mono ?_; rintro e w1 ⟨rfl, rfl⟩)
    go_ret
  · have hp := H.out.put0 (World.grownBy.refl _ none) (fun k hk => by cases hk) (Kd.R_nil _ _ _ _ _) (fun k hk => by simp [Value.ownBlock] at hk)
    exact ⟨rfl, ⟨_, _, hp.1⟩, below_set HB.out H.out.ge, hp.2⟩
  · have hp := H.out.put1 (World.grownBy.refl _ none) (fun k hk => by cases hk) (Kd.R_nil _ _ _ _ _) (fun k hk => by simp [Value.ownBlock] at hk)
    exact ⟨rfl, ⟨_, _, hp.1⟩, below_set HB.out H.out.ge, hp.2⟩
end Go.Proofs.Ytedhckojeephaaa.P
