/- A network between two: what changes places, and what is forged. -/
import Derived.Test.YtedhckojeephaaaNpPx0
import Derived.Test.YtedhckojeephaaaNpK0
import Derived.Test.YtedhckojeephaaaNpK2
import Derived.Test.YtedhckojeephaaaNpK4
import Derived.Test.YtedhckojeephaaaNpK5
namespace Go.Proofs.Ytedhckojeephaaa.P
open Go.RowKit Go.Proofs.YtedhckojeephaaaW.PrintWords Go.Proofs.YtedhckojeephaaaW.PrintLast Go.Proofs.YtedhckojeephaaaW.PrintMore
set_option linter.unusedVariables false
set_option linter.unusedSimpArgs false
attribute [local go_sem ↓] Go.wp_at_zero Go.wp_at_succ

/-! ### net_swap: functions 32, 37 -/
theorem NetAt.drew {ok : Nat → Prop} {w0 w : World} {g : Nat} {va vb : Value} {A B : List ByteArray} (h : NetAt ok w0 w g va vb A B) : NetAt ok w0 w.drew g va vb A B := ⟨h.blk, h.ge, h.ra, h.rb, h.ne, h.oka, h.okb⟩
theorem NetAt.elem0 {ok : Nat → Prop} {w0 w : World} {g go n cap : Nat} {vb : Value} {A B : List ByteArray} (h : NetAt ok w0 w g (.slice (some ⟨go, 0, none⟩) n cap) vb A B) (k : Nat) (x : ByteArray) : NetAt ok w0 (w.setCell ⟨go, k, none⟩ (.string x)) g (.slice (some ⟨go, 0, none⟩) n cap) vb (A.set k x) B := by
  have hg : go ≠ g := h.ne_a go rfl
  have hp := (Kd.R_putg h.ra (k : Int) x).1
  rw [Int.toNat_natCast] at hp
  refine ⟨blk_far h.blk (fun e => hg e.symm) _, h.ge, hp, h.rb.move (fun k' hk' => Below.heap_setCell _ _ _ _ (fun e => ?_)), h.ne, h.oka, h.okb⟩
  exact h.ne go rfl (by rw [hk', show k' = go from e])
theorem NetAt.elem1 {ok : Nat → Prop} {w0 w : World} {g go n cap : Nat} {va : Value} {A B : List ByteArray} (h : NetAt ok w0 w g va (.slice (some ⟨go, 0, none⟩) n cap) A B) (k : Nat) (x : ByteArray) : NetAt ok w0 (w.setCell ⟨go, k, none⟩ (.string x)) g va (.slice (some ⟨go, 0, none⟩) n cap) A (B.set k x) := by
  have hg : go ≠ g := h.ne_b go rfl
  have hp := (Kd.R_putg h.rb (k : Int) x).1
  rw [Int.toNat_natCast] at hp
  refine ⟨blk_far h.blk (fun e => hg e.symm) _, h.ge, h.ra.move (fun k' hk' => Below.heap_setCell _ _ _ _ (fun e => ?_)), hp, h.ne, h.oka, h.okb⟩
  exact h.ne k' hk' (by rw [show k' = go from e]; rfl)
theorem swap_out1 (ok : Nat → Prop) (w0 w : World) (g : Nat) (F : Bool → List ByteArray) (t : Int) (b : Bool) (ht : t = toOf b) (i k : Int) (hi : i < 0 ∨ i ≥ ((F b).length : Int)) (hI : NetIs ok w0 w g F) : Calls Try.prog 32 #[.pointer (some ⟨g, 0, none⟩), .int .i64 t, .int .i64 i, .int .i64 k] w fun e w' => e = .returned (.int .i64 6) ∧ w = w' := by
  have hm := hI.made
  obtain ⟨A, c, hc, -, -⟩ := hI.way b
  have h01 := toOf_01 b
  rw [← ht] at hc h01
  clear hI ht
  go_enter Try.func32, Try.ntmps32
  go_wp2_with (go_at_call 44; refine (at_out g t i _ _ _ _ hm h01 hc hi).mono ?_; rintro e w1 ⟨rfl, rfl⟩)
  go_ret
  exact ⟨rfl, rfl⟩
theorem swap_out2 (ok : Nat → Prop) (w0 w : World) (g : Nat) (F : Bool → List ByteArray) (t : Int) (b : Bool) (ht : t = toOf b) (i k : Int) (h0 : 0 ≤ i) (h1 : i < ((F b).length : Int)) (hk : k < 0 ∨ k ≥ ((F b).length : Int)) (hI : NetIs ok w0 w g F) : Calls Try.prog 32 #[.pointer (some ⟨g, 0, none⟩), .int .i64 t, .int .i64 i, .int .i64 k] w fun e w' => e = .returned (.int .i64 6) ∧ w = w' := by
  have hm := hI.made
  obtain ⟨A, c, hc, -, -⟩ := hI.way b
  have h01 := toOf_01 b
  rw [← ht] at hc h01
  clear hI ht
  have tok : True := trivial
  go_enter Try.func32, Try.ntmps32
  go_wp2_with (first
    | (go_at_call 44; have _t := tok; refine (at_ok g t i _ _ _ _ hm h01 hc h0 h1).mono ?_; rintro e w1 ⟨rfl, rfl⟩; clear tok)
    | (go_at_call 44; refine (at_out g t k _ _ _ _ hm h01 hc hk).mono ?_; rintro e w1 ⟨rfl, rfl⟩))
  go_ret
  exact ⟨rfl, rfl⟩
set_option maxHeartbeats 1600000 in
set_option maxRecDepth 100000 in
theorem swap_ok (ok : Nat → Prop) (w0 w : World) (g : Nat) (F : Bool → List ByteArray) (t : Int) (b : Bool) (ht : t = toOf b) (i k : Nat) (hi : i < (F b).length) (hk : k < (F b).length) (hik : i ≠ k) (hI : NetIs ok w0 w g F) (hB : Below w0.heap.size w0 w) : Calls Try.prog 32 #[.pointer (some ⟨g, 0, none⟩), .int .i64 t, .int .i64 (i : Int), .int .i64 (k : Int)] w (NetAns ok w0 w g F b (.int .i64 0) (((F b).set i (sx (F b) k)).set k (sx (F b) i))) := by
  have hm := hI.made
  obtain ⟨va, vb, h⟩ := hI
  obtain ⟨c0, c1, -, f0, f1, -⟩ := cells_3 h.blk
  have H := Aside0.mk h
  have HB := Aside0.mk hB
  have hg := blk_lt h.blk
  have hi0 : (0 : Int) ≤ (i : Int) := by omega
  have hk0 : (0 : Int) ≤ (k : Int) := by omega
  subst ht
  cases b
  · obtain ⟨go, cap, rfl, gb, gl, -⟩ := Kd.R_form h.ra (show 0 < (F false).length by omega)
    have hne : go ≠ g := h.ne_a go rfl
    clear h hB
    simp only [toOf]
    obtain ⟨hx, fx⟩ := Kd.R_celln ByteArray.empty H.out.ra (i : Int) (by omega) (by omega)
    obtain ⟨hy, fy⟩ := Kd.R_celln ByteArray.empty H.out.ra (k : Int) (by omega) (by omega)
    rw [Int.toNat_natCast, show rdOf ByteArray.empty (F false) (i : Int) = sx (F false) i by rfl] at hx
    rw [Int.toNat_natCast, show rdOf ByteArray.empty (F false) (k : Int) = sx (F false) k by rfl] at hy
    rw [Int.toNat_natCast] at fx fy
    have h1 : (i : Int) < ((F false).length : Int) := by omega
    have h2 : (k : Int) < ((F false).length : Int) := by omega
    have tok : True := trivial
    go_enter Try.func32, Try.ntmps32
    go_wp2_with (first
      | (go_at_call 44; have _t := tok; refine (at_ok g _ (i : Int) _ _ _ _ hm (by first | exact .inl rfl | exact .inr rfl) (by first | exact c0 | exact c1) hi0 h1).mono ?_; rintro e w1 ⟨rfl, rfl⟩; clear tok)
      | (go_at_call 44; refine (at_ok g _ (k : Int) _ _ _ _ hm (by first | exact .inl rfl | exact .inr rfl) (by first | exact c0 | exact c1) hk0 h2).mono ?_; rintro e w1 ⟨rfl, rfl⟩))
    go_region
    all_goals
      go_wp2
      go_ret
      exact ⟨rfl, NetIs.mono ⟨_, _, (H.out.drew.elem0 i _).elem0 k _⟩ (fun _ hk => .inl hk), below_set (below_set (below_drew HB.out) gb) gb, fun q hq hqg hqo => (Below.heap_setCell _ _ _ _ (fun e => hqo (by rw [show q = go from e]; exact H.out.oka go rfl))).trans (Below.heap_setCell _ _ _ _ (fun e => hqo (by rw [show q = go from e]; exact H.out.oka go rfl)))⟩
  · obtain ⟨go, cap, rfl, gb, gl, -⟩ := Kd.R_form h.rb (show 0 < (F true).length by omega)
    have hne : go ≠ g := h.ne_b go rfl
    clear h hB
    simp only [toOf]
    obtain ⟨hx, fx⟩ := Kd.R_celln ByteArray.empty H.out.rb (i : Int) (by omega) (by omega)
    obtain ⟨hy, fy⟩ := Kd.R_celln ByteArray.empty H.out.rb (k : Int) (by omega) (by omega)
    rw [Int.toNat_natCast, show rdOf ByteArray.empty (F true) (i : Int) = sx (F true) i by rfl] at hx
    rw [Int.toNat_natCast, show rdOf ByteArray.empty (F true) (k : Int) = sx (F true) k by rfl] at hy
    rw [Int.toNat_natCast] at fx fy
    have h1 : (i : Int) < ((F true).length : Int) := by omega
    have h2 : (k : Int) < ((F true).length : Int) := by omega
    have tok : True := trivial
    go_enter Try.func32, Try.ntmps32
    go_wp2_with (first
      | (go_at_call 44; have _t := tok; refine (at_ok g _ (i : Int) _ _ _ _ hm (by first | exact .inl rfl | exact .inr rfl) (by first | exact c0 | exact c1) hi0 h1).mono ?_; rintro e w1 ⟨rfl, rfl⟩; clear tok)
      | (go_at_call 44; refine (at_ok g _ (k : Int) _ _ _ _ hm (by first | exact .inl rfl | exact .inr rfl) (by first | exact c0 | exact c1) hk0 h2).mono ?_; rintro e w1 ⟨rfl, rfl⟩))
    go_region
    all_goals
      go_wp2
      go_ret
      exact ⟨rfl, NetIs.mono ⟨_, _, (H.out.drew.elem1 i _).elem1 k _⟩ (fun _ hk => .inl hk), below_set (below_set (below_drew HB.out) gb) gb, fun q hq hqg hqo => (Below.heap_setCell _ _ _ _ (fun e => hqo (by rw [show q = go from e]; exact H.out.okb go rfl))).trans (Below.heap_setCell _ _ _ _ (fun e => hqo (by rw [show q = go from e]; exact H.out.okb go rfl)))⟩
set_option maxHeartbeats 1600000 in
set_option maxRecDepth 100000 in
theorem swap_same (ok : Nat → Prop) (w0 w : World) (g : Nat) (F : Bool → List ByteArray) (t : Int) (b : Bool) (ht : t = toOf b) (i : Nat) (hi : i < (F b).length) (hI : NetIs ok w0 w g F) (hB : Below w0.heap.size w0 w) : Calls Try.prog 32 #[.pointer (some ⟨g, 0, none⟩), .int .i64 t, .int .i64 (i : Int), .int .i64 (i : Int)] w (NetAns ok w0 w g F b (.int .i64 0) (((F b).set i (sx (F b) i)).set i (sx (F b) i))) := by
  have hm := hI.made
  obtain ⟨va, vb, h⟩ := hI
  obtain ⟨c0, c1, -, f0, f1, -⟩ := cells_3 h.blk
  have H := Aside0.mk h
  have HB := Aside0.mk hB
  have hg := blk_lt h.blk
  have hi0 : (0 : Int) ≤ (i : Int) := by omega
  subst ht
  cases b
  · obtain ⟨go, cap, rfl, gb, gl, -⟩ := Kd.R_form h.ra (show 0 < (F false).length by omega)
    have hne : go ≠ g := h.ne_a go rfl
    clear h hB
    simp only [toOf]
    obtain ⟨hx, fx⟩ := Kd.R_celln ByteArray.empty H.out.ra (i : Int) (by omega) (by omega)
    rw [Int.toNat_natCast, show rdOf ByteArray.empty (F false) (i : Int) = sx (F false) i by rfl] at hx
    rw [Int.toNat_natCast] at fx
    have h1 : (i : Int) < ((F false).length : Int) := by omega
    go_enter Try.func32, Try.ntmps32
    go_wp2_with (go_at_call 44; refine (at_ok g _ (i : Int) _ _ _ _ hm (by first | exact .inl rfl | exact .inr rfl) (by first | exact c0 | exact c1) hi0 h1).mono ?_; rintro e w1 ⟨rfl, rfl⟩)
    go_region
    all_goals
      go_wp2
      go_ret
      exact ⟨rfl, NetIs.mono ⟨_, _, (H.out.drew.elem0 i _).elem0 i _⟩ (fun _ hk => .inl hk), below_set (below_set (below_drew HB.out) gb) gb, fun q hq hqg hqo => (Below.heap_setCell _ _ _ _ (fun e => hqo (by rw [show q = go from e]; exact H.out.oka go rfl))).trans (Below.heap_setCell _ _ _ _ (fun e => hqo (by rw [show q = go from e]; exact H.out.oka go rfl)))⟩
  · obtain ⟨go, cap, rfl, gb, gl, -⟩ := Kd.R_form h.rb (show 0 < (F true).length by omega)
    have hne : go ≠ g := h.ne_b go rfl
    clear h hB
    simp only [toOf]
    obtain ⟨hx, fx⟩ := Kd.R_celln ByteArray.empty H.out.rb (i : Int) (by omega) (by omega)
    rw [Int.toNat_natCast, show rdOf ByteArray.empty (F true) (i : Int) = sx (F true) i by rfl] at hx
    rw [Int.toNat_natCast] at fx
    have h1 : (i : Int) < ((F true).length : Int) := by omega
    go_enter Try.func32, Try.ntmps32
    go_wp2_with (go_at_call 44; refine (at_ok g _ (i : Int) _ _ _ _ hm (by first | exact .inl rfl | exact .inr rfl) (by first | exact c0 | exact c1) hi0 h1).mono ?_; rintro e w1 ⟨rfl, rfl⟩)
    go_region
    all_goals
      go_wp2
      go_ret
      exact ⟨rfl, NetIs.mono ⟨_, _, (H.out.drew.elem1 i _).elem1 i _⟩ (fun _ hk => .inl hk), below_set (below_set (below_drew HB.out) gb) gb, fun q hq hqg hqo => (Below.heap_setCell _ _ _ _ (fun e => hqo (by rw [show q = go from e]; exact H.out.okb go rfl))).trans (Below.heap_setCell _ _ _ _ (fun e => hqo (by rw [show q = go from e]; exact H.out.okb go rfl)))⟩
theorem swap_any (ok : Nat → Prop) (w0 w : World) (g : Nat) (F : Bool → List ByteArray) (t : Int) (b : Bool) (ht : t = toOf b) (i k : Int) (hI : NetIs ok w0 w g F) (hB : Below w0.heap.size w0 w) : Calls Try.prog 32 #[.pointer (some ⟨g, 0, none⟩), .int .i64 t, .int .i64 i, .int .i64 k] w (NetAns ok w0 w g F b (.int .i64 (swapE (F b) i k)) (swapL (F b) i k)) := by
  unfold swapE swapL
  by_cases hi : inIt (F b) i
  · rw [if_pos hi, if_pos hi]
    obtain ⟨h0, h1⟩ := hi
    by_cases hk : inIt (F b) k
    · rw [if_pos hk, if_pos hk]
      obtain ⟨h2, h3⟩ := hk
      obtain ⟨i, rfl⟩ := Int.eq_ofNat_of_zero_le h0
      obtain ⟨k, rfl⟩ := Int.eq_ofNat_of_zero_le h2
      rw [Int.toNat_natCast, Int.toNat_natCast]
      by_cases hik : i = k
      · subst hik
        exact swap_same ok w0 w g F t b ht i (by omega) hI hB
      · exact swap_ok ok w0 w g F t b ht i k (by omega) (by omega) hik hI hB
    · rw [if_neg hk, if_neg hk]
      refine (swap_out2 ok w0 w g F t b ht i k h0 h1 ?_ hI).mono fun e w' h => net_same h.1 hI hB h.2
      unfold inIt at hk
      omega
  · rw [if_neg hi, if_neg hi]
    refine (swap_out1 ok w0 w g F t b ht i k ?_ hI).mono fun e w' h => net_same h.1 hI hB h.2
    unfold inIt at hi
    omega
end Go.Proofs.Ytedhckojeephaaa.P
