/- A network between two: what is sent, and what is changed on its way. -/
import Derived.Test.YtedhckojeephaaaNpPx0
import Derived.Test.YtedhckojeephaaaNpK0
import Derived.Test.YtedhckojeephaaaNpK2
namespace Go.Proofs.Ytedhckojeephaaa.P
open Go.RowKit Go.Proofs.YtedhckojeephaaaW.PrintWords Go.Proofs.YtedhckojeephaaaW.PrintLast Go.Proofs.YtedhckojeephaaaW.PrintMore
set_option linter.unusedVariables false
set_option linter.unusedSimpArgs false
attribute [local go_sem ↓] Go.wp_at_zero Go.wp_at_succ

theorem own_ad {w : World} {base : Nat} {e : TypeId} {size n : Nat} {v : Value} {xs : List Value} (h : w.ownsRow base e size v n xs) (o : Obj) : ((w.alloc o).drew).ownsRow base e size v n xs := h.alloc o
theorem one_string (s : ByteArray) : ∀ u ∈ [Value.string s], u.oneCell' = true := by intro u hu; rw [List.mem_singleton.1 hu]; rfl
theorem blk_ad {w : World} {g : Nat} {x : Obj} (h : w.heap[g]? = some x) (o : Obj) : ((w.alloc o).drew).heap[g]? = some x := blk_alloc h o
theorem grown_ad {w w2 : World} {o : Obj} {row : Option Nat} (h : ((w.alloc o).drew).grownBy w2 row) : w.grownBy w2 row :=
  World.grownBy.trans (World.grownBy_alloc w o row) ⟨h.os, h.tape, h.output, h.size, h.block⟩
theorem RS_snoc {w0 w2 : World} {v : Value} {A : List ByteArray} {s : ByteArray} (hown : w2.ownsRow w0.heap.size 9 1 v (A.length + 1) (encs Value.string A ++ [.string s])) : RS w0 w2 v (A ++ [s]) := by
  refine Kd.R_of_own ?_ (fun _ _ => trivial)
  have e : encs Value.string (A ++ [s]) = encs Value.string A ++ [.string s] := by simp [encs]
  rw [e, List.length_append]
  exact hown
theorem sent_below {w0 w w2 : World} {g : Nat} (hB : Below w0.heap.size w0 w) {u : Value} {L : List ByteArray} (hu : RS w0 w u L) {o : Obj} (hgrow : ((w.alloc o).drew).grownBy w2 u.ownBlock) (hge : w0.heap.size ≤ g) (j : Nat) (v : Value) : Below w0.heap.size w0 (w2.setCell ⟨g, j, none⟩ v) := by
  refine below_set (pw_below_grown (below_drew (below_alloc hB o)) u.ownBlock ?_ hgrow (fun k hk => Kd.R_base hu k hk)) hge
  exact (below_drew (below_alloc hB o)).size
theorem fresh_of {u : Value} {w : World} {g2 n cap2 : Nat} (hat : u.ownBlock = some g2 ∨ g2 = w.heap.size + 1) : ∀ k, (Value.slice (some ⟨g2, 0, none⟩) n cap2).ownBlock = some k → u.ownBlock = some k ∨ w.heap.size ≤ k := by
  intro k hk
  have : g2 = k := by simpa [Value.ownBlock] using hk
  subst this
  rcases hat with h | h
  · exact .inl h
  · exact .inr (by omega)
theorem send_lim (ok : Nat → Prop) (w0 w : World) (g : Nat) (F : Bool → List ByteArray) (t : Int) (b : Bool) (ht : t = toOf b) (s : ByteArray) (hI : NetIs ok w0 w g F) (hs : (s.size : Int) > 131072) : Calls Try.prog 27 #[.pointer (some ⟨g, 0, none⟩), .int .i64 t, .string s] w fun e w' => e = .returned (.int .i64 2) ∧ w = w' := by
  have hm := hI.made
  have h01 := toOf_01 b
  rw [← ht] at h01
  clear hI ht
  go_enter Try.func27, Try.ntmps27
  go_wp2_with (go_at_call 43; refine (ready_ok g _ _ hm h01).mono ?_; rintro e w1 ⟨rfl, rfl⟩)
  go_ret
  exact ⟨rfl, rfl⟩
theorem send_full (ok : Nat → Prop) (w0 w : World) (g : Nat) (F : Bool → List ByteArray) (t : Int) (b : Bool) (ht : t = toOf b) (s : ByteArray) (hI : NetIs ok w0 w g F) (hs : (s.size : Int) ≤ 131072) (hl : (F b).length ≥ 64) : Calls Try.prog 27 #[.pointer (some ⟨g, 0, none⟩), .int .i64 t, .string s] w fun e w' => e = .returned (.int .i64 16) ∧ w = w' := by
  have hm := hI.made
  obtain ⟨A, c, hc, -, -⟩ := hI.way b
  have hl2 : ((F b).length : Int) ≥ 64 := by omega
  subst ht
  clear hI
  cases b
  all_goals
    simp only [toOf, Int.toNat_zero, Int.toNat_one] at hc ⊢
    go_enter Try.func27, Try.ntmps27
    go_wp2_with (go_at_call 43; refine (ready_ok g _ _ hm (by omega)).mono ?_; rintro e w1 ⟨rfl, rfl⟩)
    go_ret
    exact ⟨rfl, rfl⟩
set_option maxHeartbeats 1600000 in
set_option maxRecDepth 100000 in
theorem send_ok (ok : Nat → Prop) (w0 w : World) (g : Nat) (F : Bool → List ByteArray) (t : Int) (b : Bool) (ht : t = toOf b) (s : ByteArray) (hI : NetIs ok w0 w g F) (hB : Below w0.heap.size w0 w) (hs : (s.size : Int) ≤ 131072) (hl : (F b).length < 64) : Calls Try.prog 27 #[.pointer (some ⟨g, 0, none⟩), .int .i64 t, .string s] w fun e w' => e = .returned (.int .i64 0) ∧ NetTo ok w0 w w' g (upd F b (F b ++ [s])) := by
  obtain ⟨i0, hi0, hz0, hz1, hz2⟩ := info_parts info9
  have hm := hI.made
  have hl2 : ((F b).length : Int) < 64 := by omega
  obtain ⟨va, vb, h⟩ := hI
  obtain ⟨c0, c1, -, f0, f1, -⟩ := cells_3 h.blk
  have H := Aside0.mk h
  have HB := Aside0.mk hB
  have hg := blk_lt h.blk
  subst ht
  cases b
  · obtain ⟨A, c, rfl, la, -⟩ := h.ra.form
    clear h hB
    simp only [toOf] at hl hl2 ⊢
    go_enter Try.func27, Try.ntmps27
    go_wp2_with (go_at_call 43; refine (ready_ok g _ _ hm (by omega)).mono ?_; rintro e w1 ⟨rfl, rfl⟩)
    go_region_law ((refine step_append_lies _ (by rfl) (.tmp 34) (.tmp 36) 27 (by rfl) w0.heap.size 9 i0 (.string ⟨#[]⟩) 1 16 Try.underlying27 hi0 hz0 hz1 hz2 rfl (by decide) (.slice A (F false).length c) (F false).length (encs Value.string (F false)) (by rfl) (own_ad (Kd.own_of_R H.out.ra) _) ⟨w.heap.size, 0, none⟩ 1 1 [.string s] (by rfl) (by rfl) (World.news_of_block (cs := #[.string s]) (t := 9) (fr := (0, 0)) (heap_alloc_new w _)) (one_string s) (by decide) (by unfold maxLen; omega) (by omega) (by have := HB.out.size; simp; omega) (w.heap.size + 1) (by simp) ?_; intro g2 cap2 w2 hown hgrow hat hlt2; obtain ⟨k0, k1, k2, l0, l1, l2⟩ := cells_3 (blk_grown (blk_ad H.out.blk _) hgrow (fun e => H.out.ne_a g e.symm rfl)); have HO := Aside0.mk hown; have HG := Aside0.mk hgrow; have HT := Aside0.mk hat; clear hown hgrow hat))
    all_goals
      go_wp2
      go_ret
      have hp := H.out.put0 (grown_ad HG.out) (fun k hk => hk) (RS_snoc HO.out) (fresh_of HT.out)
      exact ⟨rfl, ⟨_, _, hp.1⟩, sent_below HB.out H.out.ra HG.out H.out.ge _ _, hp.2⟩
  · obtain ⟨A, c, rfl, la, -⟩ := h.rb.form
    clear h hB
    simp only [toOf] at hl hl2 ⊢
    go_enter Try.func27, Try.ntmps27
    go_wp2_with (go_at_call 43; refine (ready_ok g _ _ hm (by omega)).mono ?_; rintro e w1 ⟨rfl, rfl⟩)
    go_region_law ((refine step_append_lies _ (by rfl) (.tmp 34) (.tmp 36) 27 (by rfl) w0.heap.size 9 i0 (.string ⟨#[]⟩) 1 16 Try.underlying27 hi0 hz0 hz1 hz2 rfl (by decide) (.slice A (F true).length c) (F true).length (encs Value.string (F true)) (by rfl) (own_ad (Kd.own_of_R H.out.rb) _) ⟨w.heap.size, 0, none⟩ 1 1 [.string s] (by rfl) (by rfl) (World.news_of_block (cs := #[.string s]) (t := 9) (fr := (0, 0)) (heap_alloc_new w _)) (one_string s) (by decide) (by unfold maxLen; omega) (by omega) (by have := HB.out.size; simp; omega) (w.heap.size + 1) (by simp) ?_; intro g2 cap2 w2 hown hgrow hat hlt2; obtain ⟨k0, k1, k2, l0, l1, l2⟩ := cells_3 (blk_grown (blk_ad H.out.blk _) hgrow (fun e => H.out.ne_b g e.symm rfl)); have HO := Aside0.mk hown; have HG := Aside0.mk hgrow; have HT := Aside0.mk hat; clear hown hgrow hat))
    all_goals
      go_wp2
      go_ret
      have hp := H.out.put1 (grown_ad HG.out) (fun k hk => hk) (RS_snoc HO.out) (fresh_of HT.out)
      exact ⟨rfl, ⟨_, _, hp.1⟩, sent_below HB.out H.out.rb HG.out H.out.ge _ _, hp.2⟩
end Go.Proofs.Ytedhckojeephaaa.P
