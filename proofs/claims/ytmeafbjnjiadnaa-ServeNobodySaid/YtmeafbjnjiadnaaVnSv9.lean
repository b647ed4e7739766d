/- A table that is none: what every call answers. -/
import Derived.Test.YtmeafbjnjiadnaaVnSv8
namespace Go.Proofs.Ytmeafbjnjiadnaa.P
open Go.RowKit Go.Maps Go.Proofs.YtmeafbjnjiadnaaW.PrintWords Go.Proofs.YtmeafbjnjiadnaaW.PrintLast Go.Proofs.YtmeafbjnjiadnaaW.PrintMore
set_option linter.unusedVariables false
set_option linter.unusedSimpArgs false
attribute [local go_sem ↓] Go.wp_at_zero Go.wp_at_succ
/-- a table that was not made, at g -/
def NoTab (w : World) (g : Nat) : Prop := w.heap[g]? = some (.cells #[.map none, .int .i64 0, .bool false] 38 (0, 0))
abbrev zEc : Array Value := #[.int .i64 0, .int .i64 0, .int .i64 0, .int .i64 0, .int .i64 0, .int .i64 0, .int .i64 0, .int .i64 0, .int .i64 0, .int .i64 0, .int .i64 0, .int .i64 0]
abbrev zE : Value := .agg zEc
abbrev rC (e f c : Int) : Array Value := #[.int .i64 e, .int .i64 f, .int .i64 c]
set_option maxRecDepth 100000 in
theorem nget_nil (id : Int) (w : World) : Calls Try.prog 8 #[.pointer none, .int .i64 id] w fun e w' => e = .returned (.tuple #[zE, .bool false]) ∧ Below w.heap.size w w' := by
  go_enter Try.func8, Try.ntmps8
  go_wp2
  refine bodyPost_ret (results_ct rfl _ _ w.heap.size 41 zEc (0, 0) _ rfl (heap_alloc_new w _) Try.underlying41 rfl (by kernel_rfl)) rfl ?_
  exact ⟨rfl, below_alloc (Below.refl _ _) _⟩
set_option maxRecDepth 100000 in
theorem nget_zero (g : Nat) (id : Int) (hk : (Lit.int .i64 id).wf = true) (w : World) (h : NoTab w g) : Calls Try.prog 8 #[.pointer (some ⟨g, 0, none⟩), .int .i64 id] w fun e w' => e = .returned (.tuple #[zE, .bool false]) ∧ Below w.heap.size w w' := by
  obtain ⟨c0, c1, c2, f0, f1, f2⟩ := cells_3 h
  have hl := lookP_nil (w.alloc (.cells zEc 41)) hk
  obtain ⟨d0, d1, d2, -⟩ := cells_3 (blk_alloc h (.cells zEc 41))
  go_enter Try.func8, Try.ntmps8
  go_wp2
  refine bodyPost_ret (results_ct rfl _ _ w.heap.size 41 zEc (0, 0) _ rfl (heap_alloc_new w _) Try.underlying41 rfl (by kernel_rfl)) rfl ?_
  exact ⟨rfl, below_alloc (Below.refl _ _) _⟩
theorem nown_nil (id : Int) (w : World) : Calls Try.prog 25 #[.pointer none, .int .i64 id] w fun e w' => e = .returned (.tuple #[.pointer none, .int .i64 3]) ∧ Below w.heap.size w w' := by
  go_enter Try.func25, Try.ntmps25
  go_wp2
  go_ret2
  first | exact ⟨rfl, Below.refl _ _⟩ | exact ⟨rfl, below_alloc (Below.refl _ _) _⟩ | exact ⟨rfl, pw_below_drewN (Below.refl _ _) _⟩
theorem ngrant_nil (id ep fi co : Int) (w : World) : Calls Try.prog 11 #[.pointer none, .int .i64 id, .agg (rC ep fi co)] w fun e w' => e = .returned (.int .i64 3) ∧ Below w.heap.size w w' := by
  go_enter Try.func11, Try.ntmps11
  go_wp2_with (go_at_call 25; refine (nown_nil _ _).mono ?_; rintro e w1 ⟨rfl, hb⟩)
  go_ret
  first | exact ⟨rfl, hb⟩ | exact ⟨rfl, below_step (below_alloc (Below.refl _ _) _) hb⟩
theorem nrefuse_nil (id code : Int) (w : World) : Calls Try.prog 12 #[.pointer none, .int .i64 id, .int .i64 code] w fun e w' => e = .returned (.int .i64 3) ∧ Below w.heap.size w w' := by
  go_enter Try.func12, Try.ntmps12
  go_wp2_with (go_at_call 25; refine (nown_nil _ _).mono ?_; rintro e w1 ⟨rfl, hb⟩)
  go_ret
  first | exact ⟨rfl, hb⟩ | exact ⟨rfl, below_step (below_alloc (Below.refl _ _) _) hb⟩
theorem nlen_nil  (w : World) : Calls Try.prog 17 #[.pointer none] w fun e w' => e = .returned (.int .i64 0) ∧ Below w.heap.size w w' := by
  go_enter Try.func17, Try.ntmps17
  go_wp2
  go_ret
  first | exact ⟨rfl, Below.refl _ _⟩ | exact ⟨rfl, below_alloc (Below.refl _ _) _⟩ | exact ⟨rfl, pw_below_drewN (Below.refl _ _) _⟩
theorem nown_zero (g : Nat) (id : Int) (w : World) (h : NoTab w g) : Calls Try.prog 25 #[.pointer (some ⟨g, 0, none⟩), .int .i64 id] w fun e w' => e = .returned (.tuple #[.pointer none, .int .i64 3]) ∧ Below w.heap.size w w' := by
  obtain ⟨c0, c1, c2, f0, f1, f2⟩ := cells_3 h
  go_enter Try.func25, Try.ntmps25
  go_wp2
  go_ret2
  first | exact ⟨rfl, Below.refl _ _⟩ | exact ⟨rfl, below_alloc (Below.refl _ _) _⟩ | exact ⟨rfl, pw_below_drewN (Below.refl _ _) _⟩
theorem ngrant_zero (g : Nat) (id ep fi co : Int) (w : World) (h : NoTab w g) : Calls Try.prog 11 #[.pointer (some ⟨g, 0, none⟩), .int .i64 id, .agg (rC ep fi co)] w fun e w' => e = .returned (.int .i64 3) ∧ Below w.heap.size w w' := by
  obtain ⟨c0, c1, c2, f0, f1, f2⟩ := cells_3 h
  go_enter Try.func11, Try.ntmps11
  go_wp2_with (go_at_call 25; refine (nown_zero g _ _ (by first | exact h | exact blk_alloc h _)).mono ?_; rintro e w1 ⟨rfl, hb⟩)
  go_ret
  first | exact ⟨rfl, hb⟩ | exact ⟨rfl, below_step (below_alloc (Below.refl _ _) _) hb⟩
theorem nrefuse_zero (g : Nat) (id code : Int) (w : World) (h : NoTab w g) : Calls Try.prog 12 #[.pointer (some ⟨g, 0, none⟩), .int .i64 id, .int .i64 code] w fun e w' => e = .returned (.int .i64 3) ∧ Below w.heap.size w w' := by
  obtain ⟨c0, c1, c2, f0, f1, f2⟩ := cells_3 h
  go_enter Try.func12, Try.ntmps12
  go_wp2_with (go_at_call 25; refine (nown_zero g _ _ (by first | exact h | exact blk_alloc h _)).mono ?_; rintro e w1 ⟨rfl, hb⟩)
  go_ret
  first | exact ⟨rfl, hb⟩ | exact ⟨rfl, below_step (below_alloc (Below.refl _ _) _) hb⟩
theorem nlen_zero (g : Nat)  (w : World) (h : NoTab w g) : Calls Try.prog 17 #[.pointer (some ⟨g, 0, none⟩)] w fun e w' => e = .returned (.int .i64 0) ∧ Below w.heap.size w w' := by
  obtain ⟨c0, c1, c2, f0, f1, f2⟩ := cells_3 h
  have hlen := Maps.len_nil (w := w) Try.underlying36 3
  go_enter Try.func17, Try.ntmps17
  go_wp2
  go_ret
  first | exact ⟨rfl, Below.refl _ _⟩ | exact ⟨rfl, below_alloc (Below.refl _ _) _⟩ | exact ⟨rfl, pw_below_drewN (Below.refl _ _) _⟩
theorem nmatched_nil  (w : World) : Calls Try.prog 13 #[.pointer none] w fun e w' => e = .returned (.slice none 0 0) ∧ Below w.heap.size w w' := by
  go_enter Try.func13, Try.ntmps13
  go_wp2
  go_ret
  first | exact ⟨rfl, Below.refl _ _⟩ | exact ⟨rfl, below_alloc (Below.refl _ _) _⟩ | exact ⟨rfl, pw_below_drewN (Below.refl _ _) _⟩
theorem nmatched_zero (g : Nat)  (w : World) (h : NoTab w g) : Calls Try.prog 13 #[.pointer (some ⟨g, 0, none⟩)] w fun e w' => e = .returned (.slice none 0 0) ∧ Below w.heap.size w w' := by
  obtain ⟨c0, c1, c2, f0, f1, f2⟩ := cells_3 h
  go_enter Try.func13, Try.ntmps13
  go_wp2_with (go_at_call 26; refine (open_zero g _ _ _ h).mono ?_; rintro e w1 ⟨rfl, hb⟩; have HB1 := Lib.hid hb; clear hb)
  go_loopw [3, 11] (fun l a wr => l = .slice none 0 0 ∧ a = .int .i64 0 ∧ wr = w1) (fun l a _ => 0)
  case atStart => exact ⟨rfl, rfl, rfl⟩
  case round =>
    obtain ⟨rfl, rfl, rfl⟩ := hrel
    go_wp2
    go_ret
    exact ⟨rfl, HB1.out⟩
theorem nunlike_nil  (w : World) : Calls Try.prog 14 #[.pointer none] w fun e w' => e = .returned (.slice none 0 0) ∧ Below w.heap.size w w' := by
  go_enter Try.func14, Try.ntmps14
  go_wp2
  go_ret
  first | exact ⟨rfl, Below.refl _ _⟩ | exact ⟨rfl, below_alloc (Below.refl _ _) _⟩ | exact ⟨rfl, pw_below_drewN (Below.refl _ _) _⟩
theorem nunlike_zero (g : Nat)  (w : World) (h : NoTab w g) : Calls Try.prog 14 #[.pointer (some ⟨g, 0, none⟩)] w fun e w' => e = .returned (.slice none 0 0) ∧ Below w.heap.size w w' := by
  obtain ⟨c0, c1, c2, f0, f1, f2⟩ := cells_3 h
  go_enter Try.func14, Try.ntmps14
  go_wp2_with (go_at_call 26; refine (open_zero g _ _ _ h).mono ?_; rintro e w1 ⟨rfl, hb⟩; have HB1 := Lib.hid hb; clear hb)
  go_loopw [3, 11] (fun l a wr => l = .slice none 0 0 ∧ a = .int .i64 0 ∧ wr = w1) (fun l a _ => 0)
  case atStart => exact ⟨rfl, rfl, rfl⟩
  case round =>
    obtain ⟨rfl, rfl, rfl⟩ := hrel
    go_wp2
    go_ret
    exact ⟨rfl, HB1.out⟩
theorem nwaiting_nil  (w : World) : Calls Try.prog 15 #[.pointer none] w fun e w' => e = .returned (.slice none 0 0) ∧ Below w.heap.size w w' := by
  go_enter Try.func15, Try.ntmps15
  go_wp2
  go_ret
  first | exact ⟨rfl, Below.refl _ _⟩ | exact ⟨rfl, below_alloc (Below.refl _ _) _⟩ | exact ⟨rfl, pw_below_drewN (Below.refl _ _) _⟩
theorem nwaiting_zero (g : Nat)  (w : World) (h : NoTab w g) : Calls Try.prog 15 #[.pointer (some ⟨g, 0, none⟩)] w fun e w' => e = .returned (.slice none 0 0) ∧ Below w.heap.size w w' := by
  obtain ⟨c0, c1, c2, f0, f1, f2⟩ := cells_3 h
  have HA := Lib.hid (heap_alloc_new w (.cells #[.map none] 36))
  have HB0 := Lib.hid (below_alloc (Below.refl w.heap.size w) (.cells #[.map none] 36))
  go_enter Try.func15, Try.ntmps15
  go_wp2_with (first
    | (go_at_call 28; (with_reducible refine (keys_ok none _).mono ?_); rintro e w1 ⟨rfl, rfl⟩)
    | (go_at_call 27; (with_reducible refine (sorted_nil w.heap.size _ (blk_lt HA.out) (cells_1 HA.out).1).mono ?_); rintro e w2 ⟨rfl, hb⟩; have HB2 := Lib.hid (below_step HB0.out hb); clear hb))
  go_loopw [3, 16] (fun l a wr => l = .slice none 0 0 ∧ a = .int .i64 0 ∧ wr = w2) (fun l a _ => 0)
  case atStart => exact ⟨rfl, rfl, rfl⟩
  case round =>
    obtain ⟨rfl, rfl, rfl⟩ := hrel
    go_wp2
    go_ret
    exact ⟨rfl, HB2.out⟩
theorem nreset_nil  (w : World) : Calls Try.prog 16 #[.pointer none] w fun e w' => e = .returned (.slice none 0 0) ∧ Below w.heap.size w w' := by
  go_enter Try.func16, Try.ntmps16
  go_wp2_with (go_at_call 15; refine (nwaiting_nil _).mono ?_; rintro e w1 ⟨rfl, hb⟩)
  go_ret
  exact ⟨rfl, hb⟩
theorem nreset_zero (g : Nat)  (w : World) (h : NoTab w g) : Calls Try.prog 16 #[.pointer (some ⟨g, 0, none⟩)] w fun e w' => e = .returned (.slice none 0 0) ∧ Below w.heap.size w w' := by
  obtain ⟨c0, c1, c2, f0, f1, f2⟩ := cells_3 h
  go_enter Try.func16, Try.ntmps16
  go_wp2_with (go_at_call 15; refine (nwaiting_zero g _ h).mono ?_; rintro e w1 ⟨rfl, hb⟩; obtain ⟨k0, k1, k2, -⟩ := cells_3 (blk_below h hb))
  go_ret
  exact ⟨rfl, hb⟩
end Go.Proofs.Ytmeafbjnjiadnaa.P
