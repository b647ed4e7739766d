/- The document's network (package trefoilref12): the ways that end in an error. -/
import Derived.Test.YtedhckojeephaaaNpPx0
import Derived.Test.YtedhckojeephaaaNpK0
import Derived.Test.YtedhckojeephaaaNpK2
import Derived.Test.YtedhckojeephaaaNpK5
import Derived.Test.YtedhckojeephaaaNpK9
import Derived.Test.YtedhckojeephaaaNpK10
namespace Go.Proofs.Ytedhckojeephaaa.P
open Go.RowKit Go.Proofs.YtedhckojeephaaaW.PrintWords Go.Proofs.YtedhckojeephaaaW.PrintLast Go.Proofs.YtedhckojeephaaaW.PrintMore
set_option linter.unusedVariables false
set_option linter.unusedSimpArgs false
attribute [local go_sem ↓] Go.wp_at_zero Go.wp_at_succ

/-! ### ref_net_err: function 50 -/
/-- there is no such place: with whatever error -/
def WrongIs (v : Value) (t i err : Int) : Prop := ∀ w, Calls Try.prog 56 #[v, .int .i64 t, .int .i64 i] w fun e w' => e = .returned (.int .i64 err) ∧ Below w.heap.size w w'
/-- what the document's call answers: a list made anew in its place, or all as it was -/
def RefAns (w : World) (s0 s1 : Value) (b : Bool) (F : Bool → List ByteArray) (L : List ByteArray) (f : Value → Value) (e : Ending) (w' : World) : Prop := ∃ v, e = .returned (f (putS b s0 s1 v)) ∧ Below w.heap.size w w' ∧ ((v = pickS b s0 s1 ∧ L = F b) ∨ NewRow w w' v L)
def RefSame (w : World) (s0 s1 : Value) (f : Value → Value) (e : Ending) (w' : World) : Prop := e = .returned (f (.agg #[s0, s1])) ∧ Below w.heap.size w w'
theorem putS_pick (b : Bool) (s0 s1 : Value) : putS b s0 s1 (pickS b s0 s1) = .agg #[s0, s1] := by cases b <;> rfl
theorem RefSame.ans {w w' : World} {s0 s1 : Value} {f : Value → Value} {e : Ending} (h : RefSame w s0 s1 f e w') (b : Bool) (F : Bool → List ByteArray) : RefAns w s0 s1 b F (F b) f e w' := ⟨pickS b s0 s1, by rw [putS_pick]; exact h.1, h.2, .inl ⟨rfl, rfl⟩⟩
abbrev withE (err : Int) : Value → Value := fun v => .tuple #[v, .int .i64 err]
theorem wrong_bad (A0 A1 : Option Addr) (n0 n1 c0 c1 : Nat) (t i : Int) (ht : t < 0 ∨ t > 1) : WrongIs (.agg #[.slice A0 n0 c0, .slice A1 n1 c1]) t i 1 := fun w => r_wrong_bad A0 A1 n0 n1 c0 c1 t i ht w
theorem wrong_out (A0 A1 : Option Addr) (c0 c1 : Nat) (F : Bool → List ByteArray) (t i : Int) (b : Bool) (ht : t = toOf b) (hi : ¬ inIt (F b) i) : WrongIs (.agg #[.slice A0 (F false).length c0, .slice A1 (F true).length c1]) t i 6 := fun w => by
  have h := r_wrong A0 A1 c0 c1 F t i b ht w
  rw [if_neg (show ¬ okI (F b) i from hi)] at h
  exact h
theorem wrong_in (A0 A1 : Option Addr) (c0 c1 : Nat) (F : Bool → List ByteArray) (t i : Int) (b : Bool) (ht : t = toOf b) (hi : inIt (F b) i) : WrongIs (.agg #[.slice A0 (F false).length c0, .slice A1 (F true).length c1]) t i 0 := fun w => by
  have h := r_wrong A0 A1 c0 c1 F t i b ht w
  rw [if_pos (show okI (F b) i from hi)] at h
  exact h
set_option maxHeartbeats 1600000 in
set_option maxRecDepth 100000 in
theorem r_forge_err (A0 A1 : Option Addr) (n0 n1 c0 c1 : Nat) (t i err : Int) (s : ByteArray) (w : World) (hW : WrongIs (.agg #[.slice A0 n0 c0, .slice A1 n1 c1]) t i err) (he : (err == 0) = false) :
    Calls Try.prog 50 #[.agg #[.slice A0 n0 c0, .slice A1 n1 c1], .int .i64 t, .int .i64 i, .string s] w (RefSame w (.slice A0 n0 c0) (.slice A1 n1 c1) (withE err)) := by
  have HW := Lib.hid hW
  have k0 := Aside0.mk (blk_alloc (heap_alloc_new w (.cells #[.slice A0 n0 c0, .slice A1 n1 c1] 77)) (.cells #[.slice none 0 0, .slice none 0 0] 77))
  have k1 := Aside0.mk (blk_snd w (.cells #[.slice A0 n0 c0, .slice A1 n1 c1] 77) (.slice none 0 0) (.slice none 0 0))
  have b0 := Aside0.mk (below_alloc (below_alloc (Below.refl w.heap.size w) (.cells #[.slice A0 n0 c0, .slice A1 n1 c1] 77)) (.cells #[.slice none 0 0, .slice none 0 0] 77))
  have hne : (err != 0) = true := by simp [bne, he]
  clear hW
  go_enter Try.func50, Try.ntmps50
  go_wp2_with (first
    | (go_at_call 56; refine (HW.out _).mono ?_; rintro e w1 ⟨rfl, hb⟩; have k2 := blk_below k0.out hb; have k3 := blk_below k1.out hb; have K2 := Aside0.mk k2; have K3 := Aside0.mk k3; have HB1 := Aside0.mk (below_step b0.out hb); obtain ⟨q0, q1, qf0, qf1⟩ := cells_2 k2; obtain ⟨r0, r1, rf0, rf1⟩ := cells_2 k3; clear hb k2 k3))
  go_region_held3 (fun w' => w'.cell? ⟨w.heap.size, 0, none⟩ = some (.slice A0 n0 c0) ∧ w'.cell? ⟨w.heap.size, 1, none⟩ = some (.slice A1 n1 c1)) (go_keep)
    ((go_at_call 56; refine (HW.out _).mono ?_; rintro e w2 ⟨rfl, hb⟩; have k2 := blk_below (blk_drew K2.out) hb; have k3 := blk_below (blk_drew K3.out) hb; have K4 := Aside0.mk k3; have HB2 := Aside0.mk (below_step (below_drew HB1.out) hb); obtain ⟨q0, q1, qf0, qf1⟩ := cells_2 k2; obtain ⟨y0, y1, yf0, yf1⟩ := cells_2 k3; clear hb k2 k3))
  all_goals
    (try go_wp2)
    refine bodyPost_ret (results_ct rfl _ _ (w.heap.size + 1) 77 _ (0, 0) _ rfl (by simpa using blk_set (blk_set K4.out 0 (.slice A0 n0 c0)) 1 (.slice A1 n1 c1)) Try.underlying77 rfl (by kernel_rfl)) rfl ?_
    exact ⟨rfl, below_set (below_set HB2.out (by omega)) (by omega)⟩
set_option maxHeartbeats 1600000 in
set_option maxRecDepth 100000 in
theorem r_double_err (A0 A1 : Option Addr) (n0 n1 c0 c1 : Nat) (t i err : Int) (w : World) (hW : WrongIs (.agg #[.slice A0 n0 c0, .slice A1 n1 c1]) t i err) (he : (err == 0) = false) :
    Calls Try.prog 48 #[.agg #[.slice A0 n0 c0, .slice A1 n1 c1], .int .i64 t, .int .i64 i] w (RefSame w (.slice A0 n0 c0) (.slice A1 n1 c1) (withE err)) := by
  have HW := Lib.hid hW
  have k0 := Aside0.mk (blk_alloc (heap_alloc_new w (.cells #[.slice A0 n0 c0, .slice A1 n1 c1] 77)) (.cells #[.slice none 0 0, .slice none 0 0] 77))
  have k1 := Aside0.mk (blk_snd w (.cells #[.slice A0 n0 c0, .slice A1 n1 c1] 77) (.slice none 0 0) (.slice none 0 0))
  have b0 := Aside0.mk (below_alloc (below_alloc (Below.refl w.heap.size w) (.cells #[.slice A0 n0 c0, .slice A1 n1 c1] 77)) (.cells #[.slice none 0 0, .slice none 0 0] 77))
  have hne : (err != 0) = true := by simp [bne, he]
  clear hW
  go_enter Try.func48, Try.ntmps48
  go_wp2_with (first
    | (go_at_call 56; refine (HW.out _).mono ?_; rintro e w1 ⟨rfl, hb⟩; have k2 := blk_below k0.out hb; have k3 := blk_below k1.out hb; have K2 := Aside0.mk k2; have K3 := Aside0.mk k3; have HB1 := Aside0.mk (below_step b0.out hb); obtain ⟨q0, q1, qf0, qf1⟩ := cells_2 k2; obtain ⟨r0, r1, rf0, rf1⟩ := cells_2 k3; clear hb k2 k3))
  go_region_held3 (fun w' => w'.cell? ⟨w.heap.size, 0, none⟩ = some (.slice A0 n0 c0) ∧ w'.cell? ⟨w.heap.size, 1, none⟩ = some (.slice A1 n1 c1)) (go_keep)
    ((go_at_call 56; refine (HW.out _).mono ?_; rintro e w2 ⟨rfl, hb⟩; have k2 := blk_below (blk_drew K2.out) hb; have k3 := blk_below (blk_drew K3.out) hb; have K4 := Aside0.mk k3; have HB2 := Aside0.mk (below_step (below_drew HB1.out) hb); obtain ⟨q0, q1, qf0, qf1⟩ := cells_2 k2; obtain ⟨y0, y1, yf0, yf1⟩ := cells_2 k3; clear hb k2 k3))
  all_goals
    (try go_wp2)
    refine bodyPost_ret (results_ct rfl _ _ (w.heap.size + 1) 77 _ (0, 0) _ rfl (by simpa using blk_set (blk_set K4.out 0 (.slice A0 n0 c0)) 1 (.slice A1 n1 c1)) Try.underlying77 rfl (by kernel_rfl)) rfl ?_
    exact ⟨rfl, below_set (below_set HB2.out (by omega)) (by omega)⟩
set_option maxHeartbeats 1600000 in
set_option maxRecDepth 100000 in
theorem r_swap_err (A0 A1 : Option Addr) (n0 n1 c0 c1 : Nat) (t i err : Int) (k : Int) (w : World) (hW : WrongIs (.agg #[.slice A0 n0 c0, .slice A1 n1 c1]) t i err) (he : (err == 0) = false) :
    Calls Try.prog 49 #[.agg #[.slice A0 n0 c0, .slice A1 n1 c1], .int .i64 t, .int .i64 i, .int .i64 k] w (RefSame w (.slice A0 n0 c0) (.slice A1 n1 c1) (withE err)) := by
  have HW := Lib.hid hW
  have k0 := Aside0.mk (blk_alloc (heap_alloc_new w (.cells #[.slice A0 n0 c0, .slice A1 n1 c1] 77)) (.cells #[.slice none 0 0, .slice none 0 0] 77))
  have k1 := Aside0.mk (blk_snd w (.cells #[.slice A0 n0 c0, .slice A1 n1 c1] 77) (.slice none 0 0) (.slice none 0 0))
  have b0 := Aside0.mk (below_alloc (below_alloc (Below.refl w.heap.size w) (.cells #[.slice A0 n0 c0, .slice A1 n1 c1] 77)) (.cells #[.slice none 0 0, .slice none 0 0] 77))
  have hne : (err != 0) = true := by simp [bne, he]
  clear hW
  go_enter Try.func49, Try.ntmps49
  go_wp2_with (first
    | (go_at_call 56; refine (HW.out _).mono ?_; rintro e w1 ⟨rfl, hb⟩; have k2 := blk_below k0.out hb; have k3 := blk_below k1.out hb; have K2 := Aside0.mk k2; have K3 := Aside0.mk k3; have HB1 := Aside0.mk (below_step b0.out hb); obtain ⟨q0, q1, qf0, qf1⟩ := cells_2 k2; obtain ⟨r0, r1, rf0, rf1⟩ := cells_2 k3; clear hb k2 k3))
  go_region_held3 (fun w' => w'.cell? ⟨w.heap.size, 0, none⟩ = some (.slice A0 n0 c0) ∧ w'.cell? ⟨w.heap.size, 1, none⟩ = some (.slice A1 n1 c1)) (go_keep)
    ((go_at_call 56; refine (HW.out _).mono ?_; rintro e w2 ⟨rfl, hb⟩; have k2 := blk_below (blk_drew K2.out) hb; have k3 := blk_below (blk_drew K3.out) hb; have K4 := Aside0.mk k3; have HB2 := Aside0.mk (below_step (below_drew HB1.out) hb); obtain ⟨q0, q1, qf0, qf1⟩ := cells_2 k2; obtain ⟨y0, y1, yf0, yf1⟩ := cells_2 k3; clear hb k2 k3))
  all_goals
    (try go_wp2)
    refine bodyPost_ret (results_ct rfl _ _ (w.heap.size + 1) 77 _ (0, 0) _ rfl (by simpa using blk_set (blk_set K4.out 0 (.slice A0 n0 c0)) 1 (.slice A1 n1 c1)) Try.underlying77 rfl (by kernel_rfl)) rfl ?_
    exact ⟨rfl, below_set (below_set HB2.out (by omega)) (by omega)⟩
set_option maxHeartbeats 1600000 in
set_option maxRecDepth 100000 in
theorem r_turn_err (A0 A1 : Option Addr) (n0 n1 c0 c1 : Nat) (t i err : Int) (p bits : Int) (w : World) (hW : WrongIs (.agg #[.slice A0 n0 c0, .slice A1 n1 c1]) t i err) (he : (err == 0) = false) :
    Calls Try.prog 51 #[.agg #[.slice A0 n0 c0, .slice A1 n1 c1], .int .i64 t, .int .i64 i, .int .i64 p, .int .u8 bits] w (RefSame w (.slice A0 n0 c0) (.slice A1 n1 c1) (withE err)) := by
  have HW := Lib.hid hW
  have k0 := Aside0.mk (blk_alloc (heap_alloc_new w (.cells #[.slice A0 n0 c0, .slice A1 n1 c1] 77)) (.cells #[.slice none 0 0, .slice none 0 0] 77))
  have k1 := Aside0.mk (blk_snd w (.cells #[.slice A0 n0 c0, .slice A1 n1 c1] 77) (.slice none 0 0) (.slice none 0 0))
  have b0 := Aside0.mk (below_alloc (below_alloc (Below.refl w.heap.size w) (.cells #[.slice A0 n0 c0, .slice A1 n1 c1] 77)) (.cells #[.slice none 0 0, .slice none 0 0] 77))
  have hne : (err != 0) = true := by simp [bne, he]
  clear hW
  go_enter Try.func51, Try.ntmps51
  go_wp2_with (first
    | (go_at_call 56; refine (HW.out _).mono ?_; rintro e w1 ⟨rfl, hb⟩; have k2 := blk_below k0.out hb; have k3 := blk_below k1.out hb; have K2 := Aside0.mk k2; have K3 := Aside0.mk k3; have HB1 := Aside0.mk (below_step b0.out hb); obtain ⟨q0, q1, qf0, qf1⟩ := cells_2 k2; obtain ⟨r0, r1, rf0, rf1⟩ := cells_2 k3; clear hb k2 k3))
  go_region_held3 (fun w' => w'.cell? ⟨w.heap.size, 0, none⟩ = some (.slice A0 n0 c0) ∧ w'.cell? ⟨w.heap.size, 1, none⟩ = some (.slice A1 n1 c1)) (go_keep)
    ((go_at_call 56; refine (HW.out _).mono ?_; rintro e w2 ⟨rfl, hb⟩; have k2 := blk_below (blk_drew K2.out) hb; have k3 := blk_below (blk_drew K3.out) hb; have K4 := Aside0.mk k3; have HB2 := Aside0.mk (below_step (below_drew HB1.out) hb); obtain ⟨q0, q1, qf0, qf1⟩ := cells_2 k2; obtain ⟨y0, y1, yf0, yf1⟩ := cells_2 k3; clear hb k2 k3))
  all_goals
    (try go_wp2)
    refine bodyPost_ret (results_ct rfl _ _ (w.heap.size + 1) 77 _ (0, 0) _ rfl (by simpa using blk_set (blk_set K4.out 0 (.slice A0 n0 c0)) 1 (.slice A1 n1 c1)) Try.underlying77 rfl (by kernel_rfl)) rfl ?_
    exact ⟨rfl, below_set (below_set HB2.out (by omega)) (by omega)⟩
set_option maxHeartbeats 1600000 in
set_option maxRecDepth 100000 in
theorem r_take_err (A0 A1 : Option Addr) (n0 n1 c0 c1 : Nat) (t i err : Int) (w : World) (hW : WrongIs (.agg #[.slice A0 n0 c0, .slice A1 n1 c1]) t i err) (he : (err == 0) = false) :
    Calls Try.prog 47 #[.agg #[.slice A0 n0 c0, .slice A1 n1 c1], .int .i64 t, .int .i64 i] w (RefSame w (.slice A0 n0 c0) (.slice A1 n1 c1) (fun v => .tuple #[v, .string ⟨#[]⟩, .int .i64 err])) := by
  have HW := Lib.hid hW
  have k0 := Aside0.mk (blk_alloc (heap_alloc_new w (.cells #[.slice A0 n0 c0, .slice A1 n1 c1] 77)) (.cells #[.slice none 0 0, .slice none 0 0] 77))
  have k1 := Aside0.mk (blk_snd w (.cells #[.slice A0 n0 c0, .slice A1 n1 c1] 77) (.slice none 0 0) (.slice none 0 0))
  have b0 := Aside0.mk (below_alloc (below_alloc (Below.refl w.heap.size w) (.cells #[.slice A0 n0 c0, .slice A1 n1 c1] 77)) (.cells #[.slice none 0 0, .slice none 0 0] 77))
  have hne : (err != 0) = true := by simp [bne, he]
  clear hW
  go_enter Try.func47, Try.ntmps47
  go_wp2_with (first
    | (go_at_call 56; refine (HW.out _).mono ?_; rintro e w1 ⟨rfl, hb⟩; have k2 := blk_below k0.out hb; have k3 := blk_below k1.out hb; have K2 := Aside0.mk k2; have K3 := Aside0.mk k3; have HB1 := Aside0.mk (below_step b0.out hb); obtain ⟨q0, q1, qf0, qf1⟩ := cells_2 k2; obtain ⟨r0, r1, rf0, rf1⟩ := cells_2 k3; clear hb k2 k3))
  go_region_held3 (fun w' => w'.cell? ⟨w.heap.size, 0, none⟩ = some (.slice A0 n0 c0) ∧ w'.cell? ⟨w.heap.size, 1, none⟩ = some (.slice A1 n1 c1)) (go_keep)
    ((go_at_call 56; refine (HW.out _).mono ?_; rintro e w2 ⟨rfl, hb⟩; have k2 := blk_below (blk_drew K2.out) hb; have k3 := blk_below (blk_drew K3.out) hb; have K4 := Aside0.mk k3; have HB2 := Aside0.mk (below_step (below_drew HB1.out) hb); obtain ⟨q0, q1, qf0, qf1⟩ := cells_2 k2; obtain ⟨y0, y1, yf0, yf1⟩ := cells_2 k3; clear hb k2 k3))
  all_goals
    (try go_wp2)
    refine bodyPost_ret (results_ctt rfl _ _ (w.heap.size + 1) 77 _ (0, 0) _ rfl (by simpa using blk_set (blk_set K4.out 0 (.slice A0 n0 c0)) 1 (.slice A1 n1 c1)) Try.underlying77 rfl (by kernel_rfl)) rfl ?_
    exact ⟨rfl, below_set (below_set HB2.out (by omega)) (by omega)⟩
set_option maxHeartbeats 1600000 in
set_option maxRecDepth 100000 in
theorem r_swap_err2 (A0 A1 : Option Addr) (n0 n1 c0 c1 : Nat) (t i k err : Int) (w : World) (hW : WrongIs (.agg #[.slice A0 n0 c0, .slice A1 n1 c1]) t i 0) (hW2 : WrongIs (.agg #[.slice A0 n0 c0, .slice A1 n1 c1]) t k err) (he : (err == 0) = false) :
    Calls Try.prog 49 #[.agg #[.slice A0 n0 c0, .slice A1 n1 c1], .int .i64 t, .int .i64 i, .int .i64 k] w (RefSame w (.slice A0 n0 c0) (.slice A1 n1 c1) (withE err)) := by
  have HW := Lib.hid hW
  have HW2 := Lib.hid hW2
  have k0 := Aside0.mk (blk_alloc (heap_alloc_new w (.cells #[.slice A0 n0 c0, .slice A1 n1 c1] 77)) (.cells #[.slice none 0 0, .slice none 0 0] 77))
  have k1 := Aside0.mk (blk_snd w (.cells #[.slice A0 n0 c0, .slice A1 n1 c1] 77) (.slice none 0 0) (.slice none 0 0))
  have b0 := Aside0.mk (below_alloc (below_alloc (Below.refl w.heap.size w) (.cells #[.slice A0 n0 c0, .slice A1 n1 c1] 77)) (.cells #[.slice none 0 0, .slice none 0 0] 77))
  have hne : (err != 0) = true := by simp [bne, he]
  have tok : True := trivial
  clear hW hW2
  go_enter Try.func49, Try.ntmps49
  go_wp2_with (first
    | (go_at_call 56; have _t := tok; refine (HW.out _).mono ?_; rintro e w1 ⟨rfl, hb⟩; have k2 := blk_below k0.out hb; have k3 := blk_below k1.out hb; have K2 := Aside0.mk k2; have K3 := Aside0.mk k3; have HB1 := Aside0.mk (below_step b0.out hb); obtain ⟨q0, q1, qf0, qf1⟩ := cells_2 k2; obtain ⟨r0, r1, rf0, rf1⟩ := cells_2 k3; clear hb k2 k3 tok)
    | (go_at_call 56; refine (HW2.out _).mono ?_; rintro e w2 ⟨rfl, hb⟩; have k2 := blk_below K2.out hb; have k3 := blk_below K3.out hb; have K4 := Aside0.mk k2; have K5 := Aside0.mk k3; have HB2 := Aside0.mk (below_step HB1.out hb); obtain ⟨s0, s1, sf0, sf1⟩ := cells_2 k2; obtain ⟨u0, u1, uf0, uf1⟩ := cells_2 k3; clear hb k2 k3))
  go_region_held3 (fun w' => w'.cell? ⟨w.heap.size, 0, none⟩ = some (.slice A0 n0 c0) ∧ w'.cell? ⟨w.heap.size, 1, none⟩ = some (.slice A1 n1 c1)) (go_keep)
    ((go_at_call 56; refine (HW2.out _).mono ?_; rintro e w3 ⟨rfl, hb⟩; have k2 := blk_below (blk_drew K4.out) hb; have k3 := blk_below (blk_drew K5.out) hb; have K6 := Aside0.mk k3; have HB3 := Aside0.mk (below_step (below_drew HB2.out) hb); obtain ⟨q0, q1, qf0, qf1⟩ := cells_2 k2; obtain ⟨y0, y1, yf0, yf1⟩ := cells_2 k3; clear hb k2 k3))
  all_goals
    (try go_wp2)
    refine bodyPost_ret (results_ct rfl _ _ (w.heap.size + 1) 77 _ (0, 0) _ rfl (by simpa using blk_set (blk_set K6.out 0 (.slice A0 n0 c0)) 1 (.slice A1 n1 c1)) Try.underlying77 rfl (by kernel_rfl)) rfl ?_
    exact ⟨rfl, below_set (below_set HB3.out (by omega)) (by omega)⟩
end Go.Proofs.Ytedhckojeephaaa.P
