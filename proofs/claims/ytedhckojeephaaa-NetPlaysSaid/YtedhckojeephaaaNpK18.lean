/- A network between two: what is forged, and what is turned on its way. -/
import Derived.Test.YtedhckojeephaaaNpPx0
import Derived.Test.YtedhckojeephaaaNpK0
import Derived.Test.YtedhckojeephaaaNpK2
import Derived.Test.YtedhckojeephaaaNpK4
import Derived.Test.YtedhckojeephaaaNpK5
import Derived.Test.YtedhckojeephaaaNpK7
import Derived.Test.YtedhckojeephaaaNpK10
import Derived.Test.YtedhckojeephaaaNpK17
namespace Go.Proofs.Ytedhckojeephaaa.P
open Go.RowKit Go.Proofs.YtedhckojeephaaaW.PrintWords Go.Proofs.YtedhckojeephaaaW.PrintLast Go.Proofs.YtedhckojeephaaaW.PrintMore
set_option linter.unusedVariables false
set_option linter.unusedSimpArgs false
attribute [local go_sem ↓] Go.wp_at_zero Go.wp_at_succ

/-! ### net_forge: functions 37, 38 -/
theorem NetAt.below {ok : Nat → Prop} {w0 w w1 : World} {g : Nat} {va vb : Value} {A B : List ByteArray} (h : NetAt ok w0 w g va vb A B) (hb : Below w.heap.size w w1) : NetAt ok w0 w1 g va vb A B :=
  ⟨blk_below h.blk hb, h.ge, Kd.R_below h.ra hb, Kd.R_below h.rb hb, h.ne, h.oka, h.okb⟩
theorem forge_bad (g : Nat) (t i : Int) (s : ByteArray) (w : World) (h : w.cell? ⟨g, 2, none⟩ = some (.bool true)) (ht : t < 0 ∨ t > 1) : Calls Try.prog 37 #[.pointer (some ⟨g, 0, none⟩), .int .i64 t, .int .i64 i, .string s] w fun e w' => e = .returned (.int .i64 1) ∧ w = w' := by
  go_enter Try.func37, Try.ntmps37
  go_wp2_with (go_at_call 44; refine (at_bad g t i _ h ht).mono ?_; rintro e w1 ⟨rfl, rfl⟩)
  go_ret
  exact ⟨rfl, rfl⟩
theorem forge_out (ok : Nat → Prop) (w0 w : World) (g : Nat) (F : Bool → List ByteArray) (t : Int) (b : Bool) (ht : t = toOf b) (i : Int) (s : ByteArray) (hi : i < 0 ∨ i ≥ ((F b).length : Int)) (hI : NetIs ok w0 w g F) : Calls Try.prog 37 #[.pointer (some ⟨g, 0, none⟩), .int .i64 t, .int .i64 i, .string s] w fun e w' => e = .returned (.int .i64 6) ∧ w = w' := by
  have hm := hI.made
  obtain ⟨A, c, hc, -, -⟩ := hI.way b
  have h01 := toOf_01 b
  rw [← ht] at hc h01
  clear hI ht
  go_enter Try.func37, Try.ntmps37
  go_wp2_with (go_at_call 44; refine (at_out g t i _ _ _ _ hm h01 hc hi).mono ?_; rintro e w1 ⟨rfl, rfl⟩)
  go_ret
  exact ⟨rfl, rfl⟩
theorem turn_bad (g : Nat) (t i : Int) (p bits : Int) (w : World) (h : w.cell? ⟨g, 2, none⟩ = some (.bool true)) (ht : t < 0 ∨ t > 1) : Calls Try.prog 38 #[.pointer (some ⟨g, 0, none⟩), .int .i64 t, .int .i64 i, .int .i64 p, .int .u8 bits] w fun e w' => e = .returned (.int .i64 1) ∧ w = w' := by
  go_enter Try.func38, Try.ntmps38
  go_wp2_with (go_at_call 44; refine (at_bad g t i _ h ht).mono ?_; rintro e w1 ⟨rfl, rfl⟩)
  go_ret
  exact ⟨rfl, rfl⟩
theorem turn_out (ok : Nat → Prop) (w0 w : World) (g : Nat) (F : Bool → List ByteArray) (t : Int) (b : Bool) (ht : t = toOf b) (i : Int) (p bits : Int) (hi : i < 0 ∨ i ≥ ((F b).length : Int)) (hI : NetIs ok w0 w g F) : Calls Try.prog 38 #[.pointer (some ⟨g, 0, none⟩), .int .i64 t, .int .i64 i, .int .i64 p, .int .u8 bits] w fun e w' => e = .returned (.int .i64 6) ∧ w = w' := by
  have hm := hI.made
  obtain ⟨A, c, hc, -, -⟩ := hI.way b
  have h01 := toOf_01 b
  rw [← ht] at hc h01
  clear hI ht
  go_enter Try.func38, Try.ntmps38
  go_wp2_with (go_at_call 44; refine (at_out g t i _ _ _ _ hm h01 hc hi).mono ?_; rintro e w1 ⟨rfl, rfl⟩)
  go_ret
  exact ⟨rfl, rfl⟩
theorem send_bad (g : Nat) (t : Int) (s : ByteArray) (w : World) (h : w.cell? ⟨g, 2, none⟩ = some (.bool true)) (ht : t < 0 ∨ t > 1) : Calls Try.prog 27 #[.pointer (some ⟨g, 0, none⟩), .int .i64 t, .string s] w fun e w' => e = .returned (.int .i64 1) ∧ w = w' := by
  go_enter Try.func27, Try.ntmps27
  go_wp2_with (go_at_call 43; refine (ready_bad g t _ h ht).mono ?_; rintro e w1 ⟨rfl, rfl⟩)
  go_ret
  exact ⟨rfl, rfl⟩
theorem take_bad (g : Nat) (t : Int) (i : Int) (w : World) (h : w.cell? ⟨g, 2, none⟩ = some (.bool true)) (ht : t < 0 ∨ t > 1) : Calls Try.prog 28 #[.pointer (some ⟨g, 0, none⟩), .int .i64 t, .int .i64 i] w fun e w' => e = .returned (.tuple #[.string ⟨#[]⟩, .int .i64 1]) ∧ w = w' := by
  go_enter Try.func28, Try.ntmps28
  go_wp2_with (go_at_call 44; refine (at_bad g t i _ h ht).mono ?_; rintro e w1 ⟨rfl, rfl⟩)
  go_ret2
  exact ⟨rfl, rfl⟩
theorem drop_bad (g : Nat) (t : Int) (i : Int) (w : World) (h : w.cell? ⟨g, 2, none⟩ = some (.bool true)) (ht : t < 0 ∨ t > 1) : Calls Try.prog 30 #[.pointer (some ⟨g, 0, none⟩), .int .i64 t, .int .i64 i] w fun e w' => e = .returned (.int .i64 1) ∧ w = w' := by
  go_enter Try.func30, Try.ntmps30
  go_wp2_with (go_at_call 28; refine (take_bad g t i _ h ht).mono ?_; rintro e w1 ⟨rfl, rfl⟩)
  go_ret
  exact ⟨rfl, rfl⟩
theorem double_bad (g : Nat) (t : Int) (i : Int) (w : World) (h : w.cell? ⟨g, 2, none⟩ = some (.bool true)) (ht : t < 0 ∨ t > 1) : Calls Try.prog 31 #[.pointer (some ⟨g, 0, none⟩), .int .i64 t, .int .i64 i] w fun e w' => e = .returned (.int .i64 1) ∧ w = w' := by
  go_enter Try.func31, Try.ntmps31
  go_wp2_with (go_at_call 44; refine (at_bad g t i _ h ht).mono ?_; rintro e w1 ⟨rfl, rfl⟩)
  go_ret
  exact ⟨rfl, rfl⟩
theorem swap_bad (g : Nat) (t : Int) (i k : Int) (w : World) (h : w.cell? ⟨g, 2, none⟩ = some (.bool true)) (ht : t < 0 ∨ t > 1) : Calls Try.prog 32 #[.pointer (some ⟨g, 0, none⟩), .int .i64 t, .int .i64 i, .int .i64 k] w fun e w' => e = .returned (.int .i64 1) ∧ w = w' := by
  go_enter Try.func32, Try.ntmps32
  go_wp2_with (go_at_call 44; refine (at_bad g t i _ h ht).mono ?_; rintro e w1 ⟨rfl, rfl⟩)
  go_ret
  exact ⟨rfl, rfl⟩
theorem clear_bad (g : Nat) (t : Int)  (w : World) (h : w.cell? ⟨g, 2, none⟩ = some (.bool true)) (ht : t < 0 ∨ t > 1) : Calls Try.prog 39 #[.pointer (some ⟨g, 0, none⟩), .int .i64 t] w fun e w' => e = .returned (.int .i64 1) ∧ w = w' := by
  go_enter Try.func39, Try.ntmps39
  go_wp2_with (go_at_call 43; refine (ready_bad g t _ h ht).mono ?_; rintro e w1 ⟨rfl, rfl⟩)
  go_ret
  exact ⟨rfl, rfl⟩
theorem forge_lim (ok : Nat → Prop) (w0 w : World) (g : Nat) (F : Bool → List ByteArray) (t : Int) (b : Bool) (ht : t = toOf b) (i : Nat) (s : ByteArray) (hi : i < (F b).length) (hs : (s.size : Int) > 131072) (hI : NetIs ok w0 w g F) : Calls Try.prog 37 #[.pointer (some ⟨g, 0, none⟩), .int .i64 t, .int .i64 (i : Int), .string s] w fun e w' => e = .returned (.int .i64 2) ∧ w = w' := by
  have hm := hI.made
  obtain ⟨A, c, hc, -, -⟩ := hI.way b
  have h01 := toOf_01 b
  have hi0 : (0 : Int) ≤ (i : Int) := by omega
  have hi1 : (i : Int) < ((F b).length : Int) := by omega
  rw [← ht] at hc h01
  clear hI ht
  go_enter Try.func37, Try.ntmps37
  go_wp2_with (go_at_call 44; refine (at_ok g t i _ _ _ _ hm h01 hc hi0 hi1).mono ?_; rintro e w1 ⟨rfl, rfl⟩)
  go_ret
  exact ⟨rfl, rfl⟩
/-- the bytes of a string, in a block of their own -/
theorem conv_bytes (W : World) (x : ByteArray) : (convert 9 49 (.string x)).run Try.prog W = .ok (.slice (some ⟨W.heap.size, 0, none⟩) x.size (grownCap W x.size 0 5)) (Lib.bytesWorld W 5 x) := Lib.run_convert_string_bytes W 9 49 5 x Try.underlying9 Try.underlying49 Try.underlying5
set_option maxRecDepth 100000 in
theorem turn_gap (ok : Nat → Prop) (w0 w : World) (g : Nat) (F : Bool → List ByteArray) (t : Int) (b : Bool) (ht : t = toOf b) (i : Nat) (p bits : Int) (hi : i < (F b).length) (hp : p < 0 ∨ p ≥ ((sx (F b) i).size : Int)) (hI : NetIs ok w0 w g F) (hB : Below w0.heap.size w0 w) : Calls Try.prog 38 #[.pointer (some ⟨g, 0, none⟩), .int .i64 t, .int .i64 (i : Int), .int .i64 p, .int .u8 bits] w fun e w' => e = .returned (.int .i64 6) ∧ Below w.heap.size w w' := by
  have hm := hI.made
  obtain ⟨A, c, hc, -, hr⟩ := hI.way b
  obtain ⟨ad, rfl, hcell⟩ := str_cell hr i hi
  have h01 := toOf_01 b
  have hi0 : (0 : Int) ≤ (i : Int) := by omega
  have hi1 : (i : Int) < ((F b).length : Int) := by omega
  obtain ⟨x, hx⟩ : ∃ x, x = sx (F b) i := ⟨_, rfl⟩
  rw [← hx] at hp hcell
  have hcv := conv_bytes w x
  obtain ⟨w2, hw2⟩ : ∃ w2, w2 = Lib.bytesWorld w 5 x := ⟨_, rfl⟩
  have hB2 := Aside0.mk (bytes_below (Below.refl w.heap.size w) (Nat.le_refl _) 5 x)
  rw [← hw2] at hcv hB2
  subst ht
  clear hI hr hw2 hx
  rcases hp with hp | hp
  all_goals
    cases b
    all_goals
      simp only [toOf, Int.toNat_zero, Int.toNat_one] at hc ⊢
      go_enter Try.func38, Try.ntmps38
      go_wp2_with (go_at_call 44; refine (at_ok g _ (i : Int) _ _ _ _ hm (by first | exact .inl rfl | exact .inr rfl) (by exact hc) hi0 hi1).mono ?_; rintro e w1 ⟨rfl, rfl⟩)
      go_ret
      exact ⟨rfl, hB2.out⟩
set_option maxHeartbeats 1600000 in
set_option maxRecDepth 100000 in
theorem forge_ok (ok : Nat → Prop) (w0 w : World) (g : Nat) (F : Bool → List ByteArray) (t : Int) (b : Bool) (ht : t = toOf b) (i : Nat) (s : ByteArray) (hi : i < (F b).length) (hs : (s.size : Int) ≤ 131072) (hI : NetIs ok w0 w g F) (hB : Below w0.heap.size w0 w) : Calls Try.prog 37 #[.pointer (some ⟨g, 0, none⟩), .int .i64 t, .int .i64 (i : Int), .string s] w (NetAns ok w0 w g F b (.int .i64 0) ((F b).set i s)) := by
  have hm := hI.made
  obtain ⟨va, vb, h⟩ := hI
  obtain ⟨c0, c1, -, f0, f1, -⟩ := cells_3 h.blk
  have H := Aside0.mk h
  have HB := Aside0.mk hB
  have hg := blk_lt h.blk
  have hi0 : (0 : Int) ≤ (i : Int) := by omega
  subst ht
  cases b
  · obtain ⟨go, cap, rfl, gb, gl, -⟩ := Kd.R_form h.ra (show 0 < (F false).length by omega)
    have hne : go ≠ g := h.ne_a go rfl
    clear h hB
    simp only [toOf]
    obtain ⟨hx, fx⟩ := Kd.R_celln ByteArray.empty H.out.ra (i : Int) (by omega) (by omega)
    rw [Int.toNat_natCast, show rdOf ByteArray.empty (F false) (i : Int) = sx (F false) i by rfl] at hx
    rw [Int.toNat_natCast] at fx
    have h1 : (i : Int) < ((F false).length : Int) := by omega
    go_enter Try.func37, Try.ntmps37
    go_wp2_with (go_at_call 44; refine (at_ok g _ (i : Int) _ _ _ _ hm (by first | exact .inl rfl | exact .inr rfl) (by first | exact c0 | exact c1) hi0 h1).mono ?_; rintro e w1 ⟨rfl, rfl⟩)
    go_ret
    exact ⟨rfl, NetIs.mono ⟨_, _, H.out.elem0 i s⟩ (fun _ hk => .inl hk), below_set HB.out gb, fun q hq hqg hqo => Below.heap_setCell _ _ _ _ (fun e => hqo (by rw [show q = go from e]; exact H.out.oka go rfl))⟩
  · obtain ⟨go, cap, rfl, gb, gl, -⟩ := Kd.R_form h.rb (show 0 < (F true).length by omega)
    have hne : go ≠ g := h.ne_b go rfl
    clear h hB
    simp only [toOf]
    obtain ⟨hx, fx⟩ := Kd.R_celln ByteArray.empty H.out.rb (i : Int) (by omega) (by omega)
    rw [Int.toNat_natCast, show rdOf ByteArray.empty (F true) (i : Int) = sx (F true) i by rfl] at hx
    rw [Int.toNat_natCast] at fx
    have h1 : (i : Int) < ((F true).length : Int) := by omega
    go_enter Try.func37, Try.ntmps37
    go_wp2_with (go_at_call 44; refine (at_ok g _ (i : Int) _ _ _ _ hm (by first | exact .inl rfl | exact .inr rfl) (by first | exact c0 | exact c1) hi0 h1).mono ?_; rintro e w1 ⟨rfl, rfl⟩)
    go_ret
    exact ⟨rfl, NetIs.mono ⟨_, _, H.out.elem1 i s⟩ (fun _ hk => .inl hk), below_set HB.out gb, fun q hq hqg hqo => Below.heap_setCell _ _ _ _ (fun e => hqo (by rw [show q = go from e]; exact H.out.okb go rfl))⟩
theorem turn_get (x : ByteArray) (p : Nat) (hp : p < x.size) : x.data.toList.getD p 0 = x[p] := by
  rw [List.getD_eq_getElem?_getD, List.getElem?_eq_getElem (show p < x.data.toList.length from hp)]
  rfl
theorem bytes_free (W : World) (x : ByteArray) (p : Nat) (hp : p < x.size) : (Lib.bytesWorld W 5 x).frozen? ⟨W.heap.size, p, none⟩ = false := by
  have h := Lib.bytesWorld_at_new W 5 x
  have hs : x.size ≤ (Lib.bytesCells W 5 x).size := by
    unfold Lib.bytesCells
    rw [Array.size_append, Array.size_map]
    exact Nat.le_add_right _ _
  unfold World.frozen?
  rw [h]
  simp
  omega
/-- the bytes, one of them turned, as a string -/
theorem turn_back (W : World) (x : ByteArray) (p : Nat) (bits : Int) (hp : p < x.size) : (convert 49 9 (.slice (some ⟨W.heap.size, 0, none⟩) x.size (grownCap W x.size 0 5))).run Try.prog (((Lib.bytesWorld W 5 x).setCell ⟨W.heap.size, p, none⟩ (.int .u8 (Go.bits BinOp.xor IntKind.u8 (↑(x[p].toNat)) bits))).drew) = .ok (.string (turnS x p bits)) (((Lib.bytesWorld W 5 x).setCell ⟨W.heap.size, p, none⟩ (.int .u8 (Go.bits BinOp.xor IntKind.u8 (↑(x[p].toNat)) bits))).drew) := by
  have hb : (bytesOf x).getD p 0 = ((x[p].toNat : Nat) : Int) := by
    unfold bytesOf
    rw [List.getD_eq_getElem?_getD, List.getElem?_map, List.getElem?_eq_getElem (show p < x.data.toList.length from hp)]
    rfl
  have hlen : (bytesOf x).length = x.size := by unfold bytesOf; rw [List.length_map]; rfl
  unfold turnS
  refine run_convert_bytes_arg _ 49 5 Try.underlying49 Try.underlying5 W.heap.size 0 x.size _ ((bytesOf x).set p _) (by rw [List.length_set, hlen]) (fun j hj => ?_) 9 Try.underlying9
  rw [Nat.zero_add]
  show ((Lib.bytesWorld W 5 x).setCell _ _).cell? _ = _
  by_cases hjp : j = p
  · subst hjp
    rw [hb]
    have hc := Lib.bytesWorld_cell W 5 x j hj
    rw [World.cell?_setCell_same _ _ _ hc]
    simp [hlen, hp]
  · have hab : (⟨W.heap.size, p, none⟩ : Addr) ≠ ⟨W.heap.size, j, none⟩ := fun e => hjp (by injection e with _ e2; exact e2.symm)
    rw [World.cell?_setCell_other _ _ _ _ hab, Lib.bytesWorld_cell W 5 x j hj]
    have hl : j < x.data.toList.length := hj
    unfold bytesOf
    simp [List.getElem?_set_ne (Ne.symm hjp), List.getElem?_eq_getElem hl, List.getD_eq_getElem?_getD]
set_option maxHeartbeats 1600000 in
set_option maxRecDepth 100000 in
theorem turn_ok (ok : Nat → Prop) (w0 w : World) (g : Nat) (F : Bool → List ByteArray) (t : Int) (b : Bool) (ht : t = toOf b) (i : Nat) (p : Nat) (bits : Int) (hi : i < (F b).length) (hp : p < (sx (F b) i).size) (hsz : (sx (F b) i).size ≤ 131072) (hI : NetIs ok w0 w g F) (hB : Below w0.heap.size w0 w) : Calls Try.prog 38 #[.pointer (some ⟨g, 0, none⟩), .int .i64 t, .int .i64 (i : Int), .int .i64 (p : Int), .int .u8 bits] w (NetAns ok w0 w g F b (.int .i64 0) ((F b).set i (turnS (sx (F b) i) p bits))) := by
  have hm := hI.made
  obtain ⟨va, vb, h⟩ := hI
  obtain ⟨c0, c1, -, f0, f1, -⟩ := cells_3 h.blk
  have H := Aside0.mk h
  have HB := Aside0.mk hB
  have hg := blk_lt h.blk
  have hi0 : (0 : Int) ≤ (i : Int) := by omega
  subst ht
  cases b
  · obtain ⟨go, cap, rfl, gb, gl, -⟩ := Kd.R_form h.ra (show 0 < (F false).length by omega)
    have hne : go ≠ g := h.ne_a go rfl
    clear h hB
    simp only [toOf]
    obtain ⟨hx, fx⟩ := Kd.R_celln ByteArray.empty H.out.ra (i : Int) (by omega) (by omega)
    rw [Int.toNat_natCast, show rdOf ByteArray.empty (F false) (i : Int) = sx (F false) i by rfl] at hx
    rw [Int.toNat_natCast] at fx
    have h1 : (i : Int) < ((F false).length : Int) := by omega
    obtain ⟨x, hxx⟩ : ∃ x, x = sx (F false) i := ⟨_, rfl⟩
    have HX := Lib.hid hxx
    rw [← hxx] at hx hp hsz
    clear hxx
    have hcv := conv_bytes w x
    have hbk := turn_back w x p bits hp
    have hcell := Lib.bytesWorld_cell w 5 x p hp
    have hfr := bytes_free w x p hp
    have hB2 := Aside0.mk (bytes_below (Below.refl w.heap.size w) (Nat.le_refl _) 5 x)
    obtain ⟨w2, hw2⟩ : ∃ w2, w2 = Lib.bytesWorld w 5 x := ⟨_, rfl⟩
    rw [← hw2] at hcv hB2 hcell hfr hbk
    rw [show x.data.toList.getD p 0 = x[p] from turn_get x p hp] at hcell
    obtain ⟨k0, k1, -, l0, l1, -⟩ := cells_3 (blk_below H.out.blk hB2.out)
    have hx2 := pw_cell_below hB2.out hx
    have fx2 := (hB2.out.frozen (p := ⟨go, i, none⟩) gl).trans fx
    have hp0 : (0 : Int) ≤ (p : Int) := by omega
    have hp1 : (p : Int) < (x.size : Int) := by omega
    have n0 : g ≠ w.heap.size := by omega
    have n1 : go ≠ w.heap.size := by omega
    have n2 : w.heap.size ≠ g := by omega
    have n3 : w.heap.size ≠ go := by omega
    have hgl2 : go < w2.heap.size := by have := hB2.out.size; omega
    clear hw2
    go_enter Try.func38, Try.ntmps38
    go_wp2_with (go_at_call 44; refine (at_ok g _ (i : Int) _ _ _ _ hm (by first | exact .inl rfl | exact .inr rfl) (by first | exact c0 | exact c1) hi0 h1).mono ?_; rintro e w1 ⟨rfl, rfl⟩)
    go_region
    all_goals
      (try go_wp2)
      go_ret
      have hbt : Below w.heap.size w ((w2.setCell ⟨w.heap.size, p, none⟩ (.int .u8 (Go.bits BinOp.xor IntKind.u8 (↑(x[p].toNat)) bits))).drew) := below_drew (below_set hB2.out (Nat.le_refl _))
      rw [← HX.out]
      exact ⟨rfl, NetIs.mono ⟨_, _, (H.out.below hbt).elem0 i _⟩ (fun _ hk => .inl hk), below_set (below_step HB.out hbt) gb, fun q hq hqg hqo => (Below.heap_setCell _ _ _ _ (fun e => hqo (by rw [show q = go from e]; exact H.out.oka go rfl))).trans (hbt.block q hq)⟩
  · obtain ⟨go, cap, rfl, gb, gl, -⟩ := Kd.R_form h.rb (show 0 < (F true).length by omega)
    have hne : go ≠ g := h.ne_b go rfl
    clear h hB
    simp only [toOf]
    obtain ⟨hx, fx⟩ := Kd.R_celln ByteArray.empty H.out.rb (i : Int) (by omega) (by omega)
    rw [Int.toNat_natCast, show rdOf ByteArray.empty (F true) (i : Int) = sx (F true) i by rfl] at hx
    rw [Int.toNat_natCast] at fx
    have h1 : (i : Int) < ((F true).length : Int) := by omega
    obtain ⟨x, hxx⟩ : ∃ x, x = sx (F true) i := ⟨_, rfl⟩
    have HX := Lib.hid hxx
    rw [← hxx] at hx hp hsz
    clear hxx
    have hcv := conv_bytes w x
    have hbk := turn_back w x p bits hp
    have hcell := Lib.bytesWorld_cell w 5 x p hp
    have hfr := bytes_free w x p hp
    have hB2 := Aside0.mk (bytes_below (Below.refl w.heap.size w) (Nat.le_refl _) 5 x)
    obtain ⟨w2, hw2⟩ : ∃ w2, w2 = Lib.bytesWorld w 5 x := ⟨_, rfl⟩
    rw [← hw2] at hcv hB2 hcell hfr hbk
    rw [show x.data.toList.getD p 0 = x[p] from turn_get x p hp] at hcell
    obtain ⟨k0, k1, -, l0, l1, -⟩ := cells_3 (blk_below H.out.blk hB2.out)
    have hx2 := pw_cell_below hB2.out hx
    have fx2 := (hB2.out.frozen (p := ⟨go, i, none⟩) gl).trans fx
    have hp0 : (0 : Int) ≤ (p : Int) := by omega
    have hp1 : (p : Int) < (x.size : Int) := by omega
    have n0 : g ≠ w.heap.size := by omega
    have n1 : go ≠ w.heap.size := by omega
    have n2 : w.heap.size ≠ g := by omega
    have n3 : w.heap.size ≠ go := by omega
    have hgl2 : go < w2.heap.size := by have := hB2.out.size; omega
    clear hw2
    go_enter Try.func38, Try.ntmps38
    go_wp2_with (go_at_call 44; refine (at_ok g _ (i : Int) _ _ _ _ hm (by first | exact .inl rfl | exact .inr rfl) (by first | exact c0 | exact c1) hi0 h1).mono ?_; rintro e w1 ⟨rfl, rfl⟩)
    go_region
    all_goals
      (try go_wp2)
      go_ret
      have hbt : Below w.heap.size w ((w2.setCell ⟨w.heap.size, p, none⟩ (.int .u8 (Go.bits BinOp.xor IntKind.u8 (↑(x[p].toNat)) bits))).drew) := below_drew (below_set hB2.out (Nat.le_refl _))
      rw [← HX.out]
      exact ⟨rfl, NetIs.mono ⟨_, _, (H.out.below hbt).elem1 i _⟩ (fun _ hk => .inl hk), below_set (below_step HB.out hbt) gb, fun q hq hqg hqo => (Below.heap_setCell _ _ _ _ (fun e => hqo (by rw [show q = go from e]; exact H.out.okb go rfl))).trans (hbt.block q hq)⟩
end Go.Proofs.Ytedhckojeephaaa.P
