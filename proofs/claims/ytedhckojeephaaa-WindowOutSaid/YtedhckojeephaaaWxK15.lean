/- Bodies that are sent (window.Out): Put. -/
import Derived.BigQuiet
import Derived.Deep.AppendLies
import Derived.Deep.DrawnRows
import Derived.Deep.RegionHeld3
import Derived.Deep.RegionLaw
import Derived.IntWalk
import Derived.Lib.Hide
import Derived.Outline
import Derived.Test.YtedhckojeephaaaWxPx0
import Derived.WalkSpells
import Derived.Test.YtedhckojeephaaaWxK4
import Derived.Test.YtedhckojeephaaaWxK11
namespace Go.Proofs.Ytedhckojeephaaa.P
open Go.RowKit Go.Maps Go.Proofs.YtedhckojeephaaaW.PrintWords Go.Proofs.YtedhckojeephaaaW.PrintLast Go.Proofs.YtedhckojeephaaaW.PrintMore
set_option linter.unusedVariables false
set_option linter.unusedSimpArgs false
attribute [local go_sem ↓] Go.wp_at_zero Go.wp_at_succ

/-! ### window_put: function 12 -/
/-- what is sent, at g: the base, and the row of the bodies -/
structure OutAt (w0 w : World) (g : Nat) (base : Int) (v : Value) (L : List ByteArray) : Prop where
  blk : w.heap[g]? = some (.cells #[.int .u32 base, v] 52 (0, 0))
  ge : w0.heap.size ≤ g
  row : RS w0 w v L
theorem wput_full (w0 w : World) (g : Nat) (base : Int) (v : Value) (L : List ByteArray) (s : ByteArray) (hO : OutAt w0 w g base v L) (hl : L.length ≥ 16) : Calls Try.prog 12 #[.pointer (some ⟨g, 0, none⟩), .string s] w fun e w' => e = .returned (.tuple #[.int .u32 0, .int .i64 23]) ∧ w = w' := by
  obtain ⟨c0, c1, -, -⟩ := cells_2 hO.blk
  obtain ⟨A, c, rfl, -, -⟩ := hO.row.form
  have h16 : (L.length : Int) ≥ 16 := by omega
  clear hO
  go_enter Try.func12, Try.ntmps12
  go_wp2
  go_ret2
  exact ⟨rfl, rfl⟩
set_option maxHeartbeats 1600000 in
set_option maxRecDepth 100000 in
theorem wput_ok (w0 w : World) (g : Nat) (base : Int) (v : Value) (L : List ByteArray) (s : ByteArray) (hO : OutAt w0 w g base v L) (hB : Below w0.heap.size w0 w) (hl : L.length < 16) (h0 : 0 ≤ base) (h1 : base + L.length + 1 ≤ 4294967294) : Calls Try.prog 12 #[.pointer (some ⟨g, 0, none⟩), .string s] w fun e w' => ∃ v1, e = .returned (.tuple #[.int .u32 (base + (L.length + 1 : Nat)), .int .i64 0]) ∧ OutAt w0 w' g base v1 (L ++ [s]) ∧ Chg (fun k => k = g ∨ v.ownBlock = some k) w w' ∧ (v1.ownBlock = v.ownBlock ∨ ∃ k, v1.ownBlock = some k ∧ w.heap.size ≤ k) := by
  obtain ⟨c0, c1, f0, f1⟩ := cells_2 hO.blk
  obtain ⟨A, c, rfl, -, -⟩ := hO.row.form
  have h16 : (L.length : Int) < 16 := by omega
  have HO := Aside0.mk hO
  have HB := Aside0.mk hB
  clear hO hB
  have hw1 : IntKind.u32.wrap (L.length : Int) = L.length := wrap32 (by omega) (by omega)
  have hw2 : IntKind.u32.wrap (4294967294 - (L.length : Int)) = 4294967294 - L.length := wrap32 (by omega) (by omega)
  have hw3 : IntKind.u32.wrap (4294967294 - (L.length : Int) - 1) = 4294967294 - L.length - 1 := wrap32 (by omega) (by omega)
  have HNE : Aside0 (∀ k, (Value.slice A L.length c).ownBlock = some k → k ≠ g) := ⟨fun k hk e => Kd.R_ne HO.out.row HO.out.blk (by decide) (by rw [hk, e])⟩
  have hw4 : IntKind.u32.wrap ((L.length : Int) + 1) = L.length + 1 := wrap32 (by omega) (by omega)
  have hw5 : IntKind.u32.wrap (base + ((L.length : Int) + 1)) = base + (L.length + 1) := wrap32 (by omega) (by omega)
  have hno : ¬ 4294967294 - (L.length : Int) - 1 < base := by omega
  go_enter Try.func12, Try.ntmps12
  go_wp2_with fail
  go_region_held3 (fun w' => w'.cell? ⟨g, 0, none⟩ = some (.int .u32 base) ∧ w'.cell? ⟨g, 1, none⟩ = some (.slice A L.length c)) (go_keep) (fail)
  go_wp2_with (at_builtin; go_loud (refine Kd.R_append Kd.string (w0 := w.drew) (W := w.drew) w0.heap.size rfl (.tmp 34) (.tmp 36) 27 9 (.string ⟨#[]⟩) 16 rfl Try.underlying27 info9 rfl (by decide) (by omega) (.slice A L.length c) L s [.string s] (fun _ => True) (fun _ => False) rfl rfl rfl (fun _ hk => hk.elim) (fun _ _ => trivial) (RS.move HO.out.row (fun _ _ => rfl)) (Below.refl _ _) HB.out.size (by omega) ?_; intro v1 w3 ho hb hg hat; obtain ⟨A1, c1', rfl, -, -⟩ := RS.form (w0 := w0) ho; obtain ⟨k0, k1, l0, l1⟩ := cells_2 (blk_grown (show w.drew.heap[g]? = _ from HO.out.blk) hg (fun e => HNE.out _ e.symm rfl)); have HR := Aside0.mk ho; have HG := Aside0.mk hg; have HA := Aside0.mk hat; clear ho hb hg hat))
  have hcs : Aside0 ((w3.setCell ⟨g, 1, none⟩ (.slice A1 (L.length + 1) c1')).heap[g]? = some (.cells #[.int .u32 base, .slice A1 (L.length + 1) c1'] 52 (0, 0))) := ⟨by
    have h := blk_set (blk_grown (show w.drew.heap[g]? = _ from HO.out.blk) HG.out (fun e => HNE.out _ e.symm rfl)) 1 (.slice A1 (L.length + 1) c1')
    simpa using h⟩
  obtain ⟨y0, y1, -, -⟩ := cells_2 hcs.out
  go_region_held3 (fun w' => w'.cell? ⟨g, 0, none⟩ = some (.int .u32 base) ∧ w'.cell? ⟨g, 1, none⟩ = some (.slice A1 (L.length + 1) c1')) (refine ⟨?_, ?_⟩ <;> first | exact y0 | exact y1 | go_keep) (fail)
  go_wp2
  go_ret2
  have hr : RS w0 w3 (.slice A1 (L.length + 1) c1') (L ++ [s]) := by
    have h := HR.out
    rw [List.length_append, List.length_singleton] at h
    exact h
  refine ⟨.slice A1 (L.length + 1) c1', rfl, ⟨hcs.out, HO.out.ge, hr.move (fun k hk => ?_)⟩, ((((Chg.refl _ w).drew).grown HG.out (fun k e => .inl (.inr e))).set (.inl rfl)).drew, (by have h := HA.out; rw [List.length_append, List.length_singleton] at h; exact h)⟩
  exact Below.heap_setCell _ _ _ _ (fun e => Kd.R_ne hr (blk_grown (show w.drew.heap[g]? = _ from HO.out.blk) HG.out (fun e => HNE.out _ e.symm rfl)) (by decide) (by rw [hk, e]))
set_option maxRecDepth 100000 in
theorem wput_count (w0 w : World) (g : Nat) (base : Int) (v : Value) (L : List ByteArray) (s : ByteArray) (hO : OutAt w0 w g base v L) (hl : L.length < 16) (h0 : 0 ≤ base) (h1 : base + L.length + 1 > 4294967294) (h2 : base ≤ 4294967294) : Calls Try.prog 12 #[.pointer (some ⟨g, 0, none⟩), .string s] w fun e w' => e = .returned (.tuple #[.int .u32 0, .int .i64 24]) ∧ w' = w.drew := by
  obtain ⟨c0, c1, f0, f1⟩ := cells_2 hO.blk
  obtain ⟨A, c, rfl, -, -⟩ := hO.row.form
  have h16 : (L.length : Int) < 16 := by omega
  clear hO
  have hw1 : IntKind.u32.wrap (L.length : Int) = L.length := wrap32 (by omega) (by omega)
  have hw2 : IntKind.u32.wrap (4294967294 - (L.length : Int)) = 4294967294 - L.length := wrap32 (by omega) (by omega)
  have hw3 : IntKind.u32.wrap (4294967294 - (L.length : Int) - 1) = 4294967294 - L.length - 1 := wrap32 (by omega) (by omega)
  have hno : 4294967294 - (L.length : Int) - 1 < base := by omega
  go_enter Try.func12, Try.ntmps12
  go_wp2_with fail
  go_region_held3 (fun w' => w'.cell? ⟨g, 0, none⟩ = some (.int .u32 base) ∧ w'.cell? ⟨g, 1, none⟩ = some (.slice A L.length c)) (go_keep) (fail)
  go_wp2
  go_ret2
  exact ⟨rfl, rfl⟩
end Go.Proofs.Ytedhckojeephaaa.P
