/- The table of tickets: what is sorted by order (slices.SortStableFunc), where it is in order already. -/
import Derived.Test.YtdifkcbiifhkeaaOoSv4
namespace Go.Proofs.Ytdifkcbiifhkeaa.P
open Go.RowKit Go.Maps Go.Proofs.YtdifkcbiifhkeaaW.PrintWords Go.Proofs.YtdifkcbiifhkeaaW.PrintLast Go.Proofs.YtdifkcbiifhkeaaW.PrintMore
set_option linter.unusedVariables false
set_option linter.unusedSimpArgs false
attribute [local go_sem ↓] Go.wp_at_zero Go.wp_at_succ
abbrev SO := Value.func (.func 27) #[] #[]
theorem cmp_ok (a b : Nat) (oa ob : Int) (w : World) (ha : w.cell? ⟨a, 16, none⟩ = some (.int .i64 oa)) (hb : w.cell? ⟨b, 16, none⟩ = some (.int .i64 ob)) (hw : IntKind.i64.wrap (oa - ob) = oa - ob) : Calls Try.prog 27 #[.pointer (some ⟨a, 0, none⟩), .pointer (some ⟨b, 0, none⟩)] w fun e w' => e = .returned (.int .i64 (oa - ob)) ∧ Below w.heap.size w w' := by
  go_enter Try.func27, Try.ntmps27
  go_wp2
  go_quiet (fail)
  go_wp2
  go_ret
  exact ⟨rfl, pw_below_drewN (Below.refl _ _) _⟩
/-- a row of slots in order -/
structure InRow (w : World) (r n : Nat) (P : Nat → Nat) (O : Nat → Int) : Prop where
  lt : r < w.heap.size
  cell : ∀ j, j < n → w.cell? ⟨r, j, none⟩ = some (.pointer (some ⟨P j, 0, none⟩))
  slot : ∀ j, j < n → P j < w.heap.size ∧ w.cell? ⟨P j, 16, none⟩ = some (.int .i64 (O j))
  up : ∀ j, j + 1 < n → O j < O (j + 1)
  few : ∀ j, j < n → 0 ≤ O j ∧ O j < 1000000
theorem InRow.below {w w' : World} {r n : Nat} {P : Nat → Nat} {O : Nat → Int} (h : InRow w r n P O) (hb : Below w.heap.size w w') : InRow w' r n P O :=
  ⟨Nat.lt_of_lt_of_le h.lt hb.size, fun j hj => (hb.cell (p := ⟨r, j, none⟩) h.lt).trans (h.cell j hj), fun j hj => ⟨Nat.lt_of_lt_of_le (h.slot j hj).1 hb.size, (hb.cell (p := ⟨P j, 16, none⟩) (h.slot j hj).1).trans (h.slot j hj).2⟩, h.up, h.few⟩
set_option maxRecDepth 100000 in
set_option maxHeartbeats 1600000 in
theorem ins_two (r c : Nat) (P : Nat → Nat) (O : Nat → Int) (w : World) (h : InRow w r 2 P O) (hc : 2 ≤ c) : Calls Try.prog 36 #[.slice (some ⟨r, 0, none⟩) 2 c, .int .i64 0, .int .i64 2, SO] w fun e w' => e = .returned (.tuple #[]) ∧ Below w.heap.size w w' := by
  have HI := Lib.hid h
  clear h
  go_enter Try.func36, Try.ntmps36
  go_wp2
  go_loopw [8] (fun s wr => (s = .int .i64 1 ∧ wr = w) ∨ (s = .int .i64 2 ∧ Go.RowKit.Hid (Below w.heap.size w wr))) (fun s _ => 30 - (intOf s).toNat)
  case atStart => exact .inl ⟨rfl, rfl⟩
  case round =>
    rcases hrel with ⟨rfl, rfl⟩ | ⟨rfl, HB⟩
    · go_wp2
      go_loopw [9] (fun s wr2 => s = .int .i64 1 ∧ wr2 = wr) (fun s _ => 0)
      case atStart => exact ⟨rfl, rfl⟩
      case round =>
        obtain ⟨rfl, rfl⟩ := hrel
        go_wp2
        have hc1 := HI.out.cell 1 (by omega)
        have hc2 := HI.out.cell 0 (by omega)
        have hrl := HI.out.lt
        have HS1 := Lib.hid (HI.out.slot 1 (by omega))
        have HS2 := Lib.hid (HI.out.slot 0 (by omega))
        have hup := HI.out.up 0 (by omega)
        have hf1 := HI.out.few 1 (by omega)
        have hf2 := HI.out.few 0 (by omega)
        have hwd : IntKind.i64.wrap (O 1 - O 0) = O 1 - O 0 := by rw [IntKind.wrap_i64]; simp only [Nat.zero_add] at hup; omega
        have HWD := Lib.hid hwd
        have hneg : ¬ O 1 - O 0 < 0 := by simp only [Nat.zero_add] at hup; omega
        clear hwd hf1 hf2 hup
        have hw00 : IntKind.i64.wrap 0 = 0 := by decide
        have hw11 : (0 : Int) ≤ IntKind.i64.wrap 0 ∧ IntKind.i64.wrap 0 < 2 := by decide
        go_region_held3 (fun w' => w'.cell? ⟨r, 1, none⟩ = some (.pointer (some ⟨P 1, 0, none⟩)) ∧ w'.cell? ⟨r, 0, none⟩ = some (.pointer (some ⟨P 0, 0, none⟩)))
          (refine ⟨?_, ?_⟩ <;> first | exact hc1 | exact hc2 | exact (HBC.out.cell (p := ⟨r, 1, none⟩) hrl).trans hc1 | exact (HBC.out.cell (p := ⟨r, 0, none⟩) hrl).trans hc2 | go_keep)
          ((go_at_call 27; go_loud (refine (cmp_ok (P 1) (P 0) (O 1) (O 0) wr.drew HS1.out.2 HS2.out.2 HWD.out).mono ?_; rintro e w2 ⟨rfl, hb⟩; have HBC := Lib.hid hb; clear hb)))
        go_wp2
        go_roundw
        case rel => exact .inr ⟨rfl, Lib.hid (below_step (below_drew1 (Below.refl _ _)) HBC.out)⟩
        case measure => simp [intOf]
    · go_wp2
      go_end0
      exact ⟨rfl, HB.out⟩
theorem stable_few (v : Value) (A : Option Addr) (n c : Nat) (w : World) (hn : n < 20) (h : Calls Try.prog 36 #[.slice A n c, .int .i64 0, .int .i64 (n : Int), v] w fun e w' => e = .returned (.tuple #[]) ∧ Below w.heap.size w w') : Calls Try.prog 32 #[.slice A n c, .int .i64 (n : Int), v] w fun e w' => e = .returned (.tuple #[]) ∧ Below w.heap.size w w' := by
  have HI := Lib.hid h
  clear h
  have h20 : ¬ (20 : Int) ≤ (n : Int) := by omega
  have h21 : ¬ (20 : Int) < (n : Int) := by omega
  go_enter Try.func32, Try.ntmps32
  go_wp2
  go_loopw [7, 8] (fun a b wr => a = .int .i64 0 ∧ b = .int .i64 20 ∧ wr = w) (fun a b _ => 0)
  case atStart => exact ⟨rfl, rfl, rfl⟩
  case round =>
    obtain ⟨rfl, rfl, rfl⟩ := hrel
    go_wp2_with (go_at_call 36; (with_reducible refine HI.out.mono ?_); rintro e w1 ⟨rfl, hb⟩)
    go_loopw [6] (fun a wr2 => a = .int .i64 20 ∧ wr2 = w1) (fun a _ => 0)
    case atStart => exact ⟨rfl, rfl⟩
    case round =>
      obtain ⟨rfl, rfl⟩ := hrel
      go_wp2
      go_end0
      exact ⟨rfl, hb⟩
theorem sorts_few (v : Value) (A : Option Addr) (n c : Nat) (w : World) (hn : n < 20) (h : Calls Try.prog 36 #[.slice A n c, .int .i64 0, .int .i64 (n : Int), v] w fun e w' => e = .returned (.tuple #[]) ∧ Below w.heap.size w w') : Calls Try.prog 26 #[.slice A n c, v] w fun e w' => e = .returned (.tuple #[]) ∧ Below w.heap.size w w' := by
  have HI := Lib.hid (stable_few v A n c w hn h)
  clear h
  go_enter Try.func26, Try.ntmps26
  go_wp2_with (go_at_call 32; (with_reducible refine HI.out.mono ?_); rintro e w1 ⟨rfl, hb⟩)
  go_end0
  exact ⟨rfl, hb⟩
end Go.Proofs.Ytdifkcbiifhkeaa.P
