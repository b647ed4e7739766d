/- Bodies that are sent (window.Out): Pending. -/
import Derived.BigQuiet
import Derived.Deep.AppendLies
import Derived.Deep.DrawnRows
import Derived.Deep.RegionHeld3
import Derived.Deep.RegionLaw
import Derived.IntWalk
import Derived.Lib.Hide
import Derived.Outline
import Derived.Test.YtedhckojeephaaaWxPx0
import Derived.WalkSpells
import Derived.Test.YtedhckojeephaaaWxK6
import Derived.Test.YtedhckojeephaaaWxK7
import Derived.Test.YtedhckojeephaaaWxK11
import Derived.Test.YtedhckojeephaaaWxK15
namespace Go.Proofs.Ytedhckojeephaaa.P
open Go.RowKit Go.Maps Go.Proofs.YtedhckojeephaaaW.PrintWords Go.Proofs.YtedhckojeephaaaW.PrintLast Go.Proofs.YtedhckojeephaaaW.PrintMore
set_option linter.unusedVariables false
set_option linter.unusedSimpArgs false

/-! ### window_pend: words -/
def pendL : Int → List ByteArray → List S57
  | _, [] => []
  | b, s :: L => ⟨b + 1, s⟩ :: pendL (b + 1) L
theorem pendL_len (b : Int) (L : List ByteArray) : (pendL b L).length = L.length := by
  induction L generalizing b with
  | nil => rfl
  | cons s L ih => simp [pendL, ih]
theorem pendL_snoc (b : Int) (L : List ByteArray) (s : ByteArray) : pendL b (L ++ [s]) = pendL b L ++ [⟨b + L.length + 1, s⟩] := by
  induction L generalizing b with
  | nil => simp [pendL]
  | cons t L ih =>
    simp only [List.cons_append, pendL, ih, List.length_cons]
    rw [show b + 1 + (L.length : Int) + 1 = b + ((L.length + 1 : Nat) : Int) + 1 by omega]
theorem pendL_get (b : Int) (L : List ByteArray) (i : Nat) (h : i < L.length) : (pendL b L).getD i z57 = ⟨b + i + 1, L.getD i ByteArray.empty⟩ := by
  induction L generalizing b i with
  | nil => simp at h
  | cons t L ih =>
    cases i with
    | zero => simp [pendL]
    | succ i =>
      have := ih (b + 1) i (by simpa using h)
      simp only [pendL, List.getD_cons_succ, this]
      rw [show b + 1 + (i : Int) + 1 = b + ((i + 1 : Nat) : Int) + 1 by omega]
theorem take_snoc (L : List ByteArray) (i : Nat) (h : i < L.length) : L.take (i + 1) = L.take i ++ [L.getD i ByteArray.empty] := by
  rw [List.take_add_one, List.getD_eq_getElem?_getD, List.getElem?_eq_getElem h]
  rfl
/-! ### window_pending: function 18 -/
set_option maxHeartbeats 1600000 in
set_option maxRecDepth 100000 in
theorem wpend_ok (w0 w : World) (g : Nat) (base : Int) (v : Value) (L : List ByteArray) (hO : OutAt w0 w g base v L) (h0 : 0 ≤ base) (h1 : base + L.length + 1 < 4294967296) (hl : L.length ≤ 16) : Calls Try.prog 18 #[.pointer (some ⟨g, 0, none⟩)] w fun e w' => ∃ v1, e = .returned v1 ∧ Kd.R k57 57 w' w.heap.size (fun _ => True) v1 (pendL base L) ∧ Below w.heap.size w w' := by
  obtain ⟨c0, c1, f0, f1⟩ := cells_2 hO.blk
  obtain ⟨A, c, rfl, hc, hC⟩ := hO.row.form
  have HO := Aside0.mk hO
  have HC := Aside0.mk hC
  have hlI : (L.length : Int) ≤ 16 := by omega
  have hl0 : (0 : Int) ≤ (L.length : Int) := by omega
  have hlN : ((L.length : Int)).toNat * 24 ≤ 281474976710656 := by omega
  clear hO hC
  go_enter Try.func18, Try.ntmps18
  go_wp2_with (first | ((with_reducible refine gate_dst (N := 13) rfl ?_); go_loud (refine Kd.R_makecap k57 _ 57 rfl (N := 13) rfl 43 _ _ rfl (L.length : Int) rfl rfl Try.underlying43 (.agg #[(.int .u32 0), (.string ⟨#[]⟩)]) 24 info57 rfl (by decide) (by omega) z57 (ok := fun _ => True) (okp := fun _ => True) (k57_mkM _ _ _ z57 ) (fun _ hk => hk) trivial hl0 hlN (Below.refl _ _) (Nat.le_refl _) ?_); intro v131 w5 ho hb hg_ hnew_; clear hg_ hnew_; (first | simp only [Int.reduceToNat] at ho | skip); have HR := Aside0.mk ho; have HB := Aside0.mk hb; replace c0 := pw_cell_below hb c0; replace c1 := pw_cell_below hb c1; clear ho hb))
  have hbig : base + (L.length : Int) + 1 < 4294967296 := h1
  clear f0 f1
  go_loopw [3, 19] (fun v3 v19 wr => ∃ i : Nat, i ≤ L.length ∧ v19 = .int .i64 i ∧ Aside0 (Kd.R k57 57 wr w.heap.size (fun _ => True) v3 (pendL base (L.take i))) ∧ Aside0 (Below w.heap.size w wr)) (fun _ v19 _ => L.length - (intOf v19).toNat)
  case atStart => exact ⟨0, by omega, rfl, HR, HB⟩
  case round =>
    clear c0 c1 HR HB
    obtain ⟨i, hi, rfl, HR, HB⟩ := hrel
    by_cases hlt : i < L.length
    · obtain ⟨c0, c1, -, -⟩ := cells_2 HO.out.blk
      replace c0 := pw_cell_below HB.out c0
      replace c1 := pw_cell_below HB.out c1
      obtain ⟨ad, rfl, hx⟩ := str_cell HC.out i hlt
      replace hx := pw_cell_below HB.out hx
      have hltI : (i : Int) < (L.length : Int) := by omega
      have hi0 : (0 : Int) ≤ (i : Int) := by omega
      have hw1 : IntKind.u32.wrap (i : Int) = i := wrap32 (by omega) (by omega)
      have hw2 : IntKind.u32.wrap (base + (i : Int)) = base + i := wrap32 (by omega) (by omega)
      have hw3 : IntKind.u32.wrap (base + (i : Int) + 1) = base + i + 1 := wrap32 (by omega) (by omega)
      have hsz := HB.out.size
      have hplen : ((pendL base (L.take i)).length + 1) * 24 ≤ 140737488355328 := by rw [pendL_len, List.length_take]; omega
      obtain ⟨P0, hP0⟩ : ∃ P0, P0 = pendL base (L.take i) := ⟨_, rfl⟩
      rw [← hP0] at HR hplen
      obtain ⟨A3, c3, rfl, -, -⟩ := Kd.R_reads HR.out
      have HP := Lib.hid hP0
      clear hP0
      go_wp2_with (first | ((with_reducible refine gate_builtin (b := .append) (xs := #[.tmp 24, .tmp 35]) rfl ?_); at_builtin; go_loud (refine Kd.R_append k57 (w0 := w) w.heap.size rfl (.tmp 24) (.tmp 35) 43 57 (.agg #[(.int .u32 0), (.string ⟨#[]⟩)]) 24 rfl Try.underlying43 info57 rfl (by decide) (by omega) (.slice A3 P0.length c3) P0 (⟨base + i + 1, sx L i⟩ : S57) [.int .u32 (base + i + 1), .string (sx L i)] (fun _ => True) (fun _ => False) rfl rfl ?aP (fun _ hk => hk.elim) (fun _ _ => trivial) HR.out HB.out hsz hplen ?_); (case aP => exact k57_mkM _ _ _ (⟨base + i + 1, sx L i⟩ : S57)); intro v135 w13 ho hb hg hat; have HR2 := Aside0.mk ho; have HB2 := Aside0.mk hb; clear ho hb hg hat))
      go_roundw
      case rel => exact ⟨i + 1, by omega, by go_num, ⟨by rw [take_snoc L i hlt, pendL_snoc, ← HP.out]; have h := HR2.out; rw [List.length_take, Nat.min_eq_left (by omega)]; exact h⟩, HB2⟩
      case measure => simp [intOf]; omega
    · go_wp2
      go_ret
      exact ⟨_, rfl, by have h := HR.out; rw [List.take_of_length_le (by omega)] at h; exact h, HB.out⟩
end Go.Proofs.Ytedhckojeephaaa.P
