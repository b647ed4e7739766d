/- stream.Joiner: Left, All; slices.Concat, slices.Grow. -/
import Derived.BigQuiet
import Derived.Deep.AppendLies
import Derived.Deep.DrawnRows
import Derived.Deep.RegionHeld3
import Derived.Deep.RegionLaw
import Derived.Deep.RegionWith
import Derived.IntWalk
import Derived.Lib.AppendZerosOnto
import Derived.Lib.Hide
import Derived.Outline
import Derived.Shelf.Spec.SlicesGrow
import Derived.Test.YtojimoebbinhdaaTrPx0
import Derived.WalkSpells
import Derived.Test.YtojimoebbinhdaaTrK2
import Derived.Test.YtojimoebbinhdaaTrK3
import Derived.Test.YtojimoebbinhdaaTrK5
import Derived.Test.YtojimoebbinhdaaTrK6
namespace Go.Proofs.Ytojimoebbinhdaa.P
open Go.RowKit Go.Proofs.YtojimoebbinhdaaW.PrintWords Go.Proofs.YtojimoebbinhdaaW.PrintLast Go.Proofs.YtojimoebbinhdaaW.PrintMore
set_option linter.unusedVariables false
set_option linter.unusedSimpArgs false

/-! ### stream_left: function 26 -/
set_option maxRecDepth 100000 in
theorem left_done (w0 w : World) (g : Nat) (plan : List S32) (each : Int) (PL : List (List Int)) (HL : List Bool) (vp vq vh : Value) (hJ : JAt w0 w g plan each PL HL vp vq vh) (hl : HL.length ≤ 100000) (hall : ∀ i, i < HL.length → HL.getD i false = true) :
    Calls Try.prog 26 #[.pointer (some ⟨g, 0, none⟩)] w fun e w' => e = .returned (.int .i64 0) ∧ w = w' := by
  have d3 : w.cell? ⟨g, 3, none⟩ = some _ := (blk_cell hJ.blk 3).trans rfl
  obtain ⟨Ah, ch, rfl, hch, hCh⟩ := Kd.R_reads hJ.hav
  have HC := Aside0.mk hCh
  have HA := Lib.hid hall
  clear hJ hCh hall
  go_enter Try.func26, Try.ntmps26
  go_wp2
  go_loopw [3, 13] (fun v3 v13 wr => ∃ i : Nat, i ≤ HL.length ∧ v13 = .int .i64 i ∧ v3 = .int .i64 0 ∧ wr = w) (fun _ v13 _ => HL.length - (intOf v13).toNat)
  case atStart => exact ⟨0, by omega, rfl, rfl, rfl⟩
  case round =>
    obtain ⟨i, hi, rfl, rfl, rfl⟩ := hrel
    by_cases hlt : i < HL.length
    · have hltI : (i : Int) < (HL.length : Int) := by omega
      have hi0 : (0 : Int) ≤ (i : Int) := by omega
      obtain ⟨ad, rfl, q0⟩ := Kd.at_bool HC.out (i : Int) hi0 hltI
      rw [show rdOf false HL (i : Int) = true by unfold rdOf; rw [Int.toNat_natCast]; exact HA.out i hlt, Int.toNat_natCast] at q0
      go_wp2
      go_roundw
      case rel => exact ⟨i + 1, by omega, by go_num, rfl, by first | rfl | trivial⟩
      case measure => simp [intOf]; omega
    · go_wp2
      go_ret
      first | exact ⟨rfl, rfl⟩ | exact ⟨rfl, trivial⟩
/-! ### slices_grow: function 45 -/
theorem grow_zero (w : World) : Calls Try.prog 45 #[.slice none 0 0, .int .i64 0] w fun e w' => e = .returned (.slice none 0 0) ∧ w = w' := by
  go_enter Try.func45, Try.ntmps45
  go_wp2
  go_ret
  exact ⟨rfl, rfl⟩
set_option maxRecDepth 100000 in
theorem grow_nil (n : Nat) (w : World) (h0 : 0 < n) (hn : n ≤ 1000000) : Calls Try.prog 45 #[.slice none 0 0, .int .i64 n] w fun e w' => ∃ v, e = .returned v ∧ k64.R 22 w' w.heap.size (fun _ => True) v ([] : List Int) ∧ Below w.heap.size w w' := by
  obtain ⟨i0, hi, hzz⟩ := Option.map_eq_some_iff.1 info22
  simp only [Prod.mk.injEq] at hzz
  obtain ⟨hz0, hz1, hz2⟩ := hzz
  have hrz : ∀ ty, (Builtin.append_ #[50, 3] ty #[.slice none 0 0, .int .i64 (n : Int)]).run Try.prog w = _ := fun ty => Lib.run_append_nil_zeros w 50 3 ty 22 i0 (.int .u64 0) .i64 .i64 Try.underlying50 Try.underlying3 hi hz0 n h0 (by rw [hz1]; decide) (by omega) (by rw [hz2]; omega)
  have hG1 : n ≤ grownCap w n 0 22 := grownCap_ge w _ _ _
  have hGm := grownCap_le_maxLen w n 0 22 (by unfold maxLen; omega)
  obtain ⟨G, hG⟩ : ∃ G, G = grownCap w n 0 22 := ⟨_, rfl⟩
  rw [← hG] at hrz hG1 hGm
  have hz1c : (Builtin.zeroCells (Value.int IntKind.u64 0).cells n ++ Builtin.zeroCells (Value.int IntKind.u64 0).cells (G - n)).size = G * 1 := by
    rw [Array.size_append, size_zeroCells, size_zeroCells, show (Value.cells (.int .u64 0)).size = 1 from rfl]; omega
  obtain ⟨Z, hZ⟩ : ∃ Z, Z = Builtin.zeroCells (Value.int IntKind.u64 0).cells n ++ Builtin.zeroCells (Value.int IntKind.u64 0).cells (G - n) := ⟨_, rfl⟩
  rw [← hZ] at hrz hz1c
  have hG63 : G ≤ 9223372036854775807 := by unfold maxLen at hGm; omega
  have hnI : ¬ (n : Int) < 0 := by omega
  have hn0 : (0 : Int) < (n : Int) := by omega
  have HGM := Lib.hid hGm
  have HZ1 := Lib.hid hz1c
  clear hG hZ hGm hz1c hi hz0 hz1 hz2
  go_enter Try.func45, Try.ntmps45
  go_wp2_with (at_builtin; refine Lib.wpList_append_run _ rfl _ _ _ _ rfl _ _ rfl rfl _ _ (hrz _) ?_)
  go_ret
  refine ⟨_, rfl, ⟨fun _ _ => trivial, [], ⟨by simp, .inr ⟨w.heap.size, G, Z, rfl, Nat.le_refl _, heap_alloc_new w.drew _, by simp, HGM.out, HZ1.out, by simp⟩⟩, Reps.none _ _⟩, below_alloc (below_drew (Below.refl _ _)) _⟩
theorem grow_any (n : Nat) (w : World) (hn : n ≤ 1000000) : Calls Try.prog 45 #[.slice none 0 0, .int .i64 n] w fun e w' => ∃ v, e = .returned v ∧ k64.R 22 w' w.heap.size (fun _ => True) v ([] : List Int) ∧ Below w.heap.size w w' := by
  rcases Nat.eq_zero_or_pos n with h | h
  · subst h
    refine (grow_zero w).mono ?_
    rintro e w1 ⟨rfl, rfl⟩
    exact ⟨_, rfl, Kd.R_nil _ _ _ _ _, Below.refl _ _⟩
  · exact grow_nil n w h hn
/-! ### slices_concat: function 37 -/
theorem flat_take (PL : List (List Int)) (i : Nat) (h : i < PL.length) : (PL.take (i + 1)).flatten = (PL.take i).flatten ++ PL.getD i [] := by
  rw [List.take_add_one, List.getElem?_eq_getElem h, List.getD_eq_getElem?_getD, List.getElem?_eq_getElem h, List.flatten_append]
  simp
theorem flat_le (PL : List (List Int)) (i : Nat) : (PL.take i).flatten.length ≤ PL.flatten.length := by
  have h := congrArg List.length (congrArg List.flatten (List.take_append_drop i PL))
  rw [List.flatten_append, List.length_append] at h
  omega
set_option maxHeartbeats 1600000 in
set_option maxRecDepth 100000 in
theorem concat_ok (A : Option Addr) (c : Nat) (PL : List (List Int)) (w : World) (hC : kRows.C w A PL.length PL) (hl : PL.length ≤ 100000) (hf : PL.flatten.length ≤ 1000000) :
    Calls Try.prog 37 #[.slice A PL.length c] w fun e w' => ∃ v, e = .returned v ∧ k64.R 22 w' w.heap.size (fun _ => True) v PL.flatten ∧ Below w.heap.size w w' := by
  have HC := Aside0.mk hC
  have hlI : (PL.length : Int) ≤ 100000 := by omega
  clear hC
  go_enter Try.func37, Try.ntmps37
  go_wp2
  go_loopw [3, 11] (fun v3 v11 wr => ∃ i : Nat, i ≤ PL.length ∧ v11 = .int .i64 i ∧ v3 = .int .i64 ((PL.take i).flatten.length : Nat) ∧ wr = w) (fun _ v11 _ => PL.length - (intOf v11).toNat)
  case atStart => exact ⟨0, by omega, rfl, rfl, rfl⟩
  case round =>
    obtain ⟨i, hi, rfl, rfl, rfl⟩ := hrel
    by_cases hlt : i < PL.length
    · have hltI : (i : Int) < (PL.length : Int) := by omega
      obtain ⟨ad, cc, rfl, -, hK, hcc⟩ := Kd.C_get HC.out ([] : List Int) (i : Int) (by omega) hltI
      obtain ⟨A0, k0, rfl, -, -⟩ := hK
      have q0 := hcc 0 _ rfl
      rw [Int.toNat_natCast, show kRows.sz = 1 from rfl, Nat.mul_one, Nat.add_zero] at q0
      have hft := flat_take PL i hlt
      have hfl := flat_le PL (i + 1)
      rw [hft, List.length_append] at hfl
      obtain ⟨y, hy⟩ : ∃ y, y = PL.getD i [] := ⟨_, rfl⟩
      rw [← hy] at q0 hft hfl
      obtain ⟨m, hm⟩ : ∃ m, m = (PL.take i).flatten.length := ⟨_, rfl⟩
      have hft2 : (PL.take (i + 1)).flatten.length = m + y.length := by rw [hft, List.length_append, hm]
      rw [← hm] at hfl ⊢
      have HFT := Lib.hid hft2
      have hi0 : (0 : Int) ≤ (i : Int) := by omega
      have hw1 : IntKind.i64.wrap ((m : Int) + (y.length : Int)) = ((m + y.length : Nat) : Int) := by rw [IntKind.wrap_i64]; omega
      have hng : ¬ ((m + y.length : Nat) : Int) < 0 := by omega
      clear hy hm hft hft2 hcc
      go_wp2
      go_roundw
      case rel => exact ⟨i + 1, by omega, by go_num, by rw [HFT.out, Int.natCast_add], by first | rfl | trivial⟩
      case measure => simp [intOf]; omega
    · obtain ⟨wo, rfl⟩ : ∃ wo : World, wo = wr := ⟨_, rfl⟩
      have hpe : PL.take i = PL := List.take_of_length_le (by omega)
      rw [hpe]
      obtain ⟨n, hn⟩ : ∃ n, n = PL.flatten.length := ⟨_, rfl⟩
      rw [← hn] at hf ⊢
      have HN := Lib.hid hn
      clear hpe hn
      go_wp2_with (go_at_call 45; refine (grow_any n _ hf).mono ?_; rintro e w1 ⟨v, rfl, hr, hb⟩; have HRV := Aside0.mk hr; have HB := Aside0.mk hb; clear hr hb)
      go_loopw [6, 27] (fun v6 v27 wx => ∃ j : Nat, j ≤ PL.length ∧ v27 = .int .i64 j ∧ Aside0 (k64.R 22 wx wo.heap.size (fun _ => True) v6 (PL.take j).flatten) ∧ Aside0 (Below wo.heap.size wo wx)) (fun _ v27 _ => PL.length - (intOf v27).toNat)
      case atStart => exact ⟨0, by omega, rfl, HRV, HB⟩
      case round =>
        clear HRV HB
        obtain ⟨wz, rfl⟩ : ∃ wz : World, wz = wr := ⟨_, rfl⟩
        obtain ⟨j, hj, rfl, HRV, HB⟩ := hrel
        by_cases hlt2 : j < PL.length
        · have hltI : (j : Int) < (PL.length : Int) := by omega
          have hj0 : (0 : Int) ≤ (j : Int) := by omega
          obtain ⟨ad, cc, rfl, -, hK, hcc⟩ := Kd.C_get (Kd.C_below HC.out HB.out) ([] : List Int) (j : Int) (by omega) hltI
          obtain ⟨A0, k0, rfl, hk0, hC0⟩ := hK
          have q0 := hcc 0 _ rfl
          rw [Int.toNat_natCast, show kRows.sz = 1 from rfl, Nat.mul_one, Nat.add_zero] at q0
          rw [Int.toNat_natCast] at hC0
          have hft := flat_take PL j hlt2
          have hfl := flat_le PL (j + 1)
          rw [hft, List.length_append] at hfl
          obtain ⟨y, hy⟩ : ∃ y, y = PL.getD j [] := ⟨_, rfl⟩
          rw [← hy] at q0 hft hfl hC0
          obtain ⟨P0, hP0⟩ : ∃ P0, P0 = (PL.take j).flatten := ⟨_, rfl⟩
          rw [← hP0] at HRV hfl hft
          have HFT := Lib.hid hft
          have HC0 := Aside0.mk hC0
          have hgrow : (P0.length + y.length) * 8 ≤ 140737488355328 := by have := HN.out; omega
          have hszz := HB.out.size
          obtain ⟨A6, c6, rfl, -, -⟩ := Kd.R_reads HRV.out
          clear hy hP0 hft hfl hcc hC0
          go_wp2_with (at_builtin; go_loud (refine Kd.R_append_rows k64 (Rr := k64.K wz) (w0 := wz) wo.heap.size rfl (.tmp 31) (.tmp 32) 50 22 (.int .u64 0) 8 rfl Try.underlying50 info22 rfl (by decide) (by omega) (.slice A6 P0.length c6) P0 y A0 y.length k0 (fun _ => True) (fun _ => False) rfl rfl HRV.out HC0.out (fun _ _ h => h) (fun _ hk => hk.elim) (fun _ _ => trivial) (Below.refl _ _) hszz hgrow ?_); intro v1 w3 ho hb hg hat; have HR3 := Aside0.mk ho; have HB3 := Aside0.mk hb; clear ho hb hg hat)
          go_roundw
          case rel => exact ⟨j + 1, by omega, by go_num, ⟨by rw [HFT.out]; exact HR3.out⟩, ⟨below_two HB.out HB3.out⟩⟩
          case measure => simp [intOf]; omega
        · have hR := HRV.out
          rw [List.take_of_length_le (by omega)] at hR
          go_wp2
          go_ret
          exact ⟨_, rfl, hR, HB.out⟩
/-! ### stream_all: function 24 -/
set_option maxRecDepth 100000 in
theorem all_ok (w0 w : World) (g : Nat) (plan : List S32) (each : Int) (PL : List (List Int)) (HL : List Bool) (vp vq vh : Value) (hJ : JAt w0 w g plan each PL HL vp vq vh) (hl : HL.length ≤ 100000) (hall : ∀ i, i < HL.length → HL.getD i false = true) (hp : PL.length ≤ 100000) (hf : PL.flatten.length ≤ 1000000) :
    Calls Try.prog 24 #[.pointer (some ⟨g, 0, none⟩)] w fun e w' => ∃ v, e = .returned (.tuple #[v, .bool true]) ∧ k64.R 22 w' w.heap.size (fun _ => True) v PL.flatten ∧ Below w.heap.size w w' := by
  have HLF := Lib.hid (left_done w0 w g plan each PL HL vp vq vh hJ hl hall)
  have d2 : w.cell? ⟨g, 2, none⟩ = some _ := (blk_cell hJ.blk 2).trans rfl
  have d4 : w.cell? ⟨g, 4, none⟩ = some _ := (blk_cell hJ.blk 4).trans rfl
  obtain ⟨Aq, cq, rfl, hcq, hCq⟩ := Kd.R_reads hJ.part
  have HCC := Lib.hid (concat_ok Aq cq PL w hCq hp hf)
  clear hJ hCq hall
  go_enter Try.func24, Try.ntmps24
  go_wp2_with (first
    | (go_at_call 26; refine HLF.out.mono ?_; rintro e w1 ⟨rfl, rfl⟩)
    | (go_at_call 37; refine HCC.out.mono ?_; rintro e w1 ⟨v, rfl, hr, hb⟩; have HR := Aside0.mk hr; have HB := Aside0.mk hb; clear hr hb))
  go_ret2
  exact ⟨v, rfl, HR.out, HB.out⟩
end Go.Proofs.Ytojimoebbinhdaa.P
