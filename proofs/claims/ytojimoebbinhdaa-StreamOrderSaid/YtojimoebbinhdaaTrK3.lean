/- sample.Of: those of some shares that have a number. -/
import Derived.BigQuiet
import Derived.Deep.AppendLies
import Derived.Deep.DrawnRows
import Derived.Deep.RegionHeld3
import Derived.Deep.RegionLaw
import Derived.Deep.RegionWith
import Derived.IntWalk
import Derived.Lib.Hide
import Derived.Outline
import Derived.Test.YtojimoebbinhdaaTrPx0
import Derived.WalkSpells
import Derived.Test.YtojimoebbinhdaaTrK2
namespace Go.Proofs.Ytojimoebbinhdaa.P
open Go.RowKit Go.Proofs.YtojimoebbinhdaaW.PrintWords Go.Proofs.YtojimoebbinhdaaW.PrintLast Go.Proofs.YtojimoebbinhdaaW.PrintMore
set_option linter.unusedVariables false
set_option linter.unusedSimpArgs false

/-! ### sample_those: function 36 -/
def inR (n : Nat) (i : Int) : Prop := 0 ≤ i ∧ i < n
instance (n : Nat) (i : Int) : Decidable (inR n i) := by unfold inR; exact inferInstance
def picks (l : List S52) (xs : List Int) : List S52 := xs.map fun i => l.getD i.toNat z52
def okS (x : S52) : Prop := x.f0.length * 8 ≤ 140737488355328 ∧ x.f1.length * 8 ≤ 140737488355328 ∧ x.f2.length * 8 ≤ 140737488355328
abbrev z52V : Value := .agg #[.slice none 0 0, .slice none 0 0, .slice none 0 0]
theorem info52 : (Try.prog.info? 52).map (fun i => (i.zero, i.size, i.bytes)) = some (some z52V, 3, 72) := by kernel_rfl
theorem picks_snoc (l : List S52) (xs : List Int) (i : Nat) (h : i < xs.length) : picks l (xs.take (i + 1)) = picks l (xs.take i) ++ [rd_T52 l (rd xs (i : Int))] := by
  unfold picks rd_T52 rd
  rw [List.take_add_one, List.map_append, Int.toNat_natCast, List.getElem?_eq_getElem h, List.getD_eq_getElem?_getD (l := xs), List.getElem?_eq_getElem h]
  rfl
theorem elem_made {w0 wo w2 : World} {y : S52} {v0 v1 v2 : Value} (hB : Below w0.heap.size w0 wo) (r0 : k64.R 22 w2 wo.heap.size (fun _ => True) v0 y.f0) (r1 : k64.R 22 w2 wo.heap.size (fun _ => True) v1 y.f1) (r2 : k64.R 22 w2 wo.heap.size (fun _ => True) v2 y.f2) :
    k52.M w2 w0.heap.size (fun k => wo.heap.size ≤ k) y [v0, v1, v2] :=
  k52_mkM w2 _ _ y (Kd.R_lower (Kd.R_mono (Kd.R_bound r0) (fun k hk => hk.2.1)) hB.size) (Kd.R_lower (Kd.R_mono (Kd.R_bound r1) (fun k hk => hk.2.1)) hB.size) (Kd.R_lower (Kd.R_mono (Kd.R_bound r2) (fun k hk => hk.2.1)) hB.size)
theorem fresh_no {w : World} {base e : Nat} {v : Value} {P : List S52} (h : k52.R e w base (fun _ => True) v P) : ∀ k, w.heap.size ≤ k → True ∧ some k ≠ v.ownBlock := fun k hk => ⟨trivial, fun e => by have := Kd.R_lt h k e.symm; omega⟩
theorem below_two {w0 w w' : World} (h : Below w0.heap.size w0 w) (hb : Below w0.heap.size w w') : Below w0.heap.size w0 w' :=
  ⟨hb.os.trans h.os, hb.tape.trans h.tape, hb.output.trans h.output, Nat.le_trans h.size hb.size, fun k hk => (hb.block k hk).trans (h.block k hk)⟩
/-- what those answers -/
def OfAns (w : World) (l : List S52) (xs : List Int) (e : Ending) (w' : World) : Prop := Below w.heap.size w w' ∧ (((∀ i ∈ xs, inR l.length i) ∧ ∃ v, e = .returned (.tuple #[v, .int .i64 0]) ∧ k52.R 52 w' w.heap.size (fun _ => True) v (picks l xs)) ∨ ((¬ ∀ i ∈ xs, inR l.length i) ∧ e = .returned (.tuple #[.slice none 0 0, .int .i64 6])))
set_option maxHeartbeats 1600000 in
set_option maxRecDepth 100000 in
theorem those_ok (A0 A1 : Option Addr) (c0 c1 : Nat) (l : List S52) (xs : List Int) (w : World) (h0 : k52.C w A0 l.length l) (h1 : (Kd.int .i64).C w A1 xs.length xs) (hs : ∀ x ∈ l, okS x) (hl : xs.length ≤ 1000) :
    Calls Try.prog 36 #[.slice A0 l.length c0, .slice A1 xs.length c1, .func (.func 21) #[] #[]] w (OfAns w l xs) := by
  have hm0 := Kd.C_max h0
  have H0 := Aside0.mk h0
  have H1 := Aside0.mk h1
  have HS := Lib.hid hs
  clear h0 h1 hs
  have hlI : (xs.length : Int) ≤ 1000 := by omega
  have hl0 : (0 : Int) ≤ (xs.length : Int) := by omega
  have hlN : ((xs.length : Int)).toNat * 72 ≤ 281474976710656 := by omega
  have hzM : ∀ (W : World) (base : Nat), k52.M W base (fun _ => True) z52 [.slice none 0 0, .slice none 0 0, .slice none 0 0] := fun W base => k52_mkM W base _ z52 (Kd.R_nil _ _ _ _ _) (Kd.R_nil _ _ _ _ _) (Kd.R_nil _ _ _ _ _)
  have HZM := Lib.hid hzM
  clear hzM
  go_enter Try.func36, Try.ntmps36
  go_wp2_with (first | ((with_reducible refine gate_dst (N := 13) rfl ?_); go_loud (refine Kd.R_makecap k52 _ 52 rfl (N := 13) rfl 49 _ _ rfl (xs.length : Int) rfl rfl Try.underlying49 (.agg #[.slice none 0 0, .slice none 0 0, .slice none 0 0]) 72 info52 rfl (by decide) (by omega) z52 (ok := fun _ => True) (okp := fun _ => True) (HZM.out _ _) (fun _ hk => hk) trivial hl0 hlN (Below.refl _ _) (Nat.le_refl _) ?_); intro v131 w5 ho hb hg_ hnew_; clear hg_ hnew_; (first | simp only [Int.reduceToNat] at ho | skip); have HR := Aside0.mk ho; have HB := Aside0.mk hb; clear ho hb))
  go_loopw [8, 16] (fun v8 v16 wr => ∃ i : Nat, i ≤ xs.length ∧ v16 = .int .i64 i ∧ Aside0 (∀ y ∈ xs.take i, inR l.length y) ∧ Aside0 (k52.R 52 wr w.heap.size (fun _ => True) v8 (picks l (xs.take i))) ∧ Aside0 (Below w.heap.size w wr)) (fun _ v16 _ => xs.length - (intOf v16).toNat)
  case atStart => exact ⟨0, by omega, rfl, ⟨fun y hy => by simp at hy⟩, HR, HB⟩
  case round =>
    clear HR HB
    obtain ⟨i, hi, rfl, HIN, HR, HB⟩ := hrel
    obtain ⟨wo, rfl⟩ : ∃ wo : World, wo = wr := ⟨_, rfl⟩
    by_cases hlt : i < xs.length
    · have hltI : (i : Int) < (xs.length : Int) := by omega
      have hi0 : (0 : Int) ≤ (i : Int) := by omega
      obtain ⟨ax, rfl, hxc⟩ := Kd.at_int H1.out (i : Int) hi0 hltI
      rw [Int.toNat_natCast] at hxc
      replace hxc := pw_cell_below HB.out hxc
      obtain ⟨x, hx⟩ : ∃ x, x = rd xs (i : Int) := ⟨_, rfl⟩
      have hmem : x ∈ xs := by
        rw [hx]
        unfold rd
        rw [Int.toNat_natCast, List.getD_eq_getElem?_getD, List.getElem?_eq_getElem hlt]
        exact List.getElem_mem _
      have hsnoc := picks_snoc l xs i hlt
      have htake : ∀ y, y ∈ xs.take (i + 1) → y ∈ xs.take i ∨ y = x := fun y hy => by
        rw [List.take_add_one, List.mem_append, List.getElem?_eq_getElem hlt] at hy
        rcases hy with hy | hy
        · exact .inl hy
        · rw [hx]
          unfold rd
          rw [Int.toNat_natCast, List.getD_eq_getElem?_getD, List.getElem?_eq_getElem hlt]
          exact .inr (by simpa using hy)
      rw [← hx] at hxc hsnoc
      clear hx
      have HSN := Lib.hid hsnoc
      have HMEM := Lib.hid hmem
      have HTK := Lib.hid htake
      clear hsnoc hmem htake
      by_cases hin : 0 ≤ x ∧ x < (l.length : Int)
      · obtain ⟨hx0, hxl⟩ := hin
        have hx0n : ¬ x < 0 := by omega
        have hxln : ¬ (l.length : Int) ≤ x := by omega
        obtain ⟨ad, B0, b0, B1, b1, B2, b2, rfl, q0, q1, q2, -, g0, -, g1, -, g2⟩ := at_T52 (Kd.C_below H0.out HB.out) x hx0 hxl
        obtain ⟨y, hy⟩ : ∃ y, y = rd_T52 l x := ⟨_, rfl⟩
        have hok : okS y := by
          rw [hy]
          apply HS.out
          unfold rd_T52
          rw [List.getD_eq_getElem?_getD, List.getElem?_eq_getElem (by omega)]
          exact List.getElem_mem _
        rw [← hy] at q0 q1 q2 g0 g1 g2
        have HY := Lib.hid hy
        have G0 := Aside0.mk g0
        have G1 := Aside0.mk g1
        have G2 := Aside0.mk g2
        obtain ⟨k0, k1, k2⟩ := hok
        have K0 := Lib.hid k0
        have K1 := Lib.hid k1
        have K2 := Lib.hid k2
        clear hy g0 g1 g2 k0 k1 k2
        obtain ⟨P0, hP0⟩ : ∃ P0, P0 = picks l (xs.take i) := ⟨_, rfl⟩
        have hPl : (P0.length + 1) * 72 ≤ 140737488355328 := by rw [hP0]; unfold picks; rw [List.length_map, List.length_take]; omega
        rw [← hP0] at HR
        have HP := Lib.hid hP0
        obtain ⟨A3, c3, rfl, -, -⟩ := Kd.R_reads HR.out
        clear hP0
        go_wp2_with (first
          | (go_at_call 21; refine (copy_ok B0 B1 B2 b0 b1 b2 y _ G0.out G1.out G2.out K0.out K1.out K2.out).mono ?_; rintro e w2 ⟨v0, v1, v2, rfl, r0, r1, r2, hb⟩; obtain ⟨V0, m0, rfl, -, -⟩ := Kd.R_reads r0; obtain ⟨V1, m1, rfl, -, -⟩ := Kd.R_reads r1; obtain ⟨V2, m2, rfl, -, -⟩ := Kd.R_reads r2; have HB2 := Aside0.mk hb; have HPM := Aside0.mk (elem_made (w0 := w) HB.out r0 r1 r2); have HR2 := Aside0.mk (Kd.R_below HR.out hb); have HNO := Lib.hid (fresh_no HR.out); have hsz := Nat.le_trans HB.out.size hb.size; clear r0 r1 r2 hb)
          | ((with_reducible refine gate_builtin (b := .append) (xs := #[.tmp 28, .tmp 35]) rfl ?_); at_builtin; go_loud (refine Kd.R_append k52 (w0 := w2) w.heap.size rfl (.tmp 28) (.tmp 35) 49 52 z52V 72 rfl Try.underlying49 info52 rfl (by decide) (by omega) (.slice A3 P0.length c3) P0 y [.slice V0 y.f0.length m0, .slice V1 y.f1.length m1, .slice V2 y.f2.length m2] (fun _ => True) (fun k => wo.heap.size ≤ k) rfl rfl HPM.out HNO.out (fun _ _ => trivial) HR2.out (Below.refl _ _) hsz hPl ?_); intro v135 w13 ho hb3 hg hat; have HR3 := Aside0.mk ho; have HB3 := Aside0.mk (below_step HB.out HB2.out); have HB4 := Aside0.mk hb3; clear ho hb3 hg hat))
        go_roundw
        case rel => exact ⟨i + 1, by omega, by go_num, ⟨fun z hz => by rcases HTK.out z hz with h | h; exact HIN.out z h; rw [h]; exact ⟨hx0, hxl⟩⟩, ⟨by rw [HSN.out, ← HP.out, ← HY.out]; exact HR3.out⟩, ⟨below_two HB3.out HB4.out⟩⟩
        case measure => simp [intOf]; omega
      · have HNI := Lib.hid hin
        clear hin
        by_cases hxneg : x < 0
        · go_wp2
          go_ret2
          exact ⟨HB.out, .inr ⟨fun hall => HNI.out (hall x HMEM.out), rfl⟩⟩
        · have hxge : (l.length : Int) ≤ x := by have := HNI.out; omega
          go_wp2
          go_ret2
          exact ⟨HB.out, .inr ⟨fun hall => HNI.out (hall x HMEM.out), rfl⟩⟩
    · go_wp2
      go_ret2
      have h1 := HR.out
      have h2 := HIN.out
      rw [List.take_of_length_le (by omega)] at h1 h2
      exact ⟨HB.out, .inl ⟨h2, _, rfl, h1⟩⟩
end Go.Proofs.Ytojimoebbinhdaa.P
