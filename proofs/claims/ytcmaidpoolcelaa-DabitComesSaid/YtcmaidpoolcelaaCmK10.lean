/- Bits shared twice by the law's own numbers: the law's text, walked. -/
import Derived.Deep.DeepCutAuto
import Derived.Deep.RegionLaw
import Derived.Deep.RegionWith
import Derived.Outline
import Derived.Test.YtcmaidpoolcelaaCmPx0
import Derived.WalkSpells
import Derived.Test.YtcmaidpoolcelaaCmK0
import Derived.Test.YtcmaidpoolcelaaCmK1
import Derived.Test.YtcmaidpoolcelaaCmK2
import Derived.Test.YtcmaidpoolcelaaCmK3
import Derived.Test.YtcmaidpoolcelaaCmK4
import Derived.Test.YtcmaidpoolcelaaCmK5
import Derived.Test.YtcmaidpoolcelaaCmK6
import Derived.Test.YtcmaidpoolcelaaCmK7
import Derived.Test.YtcmaidpoolcelaaCmK8
import Derived.Test.YtcmaidpoolcelaaCmK9
import Derived.Test.YtcmaidpoolcelaaCmSh
namespace Go.Proofs.Ytcmaidpoolcelaa.P
open Go.RowKit Go.Proofs.YtcmaidpoolcelaaW.PrintWords Go.Proofs.YtcmaidpoolcelaaW.PrintLast Go.Proofs.YtcmaidpoolcelaaW.PrintMore
set_option linter.unusedVariables false
set_option linter.unusedSimpArgs false

abbrev ba10_0 : Array Bool := #[false, false, false, false, false, false, false, false, false, false, false, false, false, false, false, false, false, false, false, false, false, false, false, false, false, false, false, false, false, false, false, false, false, false, false, false, false, false, false, false, false, false, false]
abbrev ba10_1 : Array Bool := #[true, false, false, false, false, false, false, false, false, false, false, false, false, false, false, false, false, false, false, false, false, false, false, false, false, false, false, false, false, false, false, false, false, false, false, false, false, false, false, false, false, false, false]
abbrev ba10_2 : Array Bool := #[true, true, false, false, false, false, false, false, false, false, false, false, false, false, false, false, false, false, false, false, false, false, false, false, false, false, false, false, false, false, false, false, false, false, false, false, false, false, false, false, false, false, false]
abbrev ba10_3 : Array Bool := #[true, true, true, false, false, false, false, false, false, false, false, false, false, false, false, false, false, false, false, false, false, false, false, false, false, false, false, false, false, false, false, false, false, false, false, false, false, false, false, false, false, false, false]
abbrev ba10_4 : Array Bool := #[true, true, true, true, false, false, false, false, false, false, false, false, false, false, false, false, false, false, false, false, false, false, false, false, false, false, false, false, false, false, false, false, false, false, false, false, false, false, false, false, false, false, false]
abbrev ba10_5 : Array Bool := #[true, true, true, true, true, false, false, false, false, false, false, false, false, false, false, false, false, false, false, false, false, false, false, false, false, false, false, false, false, false, false, false, false, false, false, false, false, false, false, false, false, false, false]
abbrev ba10_6 : Array Bool := #[true, true, true, true, true, true, false, false, false, false, false, false, false, false, false, false, false, false, false, false, false, false, false, false, false, false, false, false, false, false, false, false, false, false, false, false, false, false, false, false, false, false, false]
abbrev ba10_7 : Array Bool := #[true, true, true, true, true, true, true, false, false, false, false, false, false, false, false, false, false, false, false, false, false, false, false, false, false, false, false, false, false, false, false, false, false, false, false, false, false, false, false, false, false, false, false]
abbrev ba10_8 : Array Bool := #[true, true, true, true, true, true, true, true, false, false, false, false, false, false, false, false, false, false, false, false, false, false, false, false, false, false, false, false, false, false, false, false, false, false, false, false, false, false, false, false, false, false, false]
abbrev ba10_9 : Array Bool := #[true, true, true, true, true, true, true, true, true, false, false, false, false, false, false, false, false, false, false, false, false, false, false, false, false, false, false, false, false, false, false, false, false, false, false, false, false, false, false, false, false, false, false]
abbrev ba10_10 : Array Bool := #[true, true, true, true, true, true, true, true, true, true, false, false, false, false, false, false, false, false, false, false, false, false, false, false, false, false, false, false, false, false, false, false, false, false, false, false, false, false, false, false, false, false, false]
abbrev ba10_11 : Array Bool := #[true, true, true, true, true, true, true, true, true, true, true, false, false, false, false, false, false, false, false, false, false, false, false, false, false, false, false, false, false, false, false, false, false, false, false, false, false, false, false, false, false, false, false]
abbrev ba10_12 : Array Bool := #[true, true, true, true, true, true, true, true, true, true, true, true, false, false, false, false, false, false, false, false, false, false, false, false, false, false, false, false, false, false, false, false, false, false, false, false, false, false, false, false, false, false, false]
abbrev ba10_13 : Array Bool := #[true, true, true, true, true, true, true, true, true, true, true, true, true, false, false, false, false, false, false, false, false, false, false, false, false, false, false, false, false, false, false, false, false, false, false, false, false, false, false, false, false, false, false]
abbrev ba10_14 : Array Bool := #[true, true, true, true, true, true, true, true, true, true, true, true, true, true, false, false, false, false, false, false, false, false, false, false, false, false, false, false, false, false, false, false, false, false, false, false, false, false, false, false, false, false, false]
abbrev ba10_15 : Array Bool := #[true, true, true, true, true, true, true, true, true, true, true, true, true, true, true, false, false, false, false, false, false, false, false, false, false, false, false, false, false, false, false, false, false, false, false, false, false, false, false, false, false, false, false]
abbrev ba10_16 : Array Bool := #[true, true, true, true, true, true, true, true, true, true, true, true, true, true, true, true, false, false, false, false, false, false, false, false, false, false, false, false, false, false, false, false, false, false, false, false, false, false, false, false, false, false, false]
abbrev ba10_17 : Array Bool := #[true, true, true, true, true, true, true, true, true, true, true, true, true, true, true, true, true, false, false, false, false, false, false, false, false, false, false, false, false, false, false, false, false, false, false, false, false, false, false, false, false, false, false]
abbrev ba10_18 : Array Bool := #[true, true, true, true, true, true, true, true, true, true, true, true, true, true, true, true, true, true, false, false, false, false, false, false, false, false, false, false, false, false, false, false, false, false, false, false, false, false, false, false, false, false, false]
abbrev ba10_19 : Array Bool := #[true, true, true, true, true, true, true, true, true, true, true, true, true, true, true, true, true, true, true, false, false, false, false, false, false, false, false, false, false, false, false, false, false, false, false, false, false, false, false, false, false, false, false]
abbrev ba10_20 : Array Bool := #[true, true, true, true, true, true, true, true, true, true, true, true, true, true, true, true, true, true, true, true, false, false, false, false, false, false, false, false, false, false, false, false, false, false, false, false, false, false, false, false, false, false, false]
abbrev ba10_21 : Array Bool := #[true, true, true, true, true, true, true, true, true, true, true, true, true, true, true, true, true, true, true, true, true, false, false, false, false, false, false, false, false, false, false, false, false, false, false, false, false, false, false, false, false, false, false]
abbrev ba10_22 : Array Bool := #[true, true, true, true, true, true, true, true, true, true, true, true, true, true, true, true, true, true, true, true, true, true, false, false, false, false, false, false, false, false, false, false, false, false, false, false, false, false, false, false, false, false, false]
abbrev ba10_23 : Array Bool := #[true, true, true, true, true, true, true, true, true, true, true, true, true, true, true, true, true, true, true, true, true, true, true, false, false, false, false, false, false, false, false, false, false, false, false, false, false, false, false, false, false, false, false]
abbrev ba10_24 : Array Bool := #[true, true, true, true, true, true, true, true, true, true, true, true, true, true, true, true, true, true, true, true, true, true, true, true, false, false, false, false, false, false, false, false, false, false, false, false, false, false, false, false, false, false, false]
abbrev ba10_25 : Array Bool := #[true, true, true, true, true, true, true, true, true, true, true, true, true, true, true, true, true, true, true, true, true, true, true, true, true, false, false, false, false, false, false, false, false, false, false, false, false, false, false, false, false, false, false]
abbrev ba10_26 : Array Bool := #[true, true, true, true, true, true, true, true, true, true, true, true, true, true, true, true, true, true, true, true, true, true, true, true, true, true, false, false, false, false, false, false, false, false, false, false, false, false, false, false, false, false, false]
abbrev ba10_27 : Array Bool := #[true, true, true, true, true, true, true, true, true, true, true, true, true, true, true, true, true, true, true, true, true, true, true, true, true, true, true, false, false, false, false, false, false, false, false, false, false, false, false, false, false, false, false]
abbrev ba10_28 : Array Bool := #[true, true, true, true, true, true, true, true, true, true, true, true, true, true, true, true, true, true, true, true, true, true, true, true, true, true, true, true, false, false, false, false, false, false, false, false, false, false, false, false, false, false, false]
abbrev ba10_29 : Array Bool := #[true, true, true, true, true, true, true, true, true, true, true, true, true, true, true, true, true, true, true, true, true, true, true, true, true, true, true, true, true, false, false, false, false, false, false, false, false, false, false, false, false, false, false]
abbrev ba10_30 : Array Bool := #[true, true, true, true, true, true, true, true, true, true, true, true, true, true, true, true, true, true, true, true, true, true, true, true, true, true, true, true, true, true, false, false, false, false, false, false, false, false, false, false, false, false, false]
abbrev ba10_31 : Array Bool := #[true, true, true, true, true, true, true, true, true, true, true, true, true, true, true, true, true, true, true, true, true, true, true, true, true, true, true, true, true, true, true, false, false, false, false, false, false, false, false, false, false, false, false]
abbrev ba10_32 : Array Bool := #[true, true, true, true, true, true, true, true, true, true, true, true, true, true, true, true, true, true, true, true, true, true, true, true, true, true, true, true, true, true, true, true, false, false, false, false, false, false, false, false, false, false, false]
abbrev ba10_33 : Array Bool := #[true, true, true, true, true, true, true, true, true, true, true, true, true, true, true, true, true, true, true, true, true, true, true, true, true, true, true, true, true, true, true, true, true, false, false, false, false, false, false, false, false, false, false]
abbrev ba10_34 : Array Bool := #[true, true, true, true, true, true, true, true, true, true, true, true, true, true, true, true, true, true, true, true, true, true, true, true, true, true, true, true, true, true, true, true, true, true, false, false, false, false, false, false, false, false, false]
abbrev ba10_35 : Array Bool := #[true, true, true, true, true, true, true, true, true, true, true, true, true, true, true, true, true, true, true, true, true, true, true, true, true, true, true, true, true, true, true, true, true, true, true, false, false, false, false, false, false, false, false]
abbrev ba10_36 : Array Bool := #[true, true, true, true, true, true, true, true, true, true, true, true, true, true, true, true, true, true, true, true, true, true, true, true, true, true, true, true, true, true, true, true, true, true, true, true, false, false, false, false, false, false, false]
abbrev ba10_37 : Array Bool := #[true, true, true, true, true, true, true, true, true, true, true, true, true, true, true, true, true, true, true, true, true, true, true, true, true, true, true, true, true, true, true, true, true, true, true, true, true, false, false, false, false, false, false]
abbrev ba10_38 : Array Bool := #[true, true, true, true, true, true, true, true, true, true, true, true, true, true, true, true, true, true, true, true, true, true, true, true, true, true, true, true, true, true, true, true, true, true, true, true, true, true, false, false, false, false, false]
abbrev ba10_39 : Array Bool := #[true, true, true, true, true, true, true, true, true, true, true, true, true, true, true, true, true, true, true, true, true, true, true, true, true, true, true, true, true, true, true, true, true, true, true, true, true, true, true, false, false, false, false]
abbrev ba10_40 : Array Bool := #[true, true, true, true, true, true, true, true, true, true, true, true, true, true, true, true, true, true, true, true, true, true, true, true, true, true, true, true, true, true, true, true, true, true, true, true, true, true, true, true, false, false, false]
abbrev ba10_41 : Array Bool := #[true, true, true, true, true, true, true, true, true, true, true, true, true, true, true, true, true, true, true, true, true, true, true, true, true, true, true, true, true, true, true, true, true, true, true, true, true, true, true, true, true, false, false]
abbrev ba10_42 : Array Bool := #[true, true, true, true, true, true, true, true, true, true, true, true, true, true, true, true, true, true, true, true, true, true, true, true, true, true, true, true, true, true, true, true, true, true, true, true, true, true, true, true, true, true, false]
abbrev ba10_43 : Array Bool := #[true, true, true, true, true, true, true, true, true, true, true, true, true, true, true, true, true, true, true, true, true, true, true, true, true, true, true, true, true, true, true, true, true, true, true, true, true, true, true, true, true, true, true]

/-! ### trefoillaw25_DabitComes: function 6 -/
def bit01 (b : Bool) : Int := if b = true then 1 else 0
def shs (l : List Bool) : List S26 := l.map fun b => ⟨[bit01 b], [], []⟩
theorem number_f (b : Bool) : trefoillaw25_number.f b = some [bit01 b] := by cases b <;> rfl
def trefoillaw25_DabitComes.l0 : Nat → Int → List Bool → List Bool → List Int → Nat → List Int → List Int → Option (List Int × List Int)
 | 0, _, _, _, _, _, _, _ => none
 | k + 1, c, l1, l2, l3, i, M, D => if i < l1.length then (trefoilref03_Fit.f k c (rd l3 (i : Int))).bind fun m => (trefoilref03_Sub.f k c (bit01 (rdOf false l1 (i : Int) && rdOf false l2 (i : Int))) m).bind fun d => trefoillaw25_DabitComes.l0 k c l1 l2 l3 (i + 1) (M ++ [m]) (D ++ [d]) else some (M, D)
def trefoillaw25_DabitComes.l1 : Nat → Int → List S26 → List S26 → Nat → Option Bool
 | 0, _, _, _, _ => none
 | k + 1, c, F, G, i => if i < F.length then (trefoilref25_Right.f k 4 c 0 0 0 (rd_T26 F (i : Int)).f0 (rd_T26 F (i : Int)).f1 (rd_T26 F (i : Int)).f2 (rd_T26 G (i : Int)).f0 (rd_T26 G (i : Int)).f1 (rd_T26 G (i : Int)).f2).bind fun a => (if a = true then (dabit_Right.f k 4 c 0 0 0 (rd_T26 F (i : Int)).f0 (rd_T26 F (i : Int)).f1 (rd_T26 F (i : Int)).f2 (rd_T26 G (i : Int)).f0 (rd_T26 G (i : Int)).f1 (rd_T26 G (i : Int)).f2).bind fun b => (if b = true then (if 0 < (rd_T26 F (i : Int)).f1.length ∧ 0 < (rd_T26 G (i : Int)).f1.length then (trefoilref03_Add.f k c (rd (rd_T26 F (i : Int)).f1 0) (rd (rd_T26 G (i : Int)).f1 0)).bind fun x => (if x > 1 then some false else trefoillaw25_DabitComes.l1 k c F G (i + 1)) else none) else some false) else some false) else trefoillaw25_awake.f k
def trefoillaw25_DabitComes.f (k : Nat) (c : Int) (l1 l2 : List Bool) (l3 : List Int) : Option Bool :=
  (trefoilref25_Check.f k 4 c 0 0 0 (l1.length : Int)).bind fun t => if t = 0 ∧ l2.length = l1.length ∧ l1.length ≤ l3.length then (if l1.length ≤ 1000 then (trefoillaw25_DabitComes.l0 k c l1 l2 l3 0 [] []).bind fun p => (dabit_Finish.f k 4 c 0 0 0 (shs l1) p.1).bind fun F => (dabit_Finish.f k 4 c 0 0 0 (shs l2) p.2).bind fun G => (if F.2 = 0 ∧ G.2 = 0 ∧ F.1.length = l1.length ∧ G.1.length = l1.length then trefoillaw25_DabitComes.l1 k c F.1 G.1 0 else some false) else none) else trefoillaw25_awake.f k
/-- a row of one number: where it lies -/
theorem one_form {W : World} {b : Nat} {ok : Nat → Prop} {u : Value} {x : Int} (h : Kd.R (Kd.int .u64) 35 W b ok u [x]) : ∃ g c, u = .slice (some ⟨g, 0, none⟩) 1 c ∧ W.cell? ⟨g, 0, none⟩ = some (.int .u64 x) := by
  obtain ⟨g, c, rfl, -⟩ := Kd.R_form h (by simp)
  obtain ⟨A, c', e, -, hc⟩ := Kd.R_reads h
  injection e with e1 e2 e3
  subst e1
  obtain ⟨ad, e, z⟩ := Kd.at_int hc 0 (by omega) (by simp)
  obtain rfl := Option.some.inj e
  exact ⟨g, c, rfl, by simpa [Addr.add, rd] using z⟩
theorem add_none (a : Addr) : a.add 0 = a := by cases a; unfold Addr.add; split <;> simp_all
theorem shs_snoc (l : List Bool) (i : Nat) (h : i < l.length) : shs (l.take i) ++ [⟨[bit01 (rdOf false l (i : Int))], [], []⟩] = shs (l.take (i + 1)) := by
  unfold shs rdOf
  rw [List.take_succ_eq_append_getElem h, List.map_append, Int.toNat_natCast, List.getD_eq_getElem?_getD, List.getElem?_eq_getElem h]
  rfl

def com_T22 : Bool × List (List Nat × List Nat) := (true, [([], []), ([], []), ([], []), ([1, 2], [1, 2]), ([3], [3]), ([], []), ([], []), ([5, 6], [5, 6]), ([7], [7]), ([0, 4, 8], [0, 4, 8]), ([9], [9]), ([10, 9], [10]), ([11], [11]), ([11], [11]), ([11], [11]), ([13, 14, 11], [11, 13, 14]), ([15, 11], [11, 15]), ([11], [11]), ([11], [11]), ([17, 18, 11], [11, 17, 18]), ([19, 11], [11, 19]), ([12, 16, 20, 11, 11], [11, 12, 16, 20]), ([21, 11], [11, 21]), ([11, 22], [11, 22]), ([23, 21], [23]), ([24], [24]), ([24], [24]), ([24], [24]), ([26, 27, 24], [24, 26, 27]), ([28, 24], [24, 28]), ([29, 24], [24, 29]), ([30, 24], [24, 30]), ([31, 24], [24, 31]), ([24], [24]), ([24], [24]), ([33, 34, 24], [24, 33, 34]), ([35, 24], [24, 35]), ([36, 24], [24, 36]), ([37, 24], [24, 37]), ([38, 24], [24, 38]), ([25, 32, 39, 24, 24], [24, 25, 32, 39]), ([40, 24], [24, 40]), ([24, 41], [24, 41])])
def com_B22 : List Nat := [0, 0, 0, 6, 14, 0, 0, 96, 224, 511, 1023, 2047, 4095, 4095, 4095, 28671, 61439, 4095, 4095, 397311, 921599, 2097151, 4194303, 8388607, 16777215, 33554431, 33554431, 33554431, 234881023, 503316479, 1040187391, 2113929215, 4261412863, 33554431, 33554431, 25803358207, 60163096575, 128882573311, 266321526783, 541199433727, 1099511627775, 2199023255551, 4398046511103]
theorem com_tab22 : rtab .any (opsOf Try.f6 22) = com_T22 := by kernel_rfl
theorem com_bits22 : waitsOk com_T22.2 com_B22 = true := by kernel_rfl

set_option maxHeartbeats 8000000 in
set_option maxRecDepth 100000 in
theorem trefoillaw25_DabitComes.calls (k : Nat) (a0 : Int) (A1 : Option Addr) (c1 : Nat) (l1 : List Bool) (A2 : Option Addr) (c2 : Nat) (l2 : List Bool) (A3 : Option Addr) (c3 : Nat) (l3 : List Int) (r : Bool) (w : World) (hr1 : Kd.C Kd.bool w A1 l1.length l1) (hc1 : l1.length ≤ c1) (hr2 : Kd.C Kd.bool w A2 l2.length l2) (hc2 : l2.length ≤ c2) (hr3 : Kd.C (Kd.int .u64) w A3 l3.length l3) (hc3 : l3.length ≤ c3) (h : trefoillaw25_DabitComes.f k a0 l1 l2 l3 = some r) :
  Calls Try.prog 6 #[.int .i64 a0, .slice A1 l1.length c1, .slice A2 l2.length c2, .slice A3 l3.length c3] w fun e w' => e = .returned (.bool r) ∧ Below w.heap.size w w' := by
  have HR1 := Aside0.mk hr1
  have HR2 := Aside0.mk hr2
  have HR3 := Aside0.mk hr3
  have HK := Aside0.mk (heap_alloc_new w (.cells #[.int .i64 4, .int .i64 a0, .int .i64 0, .int .i64 0, .int .i64 0] 23))
  have HB0 := Aside0.mk (below_alloc (Below.refl w.heap.size w) (.cells #[.int .i64 4, .int .i64 a0, .int .i64 0, .int .i64 0, .int .i64 0] 23))
  clear hr1 hr2 hr3
  obtain ⟨t, ht, H⟩ := Option.bind_eq_some_iff.mp h
  clear h
  have HT := Lib.hid ht
  clear ht
  have HTC := Lib.hid (fun W => trefoilref25_Check.calls k 4 a0 0 0 0 (l1.length : Int) t W HT.out)
  by_cases hg : t = 0 ∧ l2.length = l1.length ∧ l1.length ≤ l3.length
  case neg =>
    replace H := (if_neg hg).symm.trans H
    have HA := Lib.hid H
    have HAC := Lib.hid (fun W => trefoillaw25_awake.calls k r W HA.out)
    have h6 : (t != 0) = true ∨ ((t != 0) = false ∧ ((l2.length : Int) != (l1.length : Int)) = true) ∨ ((t != 0) = false ∧ ((l2.length : Int) != (l1.length : Int)) = false ∧ ((l3.length : Int) < (l1.length : Int))) := by
      rw [bne_iff_ne, bne_iff_ne, bne_eq_false_iff_eq, bne_eq_false_iff_eq]
      omega
    clear H hg
    rcases h6 with h6 | ⟨h6, h7⟩ | ⟨h6, h7, h8⟩
    all_goals
      go_enter Try.func6, Try.ntmps6
      go_wp2_with (first
        | (go_at_call 24; (with_reducible refine (HTC.out _).mono ?_); rintro e w1 ⟨rfl, hb⟩; have HB1 := Aside0.mk (below_step HB0.out hb); clear hb)
        | (go_at_call 14; (with_reducible refine (HAC.out _).mono ?_); rintro e w2 ⟨rfl, hb⟩; have HB2 := Aside0.mk (below_step HB1.out hb); clear hb))
      go_ret
      exact ⟨rfl, HB2.out⟩
  case pos =>
    replace H := (if_pos hg).symm.trans H
    obtain ⟨ht0, hl2, hl3⟩ := hg
    have h1000 : l1.length ≤ 1000 := by
      by_cases hq : l1.length ≤ 1000
      · exact hq
      · rw [if_neg hq] at H; cases H
    rw [if_pos h1000] at H
    obtain ⟨⟨MM, DD⟩, hL, H⟩ := Option.bind_eq_some_iff.mp H
    have HS : Hid (trefoillaw25_DabitComes.l0 k a0 l1 l2 l3 0 [] [] = some (MM, DD)) := Lib.hid hL
    have HH := Lib.hid H
    clear H hL
    have b1 : (t != 0) = false := by rw [bne_eq_false_iff_eq]; exact ht0
    have b2 : ((l2.length : Int) != (l1.length : Int)) = false := by rw [bne_eq_false_iff_eq]; omega
    have b3 : ¬ ((l3.length : Int) < (l1.length : Int)) := by omega
    have b4 : decide (l3.length < l1.length) = false := by rw [decide_eq_false_iff_not]; omega
    have HL2 := Lib.hid hl2
    have HL3 := Lib.hid hl3
    clear hl2 ht0
    go_enter Try.func6, Try.ntmps6
    go_wp2_with (go_at_call 24; (with_reducible refine (HTC.out _).mono ?_); rintro e w1 ⟨rfl, hb⟩; have HB1 := Aside0.mk (below_step HB0.out hb); have k1 := blk_below HK.out hb; have K1 := Aside0.mk k1; clear hb k1)
    go_loopw [11, 12, 13, 14, 15] (fun v11 v12 v13 v14 v15 wr => ∃ (i q : Nat) (M D : List Int), i ≤ l1.length ∧ v15 = .int .i64 (i : Int) ∧ Aside0 (Four w1.heap.size wr v11 v12 v13 v14 (shs (l1.take i)) (shs (l2.take i)) M D) ∧ Aside0 (Below w1.heap.size w1 wr) ∧ Aside0 (M.length = i ∧ D.length = i) ∧ Hid (trefoillaw25_DabitComes.l0 q a0 l1 l2 l3 i M D = some (MM, DD))) (fun _ _ _ _ v15 _ => l1.length - (intOf v15).toNat)
    case atStart => exact ⟨0, k, [], [], by omega, rfl, ⟨four_nil _ _⟩, ⟨Below.refl _ _⟩, ⟨rfl, rfl⟩, HS⟩
    case round =>
      clear HS
      obtain ⟨i, q, M, D, hi, rfl, HF, HBR, HL, HQ⟩ := hrel
      obtain ⟨q, rfl⟩ : ∃ p, q = p + 1 := by
        cases q with
        | zero => have := HQ.out; cases this
        | succ p => exact ⟨p, rfl⟩
      have H := HQ.out
      clear HQ
      simp only [trefoillaw25_DabitComes.l0] at H
      by_cases hlt : i < l1.length
      case pos =>
        rw [if_pos hlt] at H
        obtain ⟨m, hm, H⟩ := Option.bind_eq_some_iff.mp H
        obtain ⟨d, hd, H⟩ := Option.bind_eq_some_iff.mp H
        have HQ := Lib.hid H
        clear H
        have i0 : (0 : Int) ≤ (i : Int) := by omega
        have i1 : (i : Int) < (l1.length : Int) := by omega
        have i2 : (i : Int) < (l2.length : Int) := by have := HL2.out; omega
        have i3 : (i : Int) < (l3.length : Int) := by have := HL3.out; omega
        obtain ⟨ad1, rfl, x1⟩ := Kd.at_bool HR1.out (i : Int) i0 i1
        obtain ⟨ad2, rfl, x2⟩ := Kd.at_bool HR2.out (i : Int) i0 i2
        obtain ⟨ad3, rfl, x3⟩ := Kd.at_int HR3.out (i : Int) i0 i3
        rw [Int.toNat_natCast] at x1 x2 x3
        have e1 := shs_snoc l1 i hlt
        have e2 := shs_snoc l2 i (by have := HL2.out; omega)
        have hs1 : (shs (l1.take i)).length < 1954687338268 := by unfold shs; rw [List.length_map, List.length_take]; omega
        have hs2 : (shs (l2.take i)).length < 1954687338268 := by unfold shs; rw [List.length_map, List.length_take]; omega
        have hs3 : M.length < 17592186044416 := by have := HL.out; omega
        have hs4 : D.length < 17592186044416 := by have := HL.out; omega
        obtain ⟨p1, hp1⟩ : ∃ b, rdOf false l1 (i : Int) = b := ⟨_, rfl⟩
        obtain ⟨p2, hp2⟩ : ∃ b, rdOf false l2 (i : Int) = b := ⟨_, rfl⟩
        rw [hp1] at x1 e1 hd
        rw [hp2] at x2 e2 hd
        have X1 := Lib.hid (fun W (hb : Below w.heap.size w W) => pw_cell_below hb x1)
        have X2 := Lib.hid (fun W (hb : Below w.heap.size w W) => pw_cell_below hb x2)
        have X3 := Lib.hid (fun W (hb : Below w.heap.size w W) => pw_cell_below hb x3)
        have E1 := Lib.hid e1
        have E2 := Lib.hid e2
        have HM := Lib.hid hm
        have HD := Lib.hid hd
        have HN := Lib.hid (fun (b : Bool) (W : World) => trefoillaw25_number.calls b [bit01 b] W (number_f b))
        have HFit := Lib.hid (fun W => trefoilref03_Fit.calls q a0 (rd l3 (i : Int)) m W HM.out)
        have HSZ := Aside0.mk HBR.out.size
        clear hlt hm hd x1 x2 x3 e1 e2 hp1 hp2 HT HTC
        have y1 := X1.out wr (below_step HB1.out HBR.out)
        go_upto_region 11 with (first
          | (go_at_call 25; (with_reducible refine (HN.out _ _).mono ?_); rintro e w5 ⟨u5, rfl, hu, hb⟩; obtain ⟨Au, cu, rfl, -, -⟩ := Kd.R_reads hu; have HU := Aside0.mk hu; have HB5 := Aside0.mk hb; clear hu hb)
          | ((with_reducible refine gate_builtin (b := .append) (xs := #[.tmp 48, .tmp 55]) rfl ?_); (try (refine gate_guard (by rfl) ?_; dsimp only)); at_builtin; refine four_app1 (w0 := w1) HF.out HB5.out HU.out HSZ.out (below_step HBR.out HB5.out) hs1 rfl (.tmp 48) (.tmp 55) rfl rfl rfl ?_; intro v6 w6 hF hB; rw [E1.out] at hF; have HF6 := Aside0.mk hF; have HB6 := Aside0.mk hB; have y2 := X2.out _ (below_step HB1.out hB); clear hF hB))
        clear HU HB5 HF y1
        go_upto_region 12 with (first
          | (go_at_call 25; (with_reducible refine (HN.out _ _).mono ?_); rintro e w5 ⟨u5, rfl, hu, hb⟩; obtain ⟨Au, cu, rfl, -, -⟩ := Kd.R_reads hu; have HU := Aside0.mk hu; have HB5 := Aside0.mk hb; clear hu hb)
          | ((with_reducible refine gate_builtin (b := .append) (xs := #[.tmp 57, .tmp 64]) rfl ?_); (try (refine gate_guard (by rfl) ?_; dsimp only)); at_builtin; refine four_app2 (w0 := w1) HF6.out HB5.out HU.out HB6.out.size (below_step HB6.out HB5.out) hs2 rfl (.tmp 57) (.tmp 64) rfl rfl rfl ?_; intro v7 w7 hF hB; rw [E2.out] at hF; have HF7 := Aside0.mk hF; have HB7 := Aside0.mk hB; have y3 := X3.out _ (below_step HB1.out hB); clear hF hB))
        clear HU HB5 HF6 y2
        go_upto_region 13 with (go_at_call 26; (with_reducible refine (HFit.out _).mono ?_); rintro e w8 ⟨rfl, hd⟩; obtain ⟨n8, rfl⟩ := hd; have HF8 := Aside0.mk (four_below HF7.out (pw_below_drewN (Below.refl _ _) n8)); have HB8 := Aside0.mk (pw_below_drewN HB7.out n8))
        go_upto_region 14 with ((with_reducible refine gate_builtin (b := .append) (xs := #[.tmp 72, .tmp 74]) rfl ?_); (try (refine gate_guard (by rfl) ?_; dsimp only)); at_builtin; refine four_app3 (w0 := w1) HF8.out HB8.out.size HB8.out hs3 rfl (.tmp 72) (.tmp 74) rfl rfl rfl ?_; intro v9 w9 hF hB; have HF9 := Aside0.mk hF; have HB9 := Aside0.mk hB; have y4 := X1.out _ (below_step HB1.out hB); have y5 := X2.out _ (below_step HB1.out hB); clear hF hB)
        clear HF7 HF8 HB6 HB7 HB8 y3
        have HSub := Lib.hid (fun W => trefoilref03_Sub.calls q a0 (bit01 (p1 && p2)) m d W HD.out)
        have HLL := Lib.hid (show (M ++ [m]).length = i + 1 ∧ (D ++ [d]).length = i + 1 by have := HL.out; rw [List.length_append, List.length_append]; simp; omega)
        cases p1
        all_goals
          simp only [Bool.true_and, Bool.false_and] at HSub
          go_wp2_with (first
            | (go_at_call 25; (with_reducible refine (HN.out _ _).mono ?_); rintro e w5 ⟨u5, rfl, hu, hb⟩; obtain ⟨gu, cu, rfl, zu⟩ := one_form hu; have HB5 := Aside0.mk hb; clear hu hb)
            | (go_at_call 27; go_loud ((with_reducible refine (HSub.out _).mono ?_); rintro e w10 ⟨rfl, hd⟩; obtain ⟨n10, rfl⟩ := hd; have HF10 := Aside0.mk (four_below (four_below HF9.out HB5.out) (pw_below_drewN (Below.refl _ _) n10)); have HB10 := Aside0.mk (pw_below_drewN (below_step HB9.out HB5.out) n10)))
            | ((with_reducible refine gate_builtin (b := .append) (xs := #[.tmp 76, .tmp 93]) rfl ?_); (try (refine gate_guard (by rfl) ?_; dsimp only)); at_builtin; refine four_app4 (w0 := w1) HF10.out HB10.out.size HB10.out hs4 rfl (.tmp 76) (.tmp 93) rfl rfl rfl ?_; intro v11 w11 hF hB; have HF11 := Aside0.mk hF; have HB11 := Aside0.mk hB; clear hF hB))
          go_roundw
          all_goals first
            | (case rel => exact ⟨i + 1, q, M ++ [m], D ++ [d], by omega, by go_num, ⟨HF11.out⟩, ⟨HB11.out⟩, ⟨HLL.out⟩, HQ⟩)
            | (case measure => simp [intOf]; omega)
      case neg =>
        rw [if_neg hlt] at H
        obtain rfl : i = l1.length := by omega
        simp only [Option.some.injEq, Prod.mk.injEq] at H
        obtain ⟨rfl, rfl⟩ := H
        rw [List.take_of_length_le (Nat.le_refl _), List.take_of_length_le (by have := HL2.out; omega)] at HF
        have HBW := Aside0.mk (below_step HB1.out HBR.out)
        have k2 := blk_below K1.out HBR.out
        have K2 := Aside0.mk k2
        obtain ⟨g0, g1, g2, g3, g4, -⟩ := cells_5 k2
        obtain ⟨P1, P2, P3, P4, -, -, -, s1, s2, s3, s4⟩ := HF.out
        obtain ⟨B1, d1, rfl, hd1, hC1⟩ := Kd.S_reads s1
        obtain ⟨B2, d2, rfl, hd2, hC2⟩ := Kd.S_reads s2
        obtain ⟨B3, d3, rfl, hd3, hC3⟩ := Kd.R_reads s3
        obtain ⟨B4, d4, rfl, hd4, hC4⟩ := Kd.R_reads s4
        have HC1 := Aside0.mk hC1
        have HC2 := Aside0.mk hC2
        have HC3 := Aside0.mk hC3
        have HC4 := Aside0.mk hC4
        obtain ⟨⟨F, fe⟩, hf, H⟩ := Option.bind_eq_some_iff.mp HH.out
        obtain ⟨⟨G, ge⟩, hge, H⟩ := Option.bind_eq_some_iff.mp H
        have HFf := Lib.hid hf
        have HGf := Lib.hid hge
        have HF1 := Lib.hid (fun W hb => dabit_Finish.calls k 4 a0 0 0 0 B1 d1 (shs l1) B3 d3 M F fe W (Kd.C_below HC1.out hb) hd1 (Kd.C_below HC3.out hb) hd3 HFf.out)
        have HG1 := Lib.hid (fun W hb => dabit_Finish.calls k 4 a0 0 0 0 B2 d2 (shs l2) B4 d4 D G ge W (Kd.C_below HC2.out hb) hd2 (Kd.C_below HC4.out hb) hd4 HGf.out)
        have HI := Lib.hid H
        clear H hf hge HH s1 s2 s3 s4 hC1 hC2 hC3 hC4 k2 hlt HF HT HTC
        have tok : True := trivial
        by_cases hok : fe = 0 ∧ ge = 0 ∧ F.length = l1.length ∧ G.length = l1.length
        case neg =>
          have H := (if_neg hok).symm.trans HI.out
          simp only [Option.some.injEq] at H
          subst H
          have h6 : (fe != 0) = true ∨ ((fe != 0) = false ∧ (ge != fe) = true) ∨ ((fe != 0) = false ∧ (ge != fe) = false ∧ ((F.length : Int) != (l1.length : Int)) = true) ∨ ((fe != 0) = false ∧ (ge != fe) = false ∧ ((F.length : Int) != (l1.length : Int)) = false ∧ ((G.length : Int) != (l1.length : Int)) = true) := by
            simp only [bne_iff_ne, bne_eq_false_iff_eq, ne_eq]
            omega
          clear hok HI
          rcases h6 with h6 | ⟨h6, h7⟩ | ⟨h6, h7, h8⟩ | ⟨h6, h7, h8, h9⟩
          all_goals
            go_wp2_with (first
              | (go_at_call 28; have _t := tok; (with_reducible refine (HF1.out _ (Below.refl _ _)).mono ?_); rintro e w2 ⟨v2, rfl, ho, hb⟩; obtain ⟨A5, c5, rfl, -, -⟩ := Kd.S_reads ho; have HB2 := Aside0.mk hb; obtain ⟨m0, m1, m2, m3, m4, -⟩ := cells_5 (blk_below K2.out hb); clear ho hb tok)
              | (go_at_call 28; (with_reducible refine (HG1.out _ HB2.out).mono ?_); rintro e w3 ⟨v3, rfl, ho, hb⟩; obtain ⟨A6, c6, rfl, -, -⟩ := Kd.S_reads ho; have HB3 := Aside0.mk (below_step HB2.out hb); clear ho hb))
            go_ret
            exact ⟨rfl, below_step HBW.out HB3.out⟩
        case pos =>
          have H := (if_pos hok).symm.trans HI.out
          obtain ⟨r1, r2, r3, r4⟩ := hok
          have HS : Hid (trefoillaw25_DabitComes.l1 k a0 F G 0 = some r) := Lib.hid H
          have q1 : (fe != 0) = false := by rw [bne_eq_false_iff_eq]; exact r1
          have q2 : (ge != fe) = false := by rw [bne_eq_false_iff_eq]; omega
          have q3 : ((F.length : Int) != (l1.length : Int)) = false := by rw [bne_eq_false_iff_eq]; omega
          have q4 : ((G.length : Int) != (l1.length : Int)) = false := by rw [bne_eq_false_iff_eq]; omega
          have R3 := Lib.hid r3
          have R4 := Lib.hid r4
          clear H HI r1 r2 r3 r4
          go_wp2_with (first
              | (go_at_call 28; have _t := tok; (with_reducible refine (HF1.out _ (Below.refl _ _)).mono ?_); rintro e w2 ⟨v2, rfl, ho, hb⟩; have HB2 := Aside0.mk hb; obtain ⟨A5, c5, rfl, hc5, hS5⟩ := Kd.S_reads ho; have HS5 := Aside0.mk hS5; obtain ⟨m0, m1, m2, m3, m4, -⟩ := cells_5 (blk_below K2.out hb); clear ho hb tok hS5)
              | (go_at_call 28; (with_reducible refine (HG1.out _ HB2.out).mono ?_); rintro e w3 ⟨v3, rfl, ho, hb⟩; obtain ⟨A6, c6, rfl, hc6, hS6⟩ := Kd.S_reads ho; have HS6 := Aside0.mk hS6; have HS5b := Aside0.mk (Kd.C_below HS5.out hb); have HB3 := Aside0.mk (below_step HB2.out hb); clear ho hb hS6))
          have HBW3 := Aside0.mk (below_step HBW.out HB3.out)
          have K3 := Aside0.mk (blk_below K2.out HB3.out)
          clear HS5 HF1 HG1 HFf HGf HC1 HC2 HC3 HC4 m0 m1 m2 m3 m4 g0 g1 g2 g3 g4
          obtain ⟨wm, rfl⟩ : ∃ x : World, x = wr := ⟨_, rfl⟩
          go_loopw [21] (fun v21 wr => ∃ (i q : Nat), i ≤ l1.length ∧ v21 = .int .i64 (i : Int) ∧ Aside0 (Below w3.heap.size w3 wr) ∧ Hid (trefoillaw25_DabitComes.l1 q a0 F G i = some r)) (fun v21 _ => l1.length - (intOf v21).toNat)
          case atStart => exact ⟨0, k, by omega, rfl, ⟨Below.refl _ _⟩, HS⟩
          case round =>
            clear HS
            obtain ⟨i, q, hi, rfl, HBR2, HQ⟩ := hrel
            obtain ⟨q, rfl⟩ : ∃ p, q = p + 1 := by
              cases q with
              | zero => have := HQ.out; cases this
              | succ p => exact ⟨p, rfl⟩
            have H := HQ.out
            clear HQ
            simp only [trefoillaw25_DabitComes.l1] at H
            by_cases hlt : i < F.length
            case neg =>
              rw [if_neg hlt] at H
              obtain rfl : i = l1.length := by have := R3.out; omega
              have HA := Lib.hid H
              have HAC := Lib.hid (fun W => trefoillaw25_awake.calls q r W HA.out)
              clear H hlt
              go_wp2_with (go_at_call 14; (with_reducible refine (HAC.out _).mono ?_); rintro e w4 ⟨rfl, hb⟩; have HB4 := Aside0.mk (below_step HBR2.out hb); clear hb)
              go_ret
              exact ⟨rfl, below_step HBW3.out HB4.out⟩
            case pos =>
              rw [if_pos hlt] at H
              have hl1 : i < l1.length := by have := R3.out; omega
              have i0 : (0 : Int) ≤ (i : Int) := by omega
              have i1 : (i : Int) < (l1.length : Int) := by omega
              have i2 : (i : Int) < (F.length : Int) := by omega
              have i3 : (i : Int) < (G.length : Int) := by have := R3.out; have := R4.out; omega
              obtain ⟨a, ha, H⟩ := Option.bind_eq_some_iff.mp H
              have HA := Lib.hid ha
              clear ha
              obtain ⟨ad, fa0, fn0, fa1, fn1, fa2, fn2, rfl, x0, x1, x2, h00, j00, h01, j01, h02, j02⟩ := at_T26 HS5b.out (i : Int) i0 i2
              obtain ⟨ae, ga0, gn0, ga1, gn1, ga2, gn2, rfl, x3, x4, x5, h10, j10, h11, j11, h12, j12⟩ := at_T26 HS6.out (i : Int) i0 i3
              rw [Int.toNat_natCast] at x0 x1 x2 x3 x4 x5
              have X0 := Lib.hid x0
              have X1 := Lib.hid x1
              have X2 := Lib.hid x2
              have X3 := Lib.hid x3
              have X4 := Lib.hid x4
              have X5 := Lib.hid x5
              have J00 := Aside0.mk j00
              have J01 := Aside0.mk j01
              have J02 := Aside0.mk j02
              have J10 := Aside0.mk j10
              have J11 := Aside0.mk j11
              have J12 := Aside0.mk j12
              have HRa := Lib.hid (fun W hb => trefoilref25_Right.calls q 4 a0 0 0 0 fa0 fn0 _ fa1 fn1 _ fa2 fn2 _ ga0 gn0 _ ga1 gn1 _ ga2 gn2 _ a W (Kd.C_below J00.out hb) h00 (Kd.C_below J01.out hb) h01 (Kd.C_below J02.out hb) h02 (Kd.C_below J10.out hb) h10 (Kd.C_below J11.out hb) h11 (Kd.C_below J12.out hb) h12 HA.out)
              have D0 := Aside0.mk (below_drew HBR2.out)
              have HW := Lib.hid H
              clear H x0 x1 x2 x3 x4 x5 j00 j01 j02 j10 j11 j12 hlt hl1
              cases a
              case false =>
                have H := HW.out
                rw [if_neg (by decide)] at H
                obtain rfl := Option.some.inj H
                clear H HW
                obtain ⟨z0, z1, z2, z3, z4, -⟩ := cells_5 (blk_below K3.out HBR2.out)
                have zx0 := pw_cell_below HBR2.out X0.out
                have zx1 := pw_cell_below HBR2.out X1.out
                have zx2 := pw_cell_below HBR2.out X2.out
                have zx3 := pw_cell_below HBR2.out X3.out
                have zx4 := pw_cell_below HBR2.out X4.out
                have zx5 := pw_cell_below HBR2.out X5.out
                go_upto_region 22 with fail
                refine start_ (n := 43) (S := fun w' => w'.cell? ⟨w.heap.size, 0, none⟩ = some (.int .i64 4) ∧ w'.cell? ⟨w.heap.size, 1, none⟩ = some (.int .i64 a0) ∧ w'.cell? ⟨w.heap.size, 2, none⟩ = some (.int .i64 0) ∧ w'.cell? ⟨w.heap.size, 3, none⟩ = some (.int .i64 0) ∧ w'.cell? ⟨w.heap.size, 4, none⟩ = some (.int .i64 0) ∧ w'.cell? (ad.add (i * 3)) = some (.slice fa0 (rd_T26 F (i : Int)).f0.length fn0) ∧ w'.cell? ⟨(ad.add (i * 3)).block, (ad.add (i * 3)).off + 1, none⟩ = some (.slice fa1 (rd_T26 F (i : Int)).f1.length fn1) ∧ w'.cell? ⟨(ad.add (i * 3)).block, (ad.add (i * 3)).off + 2, none⟩ = some (.slice fa2 (rd_T26 F (i : Int)).f2.length fn2) ∧ w'.cell? (ae.add (i * 3)) = some (.slice ga0 (rd_T26 G (i : Int)).f0.length gn0) ∧ w'.cell? ⟨(ae.add (i * 3)).block, (ae.add (i * 3)).off + 1, none⟩ = some (.slice ga1 (rd_T26 G (i : Int)).f1.length gn1) ∧ w'.cell? ⟨(ae.add (i * 3)).block, (ae.add (i * 3)).off + 2, none⟩ = some (.slice ga2 (rd_T26 G (i : Int)).f2.length gn2)) (ds := []) ba10_0 (zq42) rfl rfl ⟨z0, z1, z2, z3, z4, zx0, zx1, zx2, zx3, zx4, zx5⟩ (fun hHeld => ?_); refine with_tabW com_tab22 com_bits22 (fun HT_ HW_ => ?_)
                refine take_ (i := 0) (N := some 133) (v := ?_) (a' := ?_) ba10_1 rfl rfl (take_ofW HT_.out HW_.out (zq42)) (fun _ _ _ h => h) (Or.inl ⟨by rfl, ?_⟩) hHeld ?_ ?_
                rotate_left
                ·rintro w' ⟨s0, s1, s2, s3, s4, s5, s6, s7, s8, s9, s10⟩
                 go_simp
                 with_reducible rfl
                rotate_left
                exact zs1
                refine pure_ (i := 1) (N := some 134) (v := ?_) (a' := ?_) ba10_2 rfl rfl (any_of HT_.out (zq42)) (fun _ _ _ h => h) (Or.inl ⟨by rfl, ?_⟩) ?_ ?_; rotate_left; exact zs0; rotate_left; exact zs1
                refine pure_ (i := 2) (N := some 135) (v := ?_) (a' := ?_) ba10_3 rfl rfl (any_of HT_.out (zq42)) (fun _ _ _ h => h) (Or.inl ⟨by rfl, ?_⟩) ?_ ?_; rotate_left; exact zs0; rotate_left; exact zs1
                refine pure_ (i := 3) (N := some 136) (v := ?_) (a' := ?_) ba10_4 rfl rfl (any_of HT_.out (zq42)) (fun _ _ _ h => h) (Or.inl ⟨by rfl, ?_⟩) ?_ ?_; rotate_left; exact zs0; rotate_left; exact zs1
                refine take_ (i := 4) (N := some 137) (v := ?_) (a' := ?_) ba10_5 rfl rfl (take_ofW HT_.out HW_.out (zq42)) (fun _ _ _ h => h) (Or.inl ⟨by rfl, ?_⟩) hHeld ?_ ?_
                rotate_left
                ·rintro w' ⟨s0, s1, s2, s3, s4, s5, s6, s7, s8, s9, s10⟩
                 go_simp
                 with_reducible rfl
                rotate_left
                exact zs1
                refine pure_ (i := 5) (N := some 138) (v := ?_) (a' := ?_) ba10_6 rfl rfl (any_of HT_.out (zq42)) (fun _ _ _ h => h) (Or.inl ⟨by rfl, ?_⟩) ?_ ?_; rotate_left; exact zs0; rotate_left; exact zs1
                refine pure_ (i := 6) (N := some 139) (v := ?_) (a' := ?_) ba10_7 rfl rfl (any_of HT_.out (zq42)) (fun _ _ _ h => h) (Or.inl ⟨by rfl, ?_⟩) ?_ ?_; rotate_left; exact zs0; rotate_left; exact zs1
                refine pure_ (i := 7) (N := some 140) (v := ?_) (a' := ?_) ba10_8 rfl rfl (any_of HT_.out (zq42)) (fun _ _ _ h => h) (Or.inl ⟨by rfl, ?_⟩) ?_ ?_; rotate_left; exact zs0; rotate_left; exact zs1
                refine take_ (i := 8) (N := some 141) (v := ?_) (a' := ?_) ba10_9 rfl rfl (take_ofW HT_.out HW_.out (zq42)) (fun _ _ _ h => h) (Or.inl ⟨by rfl, ?_⟩) hHeld ?_ ?_
                rotate_left
                ·rintro w' ⟨s0, s1, s2, s3, s4, s5, s6, s7, s8, s9, s10⟩
                 go_simp
                 with_reducible rfl
                rotate_left
                exact zs1
                refine one_ (i := 9) (N := some 142) ba10_10 rfl rfl (one_of HT_.out (zq42)) (by decide) (fun K hK => ?_)
                refine goes_ Try.func16 (zq42) rfl #[.agg #[.int .i64 4, .int .i64 a0, .int .i64 0, .int .i64 0, .int .i64 0], .agg #[.slice fa0 (rd_T26 F (i : Int)).f0.length fn0, .slice fa1 (rd_T26 F (i : Int)).f1.length fn1, .slice fa2 (rd_T26 F (i : Int)).f2.length fn2], .agg #[.slice ga0 (rd_T26 G (i : Int)).f0.length gn0, .slice ga1 (rd_T26 G (i : Int)).f1.length gn1, .slice ga2 (rd_T26 G (i : Int)).f2.length gn2]] (by rfl) rfl rfl (zq32) ?_
                with_reducible refine (HRa.out _ D0.out).mono ?_
                rintro e w5 ⟨rfl, hb⟩
                refine ⟨_, rfl, ?_⟩
                have HB5 := Aside0.mk (below_step D0.out hb)
                obtain ⟨p0, p1, p2, p3, p4, -⟩ := cells_5 (blk_below K3.out HB5.out)
                refine hK.out _ _ ⟨p0, p1, p2, p3, p4, pw_cell_below HB5.out X0.out, pw_cell_below HB5.out X1.out, pw_cell_below HB5.out X2.out, pw_cell_below HB5.out X3.out, pw_cell_below HB5.out X4.out, pw_cell_below HB5.out X5.out⟩ (fun hHeld => ?_)
                clear hK K
                refine norm_ (a' := ?_) ?_ ?_
                rotate_left
                ·show Act.put _ (some 142) _ = _
                 simp only [Act.put, List.setIfInBounds_toArray, List.set_cons_zero, List.set_cons_succ, i64_w, i32_w]
                 rfl
                refine pure_ (i := 10) (N := some 143) (v := ?_) (a' := ?_) ba10_11 rfl rfl (any_of HT_.out (zq42)) (fun _ _ _ h => h) (Or.inl ⟨by rfl, ?_⟩) ?_ ?_; rotate_left; exact zs0; rotate_left; exact zs1
                refine pure_ (i := 11) (N := some 144) (v := ?_) (a' := ?_) ba10_12 rfl rfl (any_of HT_.out (zq42)) (fun _ _ _ h => h) (Or.inl ⟨by rfl, ?_⟩) ?_ ?_; rotate_left; exact zs0; rotate_left; exact zs1
                refine pure_ (i := 12) (N := some 145) (v := undef) (a' := ?_) ba10_13 rfl rfl (any_of HT_.out (zq42)) (fun _ _ _ h => h) (Or.inr ⟨by rfl, rfl⟩) ?_ ?_
                rotate_left
                exact zs1
                refine pure_ (i := 13) (N := some 146) (v := undef) (a' := ?_) ba10_14 rfl rfl (any_of HT_.out (zq42)) (fun _ _ _ h => h) (Or.inr ⟨by rfl, rfl⟩) ?_ ?_
                rotate_left
                exact zs1
                refine pure_ (i := 14) (N := some 147) (v := undef) (a' := ?_) ba10_15 rfl rfl (any_of HT_.out (zq42)) (fun _ _ _ h => h) (Or.inr ⟨by rfl, rfl⟩) ?_ ?_
                rotate_left
                exact zs1
                refine pure_ (i := 15) (N := some 148) (v := undef) (a' := ?_) ba10_16 rfl rfl (any_of HT_.out (zq42)) (fun _ _ _ h => h) (Or.inr ⟨by rfl, rfl⟩) ?_ ?_
                rotate_left
                exact zs1
                refine pure_ (i := 16) (N := some 149) (v := undef) (a' := ?_) ba10_17 rfl rfl (any_of HT_.out (zq42)) (fun _ _ _ h => h) (Or.inr ⟨by rfl, rfl⟩) ?_ ?_
                rotate_left
                exact zs1
                refine pure_ (i := 17) (N := some 150) (v := undef) (a' := ?_) ba10_18 rfl rfl (any_of HT_.out (zq42)) (fun _ _ _ h => h) (Or.inr ⟨by rfl, rfl⟩) ?_ ?_
                rotate_left
                exact zs1
                refine pure_ (i := 18) (N := some 151) (v := undef) (a' := ?_) ba10_19 rfl rfl (any_of HT_.out (zq42)) (fun _ _ _ h => h) (Or.inr ⟨by rfl, rfl⟩) ?_ ?_
                rotate_left
                exact zs1
                refine pure_ (i := 19) (N := some 152) (v := undef) (a' := ?_) ba10_20 rfl rfl (any_of HT_.out (zq42)) (fun _ _ _ h => h) (Or.inr ⟨by rfl, rfl⟩) ?_ ?_
                rotate_left
                exact zs1
                refine pure_ (i := 20) (N := some 153) (v := undef) (a' := ?_) ba10_21 rfl rfl (any_of HT_.out (zq42)) (fun _ _ _ h => h) (Or.inr ⟨by rfl, rfl⟩) ?_ ?_
                rotate_left
                exact zs1
                refine pure_ (i := 21) (N := some 154) (v := undef) (a' := ?_) ba10_22 rfl rfl (any_of HT_.out (zq42)) (fun _ _ _ h => h) (Or.inr ⟨by rfl, rfl⟩) ?_ ?_
                rotate_left
                exact zs1
                refine pure_ (i := 22) (N := some 155) (v := undef) (a' := ?_) ba10_23 rfl rfl (any_of HT_.out (zq42)) (fun _ _ _ h => h) (Or.inr ⟨by rfl, rfl⟩) ?_ ?_
                rotate_left
                exact zs1
                refine pure_ (i := 23) (N := some 156) (v := ?_) (a' := ?_) ba10_24 rfl rfl (any_of HT_.out (zq42)) (fun _ _ _ h => h) (Or.inl ⟨by rfl, ?_⟩) ?_ ?_; rotate_left; exact zs0; rotate_left; exact zs1
                refine pure_ (i := 24) (N := some 157) (v := ?_) (a' := ?_) ba10_25 rfl rfl (any_of HT_.out (zq42)) (fun _ _ _ h => h) (Or.inl ⟨by rfl, ?_⟩) ?_ ?_; rotate_left; exact zs0; rotate_left; exact zs1
                refine pure_ (i := 25) (N := some 158) (v := undef) (a' := ?_) ba10_26 rfl rfl (any_of HT_.out (zq42)) (fun _ _ _ h => h) (Or.inr ⟨by rfl, rfl⟩) ?_ ?_
                rotate_left
                exact zs1
                refine pure_ (i := 26) (N := some 159) (v := undef) (a' := ?_) ba10_27 rfl rfl (any_of HT_.out (zq42)) (fun _ _ _ h => h) (Or.inr ⟨by rfl, rfl⟩) ?_ ?_
                rotate_left
                exact zs1
                refine pure_ (i := 27) (N := some 160) (v := undef) (a' := ?_) ba10_28 rfl rfl (any_of HT_.out (zq42)) (fun _ _ _ h => h) (Or.inr ⟨by rfl, rfl⟩) ?_ ?_
                rotate_left
                exact zs1
                refine pure_ (i := 28) (N := some 161) (v := undef) (a' := ?_) ba10_29 rfl rfl (any_of HT_.out (zq42)) (fun _ _ _ h => h) (Or.inr ⟨by rfl, rfl⟩) ?_ ?_
                rotate_left
                exact zs1
                refine pure_ (i := 29) (N := some 162) (v := undef) (a' := ?_) ba10_30 rfl rfl (any_of HT_.out (zq42)) (fun _ _ _ h => h) (Or.inr ⟨by rfl, rfl⟩) ?_ ?_
                rotate_left
                exact zs1
                refine pure_ (i := 30) (N := some 163) (v := undef) (a' := ?_) ba10_31 rfl rfl (any_of HT_.out (zq42)) (fun _ _ _ h => h) (Or.inr ⟨by rfl, rfl⟩) ?_ ?_
                rotate_left
                exact zs1
                refine pure_ (i := 31) (N := some 164) (v := undef) (a' := ?_) ba10_32 rfl rfl (any_of HT_.out (zq42)) (fun _ _ _ h => h) (Or.inr ⟨by rfl, rfl⟩) ?_ ?_
                rotate_left
                exact zs1
                refine pure_ (i := 32) (N := some 165) (v := undef) (a' := ?_) ba10_33 rfl rfl (any_of HT_.out (zq42)) (fun _ _ _ h => h) (Or.inr ⟨by rfl, rfl⟩) ?_ ?_
                rotate_left
                exact zs1
                refine pure_ (i := 33) (N := some 166) (v := undef) (a' := ?_) ba10_34 rfl rfl (any_of HT_.out (zq42)) (fun _ _ _ h => h) (Or.inr ⟨by rfl, rfl⟩) ?_ ?_
                rotate_left
                exact zs1
                refine pure_ (i := 34) (N := some 167) (v := undef) (a' := ?_) ba10_35 rfl rfl (any_of HT_.out (zq42)) (fun _ _ _ h => h) (Or.inr ⟨by rfl, rfl⟩) ?_ ?_
                rotate_left
                exact zs1
                refine pure_ (i := 35) (N := some 168) (v := undef) (a' := ?_) ba10_36 rfl rfl (any_of HT_.out (zq42)) (fun _ _ _ h => h) (Or.inr ⟨by rfl, rfl⟩) ?_ ?_
                rotate_left
                exact zs1
                refine pure_ (i := 36) (N := some 169) (v := undef) (a' := ?_) ba10_37 rfl rfl (any_of HT_.out (zq42)) (fun _ _ _ h => h) (Or.inr ⟨by rfl, rfl⟩) ?_ ?_
                rotate_left
                exact zs1
                refine pure_ (i := 37) (N := some 170) (v := undef) (a' := ?_) ba10_38 rfl rfl (any_of HT_.out (zq42)) (fun _ _ _ h => h) (Or.inr ⟨by rfl, rfl⟩) ?_ ?_
                rotate_left
                exact zs1
                refine pure_ (i := 38) (N := some 171) (v := undef) (a' := ?_) ba10_39 rfl rfl (any_of HT_.out (zq42)) (fun _ _ _ h => h) (Or.inr ⟨by rfl, rfl⟩) ?_ ?_
                rotate_left
                exact zs1
                refine pure_ (i := 39) (N := some 172) (v := undef) (a' := ?_) ba10_40 rfl rfl (any_of HT_.out (zq42)) (fun _ _ _ h => h) (Or.inr ⟨by rfl, rfl⟩) ?_ ?_
                rotate_left
                exact zs1
                refine pure_ (i := 40) (N := some 173) (v := undef) (a' := ?_) ba10_41 rfl rfl (any_of HT_.out (zq42)) (fun _ _ _ h => h) (Or.inr ⟨by rfl, rfl⟩) ?_ ?_
                rotate_left
                exact zs1
                refine pure_ (i := 41) (N := some 174) (v := undef) (a' := ?_) ba10_42 rfl rfl (any_of HT_.out (zq42)) (fun _ _ _ h => h) (Or.inr ⟨by rfl, rfl⟩) ?_ ?_
                rotate_left
                exact zs1
                refine pure_ (i := 42) (N := some 175) (v := ?_) (a' := ?_) ba10_43 rfl rfl (any_of HT_.out (zq42)) (fun _ _ _ h => h) (Or.inl ⟨by rfl, ?_⟩) ?_ ?_; rotate_left; exact zs0; rotate_left; exact zs1
                refine done_ (done_of HT_.out (zq42)) ?_
                try go_wp2
                go_ret
                exact ⟨rfl, below_step HBW3.out HB5.out⟩
              case true =>
                have H := HW.out
                rw [if_pos rfl] at H
                obtain ⟨b, hb', H⟩ := Option.bind_eq_some_iff.mp H
                have HB := Lib.hid hb'
                have HRb := Lib.hid (fun W hb => dabit_Right.calls q 4 a0 0 0 0 fa0 fn0 _ fa1 fn1 _ fa2 fn2 _ ga0 gn0 _ ga1 gn1 _ ga2 gn2 _ b W (Kd.C_below J00.out hb) h00 (Kd.C_below J01.out hb) h01 (Kd.C_below J02.out hb) h02 (Kd.C_below J10.out hb) h10 (Kd.C_below J11.out hb) h11 (Kd.C_below J12.out hb) h12 HB.out)
                have HV := Lib.hid H
                clear hb' H HW
                cases b
                case false =>
                  have H := HV.out
                  rw [if_neg (by decide)] at H
                  obtain rfl := Option.some.inj H
                  clear H HV
                  obtain ⟨z0, z1, z2, z3, z4, -⟩ := cells_5 (blk_below K3.out HBR2.out)
                  have zx0 := pw_cell_below HBR2.out X0.out
                  have zx1 := pw_cell_below HBR2.out X1.out
                  have zx2 := pw_cell_below HBR2.out X2.out
                  have zx3 := pw_cell_below HBR2.out X3.out
                  have zx4 := pw_cell_below HBR2.out X4.out
                  have zx5 := pw_cell_below HBR2.out X5.out
                  go_upto_region 22 with fail
                  refine start_ (n := 43) (S := fun w' => w'.cell? ⟨w.heap.size, 0, none⟩ = some (.int .i64 4) ∧ w'.cell? ⟨w.heap.size, 1, none⟩ = some (.int .i64 a0) ∧ w'.cell? ⟨w.heap.size, 2, none⟩ = some (.int .i64 0) ∧ w'.cell? ⟨w.heap.size, 3, none⟩ = some (.int .i64 0) ∧ w'.cell? ⟨w.heap.size, 4, none⟩ = some (.int .i64 0) ∧ w'.cell? (ad.add (i * 3)) = some (.slice fa0 (rd_T26 F (i : Int)).f0.length fn0) ∧ w'.cell? ⟨(ad.add (i * 3)).block, (ad.add (i * 3)).off + 1, none⟩ = some (.slice fa1 (rd_T26 F (i : Int)).f1.length fn1) ∧ w'.cell? ⟨(ad.add (i * 3)).block, (ad.add (i * 3)).off + 2, none⟩ = some (.slice fa2 (rd_T26 F (i : Int)).f2.length fn2) ∧ w'.cell? (ae.add (i * 3)) = some (.slice ga0 (rd_T26 G (i : Int)).f0.length gn0) ∧ w'.cell? ⟨(ae.add (i * 3)).block, (ae.add (i * 3)).off + 1, none⟩ = some (.slice ga1 (rd_T26 G (i : Int)).f1.length gn1) ∧ w'.cell? ⟨(ae.add (i * 3)).block, (ae.add (i * 3)).off + 2, none⟩ = some (.slice ga2 (rd_T26 G (i : Int)).f2.length gn2)) (ds := []) ba10_0 (zq42) rfl rfl ⟨z0, z1, z2, z3, z4, zx0, zx1, zx2, zx3, zx4, zx5⟩ (fun hHeld => ?_); refine with_tabW com_tab22 com_bits22 (fun HT_ HW_ => ?_)
                  refine take_ (i := 0) (N := some 133) (v := ?_) (a' := ?_) ba10_1 rfl rfl (take_ofW HT_.out HW_.out (zq42)) (fun _ _ _ h => h) (Or.inl ⟨by rfl, ?_⟩) hHeld ?_ ?_
                  rotate_left
                  ·rintro w' ⟨s0, s1, s2, s3, s4, s5, s6, s7, s8, s9, s10⟩
                   go_simp
                   with_reducible rfl
                  rotate_left
                  exact zs1
                  refine pure_ (i := 1) (N := some 134) (v := ?_) (a' := ?_) ba10_2 rfl rfl (any_of HT_.out (zq42)) (fun _ _ _ h => h) (Or.inl ⟨by rfl, ?_⟩) ?_ ?_; rotate_left; exact zs0; rotate_left; exact zs1
                  refine pure_ (i := 2) (N := some 135) (v := ?_) (a' := ?_) ba10_3 rfl rfl (any_of HT_.out (zq42)) (fun _ _ _ h => h) (Or.inl ⟨by rfl, ?_⟩) ?_ ?_; rotate_left; exact zs0; rotate_left; exact zs1
                  refine pure_ (i := 3) (N := some 136) (v := ?_) (a' := ?_) ba10_4 rfl rfl (any_of HT_.out (zq42)) (fun _ _ _ h => h) (Or.inl ⟨by rfl, ?_⟩) ?_ ?_; rotate_left; exact zs0; rotate_left; exact zs1
                  refine take_ (i := 4) (N := some 137) (v := ?_) (a' := ?_) ba10_5 rfl rfl (take_ofW HT_.out HW_.out (zq42)) (fun _ _ _ h => h) (Or.inl ⟨by rfl, ?_⟩) hHeld ?_ ?_
                  rotate_left
                  ·rintro w' ⟨s0, s1, s2, s3, s4, s5, s6, s7, s8, s9, s10⟩
                   go_simp
                   with_reducible rfl
                  rotate_left
                  exact zs1
                  refine pure_ (i := 5) (N := some 138) (v := ?_) (a' := ?_) ba10_6 rfl rfl (any_of HT_.out (zq42)) (fun _ _ _ h => h) (Or.inl ⟨by rfl, ?_⟩) ?_ ?_; rotate_left; exact zs0; rotate_left; exact zs1
                  refine pure_ (i := 6) (N := some 139) (v := ?_) (a' := ?_) ba10_7 rfl rfl (any_of HT_.out (zq42)) (fun _ _ _ h => h) (Or.inl ⟨by rfl, ?_⟩) ?_ ?_; rotate_left; exact zs0; rotate_left; exact zs1
                  refine pure_ (i := 7) (N := some 140) (v := ?_) (a' := ?_) ba10_8 rfl rfl (any_of HT_.out (zq42)) (fun _ _ _ h => h) (Or.inl ⟨by rfl, ?_⟩) ?_ ?_; rotate_left; exact zs0; rotate_left; exact zs1
                  refine take_ (i := 8) (N := some 141) (v := ?_) (a' := ?_) ba10_9 rfl rfl (take_ofW HT_.out HW_.out (zq42)) (fun _ _ _ h => h) (Or.inl ⟨by rfl, ?_⟩) hHeld ?_ ?_
                  rotate_left
                  ·rintro w' ⟨s0, s1, s2, s3, s4, s5, s6, s7, s8, s9, s10⟩
                   go_simp
                   with_reducible rfl
                  rotate_left
                  exact zs1
                  refine one_ (i := 9) (N := some 142) ba10_10 rfl rfl (one_of HT_.out (zq42)) (by decide) (fun K hK => ?_)
                  refine goes_ Try.func16 (zq42) rfl #[.agg #[.int .i64 4, .int .i64 a0, .int .i64 0, .int .i64 0, .int .i64 0], .agg #[.slice fa0 (rd_T26 F (i : Int)).f0.length fn0, .slice fa1 (rd_T26 F (i : Int)).f1.length fn1, .slice fa2 (rd_T26 F (i : Int)).f2.length fn2], .agg #[.slice ga0 (rd_T26 G (i : Int)).f0.length gn0, .slice ga1 (rd_T26 G (i : Int)).f1.length gn1, .slice ga2 (rd_T26 G (i : Int)).f2.length gn2]] (by rfl) rfl rfl (zq32) ?_
                  with_reducible refine (HRa.out _ D0.out).mono ?_
                  rintro e w5 ⟨rfl, hb⟩
                  refine ⟨_, rfl, ?_⟩
                  have HB5 := Aside0.mk (below_step D0.out hb)
                  obtain ⟨p0, p1, p2, p3, p4, -⟩ := cells_5 (blk_below K3.out HB5.out)
                  refine hK.out _ _ ⟨p0, p1, p2, p3, p4, pw_cell_below HB5.out X0.out, pw_cell_below HB5.out X1.out, pw_cell_below HB5.out X2.out, pw_cell_below HB5.out X3.out, pw_cell_below HB5.out X4.out, pw_cell_below HB5.out X5.out⟩ (fun hHeld => ?_)
                  clear hK K
                  refine norm_ (a' := ?_) ?_ ?_
                  rotate_left
                  ·show Act.put _ (some 142) _ = _
                   simp only [Act.put, List.setIfInBounds_toArray, List.set_cons_zero, List.set_cons_succ, i64_w, i32_w]
                   rfl
                  refine pure_ (i := 10) (N := some 143) (v := ?_) (a' := ?_) ba10_11 rfl rfl (any_of HT_.out (zq42)) (fun _ _ _ h => h) (Or.inl ⟨by rfl, ?_⟩) ?_ ?_; rotate_left; exact zs0; rotate_left; exact zs1
                  refine pure_ (i := 11) (N := some 144) (v := ?_) (a' := ?_) ba10_12 rfl rfl (any_of HT_.out (zq42)) (fun _ _ _ h => h) (Or.inl ⟨by rfl, ?_⟩) ?_ ?_; rotate_left; exact zs0; rotate_left; exact zs1
                  refine take_ (i := 12) (N := some 145) (v := ?_) (a' := ?_) ba10_13 rfl rfl (take_ofW HT_.out HW_.out (zq42)) (fun _ _ _ h => h) (Or.inl ⟨by rfl, ?_⟩) hHeld ?_ ?_
                  rotate_left
                  ·rintro w' ⟨s0, s1, s2, s3, s4, s5, s6, s7, s8, s9, s10⟩
                   go_simp
                   with_reducible rfl
                  rotate_left
                  exact zs1
                  refine pure_ (i := 13) (N := some 146) (v := ?_) (a' := ?_) ba10_14 rfl rfl (any_of HT_.out (zq42)) (fun _ _ _ h => h) (Or.inl ⟨by rfl, ?_⟩) ?_ ?_; rotate_left; exact zs0; rotate_left; exact zs1
                  refine pure_ (i := 14) (N := some 147) (v := ?_) (a' := ?_) ba10_15 rfl rfl (any_of HT_.out (zq42)) (fun _ _ _ h => h) (Or.inl ⟨by rfl, ?_⟩) ?_ ?_; rotate_left; exact zs0; rotate_left; exact zs1
                  refine pure_ (i := 15) (N := some 148) (v := ?_) (a' := ?_) ba10_16 rfl rfl (any_of HT_.out (zq42)) (fun _ _ _ h => h) (Or.inl ⟨by rfl, ?_⟩) ?_ ?_; rotate_left; exact zs0; rotate_left; exact zs1
                  refine take_ (i := 16) (N := some 149) (v := ?_) (a' := ?_) ba10_17 rfl rfl (take_ofW HT_.out HW_.out (zq42)) (fun _ _ _ h => h) (Or.inl ⟨by rfl, ?_⟩) hHeld ?_ ?_
                  rotate_left
                  ·rintro w' ⟨s0, s1, s2, s3, s4, s5, s6, s7, s8, s9, s10⟩
                   go_simp
                   with_reducible rfl
                  rotate_left
                  exact zs1
                  refine pure_ (i := 17) (N := some 150) (v := ?_) (a' := ?_) ba10_18 rfl rfl (any_of HT_.out (zq42)) (fun _ _ _ h => h) (Or.inl ⟨by rfl, ?_⟩) ?_ ?_; rotate_left; exact zs0; rotate_left; exact zs1
                  refine pure_ (i := 18) (N := some 151) (v := ?_) (a' := ?_) ba10_19 rfl rfl (any_of HT_.out (zq42)) (fun _ _ _ h => h) (Or.inl ⟨by rfl, ?_⟩) ?_ ?_; rotate_left; exact zs0; rotate_left; exact zs1
                  refine pure_ (i := 19) (N := some 152) (v := ?_) (a' := ?_) ba10_20 rfl rfl (any_of HT_.out (zq42)) (fun _ _ _ h => h) (Or.inl ⟨by rfl, ?_⟩) ?_ ?_; rotate_left; exact zs0; rotate_left; exact zs1
                  refine take_ (i := 20) (N := some 153) (v := ?_) (a' := ?_) ba10_21 rfl rfl (take_ofW HT_.out HW_.out (zq42)) (fun _ _ _ h => h) (Or.inl ⟨by rfl, ?_⟩) hHeld ?_ ?_
                  rotate_left
                  ·rintro w' ⟨s0, s1, s2, s3, s4, s5, s6, s7, s8, s9, s10⟩
                   go_simp
                   with_reducible rfl
                  rotate_left
                  exact zs1
                  refine one_ (i := 21) (N := some 154) ba10_22 rfl rfl (one_of HT_.out (zq42)) (by decide) (fun K hK => ?_)
                  refine goes_ Try.func15 (zq42) rfl #[.agg #[.int .i64 4, .int .i64 a0, .int .i64 0, .int .i64 0, .int .i64 0], .agg #[.slice fa0 (rd_T26 F (i : Int)).f0.length fn0, .slice fa1 (rd_T26 F (i : Int)).f1.length fn1, .slice fa2 (rd_T26 F (i : Int)).f2.length fn2], .agg #[.slice ga0 (rd_T26 G (i : Int)).f0.length gn0, .slice ga1 (rd_T26 G (i : Int)).f1.length gn1, .slice ga2 (rd_T26 G (i : Int)).f2.length gn2]] (by rfl) rfl rfl (zq32) ?_
                  with_reducible refine (HRb.out _ HB5.out).mono ?_
                  rintro e w6 ⟨rfl, hb⟩
                  refine ⟨_, rfl, ?_⟩
                  have HB6 := Aside0.mk (below_step HB5.out hb)
                  obtain ⟨q0, q1, q2, q3, q4, -⟩ := cells_5 (blk_below K3.out HB6.out)
                  refine hK.out _ _ ⟨q0, q1, q2, q3, q4, pw_cell_below HB6.out X0.out, pw_cell_below HB6.out X1.out, pw_cell_below HB6.out X2.out, pw_cell_below HB6.out X3.out, pw_cell_below HB6.out X4.out, pw_cell_below HB6.out X5.out⟩ (fun hHeld => ?_)
                  clear hK K
                  refine norm_ (a' := ?_) ?_ ?_
                  rotate_left
                  ·show Act.put _ (some 154) _ = _
                   simp only [Act.put, List.setIfInBounds_toArray, List.set_cons_zero, List.set_cons_succ, i64_w, i32_w]
                   rfl
                  refine pure_ (i := 22) (N := some 155) (v := ?_) (a' := ?_) ba10_23 rfl rfl (any_of HT_.out (zq42)) (fun _ _ _ h => h) (Or.inl ⟨by rfl, ?_⟩) ?_ ?_; rotate_left; exact zs0; rotate_left; exact zs1
                  refine pure_ (i := 23) (N := some 156) (v := ?_) (a' := ?_) ba10_24 rfl rfl (any_of HT_.out (zq42)) (fun _ _ _ h => h) (Or.inl ⟨by rfl, ?_⟩) ?_ ?_; rotate_left; exact zs0; rotate_left; exact zs1
                  refine pure_ (i := 24) (N := some 157) (v := ?_) (a' := ?_) ba10_25 rfl rfl (any_of HT_.out (zq42)) (fun _ _ _ h => h) (Or.inl ⟨by rfl, ?_⟩) ?_ ?_; rotate_left; exact zs0; rotate_left; exact zs1
                  refine pure_ (i := 25) (N := some 158) (v := undef) (a' := ?_) ba10_26 rfl rfl (any_of HT_.out (zq42)) (fun _ _ _ h => h) (Or.inr ⟨by rfl, rfl⟩) ?_ ?_
                  rotate_left
                  exact zs1
                  refine pure_ (i := 26) (N := some 159) (v := undef) (a' := ?_) ba10_27 rfl rfl (any_of HT_.out (zq42)) (fun _ _ _ h => h) (Or.inr ⟨by rfl, rfl⟩) ?_ ?_
                  rotate_left
                  exact zs1
                  refine pure_ (i := 27) (N := some 160) (v := undef) (a' := ?_) ba10_28 rfl rfl (any_of HT_.out (zq42)) (fun _ _ _ h => h) (Or.inr ⟨by rfl, rfl⟩) ?_ ?_
                  rotate_left
                  exact zs1
                  refine pure_ (i := 28) (N := some 161) (v := undef) (a' := ?_) ba10_29 rfl rfl (any_of HT_.out (zq42)) (fun _ _ _ h => h) (Or.inr ⟨by rfl, rfl⟩) ?_ ?_
                  rotate_left
                  exact zs1
                  refine pure_ (i := 29) (N := some 162) (v := undef) (a' := ?_) ba10_30 rfl rfl (any_of HT_.out (zq42)) (fun _ _ _ h => h) (Or.inr ⟨by rfl, rfl⟩) ?_ ?_
                  rotate_left
                  exact zs1
                  refine pure_ (i := 30) (N := some 163) (v := undef) (a' := ?_) ba10_31 rfl rfl (any_of HT_.out (zq42)) (fun _ _ _ h => h) (Or.inr ⟨by rfl, rfl⟩) ?_ ?_
                  rotate_left
                  exact zs1
                  refine pure_ (i := 31) (N := some 164) (v := undef) (a' := ?_) ba10_32 rfl rfl (any_of HT_.out (zq42)) (fun _ _ _ h => h) (Or.inr ⟨by rfl, rfl⟩) ?_ ?_
                  rotate_left
                  exact zs1
                  refine pure_ (i := 32) (N := some 165) (v := undef) (a' := ?_) ba10_33 rfl rfl (any_of HT_.out (zq42)) (fun _ _ _ h => h) (Or.inr ⟨by rfl, rfl⟩) ?_ ?_
                  rotate_left
                  exact zs1
                  refine pure_ (i := 33) (N := some 166) (v := undef) (a' := ?_) ba10_34 rfl rfl (any_of HT_.out (zq42)) (fun _ _ _ h => h) (Or.inr ⟨by rfl, rfl⟩) ?_ ?_
                  rotate_left
                  exact zs1
                  refine pure_ (i := 34) (N := some 167) (v := undef) (a' := ?_) ba10_35 rfl rfl (any_of HT_.out (zq42)) (fun _ _ _ h => h) (Or.inr ⟨by rfl, rfl⟩) ?_ ?_
                  rotate_left
                  exact zs1
                  refine pure_ (i := 35) (N := some 168) (v := undef) (a' := ?_) ba10_36 rfl rfl (any_of HT_.out (zq42)) (fun _ _ _ h => h) (Or.inr ⟨by rfl, rfl⟩) ?_ ?_
                  rotate_left
                  exact zs1
                  refine pure_ (i := 36) (N := some 169) (v := undef) (a' := ?_) ba10_37 rfl rfl (any_of HT_.out (zq42)) (fun _ _ _ h => h) (Or.inr ⟨by rfl, rfl⟩) ?_ ?_
                  rotate_left
                  exact zs1
                  refine pure_ (i := 37) (N := some 170) (v := undef) (a' := ?_) ba10_38 rfl rfl (any_of HT_.out (zq42)) (fun _ _ _ h => h) (Or.inr ⟨by rfl, rfl⟩) ?_ ?_
                  rotate_left
                  exact zs1
                  refine pure_ (i := 38) (N := some 171) (v := undef) (a' := ?_) ba10_39 rfl rfl (any_of HT_.out (zq42)) (fun _ _ _ h => h) (Or.inr ⟨by rfl, rfl⟩) ?_ ?_
                  rotate_left
                  exact zs1
                  refine pure_ (i := 39) (N := some 172) (v := undef) (a' := ?_) ba10_40 rfl rfl (any_of HT_.out (zq42)) (fun _ _ _ h => h) (Or.inr ⟨by rfl, rfl⟩) ?_ ?_
                  rotate_left
                  exact zs1
                  refine pure_ (i := 40) (N := some 173) (v := undef) (a' := ?_) ba10_41 rfl rfl (any_of HT_.out (zq42)) (fun _ _ _ h => h) (Or.inr ⟨by rfl, rfl⟩) ?_ ?_
                  rotate_left
                  exact zs1
                  refine pure_ (i := 41) (N := some 174) (v := undef) (a' := ?_) ba10_42 rfl rfl (any_of HT_.out (zq42)) (fun _ _ _ h => h) (Or.inr ⟨by rfl, rfl⟩) ?_ ?_
                  rotate_left
                  exact zs1
                  refine pure_ (i := 42) (N := some 175) (v := ?_) (a' := ?_) ba10_43 rfl rfl (any_of HT_.out (zq42)) (fun _ _ _ h => h) (Or.inl ⟨by rfl, ?_⟩) ?_ ?_; rotate_left; exact zs0; rotate_left; exact zs1
                  refine done_ (done_of HT_.out (zq42)) ?_
                  try go_wp2
                  go_ret
                  exact ⟨rfl, below_step HBW3.out HB6.out⟩
                case true =>
                  have H := HV.out
                  rw [if_pos rfl] at H
                  have hn : 0 < (rd_T26 F (i : Int)).f1.length ∧ 0 < (rd_T26 G (i : Int)).f1.length := by
                    by_cases hq : 0 < (rd_T26 F (i : Int)).f1.length ∧ 0 < (rd_T26 G (i : Int)).f1.length
                    · exact hq
                    · rw [if_neg hq] at H; cases H
                  rw [if_pos hn] at H
                  obtain ⟨x, hx, H⟩ := Option.bind_eq_some_iff.mp H
                  have HX := Lib.hid hx
                  have HAd := Lib.hid (fun W => trefoilref03_Add.calls q a0 _ _ x W HX.out)
                  have u0 : (0 : Int) < ((rd_T26 F (i : Int)).f1.length : Int) := by omega
                  have u1 : (0 : Int) < ((rd_T26 G (i : Int)).f1.length : Int) := by omega
                  obtain ⟨af, rfl, x6⟩ := Kd.at_int J01.out 0 (by omega) u0
                  obtain ⟨ag, rfl, x7⟩ := Kd.at_int J11.out 0 (by omega) u1
                  rw [Int.toNat_zero, add_none] at x6 x7
                  obtain ⟨u2, u3⟩ := hn
                  have X6 := Lib.hid x6
                  have X7 := Lib.hid x7
                  have HU := Lib.hid H
                  clear hx H HV x6 x7
                  by_cases hbig : x > 1
                  case pos =>
                    have H := (if_pos hbig).symm.trans HU.out
                    obtain rfl := Option.some.inj H
                    clear H HU
                    obtain ⟨z0, z1, z2, z3, z4, -⟩ := cells_5 (blk_below K3.out HBR2.out)
                    have zx0 := pw_cell_below HBR2.out X0.out
                    have zx1 := pw_cell_below HBR2.out X1.out
                    have zx2 := pw_cell_below HBR2.out X2.out
                    have zx3 := pw_cell_below HBR2.out X3.out
                    have zx4 := pw_cell_below HBR2.out X4.out
                    have zx5 := pw_cell_below HBR2.out X5.out
                    have zx6 := pw_cell_below HBR2.out X6.out
                    have zx7 := pw_cell_below HBR2.out X7.out
                    go_upto_region 22 with fail
                    refine start_ (n := 43) (S := fun w' => w'.cell? ⟨w.heap.size, 0, none⟩ = some (.int .i64 4) ∧ w'.cell? ⟨w.heap.size, 1, none⟩ = some (.int .i64 a0) ∧ w'.cell? ⟨w.heap.size, 2, none⟩ = some (.int .i64 0) ∧ w'.cell? ⟨w.heap.size, 3, none⟩ = some (.int .i64 0) ∧ w'.cell? ⟨w.heap.size, 4, none⟩ = some (.int .i64 0) ∧ w'.cell? (ad.add (i * 3)) = some (.slice fa0 (rd_T26 F (i : Int)).f0.length fn0) ∧ w'.cell? ⟨(ad.add (i * 3)).block, (ad.add (i * 3)).off + 1, none⟩ = some (.slice (some af) (rd_T26 F (i : Int)).f1.length fn1) ∧ w'.cell? ⟨(ad.add (i * 3)).block, (ad.add (i * 3)).off + 2, none⟩ = some (.slice fa2 (rd_T26 F (i : Int)).f2.length fn2) ∧ w'.cell? (ae.add (i * 3)) = some (.slice ga0 (rd_T26 G (i : Int)).f0.length gn0) ∧ w'.cell? ⟨(ae.add (i * 3)).block, (ae.add (i * 3)).off + 1, none⟩ = some (.slice (some ag) (rd_T26 G (i : Int)).f1.length gn1) ∧ w'.cell? ⟨(ae.add (i * 3)).block, (ae.add (i * 3)).off + 2, none⟩ = some (.slice ga2 (rd_T26 G (i : Int)).f2.length gn2) ∧ w'.cell? af = some (.int .u64 (rd (rd_T26 F (i : Int)).f1 0)) ∧ w'.cell? ag = some (.int .u64 (rd (rd_T26 G (i : Int)).f1 0))) (ds := []) ba10_0 (zq42) rfl rfl ⟨z0, z1, z2, z3, z4, zx0, zx1, zx2, zx3, zx4, zx5, zx6, zx7⟩ (fun hHeld => ?_); refine with_tabW com_tab22 com_bits22 (fun HT_ HW_ => ?_)
                    refine take_ (i := 0) (N := some 133) (v := ?_) (a' := ?_) ba10_1 rfl rfl (take_ofW HT_.out HW_.out (zq42)) (fun _ _ _ h => h) (Or.inl ⟨by rfl, ?_⟩) hHeld ?_ ?_
                    rotate_left
                    ·rintro w' ⟨s0, s1, s2, s3, s4, s5, s6, s7, s8, s9, s10, s11, s12⟩
                     go_simp
                     with_reducible rfl
                    rotate_left
                    exact zs1
                    refine pure_ (i := 1) (N := some 134) (v := ?_) (a' := ?_) ba10_2 rfl rfl (any_of HT_.out (zq42)) (fun _ _ _ h => h) (Or.inl ⟨by rfl, ?_⟩) ?_ ?_; rotate_left; exact zs0; rotate_left; exact zs1
                    refine pure_ (i := 2) (N := some 135) (v := ?_) (a' := ?_) ba10_3 rfl rfl (any_of HT_.out (zq42)) (fun _ _ _ h => h) (Or.inl ⟨by rfl, ?_⟩) ?_ ?_; rotate_left; exact zs0; rotate_left; exact zs1
                    refine pure_ (i := 3) (N := some 136) (v := ?_) (a' := ?_) ba10_4 rfl rfl (any_of HT_.out (zq42)) (fun _ _ _ h => h) (Or.inl ⟨by rfl, ?_⟩) ?_ ?_; rotate_left; exact zs0; rotate_left; exact zs1
                    refine take_ (i := 4) (N := some 137) (v := ?_) (a' := ?_) ba10_5 rfl rfl (take_ofW HT_.out HW_.out (zq42)) (fun _ _ _ h => h) (Or.inl ⟨by rfl, ?_⟩) hHeld ?_ ?_
                    rotate_left
                    ·rintro w' ⟨s0, s1, s2, s3, s4, s5, s6, s7, s8, s9, s10, s11, s12⟩
                     go_simp
                     with_reducible rfl
                    rotate_left
                    exact zs1
                    refine pure_ (i := 5) (N := some 138) (v := ?_) (a' := ?_) ba10_6 rfl rfl (any_of HT_.out (zq42)) (fun _ _ _ h => h) (Or.inl ⟨by rfl, ?_⟩) ?_ ?_; rotate_left; exact zs0; rotate_left; exact zs1
                    refine pure_ (i := 6) (N := some 139) (v := ?_) (a' := ?_) ba10_7 rfl rfl (any_of HT_.out (zq42)) (fun _ _ _ h => h) (Or.inl ⟨by rfl, ?_⟩) ?_ ?_; rotate_left; exact zs0; rotate_left; exact zs1
                    refine pure_ (i := 7) (N := some 140) (v := ?_) (a' := ?_) ba10_8 rfl rfl (any_of HT_.out (zq42)) (fun _ _ _ h => h) (Or.inl ⟨by rfl, ?_⟩) ?_ ?_; rotate_left; exact zs0; rotate_left; exact zs1
                    refine take_ (i := 8) (N := some 141) (v := ?_) (a' := ?_) ba10_9 rfl rfl (take_ofW HT_.out HW_.out (zq42)) (fun _ _ _ h => h) (Or.inl ⟨by rfl, ?_⟩) hHeld ?_ ?_
                    rotate_left
                    ·rintro w' ⟨s0, s1, s2, s3, s4, s5, s6, s7, s8, s9, s10, s11, s12⟩
                     go_simp
                     with_reducible rfl
                    rotate_left
                    exact zs1
                    refine one_ (i := 9) (N := some 142) ba10_10 rfl rfl (one_of HT_.out (zq42)) (by decide) (fun K hK => ?_)
                    refine goes_ Try.func16 (zq42) rfl #[.agg #[.int .i64 4, .int .i64 a0, .int .i64 0, .int .i64 0, .int .i64 0], .agg #[.slice fa0 (rd_T26 F (i : Int)).f0.length fn0, .slice (some af) (rd_T26 F (i : Int)).f1.length fn1, .slice fa2 (rd_T26 F (i : Int)).f2.length fn2], .agg #[.slice ga0 (rd_T26 G (i : Int)).f0.length gn0, .slice (some ag) (rd_T26 G (i : Int)).f1.length gn1, .slice ga2 (rd_T26 G (i : Int)).f2.length gn2]] (by rfl) rfl rfl (zq32) ?_
                    with_reducible refine (HRa.out _ D0.out).mono ?_
                    rintro e w5 ⟨rfl, hb⟩
                    refine ⟨_, rfl, ?_⟩
                    have HB5 := Aside0.mk (below_step D0.out hb)
                    obtain ⟨p0, p1, p2, p3, p4, -⟩ := cells_5 (blk_below K3.out HB5.out)
                    refine hK.out _ _ ⟨p0, p1, p2, p3, p4, pw_cell_below HB5.out X0.out, pw_cell_below HB5.out X1.out, pw_cell_below HB5.out X2.out, pw_cell_below HB5.out X3.out, pw_cell_below HB5.out X4.out, pw_cell_below HB5.out X5.out, pw_cell_below HB5.out X6.out, pw_cell_below HB5.out X7.out⟩ (fun hHeld => ?_)
                    clear hK K
                    refine norm_ (a' := ?_) ?_ ?_
                    rotate_left
                    ·show Act.put _ (some 142) _ = _
                     simp only [Act.put, List.setIfInBounds_toArray, List.set_cons_zero, List.set_cons_succ, i64_w, i32_w]
                     rfl
                    refine pure_ (i := 10) (N := some 143) (v := ?_) (a' := ?_) ba10_11 rfl rfl (any_of HT_.out (zq42)) (fun _ _ _ h => h) (Or.inl ⟨by rfl, ?_⟩) ?_ ?_; rotate_left; exact zs0; rotate_left; exact zs1
                    refine pure_ (i := 11) (N := some 144) (v := ?_) (a' := ?_) ba10_12 rfl rfl (any_of HT_.out (zq42)) (fun _ _ _ h => h) (Or.inl ⟨by rfl, ?_⟩) ?_ ?_; rotate_left; exact zs0; rotate_left; exact zs1
                    refine take_ (i := 12) (N := some 145) (v := ?_) (a' := ?_) ba10_13 rfl rfl (take_ofW HT_.out HW_.out (zq42)) (fun _ _ _ h => h) (Or.inl ⟨by rfl, ?_⟩) hHeld ?_ ?_
                    rotate_left
                    ·rintro w' ⟨s0, s1, s2, s3, s4, s5, s6, s7, s8, s9, s10, s11, s12⟩
                     go_simp
                     with_reducible rfl
                    rotate_left
                    exact zs1
                    refine pure_ (i := 13) (N := some 146) (v := ?_) (a' := ?_) ba10_14 rfl rfl (any_of HT_.out (zq42)) (fun _ _ _ h => h) (Or.inl ⟨by rfl, ?_⟩) ?_ ?_; rotate_left; exact zs0; rotate_left; exact zs1
                    refine pure_ (i := 14) (N := some 147) (v := ?_) (a' := ?_) ba10_15 rfl rfl (any_of HT_.out (zq42)) (fun _ _ _ h => h) (Or.inl ⟨by rfl, ?_⟩) ?_ ?_; rotate_left; exact zs0; rotate_left; exact zs1
                    refine pure_ (i := 15) (N := some 148) (v := ?_) (a' := ?_) ba10_16 rfl rfl (any_of HT_.out (zq42)) (fun _ _ _ h => h) (Or.inl ⟨by rfl, ?_⟩) ?_ ?_; rotate_left; exact zs0; rotate_left; exact zs1
                    refine take_ (i := 16) (N := some 149) (v := ?_) (a' := ?_) ba10_17 rfl rfl (take_ofW HT_.out HW_.out (zq42)) (fun _ _ _ h => h) (Or.inl ⟨by rfl, ?_⟩) hHeld ?_ ?_
                    rotate_left
                    ·rintro w' ⟨s0, s1, s2, s3, s4, s5, s6, s7, s8, s9, s10, s11, s12⟩
                     go_simp
                     with_reducible rfl
                    rotate_left
                    exact zs1
                    refine pure_ (i := 17) (N := some 150) (v := ?_) (a' := ?_) ba10_18 rfl rfl (any_of HT_.out (zq42)) (fun _ _ _ h => h) (Or.inl ⟨by rfl, ?_⟩) ?_ ?_; rotate_left; exact zs0; rotate_left; exact zs1
                    refine pure_ (i := 18) (N := some 151) (v := ?_) (a' := ?_) ba10_19 rfl rfl (any_of HT_.out (zq42)) (fun _ _ _ h => h) (Or.inl ⟨by rfl, ?_⟩) ?_ ?_; rotate_left; exact zs0; rotate_left; exact zs1
                    refine pure_ (i := 19) (N := some 152) (v := ?_) (a' := ?_) ba10_20 rfl rfl (any_of HT_.out (zq42)) (fun _ _ _ h => h) (Or.inl ⟨by rfl, ?_⟩) ?_ ?_; rotate_left; exact zs0; rotate_left; exact zs1
                    refine take_ (i := 20) (N := some 153) (v := ?_) (a' := ?_) ba10_21 rfl rfl (take_ofW HT_.out HW_.out (zq42)) (fun _ _ _ h => h) (Or.inl ⟨by rfl, ?_⟩) hHeld ?_ ?_
                    rotate_left
                    ·rintro w' ⟨s0, s1, s2, s3, s4, s5, s6, s7, s8, s9, s10, s11, s12⟩
                     go_simp
                     with_reducible rfl
                    rotate_left
                    exact zs1
                    refine one_ (i := 21) (N := some 154) ba10_22 rfl rfl (one_of HT_.out (zq42)) (by decide) (fun K hK => ?_)
                    refine goes_ Try.func15 (zq42) rfl #[.agg #[.int .i64 4, .int .i64 a0, .int .i64 0, .int .i64 0, .int .i64 0], .agg #[.slice fa0 (rd_T26 F (i : Int)).f0.length fn0, .slice (some af) (rd_T26 F (i : Int)).f1.length fn1, .slice fa2 (rd_T26 F (i : Int)).f2.length fn2], .agg #[.slice ga0 (rd_T26 G (i : Int)).f0.length gn0, .slice (some ag) (rd_T26 G (i : Int)).f1.length gn1, .slice ga2 (rd_T26 G (i : Int)).f2.length gn2]] (by rfl) rfl rfl (zq32) ?_
                    with_reducible refine (HRb.out _ HB5.out).mono ?_
                    rintro e w6 ⟨rfl, hb⟩
                    refine ⟨_, rfl, ?_⟩
                    have HB6 := Aside0.mk (below_step HB5.out hb)
                    obtain ⟨q0, q1, q2, q3, q4, -⟩ := cells_5 (blk_below K3.out HB6.out)
                    refine hK.out _ _ ⟨q0, q1, q2, q3, q4, pw_cell_below HB6.out X0.out, pw_cell_below HB6.out X1.out, pw_cell_below HB6.out X2.out, pw_cell_below HB6.out X3.out, pw_cell_below HB6.out X4.out, pw_cell_below HB6.out X5.out, pw_cell_below HB6.out X6.out, pw_cell_below HB6.out X7.out⟩ (fun hHeld => ?_)
                    clear hK K
                    refine norm_ (a' := ?_) ?_ ?_
                    rotate_left
                    ·show Act.put _ (some 154) _ = _
                     simp only [Act.put, List.setIfInBounds_toArray, List.set_cons_zero, List.set_cons_succ, i64_w, i32_w]
                     rfl
                    refine pure_ (i := 22) (N := some 155) (v := ?_) (a' := ?_) ba10_23 rfl rfl (any_of HT_.out (zq42)) (fun _ _ _ h => h) (Or.inl ⟨by rfl, ?_⟩) ?_ ?_; rotate_left; exact zs0; rotate_left; exact zs1
                    refine pure_ (i := 23) (N := some 156) (v := ?_) (a' := ?_) ba10_24 rfl rfl (any_of HT_.out (zq42)) (fun _ _ _ h => h) (Or.inl ⟨by rfl, ?_⟩) ?_ ?_; rotate_left; exact zs0; rotate_left; exact zs1
                    refine pure_ (i := 24) (N := some 157) (v := ?_) (a' := ?_) ba10_25 rfl rfl (any_of HT_.out (zq42)) (fun _ _ _ h => h) (Or.inl ⟨by rfl, ?_⟩) ?_ ?_; rotate_left; exact zs0; rotate_left; exact zs1
                    refine pure_ (i := 25) (N := some 158) (v := ?_) (a' := ?_) ba10_26 rfl rfl (any_of HT_.out (zq42)) (fun _ _ _ h => h) (Or.inl ⟨by rfl, ?_⟩) ?_ ?_; rotate_left; exact zs0; rotate_left; exact zs1
                    refine pure_ (i := 26) (N := some 159) (v := ?_) (a' := ?_) ba10_27 rfl rfl (any_of HT_.out (zq42)) (fun _ _ _ h => h) (Or.inl ⟨by rfl, ?_⟩) ?_ ?_; rotate_left; exact zs0; rotate_left; exact zs1
                    refine pure_ (i := 27) (N := some 160) (v := ?_) (a' := ?_) ba10_28 rfl rfl (any_of HT_.out (zq42)) (fun _ _ _ h => h) (Or.inl ⟨by rfl, ?_⟩) ?_ ?_; rotate_left; exact zs0; rotate_left; exact zs1
                    refine pure_ (i := 28) (N := some 161) (v := ?_) (a' := ?_) ba10_29 rfl rfl (any_of HT_.out (zq42)) (fun _ _ _ h => h) (Or.inl ⟨by rfl, ?_⟩) ?_ ?_; rotate_left; exact zs0; rotate_left; exact zs1
                    refine pure_ (i := 29) (N := some 162) (v := ?_) (a' := ?_) ba10_30 rfl rfl (any_of HT_.out (zq42)) (fun _ _ _ h => h) (Or.inl ⟨by rfl, ?_⟩) ?_ ?_; rotate_left; exact zs0; rotate_left; exact zs1
                    refine take_ (i := 30) (N := some 163) (v := ?_) (a' := ?_) ba10_31 rfl rfl (take_ofW HT_.out HW_.out (zq42)) (fun _ _ _ h => h) (Or.inl ⟨by rfl, ?_⟩) hHeld ?_ ?_
                    rotate_left
                    ·rintro w' ⟨s0, s1, s2, s3, s4, s5, s6, s7, s8, s9, s10, s11, s12⟩
                     go_simp
                     with_reducible rfl
                    rotate_left
                    exact zs1
                    refine pure_ (i := 31) (N := some 164) (v := ?_) (a' := ?_) ba10_32 rfl rfl (any_of HT_.out (zq42)) (fun _ _ _ h => h) (Or.inl ⟨by rfl, ?_⟩) ?_ ?_; rotate_left; exact zs0; rotate_left; exact zs1
                    refine take_ (i := 32) (N := some 165) (v := ?_) (a' := ?_) ba10_33 rfl rfl (take_ofW HT_.out HW_.out (zq42)) (fun _ _ _ h => h) (Or.inl ⟨by rfl, ?_⟩) hHeld ?_ ?_
                    rotate_left
                    ·rintro w' ⟨s0, s1, s2, s3, s4, s5, s6, s7, s8, s9, s10, s11, s12⟩
                     go_simp
                     with_reducible rfl
                    rotate_left
                    exact zs1
                    refine pure_ (i := 33) (N := some 166) (v := ?_) (a' := ?_) ba10_34 rfl rfl (any_of HT_.out (zq42)) (fun _ _ _ h => h) (Or.inl ⟨by rfl, ?_⟩) ?_ ?_; rotate_left; exact zs0; rotate_left; exact zs1
                    refine pure_ (i := 34) (N := some 167) (v := ?_) (a' := ?_) ba10_35 rfl rfl (any_of HT_.out (zq42)) (fun _ _ _ h => h) (Or.inl ⟨by rfl, ?_⟩) ?_ ?_; rotate_left; exact zs0; rotate_left; exact zs1
                    refine pure_ (i := 35) (N := some 168) (v := ?_) (a' := ?_) ba10_36 rfl rfl (any_of HT_.out (zq42)) (fun _ _ _ h => h) (Or.inl ⟨by rfl, ?_⟩) ?_ ?_; rotate_left; exact zs0; rotate_left; exact zs1
                    refine pure_ (i := 36) (N := some 169) (v := ?_) (a' := ?_) ba10_37 rfl rfl (any_of HT_.out (zq42)) (fun _ _ _ h => h) (Or.inl ⟨by rfl, ?_⟩) ?_ ?_; rotate_left; exact zs0; rotate_left; exact zs1
                    refine take_ (i := 37) (N := some 170) (v := ?_) (a' := ?_) ba10_38 rfl rfl (take_ofW HT_.out HW_.out (zq42)) (fun _ _ _ h => h) (Or.inl ⟨by rfl, ?_⟩) hHeld ?_ ?_
                    rotate_left
                    ·rintro w' ⟨s0, s1, s2, s3, s4, s5, s6, s7, s8, s9, s10, s11, s12⟩
                     go_simp
                     with_reducible rfl
                    rotate_left
                    exact zs1
                    refine pure_ (i := 38) (N := some 171) (v := ?_) (a' := ?_) ba10_39 rfl rfl (any_of HT_.out (zq42)) (fun _ _ _ h => h) (Or.inl ⟨by rfl, ?_⟩) ?_ ?_; rotate_left; exact zs0; rotate_left; exact zs1
                    refine take_ (i := 39) (N := some 172) (v := ?_) (a' := ?_) ba10_40 rfl rfl (take_ofW HT_.out HW_.out (zq42)) (fun _ _ _ h => h) (Or.inl ⟨by rfl, ?_⟩) hHeld ?_ ?_
                    rotate_left
                    ·rintro w' ⟨s0, s1, s2, s3, s4, s5, s6, s7, s8, s9, s10, s11, s12⟩
                     go_simp
                     with_reducible rfl
                    rotate_left
                    exact zs1
                    refine one_ (i := 40) (N := some 173) ba10_41 rfl rfl (one_of HT_.out (zq42)) (by decide) (fun K hK => ?_)
                    refine goes_ Try.func29 (zq42) rfl #[.int .i64 a0, .int .u64 (rd (rd_T26 F (i : Int)).f1 0), .int .u64 (rd (rd_T26 G (i : Int)).f1 0)] (by rfl) rfl rfl (zq32) ?_
                    with_reducible refine (HAd.out _).mono ?_
                    rintro e w7 ⟨rfl, ⟨n7, rfl⟩⟩
                    refine ⟨_, rfl, ?_⟩
                    have HB7 := Aside0.mk (pw_below_drewN HB6.out n7)
                    obtain ⟨t0, t1, t2, t3, t4, -⟩ := cells_5 (blk_below K3.out HB7.out)
                    refine hK.out _ _ ⟨t0, t1, t2, t3, t4, pw_cell_below HB7.out X0.out, pw_cell_below HB7.out X1.out, pw_cell_below HB7.out X2.out, pw_cell_below HB7.out X3.out, pw_cell_below HB7.out X4.out, pw_cell_below HB7.out X5.out, pw_cell_below HB7.out X6.out, pw_cell_below HB7.out X7.out⟩ (fun hHeld => ?_)
                    clear hK K
                    refine norm_ (a' := ?_) ?_ ?_
                    rotate_left
                    ·show Act.put _ (some 173) _ = _
                     simp only [Act.put, List.setIfInBounds_toArray, List.set_cons_zero, List.set_cons_succ, i64_w, i32_w]
                     rfl
                    refine pure_ (i := 41) (N := some 174) (v := ?_) (a' := ?_) ba10_42 rfl rfl (any_of HT_.out (zq42)) (fun _ _ _ h => h) (Or.inl ⟨by rfl, ?_⟩) ?_ ?_; rotate_left; exact zs0; rotate_left; exact zs1
                    refine pure_ (i := 42) (N := some 175) (v := ?_) (a' := ?_) ba10_43 rfl rfl (any_of HT_.out (zq42)) (fun _ _ _ h => h) (Or.inl ⟨by rfl, ?_⟩) ?_ ?_; rotate_left; exact zs0; rotate_left; exact zs1
                    refine done_ (done_of HT_.out (zq42)) ?_
                    try go_wp2
                    go_ret
                    exact ⟨rfl, below_step HBW3.out HB7.out⟩
                  case neg =>
                    have HQ := Lib.hid ((if_neg hbig).symm.trans HU.out)
                    clear HU
                    obtain ⟨z0, z1, z2, z3, z4, -⟩ := cells_5 (blk_below K3.out HBR2.out)
                    have zx0 := pw_cell_below HBR2.out X0.out
                    have zx1 := pw_cell_below HBR2.out X1.out
                    have zx2 := pw_cell_below HBR2.out X2.out
                    have zx3 := pw_cell_below HBR2.out X3.out
                    have zx4 := pw_cell_below HBR2.out X4.out
                    have zx5 := pw_cell_below HBR2.out X5.out
                    have zx6 := pw_cell_below HBR2.out X6.out
                    have zx7 := pw_cell_below HBR2.out X7.out
                    go_upto_region 22 with fail
                    refine start_ (n := 43) (S := fun w' => w'.cell? ⟨w.heap.size, 0, none⟩ = some (.int .i64 4) ∧ w'.cell? ⟨w.heap.size, 1, none⟩ = some (.int .i64 a0) ∧ w'.cell? ⟨w.heap.size, 2, none⟩ = some (.int .i64 0) ∧ w'.cell? ⟨w.heap.size, 3, none⟩ = some (.int .i64 0) ∧ w'.cell? ⟨w.heap.size, 4, none⟩ = some (.int .i64 0) ∧ w'.cell? (ad.add (i * 3)) = some (.slice fa0 (rd_T26 F (i : Int)).f0.length fn0) ∧ w'.cell? ⟨(ad.add (i * 3)).block, (ad.add (i * 3)).off + 1, none⟩ = some (.slice (some af) (rd_T26 F (i : Int)).f1.length fn1) ∧ w'.cell? ⟨(ad.add (i * 3)).block, (ad.add (i * 3)).off + 2, none⟩ = some (.slice fa2 (rd_T26 F (i : Int)).f2.length fn2) ∧ w'.cell? (ae.add (i * 3)) = some (.slice ga0 (rd_T26 G (i : Int)).f0.length gn0) ∧ w'.cell? ⟨(ae.add (i * 3)).block, (ae.add (i * 3)).off + 1, none⟩ = some (.slice (some ag) (rd_T26 G (i : Int)).f1.length gn1) ∧ w'.cell? ⟨(ae.add (i * 3)).block, (ae.add (i * 3)).off + 2, none⟩ = some (.slice ga2 (rd_T26 G (i : Int)).f2.length gn2) ∧ w'.cell? af = some (.int .u64 (rd (rd_T26 F (i : Int)).f1 0)) ∧ w'.cell? ag = some (.int .u64 (rd (rd_T26 G (i : Int)).f1 0))) (ds := []) ba10_0 (zq42) rfl rfl ⟨z0, z1, z2, z3, z4, zx0, zx1, zx2, zx3, zx4, zx5, zx6, zx7⟩ (fun hHeld => ?_); refine with_tabW com_tab22 com_bits22 (fun HT_ HW_ => ?_)
                    refine take_ (i := 0) (N := some 133) (v := ?_) (a' := ?_) ba10_1 rfl rfl (take_ofW HT_.out HW_.out (zq42)) (fun _ _ _ h => h) (Or.inl ⟨by rfl, ?_⟩) hHeld ?_ ?_
                    rotate_left
                    ·rintro w' ⟨s0, s1, s2, s3, s4, s5, s6, s7, s8, s9, s10, s11, s12⟩
                     go_simp
                     with_reducible rfl
                    rotate_left
                    exact zs1
                    refine pure_ (i := 1) (N := some 134) (v := ?_) (a' := ?_) ba10_2 rfl rfl (any_of HT_.out (zq42)) (fun _ _ _ h => h) (Or.inl ⟨by rfl, ?_⟩) ?_ ?_; rotate_left; exact zs0; rotate_left; exact zs1
                    refine pure_ (i := 2) (N := some 135) (v := ?_) (a' := ?_) ba10_3 rfl rfl (any_of HT_.out (zq42)) (fun _ _ _ h => h) (Or.inl ⟨by rfl, ?_⟩) ?_ ?_; rotate_left; exact zs0; rotate_left; exact zs1
                    refine pure_ (i := 3) (N := some 136) (v := ?_) (a' := ?_) ba10_4 rfl rfl (any_of HT_.out (zq42)) (fun _ _ _ h => h) (Or.inl ⟨by rfl, ?_⟩) ?_ ?_; rotate_left; exact zs0; rotate_left; exact zs1
                    refine take_ (i := 4) (N := some 137) (v := ?_) (a' := ?_) ba10_5 rfl rfl (take_ofW HT_.out HW_.out (zq42)) (fun _ _ _ h => h) (Or.inl ⟨by rfl, ?_⟩) hHeld ?_ ?_
                    rotate_left
                    ·rintro w' ⟨s0, s1, s2, s3, s4, s5, s6, s7, s8, s9, s10, s11, s12⟩
                     go_simp
                     with_reducible rfl
                    rotate_left
                    exact zs1
                    refine pure_ (i := 5) (N := some 138) (v := ?_) (a' := ?_) ba10_6 rfl rfl (any_of HT_.out (zq42)) (fun _ _ _ h => h) (Or.inl ⟨by rfl, ?_⟩) ?_ ?_; rotate_left; exact zs0; rotate_left; exact zs1
                    refine pure_ (i := 6) (N := some 139) (v := ?_) (a' := ?_) ba10_7 rfl rfl (any_of HT_.out (zq42)) (fun _ _ _ h => h) (Or.inl ⟨by rfl, ?_⟩) ?_ ?_; rotate_left; exact zs0; rotate_left; exact zs1
                    refine pure_ (i := 7) (N := some 140) (v := ?_) (a' := ?_) ba10_8 rfl rfl (any_of HT_.out (zq42)) (fun _ _ _ h => h) (Or.inl ⟨by rfl, ?_⟩) ?_ ?_; rotate_left; exact zs0; rotate_left; exact zs1
                    refine take_ (i := 8) (N := some 141) (v := ?_) (a' := ?_) ba10_9 rfl rfl (take_ofW HT_.out HW_.out (zq42)) (fun _ _ _ h => h) (Or.inl ⟨by rfl, ?_⟩) hHeld ?_ ?_
                    rotate_left
                    ·rintro w' ⟨s0, s1, s2, s3, s4, s5, s6, s7, s8, s9, s10, s11, s12⟩
                     go_simp
                     with_reducible rfl
                    rotate_left
                    exact zs1
                    refine one_ (i := 9) (N := some 142) ba10_10 rfl rfl (one_of HT_.out (zq42)) (by decide) (fun K hK => ?_)
                    refine goes_ Try.func16 (zq42) rfl #[.agg #[.int .i64 4, .int .i64 a0, .int .i64 0, .int .i64 0, .int .i64 0], .agg #[.slice fa0 (rd_T26 F (i : Int)).f0.length fn0, .slice (some af) (rd_T26 F (i : Int)).f1.length fn1, .slice fa2 (rd_T26 F (i : Int)).f2.length fn2], .agg #[.slice ga0 (rd_T26 G (i : Int)).f0.length gn0, .slice (some ag) (rd_T26 G (i : Int)).f1.length gn1, .slice ga2 (rd_T26 G (i : Int)).f2.length gn2]] (by rfl) rfl rfl (zq32) ?_
                    with_reducible refine (HRa.out _ D0.out).mono ?_
                    rintro e w5 ⟨rfl, hb⟩
                    refine ⟨_, rfl, ?_⟩
                    have HB5 := Aside0.mk (below_step D0.out hb)
                    obtain ⟨p0, p1, p2, p3, p4, -⟩ := cells_5 (blk_below K3.out HB5.out)
                    refine hK.out _ _ ⟨p0, p1, p2, p3, p4, pw_cell_below HB5.out X0.out, pw_cell_below HB5.out X1.out, pw_cell_below HB5.out X2.out, pw_cell_below HB5.out X3.out, pw_cell_below HB5.out X4.out, pw_cell_below HB5.out X5.out, pw_cell_below HB5.out X6.out, pw_cell_below HB5.out X7.out⟩ (fun hHeld => ?_)
                    clear hK K
                    refine norm_ (a' := ?_) ?_ ?_
                    rotate_left
                    ·show Act.put _ (some 142) _ = _
                     simp only [Act.put, List.setIfInBounds_toArray, List.set_cons_zero, List.set_cons_succ, i64_w, i32_w]
                     rfl
                    refine pure_ (i := 10) (N := some 143) (v := ?_) (a' := ?_) ba10_11 rfl rfl (any_of HT_.out (zq42)) (fun _ _ _ h => h) (Or.inl ⟨by rfl, ?_⟩) ?_ ?_; rotate_left; exact zs0; rotate_left; exact zs1
                    refine pure_ (i := 11) (N := some 144) (v := ?_) (a' := ?_) ba10_12 rfl rfl (any_of HT_.out (zq42)) (fun _ _ _ h => h) (Or.inl ⟨by rfl, ?_⟩) ?_ ?_; rotate_left; exact zs0; rotate_left; exact zs1
                    refine take_ (i := 12) (N := some 145) (v := ?_) (a' := ?_) ba10_13 rfl rfl (take_ofW HT_.out HW_.out (zq42)) (fun _ _ _ h => h) (Or.inl ⟨by rfl, ?_⟩) hHeld ?_ ?_
                    rotate_left
                    ·rintro w' ⟨s0, s1, s2, s3, s4, s5, s6, s7, s8, s9, s10, s11, s12⟩
                     go_simp
                     with_reducible rfl
                    rotate_left
                    exact zs1
                    refine pure_ (i := 13) (N := some 146) (v := ?_) (a' := ?_) ba10_14 rfl rfl (any_of HT_.out (zq42)) (fun _ _ _ h => h) (Or.inl ⟨by rfl, ?_⟩) ?_ ?_; rotate_left; exact zs0; rotate_left; exact zs1
                    refine pure_ (i := 14) (N := some 147) (v := ?_) (a' := ?_) ba10_15 rfl rfl (any_of HT_.out (zq42)) (fun _ _ _ h => h) (Or.inl ⟨by rfl, ?_⟩) ?_ ?_; rotate_left; exact zs0; rotate_left; exact zs1
                    refine pure_ (i := 15) (N := some 148) (v := ?_) (a' := ?_) ba10_16 rfl rfl (any_of HT_.out (zq42)) (fun _ _ _ h => h) (Or.inl ⟨by rfl, ?_⟩) ?_ ?_; rotate_left; exact zs0; rotate_left; exact zs1
                    refine take_ (i := 16) (N := some 149) (v := ?_) (a' := ?_) ba10_17 rfl rfl (take_ofW HT_.out HW_.out (zq42)) (fun _ _ _ h => h) (Or.inl ⟨by rfl, ?_⟩) hHeld ?_ ?_
                    rotate_left
                    ·rintro w' ⟨s0, s1, s2, s3, s4, s5, s6, s7, s8, s9, s10, s11, s12⟩
                     go_simp
                     with_reducible rfl
                    rotate_left
                    exact zs1
                    refine pure_ (i := 17) (N := some 150) (v := ?_) (a' := ?_) ba10_18 rfl rfl (any_of HT_.out (zq42)) (fun _ _ _ h => h) (Or.inl ⟨by rfl, ?_⟩) ?_ ?_; rotate_left; exact zs0; rotate_left; exact zs1
                    refine pure_ (i := 18) (N := some 151) (v := ?_) (a' := ?_) ba10_19 rfl rfl (any_of HT_.out (zq42)) (fun _ _ _ h => h) (Or.inl ⟨by rfl, ?_⟩) ?_ ?_; rotate_left; exact zs0; rotate_left; exact zs1
                    refine pure_ (i := 19) (N := some 152) (v := ?_) (a' := ?_) ba10_20 rfl rfl (any_of HT_.out (zq42)) (fun _ _ _ h => h) (Or.inl ⟨by rfl, ?_⟩) ?_ ?_; rotate_left; exact zs0; rotate_left; exact zs1
                    refine take_ (i := 20) (N := some 153) (v := ?_) (a' := ?_) ba10_21 rfl rfl (take_ofW HT_.out HW_.out (zq42)) (fun _ _ _ h => h) (Or.inl ⟨by rfl, ?_⟩) hHeld ?_ ?_
                    rotate_left
                    ·rintro w' ⟨s0, s1, s2, s3, s4, s5, s6, s7, s8, s9, s10, s11, s12⟩
                     go_simp
                     with_reducible rfl
                    rotate_left
                    exact zs1
                    refine one_ (i := 21) (N := some 154) ba10_22 rfl rfl (one_of HT_.out (zq42)) (by decide) (fun K hK => ?_)
                    refine goes_ Try.func15 (zq42) rfl #[.agg #[.int .i64 4, .int .i64 a0, .int .i64 0, .int .i64 0, .int .i64 0], .agg #[.slice fa0 (rd_T26 F (i : Int)).f0.length fn0, .slice (some af) (rd_T26 F (i : Int)).f1.length fn1, .slice fa2 (rd_T26 F (i : Int)).f2.length fn2], .agg #[.slice ga0 (rd_T26 G (i : Int)).f0.length gn0, .slice (some ag) (rd_T26 G (i : Int)).f1.length gn1, .slice ga2 (rd_T26 G (i : Int)).f2.length gn2]] (by rfl) rfl rfl (zq32) ?_
                    with_reducible refine (HRb.out _ HB5.out).mono ?_
                    rintro e w6 ⟨rfl, hb⟩
                    refine ⟨_, rfl, ?_⟩
                    have HB6 := Aside0.mk (below_step HB5.out hb)
                    obtain ⟨q0, q1, q2, q3, q4, -⟩ := cells_5 (blk_below K3.out HB6.out)
                    refine hK.out _ _ ⟨q0, q1, q2, q3, q4, pw_cell_below HB6.out X0.out, pw_cell_below HB6.out X1.out, pw_cell_below HB6.out X2.out, pw_cell_below HB6.out X3.out, pw_cell_below HB6.out X4.out, pw_cell_below HB6.out X5.out, pw_cell_below HB6.out X6.out, pw_cell_below HB6.out X7.out⟩ (fun hHeld => ?_)
                    clear hK K
                    refine norm_ (a' := ?_) ?_ ?_
                    rotate_left
                    ·show Act.put _ (some 154) _ = _
                     simp only [Act.put, List.setIfInBounds_toArray, List.set_cons_zero, List.set_cons_succ, i64_w, i32_w]
                     rfl
                    refine pure_ (i := 22) (N := some 155) (v := ?_) (a' := ?_) ba10_23 rfl rfl (any_of HT_.out (zq42)) (fun _ _ _ h => h) (Or.inl ⟨by rfl, ?_⟩) ?_ ?_; rotate_left; exact zs0; rotate_left; exact zs1
                    refine pure_ (i := 23) (N := some 156) (v := ?_) (a' := ?_) ba10_24 rfl rfl (any_of HT_.out (zq42)) (fun _ _ _ h => h) (Or.inl ⟨by rfl, ?_⟩) ?_ ?_; rotate_left; exact zs0; rotate_left; exact zs1
                    refine pure_ (i := 24) (N := some 157) (v := ?_) (a' := ?_) ba10_25 rfl rfl (any_of HT_.out (zq42)) (fun _ _ _ h => h) (Or.inl ⟨by rfl, ?_⟩) ?_ ?_; rotate_left; exact zs0; rotate_left; exact zs1
                    refine pure_ (i := 25) (N := some 158) (v := ?_) (a' := ?_) ba10_26 rfl rfl (any_of HT_.out (zq42)) (fun _ _ _ h => h) (Or.inl ⟨by rfl, ?_⟩) ?_ ?_; rotate_left; exact zs0; rotate_left; exact zs1
                    refine pure_ (i := 26) (N := some 159) (v := ?_) (a' := ?_) ba10_27 rfl rfl (any_of HT_.out (zq42)) (fun _ _ _ h => h) (Or.inl ⟨by rfl, ?_⟩) ?_ ?_; rotate_left; exact zs0; rotate_left; exact zs1
                    refine pure_ (i := 27) (N := some 160) (v := ?_) (a' := ?_) ba10_28 rfl rfl (any_of HT_.out (zq42)) (fun _ _ _ h => h) (Or.inl ⟨by rfl, ?_⟩) ?_ ?_; rotate_left; exact zs0; rotate_left; exact zs1
                    refine pure_ (i := 28) (N := some 161) (v := ?_) (a' := ?_) ba10_29 rfl rfl (any_of HT_.out (zq42)) (fun _ _ _ h => h) (Or.inl ⟨by rfl, ?_⟩) ?_ ?_; rotate_left; exact zs0; rotate_left; exact zs1
                    refine pure_ (i := 29) (N := some 162) (v := ?_) (a' := ?_) ba10_30 rfl rfl (any_of HT_.out (zq42)) (fun _ _ _ h => h) (Or.inl ⟨by rfl, ?_⟩) ?_ ?_; rotate_left; exact zs0; rotate_left; exact zs1
                    refine take_ (i := 30) (N := some 163) (v := ?_) (a' := ?_) ba10_31 rfl rfl (take_ofW HT_.out HW_.out (zq42)) (fun _ _ _ h => h) (Or.inl ⟨by rfl, ?_⟩) hHeld ?_ ?_
                    rotate_left
                    ·rintro w' ⟨s0, s1, s2, s3, s4, s5, s6, s7, s8, s9, s10, s11, s12⟩
                     go_simp
                     with_reducible rfl
                    rotate_left
                    exact zs1
                    refine pure_ (i := 31) (N := some 164) (v := ?_) (a' := ?_) ba10_32 rfl rfl (any_of HT_.out (zq42)) (fun _ _ _ h => h) (Or.inl ⟨by rfl, ?_⟩) ?_ ?_; rotate_left; exact zs0; rotate_left; exact zs1
                    refine take_ (i := 32) (N := some 165) (v := ?_) (a' := ?_) ba10_33 rfl rfl (take_ofW HT_.out HW_.out (zq42)) (fun _ _ _ h => h) (Or.inl ⟨by rfl, ?_⟩) hHeld ?_ ?_
                    rotate_left
                    ·rintro w' ⟨s0, s1, s2, s3, s4, s5, s6, s7, s8, s9, s10, s11, s12⟩
                     go_simp
                     with_reducible rfl
                    rotate_left
                    exact zs1
                    refine pure_ (i := 33) (N := some 166) (v := ?_) (a' := ?_) ba10_34 rfl rfl (any_of HT_.out (zq42)) (fun _ _ _ h => h) (Or.inl ⟨by rfl, ?_⟩) ?_ ?_; rotate_left; exact zs0; rotate_left; exact zs1
                    refine pure_ (i := 34) (N := some 167) (v := ?_) (a' := ?_) ba10_35 rfl rfl (any_of HT_.out (zq42)) (fun _ _ _ h => h) (Or.inl ⟨by rfl, ?_⟩) ?_ ?_; rotate_left; exact zs0; rotate_left; exact zs1
                    refine pure_ (i := 35) (N := some 168) (v := ?_) (a' := ?_) ba10_36 rfl rfl (any_of HT_.out (zq42)) (fun _ _ _ h => h) (Or.inl ⟨by rfl, ?_⟩) ?_ ?_; rotate_left; exact zs0; rotate_left; exact zs1
                    refine pure_ (i := 36) (N := some 169) (v := ?_) (a' := ?_) ba10_37 rfl rfl (any_of HT_.out (zq42)) (fun _ _ _ h => h) (Or.inl ⟨by rfl, ?_⟩) ?_ ?_; rotate_left; exact zs0; rotate_left; exact zs1
                    refine take_ (i := 37) (N := some 170) (v := ?_) (a' := ?_) ba10_38 rfl rfl (take_ofW HT_.out HW_.out (zq42)) (fun _ _ _ h => h) (Or.inl ⟨by rfl, ?_⟩) hHeld ?_ ?_
                    rotate_left
                    ·rintro w' ⟨s0, s1, s2, s3, s4, s5, s6, s7, s8, s9, s10, s11, s12⟩
                     go_simp
                     with_reducible rfl
                    rotate_left
                    exact zs1
                    refine pure_ (i := 38) (N := some 171) (v := ?_) (a' := ?_) ba10_39 rfl rfl (any_of HT_.out (zq42)) (fun _ _ _ h => h) (Or.inl ⟨by rfl, ?_⟩) ?_ ?_; rotate_left; exact zs0; rotate_left; exact zs1
                    refine take_ (i := 39) (N := some 172) (v := ?_) (a' := ?_) ba10_40 rfl rfl (take_ofW HT_.out HW_.out (zq42)) (fun _ _ _ h => h) (Or.inl ⟨by rfl, ?_⟩) hHeld ?_ ?_
                    rotate_left
                    ·rintro w' ⟨s0, s1, s2, s3, s4, s5, s6, s7, s8, s9, s10, s11, s12⟩
                     go_simp
                     with_reducible rfl
                    rotate_left
                    exact zs1
                    refine one_ (i := 40) (N := some 173) ba10_41 rfl rfl (one_of HT_.out (zq42)) (by decide) (fun K hK => ?_)
                    refine goes_ Try.func29 (zq42) rfl #[.int .i64 a0, .int .u64 (rd (rd_T26 F (i : Int)).f1 0), .int .u64 (rd (rd_T26 G (i : Int)).f1 0)] (by rfl) rfl rfl (zq32) ?_
                    with_reducible refine (HAd.out _).mono ?_
                    rintro e w7 ⟨rfl, ⟨n7, rfl⟩⟩
                    refine ⟨_, rfl, ?_⟩
                    have HB7 := Aside0.mk (pw_below_drewN HB6.out n7)
                    obtain ⟨t0, t1, t2, t3, t4, -⟩ := cells_5 (blk_below K3.out HB7.out)
                    refine hK.out _ _ ⟨t0, t1, t2, t3, t4, pw_cell_below HB7.out X0.out, pw_cell_below HB7.out X1.out, pw_cell_below HB7.out X2.out, pw_cell_below HB7.out X3.out, pw_cell_below HB7.out X4.out, pw_cell_below HB7.out X5.out, pw_cell_below HB7.out X6.out, pw_cell_below HB7.out X7.out⟩ (fun hHeld => ?_)
                    clear hK K
                    refine norm_ (a' := ?_) ?_ ?_
                    rotate_left
                    ·show Act.put _ (some 173) _ = _
                     simp only [Act.put, List.setIfInBounds_toArray, List.set_cons_zero, List.set_cons_succ, i64_w, i32_w]
                     rfl
                    refine pure_ (i := 41) (N := some 174) (v := ?_) (a' := ?_) ba10_42 rfl rfl (any_of HT_.out (zq42)) (fun _ _ _ h => h) (Or.inl ⟨by rfl, ?_⟩) ?_ ?_; rotate_left; exact zs0; rotate_left; exact zs1
                    refine pure_ (i := 42) (N := some 175) (v := ?_) (a' := ?_) ba10_43 rfl rfl (any_of HT_.out (zq42)) (fun _ _ _ h => h) (Or.inl ⟨by rfl, ?_⟩) ?_ ?_; rotate_left; exact zs0; rotate_left; exact zs1
                    refine done_ (done_of HT_.out (zq42)) ?_
                    try go_wp2
                    go_roundw
                    all_goals first
                      | (case rel => exact ⟨i + 1, q, by omega, by go_num, ⟨HB7.out⟩, HQ⟩)
                      | (case measure => simp [intOf]; omega)
end Go.Proofs.Ytcmaidpoolcelaa.P
