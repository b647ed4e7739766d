/- Functions of the program as plain Lean functions, and proofs that the machine's calls do what these do: written by a program of this workplace (wip/tools/pp.py). -/
import Derived.BigQuiet
import Derived.Deep.DeepCutAuto
import Derived.Deep.RegionHeld3
import Derived.Deep.RegionLaw
import Derived.Deep.RegionWith
import Derived.IntWalk
import Derived.Lib.Hide
import Derived.Outline
import Derived.Test.YtcmaidpoolcelaaMcPx0
import Derived.WalkSpells
import Derived.Test.YtcmaidpoolcelaaMcK3
import Derived.Test.YtcmaidpoolcelaaMcK4
import Derived.Test.YtcmaidpoolcelaaMcK5
import Derived.Test.YtcmaidpoolcelaaMcK7
import Derived.Test.YtcmaidpoolcelaaMcK9
import Derived.Test.YtcmaidpoolcelaaMcSh
namespace Go.Proofs.Ytcmaidpoolcelaa.P
open Go.RowKit Go.Proofs.YtcmaidpoolcelaaW.PrintWords Go.Proofs.YtcmaidpoolcelaaW.PrintLast Go.Proofs.YtcmaidpoolcelaaW.PrintMore
attribute [local go_sem] max2_int min2_int max_two min_two max_three min_three max_four min_four   -- for this text's walks alone
set_option linter.unusedVariables false
set_option linter.unusedSimpArgs false

/-! ### matrix_Finish: function 46 -/
mutual
def matrix_Finish.j0 : Nat → List (S26) → List Int → List Int → Int → Bool → Int → Int → Int → Int → Int → Option ((List (S26)) × Int)
 | 0, _, _, _, _, _, _, _, _, _, _ => none
 | k + 1, x1, x11, x13, x14, x73, x915000, x915001, x915002, x915003, x915004 => if x73 = true then (some (([] : List (S26)), 11)) else (if 0 ≤ (x1.length : Int) then (if ((x1.length : Int) : Int).toNat ≤ 3909374676536 then (matrix_Finish.l0 k x11 x13 x14 (([] : List (S26))) x1 (x1.length : Int) 0 x915000 x915001 x915002 x915003 x915004) else (none)) else (none))
def matrix_Finish.l0 : Nat → List Int → List Int → Int → List (S26) → List (S26) → Int → Int → Int → Int → Int → Int → Int → Option ((List (S26)) × Int)
 | 0, _, _, _, _, _, _, _, _, _, _, _, _ => none
 | k + 1, x11, x13, x14, x15, x77, x78, x79, x915000, x915001, x915002, x915003, x915004 => if x79 < x78 then (if 0 ≤ x79 then (if x79 < (x77.length : Int) then ((ring_MatMul.f k x915001 x915002 x915003 x915004 ((rd_T26 x77 x79).f0) ((rd_T26 x77 x79).f1)).bind fun bt929 => (if bt929.2 = 0 then (if 0 ≤ (wrap64 (x79 * x14)) then (if (wrap64 (x79 * x14)) ≤ (wrap64 ((wrap64 (x79 + 1)) * x14)) then (if (wrap64 ((wrap64 (x79 + 1)) * x14)) ≤ (x11.length : Int) then ((matrix_gather.f k x915000 x915001 x915002 x915003 x915004 ((x11.take ((wrap64 ((wrap64 (x79 + 1)) * x14)) : Int).toNat).drop ((wrap64 (x79 * x14)) : Int).toNat)).bind fun t937 => ((ring_AddAll.f x915001 bt929.1 t937).bind fun bt940 => (if (wrap64 ((wrap64 (x79 + 1)) * x14)) ≤ (x13.length : Int) then ((matrix_gather.f k x915000 x915001 x915002 x915003 x915004 ((x13.take ((wrap64 ((wrap64 (x79 + 1)) * x14)) : Int).toNat).drop ((wrap64 (x79 * x14)) : Int).toNat)).bind fun t948 => ((ring_AddAll.f x915001 bt940.1 t948).bind fun bt951 => (if ([] : List Int).length + ((rd_T26 x77 x79).f0).length < 17592186044416 then (if ([] : List Int).length + ((rd_T26 x77 x79).f1).length < 17592186044416 then (if x15.length < 1954687338268 then (matrix_Finish.l0 k x11 x13 x14 (x15 ++ [(⟨(([] : List Int) ++ ((rd_T26 x77 x79).f0)), (([] : List Int) ++ ((rd_T26 x77 x79).f1)), bt951.1⟩ : S26)]) x77 x78 (wrap64 (x79 + 1)) x915000 x915001 x915002 x915003 x915004) else (none)) else (none)) else (none)))) else (none)))) else (none)) else (none)) else (none)) else (some (([] : List (S26)), bt929.2)))) else (none)) else (none)) else (some (x15, 0))
end
def matrix_Finish.f (k : Nat) (a0_0 : Int) (a0_1 : Int) (a0_2 : Int) (a0_3 : Int) (a0_4 : Int) (l1 : List (S26)) (l2 : List Int) (l3 : List Int) : Option ((List (S26)) × Int) := (matrix_wrong.f k a0_0 a0_1 a0_2 a0_3 a0_4 l1).bind fun t915 => (if t915 = 0 then ((gilboa_Fold.f k a0_1 a0_4 l2).bind fun bt916 => (if bt916.2 = 0 then ((gilboa_Fold.f k a0_1 a0_4 l3).bind fun bt920 => (if bt920.2 = 0 then (if (bt916.1.length : Int) = (wrap64 ((wrap64 ((wrap64 (a0_2 * a0_3)) * a0_4)) * (l1.length : Int))) then (matrix_Finish.j0 k l1 bt916.1 bt920.1 (wrap64 ((wrap64 (a0_2 * a0_3)) * a0_4)) ((bt920.1.length : Int) != (wrap64 ((wrap64 ((wrap64 (a0_2 * a0_3)) * a0_4)) * (l1.length : Int)))) a0_0 a0_1 a0_2 a0_3 a0_4) else (matrix_Finish.j0 k l1 bt916.1 bt920.1 (wrap64 ((wrap64 (a0_2 * a0_3)) * a0_4)) true a0_0 a0_1 a0_2 a0_3 a0_4)) else (some (([] : List (S26)), bt920.2)))) else (some (([] : List (S26)), bt916.2)))) else (some (([] : List (S26)), t915)))
def matrix_Finish.T20 : Bool × List (List Nat × List Nat) := (true, [([], []), ([0], [0]), ([], []), ([], []), ([], []), ([], []), ([], []), ([5, 6], [5, 6]), ([], []), ([8], [8]), ([], []), ([9, 10], [9, 10]), ([4, 7, 11], [4, 7, 11]), ([3, 12], [3, 12]), ([1, 2, 13, 13], [1, 2, 13]), ([14], [14]), ([15], [15]), ([15], [15]), ([16, 14, 0, 1, 2, 3, 4, 5, 6, 7, 8, 9, 10, 11, 12, 13, 14, 15, 16], [2, 16])])
def matrix_Finish.B20 : List Nat := [0, 1, 0, 0, 0, 0, 0, 96, 0, 256, 0, 1792, 4080, 8184, 16383, 32767, 65535, 65535, 131071]
theorem matrix_Finish.tab20 : rtab .any (opsOf Try.f46 20) = matrix_Finish.T20 := by kernel_rfl
theorem matrix_Finish.bits20 : waitsOk matrix_Finish.T20.2 matrix_Finish.B20 = true := by kernel_rfl
def matrix_Finish.T21 : Bool × List (List Nat × List Nat) := (true, [([], []), ([0], [0]), ([], []), ([], []), ([], []), ([], []), ([], []), ([5, 6], [5, 6]), ([], []), ([8], [8]), ([], []), ([9, 10], [9, 10]), ([4, 7, 11], [4, 7, 11]), ([3, 12], [3, 12]), ([1, 2, 13, 13], [1, 2, 13]), ([14], [14]), ([15], [15]), ([15], [15]), ([16, 14, 0, 1, 2, 3, 4, 5, 6, 7, 8, 9, 10, 11, 12, 13, 14, 15, 16], [2, 16])])
def matrix_Finish.B21 : List Nat := [0, 1, 0, 0, 0, 0, 0, 96, 0, 256, 0, 1792, 4080, 8184, 16383, 32767, 65535, 65535, 131071]
theorem matrix_Finish.tab21 : rtab .any (opsOf Try.f46 21) = matrix_Finish.T21 := by kernel_rfl
theorem matrix_Finish.bits21 : waitsOk matrix_Finish.T21.2 matrix_Finish.B21 = true := by kernel_rfl
def matrix_Finish.T22 : Bool × List (List Nat × List Nat) := (true, [([], []), ([], []), ([1], [1]), ([2], [2]), ([], []), ([4], [4]), ([5, 3], [5]), ([], []), ([3, 6, 7], [3, 6, 7]), ([8], [8]), ([0, 9, 6], [0, 9]), ([10, 10, 0, 1, 2, 3, 4, 5, 6, 7, 8, 9, 10], [0, 10])])
def matrix_Finish.B22 : List Nat := [0, 0, 2, 6, 0, 16, 62, 0, 254, 510, 1023, 2047]
theorem matrix_Finish.tab22 : rtab .any (opsOf Try.f46 22) = matrix_Finish.T22 := by kernel_rfl
theorem matrix_Finish.bits22 : waitsOk matrix_Finish.T22.2 matrix_Finish.B22 = true := by kernel_rfl
-- HELP matrix_Finish
def MFinAns (w : World) (r1 : List S26) (r2 : Int) (e : Ending) (w' : World) : Prop := ∃ v0_ : Value, e = .returned (.tuple #[v0_, .int .i64 r2]) ∧ Kd.S k26 26 w' w.heap.size (fun _ => True) v0_ r1 ∧ Below w.heap.size w w'
theorem mfin_none {w w' : World} {r2 : Int} {e : Ending} (he : e = .returned (.tuple #[.slice none 0 0, .int .i64 r2])) (hb : Below w.heap.size w w') : MFinAns w [] r2 e w' := ⟨_, he, Kd.S_nil _ _ _ _ _, hb⟩
/-- a part of a row of numbers -/
theorem mfin_cut {w : World} {A : Option Addr} {c : Nat} {xs : List Int} (h : Kd.C (Kd.int .u64) w A xs.length xs) (hc : xs.length ≤ c) (lo hi : Int) (h0 : 0 ≤ lo) (h1 : lo ≤ hi) (h2 : hi ≤ (xs.length : Int)) (Y : List Int) (hY : Y = (xs.take hi.toNat).drop lo.toNat) :
    ∃ A1 c1, (∀ W : World, (Instr.slice 24 (.slice A xs.length c) (some (.int .i64 lo)) (some (.int .i64 hi)) none).run Try.prog W = .ok (.slice A1 Y.length c1) W) ∧ Kd.C (Kd.int .u64) w A1 Y.length Y ∧ Y.length ≤ c1 := by
  obtain ⟨i0, hi0, _, hz1, _⟩ := info_parts info35
  have hcut := cut_mid (P := Try.prog) 24 35 .i64 .i64 Try.underlying24 hi0 1 hz1 A xs.length c lo hi h0 h1 h2 hc
  have hl : Y.length = hi.toNat - lo.toNat := by rw [hY, List.length_drop, List.length_take]; omega
  have hr := Kd.C_mid (lo := lo.toNat) (hi := hi.toNat) (c := c) h (by omega) (by omega) hc
  rw [← hY] at hr
  rw [← hl] at hcut
  refine ⟨_, _, hcut, hr, ?_⟩
  rw [hl]
  omega
/-- what a callee made is of its own -/
theorem mfin_fresh {W w1 : World} {n : Nat} {v : Value} {xs : List Int} (h : Kd.R (Kd.int .u64) 35 w1 W.heap.size (fun _ => True) v xs) (hn : n ≤ W.heap.size) : Kd.R (Kd.int .u64) 35 w1 n (fun k => n ≤ k) v xs :=
  Kd.R_lower (Kd.R_mono (Kd.R_bound h) (fun k hk => Nat.le_trans hn hk.2.1)) hn
/-- append([]uint64(nil), xs...) in a region -/
theorem mfin_clone {ops : Array Oper} {Q : Exit → Act → World → Prop} {o : Oper} {a : Act} {Kc : Act → World → Prop} {W : World} (hw : Region.wanted o (yielded ops a.tmps) = true) (x : Operand)
    (ho : o.op = .call { callee := .builtin .append, args := #[.const (.slice none 0 0), x], argTypes := #[24, 24] }) (A : Option Addr) (c : Nat) (ys : List Int) (hx : a.eval x = .slice A ys.length c)
    (HR : Kd.C (Kd.int .u64) W A ys.length ys) (hl : ys.length < 17592186044416) (h : ∀ v1 w1, Kd.R (Kd.int .u64) 35 w1 W.heap.size (fun _ => True) v1 ys → Below W.heap.size W w1 → Kc (a.put o.dst v1) w1) :
    if Region.wanted o (yielded ops a.tmps) = true then Oper.wp Try.prog o a W Kc Q else Kc (a.put o.dst undef) W :=
  Kd.R_append_rows_step (Kd.int .u64) (Rr := (Kd.int .u64).K W) (w0 := W) W.heap.size hw (.const (.slice none 0 0)) x 24 35 (.int .u64 0) 8 ho Try.underlying24 info35 rfl (by decide) (by omega) (.slice none 0 0) [] ys A ys.length c (fun _ => True) (fun _ => False) rfl hx
    (Kd.R_nil _ _ _ _ _) HR (fun _ _ h => h) (fun _ hk => hk.elim) (fun _ _ => trivial) (Below.refl _ _) (Nat.le_refl _) (by simp; omega) (fun v1 w1 hr hb _ _ => h v1 w1 hr hb)
theorem mfin_append {ops : Array Oper} {Q : Exit → Act → World → Prop} {o : Oper} {a : Act} {Kc : Act → World → Prop} {X w0 : World} (base : Nat) (hw : Region.wanted o (yielded ops a.tmps) = true) (s x : Operand)
    (ho : o.op = .call { callee := .builtin .append, args := #[s, x], argTypes := #[30, 30] }) (v : Value) (xs : List S26) (p : S26) (v0 v1 v2 : Value) (nb : Nat) (hs : a.eval s = v) (hx : a.eval x = .slice (some ⟨X.heap.size, 0, none⟩) 1 1)
    (r0 : Kd.R (Kd.int .u64) 35 X base (fun k => nb ≤ k) v0 p.f0) (r1 : Kd.R (Kd.int .u64) 35 X base (fun k => nb ≤ k) v1 p.f1) (r2 : Kd.R (Kd.int .u64) 35 X base (fun k => nb ≤ k) v2 p.f2) (HO : Kd.S k26 26 X base (fun k => True ∧ k < nb) v xs) (HB : Below base w0 X) (hbase : base ≤ X.heap.size) (hl : xs.length < 1954687338268)
    (h : ∀ v1 w1, Kd.S k26 26 w1 base (fun _ => True) v1 (xs ++ [p]) → Below base w0 w1 → X.grownBy w1 v.ownBlock → some nb ≠ v.ownBlock → Kc (a.put o.dst v1) w1) :
    if Region.wanted o (yielded ops a.tmps) = true then Oper.wp Try.prog o a (X.alloc (.cells #[v0, v1, v2] 26)) Kc Q else Kc (a.put o.dst undef) (X.alloc (.cells #[v0, v1, v2] 26)) := by
  exact Kd.S_append_step k26 (w0 := w0) base hw s x 30 26 (.agg #[(.slice none 0 0), (.slice none 0 0), (.slice none 0 0)]) 72 ho Try.underlying30 info26 rfl (by decide) (by omega) v xs p [v0, v1, v2] (fun _ => True) (fun k => nb ≤ k) hs hx (k26_mkM _ _ _ p r0 r1 r2) (fun k hk => ⟨trivial, fun e => by have := (Kd.S_R HO).1 k e.symm; omega⟩) (fun _ _ => trivial) (Kd.S_mono HO (fun k hk => ⟨trivial, by have := hk.2; omega⟩)) HB hbase (by omega) (fun v1 w1 hr hb hg _ => h v1 w1 hr hb hg (fun e => by have := ((Kd.S_R HO).1 nb e.symm).2; omega))
theorem mfin_at {w : World} {A : Option Addr} {n : Nat} {xs : List S26} (h : Kd.C k26 w A n xs) (i : Nat) (h1 : (i : Int) < n) : ∃ ad A0 c0 A1 c1 A2 c2, A = some ad ∧ w.cell? (ad.add (i * 3)) = some (.slice A0 (rd_T26 xs (i : Int)).f0.length c0) ∧ w.cell? ⟨(ad.add (i * 3)).block, (ad.add (i * 3)).off + 1, none⟩ = some (.slice A1 (rd_T26 xs (i : Int)).f1.length c1) ∧ w.cell? ⟨(ad.add (i * 3)).block, (ad.add (i * 3)).off + 2, none⟩ = some (.slice A2 (rd_T26 xs (i : Int)).f2.length c2) ∧ (rd_T26 xs (i : Int)).f0.length ≤ c0 ∧ (Kd.int .u64).C w A0 (rd_T26 xs (i : Int)).f0.length (rd_T26 xs (i : Int)).f0 ∧ (rd_T26 xs (i : Int)).f1.length ≤ c1 ∧ (Kd.int .u64).C w A1 (rd_T26 xs (i : Int)).f1.length (rd_T26 xs (i : Int)).f1 := by
  obtain ⟨ad, A0, c0, A1, c1, A2, c2, e, x0, x1, x2, l0, i0, l1, i1, -, -⟩ := at_T26 h (i : Int) (by omega) h1
  rw [Int.toNat_natCast] at x0 x1 x2
  exact ⟨ad, A0, c0, A1, c1, A2, c2, e, x0, x1, x2, l0, i0, l1, i1⟩
-- END HELP
set_option maxHeartbeats 8000000 in
set_option maxRecDepth 100000 in
theorem matrix_Finish.calls (k : Nat) (a0_0 : Int) (a0_1 : Int) (a0_2 : Int) (a0_3 : Int) (a0_4 : Int) (A1 : Option Addr) (c1 : Nat) (l1 : List (S26)) (A2 : Option Addr) (c2 : Nat) (l2 : List Int) (A3 : Option Addr) (c3 : Nat) (l3 : List Int) (r1 : List (S26)) (r2 : Int) (w : World) (hr1 : Kd.C k26 w A1 l1.length l1) (hc1 : l1.length ≤ c1) (hr2 : Kd.C (Kd.int .u64) w A2 l2.length l2) (hc2 : l2.length ≤ c2) (hr3 : Kd.C (Kd.int .u64) w A3 l3.length l3) (hc3 : l3.length ≤ c3) (h : matrix_Finish.f k a0_0 a0_1 a0_2 a0_3 a0_4 l1 l2 l3 = some (r1, r2)) :
  Calls Try.prog 46 #[.agg #[.int .i64 a0_0, .int .i64 a0_1, .int .i64 a0_2, .int .i64 a0_3, .int .i64 a0_4], .slice A1 l1.length c1, .slice A2 l2.length c2, .slice A3 l3.length c3] w fun e w' => ∃ v0_ : Value, e = .returned (.tuple #[v0_, .int .i64 r2]) ∧ Kd.S k26 26 w' w.heap.size (fun _ => True) v0_ r1 ∧ Below w.heap.size w w' := by
 show Calls Try.prog 46 _ w (MFinAns w r1 r2)
 have hm1 := Kd.C_max hr1
 have HR1 := Aside0.mk hr1
 have HR2 := Aside0.mk hr2
 have HR3 := Aside0.mk hr3
 have HK := Aside0.mk (heap_alloc_new w (.cells #[.int .i64 a0_0, .int .i64 a0_1, .int .i64 a0_2, .int .i64 a0_3, .int .i64 a0_4] 23))
 have HB0 := Aside0.mk (below_alloc (Below.refl w.heap.size w) (.cells #[.int .i64 a0_0, .int .i64 a0_1, .int .i64 a0_2, .int .i64 a0_3, .int .i64 a0_4] 23))
 clear hr1 hr2 hr3
 obtain ⟨pe, hp, H⟩ := Option.bind_eq_some_iff.mp h
 clear h
 have HP := Lib.hid hp
 clear hp
 have HP1 := fun W hb => matrix_wrong.calls k a0_0 a0_1 a0_2 a0_3 a0_4 A1 c1 l1 pe W (Kd.C_below HR1.out hb) hc1 HP.out
 have HPC := Lib.hid HP1
 clear HP1
 by_cases h1 : pe = 0
 case neg =>
  replace H := (if_neg h1).symm.trans H
  simp only [Option.some.injEq, Prod.mk.injEq] at H
  obtain ⟨rfl, rfl⟩ := H
  have hne : (pe != 0) = true := by simp [h1]
  clear h1
  go_enter Try.func46, Try.ntmps46
  go_wp2_with (go_at_call 79; (with_reducible refine (HPC.out _ HB0.out).mono ?_); rintro e w1 ⟨rfl, hb⟩; have HB1 := Aside0.mk (below_step HB0.out hb); clear hb)
  go_ret2
  exact mfin_none rfl HB1.out
 case pos =>
 replace H := (if_pos h1).symm.trans H
 have hpe : (pe != 0) = false := by simp [h1]
 clear h1
 obtain ⟨⟨xa, xe⟩, hf, H⟩ := Option.bind_eq_some_iff.mp H
 have HF := Lib.hid hf
 clear hf
 have HF1 := fun W hb => gilboa_Fold.calls k a0_1 a0_4 A2 c2 l2 xa xe W (Kd.C_below HR2.out hb) hc2 HF.out
 have HFC := Lib.hid HF1
 clear HF1
 by_cases h2 : xe = 0
 case neg =>
  replace H : some (([] : List S26), xe) = some (r1, r2) := (if_neg h2).symm.trans H
  simp only [Option.some.injEq, Prod.mk.injEq] at H
  obtain ⟨rfl, rfl⟩ := H
  have hne : (xe != 0) = true := by simp [h2]
  clear h2
  go_enter Try.func46, Try.ntmps46
  go_wp2_with (first
    | (go_at_call 79; (with_reducible refine (HPC.out _ HB0.out).mono ?_); rintro e w1 ⟨rfl, hb⟩; have HB1 := Aside0.mk (below_step HB0.out hb); obtain ⟨g0, g1, g2, g3, g4, -⟩ := cells_5 (blk_below HK.out hb); clear hb)
    | (go_at_call 71; (with_reducible refine (HFC.out _ HB1.out).mono ?_); rintro e w2 ⟨v2, rfl, ho2, hb⟩; have HB2 := Aside0.mk (below_step HB1.out hb); clear ho2 hb))
  go_ret2
  exact mfin_none rfl HB2.out
 case pos =>
 replace H := (if_pos h2).symm.trans H
 have hxe : (xe != 0) = false := by simp [h2]
 clear h2
 obtain ⟨⟨ya, ye⟩, hf, H⟩ := Option.bind_eq_some_iff.mp H
 have HG := Lib.hid hf
 clear hf
 have HG1 := fun W hb => gilboa_Fold.calls k a0_1 a0_4 A3 c3 l3 ya ye W (Kd.C_below HR3.out hb) hc3 HG.out
 have HGC := Lib.hid HG1
 clear HG1
 have tok : True := trivial
 by_cases h3 : ye = 0
 case neg =>
  replace H : some (([] : List S26), ye) = some (r1, r2) := (if_neg h3).symm.trans H
  simp only [Option.some.injEq, Prod.mk.injEq] at H
  obtain ⟨rfl, rfl⟩ := H
  have hne : (ye != 0) = true := by simp [h3]
  clear h3
  go_enter Try.func46, Try.ntmps46
  go_wp2_with (first
    | (go_at_call 79; (with_reducible refine (HPC.out _ HB0.out).mono ?_); rintro e w1 ⟨rfl, hb⟩; have HB1 := Aside0.mk (below_step HB0.out hb); have k1 := blk_below HK.out hb; have K1 := Aside0.mk k1; obtain ⟨g0, g1, g2, g3, g4, -⟩ := cells_5 k1; clear hb k1)
    | (go_at_call 71; have _t := tok; (with_reducible refine (HFC.out _ HB1.out).mono ?_); rintro e w2 ⟨v2, rfl, ho2, hb⟩; have HB2 := Aside0.mk (below_step HB1.out hb); obtain ⟨m0, m1, m2, m3, m4, -⟩ := cells_5 (blk_below K1.out hb); clear ho2 hb tok)
    | (go_at_call 71; (with_reducible refine (HGC.out _ HB2.out).mono ?_); rintro e w3 ⟨v3, rfl, ho3, hb⟩; have HB3 := Aside0.mk (below_step HB2.out hb); clear ho3 hb))
  go_ret2
  exact mfin_none rfl HB3.out
 case pos =>
 replace H : (if (xa.length : Int) = wrap64 (wrap64 (wrap64 (a0_2 * a0_3) * a0_4) * (l1.length : Int)) then (matrix_Finish.j0 k l1 xa ya (wrap64 (wrap64 (a0_2 * a0_3) * a0_4)) ((ya.length : Int) != wrap64 (wrap64 (wrap64 (a0_2 * a0_3) * a0_4) * (l1.length : Int))) a0_0 a0_1 a0_2 a0_3 a0_4) else (matrix_Finish.j0 k l1 xa ya (wrap64 (wrap64 (a0_2 * a0_3) * a0_4)) true a0_0 a0_1 a0_2 a0_3 a0_4)) = some (r1, r2) := (if_pos h3).symm.trans H
 have hye : (ye != 0) = false := by simp [h3]
 clear h3
 obtain ⟨s1, hs1⟩ : ∃ x, wrap64 (a0_2 * a0_3) = x := ⟨_, rfl⟩
 obtain ⟨sz, hsz⟩ : ∃ x, wrap64 (s1 * a0_4) = x := ⟨_, rfl⟩
 obtain ⟨tot, htot⟩ : ∃ x, wrap64 (sz * (l1.length : Int)) = x := ⟨_, rfl⟩
 rw [hs1, hsz, htot] at H
 have ws1 : IntKind.i64.wrap (a0_2 * a0_3) = s1 := (i64_w _).trans hs1
 have wsz : IntKind.i64.wrap (s1 * a0_4) = sz := (i64_w _).trans hsz
 have wtot : IntKind.i64.wrap (sz * (l1.length : Int)) = tot := (i64_w _).trans htot
 obtain ⟨k, rfl⟩ : ∃ q, k = q + 1 := by
  cases k with
  | zero => split at H <;> cases H
  | succ q => exact ⟨q, rfl⟩
 by_cases hlen : (xa.length : Int) = tot ∧ (ya.length : Int) = tot
 case neg =>
  obtain ⟨rfl, rfl⟩ : [] = r1 ∧ 11 = r2 := by
   by_cases h4 : (xa.length : Int) = tot
   · rw [if_pos h4] at H
     have h5 : ((ya.length : Int) != tot) = true := by rw [bne_iff_ne]; omega
     rw [h5] at H
     simp only [matrix_Finish.j0, if_true, Option.some.injEq, Prod.mk.injEq] at H
     exact H
   · rw [if_neg h4] at H
     simp only [matrix_Finish.j0, if_true, Option.some.injEq, Prod.mk.injEq] at H
     exact H
  have h6 : ((xa.length : Int) != tot) = true ∨ (((xa.length : Int) != tot) = false ∧ ((ya.length : Int) != tot) = true) := by
   rw [bne_iff_ne, bne_iff_ne, bne_eq_false_iff_eq]
   omega
  clear H hlen
  rcases h6 with h6 | ⟨h6, h7⟩
  all_goals
   go_enter Try.func46, Try.ntmps46
   go_wp2_with (first
    | (go_at_call 79; (with_reducible refine (HPC.out _ HB0.out).mono ?_); rintro e w1 ⟨rfl, hb⟩; have HB1 := Aside0.mk (below_step HB0.out hb); have k1 := blk_below HK.out hb; have K1 := Aside0.mk k1; obtain ⟨g0, g1, g2, g3, g4, -⟩ := cells_5 k1; clear hb k1)
    | (go_at_call 71; have _t := tok; (with_reducible refine (HFC.out _ HB1.out).mono ?_); rintro e w2 ⟨v2, rfl, ho2, hb⟩; have HB2 := Aside0.mk (below_step HB1.out hb); have k1 := blk_below K1.out hb; have K2 := Aside0.mk k1; obtain ⟨m0, m1, m2, m3, m4, -⟩ := cells_5 k1; obtain ⟨A5, c5, rfl, -, -⟩ := Kd.R_reads ho2; clear ho2 hb tok k1)
    | (go_at_call 71; (with_reducible refine (HGC.out _ HB2.out).mono ?_); rintro e w3 ⟨v3, rfl, ho3, hb⟩; have HB3 := Aside0.mk (below_step HB2.out hb); obtain ⟨y0, y1, y2, y3, y4, -⟩ := cells_5 (blk_below K2.out hb); obtain ⟨A6, c6, rfl, -, -⟩ := Kd.R_reads ho3; clear ho3 hb))
   go_ret2
   exact mfin_none rfl HB3.out
 case pos =>
 obtain ⟨e1, e2⟩ := hlen
 have b6 : ((xa.length : Int) != tot) = false := by rw [bne_eq_false_iff_eq]; exact e1
 have b7 : ((ya.length : Int) != tot) = false := by rw [bne_eq_false_iff_eq]; exact e2
 rw [if_pos e1, b7] at H
 simp only [matrix_Finish.j0] at H
 rw [if_neg (by simp), if_pos (by omega), Int.toNat_natCast] at H
 have hcap : l1.length ≤ 3909374676536 := by
  by_cases hq : l1.length ≤ 3909374676536
  · exact hq
  · rw [if_neg hq] at H; cases H
 rw [if_pos hcap] at H
 have HH := Lib.hid H
 clear H
 have E1 := Lib.hid e1
 have E2 := Lib.hid e2
 clear e1 e2
 go_enter Try.func46, Try.ntmps46
 go_wp2_with (first
    | (go_at_call 79; (with_reducible refine (HPC.out _ HB0.out).mono ?_); rintro e w1 ⟨rfl, hb⟩; have HB1 := Aside0.mk (below_step HB0.out hb); have k1 := blk_below HK.out hb; have K1 := Aside0.mk k1; obtain ⟨g0, g1, g2, g3, g4, -⟩ := cells_5 k1; clear hb k1)
    | (go_at_call 71; have _t := tok; (with_reducible refine (HFC.out _ HB1.out).mono ?_); rintro e w2 ⟨v2, rfl, ho2, hb⟩; have HB2 := Aside0.mk (below_step HB1.out hb); have k1 := blk_below K1.out hb; have K2 := Aside0.mk k1; obtain ⟨m0, m1, m2, m3, m4, -⟩ := cells_5 k1; obtain ⟨A5, c5, rfl, hl5, hr5⟩ := Kd.R_reads ho2; have HR5 := Aside0.mk hr5; clear ho2 hb tok k1 hr5)
    | (go_at_call 71; (with_reducible refine (HGC.out _ HB2.out).mono ?_); rintro e w3 ⟨v3, rfl, ho3, hb⟩; have HB3 := Aside0.mk (below_step HB2.out hb); have k1 := blk_below K2.out hb; have K3 := Aside0.mk k1; obtain ⟨A6, c6, rfl, hl6, hr6⟩ := Kd.R_reads ho3; have HR6 := Aside0.mk hr6; have HR5b := Aside0.mk (Kd.C_below HR5.out hb); obtain ⟨y0, y1, y2, y3, y4, -⟩ := cells_5 k1; clear ho3 hb k1 hr6)
    | (refine Kd.S_makecap k26 _ 26 rfl (N := 76) rfl 30 _ _ rfl (l1.length : Int) rfl rfl Try.underlying30 (.agg #[(.slice none 0 0), (.slice none 0 0), (.slice none 0 0)]) 72 info26 rfl (by decide) (by omega) z26 (ok := fun _ => True) (okp := fun _ => True) (k26_mkM _ _ _ z26 (Kd.R_nil _ _ _ _ _) (Kd.R_nil _ _ _ _ _) (Kd.R_nil _ _ _ _ _)) (fun _ hk => hk) trivial (by omega) (by rw [Int.toNat_natCast]; omega) (Below.refl _ _) (Nat.le_refl _) ?_; intro v4 w4 ho4 hb4 hg_ hnew_; have HO4 := Aside0.mk ho4; have HB4 := Aside0.mk hb4; clear ho4 hb4 hg_ hnew_))
 have HS : Hid (matrix_Finish.l0 k xa ya sz [] l1 (l1.length : Int) ((0 : Nat) : Int) a0_0 a0_1 a0_2 a0_3 a0_4 = some (r1, r2)) := HH
 clear HH
 go_loopw [15, 79] (fun v15 v79 wr => ∃ (i q : Nat) (xs : List S26), i ≤ l1.length ∧ v79 = .int .i64 (i : Int) ∧ Aside0 (Kd.S k26 26 wr w3.heap.size (fun _ => True) v15 xs) ∧ Aside0 (Below w3.heap.size w3 wr) ∧ Hid (matrix_Finish.l0 q xa ya sz xs l1 (l1.length : Int) (i : Int) a0_0 a0_1 a0_2 a0_3 a0_4 = some (r1, r2))) (fun _ v79 _ => l1.length - (intOf v79).toNat)
 case atStart => exact ⟨0, k, [], by omega, rfl, HO4, HB4, HS⟩
 case round =>
  clear HS HO4 HB4
  obtain ⟨i, q, xs, hi, rfl, HO, HBR, HQ⟩ := hrel
  obtain ⟨q, rfl⟩ : ∃ p, q = p + 1 := by
   cases q with
   | zero => have := HQ.out; cases this
   | succ p => exact ⟨p, rfl⟩
  have H := HQ.out
  clear HQ
  simp only [matrix_Finish.l0] at H
  by_cases hlt : i < l1.length
  case neg =>
   rw [if_neg (by omega)] at H
   simp only [Option.some.injEq, Prod.mk.injEq] at H
   obtain ⟨rfl, rfl⟩ := H
   obtain rfl : i = l1.length := by omega
   clear hlt
   go_wp2
   go_ret2
   exact ⟨_, rfl, Kd.S_lower HO.out HB3.out.size, below_step HB3.out HBR.out⟩
  case pos =>
  have i0 : (0 : Int) ≤ (i : Int) := by omega
  have i1 : (i : Int) < (l1.length : Int) := by omega
  rw [if_pos i1, if_pos i0, if_pos i1] at H
  obtain ⟨⟨ma, me⟩, hmm, H⟩ := Option.bind_eq_some_iff.mp H
  have HM := Lib.hid hmm
  clear hmm
  have hR1 := Kd.C_below HR1.out (below_step HB3.out HBR.out)
  obtain ⟨ad, Aa, ca, Ab, cb, Ac, cc, rfl, x0, x1, x2, la, ia, lb, ib⟩ := mfin_at hR1 i i1
  have IA := Aside0.mk ia
  have IB := Aside0.mk ib
  have hk4 := blk_below K3.out HBR.out
  have K4 := Aside0.mk hk4
  have HLT := blk_lt hk4
  obtain ⟨y0, y1, y2, y3, y4, -⟩ := cells_5 hk4
  clear hR1 ia ib hk4 hlt
  have HMC := Lib.hid (fun W h1 h2 => ring_MatMul.calls q a0_1 a0_2 a0_3 a0_4 Aa ca (rd_T26 l1 (i : Int)).f0 Ab cb (rd_T26 l1 (i : Int)).f1 ma me W h1 la h2 lb HM.out)
  have BOX : True := trivial
  by_cases h4 : me = 0
  case neg =>
   replace H : some (([] : List S26), me) = some (r1, r2) := (if_neg h4).symm.trans H
   simp only [Option.some.injEq, Prod.mk.injEq] at H
   obtain ⟨rfl, rfl⟩ := H
   have hne : (me != 0) = true := by simp [h4]
   clear h4
   go_wp2_with (go_at_call 61; (with_reducible refine (HMC.out _ ?s1 ?s2).mono ?_); (case s1 => exact Kd.C_below IA.out (below_alloc (Below.refl _ _) _)); (case s2 => exact Kd.C_below IB.out (below_alloc (Below.refl _ _) _)); rintro e w6 ⟨v6, rfl, ho6, hb6⟩; have HB6 := Aside0.mk (below_step (below_alloc (Below.refl _ _) _) hb6); clear ho6 hb6)
   go_ret2
   exact mfin_none rfl (below_step (below_step HB3.out HBR.out) HB6.out)
  case pos =>
  replace H := (if_pos h4).symm.trans H
  have hme : (me != 0) = false := by simp [h4]
  clear h4
  obtain ⟨ni, hni⟩ : ∃ n : Int, n = ((i + 1 : Nat) : Int) := ⟨_, rfl⟩
  have e1 : wrap64 ((i : Int) + 1) = ni := by unfold wrap64; omega
  have HNI := Lib.hid hni
  clear hni
  rw [e1] at H
  obtain ⟨lo, hlo⟩ : ∃ x, wrap64 ((i : Int) * sz) = x := ⟨_, rfl⟩
  obtain ⟨up, hup⟩ : ∃ x, wrap64 (ni * sz) = x := ⟨_, rfl⟩
  rw [hlo, hup] at H
  have we1 : IntKind.i64.wrap ((i : Int) + 1) = ni := (i64_w _).trans e1
  have wlo : IntKind.i64.wrap ((i : Int) * sz) = lo := (i64_w _).trans hlo
  have wup : IntKind.i64.wrap (ni * sz) = up := (i64_w _).trans hup
  have u0 : 0 ≤ lo := by
   by_cases hq : 0 ≤ lo
   · exact hq
   · rw [if_neg hq] at H; cases H
  rw [if_pos u0] at H
  have u1 : lo ≤ up := by
   by_cases hq : lo ≤ up
   · exact hq
   · rw [if_neg hq] at H; cases H
  rw [if_pos u1] at H
  have u2 : up ≤ (xa.length : Int) := by
   by_cases hq : up ≤ (xa.length : Int)
   · exact hq
   · rw [if_neg hq] at H; cases H
  rw [if_pos u2] at H
  obtain ⟨Y1, hY1⟩ : ∃ Y, Y = (xa.take up.toNat).drop lo.toNat := ⟨_, rfl⟩
  obtain ⟨Y2, hY2⟩ : ∃ Y, Y = (ya.take up.toNat).drop lo.toNat := ⟨_, rfl⟩
  rw [← hY1, ← hY2] at H
  obtain ⟨G1, hg1, H⟩ := Option.bind_eq_some_iff.mp H
  obtain ⟨⟨ba, be⟩, ha1, H⟩ := Option.bind_eq_some_iff.mp H
  have u3 : up ≤ (ya.length : Int) := by
   by_cases hq : up ≤ (ya.length : Int)
   · exact hq
   · rw [if_neg hq] at H; cases H
  rw [if_pos u3] at H
  obtain ⟨G2, hg2, H⟩ := Option.bind_eq_some_iff.mp H
  obtain ⟨⟨da, de⟩, ha2, H⟩ := Option.bind_eq_some_iff.mp H
  have u4 : (rd_T26 l1 (i : Int)).f0.length < 17592186044416 := by
   by_cases hq : ([] : List Int).length + (rd_T26 l1 (i : Int)).f0.length < 17592186044416
   · simpa using hq
   · rw [if_neg hq] at H; cases H
  rw [if_pos (by simpa using u4)] at H
  have u5 : (rd_T26 l1 (i : Int)).f1.length < 17592186044416 := by
   by_cases hq : ([] : List Int).length + (rd_T26 l1 (i : Int)).f1.length < 17592186044416
   · simpa using hq
   · rw [if_neg hq] at H; cases H
  rw [if_pos (by simpa using u5)] at H
  have u6 : xs.length < 1954687338268 := by
   by_cases hq : xs.length < 1954687338268
   · exact hq
   · rw [if_neg hq] at H; cases H
  rw [if_pos u6] at H
  have HQ : Hid (matrix_Finish.l0 q xa ya sz (xs ++ [(⟨(rd_T26 l1 (i : Int)).f0, (rd_T26 l1 (i : Int)).f1, da⟩ : S26)]) l1 (l1.length : Int) ni a0_0 a0_1 a0_2 a0_3 a0_4 = some (r1, r2)) := Lib.hid H
  have HG1 := Lib.hid hg1
  have HG2 := Lib.hid hg2
  have HA1 := Lib.hid ha1
  have HA2 := Lib.hid ha2
  clear H hg1 hg2 ha1 ha2
  obtain ⟨P1, p1, hcut1, hC1, hl1⟩ := mfin_cut HR5b.out hl5 lo up u0 u1 u2 Y1 hY1
  obtain ⟨P2, p2, hcut2, hC2, hl2⟩ := mfin_cut HR6.out hl6 lo up u0 u1 u3 Y2 hY2
  have HC1 := Aside0.mk hC1
  have HC2 := Aside0.mk hC2
  have HGC1 := Lib.hid (fun W hb => matrix_gather.calls q a0_0 a0_1 a0_2 a0_3 a0_4 P1 p1 Y1 G1 W (Kd.C_below HC1.out hb) hl1 HG1.out)
  have HGC2 := Lib.hid (fun W hb => matrix_gather.calls q a0_0 a0_1 a0_2 a0_3 a0_4 P2 p2 Y2 G2 W (Kd.C_below HC2.out hb) hl2 HG2.out)
  clear hC1 hC2 hY1 hY2
  go_upto_region 20 with (go_at_call 61; (with_reducible refine (HMC.out _ ?s1 ?s2).mono ?_); (case s1 => exact Kd.C_below IA.out (below_alloc (Below.refl _ _) _)); (case s2 => exact Kd.C_below IB.out (below_alloc (Below.refl _ _) _)); rintro e w6 ⟨v6, rfl, ho6, hb6⟩; have HB6 := Aside0.mk (below_step (below_alloc (Below.refl _ _) _) hb6); have k17 := blk_below (blk_new wr _) hb6; have K17 := Aside0.mk k17; obtain ⟨q0, q1, q2, -⟩ := cells_3 k17; have k46 := blk_below K4.out HB6.out; have K46 := Aside0.mk k46; obtain ⟨n0, n1, n2, n3, n4, -⟩ := cells_5 k46; obtain ⟨Am, cm, rfl, hlm, hrm⟩ := Kd.R_reads ho6; have HRM := Aside0.mk hrm; clear ho6 hb6 k17 k46 hrm)
  have HB36 := Aside0.mk (below_step HBR.out HB6.out)
  have D6 := Aside0.mk (below_drew HB36.out)
  have HAC1 := Lib.hid (fun W A2 c2 h1 h2 h3 => ring_AddAll.calls a0_1 Am cm ma A2 c2 G1 ba be W h1 hlm h2 h3 HA1.out)
  go_cut [18] (fun v18 wc => Aside0 (Kd.R (Kd.int .u64) 35 wc w6.heap.size (fun k => w6.heap.size ≤ k) v18 ba) ∧ Aside0 (Below w6.heap.size w6 wc))
  case first =>
   clear x0 x1 x2 y0 y1 y2 y3 y4 q0 q1 q2
   go_region_held3 (fun w' => w'.cell? ⟨w.heap.size, 0, none⟩ = some (.int .i64 a0_0) ∧ w'.cell? ⟨w.heap.size, 1, none⟩ = some (.int .i64 a0_1) ∧ w'.cell? ⟨w.heap.size, 2, none⟩ = some (.int .i64 a0_2) ∧ w'.cell? ⟨w.heap.size, 3, none⟩ = some (.int .i64 a0_3) ∧ w'.cell? ⟨w.heap.size, 4, none⟩ = some (.int .i64 a0_4)) (go_keep)
    ((first
      | (go_at_call 80; go_loud ((with_reducible refine (HGC1.out _ D6.out).mono ?_); rintro e w7 ⟨v7, rfl, ho7, hb7⟩; obtain ⟨A7, c7, rfl, hl7, hr7⟩ := Kd.R_reads ho7; have HR7 := Aside0.mk hr7; have HRM7 := Aside0.mk (Kd.C_below HRM.out (below_step (below_drew (Below.refl _ _)) hb7)); have HB67 := Aside0.mk (below_step (below_drew (Below.refl w6.heap.size w6)) hb7); obtain ⟨t0, t1, t2, t3, t4, -⟩ := cells_5 (blk_below K46.out HB67.out); clear ho7 hr7 hb7))
      | (go_at_call 60; go_loud ((with_reducible refine (HAC1.out _ _ _ HRM7.out HR7.out hl7).mono ?_); rintro e w8 ⟨v8, rfl, ho8, hb8⟩; have HB68 := Aside0.mk (below_step HB67.out hb8); have HO8 := Aside0.mk (mfin_fresh ho8 HB67.out.size); obtain ⟨m0, m1, m2, m3, m4, -⟩ := cells_5 (blk_below K46.out HB68.out); clear ho8 hb8))))
   all_goals
    (try go_wp2)
    go_meet
    exact ⟨⟨HO8.out⟩, ⟨HB68.out⟩⟩
  case rest =>
   obtain ⟨wx, rfl⟩ : ∃ x : World, x = wc := ⟨_, rfl⟩
   obtain ⟨HV, HBC⟩ := hcut
   obtain ⟨An, cn, rfl, hln, hrn⟩ := Kd.R_reads HV.out
   have HRN := Aside0.mk hrn
   have HAC2 := Lib.hid (fun W A2 c2 h1 h2 h3 => ring_AddAll.calls a0_1 An cn ba A2 c2 G2 da de W h1 hln h2 h3 HA2.out)
   have HB37 := Aside0.mk (below_step HB36.out HBC.out)
   have D7 := Aside0.mk (below_drew HB37.out)
   have K47 := Aside0.mk (blk_below K46.out HBC.out)
   clear x0 x1 x2 y0 y1 y2 y3 y4 q0 q1 q2 n0 n1 n2 n3 n4 HAC1 HGC1 D6 hrn
   obtain ⟨n0, n1, n2, n3, n4, -⟩ := cells_5 K47.out
   go_upto_region 21 with fail
   go_cut [18] (fun v18 wc => Aside0 (Kd.R (Kd.int .u64) 35 wc wx.heap.size (fun k => wx.heap.size ≤ k) v18 da) ∧ Aside0 (Below wx.heap.size wx wc))
   case first =>
    go_region_held3 (fun w' => w'.cell? ⟨w.heap.size, 0, none⟩ = some (.int .i64 a0_0) ∧ w'.cell? ⟨w.heap.size, 1, none⟩ = some (.int .i64 a0_1) ∧ w'.cell? ⟨w.heap.size, 2, none⟩ = some (.int .i64 a0_2) ∧ w'.cell? ⟨w.heap.size, 3, none⟩ = some (.int .i64 a0_3) ∧ w'.cell? ⟨w.heap.size, 4, none⟩ = some (.int .i64 a0_4)) (go_keep)
     ((first
       | (go_at_call 80; go_loud ((with_reducible refine (HGC2.out _ D7.out).mono ?_); rintro e w7 ⟨v7, rfl, ho7, hb7⟩; obtain ⟨A7, c7, rfl, hl7, hr7⟩ := Kd.R_reads ho7; have HR7 := Aside0.mk hr7; have HRN7 := Aside0.mk (Kd.C_below HRN.out (below_step (below_drew (Below.refl _ _)) hb7)); have HB67 := Aside0.mk (below_step (below_drew (Below.refl wx.heap.size wx)) hb7); obtain ⟨t0, t1, t2, t3, t4, -⟩ := cells_5 (blk_below K47.out HB67.out); clear ho7 hr7 hb7))
       | (go_at_call 60; go_loud ((with_reducible refine (HAC2.out _ _ _ HRN7.out HR7.out hl7).mono ?_); rintro e w8 ⟨v8, rfl, ho8, hb8⟩; have HB68 := Aside0.mk (below_step HB67.out hb8); have HO8 := Aside0.mk (mfin_fresh ho8 HB67.out.size); obtain ⟨m0, m1, m2, m3, m4, -⟩ := cells_5 (blk_below K47.out HB68.out); clear ho8 hb8))))
    all_goals
     (try go_wp2)
     go_meet
     exact ⟨⟨HO8.out⟩, ⟨HB68.out⟩⟩
   case rest =>
    obtain ⟨HV2, HBD⟩ := hcut
    obtain ⟨Ay, cy, rfl, -, -⟩ := Kd.R_reads HV2.out
    have HBX := Aside0.mk (below_step (below_step HB6.out HBC.out) HBD.out)
    have HX0 := Aside0.mk (below_drew HBX.out)
    have HZ0 := Aside0.mk (below_drew (Below.refl wc.heap.size wc))
    have HR3 := Aside0.mk HBR.out.size
    have k17 := blk_below K17.out (below_step HBC.out HBD.out)
    have K19 := Aside0.mk k17
    obtain ⟨q0, q1, q2, -⟩ := cells_3 k17
    have HW2 := Aside0.mk (Kd.R_lower (Kd.R_mono HV2.out (fun k hk => Nat.le_trans (Nat.le_trans HB6.out.size HBC.out.size) hk)) HB37.out.size)
    have IA4 := Aside0.mk (Kd.C_below IA.out HX0.out)
    have IB4 := Aside0.mk (Kd.C_below IB.out HX0.out)
    clear n0 n1 n2 n3 n4 HAC2 HGC2 D7 k17
    go_upto_region 22 with fail
    go_region_held3 (fun w' => w'.cell? ⟨wr.heap.size, 0, none⟩ = some (.slice Aa (rd_T26 l1 (i : Int)).f0.length ca) ∧ w'.cell? ⟨wr.heap.size, 1, none⟩ = some (.slice Ab (rd_T26 l1 (i : Int)).f1.length cb)) (go_keep)
     ((first
       | (refine mfin_clone (by rfl) (.tmp 141) (by rfl) Aa ca (rd_T26 l1 (i : Int)).f0 (by rfl) ?hr u4 ?_; (case hr => go_loud (first | exact IA5.out | exact IA4.out)); intro va wa ho hb; obtain ⟨Aya, cya, rfl, -, -⟩ := Kd.R_reads ho; (try have IB5 := Aside0.mk (Kd.C_below IB4.out hb)); (try have HVB2 := Aside0.mk (Kd.R_below HVB.out hb)); (first | (have HVA := Aside0.mk (Kd.R_lower (mfin_fresh ho HX1.out.size) HR3.out); have HX2 := Aside0.mk (below_step HX1.out hb); have HZ2 := Aside0.mk (below_step HZ1.out hb); obtain ⟨t0, t1, t2, -⟩ := cells_3 (blk_below K19.out HZ2.out)) | (have HVA := Aside0.mk (Kd.R_lower (mfin_fresh ho HX0.out.size) HR3.out); have HX1 := Aside0.mk (below_step HX0.out hb); have HZ1 := Aside0.mk (below_step HZ0.out hb); obtain ⟨t0, t1, t2, -⟩ := cells_3 (blk_below K19.out HZ1.out))); clear ho hb)
       | (refine mfin_clone (by rfl) (.tmp 144) (by rfl) Ab cb (rd_T26 l1 (i : Int)).f1 (by rfl) ?hr u5 ?_; (case hr => first | exact IB5.out | exact IB4.out); intro va wa ho hb; obtain ⟨Ayb, cyb, rfl, -, -⟩ := Kd.R_reads ho; (try have IA5 := Aside0.mk (Kd.C_below IA4.out hb)); (try have HVA2 := Aside0.mk (Kd.R_below HVA.out hb)); (first | (have HVB := Aside0.mk (Kd.R_lower (mfin_fresh ho HX1.out.size) HR3.out); have HX2 := Aside0.mk (below_step HX1.out hb); have HZ2 := Aside0.mk (below_step HZ1.out hb); obtain ⟨t0, t1, t2, -⟩ := cells_3 (blk_below K19.out HZ2.out)) | (have HVB := Aside0.mk (Kd.R_lower (mfin_fresh ho HX0.out.size) HR3.out); have HX1 := Aside0.mk (below_step HX0.out hb); have HZ1 := Aside0.mk (below_step HZ0.out hb); obtain ⟨t0, t1, t2, -⟩ := cells_3 (blk_below K19.out HZ1.out))); clear ho hb)
       | (refine mfin_append (w0 := w3) w3.heap.size (by rfl) (.tmp 139) (.tmp 148) (by rfl) _ xs ⟨(rd_T26 l1 (i : Int)).f0, (rd_T26 l1 (i : Int)).f1, da⟩ _ _ _ wr.heap.size (by rfl) (by rfl) ?r0 ?r1 ?r2 ?ro ?rb ?rs u6 ?_; (case r0 => first | exact HVA2.out | exact HVA.out); (case r1 => first | exact HVB2.out | exact HVB.out); (case r2 => exact Kd.R_below HW2.out HZ2.out); (case ro => exact Kd.S_old HO.out HX2.out); (case rb => exact below_step HBR.out HX2.out); (case rs => exact (below_step HBR.out HX2.out).size); intro v9 w9 ho hb hg hne; have HO9 := Aside0.mk ho; have HB9 := Aside0.mk hb; obtain ⟨m0, m1, m2, -⟩ := cells_3 (blk_grown (blk_below K19.out HZ2.out) hg hne); clear ho hb hg hne)))
    all_goals
     (try go_wp2)
     go_roundw
     all_goals first
      | (case rel => exact ⟨i + 1, q, _, by omega, by rw [HNI.out], ⟨HO9.out⟩, ⟨HB9.out⟩, by rw [HNI.out] at HQ; exact HQ⟩)
      | (case measure => rw [HNI.out]; simp [intOf]; omega)

/-! ### trefoilref22_Split: function 49 -/
def trefoilref22_Split.l0 : Nat → Int → Int → List Int → List Bool → List Int → List Int → List Int → Int → Option (List Int × List Int)
 | 0, _, _, _, _, _, _, _, _ => none
 | k + 1, x0, x1, x2, x3, x4, x12, x13, x14 => if x14 < (x2.length : Int) then (if (x4.length : Int) > 0 then (if (x4.length : Int) = 0 then (none) else (if 0 ≤ (Int.tmod x14 (x4.length : Int)) then (if (Int.tmod x14 (x4.length : Int)) < (x4.length : Int) then ((trefoilref03_Fit.f k x0 (rd x4 (Int.tmod x14 (x4.length : Int)))).bind fun t1034 => (if x1 = 0 then (none) else (if (wrap64 (Int.tdiv x14 x1)) < (x3.length : Int) then (if 0 ≤ (wrap64 (Int.tdiv x14 x1)) then (if rdOf false x3 (wrap64 (Int.tdiv x14 x1)) = true then (if 0 ≤ x14 then (if x12.length < 17592186044416 then ((trefoilref03_Sub.f k x0 (rd x2 x14) t1034).bind fun t1040 => (if x13.length < 17592186044416 then (trefoilref22_Split.l0 k x0 x1 x2 x3 x4 (x12 ++ [t1034]) (x13 ++ [t1040]) (wrap64 (x14 + 1))) else (none))) else (none)) else (none)) else (if x12.length < 17592186044416 then ((trefoilref03_Sub.f k x0 0 t1034).bind fun t1047 => (if x13.length < 17592186044416 then (trefoilref22_Split.l0 k x0 x1 x2 x3 x4 (x12 ++ [t1034]) (x13 ++ [t1047]) (wrap64 (x14 + 1))) else (none))) else (none))) else (none)) else (if x12.length < 17592186044416 then ((trefoilref03_Sub.f k x0 0 t1034).bind fun t1054 => (if x13.length < 17592186044416 then (trefoilref22_Split.l0 k x0 x1 x2 x3 x4 (x12 ++ [t1034]) (x13 ++ [t1054]) (wrap64 (x14 + 1))) else (none))) else (none))))) else (none)) else (none))) else (if x1 = 0 then (none) else (if (wrap64 (Int.tdiv x14 x1)) < (x3.length : Int) then (if 0 ≤ (wrap64 (Int.tdiv x14 x1)) then (if rdOf false x3 (wrap64 (Int.tdiv x14 x1)) = true then (if 0 ≤ x14 then (if x12.length < 17592186044416 then ((trefoilref03_Sub.f k x0 (rd x2 x14) 0).bind fun t1063 => (if x13.length < 17592186044416 then (trefoilref22_Split.l0 k x0 x1 x2 x3 x4 (x12 ++ [0]) (x13 ++ [t1063]) (wrap64 (x14 + 1))) else (none))) else (none)) else (none)) else (if x12.length < 17592186044416 then ((trefoilref03_Sub.f k x0 0 0).bind fun t1070 => (if x13.length < 17592186044416 then (trefoilref22_Split.l0 k x0 x1 x2 x3 x4 (x12 ++ [0]) (x13 ++ [t1070]) (wrap64 (x14 + 1))) else (none))) else (none))) else (none)) else (if x12.length < 17592186044416 then ((trefoilref03_Sub.f k x0 0 0).bind fun t1077 => (if x13.length < 17592186044416 then (trefoilref22_Split.l0 k x0 x1 x2 x3 x4 (x12 ++ [0]) (x13 ++ [t1077]) (wrap64 (x14 + 1))) else (none))) else (none))))) else (some (x12, x13))
def trefoilref22_Split.f (k : Nat) (a0 : Int) (a1 : Int) (l2 : List Int) (l3 : List Bool) (l4 : List Int) : Option (List Int × List Int) := trefoilref22_Split.l0 k a0 a1 l2 l3 l4 ([] : List Int) ([] : List Int) 0
set_option maxHeartbeats 8000000 in
set_option maxRecDepth 100000 in
theorem trefoilref22_Split.calls (k : Nat) (a0 : Int) (a1 : Int) (A2 : Option Addr) (c2 : Nat) (l2 : List Int) (A3 : Option Addr) (c3 : Nat) (l3 : List Bool) (A4 : Option Addr) (c4 : Nat) (l4 : List Int) (r1 : List Int) (r2 : List Int) (w : World) (hr2 : Kd.C (Kd.int .u64) w A2 l2.length l2) (hc2 : l2.length ≤ c2) (hr3 : Kd.C Kd.bool w A3 l3.length l3) (hc3 : l3.length ≤ c3) (hr4 : Kd.C (Kd.int .u64) w A4 l4.length l4) (hc4 : l4.length ≤ c4) (h : trefoilref22_Split.f k a0 a1 l2 l3 l4 = some (r1, r2)) :
  Calls Try.prog 49 #[.int .i64 a0, .int .i64 a1, .slice A2 l2.length c2, .slice A3 l3.length c3, .slice A4 l4.length c4] w fun e w' => ∃ v0_ v1_ : Value, e = .returned (.tuple #[v0_, v1_]) ∧ Kd.R (Kd.int .u64) 35 w' w.heap.size (fun k_ => some k_ ≠ (v1_ : Value).ownBlock) v0_ r1 ∧ Kd.R (Kd.int .u64) 35 w' w.heap.size (fun k_ => some k_ ≠ (v0_ : Value).ownBlock) v1_ r2 ∧ Below w.heap.size w w' := by
 have HR2 := Aside0.mk hr2
 have HC2 := Aside0.mk hc2
 clear hr2 hc2
 have HR3 := Aside0.mk hr3
 have HC3 := Aside0.mk hc3
 clear hr3 hc3
 have HR4 := Aside0.mk hr4
 have HC4 := Aside0.mk hc4
 clear hr4 hc4
 have HB := Aside0.mk (Below.refl w.heap.size w)
 have H : (trefoilref22_Split.l0 k a0 a1 l2 l3 l4 ([] : List Int) ([] : List Int) 0) = some (r1, r2) := h
 clear h
 have H' := Aside0.mk H
 clear H
 go_enter Try.func49, Try.ntmps49
 go_wp2
 go_loopg [12, 13, 14] k (fun kq v12 v13 v14 w' => ∃ (x12_1 : List Int) (x13_1 : List Int) (x14_1 : Int), v14 = .int .i64 x14_1 ∧ Aside0 (trefoilref22_Split.l0 kq a0 a1 l2 l3 l4 x12_1 x13_1 x14_1 = some (r1, r2)) ∧ Aside0 (kq ≤ k) ∧ Aside0 (Kd.R (Kd.int .u64) 35 w' w.heap.size (fun k_ => some k_ ≠ (v13 : Value).ownBlock) v12 x12_1) ∧ Aside0 (Kd.R (Kd.int .u64) 35 w' w.heap.size (fun k_ => some k_ ≠ (v12 : Value).ownBlock) v13 x13_1) ∧ Aside0 (Below w.heap.size w w'))
 case atStart => exact ⟨(([] : List Int)), (([] : List Int)), (0), (zq52), H', ⟨Nat.le_refl _⟩, ⟨zq32⟩, ⟨zq32⟩, ⟨HB.bl⟩⟩
 case round =>
  clear H'
  try clear c2
  try clear p2
  try clear c3
  try clear c4
  obtain ⟨x12_1, x13_1, x14_1, rfl, HA, HK1, HO_12, HO_13, HB⟩ := hrel
  cases gk with
  | zero => exact absurd HA.out (by simp [trefoilref22_Split.l0])
  | succ k1 =>
   have H := HA.out
   clear HA
   simp only [trefoilref22_Split.l0] at H
   by_cases c6 : x14_1 < (l2.length : Int)
   ·rw [if_pos c6] at H
    have c6b0 : decide (x14_1 < (l2.length : Int)) = true := decide_eq_true c6
    clear c6
    by_cases c7 : (l4.length : Int) > 0
    ·rw [if_pos c7] at H
     have c7b0 : decide (0 < (l4.length : Int)) = true := decide_eq_true c7
     have c7b1 : decide (0 < l4.length) = true := decide_eq_true (by omega)
     clear c7
     by_cases c8 : (l4.length : Int) = 0
     ·rw [if_pos c8] at H
      exact absurd H (by simp)
     ·rw [if_neg c8] at H
      have c8b0 : ((l4.length : Int) == 0) = false := beq_eq_false_iff_ne.mpr c8
      have c8b1 : ((l4.length : Int) != 0) = true := bne_iff_ne.mpr c8
      have c8b2 : ¬ (l4 = []) := fun h_ => c8 (by rw [h_]; rfl)
      obtain ⟨ji9, hji9⟩ : ∃ j_ : Int, (Int.tmod x14_1 (l4.length : Int)) = j_ := ⟨_, rfl⟩
      replace H : (if 0 ≤ (ji9) then (if (ji9) < (l4.length : Int) then ((trefoilref03_Fit.f k1 a0 (rd l4 (ji9))).bind fun t1034 => (if a1 = 0 then (none) else (if (wrap64 (Int.tdiv x14_1 a1)) < (l3.length : Int) then (if 0 ≤ (wrap64 (Int.tdiv x14_1 a1)) then (if rdOf false l3 (wrap64 (Int.tdiv x14_1 a1)) = true then (if 0 ≤ x14_1 then (if x12_1.length < 17592186044416 then ((trefoilref03_Sub.f k1 a0 (rd l2 x14_1) t1034).bind fun t1040 => (if x13_1.length < 17592186044416 then (trefoilref22_Split.l0 k1 a0 a1 l2 l3 l4 (x12_1 ++ [t1034]) (x13_1 ++ [t1040]) (wrap64 (x14_1 + 1))) else (none))) else (none)) else (none)) else (if x12_1.length < 17592186044416 then ((trefoilref03_Sub.f k1 a0 0 t1034).bind fun t1047 => (if x13_1.length < 17592186044416 then (trefoilref22_Split.l0 k1 a0 a1 l2 l3 l4 (x12_1 ++ [t1034]) (x13_1 ++ [t1047]) (wrap64 (x14_1 + 1))) else (none))) else (none))) else (none)) else (if x12_1.length < 17592186044416 then ((trefoilref03_Sub.f k1 a0 0 t1034).bind fun t1054 => (if x13_1.length < 17592186044416 then (trefoilref22_Split.l0 k1 a0 a1 l2 l3 l4 (x12_1 ++ [t1034]) (x13_1 ++ [t1054]) (wrap64 (x14_1 + 1))) else (none))) else (none))))) else (none)) else (none)) = some (r1, r2) := by first | (rw [hji9] at H; exact H) | (simp only [hji9] at H ⊢; exact H)
      by_cases c10 : 0 ≤ (ji9)
      ·rw [if_pos c10] at H
       have c10b0 : decide (0 ≤ (ji9)) = true := decide_eq_true c10
       clear c10
       by_cases c11 : (ji9) < (l4.length : Int)
       ·rw [if_pos c11] at H
        have c11b0 : decide ((ji9) < (l4.length : Int)) = true := decide_eq_true c11
        clear c11
        replace H := Option.bind_eq_some_iff.mp H
        obtain ⟨t1034, A120, H⟩ := H
        replace H : (if a1 = 0 then (none) else (if (wrap64 (Int.tdiv x14_1 a1)) < (l3.length : Int) then (if 0 ≤ (wrap64 (Int.tdiv x14_1 a1)) then (if rdOf false l3 (wrap64 (Int.tdiv x14_1 a1)) = true then (if 0 ≤ x14_1 then (if x12_1.length < 17592186044416 then ((trefoilref03_Sub.f k1 a0 (rd l2 x14_1) t1034).bind fun t1040 => (if x13_1.length < 17592186044416 then (trefoilref22_Split.l0 k1 a0 a1 l2 l3 l4 (x12_1 ++ [t1034]) (x13_1 ++ [t1040]) (wrap64 (x14_1 + 1))) else (none))) else (none)) else (none)) else (if x12_1.length < 17592186044416 then ((trefoilref03_Sub.f k1 a0 0 t1034).bind fun t1047 => (if x13_1.length < 17592186044416 then (trefoilref22_Split.l0 k1 a0 a1 l2 l3 l4 (x12_1 ++ [t1034]) (x13_1 ++ [t1047]) (wrap64 (x14_1 + 1))) else (none))) else (none))) else (none)) else (if x12_1.length < 17592186044416 then ((trefoilref03_Sub.f k1 a0 0 t1034).bind fun t1054 => (if x13_1.length < 17592186044416 then (trefoilref22_Split.l0 k1 a0 a1 l2 l3 l4 (x12_1 ++ [t1034]) (x13_1 ++ [t1054]) (wrap64 (x14_1 + 1))) else (none))) else (none)))) = some (r1, r2) := H
        have A12 := Aside0.mk A120
        clear A120
        by_cases c13 : a1 = 0
        ·rw [if_pos c13] at H
         exact absurd H (by simp)
        ·rw [if_neg c13] at H
         have c13b0 : (a1 == 0) = false := beq_eq_false_iff_ne.mpr c13
         have c13b1 : (a1 != 0) = true := bne_iff_ne.mpr c13
         by_cases c14 : (wrap64 (Int.tdiv x14_1 a1)) < (l3.length : Int)
         ·rw [if_pos c14] at H
          have c14b0 : decide ((wrap64 (Int.tdiv x14_1 a1)) < (l3.length : Int)) = true := decide_eq_true c14
          clear c14
          obtain ⟨ji15, hji15⟩ : ∃ j_ : Int, (wrap64 (Int.tdiv x14_1 a1)) = j_ := ⟨_, rfl⟩
          replace H : (if 0 ≤ (ji15) then (if rdOf false l3 (ji15) = true then (if 0 ≤ x14_1 then (if x12_1.length < 17592186044416 then ((trefoilref03_Sub.f k1 a0 (rd l2 x14_1) t1034).bind fun t1040 => (if x13_1.length < 17592186044416 then (trefoilref22_Split.l0 k1 a0 a1 l2 l3 l4 (x12_1 ++ [t1034]) (x13_1 ++ [t1040]) (wrap64 (x14_1 + 1))) else (none))) else (none)) else (none)) else (if x12_1.length < 17592186044416 then ((trefoilref03_Sub.f k1 a0 0 t1034).bind fun t1047 => (if x13_1.length < 17592186044416 then (trefoilref22_Split.l0 k1 a0 a1 l2 l3 l4 (x12_1 ++ [t1034]) (x13_1 ++ [t1047]) (wrap64 (x14_1 + 1))) else (none))) else (none))) else (none)) = some (r1, r2) := by first | (rw [hji15] at H; exact H) | (simp only [hji15] at H ⊢; exact H)
          (try rw [hji15] at c14b0)
          (try rw [hji15] at A12)
          have hji15w : (IntKind.i64.wrap (Int.tdiv x14_1 a1)) = ji15 := (i64_w _).trans hji15
          by_cases c16 : 0 ≤ (ji15)
          ·rw [if_pos c16] at H
           have c16b0 : decide (0 ≤ (ji15)) = true := decide_eq_true c16
           clear c16
           obtain ⟨bq17, hbq17⟩ : ∃ b_ : Bool, b_ = (rdOf false l3 (ji15)) := ⟨_, rfl⟩
           replace H : (if bq17 = true then (if 0 ≤ x14_1 then (if x12_1.length < 17592186044416 then ((trefoilref03_Sub.f k1 a0 (rd l2 x14_1) t1034).bind fun t1040 => (if x13_1.length < 17592186044416 then (trefoilref22_Split.l0 k1 a0 a1 l2 l3 l4 (x12_1 ++ [t1034]) (x13_1 ++ [t1040]) (wrap64 (x14_1 + 1))) else (none))) else (none)) else (none)) else (if x12_1.length < 17592186044416 then ((trefoilref03_Sub.f k1 a0 0 t1034).bind fun t1047 => (if x13_1.length < 17592186044416 then (trefoilref22_Split.l0 k1 a0 a1 l2 l3 l4 (x12_1 ++ [t1034]) (x13_1 ++ [t1047]) (wrap64 (x14_1 + 1))) else (none))) else (none))) = some (r1, r2) := by rw [← hbq17] at H; exact H
           have Nbq17 := Aside0.mk hbq17
           clear hbq17
           by_cases c18 : bq17 = true
           ·subst c18
            have H1 : (if 0 ≤ x14_1 then (if x12_1.length < 17592186044416 then ((trefoilref03_Sub.f k1 a0 (rd l2 x14_1) t1034).bind fun t1040 => (if x13_1.length < 17592186044416 then (trefoilref22_Split.l0 k1 a0 a1 l2 l3 l4 (x12_1 ++ [t1034]) (x13_1 ++ [t1040]) (wrap64 (x14_1 + 1))) else (none))) else (none)) else (none)) = some (r1, r2) := by rw [if_pos rfl] at H; exact H
            clear H
            have H := H1
            clear H1
            by_cases c19 : 0 ≤ x14_1
            ·rw [if_pos c19] at H
             have c19b0 : decide (0 ≤ x14_1) = true := decide_eq_true c19
             clear c19
             by_cases c20 : x12_1.length < 17592186044416
             ·rw [if_pos c20] at H
              have LMc20 := Aside0.mk c20
              clear c20
              obtain ⟨y1037, hy1037⟩ : ∃ y_ : List Int, y_ = (x12_1 ++ [t1034]) := ⟨_, rfl⟩
              replace H : ((trefoilref03_Sub.f k1 a0 (rd l2 x14_1) t1034).bind fun t1040 => (if x13_1.length < 17592186044416 then (trefoilref22_Split.l0 k1 a0 a1 l2 l3 l4 y1037 (x13_1 ++ [t1040]) (wrap64 (x14_1 + 1))) else (none))) = some (r1, r2) := by first | (rw [hy1037]; with_reducible exact H) | (have H2_ := (Option.bind_some _ _).symm.trans H; rw [hy1037]; with_reducible exact H2_) | (have H2_ := (Option.bind_some _ _).symm.trans H; with_reducible exact H2_) | with_reducible exact H | (rw [hy1037]; exact H) | exact H
              have Ny1037 := Aside0.mk hy1037
              clear hy1037
              replace H := Option.bind_eq_some_iff.mp H
              obtain ⟨t1040, A210, H⟩ := H
              replace H : (if x13_1.length < 17592186044416 then (trefoilref22_Split.l0 k1 a0 a1 l2 l3 l4 y1037 (x13_1 ++ [t1040]) (wrap64 (x14_1 + 1))) else (none)) = some (r1, r2) := H
              have A21 := Aside0.mk A210
              clear A210
              by_cases c22 : x13_1.length < 17592186044416
              ·rw [if_pos c22] at H
               have LMc22 := Aside0.mk c22
               clear c22
               obtain ⟨y1041, hy1041⟩ : ∃ y_ : List Int, y_ = (x13_1 ++ [t1040]) := ⟨_, rfl⟩
               replace H : (trefoilref22_Split.l0 k1 a0 a1 l2 l3 l4 y1037 y1041 (wrap64 (x14_1 + 1))) = some (r1, r2) := by first | (rw [hy1041]; with_reducible exact H) | (have H2_ := (Option.bind_some _ _).symm.trans H; rw [hy1041]; with_reducible exact H2_) | (have H2_ := (Option.bind_some _ _).symm.trans H; with_reducible exact H2_) | with_reducible exact H | (rw [hy1041]; exact H) | exact H
               have Ny1041 := Aside0.mk hy1041
               clear hy1041
               have H' := Aside0.mk H
               clear H
               have p1033 : 0 ≤ ((ji9) : Int) := of_decide_eq_true (zq51)
               have q1033 : (ji9) < (l4.length : Int) := of_decide_eq_true (zq51)
               obtain ⟨ad1033, e1033, hx1033_0⟩ := Kd.at_int HR4.out (ji9) p1033 q1033
               cases e1033
               replace hx1033_0 := (HB.out.cell (World.block_lt_of_cell? w _ hx1033_0)).trans hx1033_0
               replace p1033 := eq_true p1033
               replace q1033 := eq_true q1033
               go_wp2_with (first | ((with_reducible refine gate_callee (f := 26) rfl ?_); refine goesL_ (some 34) rfl rfl Try.func26 (zq56) rfl #[.int .i64 a0, .int .u64 (rd l4 (ji9))] rfl (by (try simp only [List.map_toArray, List.map_cons, List.map_nil]); first | done | (simp only [hji9]; rfl) | rfl | (simp only [List.length_drop, List.length_take]; rfl)) ?_; (with_reducible refine (trefoilref03_Fit.calls k1 a0 (rd l4 (ji9)) t1034 _ A12.out).mono ?_); rintro e w' ⟨rfl, ⟨nd, rfl⟩⟩; refine ⟨_, rfl, ?_⟩; have p1035 : 0 ≤ ((ji15) : Int) := of_decide_eq_true (zq51); have q1035 : (ji15) < (l3.length : Int) := of_decide_eq_true (zq51); obtain ⟨ad1035, e1035, hx1035_0⟩ := Kd.at_bool HR3.out (ji15) p1035 q1035; (try rw [← Nbq17.out] at hx1035_0); cases e1035; replace hx1035_0 := (HB.out.cell (World.block_lt_of_cell? w _ hx1035_0)).trans hx1035_0; replace p1035 := eq_true p1035; replace q1035 := eq_true q1035; have p1036 : 0 ≤ (x14_1 : Int) := of_decide_eq_true (zq51); have q1036 : x14_1 < (l2.length : Int) := of_decide_eq_true (zq51); obtain ⟨ad1036, e1036, hx1036_0⟩ := Kd.at_int HR2.out x14_1 p1036 q1036; cases e1036; replace hx1036_0 := (HB.out.cell (World.block_lt_of_cell? w _ hx1036_0)).trans hx1036_0; replace p1036 := eq_true p1036; replace q1036 := eq_true q1036) | ((with_reducible refine gate_builtin (b := .append) (xs := #[.tmp 53, .tmp 55]) rfl ?_); at_builtin; refine Kd.R_append (Kd.int .u64) (w0 := w) w.heap.size rfl (.tmp 53) (.tmp 55) 24 35 (.int .u64 0) 8 rfl Try.underlying24 info35 rfl (by decide) (by omega) u12 x12_1 t1034 [.int .u64 t1034] (fun k_ => some k_ ≠ (u13 : Value).ownBlock) (fun _ => False) rfl rfl ?aP (fun _ hk => hk.elim) ?aF ?aO ?aB ?aS ?aL ?_; (case aP => exact rfl); (case aB => exact HB.bl); (case aF => exact (fun k_ hk => Kd.fresh' (Kd.R_lt HO_13.r) k_ hk)); (case aO => exact HO_12.r); (case aS => exact (below_size HB.bl)); (case aL => have := LMc20.out; omega); intro v1038 w23 ho hb hg hat; rw [← Ny1037.out] at ho; replace HO_13 := Aside0.mk (Kd.R_after (ok := (fun _ => True)) (zq31) hg hat); replace HB := Aside0.mk (hb); have HO1039 := Aside0.mk (ho); clear HO_12; clear ho hb hg hat) | ((with_reducible refine gate_callee (f := 27) rfl ?_); refine goesL_ (some 61) rfl rfl Try.func27 (zq56) rfl #[.int .i64 a0, .int .u64 (rd l2 x14_1), .int .u64 t1034] rfl (zq33) ?_; (with_reducible refine (trefoilref03_Sub.calls k1 a0 (rd l2 x14_1) t1034 t1040 _ A21.out).mono ?_); rintro e w' ⟨rfl, ⟨nd, rfl⟩⟩; refine ⟨_, rfl, ?_⟩) | ((with_reducible refine gate_builtin (b := .append) (xs := #[.tmp 57, .tmp 62]) rfl ?_); at_builtin; refine Kd.R_append (Kd.int .u64) (w0 := w) w.heap.size rfl (.tmp 57) (.tmp 62) 24 35 (.int .u64 0) 8 rfl Try.underlying24 info35 rfl (by decide) (by omega) u13 x13_1 t1040 [.int .u64 t1040] (fun k_ => some k_ ≠ (v1038 : Value).ownBlock) (fun _ => False) rfl rfl ?aP (fun _ hk => hk.elim) ?aF ?aO ?aB ?aS ?aL ?_; (case aP => exact rfl); (case aB => exact HB.bl); (case aF => exact (fun k_ hk => Kd.fresh' (Kd.R_lt HO1039.r) k_ hk)); (case aO => exact (zq34)); (case aS => exact (below_size HB.bl)); (case aL => have := LMc22.out; omega); intro v1042 w24 ho hb hg hat; rw [← Ny1041.out] at ho; replace HO1039 := Aside0.mk (Kd.R_after (ok := (fun _ => True)) (by (with_reducible repeat (first | apply Kd.R_alloc | apply Kd.R_drewN | apply Kd.R_drew)); exact Kd.R_mono HO1039.out (fun _ hk => ⟨trivial, hk⟩)) hg hat); replace HB := Aside0.mk (hb); have HO1043 := Aside0.mk (ho); clear HO_13; clear ho hb hg hat))
               go_roundg k1
               case measure => have := HK1.out; omega
               case rel => exact ⟨(y1037), (y1041), (wrap64 (x14_1 + 1)), (zq52), H', ⟨zq55⟩, ⟨by (with_reducible repeat (first | apply Kd.R_alloc | apply Kd.R_drewN | apply Kd.R_drew)); exact Kd.R_mono HO1039.out (fun _ hk => hk.2)⟩, ⟨HO1043.r⟩, ⟨HB.bl⟩⟩
              ·rw [if_neg c22] at H
               exact absurd H (by simp)
             ·rw [if_neg c20] at H
              exact absurd H (by simp)
            ·rw [if_neg c19] at H
             exact absurd H (by simp)
           ·replace c18 := Bool.eq_false_iff.mpr c18
            subst c18
            have H1 : (if x12_1.length < 17592186044416 then ((trefoilref03_Sub.f k1 a0 0 t1034).bind fun t1047 => (if x13_1.length < 17592186044416 then (trefoilref22_Split.l0 k1 a0 a1 l2 l3 l4 (x12_1 ++ [t1034]) (x13_1 ++ [t1047]) (wrap64 (x14_1 + 1))) else (none))) else (none)) = some (r1, r2) := by rw [if_neg (show ¬ (false = true) by decide)] at H; exact H
            clear H
            have H := H1
            clear H1
            by_cases c25 : x12_1.length < 17592186044416
            ·rw [if_pos c25] at H
             have LMc25 := Aside0.mk c25
             clear c25
             obtain ⟨y1044, hy1044⟩ : ∃ y_ : List Int, y_ = (x12_1 ++ [t1034]) := ⟨_, rfl⟩
             replace H : ((trefoilref03_Sub.f k1 a0 0 t1034).bind fun t1047 => (if x13_1.length < 17592186044416 then (trefoilref22_Split.l0 k1 a0 a1 l2 l3 l4 y1044 (x13_1 ++ [t1047]) (wrap64 (x14_1 + 1))) else (none))) = some (r1, r2) := by first | (rw [hy1044]; with_reducible exact H) | (have H2_ := (Option.bind_some _ _).symm.trans H; rw [hy1044]; with_reducible exact H2_) | (have H2_ := (Option.bind_some _ _).symm.trans H; with_reducible exact H2_) | with_reducible exact H | (rw [hy1044]; exact H) | exact H
             have Ny1044 := Aside0.mk hy1044
             clear hy1044
             replace H := Option.bind_eq_some_iff.mp H
             obtain ⟨t1047, A260, H⟩ := H
             replace H : (if x13_1.length < 17592186044416 then (trefoilref22_Split.l0 k1 a0 a1 l2 l3 l4 y1044 (x13_1 ++ [t1047]) (wrap64 (x14_1 + 1))) else (none)) = some (r1, r2) := H
             have A26 := Aside0.mk A260
             clear A260
             by_cases c27 : x13_1.length < 17592186044416
             ·rw [if_pos c27] at H
              have LMc27 := Aside0.mk c27
              clear c27
              obtain ⟨y1048, hy1048⟩ : ∃ y_ : List Int, y_ = (x13_1 ++ [t1047]) := ⟨_, rfl⟩
              replace H : (trefoilref22_Split.l0 k1 a0 a1 l2 l3 l4 y1044 y1048 (wrap64 (x14_1 + 1))) = some (r1, r2) := by first | (rw [hy1048]; with_reducible exact H) | (have H2_ := (Option.bind_some _ _).symm.trans H; rw [hy1048]; with_reducible exact H2_) | (have H2_ := (Option.bind_some _ _).symm.trans H; with_reducible exact H2_) | with_reducible exact H | (rw [hy1048]; exact H) | exact H
              have Ny1048 := Aside0.mk hy1048
              clear hy1048
              have H' := Aside0.mk H
              clear H
              have p1033 : 0 ≤ ((ji9) : Int) := of_decide_eq_true (zq51)
              have q1033 : (ji9) < (l4.length : Int) := of_decide_eq_true (zq51)
              obtain ⟨ad1033, e1033, hx1033_0⟩ := Kd.at_int HR4.out (ji9) p1033 q1033
              cases e1033
              replace hx1033_0 := (HB.out.cell (World.block_lt_of_cell? w _ hx1033_0)).trans hx1033_0
              replace p1033 := eq_true p1033
              replace q1033 := eq_true q1033
              go_wp2_with (first | ((with_reducible refine gate_callee (f := 26) rfl ?_); refine goesL_ (some 34) rfl rfl Try.func26 (zq56) rfl #[.int .i64 a0, .int .u64 (rd l4 (ji9))] rfl (by (try simp only [List.map_toArray, List.map_cons, List.map_nil]); first | done | (simp only [hji9]; rfl) | rfl | (simp only [List.length_drop, List.length_take]; rfl)) ?_; (with_reducible refine (trefoilref03_Fit.calls k1 a0 (rd l4 (ji9)) t1034 _ A12.out).mono ?_); rintro e w' ⟨rfl, ⟨nd, rfl⟩⟩; refine ⟨_, rfl, ?_⟩; have p1035 : 0 ≤ ((ji15) : Int) := of_decide_eq_true (zq51); have q1035 : (ji15) < (l3.length : Int) := of_decide_eq_true (zq51); obtain ⟨ad1035, e1035, hx1035_0⟩ := Kd.at_bool HR3.out (ji15) p1035 q1035; (try rw [← Nbq17.out] at hx1035_0); cases e1035; replace hx1035_0 := (HB.out.cell (World.block_lt_of_cell? w _ hx1035_0)).trans hx1035_0; replace p1035 := eq_true p1035; replace q1035 := eq_true q1035) | ((with_reducible refine gate_builtin (b := .append) (xs := #[.tmp 53, .tmp 55]) rfl ?_); at_builtin; refine Kd.R_append (Kd.int .u64) (w0 := w) w.heap.size rfl (.tmp 53) (.tmp 55) 24 35 (.int .u64 0) 8 rfl Try.underlying24 info35 rfl (by decide) (by omega) u12 x12_1 t1034 [.int .u64 t1034] (fun k_ => some k_ ≠ (u13 : Value).ownBlock) (fun _ => False) rfl rfl ?aP (fun _ hk => hk.elim) ?aF ?aO ?aB ?aS ?aL ?_; (case aP => exact rfl); (case aB => exact HB.bl); (case aF => exact (fun k_ hk => Kd.fresh' (Kd.R_lt HO_13.r) k_ hk)); (case aO => exact HO_12.r); (case aS => exact (below_size HB.bl)); (case aL => have := LMc25.out; omega); intro v1045 w28 ho hb hg hat; rw [← Ny1044.out] at ho; replace HO_13 := Aside0.mk (Kd.R_after (ok := (fun _ => True)) (zq31) hg hat); replace HB := Aside0.mk (hb); have HO1046 := Aside0.mk (ho); clear HO_12; clear ho hb hg hat) | ((with_reducible refine gate_callee (f := 27) rfl ?_); refine goesL_ (some 61) rfl rfl Try.func27 (zq56) rfl #[.int .i64 a0, .int .u64 0, .int .u64 t1034] rfl (zq33) ?_; (with_reducible refine (trefoilref03_Sub.calls k1 a0 0 t1034 t1047 _ A26.out).mono ?_); rintro e w' ⟨rfl, ⟨nd, rfl⟩⟩; refine ⟨_, rfl, ?_⟩) | ((with_reducible refine gate_builtin (b := .append) (xs := #[.tmp 57, .tmp 62]) rfl ?_); at_builtin; refine Kd.R_append (Kd.int .u64) (w0 := w) w.heap.size rfl (.tmp 57) (.tmp 62) 24 35 (.int .u64 0) 8 rfl Try.underlying24 info35 rfl (by decide) (by omega) u13 x13_1 t1047 [.int .u64 t1047] (fun k_ => some k_ ≠ (v1045 : Value).ownBlock) (fun _ => False) rfl rfl ?aP (fun _ hk => hk.elim) ?aF ?aO ?aB ?aS ?aL ?_; (case aP => exact rfl); (case aB => exact HB.bl); (case aF => exact (fun k_ hk => Kd.fresh' (Kd.R_lt HO1046.r) k_ hk)); (case aO => exact (zq34)); (case aS => exact (below_size HB.bl)); (case aL => have := LMc27.out; omega); intro v1049 w29 ho hb hg hat; rw [← Ny1048.out] at ho; replace HO1046 := Aside0.mk (Kd.R_after (ok := (fun _ => True)) (by (with_reducible repeat (first | apply Kd.R_alloc | apply Kd.R_drewN | apply Kd.R_drew)); exact Kd.R_mono HO1046.out (fun _ hk => ⟨trivial, hk⟩)) hg hat); replace HB := Aside0.mk (hb); have HO1050 := Aside0.mk (ho); clear HO_13; clear ho hb hg hat))
              go_roundg k1
              case measure => have := HK1.out; omega
              case rel => exact ⟨(y1044), (y1048), (wrap64 (x14_1 + 1)), (zq52), H', ⟨zq55⟩, ⟨by (with_reducible repeat (first | apply Kd.R_alloc | apply Kd.R_drewN | apply Kd.R_drew)); exact Kd.R_mono HO1046.out (fun _ hk => hk.2)⟩, ⟨HO1050.r⟩, ⟨HB.bl⟩⟩
             ·rw [if_neg c27] at H
              exact absurd H (by simp)
            ·rw [if_neg c25] at H
             exact absurd H (by simp)
          ·rw [if_neg c16] at H
           exact absurd H (by simp)
         ·rw [if_neg c14] at H
          have c14b0 : decide ((wrap64 (Int.tdiv x14_1 a1)) < (l3.length : Int)) = false := decide_eq_false c14
          clear c14
          by_cases c30 : x12_1.length < 17592186044416
          ·rw [if_pos c30] at H
           have LMc30 := Aside0.mk c30
           clear c30
           obtain ⟨y1051, hy1051⟩ : ∃ y_ : List Int, y_ = (x12_1 ++ [t1034]) := ⟨_, rfl⟩
           replace H : ((trefoilref03_Sub.f k1 a0 0 t1034).bind fun t1054 => (if x13_1.length < 17592186044416 then (trefoilref22_Split.l0 k1 a0 a1 l2 l3 l4 y1051 (x13_1 ++ [t1054]) (wrap64 (x14_1 + 1))) else (none))) = some (r1, r2) := by first | (rw [hy1051]; with_reducible exact H) | (have H2_ := (Option.bind_some _ _).symm.trans H; rw [hy1051]; with_reducible exact H2_) | (have H2_ := (Option.bind_some _ _).symm.trans H; with_reducible exact H2_) | with_reducible exact H | (rw [hy1051]; exact H) | exact H
           have Ny1051 := Aside0.mk hy1051
           clear hy1051
           replace H := Option.bind_eq_some_iff.mp H
           obtain ⟨t1054, A310, H⟩ := H
           replace H : (if x13_1.length < 17592186044416 then (trefoilref22_Split.l0 k1 a0 a1 l2 l3 l4 y1051 (x13_1 ++ [t1054]) (wrap64 (x14_1 + 1))) else (none)) = some (r1, r2) := H
           have A31 := Aside0.mk A310
           clear A310
           by_cases c32 : x13_1.length < 17592186044416
           ·rw [if_pos c32] at H
            have LMc32 := Aside0.mk c32
            clear c32
            obtain ⟨y1055, hy1055⟩ : ∃ y_ : List Int, y_ = (x13_1 ++ [t1054]) := ⟨_, rfl⟩
            replace H : (trefoilref22_Split.l0 k1 a0 a1 l2 l3 l4 y1051 y1055 (wrap64 (x14_1 + 1))) = some (r1, r2) := by first | (rw [hy1055]; with_reducible exact H) | (have H2_ := (Option.bind_some _ _).symm.trans H; rw [hy1055]; with_reducible exact H2_) | (have H2_ := (Option.bind_some _ _).symm.trans H; with_reducible exact H2_) | with_reducible exact H | (rw [hy1055]; exact H) | exact H
            have Ny1055 := Aside0.mk hy1055
            clear hy1055
            have H' := Aside0.mk H
            clear H
            have p1033 : 0 ≤ ((ji9) : Int) := of_decide_eq_true (zq51)
            have q1033 : (ji9) < (l4.length : Int) := of_decide_eq_true (zq51)
            obtain ⟨ad1033, e1033, hx1033_0⟩ := Kd.at_int HR4.out (ji9) p1033 q1033
            cases e1033
            replace hx1033_0 := (HB.out.cell (World.block_lt_of_cell? w _ hx1033_0)).trans hx1033_0
            replace p1033 := eq_true p1033
            replace q1033 := eq_true q1033
            go_wp2_with (first | ((with_reducible refine gate_callee (f := 26) rfl ?_); refine goesL_ (some 34) rfl rfl Try.func26 (zq56) rfl #[.int .i64 a0, .int .u64 (rd l4 (ji9))] rfl (by (try simp only [List.map_toArray, List.map_cons, List.map_nil]); first | done | (simp only [hji9]; rfl) | rfl | (simp only [List.length_drop, List.length_take]; rfl)) ?_; (with_reducible refine (trefoilref03_Fit.calls k1 a0 (rd l4 (ji9)) t1034 _ A12.out).mono ?_); rintro e w' ⟨rfl, ⟨nd, rfl⟩⟩; refine ⟨_, rfl, ?_⟩) | ((with_reducible refine gate_builtin (b := .append) (xs := #[.tmp 53, .tmp 55]) rfl ?_); at_builtin; refine Kd.R_append (Kd.int .u64) (w0 := w) w.heap.size rfl (.tmp 53) (.tmp 55) 24 35 (.int .u64 0) 8 rfl Try.underlying24 info35 rfl (by decide) (by omega) u12 x12_1 t1034 [.int .u64 t1034] (fun k_ => some k_ ≠ (u13 : Value).ownBlock) (fun _ => False) rfl rfl ?aP (fun _ hk => hk.elim) ?aF ?aO ?aB ?aS ?aL ?_; (case aP => exact rfl); (case aB => exact HB.bl); (case aF => exact (fun k_ hk => Kd.fresh' (Kd.R_lt HO_13.r) k_ hk)); (case aO => exact HO_12.r); (case aS => exact (below_size HB.bl)); (case aL => have := LMc30.out; omega); intro v1052 w33 ho hb hg hat; rw [← Ny1051.out] at ho; replace HO_13 := Aside0.mk (Kd.R_after (ok := (fun _ => True)) (zq31) hg hat); replace HB := Aside0.mk (hb); have HO1053 := Aside0.mk (ho); clear HO_12; clear ho hb hg hat) | ((with_reducible refine gate_callee (f := 27) rfl ?_); refine goesL_ (some 61) rfl rfl Try.func27 (zq56) rfl #[.int .i64 a0, .int .u64 0, .int .u64 t1034] rfl (zq33) ?_; (with_reducible refine (trefoilref03_Sub.calls k1 a0 0 t1034 t1054 _ A31.out).mono ?_); rintro e w' ⟨rfl, ⟨nd, rfl⟩⟩; refine ⟨_, rfl, ?_⟩) | ((with_reducible refine gate_builtin (b := .append) (xs := #[.tmp 57, .tmp 62]) rfl ?_); at_builtin; refine Kd.R_append (Kd.int .u64) (w0 := w) w.heap.size rfl (.tmp 57) (.tmp 62) 24 35 (.int .u64 0) 8 rfl Try.underlying24 info35 rfl (by decide) (by omega) u13 x13_1 t1054 [.int .u64 t1054] (fun k_ => some k_ ≠ (v1052 : Value).ownBlock) (fun _ => False) rfl rfl ?aP (fun _ hk => hk.elim) ?aF ?aO ?aB ?aS ?aL ?_; (case aP => exact rfl); (case aB => exact HB.bl); (case aF => exact (fun k_ hk => Kd.fresh' (Kd.R_lt HO1053.r) k_ hk)); (case aO => exact (zq34)); (case aS => exact (below_size HB.bl)); (case aL => have := LMc32.out; omega); intro v1056 w34 ho hb hg hat; rw [← Ny1055.out] at ho; replace HO1053 := Aside0.mk (Kd.R_after (ok := (fun _ => True)) (by (with_reducible repeat (first | apply Kd.R_alloc | apply Kd.R_drewN | apply Kd.R_drew)); exact Kd.R_mono HO1053.out (fun _ hk => ⟨trivial, hk⟩)) hg hat); replace HB := Aside0.mk (hb); have HO1057 := Aside0.mk (ho); clear HO_13; clear ho hb hg hat))
            go_roundg k1
            case measure => have := HK1.out; omega
            case rel => exact ⟨(y1051), (y1055), (wrap64 (x14_1 + 1)), (zq52), H', ⟨zq55⟩, ⟨by (with_reducible repeat (first | apply Kd.R_alloc | apply Kd.R_drewN | apply Kd.R_drew)); exact Kd.R_mono HO1053.out (fun _ hk => hk.2)⟩, ⟨HO1057.r⟩, ⟨HB.bl⟩⟩
           ·rw [if_neg c32] at H
            exact absurd H (by simp)
          ·rw [if_neg c30] at H
           exact absurd H (by simp)
       ·rw [if_neg c11] at H
        exact absurd H (by simp)
      ·rw [if_neg c10] at H
       exact absurd H (by simp)
    ·rw [if_neg c7] at H
     have c7b0 : decide (0 < (l4.length : Int)) = false := decide_eq_false c7
     have c7b1 : decide (0 < l4.length) = false := decide_eq_false (by omega)
     clear c7
     by_cases c35 : a1 = 0
     ·rw [if_pos c35] at H
      exact absurd H (by simp)
     ·rw [if_neg c35] at H
      have c35b0 : (a1 == 0) = false := beq_eq_false_iff_ne.mpr c35
      have c35b1 : (a1 != 0) = true := bne_iff_ne.mpr c35
      by_cases c36 : (wrap64 (Int.tdiv x14_1 a1)) < (l3.length : Int)
      ·rw [if_pos c36] at H
       have c36b0 : decide ((wrap64 (Int.tdiv x14_1 a1)) < (l3.length : Int)) = true := decide_eq_true c36
       clear c36
       obtain ⟨ji37, hji37⟩ : ∃ j_ : Int, (wrap64 (Int.tdiv x14_1 a1)) = j_ := ⟨_, rfl⟩
       replace H : (if 0 ≤ (ji37) then (if rdOf false l3 (ji37) = true then (if 0 ≤ x14_1 then (if x12_1.length < 17592186044416 then ((trefoilref03_Sub.f k1 a0 (rd l2 x14_1) 0).bind fun t1063 => (if x13_1.length < 17592186044416 then (trefoilref22_Split.l0 k1 a0 a1 l2 l3 l4 (x12_1 ++ [0]) (x13_1 ++ [t1063]) (wrap64 (x14_1 + 1))) else (none))) else (none)) else (none)) else (if x12_1.length < 17592186044416 then ((trefoilref03_Sub.f k1 a0 0 0).bind fun t1070 => (if x13_1.length < 17592186044416 then (trefoilref22_Split.l0 k1 a0 a1 l2 l3 l4 (x12_1 ++ [0]) (x13_1 ++ [t1070]) (wrap64 (x14_1 + 1))) else (none))) else (none))) else (none)) = some (r1, r2) := by first | (rw [hji37] at H; exact H) | (simp only [hji37] at H ⊢; exact H)
       (try rw [hji37] at c36b0)
       have hji37w : (IntKind.i64.wrap (Int.tdiv x14_1 a1)) = ji37 := (i64_w _).trans hji37
       by_cases c38 : 0 ≤ (ji37)
       ·rw [if_pos c38] at H
        have c38b0 : decide (0 ≤ (ji37)) = true := decide_eq_true c38
        clear c38
        obtain ⟨bq39, hbq39⟩ : ∃ b_ : Bool, b_ = (rdOf false l3 (ji37)) := ⟨_, rfl⟩
        replace H : (if bq39 = true then (if 0 ≤ x14_1 then (if x12_1.length < 17592186044416 then ((trefoilref03_Sub.f k1 a0 (rd l2 x14_1) 0).bind fun t1063 => (if x13_1.length < 17592186044416 then (trefoilref22_Split.l0 k1 a0 a1 l2 l3 l4 (x12_1 ++ [0]) (x13_1 ++ [t1063]) (wrap64 (x14_1 + 1))) else (none))) else (none)) else (none)) else (if x12_1.length < 17592186044416 then ((trefoilref03_Sub.f k1 a0 0 0).bind fun t1070 => (if x13_1.length < 17592186044416 then (trefoilref22_Split.l0 k1 a0 a1 l2 l3 l4 (x12_1 ++ [0]) (x13_1 ++ [t1070]) (wrap64 (x14_1 + 1))) else (none))) else (none))) = some (r1, r2) := by rw [← hbq39] at H; exact H
        have Nbq39 := Aside0.mk hbq39
        clear hbq39
        by_cases c40 : bq39 = true
        ·subst c40
         have H1 : (if 0 ≤ x14_1 then (if x12_1.length < 17592186044416 then ((trefoilref03_Sub.f k1 a0 (rd l2 x14_1) 0).bind fun t1063 => (if x13_1.length < 17592186044416 then (trefoilref22_Split.l0 k1 a0 a1 l2 l3 l4 (x12_1 ++ [0]) (x13_1 ++ [t1063]) (wrap64 (x14_1 + 1))) else (none))) else (none)) else (none)) = some (r1, r2) := by rw [if_pos rfl] at H; exact H
         clear H
         have H := H1
         clear H1
         by_cases c41 : 0 ≤ x14_1
         ·rw [if_pos c41] at H
          have c41b0 : decide (0 ≤ x14_1) = true := decide_eq_true c41
          clear c41
          by_cases c42 : x12_1.length < 17592186044416
          ·rw [if_pos c42] at H
           have LMc42 := Aside0.mk c42
           clear c42
           obtain ⟨y1060, hy1060⟩ : ∃ y_ : List Int, y_ = (x12_1 ++ [0]) := ⟨_, rfl⟩
           replace H : ((trefoilref03_Sub.f k1 a0 (rd l2 x14_1) 0).bind fun t1063 => (if x13_1.length < 17592186044416 then (trefoilref22_Split.l0 k1 a0 a1 l2 l3 l4 y1060 (x13_1 ++ [t1063]) (wrap64 (x14_1 + 1))) else (none))) = some (r1, r2) := by first | (rw [hy1060]; with_reducible exact H) | (have H2_ := (Option.bind_some _ _).symm.trans H; rw [hy1060]; with_reducible exact H2_) | (have H2_ := (Option.bind_some _ _).symm.trans H; with_reducible exact H2_) | with_reducible exact H | (rw [hy1060]; exact H) | exact H
           have Ny1060 := Aside0.mk hy1060
           clear hy1060
           replace H := Option.bind_eq_some_iff.mp H
           obtain ⟨t1063, A430, H⟩ := H
           replace H : (if x13_1.length < 17592186044416 then (trefoilref22_Split.l0 k1 a0 a1 l2 l3 l4 y1060 (x13_1 ++ [t1063]) (wrap64 (x14_1 + 1))) else (none)) = some (r1, r2) := H
           have A43 := Aside0.mk A430
           clear A430
           by_cases c44 : x13_1.length < 17592186044416
           ·rw [if_pos c44] at H
            have LMc44 := Aside0.mk c44
            clear c44
            obtain ⟨y1064, hy1064⟩ : ∃ y_ : List Int, y_ = (x13_1 ++ [t1063]) := ⟨_, rfl⟩
            replace H : (trefoilref22_Split.l0 k1 a0 a1 l2 l3 l4 y1060 y1064 (wrap64 (x14_1 + 1))) = some (r1, r2) := by first | (rw [hy1064]; with_reducible exact H) | (have H2_ := (Option.bind_some _ _).symm.trans H; rw [hy1064]; with_reducible exact H2_) | (have H2_ := (Option.bind_some _ _).symm.trans H; with_reducible exact H2_) | with_reducible exact H | (rw [hy1064]; exact H) | exact H
            have Ny1064 := Aside0.mk hy1064
            clear hy1064
            have H' := Aside0.mk H
            clear H
            have p1058 : 0 ≤ ((ji37) : Int) := of_decide_eq_true (zq51)
            have q1058 : (ji37) < (l3.length : Int) := of_decide_eq_true (zq51)
            obtain ⟨ad1058, e1058, hx1058_0⟩ := Kd.at_bool HR3.out (ji37) p1058 q1058
            (try rw [← Nbq39.out] at hx1058_0)
            cases e1058
            replace hx1058_0 := (HB.out.cell (World.block_lt_of_cell? w _ hx1058_0)).trans hx1058_0
            replace p1058 := eq_true p1058
            replace q1058 := eq_true q1058
            have p1059 : 0 ≤ (x14_1 : Int) := of_decide_eq_true (zq51)
            have q1059 : x14_1 < (l2.length : Int) := of_decide_eq_true (zq51)
            obtain ⟨ad1059, e1059, hx1059_0⟩ := Kd.at_int HR2.out x14_1 p1059 q1059
            cases e1059
            replace hx1059_0 := (HB.out.cell (World.block_lt_of_cell? w _ hx1059_0)).trans hx1059_0
            replace p1059 := eq_true p1059
            replace q1059 := eq_true q1059
            go_wp2_with (first | ((with_reducible refine gate_builtin (b := .append) (xs := #[.tmp 53, .tmp 55]) rfl ?_); at_builtin; refine Kd.R_append (Kd.int .u64) (w0 := w) w.heap.size rfl (.tmp 53) (.tmp 55) 24 35 (.int .u64 0) 8 rfl Try.underlying24 info35 rfl (by decide) (by omega) u12 x12_1 0 [.int .u64 0] (fun k_ => some k_ ≠ (u13 : Value).ownBlock) (fun _ => False) rfl rfl ?aP (fun _ hk => hk.elim) ?aF ?aO ?aB ?aS ?aL ?_; (case aP => exact rfl); (case aB => exact HB.bl); (case aF => exact (fun k_ hk => Kd.fresh' (Kd.R_lt HO_13.r) k_ hk)); (case aO => exact HO_12.r); (case aS => exact (below_size HB.bl)); (case aL => have := LMc42.out; omega); intro v1061 w45 ho hb hg hat; rw [← Ny1060.out] at ho; replace HO_13 := Aside0.mk (Kd.R_after (ok := (fun _ => True)) (zq31) hg hat); replace HB := Aside0.mk (hb); have HO1062 := Aside0.mk (ho); clear HO_12; clear ho hb hg hat) | ((with_reducible refine gate_callee (f := 27) rfl ?_); refine goesL_ (some 61) rfl rfl Try.func27 (zq56) rfl #[.int .i64 a0, .int .u64 (rd l2 x14_1), .int .u64 0] rfl (zq33) ?_; (with_reducible refine (trefoilref03_Sub.calls k1 a0 (rd l2 x14_1) 0 t1063 _ A43.out).mono ?_); rintro e w' ⟨rfl, ⟨nd, rfl⟩⟩; refine ⟨_, rfl, ?_⟩) | ((with_reducible refine gate_builtin (b := .append) (xs := #[.tmp 57, .tmp 62]) rfl ?_); at_builtin; refine Kd.R_append (Kd.int .u64) (w0 := w) w.heap.size rfl (.tmp 57) (.tmp 62) 24 35 (.int .u64 0) 8 rfl Try.underlying24 info35 rfl (by decide) (by omega) u13 x13_1 t1063 [.int .u64 t1063] (fun k_ => some k_ ≠ (v1061 : Value).ownBlock) (fun _ => False) rfl rfl ?aP (fun _ hk => hk.elim) ?aF ?aO ?aB ?aS ?aL ?_; (case aP => exact rfl); (case aB => exact HB.bl); (case aF => exact (fun k_ hk => Kd.fresh' (Kd.R_lt HO1062.r) k_ hk)); (case aO => exact (zq34)); (case aS => exact (below_size HB.bl)); (case aL => have := LMc44.out; omega); intro v1065 w46 ho hb hg hat; rw [← Ny1064.out] at ho; replace HO1062 := Aside0.mk (Kd.R_after (ok := (fun _ => True)) (by (with_reducible repeat (first | apply Kd.R_alloc | apply Kd.R_drewN | apply Kd.R_drew)); exact Kd.R_mono HO1062.out (fun _ hk => ⟨trivial, hk⟩)) hg hat); replace HB := Aside0.mk (hb); have HO1066 := Aside0.mk (ho); clear HO_13; clear ho hb hg hat))
            go_roundg k1
            case measure => have := HK1.out; omega
            case rel => exact ⟨(y1060), (y1064), (wrap64 (x14_1 + 1)), (zq52), H', ⟨zq55⟩, ⟨by (with_reducible repeat (first | apply Kd.R_alloc | apply Kd.R_drewN | apply Kd.R_drew)); exact Kd.R_mono HO1062.out (fun _ hk => hk.2)⟩, ⟨HO1066.r⟩, ⟨HB.bl⟩⟩
           ·rw [if_neg c44] at H
            exact absurd H (by simp)
          ·rw [if_neg c42] at H
           exact absurd H (by simp)
         ·rw [if_neg c41] at H
          exact absurd H (by simp)
        ·replace c40 := Bool.eq_false_iff.mpr c40
         subst c40
         have H1 : (if x12_1.length < 17592186044416 then ((trefoilref03_Sub.f k1 a0 0 0).bind fun t1070 => (if x13_1.length < 17592186044416 then (trefoilref22_Split.l0 k1 a0 a1 l2 l3 l4 (x12_1 ++ [0]) (x13_1 ++ [t1070]) (wrap64 (x14_1 + 1))) else (none))) else (none)) = some (r1, r2) := by rw [if_neg (show ¬ (false = true) by decide)] at H; exact H
         clear H
         have H := H1
         clear H1
         by_cases c47 : x12_1.length < 17592186044416
         ·rw [if_pos c47] at H
          have LMc47 := Aside0.mk c47
          clear c47
          obtain ⟨y1067, hy1067⟩ : ∃ y_ : List Int, y_ = (x12_1 ++ [0]) := ⟨_, rfl⟩
          replace H : ((trefoilref03_Sub.f k1 a0 0 0).bind fun t1070 => (if x13_1.length < 17592186044416 then (trefoilref22_Split.l0 k1 a0 a1 l2 l3 l4 y1067 (x13_1 ++ [t1070]) (wrap64 (x14_1 + 1))) else (none))) = some (r1, r2) := by first | (rw [hy1067]; with_reducible exact H) | (have H2_ := (Option.bind_some _ _).symm.trans H; rw [hy1067]; with_reducible exact H2_) | (have H2_ := (Option.bind_some _ _).symm.trans H; with_reducible exact H2_) | with_reducible exact H | (rw [hy1067]; exact H) | exact H
          have Ny1067 := Aside0.mk hy1067
          clear hy1067
          replace H := Option.bind_eq_some_iff.mp H
          obtain ⟨t1070, A480, H⟩ := H
          replace H : (if x13_1.length < 17592186044416 then (trefoilref22_Split.l0 k1 a0 a1 l2 l3 l4 y1067 (x13_1 ++ [t1070]) (wrap64 (x14_1 + 1))) else (none)) = some (r1, r2) := H
          have A48 := Aside0.mk A480
          clear A480
          by_cases c49 : x13_1.length < 17592186044416
          ·rw [if_pos c49] at H
           have LMc49 := Aside0.mk c49
           clear c49
           obtain ⟨y1071, hy1071⟩ : ∃ y_ : List Int, y_ = (x13_1 ++ [t1070]) := ⟨_, rfl⟩
           replace H : (trefoilref22_Split.l0 k1 a0 a1 l2 l3 l4 y1067 y1071 (wrap64 (x14_1 + 1))) = some (r1, r2) := by first | (rw [hy1071]; with_reducible exact H) | (have H2_ := (Option.bind_some _ _).symm.trans H; rw [hy1071]; with_reducible exact H2_) | (have H2_ := (Option.bind_some _ _).symm.trans H; with_reducible exact H2_) | with_reducible exact H | (rw [hy1071]; exact H) | exact H
           have Ny1071 := Aside0.mk hy1071
           clear hy1071
           have H' := Aside0.mk H
           clear H
           have p1058 : 0 ≤ ((ji37) : Int) := of_decide_eq_true (zq51)
           have q1058 : (ji37) < (l3.length : Int) := of_decide_eq_true (zq51)
           obtain ⟨ad1058, e1058, hx1058_0⟩ := Kd.at_bool HR3.out (ji37) p1058 q1058
           (try rw [← Nbq39.out] at hx1058_0)
           cases e1058
           replace hx1058_0 := (HB.out.cell (World.block_lt_of_cell? w _ hx1058_0)).trans hx1058_0
           replace p1058 := eq_true p1058
           replace q1058 := eq_true q1058
           go_wp2_with (first | ((with_reducible refine gate_builtin (b := .append) (xs := #[.tmp 53, .tmp 55]) rfl ?_); at_builtin; refine Kd.R_append (Kd.int .u64) (w0 := w) w.heap.size rfl (.tmp 53) (.tmp 55) 24 35 (.int .u64 0) 8 rfl Try.underlying24 info35 rfl (by decide) (by omega) u12 x12_1 0 [.int .u64 0] (fun k_ => some k_ ≠ (u13 : Value).ownBlock) (fun _ => False) rfl rfl ?aP (fun _ hk => hk.elim) ?aF ?aO ?aB ?aS ?aL ?_; (case aP => exact rfl); (case aB => exact HB.bl); (case aF => exact (fun k_ hk => Kd.fresh' (Kd.R_lt HO_13.r) k_ hk)); (case aO => exact HO_12.r); (case aS => exact (below_size HB.bl)); (case aL => have := LMc47.out; omega); intro v1068 w50 ho hb hg hat; rw [← Ny1067.out] at ho; replace HO_13 := Aside0.mk (Kd.R_after (ok := (fun _ => True)) (zq31) hg hat); replace HB := Aside0.mk (hb); have HO1069 := Aside0.mk (ho); clear HO_12; clear ho hb hg hat) | ((with_reducible refine gate_callee (f := 27) rfl ?_); refine goesL_ (some 61) rfl rfl Try.func27 (zq56) rfl #[.int .i64 a0, .int .u64 0, .int .u64 0] rfl (zq33) ?_; (with_reducible refine (trefoilref03_Sub.calls k1 a0 0 0 t1070 _ A48.out).mono ?_); rintro e w' ⟨rfl, ⟨nd, rfl⟩⟩; refine ⟨_, rfl, ?_⟩) | ((with_reducible refine gate_builtin (b := .append) (xs := #[.tmp 57, .tmp 62]) rfl ?_); at_builtin; refine Kd.R_append (Kd.int .u64) (w0 := w) w.heap.size rfl (.tmp 57) (.tmp 62) 24 35 (.int .u64 0) 8 rfl Try.underlying24 info35 rfl (by decide) (by omega) u13 x13_1 t1070 [.int .u64 t1070] (fun k_ => some k_ ≠ (v1068 : Value).ownBlock) (fun _ => False) rfl rfl ?aP (fun _ hk => hk.elim) ?aF ?aO ?aB ?aS ?aL ?_; (case aP => exact rfl); (case aB => exact HB.bl); (case aF => exact (fun k_ hk => Kd.fresh' (Kd.R_lt HO1069.r) k_ hk)); (case aO => exact (zq34)); (case aS => exact (below_size HB.bl)); (case aL => have := LMc49.out; omega); intro v1072 w51 ho hb hg hat; rw [← Ny1071.out] at ho; replace HO1069 := Aside0.mk (Kd.R_after (ok := (fun _ => True)) (by (with_reducible repeat (first | apply Kd.R_alloc | apply Kd.R_drewN | apply Kd.R_drew)); exact Kd.R_mono HO1069.out (fun _ hk => ⟨trivial, hk⟩)) hg hat); replace HB := Aside0.mk (hb); have HO1073 := Aside0.mk (ho); clear HO_13; clear ho hb hg hat))
           go_roundg k1
           case measure => have := HK1.out; omega
           case rel => exact ⟨(y1067), (y1071), (wrap64 (x14_1 + 1)), (zq52), H', ⟨zq55⟩, ⟨by (with_reducible repeat (first | apply Kd.R_alloc | apply Kd.R_drewN | apply Kd.R_drew)); exact Kd.R_mono HO1069.out (fun _ hk => hk.2)⟩, ⟨HO1073.r⟩, ⟨HB.bl⟩⟩
          ·rw [if_neg c49] at H
           exact absurd H (by simp)
         ·rw [if_neg c47] at H
          exact absurd H (by simp)
       ·rw [if_neg c38] at H
        exact absurd H (by simp)
      ·rw [if_neg c36] at H
       have c36b0 : decide ((wrap64 (Int.tdiv x14_1 a1)) < (l3.length : Int)) = false := decide_eq_false c36
       clear c36
       by_cases c52 : x12_1.length < 17592186044416
       ·rw [if_pos c52] at H
        have LMc52 := Aside0.mk c52
        clear c52
        obtain ⟨y1074, hy1074⟩ : ∃ y_ : List Int, y_ = (x12_1 ++ [0]) := ⟨_, rfl⟩
        replace H : ((trefoilref03_Sub.f k1 a0 0 0).bind fun t1077 => (if x13_1.length < 17592186044416 then (trefoilref22_Split.l0 k1 a0 a1 l2 l3 l4 y1074 (x13_1 ++ [t1077]) (wrap64 (x14_1 + 1))) else (none))) = some (r1, r2) := by first | (rw [hy1074]; with_reducible exact H) | (have H2_ := (Option.bind_some _ _).symm.trans H; rw [hy1074]; with_reducible exact H2_) | (have H2_ := (Option.bind_some _ _).symm.trans H; with_reducible exact H2_) | with_reducible exact H | (rw [hy1074]; exact H) | exact H
        have Ny1074 := Aside0.mk hy1074
        clear hy1074
        replace H := Option.bind_eq_some_iff.mp H
        obtain ⟨t1077, A530, H⟩ := H
        replace H : (if x13_1.length < 17592186044416 then (trefoilref22_Split.l0 k1 a0 a1 l2 l3 l4 y1074 (x13_1 ++ [t1077]) (wrap64 (x14_1 + 1))) else (none)) = some (r1, r2) := H
        have A53 := Aside0.mk A530
        clear A530
        by_cases c54 : x13_1.length < 17592186044416
        ·rw [if_pos c54] at H
         have LMc54 := Aside0.mk c54
         clear c54
         obtain ⟨y1078, hy1078⟩ : ∃ y_ : List Int, y_ = (x13_1 ++ [t1077]) := ⟨_, rfl⟩
         replace H : (trefoilref22_Split.l0 k1 a0 a1 l2 l3 l4 y1074 y1078 (wrap64 (x14_1 + 1))) = some (r1, r2) := by first | (rw [hy1078]; with_reducible exact H) | (have H2_ := (Option.bind_some _ _).symm.trans H; rw [hy1078]; with_reducible exact H2_) | (have H2_ := (Option.bind_some _ _).symm.trans H; with_reducible exact H2_) | with_reducible exact H | (rw [hy1078]; exact H) | exact H
         have Ny1078 := Aside0.mk hy1078
         clear hy1078
         have H' := Aside0.mk H
         clear H
         go_wp2_with (first | ((with_reducible refine gate_builtin (b := .append) (xs := #[.tmp 53, .tmp 55]) rfl ?_); at_builtin; refine Kd.R_append (Kd.int .u64) (w0 := w) w.heap.size rfl (.tmp 53) (.tmp 55) 24 35 (.int .u64 0) 8 rfl Try.underlying24 info35 rfl (by decide) (by omega) u12 x12_1 0 [.int .u64 0] (fun k_ => some k_ ≠ (u13 : Value).ownBlock) (fun _ => False) rfl rfl ?aP (fun _ hk => hk.elim) ?aF ?aO ?aB ?aS ?aL ?_; (case aP => exact rfl); (case aB => exact HB.bl); (case aF => exact (fun k_ hk => Kd.fresh' (Kd.R_lt HO_13.r) k_ hk)); (case aO => exact HO_12.r); (case aS => exact (below_size HB.bl)); (case aL => have := LMc52.out; omega); intro v1075 w55 ho hb hg hat; rw [← Ny1074.out] at ho; replace HO_13 := Aside0.mk (Kd.R_after (ok := (fun _ => True)) (zq31) hg hat); replace HB := Aside0.mk (hb); have HO1076 := Aside0.mk (ho); clear HO_12; clear ho hb hg hat) | ((with_reducible refine gate_callee (f := 27) rfl ?_); refine goesL_ (some 61) rfl rfl Try.func27 (zq56) rfl #[.int .i64 a0, .int .u64 0, .int .u64 0] rfl (zq33) ?_; (with_reducible refine (trefoilref03_Sub.calls k1 a0 0 0 t1077 _ A53.out).mono ?_); rintro e w' ⟨rfl, ⟨nd, rfl⟩⟩; refine ⟨_, rfl, ?_⟩) | ((with_reducible refine gate_builtin (b := .append) (xs := #[.tmp 57, .tmp 62]) rfl ?_); at_builtin; refine Kd.R_append (Kd.int .u64) (w0 := w) w.heap.size rfl (.tmp 57) (.tmp 62) 24 35 (.int .u64 0) 8 rfl Try.underlying24 info35 rfl (by decide) (by omega) u13 x13_1 t1077 [.int .u64 t1077] (fun k_ => some k_ ≠ (v1075 : Value).ownBlock) (fun _ => False) rfl rfl ?aP (fun _ hk => hk.elim) ?aF ?aO ?aB ?aS ?aL ?_; (case aP => exact rfl); (case aB => exact HB.bl); (case aF => exact (fun k_ hk => Kd.fresh' (Kd.R_lt HO1076.r) k_ hk)); (case aO => exact (zq34)); (case aS => exact (below_size HB.bl)); (case aL => have := LMc54.out; omega); intro v1079 w56 ho hb hg hat; rw [← Ny1078.out] at ho; replace HO1076 := Aside0.mk (Kd.R_after (ok := (fun _ => True)) (by (with_reducible repeat (first | apply Kd.R_alloc | apply Kd.R_drewN | apply Kd.R_drew)); exact Kd.R_mono HO1076.out (fun _ hk => ⟨trivial, hk⟩)) hg hat); replace HB := Aside0.mk (hb); have HO1080 := Aside0.mk (ho); clear HO_13; clear ho hb hg hat))
         go_roundg k1
         case measure => have := HK1.out; omega
         case rel => exact ⟨(y1074), (y1078), (wrap64 (x14_1 + 1)), (zq52), H', ⟨zq55⟩, ⟨by (with_reducible repeat (first | apply Kd.R_alloc | apply Kd.R_drewN | apply Kd.R_drew)); exact Kd.R_mono HO1076.out (fun _ hk => hk.2)⟩, ⟨HO1080.r⟩, ⟨HB.bl⟩⟩
        ·rw [if_neg c54] at H
         exact absurd H (by simp)
       ·rw [if_neg c52] at H
        exact absurd H (by simp)
   ·rw [if_neg c6] at H
    have c6b0 : decide (x14_1 < (l2.length : Int)) = false := decide_eq_false c6
    clear c6
    simp only [Option.some.injEq, Prod.mk.injEq] at H
    obtain ⟨rfl, rfl⟩ := H
    go_wp2
    go_ret2
    exact ⟨_, _, zq49, HO_12.r, HO_13.r, HB.bl⟩
end Go.Proofs.Ytcmaidpoolcelaa.P
