/- Functions of the program as plain Lean functions, and proofs that the machine's calls do what these do: written by a program of this workplace (wip/tools/pp.py). -/
import Derived.Test.YtcmaidpoolcelaaMcPx0
import Derived.Test.YtcmaidpoolcelaaMcK1
import Derived.Test.YtcmaidpoolcelaaMcSh
namespace Go.Proofs.Ytcmaidpoolcelaa.P
open Go.RowKit Go.Proofs.YtcmaidpoolcelaaW.PrintWords Go.Proofs.YtcmaidpoolcelaaW.PrintLast Go.Proofs.YtcmaidpoolcelaaW.PrintMore
attribute [local go_sem] max2_int min2_int max_two min_two max_three min_three max_four min_four   -- for this text's walks alone
set_option linter.unusedVariables false
set_option linter.unusedSimpArgs false

abbrev ba2_0 : Array Bool := #[false, false, false, false, false, false, false, false, false, false, false, false, false, false, false, false]
abbrev ba2_1 : Array Bool := #[false, false, false, false, false, false, false, false, false, false]
abbrev ba2_2 : Array Bool := #[true, false, false, false, false, false, false, false, false, false, false, false, false, false, false, false]
abbrev ba2_3 : Array Bool := #[true, false, false, false, false, false, false, false, false, false]
abbrev ba2_4 : Array Bool := #[true, true, false, false, false, false, false, false, false, false, false, false, false, false, false, false]
abbrev ba2_5 : Array Bool := #[true, true, false, false, false, false, false, false, false, false]
abbrev ba2_6 : Array Bool := #[true, true, true, false, false, false, false, false, false, false, false, false, false, false, false, false]
abbrev ba2_7 : Array Bool := #[true, true, true, false, false, false, false, false, false, false]
abbrev ba2_8 : Array Bool := #[true, true, true, false, false, true, false, false, false, false]
abbrev ba2_9 : Array Bool := #[true, true, true, false, false, true, true, false, false, false]
abbrev ba2_10 : Array Bool := #[true, true, true, false, false, true, true, true, false, false]
abbrev ba2_11 : Array Bool := #[true, true, true, false, true, false, false, false, false, false, false, false, false, false, false, false]
abbrev ba2_12 : Array Bool := #[true, true, true, false, true, false, false, false, true, false, false, false, false, false, false, false]
abbrev ba2_13 : Array Bool := #[true, true, true, false, true, false, false, false, true, true, false, false, false, false, false, false]
abbrev ba2_14 : Array Bool := #[true, true, true, false, true, false, false, false, true, true, true, false, false, false, false, false]
abbrev ba2_15 : Array Bool := #[true, true, true, true, false, true, true, true, false, false]
abbrev ba2_16 : Array Bool := #[true, true, true, true, true, false, false, false, true, true, true, false, false, false, false, false]
abbrev ba2_17 : Array Bool := #[true, true, true, true, true, true, false, false, true, true, true, false, false, false, false, false]
abbrev ba2_18 : Array Bool := #[true, true, true, true, true, true, true, false, true, true, true, false, false, false, false, false]
abbrev ba2_19 : Array Bool := #[true, true, true, true, true, true, true, true, false, false]
abbrev ba2_20 : Array Bool := #[true, true, true, true, true, true, true, true, true, false]
abbrev ba2_21 : Array Bool := #[true, true, true, true, true, true, true, true, true, true, true, false, false, false, false, false]
abbrev ba2_22 : Array Bool := #[true, true, true, true, true, true, true, true, true, true, true, true, false, false, false, false]
abbrev ba2_23 : Array Bool := #[true, true, true, true, true, true, true, true, true, true, true, true, true, false, false, false]
abbrev ba2_24 : Array Bool := #[true, true, true, true, true, true, true, true, true, true, true, true, true, true, false, false]
abbrev ba2_25 : Array Bool := #[true, true, true, true, true, true, true, true, true, true, true, true, true, true, true, false]
abbrev ba2_26 : Array Bool := #[true, true, true, true, true, true, true, true, true, true, true, true, true, true, true, true]
abbrev ba2_27 : Array Bool := #[true, true, true, true, true, true, true, true, true, true]

/-! ### trefoilref09_Fits: function 50 -/
mutual
def trefoilref09_Fits.l0 : Nat → List Int → List Int → List (List Int) → Int → Option (Bool)
 | 0, _, _, _, _ => none
 | k + 1, x5, x6, x7, x8 => if x8 < 3 then (if 0 ≤ x8 then (if x8 < (x7.length : Int) then (if x8 < (x5.length : Int) then (if ((rd_L2 x7 x8).length : Int) = (rd x5 x8) then (trefoilref09_Fits.l1 k x5 x6 x7 x8 0) else (some false)) else (none)) else (none)) else (none)) else (some true)
def trefoilref09_Fits.l1 : Nat → List Int → List Int → List (List Int) → Int → Int → Option (Bool)
 | 0, _, _, _, _, _ => none
 | k + 1, x5, x6, x7, x8, x9 => if 0 ≤ x8 then (if x8 < (x7.length : Int) then (if x9 < ((rd_L2 x7 x8).length : Int) then (if 0 ≤ x9 then (if x8 < (x6.length : Int) then (if 0 ≤ (IntKind.u64.wrap (wrap64 ((rd x6 x8) - 1))) then (if (shr .u64 (IntKind.u64.wrap (Int.tdiv (rd (rd_L2 x7 x8) x9) 2)) (IntKind.u64.wrap (wrap64 ((rd x6 x8) - 1)))) = 0 then (trefoilref09_Fits.l1 k x5 x6 x7 x8 (wrap64 (x9 + 1))) else (some false)) else (none)) else (none)) else (none)) else (trefoilref09_Fits.l0 k x5 x6 x7 (wrap64 (x8 + 1)))) else (none)) else (none)
end
def trefoilref09_Fits.f (k : Nat) (a0_0 : Int) (a0_1 : Int) (a0_2 : Int) (a0_3 : Int) (a0_4 : Int) (l1_0 : List Int) (l1_1 : List Int) (l1_2 : List Int) : Option (Bool) := (trefoilref09_Check.f k a0_0 a0_1 a0_2 a0_3 a0_4).bind fun t182 => (if t182 = 0 then ((trefoilref09_Sizes.f k a0_0 a0_1 a0_2 a0_3 a0_4).bind fun t183 => ((trefoilref09_Widths.f k a0_0 a0_1 a0_2 a0_3 a0_4).bind fun t186 => (trefoilref09_Fits.l0 k t183 t186 (([l1_0, l1_1, l1_2] : List (List Int))) 0))) else (some false))
def trefoilref09_Fits.T8 : Bool × List (List Nat × List Nat) := (true, [([], []), ([], []), ([0, 1], [0, 1]), ([2], [2]), ([3], [3]), ([], []), ([], []), ([5, 6], [5, 6]), ([7], [7]), ([4, 8], [4, 8])])
def trefoilref09_Fits.B8 : List Nat := [0, 0, 3, 7, 15, 0, 0, 96, 224, 511]
theorem trefoilref09_Fits.tab8 : rtab .any (opsOf Try.f50 8) = trefoilref09_Fits.T8 := by kernel_rfl
theorem trefoilref09_Fits.bits8 : waitsOk trefoilref09_Fits.T8.2 trefoilref09_Fits.B8 = true := by kernel_rfl
def trefoilref09_Fits.T13 : Bool × List (List Nat × List Nat) := (true, [([], []), ([], []), ([0, 1], [0, 1]), ([2], [2]), ([], []), ([3, 4], [3, 4]), ([5], [5]), ([6], [6]), ([], []), ([], []), ([8, 9], [8, 9]), ([10], [10]), ([11], [11]), ([12], [12]), ([7, 13], [7, 13]), ([14], [14])])
def trefoilref09_Fits.B13 : List Nat := [0, 0, 3, 7, 0, 31, 63, 127, 0, 0, 768, 1792, 3840, 7936, 16383, 32767]
theorem trefoilref09_Fits.tab13 : rtab .any (opsOf Try.f50 13) = trefoilref09_Fits.T13 := by kernel_rfl
theorem trefoilref09_Fits.bits13 : waitsOk trefoilref09_Fits.T13.2 trefoilref09_Fits.B13 = true := by kernel_rfl
set_option maxHeartbeats 8000000 in
set_option maxRecDepth 100000 in
theorem trefoilref09_Fits.calls (k : Nat) (a0_0 : Int) (a0_1 : Int) (a0_2 : Int) (a0_3 : Int) (a0_4 : Int) (P1_0_ : Nat → Prop) (A1_0 : Option Addr) (c1_0 : Nat) (l1_0 : List Int) (P1_1_ : Nat → Prop) (A1_1 : Option Addr) (c1_1 : Nat) (l1_1 : List Int) (P1_2_ : Nat → Prop) (A1_2 : Option Addr) (c1_2 : Nat) (l1_2 : List Int) (r : Bool) (w : World) (hs1_0 : Kd.V (Kd.int .u64) 35 w w.heap.size (fun k_ => P1_0_ k_) (.slice A1_0 l1_0.length c1_0) l1_0) (hs1_1 : Kd.V (Kd.int .u64) 35 w w.heap.size (fun k_ => P1_1_ k_) (.slice A1_1 l1_1.length c1_1) l1_1) (hs1_2 : Kd.V (Kd.int .u64) 35 w w.heap.size (fun k_ => P1_2_ k_) (.slice A1_2 l1_2.length c1_2) l1_2) (h : trefoilref09_Fits.f k a0_0 a0_1 a0_2 a0_3 a0_4 l1_0 l1_1 l1_2 = some r) :
  Calls Try.prog 50 #[.agg #[.int .i64 a0_0, .int .i64 a0_1, .int .i64 a0_2, .int .i64 a0_3, .int .i64 a0_4], .agg #[.slice A1_0 l1_0.length c1_0, .slice A1_1 l1_1.length c1_1, .slice A1_2 l1_2.length c1_2]] w fun e w' => e = .returned (.bool r) ∧ Below w.heap.size w w' := by
 have hu23 := Try.underlying23
 have hu26 := Try.underlying26
 have HO1_0 := Aside0.mk (show Kd.V (Kd.int .u64) 35 w w.heap.size (fun k_ => ((P1_0_ k_ ∨ P1_1_ k_ ∨ P1_2_ k_) ∨ w.heap.size ≤ k_)) (.slice A1_0 l1_0.length c1_0) l1_0 from Kd.V_mono hs1_0 (fun k_ hk => .inl (.inl hk)))
 have HO1_1 := Aside0.mk (show Kd.V (Kd.int .u64) 35 w w.heap.size (fun k_ => ((P1_0_ k_ ∨ P1_1_ k_ ∨ P1_2_ k_) ∨ w.heap.size ≤ k_)) (.slice A1_1 l1_1.length c1_1) l1_1 from Kd.V_mono hs1_1 (fun k_ hk => .inl (.inr (.inl hk))))
 have HO1_2 := Aside0.mk (show Kd.V (Kd.int .u64) 35 w w.heap.size (fun k_ => ((P1_0_ k_ ∨ P1_1_ k_ ∨ P1_2_ k_) ∨ w.heap.size ≤ k_)) (.slice A1_2 l1_2.length c1_2) l1_2 from Kd.V_mono hs1_2 (fun k_ hk => .inl (.inr (.inr hk))))
 have HB := Aside0.mk (Below.refl w.heap.size w)
 have H : ((trefoilref09_Check.f k a0_0 a0_1 a0_2 a0_3 a0_4).bind fun t182 => (if t182 = 0 then ((trefoilref09_Sizes.f k a0_0 a0_1 a0_2 a0_3 a0_4).bind fun t183 => ((trefoilref09_Widths.f k a0_0 a0_1 a0_2 a0_3 a0_4).bind fun t186 => (trefoilref09_Fits.l0 k t183 t186 (([l1_0, l1_1, l1_2] : List (List Int))) 0))) else (some false))) = some r := h
 clear h
 replace H := Option.bind_eq_some_iff.mp H
 obtain ⟨t182, A30, H⟩ := H
 replace H : (if t182 = 0 then ((trefoilref09_Sizes.f k a0_0 a0_1 a0_2 a0_3 a0_4).bind fun t183 => ((trefoilref09_Widths.f k a0_0 a0_1 a0_2 a0_3 a0_4).bind fun t186 => (trefoilref09_Fits.l0 k t183 t186 (([l1_0, l1_1, l1_2] : List (List Int))) 0))) else (some false)) = some r := H
 have A3 := Aside0.mk A30
 clear A30
 by_cases c4 : t182 = 0
 ·rw [if_pos c4] at H
  have c4b0 : (t182 == 0) = true := beq_iff_eq.mpr c4
  have c4b1 : (t182 != 0) = false := bne_eq_false_iff_eq.mpr c4
  clear c4
  replace H := Option.bind_eq_some_iff.mp H
  obtain ⟨t183, A50, H⟩ := H
  replace H : ((trefoilref09_Widths.f k a0_0 a0_1 a0_2 a0_3 a0_4).bind fun t186 => (trefoilref09_Fits.l0 k t183 t186 (([l1_0, l1_1, l1_2] : List (List Int))) 0)) = some r := H
  have A5 := Aside0.mk A50
  clear A50
  replace H := Option.bind_eq_some_iff.mp H
  obtain ⟨t186, A60, H⟩ := H
  replace H : (trefoilref09_Fits.l0 k t183 t186 (([l1_0, l1_1, l1_2] : List (List Int))) 0) = some r := H
  have A6 := Aside0.mk A60
  clear A60
  obtain ⟨y189, hy189⟩ : ∃ y_ : List (List Int), y_ = (([l1_0, l1_1, l1_2] : List (List Int))) := ⟨_, rfl⟩
  replace H : (trefoilref09_Fits.l0 k t183 t186 y189 0) = some r := by first | (rw [hy189]; with_reducible exact H) | (have H2_ := (Option.bind_some _ _).symm.trans H; rw [hy189]; with_reducible exact H2_) | (have H2_ := (Option.bind_some _ _).symm.trans H; with_reducible exact H2_) | with_reducible exact H | (rw [hy189]; exact H) | exact H
  have Ny189 := Aside0.mk hy189
  clear hy189
  have H' := Aside0.mk H
  clear H
  go_enter Try.func50, Try.ntmps50
  try go_wp2_with (first | ((with_reducible refine gate_dst (N := 2) rfl ?_); refine box_event ?hg (N := 2) ?hd (cs := #[.int .i64 a0_0, .int .i64 a0_1, .int .i64 a0_2, .int .i64 a0_3, .int .i64 a0_4]) (t := 23) ?hr ?_; (case hd => rfl); (case hg => rfl); (case hr => first | (go_simp; done) | (go_simp; rfl)); intro gb180 hg w7 hbox hb; have n0_ := Aside0.mk (Kd.V_below (Kd.V_elderB HO1_0.v gb180 (Nat.le_of_eq hg.symm)) hb); have n1_ := Aside0.mk (Kd.V_below (Kd.V_elderB HO1_1.v gb180 (Nat.le_of_eq hg.symm)) hb); have n2_ := Aside0.mk (Kd.V_below (Kd.V_elderB HO1_2.v gb180 (Nat.le_of_eq hg.symm)) hb); have n3_ := Aside0.mk (below_step HB.bl hb); have n4_ := Aside0.mk (hbox); have n5_ := Aside0.mk ((zq54 : w.heap.size ≤ gb180)); have n6_ := Aside0.mk ((zq54 : w.heap.size ≤ gb180)); clear HO1_0; clear HO1_1; clear HO1_2; clear HB; have HO1_0 := n0_; have HO1_1 := n1_; have HO1_2 := n2_; have HB := n3_; have BK180 := n4_; have GW180 := n5_; have GE180 := n6_; clear n0_ n1_ n2_ n3_ n4_ n5_ n6_; clear hb hbox hg) | ((with_reducible refine gate_dst (N := 3) rfl ?_); refine box_event ?hg (N := 3) ?hd (cs := #[.slice A1_0 l1_0.length c1_0, .slice A1_1 l1_1.length c1_1, .slice A1_2 l1_2.length c1_2]) (t := 26) ?hr ?_; (case hd => rfl); (case hg => rfl); (case hr => first | (go_simp; done) | (go_simp; rfl)); intro gb181 hg w8 hbox hb; have n0_ := Aside0.mk (Kd.V_below (Kd.V_elderB HO1_0.v gb181 (Nat.le_of_eq hg.symm)) hb); have n1_ := Aside0.mk (Kd.V_below (Kd.V_elderB HO1_1.v gb181 (Nat.le_of_eq hg.symm)) hb); have n2_ := Aside0.mk (Kd.V_below (Kd.V_elderB HO1_2.v gb181 (Nat.le_of_eq hg.symm)) hb); have n3_ := Aside0.mk (BK180.lk hb); have n4_ := Aside0.mk (below_step HB.bl hb); have n5_ := Aside0.mk (hbox); have n6_ := Aside0.mk ((zq54 : w.heap.size ≤ gb181)); have n7_ := Aside0.mk ((zq54 : w.heap.size ≤ gb181)); have n8_ := Aside0.mk ((by rw [hg]; exact Nat.ne_of_lt (blk_lt BK180.ld) : gb180 ≠ gb181)); have n9_ := Aside0.mk ((by rw [hg]; exact Nat.ne_of_gt (blk_lt BK180.ld) : gb181 ≠ gb180)); clear HO1_0; clear HO1_1; clear HO1_2; clear BK180; clear HB; have HO1_0 := n0_; have HO1_1 := n1_; have HO1_2 := n2_; have BK180 := n3_; have HB := n4_; have BK181 := n5_; have GW181 := n6_; have GE181 := n7_; have NB180_181 := n8_; have NB181_180 := n9_; clear n0_ n1_ n2_ n3_ n4_ n5_ n6_ n7_ n8_ n9_; clear hb hbox hg; have hnb9 := NB180_181.out; have hnc9 := NB181_180.out; obtain ⟨hcz10_0, hcz10_1, hcz10_2, hcz10_3, hcz10_4, hfz10_0, hfz10_1, hfz10_2, hfz10_3, hfz10_4⟩ := cells_5 BK180.out) | ((with_reducible refine gate_callee (f := 62) rfl ?_); refine goesL_ (some 11) rfl rfl Try.func62 (zq56) rfl #[.agg #[.int .i64 a0_0, .int .i64 a0_1, .int .i64 a0_2, .int .i64 a0_3, .int .i64 a0_4]] rfl (zq33) ?_; (with_reducible refine (trefoilref09_Check.calls k a0_0 a0_1 a0_2 a0_3 a0_4 t182 _ A3.out).mono ?_); rintro e w11 ⟨rfl, hb⟩; refine ⟨_, rfl, ?_⟩; replace HO1_0 := Aside0.mk (Kd.V_below HO1_0.v hb); replace HO1_1 := Aside0.mk (Kd.V_below HO1_1.v hb); replace HO1_2 := Aside0.mk (Kd.V_below HO1_2.v hb); replace BK180 := Aside0.mk (BK180.lk hb); replace BK181 := Aside0.mk (BK181.lk hb); replace HB := Aside0.mk (below_step HB.bl hb); (try clear hb); (try clear hb2); (try clear hk); (try clear hi)))
  have n0_ := Aside0.mk (Kd.V_drew HO1_0.out)
  have n1_ := Aside0.mk (Kd.V_drew HO1_1.out)
  have n2_ := Aside0.mk (Kd.V_drew HO1_2.out)
  have n3_ := Aside0.mk (blk_drew BK180.out)
  have n4_ := Aside0.mk (blk_drew BK181.out)
  have n5_ := Aside0.mk (below_drew1 HB.out)
  clear HO1_0
  clear HO1_1
  clear HO1_2
  clear BK180
  clear BK181
  clear HB
  have HO1_0 := n0_
  have HO1_1 := n1_
  have HO1_2 := n2_
  have BK180 := n3_
  have BK181 := n4_
  have HB := n5_
  clear n0_ n1_ n2_ n3_ n4_ n5_
  refine start_ (n := 6) (S := fun w' => w'.cell? ⟨gb180, 0, none⟩ = some (.int .i64 a0_0) ∧ w'.cell? ⟨gb180, 1, none⟩ = some (.int .i64 a0_1) ∧ w'.cell? ⟨gb180, 2, none⟩ = some (.int .i64 a0_2) ∧ w'.cell? ⟨gb180, 3, none⟩ = some (.int .i64 a0_3) ∧ w'.cell? ⟨gb180, 4, none⟩ = some (.int .i64 a0_4)) (ds := []) #[false, false, false, false, false, false] (zq56) rfl rfl ⟨(blk_cell BK180.out 0).trans rfl, (blk_cell BK180.out 1).trans rfl, (blk_cell BK180.out 2).trans rfl, (blk_cell BK180.out 3).trans rfl, (blk_cell BK180.out 4).trans rfl⟩ (fun hHeld => ?_)
  generalize w11.drew = w12 at HO1_0 HO1_1 HO1_2 BK180 BK181 HB hHeld ⊢
  refine take_ (i := 0) (N := some 13) (v := ?_) (a' := ?_) #[true, false, false, false, false, false] rfl rfl (zq56) (fun _ _ _ h => h) (Or.inl ⟨by rfl, ?_⟩) hHeld ?_ ?_
  rotate_left
  ·rintro w' ⟨s0, s1, s2, s3, s4⟩
   go_simp
   with_reducible rfl
  rotate_left
  exact zs1
  refine take_ (i := 2) (N := some 15) (v := ?_) (a' := ?_) #[true, false, true, false, false, false] rfl rfl (zq56) (fun _ _ _ h => h) (Or.inl ⟨by rfl, ?_⟩) hHeld ?_ ?_
  rotate_left
  ·rintro w' ⟨s0, s1, s2, s3, s4⟩
   go_simp
   with_reducible rfl
  rotate_left
  exact zs1
  refine one_ (i := 1) (N := some 14) #[true, true, true, false, false, false] rfl rfl (zq56) (by decide) (fun K hK => ?_)
  refine goes_ Try.func83 (zq56) rfl #[.agg #[.int .i64 a0_0, .int .i64 a0_1, .int .i64 a0_2, .int .i64 a0_3, .int .i64 a0_4]] (by rfl) rfl rfl (zq33) ?_
  with_reducible refine (trefoilref09_Sizes.calls k a0_0 a0_1 a0_2 a0_3 a0_4 t183 _ A5.out).mono ?_
  rintro e w13 ⟨v184, rfl, ho0, hb⟩
  refine ⟨_, rfl, ?_⟩
  have n0_ := Aside0.mk (Kd.V_elder' HO1_0.v (Kd.R_base ho0) hb)
  have n1_ := Aside0.mk (Kd.V_elder' HO1_1.v (Kd.R_base ho0) hb)
  have n2_ := Aside0.mk (Kd.V_elder' HO1_2.v (Kd.R_base ho0) hb)
  have n3_ := Aside0.mk (Kd.R_lower (Kd.R_newM (M := fun k_ => (w.heap.size ≤ k_)) ho0 (below_size HB.bl) (fun k_ h_ => h_)) (below_size HB.bl))
  have n4_ := Aside0.mk (BK180.lk hb)
  have n5_ := Aside0.mk (BK181.lk hb)
  have n6_ := Aside0.mk (below_step HB.bl hb)
  clear HO1_0
  clear HO1_1
  clear HO1_2
  clear BK180
  clear BK181
  clear HB
  have HO1_0 := n0_
  have HO1_1 := n1_
  have HO1_2 := n2_
  have HO185 := n3_
  have BK180 := n4_
  have BK181 := n5_
  have HB := n6_
  clear n0_ n1_ n2_ n3_ n4_ n5_ n6_
  (try clear hb)
  (try clear hb2)
  (try clear hk)
  (try clear hi)
  (try clear ho0)
  refine hK.out _ _ ⟨(blk_cell BK180.out 0).trans rfl, (blk_cell BK180.out 1).trans rfl, (blk_cell BK180.out 2).trans rfl, (blk_cell BK180.out 3).trans rfl, (blk_cell BK180.out 4).trans rfl⟩ (fun hHeld => ?_)
  clear hK K
  refine norm_ (a' := ?_) ?_ ?_
  rotate_left
  ·show Act.put _ (some 14) _ = _
   simp only [Act.put, List.setIfInBounds_toArray, List.set_cons_zero, List.set_cons_succ, i64_w, i32_w]
   rfl
  refine one_ (i := 3) (N := some 16) #[true, true, true, true, false, false] rfl rfl (zq56) (by decide) (fun K hK => ?_)
  refine goes_ Try.func84 (zq56) rfl #[.agg #[.int .i64 a0_0, .int .i64 a0_1, .int .i64 a0_2, .int .i64 a0_3, .int .i64 a0_4]] (by rfl) rfl rfl (zq33) ?_
  with_reducible refine (trefoilref09_Widths.calls k a0_0 a0_1 a0_2 a0_3 a0_4 t186 _ A6.out).mono ?_
  rintro e w14 ⟨v187, rfl, ho0, hb⟩
  refine ⟨_, rfl, ?_⟩
  have n0_ := Aside0.mk (Kd.V_elder' HO1_0.v (Kd.R_base ho0) hb)
  have n1_ := Aside0.mk (Kd.V_elder' HO1_1.v (Kd.R_base ho0) hb)
  have n2_ := Aside0.mk (Kd.V_elder' HO1_2.v (Kd.R_base ho0) hb)
  have n3_ := Aside0.mk (Kd.R_elder' HO185.r (Kd.R_base ho0) hb)
  have n4_ := Aside0.mk (Kd.R_lower (Kd.R_new' (Kd.R_newM (M := fun k_ => (w.heap.size ≤ k_)) ho0 (below_size HB.bl) (fun k_ h_ => h_)) (Kd.R_lt HO185.r)) (below_size HB.bl))
  have n5_ := Aside0.mk (BK180.lk hb)
  have n6_ := Aside0.mk (BK181.lk hb)
  have n7_ := Aside0.mk (below_step HB.bl hb)
  clear HO1_0
  clear HO1_1
  clear HO1_2
  clear HO185
  clear BK180
  clear BK181
  clear HB
  have HO1_0 := n0_
  have HO1_1 := n1_
  have HO1_2 := n2_
  have HO185 := n3_
  have HO188 := n4_
  have BK180 := n5_
  have BK181 := n6_
  have HB := n7_
  clear n0_ n1_ n2_ n3_ n4_ n5_ n6_ n7_
  (try clear hb)
  (try clear hb2)
  (try clear hk)
  (try clear hi)
  (try clear ho0)
  refine hK.out _ _ ⟨(blk_cell BK180.out 0).trans rfl, (blk_cell BK180.out 1).trans rfl, (blk_cell BK180.out 2).trans rfl, (blk_cell BK180.out 3).trans rfl, (blk_cell BK180.out 4).trans rfl⟩ (fun hHeld => ?_)
  clear hK K
  refine norm_ (a' := ?_) ?_ ?_
  rotate_left
  ·show Act.put _ (some 16) _ = _
   simp only [Act.put, List.setIfInBounds_toArray, List.set_cons_zero, List.set_cons_succ, i64_w, i32_w]
   rfl
  refine pure_ (i := 4) (N := some 5) (v := ?_) (a' := ?_) #[true, true, true, true, true, false] rfl rfl (zq56) (fun _ _ _ h => h) (Or.inl ⟨by rfl, ?_⟩) ?_ ?_; rotate_left; exact zs0; rotate_left; exact zs1
  refine pure_ (i := 5) (N := some 6) (v := ?_) (a' := ?_) #[true, true, true, true, true, true] rfl rfl (zq56) (fun _ _ _ h => h) (Or.inl ⟨by rfl, ?_⟩) ?_ ?_; rotate_left; exact zs0; rotate_left; exact zs1
  refine done_ (zq56) ?_
  obtain ⟨hcz15_0, hcz15_1, hcz15_2, hfz15_0, hfz15_1, hfz15_2⟩ := cells_3 BK181.out
  try go_wp2_with (first | ((with_reducible refine gate_dst (N := 23) rfl ?_); refine Kd.N_lit (Kd.slice 35 (Kd.int .u64)) _ 24 ?hg (N' := 23) ?hd (xs := ([l1_0, l1_1, l1_2] : List (List Int))) (inner := [.slice A1_0 l1_0.length c1_0, .slice A1_1 l1_1.length c1_1, .slice A1_2 l1_2.length c1_2]) (ok := (fun k_ => ((P1_0_ k_ ∨ P1_1_ k_ ∨ P1_2_ k_) ∨ w.heap.size ≤ k_) ∧ some k_ ≠ (v184 : Value).ownBlock ∧ some k_ ≠ (v187 : Value).ownBlock ∧ k_ ≠ gb180 ∧ k_ ≠ gb181)) (okp := (fun k_ => ((P1_0_ k_ ∨ P1_1_ k_ ∨ P1_2_ k_) ∨ w.heap.size ≤ k_) ∧ some k_ ≠ (v184 : Value).ownBlock ∧ some k_ ≠ (v187 : Value).ownBlock ∧ k_ ≠ gb180 ∧ k_ ≠ gb181)) ?hr ?hp (fun _ hk => hk) ((show ∀ k_, w14.heap.size ≤ k_ → (fun k_ => ((P1_0_ k_ ∨ P1_1_ k_ ∨ P1_2_ k_) ∨ w.heap.size ≤ k_) ∧ some k_ ≠ (v184 : Value).ownBlock ∧ some k_ ≠ (v187 : Value).ownBlock ∧ k_ ≠ gb180 ∧ k_ ≠ gb181) k_ from fun k_ hk => ⟨(.inr (Nat.le_trans (below_size HB.bl) hk)), Kd.fresh' (Kd.R_lt HO185.r) k_ hk, Kd.fresh' (Kd.R_lt HO188.r) k_ hk, Kd.freshB (g := gb180) (o := .cells #[.int .i64 a0_0, .int .i64 a0_1, .int .i64 a0_2, .int .i64 a0_3, .int .i64 a0_4] 23 (0, 0)) (zq40) k_ hk, Kd.freshB (g := gb181) (o := .cells #[.slice A1_0 l1_0.length c1_0, .slice A1_1 l1_1.length c1_1, .slice A1_2 l1_2.length c1_2] 26 (0, 0)) (zq41) k_ hk⟩) _ (Nat.le_refl _)) (Below.refl _ _) (Nat.le_refl _) (by simp) ?_; (case hd => rfl); (case hg => rfl); (case hr => first | (go_simp; done) | (go_simp; rfl)); (case hp => exact (Reps.one (show Kd.FK (Kd.slice 35 (Kd.int .u64)) _ _ l1_0 [.slice A1_0 l1_0.length c1_0] from (Kd.FK_slice_mk (Kd.V_reads' (Kd.V_mono (ok' := (fun k_ => ((P1_0_ k_ ∨ P1_1_ k_ ∨ P1_2_ k_) ∨ w.heap.size ≤ k_) ∧ some k_ ≠ (v184 : Value).ownBlock ∧ some k_ ≠ (v187 : Value).ownBlock ∧ k_ ≠ gb180 ∧ k_ ≠ gb181)) (HO1_0.out) (fun k_ hk => ⟨hk.1.1.1.1, ⟨hk.1.2, ⟨hk.2, ⟨hk.1.1.1.2, hk.1.1.2⟩⟩⟩⟩))).2.1 (Kd.V_F (Kd.V_mono (ok' := (fun k_ => ((P1_0_ k_ ∨ P1_1_ k_ ∨ P1_2_ k_) ∨ w.heap.size ≤ k_) ∧ some k_ ≠ (v184 : Value).ownBlock ∧ some k_ ≠ (v187 : Value).ownBlock ∧ k_ ≠ gb180 ∧ k_ ≠ gb181)) (HO1_0.out) (fun k_ hk => ⟨hk.1.1.1.1, ⟨hk.1.2, ⟨hk.2, ⟨hk.1.1.1.2, hk.1.1.2⟩⟩⟩⟩))))) (Reps.one (show Kd.FK (Kd.slice 35 (Kd.int .u64)) _ _ l1_1 [.slice A1_1 l1_1.length c1_1] from (Kd.FK_slice_mk (Kd.V_reads' (Kd.V_mono (ok' := (fun k_ => ((P1_0_ k_ ∨ P1_1_ k_ ∨ P1_2_ k_) ∨ w.heap.size ≤ k_) ∧ some k_ ≠ (v184 : Value).ownBlock ∧ some k_ ≠ (v187 : Value).ownBlock ∧ k_ ≠ gb180 ∧ k_ ≠ gb181)) (HO1_1.out) (fun k_ hk => ⟨hk.1.1.1.1, ⟨hk.1.2, ⟨hk.2, ⟨hk.1.1.1.2, hk.1.1.2⟩⟩⟩⟩))).2.1 (Kd.V_F (Kd.V_mono (ok' := (fun k_ => ((P1_0_ k_ ∨ P1_1_ k_ ∨ P1_2_ k_) ∨ w.heap.size ≤ k_) ∧ some k_ ≠ (v184 : Value).ownBlock ∧ some k_ ≠ (v187 : Value).ownBlock ∧ k_ ≠ gb180 ∧ k_ ≠ gb181)) (HO1_1.out) (fun k_ hk => ⟨hk.1.1.1.1, ⟨hk.1.2, ⟨hk.2, ⟨hk.1.1.1.2, hk.1.1.2⟩⟩⟩⟩))))) (Reps.one (show Kd.FK (Kd.slice 35 (Kd.int .u64)) _ _ l1_2 [.slice A1_2 l1_2.length c1_2] from (Kd.FK_slice_mk (Kd.V_reads' (Kd.V_mono (ok' := (fun k_ => ((P1_0_ k_ ∨ P1_1_ k_ ∨ P1_2_ k_) ∨ w.heap.size ≤ k_) ∧ some k_ ≠ (v184 : Value).ownBlock ∧ some k_ ≠ (v187 : Value).ownBlock ∧ k_ ≠ gb180 ∧ k_ ≠ gb181)) (HO1_2.out) (fun k_ hk => ⟨hk.1.1.1.1, ⟨hk.1.2, ⟨hk.2, ⟨hk.1.1.1.2, hk.1.1.2⟩⟩⟩⟩))).2.1 (Kd.V_F (Kd.V_mono (ok' := (fun k_ => ((P1_0_ k_ ∨ P1_1_ k_ ∨ P1_2_ k_) ∨ w.heap.size ≤ k_) ∧ some k_ ≠ (v184 : Value).ownBlock ∧ some k_ ≠ (v187 : Value).ownBlock ∧ k_ ≠ gb180 ∧ k_ ≠ gb181)) (HO1_2.out) (fun k_ hk => ⟨hk.1.1.1.1, ⟨hk.1.2, ⟨hk.2, ⟨hk.1.1.1.2, hk.1.1.2⟩⟩⟩⟩))))) (Reps.none _ _))))); intro v190 w16 ho17 hb hg_ hnew_; clear hg_ hnew_; (first | rw [← Ny189.out] at ho17 | (simp only [Int.reduceToNat] at ho17; rw [← Ny189.out] at ho17)); replace HO1_0 := Aside0.mk (Kd.V_elder' HO1_0.v (Kd.N_base ho17) hb); replace HO1_1 := Aside0.mk (Kd.V_elder' HO1_1.v (Kd.N_base ho17) hb); replace HO1_2 := Aside0.mk (Kd.V_elder' HO1_2.v (Kd.N_base ho17) hb); replace HO185 := Aside0.mk (Kd.R_below HO185.r hb); replace HO188 := Aside0.mk (Kd.R_below HO188.r hb); have HO191 := Aside0.mk (Kd.N_lower ho17 (below_size HB.bl)); replace BK180 := Aside0.mk (BK180.lk hb); replace BK181 := Aside0.mk (BK181.lk hb); replace HB := Aside0.mk (below_step HB.bl hb); clear hb ho17))
  go_loopg [8] k (fun kq v8 w' => ∃ (x8_1 : Int), v8 = .int .i64 x8_1 ∧ Aside0 (trefoilref09_Fits.l0 kq t183 t186 y189 x8_1 = some r) ∧ Aside0 (kq ≤ k) ∧ Aside0 (Kd.R (Kd.int .i64) 3 w' w.heap.size (fun k_ => (w.heap.size ≤ k_) ∧ some k_ ≠ (v187 : Value).ownBlock) v184 t183) ∧ Aside0 (Kd.R (Kd.int .i64) 3 w' w.heap.size (fun k_ => (w.heap.size ≤ k_) ∧ some k_ ≠ (v184 : Value).ownBlock) v187 t186) ∧ Aside0 (Kd.N (Kd.slice 35 (Kd.int .u64)) 24 w' w.heap.size (fun k_ => ((P1_0_ k_ ∨ P1_1_ k_ ∨ P1_2_ k_) ∨ w.heap.size ≤ k_) ∧ some k_ ≠ (v184 : Value).ownBlock ∧ some k_ ≠ (v187 : Value).ownBlock ∧ k_ ≠ gb180 ∧ k_ ≠ gb181) v190 y189) ∧ Aside0 (Kd.V (Kd.int .u64) 35 w' w.heap.size (fun k_ => ((P1_0_ k_ ∨ P1_1_ k_ ∨ P1_2_ k_) ∨ w.heap.size ≤ k_) ∧ some k_ ≠ (v184 : Value).ownBlock ∧ some k_ ≠ (v187 : Value).ownBlock ∧ some k_ ≠ (v190 : Value).ownBlock ∧ k_ ≠ gb180 ∧ k_ ≠ gb181) (.slice A1_0 l1_0.length c1_0) l1_0) ∧ Aside0 (Kd.V (Kd.int .u64) 35 w' w.heap.size (fun k_ => ((P1_0_ k_ ∨ P1_1_ k_ ∨ P1_2_ k_) ∨ w.heap.size ≤ k_) ∧ some k_ ≠ (v184 : Value).ownBlock ∧ some k_ ≠ (v187 : Value).ownBlock ∧ some k_ ≠ (v190 : Value).ownBlock ∧ k_ ≠ gb180 ∧ k_ ≠ gb181) (.slice A1_1 l1_1.length c1_1) l1_1) ∧ Aside0 (Kd.V (Kd.int .u64) 35 w' w.heap.size (fun k_ => ((P1_0_ k_ ∨ P1_1_ k_ ∨ P1_2_ k_) ∨ w.heap.size ≤ k_) ∧ some k_ ≠ (v184 : Value).ownBlock ∧ some k_ ≠ (v187 : Value).ownBlock ∧ some k_ ≠ (v190 : Value).ownBlock ∧ k_ ≠ gb180 ∧ k_ ≠ gb181) (.slice A1_2 l1_2.length c1_2) l1_2) ∧ Aside0 (w'.heap[gb180]? = some (.cells #[.int .i64 a0_0, .int .i64 a0_1, .int .i64 a0_2, .int .i64 a0_3, .int .i64 a0_4] 23 (0, 0))) ∧ Aside0 (w'.heap[gb181]? = some (.cells #[(.slice A1_0 l1_0.length c1_0), (.slice A1_1 l1_1.length c1_1), (.slice A1_2 l1_2.length c1_2)] 26 (0, 0))) ∧ Aside0 (Below w.heap.size w w'))
  case atStart => exact ⟨(0), (zq52), H', ⟨Nat.le_refl _⟩, ⟨by (with_reducible repeat (first | apply Kd.R_alloc | apply Kd.R_drewN | apply Kd.R_drew)); exact Kd.R_mono HO185.out (fun _ hk => ⟨hk.1.1, hk.2⟩)⟩, ⟨by (with_reducible repeat (first | apply Kd.R_alloc | apply Kd.R_drewN | apply Kd.R_drew)); exact Kd.R_mono HO188.out (fun _ hk => ⟨hk.1.1, hk.2⟩)⟩, ⟨HO191.n⟩, ⟨by (with_reducible repeat (first | apply Kd.V_alloc | apply Kd.V_drewN | apply Kd.V_drew)); exact Kd.V_mono HO1_0.out (fun _ hk => ⟨hk.1.1.1.1.1, ⟨hk.1.1.2, ⟨hk.1.2, ⟨hk.2, ⟨hk.1.1.1.1.2, hk.1.1.1.2⟩⟩⟩⟩⟩)⟩, ⟨by (with_reducible repeat (first | apply Kd.V_alloc | apply Kd.V_drewN | apply Kd.V_drew)); exact Kd.V_mono HO1_1.out (fun _ hk => ⟨hk.1.1.1.1.1, ⟨hk.1.1.2, ⟨hk.1.2, ⟨hk.2, ⟨hk.1.1.1.1.2, hk.1.1.1.2⟩⟩⟩⟩⟩)⟩, ⟨by (with_reducible repeat (first | apply Kd.V_alloc | apply Kd.V_drewN | apply Kd.V_drew)); exact Kd.V_mono HO1_2.out (fun _ hk => ⟨hk.1.1.1.1.1, ⟨hk.1.1.2, ⟨hk.1.2, ⟨hk.2, ⟨hk.1.1.1.1.2, hk.1.1.1.2⟩⟩⟩⟩⟩)⟩, ⟨zq40⟩, ⟨zq41⟩, ⟨zq16⟩⟩
  case round =>
   clear H'
   try clear c1
   try clear p2
   try clear c4
   try clear c4b0
   try clear c4b1
   try clear c5
   try clear c6
   try clear c8
   try clear c9
   try clear hcz10_0
   try clear hcz10_1
   try clear hcz10_2
   try clear hcz10_3
   try clear hcz10_4
   try clear hcz15_0
   try clear hcz15_1
   try clear hcz15_2
   try clear hfz10_0
   try clear hfz10_1
   try clear hfz10_2
   try clear hfz10_3
   try clear hfz10_4
   try clear hfz15_0
   try clear hfz15_1
   try clear hfz15_2
   obtain ⟨x8_1, rfl, HA, HK1, HO_5, HO_6, HO_7, HO_182000, HO_182001, HO_182002, BK180, BK181, HB⟩ := hrel
   cases gk with
   | zero => exact absurd HA.out (by simp [trefoilref09_Fits.l0])
   | succ k1 =>
    have H := HA.out
    clear HA
    simp only [trefoilref09_Fits.l0] at H
    by_cases c18 : x8_1 < 3
    ·rw [if_pos c18] at H
     have c18b0 : decide (x8_1 < 3) = true := decide_eq_true c18
     clear c18
     by_cases c19 : 0 ≤ x8_1
     ·rw [if_pos c19] at H
      have c19b0 : decide (0 ≤ x8_1) = true := decide_eq_true c19
      clear c19
      by_cases c20 : x8_1 < (y189.length : Int)
      ·rw [if_pos c20] at H
       have c20b0 : decide (x8_1 < (y189.length : Int)) = true := decide_eq_true c20
       clear c20
       by_cases c21 : x8_1 < (t183.length : Int)
       ·rw [if_pos c21] at H
        have c21b0 : decide (x8_1 < (t183.length : Int)) = true := decide_eq_true c21
        clear c21
        by_cases c22 : ((rd_L2 y189 x8_1).length : Int) = (rd t183 x8_1)
        ·rw [if_pos c22] at H
         have c22b0 : (((rd_L2 y189 x8_1).length : Int) == (rd t183 x8_1)) = true := beq_iff_eq.mpr c22
         have c22b1 : (((rd_L2 y189 x8_1).length : Int) != (rd t183 x8_1)) = false := bne_eq_false_iff_eq.mpr c22
         clear c22
         have H' := Aside0.mk H
         clear H
         try go_wp2
         have n0_ := Aside0.mk (Kd.R_drew HO_5.out)
         have n1_ := Aside0.mk (Kd.R_drew HO_6.out)
         have n2_ := Aside0.mk (Kd.N_drew HO_7.out)
         have n3_ := Aside0.mk (Kd.V_drew HO_182000.out)
         have n4_ := Aside0.mk (Kd.V_drew HO_182001.out)
         have n5_ := Aside0.mk (Kd.V_drew HO_182002.out)
         have n6_ := Aside0.mk (blk_drew BK180.out)
         have n7_ := Aside0.mk (blk_drew BK181.out)
         have n8_ := Aside0.mk (below_drew1 HB.out)
         clear HO_5
         clear HO_6
         clear HO_7
         clear HO_182000
         clear HO_182001
         clear HO_182002
         clear BK180
         clear BK181
         clear HB
         have HO_5 := n0_
         have HO_6 := n1_
         have HO_7 := n2_
         have HO_182000 := n3_
         have HO_182001 := n4_
         have HO_182002 := n5_
         have BK180 := n6_
         have BK181 := n7_
         have HB := n8_
         clear n0_ n1_ n2_ n3_ n4_ n5_ n6_ n7_ n8_
         obtain ⟨Ao24, co24, eo24⟩ := Kd.N_slice HO_7.out
         (first | subst eo24 | (injection eo24 with f1_ f2_ f3_; have f4_ := f1_.symm; have f5_ := f3_.symm; clear f1_ f2_ f3_; subst f4_; subst f5_))
         have p192 : 0 ≤ (x8_1 : Int) := of_decide_eq_true (zq51)
         have q192 : x8_1 < (y189.length : Int) := of_decide_eq_true (zq51)
         obtain ⟨ad192, A192_0, c192_0, e192, hx192_0, hl192_0, hi192_0⟩ := at_L2 (Kd.N_reads' HO_7.out).2.2 x8_1 p192 q192
         cases e192
         obtain ⟨ce192, hce192, hMe192, hcc192⟩ := Kd.N_get HO_7.out [] x8_1 p192 (by first | exact q192 | exact of_decide_eq_true (by first | (with_reducible assumption) | assumption) | (have e_ := (Kd.N_reads' HO_7.out).1; omega))
         obtain ⟨ua192_0, uc192_0, rfl, ul192_0, ge192_0⟩ := Kd.FK_slice_open hMe192
         have hv192_0 := hcc192 0 _ rfl
         rw [Nat.add_zero, show ((Kd.slice 35 (Kd.int .u64))).sz = 1 from rfl, Nat.mul_one] at hv192_0
         replace hv192_0 := Option.some.inj (hv192_0.symm.trans hx192_0)
         injection hv192_0 with hva_ hvn_ hvc_
         rw [hva_] at ge192_0
         rw [hvc_] at ul192_0
         have HL192_0 := Aside0.mk (show Kd.V (Kd.int .u64) 35 _ w.heap.size _ _ (rd_L2 y189 x8_1) from Kd.V_mk ul192_0 ge192_0)
         clear hva_ hvn_ hvc_ ge192_0 ul192_0
         clear hcc192 hce192
         have HR192_0 := Aside0.mk hi192_0
         have HC192_0 := Aside0.mk hl192_0
         clear hi192_0 hl192_0
         replace p192 := eq_true p192
         replace q192 := eq_true q192
         obtain ⟨Ao25, co25, eo25⟩ := Kd.R_slice HO_5.out
         (first | subst eo25 | (injection eo25 with f1_ f2_ f3_; have f4_ := f1_.symm; have f5_ := f3_.symm; clear f1_ f2_ f3_; subst f4_; subst f5_))
         have p193 : 0 ≤ (x8_1 : Int) := of_decide_eq_true (zq51)
         have q193 : x8_1 < (t183.length : Int) := of_decide_eq_true (zq51)
         obtain ⟨ad193, e193, hx193_0⟩ := Kd.at_int (Kd.R_reads' HO_5.out).2.2 x8_1 p193 q193
         cases e193
         replace p193 := eq_true p193
         replace q193 := eq_true q193
         refine start_ (n := 10) (S := fun w' => w'.cell? (ad192.add (x8_1).toNat) = some (.slice A192_0 (rd_L2 y189 x8_1).length c192_0) ∧ w'.cell? (ad193.add (x8_1).toNat) = some (.int .i64 (rd t183 x8_1))) (ds := []) ba2_1 (zq56) rfl rfl ⟨hx192_0, hx193_0⟩ (fun hHeld => ?_); refine with_tabW trefoilref09_Fits.tab8 trefoilref09_Fits.bits8 (fun HT_ HW_ => ?_)
         generalize wr.drew = w23 at HO_5 HO_6 HO_7 HO_182000 HO_182001 HO_182002 BK180 BK181 HB HL192_0 HR192_0 hx192_0 hx193_0 hHeld ⊢
         refine pure_ (i := 0) (N := some 28) (v := ?_) (a' := ?_) ba2_3 rfl rfl (any_of HT_.out (zq56)) (fun _ _ _ h => h) (Or.inl ⟨by rfl, ?_⟩) ?_ ?_; rotate_left; exact zs0; rotate_left; exact zs1
         refine pure_ (i := 1) (N := some 29) (v := ?_) (a' := ?_) ba2_5 rfl rfl (any_of HT_.out (zq56)) (fun _ _ _ h => h) (Or.inl ⟨by rfl, ?_⟩) ?_ ?_; rotate_left; exact zs0; rotate_left; exact zs1
         refine pure_ (i := 2) (N := some 30) (v := ?_) (a' := ?_) ba2_7 rfl rfl (any_of HT_.out (zq56)) (fun _ _ _ h => h) (Or.inl ⟨by rfl, ?_⟩) ?_ ?_; rotate_left; exact zs0; rotate_left; exact zs1
         refine pure_ (i := 5) (N := some 33) (v := ?_) (a' := ?_) ba2_8 rfl rfl (any_of HT_.out (zq56)) (fun _ _ _ h => h) (Or.inl ⟨by rfl, ?_⟩) ?_ ?_; rotate_left; exact zs0; rotate_left; exact zs1
         refine pure_ (i := 6) (N := some 34) (v := ?_) (a' := ?_) ba2_9 rfl rfl (any_of HT_.out (zq56)) (fun _ _ _ h => h) (Or.inl ⟨by rfl, ?_⟩) ?_ ?_; rotate_left; exact zs0; rotate_left; exact zs1
         refine pure_ (i := 7) (N := some 35) (v := ?_) (a' := ?_) ba2_10 rfl rfl (any_of HT_.out (zq56)) (fun _ _ _ h => h) (Or.inl ⟨by rfl, ?_⟩) ?_ ?_; rotate_left; exact zs0; rotate_left; exact zs1
         refine take_ (i := 3) (N := some 31) (v := ?_) (a' := ?_) ba2_15 rfl rfl (take_ofW HT_.out HW_.out (zq56)) (fun _ _ _ h => h) (Or.inl ⟨by rfl, ?_⟩) hHeld ?_ ?_
         rotate_left
         ·rintro w' ⟨s0, s1⟩
          go_simp
          with_reducible rfl
         rotate_left
         exact zs1
         refine pure_ (i := 4) (N := some 32) (v := ?_) (a' := ?_) ba2_19 rfl rfl (any_of HT_.out (zq56)) (fun _ _ _ h => h) (Or.inl ⟨by rfl, ?_⟩) ?_ ?_; rotate_left; exact zs0; rotate_left; exact zs1
         refine take_ (i := 8) (N := some 36) (v := ?_) (a' := ?_) ba2_20 rfl rfl (take_ofW HT_.out HW_.out (zq56)) (fun _ _ _ h => h) (Or.inl ⟨by rfl, ?_⟩) hHeld ?_ ?_
         rotate_left
         ·rintro w' ⟨s0, s1⟩
          go_simp
          with_reducible rfl
         rotate_left
         exact zs1
         refine pure_ (i := 9) (N := some 37) (v := ?_) (a' := ?_) ba2_27 rfl rfl (any_of HT_.out (zq56)) (fun _ _ _ h => h) (Or.inl ⟨by rfl, ?_⟩) ?_ ?_; rotate_left; exact zs0; rotate_left; exact zs1
         refine done_ (done_of HT_.out (zq56)) ?_
         try go_wp2
         go_loopg [9] k1 (fun kq v9 w' => ∃ (x9_2 : Int), v9 = .int .i64 x9_2 ∧ Aside0 (trefoilref09_Fits.l1 kq t183 t186 y189 x8_1 x9_2 = some r) ∧ Aside0 (kq ≤ k1) ∧ Aside0 (Kd.R (Kd.int .i64) 3 w' w.heap.size (fun k_ => (w.heap.size ≤ k_) ∧ some k_ ≠ (v187 : Value).ownBlock) (.slice (some ad193) t183.length co25) t183) ∧ Aside0 (Kd.R (Kd.int .i64) 3 w' w.heap.size (fun k_ => (w.heap.size ≤ k_) ∧ some k_ ≠ ((.slice (some ad193) t183.length co25) : Value).ownBlock) v187 t186) ∧ Aside0 (Kd.N (Kd.slice 35 (Kd.int .u64)) 24 w' w.heap.size (fun k_ => ((P1_0_ k_ ∨ P1_1_ k_ ∨ P1_2_ k_) ∨ w.heap.size ≤ k_) ∧ some k_ ≠ ((.slice (some ad193) t183.length co25) : Value).ownBlock ∧ some k_ ≠ (v187 : Value).ownBlock ∧ k_ ≠ gb180 ∧ k_ ≠ gb181) (.slice (some ad192) y189.length co24) y189) ∧ Aside0 (Kd.V (Kd.int .u64) 35 w' w.heap.size (fun k_ => ((P1_0_ k_ ∨ P1_1_ k_ ∨ P1_2_ k_) ∨ w.heap.size ≤ k_) ∧ some k_ ≠ ((.slice (some ad193) t183.length co25) : Value).ownBlock ∧ some k_ ≠ (v187 : Value).ownBlock ∧ some k_ ≠ ((.slice (some ad192) y189.length co24) : Value).ownBlock ∧ k_ ≠ gb180 ∧ k_ ≠ gb181) (.slice A1_0 l1_0.length c1_0) l1_0) ∧ Aside0 (Kd.V (Kd.int .u64) 35 w' w.heap.size (fun k_ => ((P1_0_ k_ ∨ P1_1_ k_ ∨ P1_2_ k_) ∨ w.heap.size ≤ k_) ∧ some k_ ≠ ((.slice (some ad193) t183.length co25) : Value).ownBlock ∧ some k_ ≠ (v187 : Value).ownBlock ∧ some k_ ≠ ((.slice (some ad192) y189.length co24) : Value).ownBlock ∧ k_ ≠ gb180 ∧ k_ ≠ gb181) (.slice A1_1 l1_1.length c1_1) l1_1) ∧ Aside0 (Kd.V (Kd.int .u64) 35 w' w.heap.size (fun k_ => ((P1_0_ k_ ∨ P1_1_ k_ ∨ P1_2_ k_) ∨ w.heap.size ≤ k_) ∧ some k_ ≠ ((.slice (some ad193) t183.length co25) : Value).ownBlock ∧ some k_ ≠ (v187 : Value).ownBlock ∧ some k_ ≠ ((.slice (some ad192) y189.length co24) : Value).ownBlock ∧ k_ ≠ gb180 ∧ k_ ≠ gb181) (.slice A1_2 l1_2.length c1_2) l1_2) ∧ Aside0 (w'.heap[gb180]? = some (.cells #[.int .i64 a0_0, .int .i64 a0_1, .int .i64 a0_2, .int .i64 a0_3, .int .i64 a0_4] 23 (0, 0))) ∧ Aside0 (w'.heap[gb181]? = some (.cells #[(.slice A1_0 l1_0.length c1_0), (.slice A1_1 l1_1.length c1_1), (.slice A1_2 l1_2.length c1_2)] 26 (0, 0))) ∧ Aside0 (Kd.C (Kd.int .u64) w' A192_0 (rd_L2 y189 x8_1).length (rd_L2 y189 x8_1)) ∧ Aside0 (Below w.heap.size w w'))
         case atStart => exact ⟨(0), (zq52), H', ⟨Nat.le_refl _⟩, ⟨HO_5.r⟩, ⟨HO_6.r⟩, ⟨HO_7.n⟩, ⟨HO_182000.v⟩, ⟨HO_182001.v⟩, ⟨HO_182002.v⟩, ⟨zq40⟩, ⟨zq41⟩, ⟨by repeat (first | (with_reducible exact HR192_0.out) | (with_reducible refine Kd.C_alloc ?_ _) | (with_reducible refine Kd.C_drewN ?_ _) | (with_reducible refine Kd.C_drew ?_) | exact HR192_0.out)⟩, ⟨zq16⟩⟩
         case round =>
          clear H'
          try clear c1
          try clear p1
          try clear q1
          try clear hx1
          try clear c2
          try clear p2
          try clear c4
          try clear c4b0
          try clear c4b1
          try clear c5
          try clear c6
          try clear c8
          try clear c9
          try clear c18
          try clear c18b0
          try clear c19
          try clear c19b0
          try clear p19
          try clear q19
          try clear hx19
          try clear c20
          try clear c20b0
          try clear c21
          try clear c21b0
          try clear c22
          try clear c22b0
          try clear c22b1
          try clear hcz10_0
          try clear hcz10_1
          try clear hcz10_2
          try clear hcz10_3
          try clear hcz10_4
          try clear hcz15_0
          try clear hcz15_1
          try clear hcz15_2
          try clear hfz10_0
          try clear hfz10_1
          try clear hfz10_2
          try clear hfz10_3
          try clear hfz10_4
          try clear hfz15_0
          try clear hfz15_1
          try clear hfz15_2
          try clear hx192_0
          try clear hx193_0
          try clear p192
          try clear p193
          try clear p2
          try clear q192
          try clear q193
          obtain ⟨x9_2, rfl, HA, HK2, HO_5, HO_6, HO_7, HO_182000, HO_182001, HO_182002, BK180, BK181, HR192_0, HB⟩ := hrel
          cases gk with
          | zero => exact absurd HA.out (by simp [trefoilref09_Fits.l1])
          | succ k2 =>
           have H := HA.out
           clear HA
           simp only [trefoilref09_Fits.l1] at H
           by_cases c26 : 0 ≤ x8_1
           ·rw [if_pos c26] at H
            have c26b0 : decide (0 ≤ x8_1) = true := decide_eq_true c26
            clear c26
            by_cases c27 : x8_1 < (y189.length : Int)
            ·rw [if_pos c27] at H
             have c27b0 : decide (x8_1 < (y189.length : Int)) = true := decide_eq_true c27
             clear c27
             by_cases c28 : x9_2 < ((rd_L2 y189 x8_1).length : Int)
             ·rw [if_pos c28] at H
              have c28b0 : decide (x9_2 < ((rd_L2 y189 x8_1).length : Int)) = true := decide_eq_true c28
              clear c28
              by_cases c29 : 0 ≤ x9_2
              ·rw [if_pos c29] at H
               have c29b0 : decide (0 ≤ x9_2) = true := decide_eq_true c29
               clear c29
               by_cases c30 : x8_1 < (t186.length : Int)
               ·rw [if_pos c30] at H
                have c30b0 : decide (x8_1 < (t186.length : Int)) = true := decide_eq_true c30
                clear c30
                obtain ⟨ji31, hji31⟩ : ∃ j_ : Int, (IntKind.u64.wrap (wrap64 ((rd t186 x8_1) - 1))) = j_ := ⟨_, rfl⟩
                replace H : (if 0 ≤ (ji31) then (if (shr .u64 (IntKind.u64.wrap (Int.tdiv (rd (rd_L2 y189 x8_1) x9_2) 2)) (ji31)) = 0 then (trefoilref09_Fits.l1 k2 t183 t186 y189 x8_1 (wrap64 (x9_2 + 1))) else (some false)) else (none)) = some r := by first | (rw [hji31] at H; exact H) | (simp only [hji31] at H ⊢; exact H)
                by_cases c32 : 0 ≤ (ji31)
                ·rw [if_pos c32] at H
                 have c32b0 := eq_true c32
                 have c32b1 : decide (0 ≤ (ji31)) = true := decide_eq_true c32
                 clear c32
                 obtain ⟨ji33, hji33⟩ : ∃ j_ : Int, (shr .u64 (IntKind.u64.wrap (Int.tdiv (rd (rd_L2 y189 x8_1) x9_2) 2)) (ji31)) = j_ := ⟨_, rfl⟩
                 replace H : (if (ji33) = 0 then (trefoilref09_Fits.l1 k2 t183 t186 y189 x8_1 (wrap64 (x9_2 + 1))) else (some false)) = some r := by first | (rw [hji33] at H; exact H) | (simp only [hji33] at H ⊢; exact H)
                 have hji33_ : ((IntKind.u64.wrap (Int.tdiv (rd (rd_L2 y189 x8_1) x9_2) 2)) / 2 ^ min (ji31).toNat 64) = ji33 := hji33
                 have hji33z : (ji31) ≤ 64 → ((IntKind.u64.wrap (Int.tdiv (rd (rd_L2 y189 x8_1) x9_2) 2)) / 2 ^ (ji31).toNat) = ji33 := shr_small hji33
                 by_cases c34 : (ji33) = 0
                 ·rw [if_pos c34] at H
                  have c34b0 : ((ji33) == 0) = true := beq_iff_eq.mpr c34
                  have c34b1 : ((ji33) != 0) = false := bne_eq_false_iff_eq.mpr c34
                  clear c34
                  have H' := Aside0.mk H
                  clear H
                  have p194 : 0 ≤ (x8_1 : Int) := of_decide_eq_true (zq51)
                  have q194 : x8_1 < (y189.length : Int) := of_decide_eq_true (zq51)
                  obtain ⟨ad194, A194_0, c194_0, e194, hx194_0, hl194_0, hi194_0⟩ := at_L2 (Kd.N_reads' HO_7.out).2.2 x8_1 p194 q194
                  obtain rfl : ad192 = ad194 := (by injection e194)
                  obtain ⟨ce194, hce194, hMe194, hcc194⟩ := Kd.N_get HO_7.out [] x8_1 p194 (by first | exact q194 | exact of_decide_eq_true (by first | (with_reducible assumption) | assumption) | (have e_ := (Kd.N_reads' HO_7.out).1; omega))
                  obtain ⟨ua194_0, uc194_0, rfl, ul194_0, ge194_0⟩ := Kd.FK_slice_open hMe194
                  have hv194_0 := hcc194 0 _ rfl
                  rw [Nat.add_zero, show ((Kd.slice 35 (Kd.int .u64))).sz = 1 from rfl, Nat.mul_one] at hv194_0
                  replace hv194_0 := Option.some.inj (hv194_0.symm.trans hx194_0)
                  injection hv194_0 with hva_ hvn_ hvc_
                  rw [hva_] at ge194_0
                  rw [hvc_] at ul194_0
                  have HL194_0 := Aside0.mk (show Kd.V (Kd.int .u64) 35 _ w.heap.size _ _ (rd_L2 y189 x8_1) from Kd.V_mk ul194_0 ge194_0)
                  clear hva_ hvn_ hvc_ ge194_0 ul194_0
                  clear hcc194 hce194
                  have HR194_0 := Aside0.mk hi194_0
                  have HC194_0 := Aside0.mk hl194_0
                  clear hi194_0 hl194_0
                  replace p194 := eq_true p194
                  replace q194 := eq_true q194
                  try go_wp2
                  have n0_ := Aside0.mk (Kd.R_drew HO_5.out)
                  have n1_ := Aside0.mk (Kd.R_drew HO_6.out)
                  have n2_ := Aside0.mk (Kd.N_drew HO_7.out)
                  have n3_ := Aside0.mk (Kd.V_drew HO_182000.out)
                  have n4_ := Aside0.mk (Kd.V_drew HO_182001.out)
                  have n5_ := Aside0.mk (Kd.V_drew HO_182002.out)
                  have n6_ := Aside0.mk (Kd.V_drew HL194_0.out)
                  have n7_ := Aside0.mk (blk_drew BK180.out)
                  have n8_ := Aside0.mk (blk_drew BK181.out)
                  have n9_ := Aside0.mk (Kd.C_drew HR192_0.out)
                  have n10_ := Aside0.mk (Kd.C_drew HR194_0.out)
                  have n11_ := Aside0.mk (below_drew1 HB.out)
                  clear HO_5
                  clear HO_6
                  clear HO_7
                  clear HO_182000
                  clear HO_182001
                  clear HO_182002
                  clear HL194_0
                  clear BK180
                  clear BK181
                  clear HR192_0
                  clear HR194_0
                  clear HB
                  have HO_5 := n0_
                  have HO_6 := n1_
                  have HO_7 := n2_
                  have HO_182000 := n3_
                  have HO_182001 := n4_
                  have HO_182002 := n5_
                  have HL194_0 := n6_
                  have BK180 := n7_
                  have BK181 := n8_
                  have HR192_0 := n9_
                  have HR194_0 := n10_
                  have HB := n11_
                  clear n0_ n1_ n2_ n3_ n4_ n5_ n6_ n7_ n8_ n9_ n10_ n11_
                  have p195 : 0 ≤ (x8_1 : Int) := of_decide_eq_true (zq51)
                  have q195 : x8_1 < (y189.length : Int) := of_decide_eq_true (zq51)
                  obtain ⟨ad195, A195_0, c195_0, e195, hx195_0, hl195_0, hi195_0⟩ := at_L2 (Kd.N_reads' HO_7.out).2.2 x8_1 p195 q195
                  obtain rfl : ad192 = ad195 := (by injection e195)
                  obtain ⟨ce195, hce195, hMe195, hcc195⟩ := Kd.N_get HO_7.out [] x8_1 p195 (by first | exact q195 | exact of_decide_eq_true (by first | (with_reducible assumption) | assumption) | (have e_ := (Kd.N_reads' HO_7.out).1; omega))
                  obtain ⟨ua195_0, uc195_0, rfl, ul195_0, ge195_0⟩ := Kd.FK_slice_open hMe195
                  have hv195_0 := hcc195 0 _ rfl
                  rw [Nat.add_zero, show ((Kd.slice 35 (Kd.int .u64))).sz = 1 from rfl, Nat.mul_one] at hv195_0
                  replace hv195_0 := Option.some.inj (hv195_0.symm.trans hx195_0)
                  injection hv195_0 with hva_ hvn_ hvc_
                  rw [hva_] at ge195_0
                  rw [hvc_] at ul195_0
                  have HL195_0 := Aside0.mk (show Kd.V (Kd.int .u64) 35 _ w.heap.size _ _ (rd_L2 y189 x8_1) from Kd.V_mk ul195_0 ge195_0)
                  clear hva_ hvn_ hvc_ ge195_0 ul195_0
                  clear hcc195 hce195
                  have HR195_0 := Aside0.mk hi195_0
                  have HC195_0 := Aside0.mk hl195_0
                  clear hi195_0 hl195_0
                  replace p195 := eq_true p195
                  replace q195 := eq_true q195
                  have p196 : 0 ≤ (x9_2 : Int) := of_decide_eq_true (zq51)
                  have q196 : x9_2 < ((rd_L2 y189 x8_1).length : Int) := of_decide_eq_true (zq51)
                  obtain ⟨ad196, e196, hx196_0⟩ := Kd.at_int (by repeat (first | (with_reducible exact HR195_0.out) | (with_reducible refine Kd.C_alloc ?_ _) | (with_reducible refine Kd.C_drewN ?_ _) | (with_reducible refine Kd.C_drew ?_) | exact HR195_0.out)) x9_2 p196 q196
                  cases e196
                  replace p196 := eq_true p196
                  replace q196 := eq_true q196
                  obtain ⟨Ao36, co36, eo36⟩ := Kd.R_slice HO_6.out
                  (first | subst eo36 | (injection eo36 with f1_ f2_ f3_; have f4_ := f1_.symm; have f5_ := f3_.symm; clear f1_ f2_ f3_; subst f4_; subst f5_))
                  have p197 : 0 ≤ (x8_1 : Int) := of_decide_eq_true (zq51)
                  have q197 : x8_1 < (t186.length : Int) := of_decide_eq_true (zq51)
                  obtain ⟨ad197, e197, hx197_0⟩ := Kd.at_int (Kd.R_reads' HO_6.out).2.2 x8_1 p197 q197
                  cases e197
                  replace p197 := eq_true p197
                  replace q197 := eq_true q197
                  refine start_ (n := 16) (S := fun w' => w'.cell? (ad192.add (x8_1).toNat) = some (.slice (some ad196) (rd_L2 y189 x8_1).length c195_0) ∧ w'.cell? (ad196.add (x9_2).toNat) = some (.int .u64 (rd (rd_L2 y189 x8_1) x9_2)) ∧ w'.cell? (ad197.add (x8_1).toNat) = some (.int .i64 (rd t186 x8_1))) (ds := []) ba2_0 (zq56) rfl rfl ⟨hx195_0, hx196_0, hx197_0⟩ (fun hHeld => ?_); refine with_tabW trefoilref09_Fits.tab13 trefoilref09_Fits.bits13 (fun HT_ HW_ => ?_)
                  generalize wr.drew = w35 at HO_5 HO_6 HO_7 HO_182000 HO_182001 HO_182002 HL194_0 BK180 BK181 HR192_0 HR194_0 HB HL195_0 HR195_0 hx195_0 hx196_0 hx197_0 hHeld ⊢
                  refine pure_ (i := 0) (N := some 47) (v := ?_) (a' := ?_) ba2_2 rfl rfl (any_of HT_.out (zq56)) (fun _ _ _ h => h) (Or.inl ⟨by rfl, ?_⟩) ?_ ?_; rotate_left; exact zs0; rotate_left; exact zs1
                  refine pure_ (i := 1) (N := some 48) (v := ?_) (a' := ?_) ba2_4 rfl rfl (any_of HT_.out (zq56)) (fun _ _ _ h => h) (Or.inl ⟨by rfl, ?_⟩) ?_ ?_; rotate_left; exact zs0; rotate_left; exact zs1
                  refine pure_ (i := 2) (N := some 49) (v := ?_) (a' := ?_) ba2_6 rfl rfl (any_of HT_.out (zq56)) (fun _ _ _ h => h) (Or.inl ⟨by rfl, ?_⟩) ?_ ?_; rotate_left; exact zs0; rotate_left; exact zs1
                  refine pure_ (i := 4) (N := some 51) (v := ?_) (a' := ?_) ba2_11 rfl rfl (any_of HT_.out (zq56)) (fun _ _ _ h => h) (Or.inl ⟨by rfl, ?_⟩) ?_ ?_; rotate_left; exact zs0; rotate_left; exact zs1
                  refine pure_ (i := 8) (N := some 55) (v := ?_) (a' := ?_) ba2_12 rfl rfl (any_of HT_.out (zq56)) (fun _ _ _ h => h) (Or.inl ⟨by rfl, ?_⟩) ?_ ?_; rotate_left; exact zs0; rotate_left; exact zs1
                  refine pure_ (i := 9) (N := some 56) (v := ?_) (a' := ?_) ba2_13 rfl rfl (any_of HT_.out (zq56)) (fun _ _ _ h => h) (Or.inl ⟨by rfl, ?_⟩) ?_ ?_; rotate_left; exact zs0; rotate_left; exact zs1
                  refine pure_ (i := 10) (N := some 57) (v := ?_) (a' := ?_) ba2_14 rfl rfl (any_of HT_.out (zq56)) (fun _ _ _ h => h) (Or.inl ⟨by rfl, ?_⟩) ?_ ?_; rotate_left; exact zs0; rotate_left; exact zs1
                  refine take_ (i := 3) (N := some 50) (v := ?_) (a' := ?_) ba2_16 rfl rfl (take_ofW HT_.out HW_.out (zq56)) (fun _ _ _ h => h) (Or.inl ⟨by rfl, ?_⟩) hHeld ?_ ?_
                  rotate_left
                  ·rintro w' ⟨s0, s1, s2⟩
                   go_simp
                   with_reducible rfl
                  rotate_left
                  exact zs1
                  refine pure_ (i := 5) (N := some 52) (v := ?_) (a' := ?_) ba2_17 rfl rfl (any_of HT_.out (zq56)) (fun _ _ _ h => h) (Or.inl ⟨by rfl, ?_⟩) ?_ ?_; rotate_left; exact zs0; rotate_left; exact zs1
                  refine take_ (i := 6) (N := some 53) (v := ?_) (a' := ?_) ba2_18 rfl rfl (take_ofW HT_.out HW_.out (zq56)) (fun _ _ _ h => h) (Or.inl ⟨by rfl, ?_⟩) hHeld ?_ ?_
                  rotate_left
                  ·rintro w' ⟨s0, s1, s2⟩
                   go_simp
                   with_reducible rfl
                  rotate_left
                  exact zs1
                  refine pure_ (i := 7) (N := some 54) (v := ?_) (a' := ?_) ba2_21 rfl rfl (any_of HT_.out (zq56)) (fun _ _ _ h => h) (Or.inl ⟨by rfl, ?_⟩) ?_ ?_; rotate_left; exact zs0; rotate_left; exact zs1
                  refine take_ (i := 11) (N := some 58) (v := ?_) (a' := ?_) ba2_22 rfl rfl (take_ofW HT_.out HW_.out (zq56)) (fun _ _ _ h => h) (Or.inl ⟨by rfl, ?_⟩) hHeld ?_ ?_
                  rotate_left
                  ·rintro w' ⟨s0, s1, s2⟩
                   go_simp
                   with_reducible rfl
                  rotate_left
                  exact zs1
                  refine pure_ (i := 12) (N := some 59) (v := ?_) (a' := ?_) ba2_23 rfl rfl (any_of HT_.out (zq56)) (fun _ _ _ h => h) (Or.inl ⟨by rfl, ?_⟩) ?_ ?_; rotate_left; exact zs0; rotate_left; exact zs1
                  refine pure_ (i := 13) (N := some 60) (v := ?_) (a' := ?_) ba2_24 rfl rfl (any_of HT_.out (zq56)) (fun _ _ _ h => h) (Or.inl ⟨by rfl, ?_⟩) ?_ ?_; rotate_left; exact zs0; rotate_left; exact zs1
                  refine pure_ (i := 14) (N := some 61) (v := ?_) (a' := ?_) ba2_25 rfl rfl (any_of HT_.out (zq56)) (fun _ _ _ h => h) (Or.inl ⟨by rfl, ?_⟩) ?_ ?_; rotate_left; exact zs0; rotate_left; exact zs1
                  refine pure_ (i := 15) (N := some 62) (v := ?_) (a' := ?_) ba2_26 rfl rfl (any_of HT_.out (zq56)) (fun _ _ _ h => h) (Or.inl ⟨by rfl, ?_⟩) ?_ ?_; rotate_left; exact zs0; rotate_left; exact zs1
                  refine done_ (done_of HT_.out (zq56)) ?_
                  try go_wp2
                  go_roundg k2
                  case measure => have := HK1.out; have := HK2.out; omega
                  case rel => exact ⟨(wrap64 (x9_2 + 1)), (zq52), H', ⟨by have := HK1.out; have := HK2.out; omega⟩, ⟨HO_5.r⟩, ⟨HO_6.r⟩, ⟨HO_7.n⟩, ⟨HO_182000.v⟩, ⟨HO_182001.v⟩, ⟨HO_182002.v⟩, ⟨zq40⟩, ⟨zq41⟩, ⟨by repeat (first | (with_reducible exact HR192_0.out) | (with_reducible refine Kd.C_alloc ?_ _) | (with_reducible refine Kd.C_drewN ?_ _) | (with_reducible refine Kd.C_drew ?_) | exact HR192_0.out)⟩, ⟨zq16⟩⟩
                 ·rw [if_neg c34] at H
                  have c34b0 : ((ji33) == 0) = false := beq_eq_false_iff_ne.mpr c34
                  have c34b1 : ((ji33) != 0) = true := bne_iff_ne.mpr c34
                  obtain rfl := Option.some.inj H
                  have p194 : 0 ≤ (x8_1 : Int) := of_decide_eq_true (zq51)
                  have q194 : x8_1 < (y189.length : Int) := of_decide_eq_true (zq51)
                  obtain ⟨ad194, A194_0, c194_0, e194, hx194_0, hl194_0, hi194_0⟩ := at_L2 (Kd.N_reads' HO_7.out).2.2 x8_1 p194 q194
                  obtain rfl : ad192 = ad194 := (by injection e194)
                  obtain ⟨ce194, hce194, hMe194, hcc194⟩ := Kd.N_get HO_7.out [] x8_1 p194 (by first | exact q194 | exact of_decide_eq_true (by first | (with_reducible assumption) | assumption) | (have e_ := (Kd.N_reads' HO_7.out).1; omega))
                  obtain ⟨ua194_0, uc194_0, rfl, ul194_0, ge194_0⟩ := Kd.FK_slice_open hMe194
                  have hv194_0 := hcc194 0 _ rfl
                  rw [Nat.add_zero, show ((Kd.slice 35 (Kd.int .u64))).sz = 1 from rfl, Nat.mul_one] at hv194_0
                  replace hv194_0 := Option.some.inj (hv194_0.symm.trans hx194_0)
                  injection hv194_0 with hva_ hvn_ hvc_
                  rw [hva_] at ge194_0
                  rw [hvc_] at ul194_0
                  have HL194_0 := Aside0.mk (show Kd.V (Kd.int .u64) 35 _ w.heap.size _ _ (rd_L2 y189 x8_1) from Kd.V_mk ul194_0 ge194_0)
                  clear hva_ hvn_ hvc_ ge194_0 ul194_0
                  clear hcc194 hce194
                  have HR194_0 := Aside0.mk hi194_0
                  have HC194_0 := Aside0.mk hl194_0
                  clear hi194_0 hl194_0
                  replace p194 := eq_true p194
                  replace q194 := eq_true q194
                  try go_wp2
                  have n0_ := Aside0.mk (Kd.R_drew HO_5.out)
                  have n1_ := Aside0.mk (Kd.R_drew HO_6.out)
                  have n2_ := Aside0.mk (Kd.N_drew HO_7.out)
                  have n3_ := Aside0.mk (Kd.V_drew HO_182000.out)
                  have n4_ := Aside0.mk (Kd.V_drew HO_182001.out)
                  have n5_ := Aside0.mk (Kd.V_drew HO_182002.out)
                  have n6_ := Aside0.mk (Kd.V_drew HL194_0.out)
                  have n7_ := Aside0.mk (blk_drew BK180.out)
                  have n8_ := Aside0.mk (blk_drew BK181.out)
                  have n9_ := Aside0.mk (Kd.C_drew HR192_0.out)
                  have n10_ := Aside0.mk (Kd.C_drew HR194_0.out)
                  have n11_ := Aside0.mk (below_drew1 HB.out)
                  clear HO_5
                  clear HO_6
                  clear HO_7
                  clear HO_182000
                  clear HO_182001
                  clear HO_182002
                  clear HL194_0
                  clear BK180
                  clear BK181
                  clear HR192_0
                  clear HR194_0
                  clear HB
                  have HO_5 := n0_
                  have HO_6 := n1_
                  have HO_7 := n2_
                  have HO_182000 := n3_
                  have HO_182001 := n4_
                  have HO_182002 := n5_
                  have HL194_0 := n6_
                  have BK180 := n7_
                  have BK181 := n8_
                  have HR192_0 := n9_
                  have HR194_0 := n10_
                  have HB := n11_
                  clear n0_ n1_ n2_ n3_ n4_ n5_ n6_ n7_ n8_ n9_ n10_ n11_
                  have p195 : 0 ≤ (x8_1 : Int) := of_decide_eq_true (zq51)
                  have q195 : x8_1 < (y189.length : Int) := of_decide_eq_true (zq51)
                  obtain ⟨ad195, A195_0, c195_0, e195, hx195_0, hl195_0, hi195_0⟩ := at_L2 (Kd.N_reads' HO_7.out).2.2 x8_1 p195 q195
                  obtain rfl : ad192 = ad195 := (by injection e195)
                  obtain ⟨ce195, hce195, hMe195, hcc195⟩ := Kd.N_get HO_7.out [] x8_1 p195 (by first | exact q195 | exact of_decide_eq_true (by first | (with_reducible assumption) | assumption) | (have e_ := (Kd.N_reads' HO_7.out).1; omega))
                  obtain ⟨ua195_0, uc195_0, rfl, ul195_0, ge195_0⟩ := Kd.FK_slice_open hMe195
                  have hv195_0 := hcc195 0 _ rfl
                  rw [Nat.add_zero, show ((Kd.slice 35 (Kd.int .u64))).sz = 1 from rfl, Nat.mul_one] at hv195_0
                  replace hv195_0 := Option.some.inj (hv195_0.symm.trans hx195_0)
                  injection hv195_0 with hva_ hvn_ hvc_
                  rw [hva_] at ge195_0
                  rw [hvc_] at ul195_0
                  have HL195_0 := Aside0.mk (show Kd.V (Kd.int .u64) 35 _ w.heap.size _ _ (rd_L2 y189 x8_1) from Kd.V_mk ul195_0 ge195_0)
                  clear hva_ hvn_ hvc_ ge195_0 ul195_0
                  clear hcc195 hce195
                  have HR195_0 := Aside0.mk hi195_0
                  have HC195_0 := Aside0.mk hl195_0
                  clear hi195_0 hl195_0
                  replace p195 := eq_true p195
                  replace q195 := eq_true q195
                  have p196 : 0 ≤ (x9_2 : Int) := of_decide_eq_true (zq51)
                  have q196 : x9_2 < ((rd_L2 y189 x8_1).length : Int) := of_decide_eq_true (zq51)
                  obtain ⟨ad196, e196, hx196_0⟩ := Kd.at_int (by repeat (first | (with_reducible exact HR195_0.out) | (with_reducible refine Kd.C_alloc ?_ _) | (with_reducible refine Kd.C_drewN ?_ _) | (with_reducible refine Kd.C_drew ?_) | exact HR195_0.out)) x9_2 p196 q196
                  cases e196
                  replace p196 := eq_true p196
                  replace q196 := eq_true q196
                  obtain ⟨Ao38, co38, eo38⟩ := Kd.R_slice HO_6.out
                  (first | subst eo38 | (injection eo38 with f1_ f2_ f3_; have f4_ := f1_.symm; have f5_ := f3_.symm; clear f1_ f2_ f3_; subst f4_; subst f5_))
                  have p197 : 0 ≤ (x8_1 : Int) := of_decide_eq_true (zq51)
                  have q197 : x8_1 < (t186.length : Int) := of_decide_eq_true (zq51)
                  obtain ⟨ad197, e197, hx197_0⟩ := Kd.at_int (Kd.R_reads' HO_6.out).2.2 x8_1 p197 q197
                  cases e197
                  replace p197 := eq_true p197
                  replace q197 := eq_true q197
                  refine start_ (n := 16) (S := fun w' => w'.cell? (ad192.add (x8_1).toNat) = some (.slice (some ad196) (rd_L2 y189 x8_1).length c195_0) ∧ w'.cell? (ad196.add (x9_2).toNat) = some (.int .u64 (rd (rd_L2 y189 x8_1) x9_2)) ∧ w'.cell? (ad197.add (x8_1).toNat) = some (.int .i64 (rd t186 x8_1))) (ds := []) ba2_0 (zq56) rfl rfl ⟨hx195_0, hx196_0, hx197_0⟩ (fun hHeld => ?_); refine with_tabW trefoilref09_Fits.tab13 trefoilref09_Fits.bits13 (fun HT_ HW_ => ?_)
                  generalize wr.drew = w37 at HO_5 HO_6 HO_7 HO_182000 HO_182001 HO_182002 HL194_0 BK180 BK181 HR192_0 HR194_0 HB HL195_0 HR195_0 hx195_0 hx196_0 hx197_0 hHeld ⊢
                  refine pure_ (i := 0) (N := some 47) (v := ?_) (a' := ?_) ba2_2 rfl rfl (any_of HT_.out (zq56)) (fun _ _ _ h => h) (Or.inl ⟨by rfl, ?_⟩) ?_ ?_; rotate_left; exact zs0; rotate_left; exact zs1
                  refine pure_ (i := 1) (N := some 48) (v := ?_) (a' := ?_) ba2_4 rfl rfl (any_of HT_.out (zq56)) (fun _ _ _ h => h) (Or.inl ⟨by rfl, ?_⟩) ?_ ?_; rotate_left; exact zs0; rotate_left; exact zs1
                  refine pure_ (i := 2) (N := some 49) (v := ?_) (a' := ?_) ba2_6 rfl rfl (any_of HT_.out (zq56)) (fun _ _ _ h => h) (Or.inl ⟨by rfl, ?_⟩) ?_ ?_; rotate_left; exact zs0; rotate_left; exact zs1
                  refine pure_ (i := 4) (N := some 51) (v := ?_) (a' := ?_) ba2_11 rfl rfl (any_of HT_.out (zq56)) (fun _ _ _ h => h) (Or.inl ⟨by rfl, ?_⟩) ?_ ?_; rotate_left; exact zs0; rotate_left; exact zs1
                  refine pure_ (i := 8) (N := some 55) (v := ?_) (a' := ?_) ba2_12 rfl rfl (any_of HT_.out (zq56)) (fun _ _ _ h => h) (Or.inl ⟨by rfl, ?_⟩) ?_ ?_; rotate_left; exact zs0; rotate_left; exact zs1
                  refine pure_ (i := 9) (N := some 56) (v := ?_) (a' := ?_) ba2_13 rfl rfl (any_of HT_.out (zq56)) (fun _ _ _ h => h) (Or.inl ⟨by rfl, ?_⟩) ?_ ?_; rotate_left; exact zs0; rotate_left; exact zs1
                  refine pure_ (i := 10) (N := some 57) (v := ?_) (a' := ?_) ba2_14 rfl rfl (any_of HT_.out (zq56)) (fun _ _ _ h => h) (Or.inl ⟨by rfl, ?_⟩) ?_ ?_; rotate_left; exact zs0; rotate_left; exact zs1
                  refine take_ (i := 3) (N := some 50) (v := ?_) (a' := ?_) ba2_16 rfl rfl (take_ofW HT_.out HW_.out (zq56)) (fun _ _ _ h => h) (Or.inl ⟨by rfl, ?_⟩) hHeld ?_ ?_
                  rotate_left
                  ·rintro w' ⟨s0, s1, s2⟩
                   go_simp
                   with_reducible rfl
                  rotate_left
                  exact zs1
                  refine pure_ (i := 5) (N := some 52) (v := ?_) (a' := ?_) ba2_17 rfl rfl (any_of HT_.out (zq56)) (fun _ _ _ h => h) (Or.inl ⟨by rfl, ?_⟩) ?_ ?_; rotate_left; exact zs0; rotate_left; exact zs1
                  refine take_ (i := 6) (N := some 53) (v := ?_) (a' := ?_) ba2_18 rfl rfl (take_ofW HT_.out HW_.out (zq56)) (fun _ _ _ h => h) (Or.inl ⟨by rfl, ?_⟩) hHeld ?_ ?_
                  rotate_left
                  ·rintro w' ⟨s0, s1, s2⟩
                   go_simp
                   with_reducible rfl
                  rotate_left
                  exact zs1
                  refine pure_ (i := 7) (N := some 54) (v := ?_) (a' := ?_) ba2_21 rfl rfl (any_of HT_.out (zq56)) (fun _ _ _ h => h) (Or.inl ⟨by rfl, ?_⟩) ?_ ?_; rotate_left; exact zs0; rotate_left; exact zs1
                  refine take_ (i := 11) (N := some 58) (v := ?_) (a' := ?_) ba2_22 rfl rfl (take_ofW HT_.out HW_.out (zq56)) (fun _ _ _ h => h) (Or.inl ⟨by rfl, ?_⟩) hHeld ?_ ?_
                  rotate_left
                  ·rintro w' ⟨s0, s1, s2⟩
                   go_simp
                   with_reducible rfl
                  rotate_left
                  exact zs1
                  refine pure_ (i := 12) (N := some 59) (v := ?_) (a' := ?_) ba2_23 rfl rfl (any_of HT_.out (zq56)) (fun _ _ _ h => h) (Or.inl ⟨by rfl, ?_⟩) ?_ ?_; rotate_left; exact zs0; rotate_left; exact zs1
                  refine pure_ (i := 13) (N := some 60) (v := ?_) (a' := ?_) ba2_24 rfl rfl (any_of HT_.out (zq56)) (fun _ _ _ h => h) (Or.inl ⟨by rfl, ?_⟩) ?_ ?_; rotate_left; exact zs0; rotate_left; exact zs1
                  refine pure_ (i := 14) (N := some 61) (v := ?_) (a' := ?_) ba2_25 rfl rfl (any_of HT_.out (zq56)) (fun _ _ _ h => h) (Or.inl ⟨by rfl, ?_⟩) ?_ ?_; rotate_left; exact zs0; rotate_left; exact zs1
                  refine pure_ (i := 15) (N := some 62) (v := ?_) (a' := ?_) ba2_26 rfl rfl (any_of HT_.out (zq56)) (fun _ _ _ h => h) (Or.inl ⟨by rfl, ?_⟩) ?_ ?_; rotate_left; exact zs0; rotate_left; exact zs1
                  refine done_ (done_of HT_.out (zq56)) ?_
                  try go_wp2
                  go_ret
                  exact ⟨by first | rfl | (simp [errW_none, errW_some] <;> rfl) | (simp only [← hji31, ← hji33]; first | rfl | (simp [errW_none, errW_some] <;> rfl)) | (simp [*, errW_none, errW_some] <;> rfl), zq16⟩
                ·rw [if_neg c32] at H
                 exact absurd H (by simp)
               ·rw [if_neg c30] at H
                exact absurd H (by simp)
              ·rw [if_neg c29] at H
               exact absurd H (by simp)
             ·rw [if_neg c28] at H
              have c28b0 : decide (x9_2 < ((rd_L2 y189 x8_1).length : Int)) = false := decide_eq_false c28
              clear c28
              have H' := Aside0.mk H
              clear H
              have p194 : 0 ≤ (x8_1 : Int) := of_decide_eq_true (zq51)
              have q194 : x8_1 < (y189.length : Int) := of_decide_eq_true (zq51)
              obtain ⟨ad194, A194_0, c194_0, e194, hx194_0, hl194_0, hi194_0⟩ := at_L2 (Kd.N_reads' HO_7.out).2.2 x8_1 p194 q194
              obtain rfl : ad192 = ad194 := (by injection e194)
              obtain ⟨ce194, hce194, hMe194, hcc194⟩ := Kd.N_get HO_7.out [] x8_1 p194 (by first | exact q194 | exact of_decide_eq_true (by first | (with_reducible assumption) | assumption) | (have e_ := (Kd.N_reads' HO_7.out).1; omega))
              obtain ⟨ua194_0, uc194_0, rfl, ul194_0, ge194_0⟩ := Kd.FK_slice_open hMe194
              have hv194_0 := hcc194 0 _ rfl
              rw [Nat.add_zero, show ((Kd.slice 35 (Kd.int .u64))).sz = 1 from rfl, Nat.mul_one] at hv194_0
              replace hv194_0 := Option.some.inj (hv194_0.symm.trans hx194_0)
              injection hv194_0 with hva_ hvn_ hvc_
              rw [hva_] at ge194_0
              rw [hvc_] at ul194_0
              have HL194_0 := Aside0.mk (show Kd.V (Kd.int .u64) 35 _ w.heap.size _ _ (rd_L2 y189 x8_1) from Kd.V_mk ul194_0 ge194_0)
              clear hva_ hvn_ hvc_ ge194_0 ul194_0
              clear hcc194 hce194
              have HR194_0 := Aside0.mk hi194_0
              have HC194_0 := Aside0.mk hl194_0
              clear hi194_0 hl194_0
              replace p194 := eq_true p194
              replace q194 := eq_true q194
              go_wp2
              go_roundg k2
              case measure => have := HK1.out; have := HK2.out; omega
              case rel => exact ⟨(wrap64 (x8_1 + 1)), (zq52), H', ⟨by have := HK1.out; have := HK2.out; omega⟩, ⟨HO_5.r⟩, ⟨HO_6.r⟩, ⟨HO_7.n⟩, ⟨HO_182000.v⟩, ⟨HO_182001.v⟩, ⟨HO_182002.v⟩, ⟨zq40⟩, ⟨zq41⟩, ⟨zq16⟩⟩
            ·rw [if_neg c27] at H
             exact absurd H (by simp)
           ·rw [if_neg c26] at H
            exact absurd H (by simp)
        ·rw [if_neg c22] at H
         have c22b0 : (((rd_L2 y189 x8_1).length : Int) == (rd t183 x8_1)) = false := beq_eq_false_iff_ne.mpr c22
         have c22b1 : (((rd_L2 y189 x8_1).length : Int) != (rd t183 x8_1)) = true := bne_iff_ne.mpr c22
         obtain rfl := Option.some.inj H
         try go_wp2
         have n0_ := Aside0.mk (Kd.R_drew HO_5.out)
         have n1_ := Aside0.mk (Kd.R_drew HO_6.out)
         have n2_ := Aside0.mk (Kd.N_drew HO_7.out)
         have n3_ := Aside0.mk (Kd.V_drew HO_182000.out)
         have n4_ := Aside0.mk (Kd.V_drew HO_182001.out)
         have n5_ := Aside0.mk (Kd.V_drew HO_182002.out)
         have n6_ := Aside0.mk (blk_drew BK180.out)
         have n7_ := Aside0.mk (blk_drew BK181.out)
         have n8_ := Aside0.mk (below_drew1 HB.out)
         clear HO_5
         clear HO_6
         clear HO_7
         clear HO_182000
         clear HO_182001
         clear HO_182002
         clear BK180
         clear BK181
         clear HB
         have HO_5 := n0_
         have HO_6 := n1_
         have HO_7 := n2_
         have HO_182000 := n3_
         have HO_182001 := n4_
         have HO_182002 := n5_
         have BK180 := n6_
         have BK181 := n7_
         have HB := n8_
         clear n0_ n1_ n2_ n3_ n4_ n5_ n6_ n7_ n8_
         obtain ⟨Ao40, co40, eo40⟩ := Kd.N_slice HO_7.out
         (first | subst eo40 | (injection eo40 with f1_ f2_ f3_; have f4_ := f1_.symm; have f5_ := f3_.symm; clear f1_ f2_ f3_; subst f4_; subst f5_))
         have p192 : 0 ≤ (x8_1 : Int) := of_decide_eq_true (zq51)
         have q192 : x8_1 < (y189.length : Int) := of_decide_eq_true (zq51)
         obtain ⟨ad192, A192_0, c192_0, e192, hx192_0, hl192_0, hi192_0⟩ := at_L2 (Kd.N_reads' HO_7.out).2.2 x8_1 p192 q192
         cases e192
         obtain ⟨ce192, hce192, hMe192, hcc192⟩ := Kd.N_get HO_7.out [] x8_1 p192 (by first | exact q192 | exact of_decide_eq_true (by first | (with_reducible assumption) | assumption) | (have e_ := (Kd.N_reads' HO_7.out).1; omega))
         obtain ⟨ua192_0, uc192_0, rfl, ul192_0, ge192_0⟩ := Kd.FK_slice_open hMe192
         have hv192_0 := hcc192 0 _ rfl
         rw [Nat.add_zero, show ((Kd.slice 35 (Kd.int .u64))).sz = 1 from rfl, Nat.mul_one] at hv192_0
         replace hv192_0 := Option.some.inj (hv192_0.symm.trans hx192_0)
         injection hv192_0 with hva_ hvn_ hvc_
         rw [hva_] at ge192_0
         rw [hvc_] at ul192_0
         have HL192_0 := Aside0.mk (show Kd.V (Kd.int .u64) 35 _ w.heap.size _ _ (rd_L2 y189 x8_1) from Kd.V_mk ul192_0 ge192_0)
         clear hva_ hvn_ hvc_ ge192_0 ul192_0
         clear hcc192 hce192
         have HR192_0 := Aside0.mk hi192_0
         have HC192_0 := Aside0.mk hl192_0
         clear hi192_0 hl192_0
         replace p192 := eq_true p192
         replace q192 := eq_true q192
         obtain ⟨Ao41, co41, eo41⟩ := Kd.R_slice HO_5.out
         (first | subst eo41 | (injection eo41 with f1_ f2_ f3_; have f4_ := f1_.symm; have f5_ := f3_.symm; clear f1_ f2_ f3_; subst f4_; subst f5_))
         have p193 : 0 ≤ (x8_1 : Int) := of_decide_eq_true (zq51)
         have q193 : x8_1 < (t183.length : Int) := of_decide_eq_true (zq51)
         obtain ⟨ad193, e193, hx193_0⟩ := Kd.at_int (Kd.R_reads' HO_5.out).2.2 x8_1 p193 q193
         cases e193
         replace p193 := eq_true p193
         replace q193 := eq_true q193
         refine start_ (n := 10) (S := fun w' => w'.cell? (ad192.add (x8_1).toNat) = some (.slice A192_0 (rd_L2 y189 x8_1).length c192_0) ∧ w'.cell? (ad193.add (x8_1).toNat) = some (.int .i64 (rd t183 x8_1))) (ds := []) ba2_1 (zq56) rfl rfl ⟨hx192_0, hx193_0⟩ (fun hHeld => ?_); refine with_tabW trefoilref09_Fits.tab8 trefoilref09_Fits.bits8 (fun HT_ HW_ => ?_)
         generalize wr.drew = w39 at HO_5 HO_6 HO_7 HO_182000 HO_182001 HO_182002 BK180 BK181 HB HL192_0 HR192_0 hx192_0 hx193_0 hHeld ⊢
         refine pure_ (i := 0) (N := some 28) (v := ?_) (a' := ?_) ba2_3 rfl rfl (any_of HT_.out (zq56)) (fun _ _ _ h => h) (Or.inl ⟨by rfl, ?_⟩) ?_ ?_; rotate_left; exact zs0; rotate_left; exact zs1
         refine pure_ (i := 1) (N := some 29) (v := ?_) (a' := ?_) ba2_5 rfl rfl (any_of HT_.out (zq56)) (fun _ _ _ h => h) (Or.inl ⟨by rfl, ?_⟩) ?_ ?_; rotate_left; exact zs0; rotate_left; exact zs1
         refine pure_ (i := 2) (N := some 30) (v := ?_) (a' := ?_) ba2_7 rfl rfl (any_of HT_.out (zq56)) (fun _ _ _ h => h) (Or.inl ⟨by rfl, ?_⟩) ?_ ?_; rotate_left; exact zs0; rotate_left; exact zs1
         refine pure_ (i := 5) (N := some 33) (v := ?_) (a' := ?_) ba2_8 rfl rfl (any_of HT_.out (zq56)) (fun _ _ _ h => h) (Or.inl ⟨by rfl, ?_⟩) ?_ ?_; rotate_left; exact zs0; rotate_left; exact zs1
         refine pure_ (i := 6) (N := some 34) (v := ?_) (a' := ?_) ba2_9 rfl rfl (any_of HT_.out (zq56)) (fun _ _ _ h => h) (Or.inl ⟨by rfl, ?_⟩) ?_ ?_; rotate_left; exact zs0; rotate_left; exact zs1
         refine pure_ (i := 7) (N := some 35) (v := ?_) (a' := ?_) ba2_10 rfl rfl (any_of HT_.out (zq56)) (fun _ _ _ h => h) (Or.inl ⟨by rfl, ?_⟩) ?_ ?_; rotate_left; exact zs0; rotate_left; exact zs1
         refine take_ (i := 3) (N := some 31) (v := ?_) (a' := ?_) ba2_15 rfl rfl (take_ofW HT_.out HW_.out (zq56)) (fun _ _ _ h => h) (Or.inl ⟨by rfl, ?_⟩) hHeld ?_ ?_
         rotate_left
         ·rintro w' ⟨s0, s1⟩
          go_simp
          with_reducible rfl
         rotate_left
         exact zs1
         refine pure_ (i := 4) (N := some 32) (v := ?_) (a' := ?_) ba2_19 rfl rfl (any_of HT_.out (zq56)) (fun _ _ _ h => h) (Or.inl ⟨by rfl, ?_⟩) ?_ ?_; rotate_left; exact zs0; rotate_left; exact zs1
         refine take_ (i := 8) (N := some 36) (v := ?_) (a' := ?_) ba2_20 rfl rfl (take_ofW HT_.out HW_.out (zq56)) (fun _ _ _ h => h) (Or.inl ⟨by rfl, ?_⟩) hHeld ?_ ?_
         rotate_left
         ·rintro w' ⟨s0, s1⟩
          go_simp
          with_reducible rfl
         rotate_left
         exact zs1
         refine pure_ (i := 9) (N := some 37) (v := ?_) (a' := ?_) ba2_27 rfl rfl (any_of HT_.out (zq56)) (fun _ _ _ h => h) (Or.inl ⟨by rfl, ?_⟩) ?_ ?_; rotate_left; exact zs0; rotate_left; exact zs1
         refine done_ (done_of HT_.out (zq56)) ?_
         try go_wp2
         go_ret
         exact ⟨zq49, zq16⟩
       ·rw [if_neg c21] at H
        exact absurd H (by simp)
      ·rw [if_neg c20] at H
       exact absurd H (by simp)
     ·rw [if_neg c19] at H
      exact absurd H (by simp)
    ·rw [if_neg c18] at H
     have c18b0 : decide (x8_1 < 3) = false := decide_eq_false c18
     clear c18
     obtain rfl := Option.some.inj H
     go_wp2
     go_ret
     exact ⟨zq49, zq16⟩
 ·rw [if_neg c4] at H
  have c4b0 : (t182 == 0) = false := beq_eq_false_iff_ne.mpr c4
  have c4b1 : (t182 != 0) = true := bne_iff_ne.mpr c4
  obtain rfl := Option.some.inj H
  go_enter Try.func50, Try.ntmps50
  go_wp2_with (first | ((with_reducible refine gate_dst (N := 2) rfl ?_); refine box_event ?hg (N := 2) ?hd (cs := #[.int .i64 a0_0, .int .i64 a0_1, .int .i64 a0_2, .int .i64 a0_3, .int .i64 a0_4]) (t := 23) ?hr ?_; (case hd => rfl); (case hg => rfl); (case hr => first | (go_simp; done) | (go_simp; rfl)); intro gb180 hg w42 hbox hb; have n0_ := Aside0.mk (Kd.V_below (Kd.V_elderB HO1_0.v gb180 (Nat.le_of_eq hg.symm)) hb); have n1_ := Aside0.mk (Kd.V_below (Kd.V_elderB HO1_1.v gb180 (Nat.le_of_eq hg.symm)) hb); have n2_ := Aside0.mk (Kd.V_below (Kd.V_elderB HO1_2.v gb180 (Nat.le_of_eq hg.symm)) hb); have n3_ := Aside0.mk (below_step HB.bl hb); have n4_ := Aside0.mk (hbox); have n5_ := Aside0.mk ((zq54 : w.heap.size ≤ gb180)); have n6_ := Aside0.mk ((zq54 : w.heap.size ≤ gb180)); clear HO1_0; clear HO1_1; clear HO1_2; clear HB; have HO1_0 := n0_; have HO1_1 := n1_; have HO1_2 := n2_; have HB := n3_; have BK180 := n4_; have GW180 := n5_; have GE180 := n6_; clear n0_ n1_ n2_ n3_ n4_ n5_ n6_; clear hb hbox hg) | ((with_reducible refine gate_dst (N := 3) rfl ?_); refine box_event ?hg (N := 3) ?hd (cs := #[.slice A1_0 l1_0.length c1_0, .slice A1_1 l1_1.length c1_1, .slice A1_2 l1_2.length c1_2]) (t := 26) ?hr ?_; (case hd => rfl); (case hg => rfl); (case hr => first | (go_simp; done) | (go_simp; rfl)); intro gb181 hg w43 hbox hb; have n0_ := Aside0.mk (Kd.V_below (Kd.V_elderB HO1_0.v gb181 (Nat.le_of_eq hg.symm)) hb); have n1_ := Aside0.mk (Kd.V_below (Kd.V_elderB HO1_1.v gb181 (Nat.le_of_eq hg.symm)) hb); have n2_ := Aside0.mk (Kd.V_below (Kd.V_elderB HO1_2.v gb181 (Nat.le_of_eq hg.symm)) hb); have n3_ := Aside0.mk (BK180.lk hb); have n4_ := Aside0.mk (below_step HB.bl hb); have n5_ := Aside0.mk (hbox); have n6_ := Aside0.mk ((zq54 : w.heap.size ≤ gb181)); have n7_ := Aside0.mk ((zq54 : w.heap.size ≤ gb181)); have n8_ := Aside0.mk ((by rw [hg]; exact Nat.ne_of_lt (blk_lt BK180.ld) : gb180 ≠ gb181)); have n9_ := Aside0.mk ((by rw [hg]; exact Nat.ne_of_gt (blk_lt BK180.ld) : gb181 ≠ gb180)); clear HO1_0; clear HO1_1; clear HO1_2; clear BK180; clear HB; have HO1_0 := n0_; have HO1_1 := n1_; have HO1_2 := n2_; have BK180 := n3_; have HB := n4_; have BK181 := n5_; have GW181 := n6_; have GE181 := n7_; have NB180_181 := n8_; have NB181_180 := n9_; clear n0_ n1_ n2_ n3_ n4_ n5_ n6_ n7_ n8_ n9_; clear hb hbox hg; have hnb44 := NB180_181.out; have hnc44 := NB181_180.out; obtain ⟨hcz45_0, hcz45_1, hcz45_2, hcz45_3, hcz45_4, hfz45_0, hfz45_1, hfz45_2, hfz45_3, hfz45_4⟩ := cells_5 BK180.out) | ((with_reducible refine gate_callee (f := 62) rfl ?_); refine goesL_ (some 11) rfl rfl Try.func62 (zq56) rfl #[.agg #[.int .i64 a0_0, .int .i64 a0_1, .int .i64 a0_2, .int .i64 a0_3, .int .i64 a0_4]] rfl (zq33) ?_; (with_reducible refine (trefoilref09_Check.calls k a0_0 a0_1 a0_2 a0_3 a0_4 t182 _ A3.out).mono ?_); rintro e w46 ⟨rfl, hb⟩; refine ⟨_, rfl, ?_⟩; replace HO1_0 := Aside0.mk (Kd.V_below HO1_0.v hb); replace HO1_1 := Aside0.mk (Kd.V_below HO1_1.v hb); replace HO1_2 := Aside0.mk (Kd.V_below HO1_2.v hb); replace BK180 := Aside0.mk (BK180.lk hb); replace BK181 := Aside0.mk (BK181.lk hb); replace HB := Aside0.mk (below_step HB.bl hb); (try clear hb); (try clear hb2); (try clear hk); (try clear hi)))
  go_ret
  exact ⟨zq49, zq16⟩

/-! ### ring_Mul: function 55 -/
def ring_Mul.f (a0 : Int) (a1 : Int) (a2 : Int) : Option (Int) := (ring_mask.f a0).bind fun t221 => (some (Go.bits .and .u64 (IntKind.u64.wrap (a1 * a2)) t221))
set_option maxHeartbeats 8000000 in
set_option maxRecDepth 100000 in
theorem ring_Mul.calls (a0 : Int) (a1 : Int) (a2 : Int) (r : Int) (w : World) (h : ring_Mul.f a0 a1 a2 = some r) :
  Calls Try.prog 55 #[.int .i64 a0, .int .u64 a1, .int .u64 a2] w fun e w' => e = .returned (.int .u64 r) ∧ Drawn0 w w' := by
 have H : ((ring_mask.f a0).bind fun t221 => (some (Go.bits .and .u64 (IntKind.u64.wrap (a1 * a2)) t221))) = some r := h
 clear h
 replace H := Option.bind_eq_some_iff.mp H
 obtain ⟨t221, A40, H⟩ := H
 replace H : (some (Go.bits .and .u64 (IntKind.u64.wrap (a1 * a2)) t221)) = some r := H
 have A4 := Aside0.mk A40
 clear A40
 obtain rfl := Option.some.inj H
 go_enter Try.func55, Try.ntmps55
 go_wp2_with (first | ((with_reducible refine gate_callee (f := 90) rfl ?_); refine goesL_ (some 11) rfl rfl Try.func90 (zq56) rfl #[.int .i64 a0] rfl (zq33) ?_; (with_reducible refine (ring_mask.calls a0 t221 _ A4.out).mono ?_); rintro e w' ⟨rfl, ⟨nd, rfl⟩⟩; refine ⟨_, rfl, ?_⟩))
 go_ret
 exact ⟨zq52, zq50⟩

/-! ### trefoilref22_Sides: function 48 -/
def trefoilref22_Sides.f (a0_0 : Int) (a0_1 : Int) (a0_2 : Int) (a0_3 : Int) (a0_4 : Int) : Option (Int × Int × Int) := if a0_0 = 2 then (some (a0_2, a0_3, a0_4)) else (some (1, 1, 1))
set_option maxHeartbeats 8000000 in
set_option maxRecDepth 100000 in
theorem trefoilref22_Sides.calls (a0_0 : Int) (a0_1 : Int) (a0_2 : Int) (a0_3 : Int) (a0_4 : Int) (r1 : Int) (r2 : Int) (r3 : Int) (w : World) (h : trefoilref22_Sides.f a0_0 a0_1 a0_2 a0_3 a0_4 = some (r1, r2, r3)) :
  Calls Try.prog 48 #[.agg #[.int .i64 a0_0, .int .i64 a0_1, .int .i64 a0_2, .int .i64 a0_3, .int .i64 a0_4]] w fun e w' => e = .returned (.tuple #[.int .i64 r1, .int .i64 r2, .int .i64 r3]) ∧ Below w.heap.size w w' := by
 have hu23 := Try.underlying23
 have HB := Aside0.mk (Below.refl w.heap.size w)
 have H : (if a0_0 = 2 then (some (a0_2, a0_3, a0_4)) else (some (1, 1, 1))) = some (r1, r2, r3) := h
 clear h
 by_cases c2 : a0_0 = 2
 ·rw [if_pos c2] at H
  have c2b0 : (a0_0 == 2) = true := beq_iff_eq.mpr c2
  have c2b1 : (a0_0 != 2) = false := bne_eq_false_iff_eq.mpr c2
  clear c2
  simp only [Option.some.injEq, Prod.mk.injEq] at H
  obtain ⟨rfl, rfl, rfl⟩ := H
  go_enter Try.func48, Try.ntmps48
  go_wp2_with (first | ((with_reducible refine gate_dst (N := 1) rfl ?_); refine box_event ?hg (N := 1) ?hd (cs := #[.int .i64 a0_0, .int .i64 a0_1, .int .i64 a0_2, .int .i64 a0_3, .int .i64 a0_4]) (t := 23) ?hr ?_; (case hd => rfl); (case hg => rfl); (case hr => first | (go_simp; done) | (go_simp; rfl)); intro gb257 hg w3 hbox hb; have n0_ := Aside0.mk (below_step HB.bl hb); have n1_ := Aside0.mk (hbox); have n2_ := Aside0.mk ((zq54 : w.heap.size ≤ gb257)); have n3_ := Aside0.mk ((zq54 : w.heap.size ≤ gb257)); clear HB; have HB := n0_; have BK257 := n1_; have GW257 := n2_; have GE257 := n3_; clear n0_ n1_ n2_ n3_; clear hb hbox hg; obtain ⟨hcz4_0, hcz4_1, hcz4_2, hcz4_3, hcz4_4, hfz4_0, hfz4_1, hfz4_2, hfz4_3, hfz4_4⟩ := cells_5 BK257.out))
  repeat (go_quiet (first | ((with_reducible refine gate_dst (N := 1) rfl ?_); refine box_event ?hg (N := 1) ?hd (cs := #[.int .i64 a0_0, .int .i64 a0_1, .int .i64 a0_2, .int .i64 a0_3, .int .i64 a0_4]) (t := 23) ?hr ?_; (case hd => rfl); (case hg => rfl); (case hr => first | (go_simp; done) | (go_simp; rfl)); intro gb257 hg w3 hbox hb; have n0_ := Aside0.mk (below_step HB.bl hb); have n1_ := Aside0.mk (hbox); have n2_ := Aside0.mk ((zq54 : w.heap.size ≤ gb257)); have n3_ := Aside0.mk ((zq54 : w.heap.size ≤ gb257)); clear HB; have HB := n0_; have BK257 := n1_; have GW257 := n2_; have GE257 := n3_; clear n0_ n1_ n2_ n3_; clear hb hbox hg; obtain ⟨hcz4_0, hcz4_1, hcz4_2, hcz4_3, hcz4_4, hfz4_0, hfz4_1, hfz4_2, hfz4_3, hfz4_4⟩ := cells_5 BK257.out)); try go_wp2_with (first | ((with_reducible refine gate_dst (N := 1) rfl ?_); refine box_event ?hg (N := 1) ?hd (cs := #[.int .i64 a0_0, .int .i64 a0_1, .int .i64 a0_2, .int .i64 a0_3, .int .i64 a0_4]) (t := 23) ?hr ?_; (case hd => rfl); (case hg => rfl); (case hr => first | (go_simp; done) | (go_simp; rfl)); intro gb257 hg w3 hbox hb; have n0_ := Aside0.mk (below_step HB.bl hb); have n1_ := Aside0.mk (hbox); have n2_ := Aside0.mk ((zq54 : w.heap.size ≤ gb257)); have n3_ := Aside0.mk ((zq54 : w.heap.size ≤ gb257)); clear HB; have HB := n0_; have BK257 := n1_; have GW257 := n2_; have GE257 := n3_; clear n0_ n1_ n2_ n3_; clear hb hbox hg; obtain ⟨hcz4_0, hcz4_1, hcz4_2, hcz4_3, hcz4_4, hfz4_0, hfz4_1, hfz4_2, hfz4_3, hfz4_4⟩ := cells_5 BK257.out)))
  go_ret3
  exact ⟨zq49, by repeat (first | (with_reducible first | exact HB.out | apply below_alloc | apply pw_below_drewN | apply below_drew1 | refine below_set ?_ GE257.out) | exact HB.out)⟩
 ·rw [if_neg c2] at H
  have c2b0 : (a0_0 == 2) = false := beq_eq_false_iff_ne.mpr c2
  have c2b1 : (a0_0 != 2) = true := bne_iff_ne.mpr c2
  simp only [Option.some.injEq, Prod.mk.injEq] at H
  obtain ⟨rfl, rfl, rfl⟩ := H
  go_enter Try.func48, Try.ntmps48
  go_wp2_with (first | ((with_reducible refine gate_dst (N := 1) rfl ?_); refine box_event ?hg (N := 1) ?hd (cs := #[.int .i64 a0_0, .int .i64 a0_1, .int .i64 a0_2, .int .i64 a0_3, .int .i64 a0_4]) (t := 23) ?hr ?_; (case hd => rfl); (case hg => rfl); (case hr => first | (go_simp; done) | (go_simp; rfl)); intro gb257 hg w5 hbox hb; have n0_ := Aside0.mk (below_step HB.bl hb); have n1_ := Aside0.mk (hbox); have n2_ := Aside0.mk ((zq54 : w.heap.size ≤ gb257)); have n3_ := Aside0.mk ((zq54 : w.heap.size ≤ gb257)); clear HB; have HB := n0_; have BK257 := n1_; have GW257 := n2_; have GE257 := n3_; clear n0_ n1_ n2_ n3_; clear hb hbox hg; obtain ⟨hcz6_0, hcz6_1, hcz6_2, hcz6_3, hcz6_4, hfz6_0, hfz6_1, hfz6_2, hfz6_3, hfz6_4⟩ := cells_5 BK257.out))
  repeat (go_quiet (first | ((with_reducible refine gate_dst (N := 1) rfl ?_); refine box_event ?hg (N := 1) ?hd (cs := #[.int .i64 a0_0, .int .i64 a0_1, .int .i64 a0_2, .int .i64 a0_3, .int .i64 a0_4]) (t := 23) ?hr ?_; (case hd => rfl); (case hg => rfl); (case hr => first | (go_simp; done) | (go_simp; rfl)); intro gb257 hg w5 hbox hb; have n0_ := Aside0.mk (below_step HB.bl hb); have n1_ := Aside0.mk (hbox); have n2_ := Aside0.mk ((zq54 : w.heap.size ≤ gb257)); have n3_ := Aside0.mk ((zq54 : w.heap.size ≤ gb257)); clear HB; have HB := n0_; have BK257 := n1_; have GW257 := n2_; have GE257 := n3_; clear n0_ n1_ n2_ n3_; clear hb hbox hg; obtain ⟨hcz6_0, hcz6_1, hcz6_2, hcz6_3, hcz6_4, hfz6_0, hfz6_1, hfz6_2, hfz6_3, hfz6_4⟩ := cells_5 BK257.out)); try go_wp2_with (first | ((with_reducible refine gate_dst (N := 1) rfl ?_); refine box_event ?hg (N := 1) ?hd (cs := #[.int .i64 a0_0, .int .i64 a0_1, .int .i64 a0_2, .int .i64 a0_3, .int .i64 a0_4]) (t := 23) ?hr ?_; (case hd => rfl); (case hg => rfl); (case hr => first | (go_simp; done) | (go_simp; rfl)); intro gb257 hg w5 hbox hb; have n0_ := Aside0.mk (below_step HB.bl hb); have n1_ := Aside0.mk (hbox); have n2_ := Aside0.mk ((zq54 : w.heap.size ≤ gb257)); have n3_ := Aside0.mk ((zq54 : w.heap.size ≤ gb257)); clear HB; have HB := n0_; have BK257 := n1_; have GW257 := n2_; have GE257 := n3_; clear n0_ n1_ n2_ n3_; clear hb hbox hg; obtain ⟨hcz6_0, hcz6_1, hcz6_2, hcz6_3, hcz6_4, hfz6_0, hfz6_1, hfz6_2, hfz6_3, hfz6_4⟩ := cells_5 BK257.out)))
  go_ret3
  exact ⟨zq49, by repeat (first | (with_reducible first | exact HB.out | apply below_alloc | apply pw_below_drewN | apply below_drew1 | refine below_set ?_ GE257.out) | exact HB.out)⟩

/-! ### trefoilref03_Good: function 91 -/
def trefoilref03_Good.f (a0 : Int) : Option (Bool) := if a0 ≥ 1 then (some (decide (a0 ≤ 64))) else (some false)
set_option maxHeartbeats 8000000 in
set_option maxRecDepth 100000 in
theorem trefoilref03_Good.calls (a0 : Int) (r : Bool) (w : World) (h : trefoilref03_Good.f a0 = some r) :
  Calls Try.prog 91 #[.int .i64 a0] w fun e w' => e = .returned (.bool r) ∧ Drawn0 w w' := by
 have H : (if a0 ≥ 1 then (some (decide (a0 ≤ 64))) else (some false)) = some r := h
 clear h
 by_cases c2 : a0 ≥ 1
 ·rw [if_pos c2] at H
  have c2b0 : decide (1 ≤ a0) = true := decide_eq_true c2
  clear c2
  obtain rfl := Option.some.inj H
  go_enter Try.func91, Try.ntmps91
  go_wp2
  go_ret
  exact ⟨zq52, zq50⟩
 ·rw [if_neg c2] at H
  have c2b0 : decide (1 ≤ a0) = false := decide_eq_false c2
  clear c2
  obtain rfl := Option.some.inj H
  go_enter Try.func91, Try.ntmps91
  go_wp2
  go_ret
  exact ⟨zq52, zq50⟩
end Go.Proofs.Ytcmaidpoolcelaa.P
