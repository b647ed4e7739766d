/- The document's network (package trefoilref12): what arrives. -/
import Derived.Test.YtedhckojeephaaaNpPx0
import Derived.Test.YtedhckojeephaaaNpK0
import Derived.Test.YtedhckojeephaaaNpK2
import Derived.Test.YtedhckojeephaaaNpK4
import Derived.Test.YtedhckojeephaaaNpK5
import Derived.Test.YtedhckojeephaaaNpK9
import Derived.Test.YtedhckojeephaaaNpK10
import Derived.Test.YtedhckojeephaaaNpK11
import Derived.Test.YtedhckojeephaaaNpK12
namespace Go.Proofs.Ytedhckojeephaaa.P
open Go.RowKit Go.Proofs.YtedhckojeephaaaW.PrintWords Go.Proofs.YtedhckojeephaaaW.PrintLast Go.Proofs.YtedhckojeephaaaW.PrintMore
set_option linter.unusedVariables false
set_option linter.unusedSimpArgs false
attribute [local go_sem ↓] Go.wp_at_zero Go.wp_at_succ

/-! ### ref_net_take: function 47 -/
abbrev withSE (s : ByteArray) (err : Int) : Value → Value := fun v => .tuple #[v, .string s, .int .i64 err]
set_option maxHeartbeats 1600000 in
set_option maxRecDepth 100000 in
theorem r_take_ok (A0 A1 : Option Addr) (c0 c1 : Nat) (F : Bool → List ByteArray) (t : Int) (b : Bool) (ht : t = toOf b) (i : Nat) (hi : i < (F b).length) (w : World) (hR : RefIs w A0 A1 c0 c1 F) (hs : (F b).length * 16 ≤ 140737488355328) :
    Calls Try.prog 47 #[.agg #[.slice A0 (F false).length c0, .slice A1 (F true).length c1], .int .i64 t, .int .i64 (i : Int)] w (RefAns w (.slice A0 (F false).length c0) (.slice A1 (F true).length c1) b F ((F b).eraseIdx i) (withSE (sx (F b) i) 0)) := by
  obtain ⟨i0, hi0, hz0, hz1, hz2⟩ := info_parts info9
  have HW := Lib.hid (wrong_in A0 A1 c0 c1 F t i b ht ⟨by omega, by omega⟩)
  have k0 := Aside0.mk (blk_alloc (heap_alloc_new w (.cells #[.slice A0 (F false).length c0, .slice A1 (F true).length c1] 77)) (.cells #[.slice none 0 0, .slice none 0 0] 77))
  have k1 := Aside0.mk (blk_snd w (.cells #[.slice A0 (F false).length c0, .slice A1 (F true).length c1] 77) (.slice none 0 0) (.slice none 0 0))
  have b0 := Aside0.mk (below_alloc (below_alloc (Below.refl w.heap.size w) (.cells #[.slice A0 (F false).length c0, .slice A1 (F true).length c1] 77)) (.cells #[.slice none 0 0, .slice none 0 0] 77))
  obtain ⟨A, c, hp, hlc, hr⟩ := hR.pick b
  obtain ⟨ad, rfl, hcell⟩ := str_cell hr i hi
  have HP := Lib.hid hp
  have HT := Lib.hid ht
  have HC := Lib.hid hcell
  have HS := Aside0.mk hs
  have hcut1 := cut_to (P := Try.prog) 27 9 .i64 Try.underlying27 hi0 (some ad) (F b).length c (i : Int) (by omega) (by omega) hlc
  have hcut2 := cut_from (P := Try.prog) 27 9 .i64 Try.underlying27 hi0 1 hz1 (some ad) (F b).length c ((i : Int) + 1) (by omega) (by omega)
  rw [show ((i : Int) + 1).toNat = i + 1 by omega] at hcut2
  rw [Int.toNat_natCast] at hcut1
  have hCD := Kd.C_drop hr (show i + 1 ≤ (F b).length by omega) hlc
  have hCT := Kd.C_take hr (show i ≤ (F b).length by omega)
  rw [show (List.take i (F b)).length = i by simp; omega] at hCT
  rw [show (List.drop (i + 1) (F b)).length = (F b).length - (i + 1) by simp] at hCD
  obtain ⟨A2, hA2⟩ : ∃ A2, A2 = if c = i + 1 then some ad else (some ad).map (·.add ((i + 1) * 1)) := ⟨_, rfl⟩
  rw [← hA2] at hcut2
  replace hCD : Kd.C Kd.string w A2 ((F b).length - (i + 1)) (List.drop (i + 1) (F b)) := by rw [hA2]; exact hCD
  have HCD := Aside0.mk hCD
  have HCT := Aside0.mk hCT
  have hj0 : (0 : Int) ≤ (i : Int) := by omega
  have hj1 : (i : Int) < ((F b).length : Int) := by omega
  have hmx := Kd.C_max hr
  have hw : IntKind.i64.wrap ((i : Int) + 1) = (i : Int) + 1 := IntWalk.i64_in _ ⟨by omega, by omega⟩
  have HHW := Lib.hid hw
  clear hR hp ht hr hcell hs hA2 hCD hCT hlc hmx hw
  go_enter Try.func47, Try.ntmps47
  go_wp2_with (first
    | (go_at_call 56; refine (HW.out _).mono ?_; rintro e w1 ⟨rfl, hb⟩; have k2 := blk_below k0.out hb; have k3 := blk_below k1.out hb; have K2 := Aside0.mk k2; have K3 := Aside0.mk k3; have HB1 := Aside0.mk (below_step b0.out hb); obtain ⟨q0, q1, qf0, qf1⟩ := cells_2 k2; obtain ⟨r0, r1, rf0, rf1⟩ := cells_2 k3; clear hb k2 k3)
    | (go_at_call 55; refine (r_to A0 A1 _ _ c0 c1 t b HT.out _).mono ?_; rintro e w2 ⟨rfl, hb⟩; rw [HP.out]; have k2 := blk_below K2.out hb; have k3 := blk_below K3.out hb; have K4 := Aside0.mk k2; have K5 := Aside0.mk k3; have HB2 := Aside0.mk (below_step HB1.out hb); obtain ⟨q0, q1, -⟩ := cells_2 k2; clear hb k2 k3)
    | (at_builtin; refine Kd.R_append_rows Kd.string (Rr := Kd.string.K w) (w0 := w) w.heap.size rfl (.tmp 24) (.tmp 27) 27 9 (.string ⟨#[]⟩) 16 rfl Try.underlying27 info9 rfl (by decide) (by omega) (.slice (some ⟨w2.heap.size, 0, none⟩) 0 0) [] ((F b).take i) (some ad) i c (fun _ => True) (fun _ => False) rfl rfl ?aO ?aR ?aK (fun _ hk => hk.elim) (fun _ _ => trivial) ?aB ?aS ?aL ?_; (case aO => exact R_empty_at (blk_at rfl) (by have := HB2.out.size; omega)); (case aR => exact Kd.C_below HCT.out (below_alloc HB2.out _)); (case aK => exact fun _ _ h => h); (case aB => exact below_alloc HB2.out _); (case aS => exact (below_alloc HB2.out (.cells #[] 9)).size); (case aL => have := HS.out; simp; omega); intro v3 w3 ho hb hg hat; rw [List.nil_append] at ho; have HO := Aside0.mk ho; have HB3 := Aside0.mk hb; have k2 := blk_grown (blk_alloc K4.out (.cells #[] 9)) hg (by have := blk_lt K4.out; simp [Value.ownBlock]; omega); have k3 := blk_grown (blk_alloc K5.out (.cells #[] 9)) hg (by have := blk_lt K5.out; simp [Value.ownBlock]; omega); have K6 := Aside0.mk k2; have K7 := Aside0.mk k3; obtain ⟨s0, s1, -⟩ := cells_2 k2; have hx3 := pw_cell_below hb HC.out; clear ho hb hg k2 k3 hat))
  have hw := HHW.out
  go_region_held3 (fun w' => w'.cell? ⟨w.heap.size, 0, none⟩ = some (.slice A0 (F false).length c0) ∧ w'.cell? ⟨w.heap.size, 1, none⟩ = some (.slice A1 (F true).length c1) ∧ w'.cell? (ad.add i) = some (.string (sx (F b) i))) (go_keep)
    ((first
      | (refine Kd.R_append_rows_step Kd.string (Rr := Kd.string.K w) (w0 := w) w.heap.size (by rfl) (.tmp 31) (.tmp 35) 27 9 (.string ⟨#[]⟩) 16 (by rfl) Try.underlying27 info9 rfl (by decide) (by omega) v3 ((F b).take i) ((F b).drop (i + 1)) A2 ((F b).length - (i + 1)) (c - (i + 1)) (fun _ => True) (fun _ => False) (by rfl) (by rfl) ?aO ?aR ?aK (fun _ hk => hk.elim) (fun _ _ => trivial) ?aB ?aS ?aL ?_; (case aO => exact Kd.R_drew HO.out); (case aR => exact Kd.C_below HCD.out (below_drew HB3.out)); (case aK => exact fun _ _ h => h); (case aB => exact below_drew HB3.out); (case aS => exact (below_drew HB3.out).size); (case aL => have := HS.out; simp; omega); intro v4 w4 ho hb hg hat; rw [← List.eraseIdx_eq_take_drop_succ] at ho; have HO4 := Aside0.mk ho; have HB4 := Aside0.mk hb; have k2 := blk_grown (blk_drew K6.out) hg (Kd.R_ne (Kd.R_drew HO.out) (blk_drew K6.out) (by decide)); have k3 := blk_grown (blk_drew K7.out) hg (Kd.R_ne (Kd.R_drew HO.out) (blk_drew K7.out) (by decide)); have K8 := Aside0.mk k2; have K9 := Aside0.mk k3; obtain ⟨u0, u1, -⟩ := cells_2 k2; have hx4 := pw_cell_below hb HC.out; obtain ⟨A4, c4, hv4, -, -⟩ := Kd.R_reads ho; have HV4 := Lib.hid hv4; subst hv4; clear ho hb hg k2 k3 hat)
      | (go_at_call 52; (with_reducible refine (r_with A0 A1 A4 _ _ ((F b).eraseIdx i).length c0 c1 c4 t b HT.out _).mono ?_); rintro e w5 ⟨rfl, hb⟩; obtain ⟨B0, m0, e0, B1, m1, e1, hpq⟩ := putS_pair b A0 A1 A4 (F false).length (F true).length ((F b).eraseIdx i).length c0 c1 c4; rw [hpq]; have HPQ := Lib.hid hpq; have k2 := blk_below K8.out hb; have k3 := blk_below K9.out hb; have K10 := Aside0.mk k3; have HB5 := Aside0.mk (below_step HB4.out hb); have HO5 := Aside0.mk (Kd.R_below HO4.out hb); obtain ⟨x0, x1, -⟩ := cells_2 k2; obtain ⟨y0, y1, yf0, yf1⟩ := cells_2 k3; have hx5 := pw_cell_below HB5.out HC.out; have hx6 := pw_cell_below (below_set (below_set HB5.out (g := w.heap.size + 1) (j := 0) (v := .slice B0 m0 e0) (by omega)) (g := w.heap.size + 1) (j := 1) (v := .slice B1 m1 e1) (by omega)) HC.out; clear hb k2 k3 hpq)))
  all_goals
    (try go_wp2)
    refine bodyPost_ret (results_ctt rfl _ _ (w.heap.size + 1) 77 _ (0, 0) _ rfl (by simpa using blk_set (blk_set K10.out 0 (.slice B0 m0 e0)) 1 (.slice B1 m1 e1)) Try.underlying77 rfl (by kernel_rfl)) rfl ?_
    exact ⟨_, by rw [HPQ.out]; rfl, below_set (below_set HB5.out (by omega)) (by omega), .inr (new_sets HO5.out K10.out)⟩
end Go.Proofs.Ytedhckojeephaaa.P
