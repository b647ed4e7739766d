/- SampleOf: the law, walked. -/
import Derived.BigQuiet
import Derived.Deep.AppendLies
import Derived.Deep.DrawnRows
import Derived.Deep.RegionHeld3
import Derived.Deep.RegionLaw
import Derived.Deep.RegionWith
import Derived.IntWalk
import Derived.Lib.Hide
import Derived.Outline
import Derived.Test.YtojimoebbinhdaaSoPx0
import Derived.WalkSpells
import Derived.Test.YtojimoebbinhdaaSoK0
import Derived.Test.YtojimoebbinhdaaSoK2
import Derived.Test.YtojimoebbinhdaaSoK3
import Derived.Test.YtojimoebbinhdaaSoK4
namespace Go.Proofs.Ytojimoebbinhdaa.P
open Go.RowKit Go.Proofs.YtojimoebbinhdaaW.PrintWords Go.Proofs.YtojimoebbinhdaaW.PrintLast Go.Proofs.YtojimoebbinhdaaW.PrintMore
set_option linter.unusedVariables false
set_option linter.unusedSimpArgs false

/-! ### trefoillaw29_SampleOf: function 6 -/
noncomputable def trefoillaw29_SampleOf.f (l0 : List S52) (l1 : List Int) : Option Bool := open Classical in if ∀ x ∈ l0, okS x then some true else none
theorem below_join {w0 w w' : World} (h : Below w0.heap.size w0 w) (hb : Below w.heap.size w w') : Below w0.heap.size w0 w' := below_step h hb
abbrev okN (w w2 : World) : Nat → Prop := fun k => k < w.heap.size ∨ w2.heap.size ≤ k
/-- behind Of: the own shares (they may be written into), what was picked, what was wanted -/
structure Late (w wo w2 wE wr : World) (Ao : Option Addr) (l L : List S52) (s want : Value) : Prop where
  st : StX wr w.heap.size wo.heap.size Ao l
  got : k52.R 52 wr wE.heap.size (fun k => wE.heap.size ≤ k) s L
  want_ : Kd.N k52 52 wr w2.heap.size (okN w w2) want L
  bel : Below w.heap.size w wr
  le1 : wo.heap.size ≤ w2.heap.size
  le2 : w2.heap.size ≤ wE.heap.size
  le3 : wo.heap.size ≤ wr.heap.size
theorem Late.below {w wo w2 wE wr wr' : World} {Ao : Option Addr} {l L : List S52} {s want : Value} (h : Late w wo w2 wE wr Ao l L s want) (hb : Below wr.heap.size wr wr') : Late w wo w2 wE wr' Ao l L s want :=
  ⟨h.st.below hb h.le3, Kd.R_below h.got hb, Kd.N_below h.want_ hb, below_step h.bel hb, h.le1, h.le2, Nat.le_trans h.le3 hb.size⟩
theorem Late.set {w wo w2 wE wr : World} {Ao : Option Addr} {l L : List S52} {s want : Value} (h : Late w wo w2 wE wr Ao l L s want) {g : Nat} {ds : Array Value} (hg : wr.heap[g]? = some (.cells ds 22 (0, 0))) (h0 : w.heap.size ≤ g) (h1 : g < wo.heap.size) (j : Nat) (y : Int) : Late w wo w2 wE (wr.setCell ⟨g, j, none⟩ (.int .u64 y)) Ao l L s want := by
  have l1 := h.le1
  have l2 := h.le2
  refine ⟨h.st.set hg j y, Kd.R_step h.got (fun k hk _ => Below.heap_setCell _ _ _ _ (by show k ≠ g; omega)), Kd.N_far h.want_ (fun k hk => ?_) _, below_set h.bel h0, h.le1, h.le2, by simpa using h.le3⟩
  show k ≠ g
  rcases hk with hk | hk <;> omega
set_option maxHeartbeats 8000000 in
set_option maxRecDepth 100000 in
theorem trefoillaw29_SampleOf.calls (A0 : Option Addr) (c0 : Nat) (l0 : List S52) (A1 : Option Addr) (c1 : Nat) (l1 : List Int) (r : Bool) (w : World) (hr0 : k52.C w A0 l0.length l0) (hc0 : l0.length ≤ c0) (hr1 : (Kd.int .i64).C w A1 l1.length l1) (hc1 : l1.length ≤ c1) (h : trefoillaw29_SampleOf.f l0 l1 = some r) :
    Calls Try.prog 6 #[.slice A0 l0.length c0, .slice A1 l1.length c1] w fun e w' => e = .returned (.bool r) ∧ Below w.heap.size w w' := by
  unfold trefoillaw29_SampleOf.f at h
  split at h
  case isFalse => cases h
  case isTrue hok =>
  obtain rfl : true = r := Option.some.inj h
  clear h
  have hm0 := Kd.C_max hr0
  have hm1 := Kd.C_max hr1
  have HR0 := Aside0.mk hr0
  have HR1 := Aside0.mk hr1
  have HOK := Lib.hid hok
  clear hr0 hr1 hok
  by_cases hbig : l0.length > 40 ∨ l1.length > 60
  · by_cases h40 : (40 : Int) < (l0.length : Int)
    · clear hbig
      go_enter Try.func6, Try.ntmps6
      go_wp2_with (go_at_call 15; refine (trefoillaw29_awake.calls 20 true _ awake29).mono ?_; rintro e w1 ⟨rfl, hb⟩)
      go_ret
      exact ⟨rfl, hb⟩
    · have h60 : (60 : Int) < (l1.length : Int) := by omega
      clear hbig
      go_enter Try.func6, Try.ntmps6
      go_wp2_with (go_at_call 15; refine (trefoillaw29_awake.calls 20 true _ awake29).mono ?_; rintro e w1 ⟨rfl, hb⟩)
      go_ret
      exact ⟨rfl, hb⟩
  have h40 : ¬ (40 : Int) < (l0.length : Int) := by omega
  have h60 : ¬ (60 : Int) < (l1.length : Int) := by omega
  have hl40 : l0.length ≤ 40 := by omega
  have hl60 : l1.length ≤ 60 := by omega
  clear hbig
  go_enter Try.func6, Try.ntmps6
  go_wp2
  go_loopw [5, 7] (fun v5 v7 wr => ∃ i : Nat, i ≤ l0.length ∧ v7 = .int .i64 i ∧ Aside0 (k52.R 52 wr w.heap.size (fun _ => True) v5 (l0.take i)) ∧ Aside0 (Below w.heap.size w wr)) (fun _ v7 _ => l0.length - (intOf v7).toNat)
  case atStart => exact ⟨0, by omega, rfl, ⟨Kd.R_nil _ _ _ _ _⟩, ⟨Below.refl _ _⟩⟩
  case round =>
    obtain ⟨wo, rfl⟩ : ∃ wo : World, wo = wr := ⟨_, rfl⟩
    obtain ⟨i, hi, rfl, HR, HB⟩ := hrel
    by_cases hlt : i < l0.length
    · have hltI : (i : Int) < (l0.length : Int) := by omega
      have hi0 : (0 : Int) ≤ (i : Int) := by omega
      obtain ⟨ad, B0, b0, B1, b1, B2, b2, rfl, q0, q1, q2, -, g0, -, g1, -, g2⟩ := at_T52 (Kd.C_below HR0.out HB.out) (i : Int) hi0 hltI
      rw [Int.toNat_natCast] at q0 q1 q2
      obtain ⟨y, hy⟩ : ∃ y, y = rd_T52 l0 (i : Int) := ⟨_, rfl⟩
      have hok : okS y := by
        rw [hy]
        apply HOK.out
        unfold rd_T52
        rw [Int.toNat_natCast, List.getD_eq_getElem?_getD, List.getElem?_eq_getElem hlt]
        exact List.getElem_mem _
      have hsn : l0.take (i + 1) = l0.take i ++ [y] := by
        rw [hy]
        unfold rd_T52
        rw [List.take_add_one, Int.toNat_natCast, List.getD_eq_getElem?_getD, List.getElem?_eq_getElem hlt]
        rfl
      rw [← hy] at q0 q1 q2 g0 g1 g2
      have HSN := Lib.hid hsn
      have G0 := Aside0.mk g0
      have G1 := Aside0.mk g1
      have G2 := Aside0.mk g2
      obtain ⟨k0, k1, k2⟩ := hok
      have K0 := Lib.hid k0
      have K1 := Lib.hid k1
      have K2 := Lib.hid k2
      clear hy hsn g0 g1 g2 k0 k1 k2
      obtain ⟨P0, hP0⟩ : ∃ P0, P0 = l0.take i := ⟨_, rfl⟩
      have hPl : (P0.length + 1) * 72 ≤ 140737488355328 := by rw [hP0, List.length_take]; omega
      rw [← hP0] at HR
      have HP := Lib.hid hP0
      obtain ⟨A3, c3, rfl, -, -⟩ := Kd.R_reads HR.out
      clear hP0
      go_wp2_with (first
        | (go_at_call 21; refine (copy_ok B0 B1 B2 b0 b1 b2 y _ G0.out G1.out G2.out K0.out K1.out K2.out).mono ?_; rintro e w2 ⟨v0, v1, v2, rfl, r0, r1, r2, hb⟩; obtain ⟨V0, m0, rfl, -, -⟩ := Kd.R_reads r0; obtain ⟨V1, m1, rfl, -, -⟩ := Kd.R_reads r1; obtain ⟨V2, m2, rfl, -, -⟩ := Kd.R_reads r2; have HB2 := Aside0.mk hb; have HPM := Aside0.mk (elem_made (w0 := w) HB.out r0 r1 r2); have HR2 := Aside0.mk (Kd.R_below HR.out hb); have HNO := Lib.hid (fresh_no HR.out); have hsz := Nat.le_trans HB.out.size hb.size; clear r0 r1 r2 hb)
        | ((with_reducible refine gate_builtin (b := .append) (xs := #[.tmp 29, .tmp 35]) rfl ?_); at_builtin; go_loud (refine Kd.R_append k52 (w0 := w2) w.heap.size rfl (.tmp 29) (.tmp 35) 49 52 z52V 72 rfl Try.underlying49 info52 rfl (by decide) (by omega) (.slice A3 P0.length c3) P0 y [.slice V0 y.f0.length m0, .slice V1 y.f1.length m1, .slice V2 y.f2.length m2] (fun _ => True) (fun k => wo.heap.size ≤ k) rfl rfl HPM.out HNO.out (fun _ _ => trivial) HR2.out (Below.refl _ _) hsz hPl ?_); intro v135 w13 ho hb3 hg hat; have HR3 := Aside0.mk ho; have HB3 := Aside0.mk (below_step HB.out HB2.out); have HB4 := Aside0.mk hb3; clear ho hb3 hg hat))
      go_roundw
      case rel => exact ⟨i + 1, by omega, by go_num, ⟨by rw [HSN.out, ← HP.out]; exact HR3.out⟩, ⟨below_two HB3.out HB4.out⟩⟩
      case measure => simp [intOf]; omega
    · have hR := HR.out
      rw [List.take_of_length_le (by omega)] at hR
      obtain ⟨Ao, co, rfl, hco, hCo⟩ := Kd.R_reads hR
      have HRO := Aside0.mk hR
      have HCO := Aside0.mk hCo
      have HCL := Aside0.mk (Kd.C_below HR0.out HB.out)
      have HSH := Aside0.mk (shares_same l0 (by omega) HOK.out)
      clear HR hR hCo
      go_wp2_with (go_at_call 22; refine (trefoilref22_Shares.calls fuelS Ao co l0 A0 c0 l0 true _ HCO.out hco HCL.out hc0 HSH.out).mono ?_; rintro e w2 ⟨rfl, hb⟩; have HRO2 := Aside0.mk (Kd.R_below HRO.out hb); have HB2 := Aside0.mk (below_step HB.out hb); have hb0 := hb; clear hb)
      have hle2 : wo.heap.size ≤ w2.heap.size := hb0.size
      have HST := Aside0.mk (StX.of_R HRO.out)
      have HB0 := Aside0.mk hb0
      have HCO2 := Aside0.mk (Kd.C_below HCO.out hb0)
      clear hb0 HCO HCL HSH HRO
      go_loopw [6, 8, 9] (fun v6 v8 v9 wr => ∃ (i : Nat) (b : Bool) (L : List S52), i ≤ l1.length ∧ v8 = .bool b ∧ v9 = .int .i64 i ∧ L.length ≤ i ∧ Aside0 (Kd.N k52 52 wr w2.heap.size (okN w w2) v6 L) ∧ Aside0 (b = true → L = picks l0 (l1.take i) ∧ ∀ y ∈ l1.take i, inR l0.length y) ∧ Aside0 (b = false → ¬ ∀ y ∈ l1, inR l0.length y) ∧ Aside0 (Below w2.heap.size w2 wr)) (fun _ _ v9 _ => l1.length - (intOf v9).toNat)
      case atStart => exact ⟨0, true, [], by omega, rfl, rfl, by simp, ⟨Kd.N_nil _ _ _ _ _⟩, ⟨fun _ => ⟨rfl, fun y hy => by simp at hy⟩⟩, ⟨fun h => by cases h⟩, ⟨Below.refl _ _⟩⟩
      case round =>
        obtain ⟨wp, rfl⟩ : ∃ wp : World, wp = wr := ⟨_, rfl⟩
        obtain ⟨i, b, L, hi, rfl, rfl, hLi, HN, HT, HF, HBP⟩ := hrel
        have HBW := Aside0.mk (below_step HB2.out HBP.out)
        by_cases hlt2 : (i : Int) < (l1.length : Int)
        · cases b
          · have hno := HF.out rfl
            have HNOT := Lib.hid hno
            have HO := Lib.hid (of_ok Ao A1 co c1 l0 l1 wp (Kd.C_below HCO2.out HBP.out) (Kd.C_below HR1.out HBW.out) HOK.out (by omega))
            clear hno
            go_wp2_with (first
              | (go_at_call 23; refine HO.out.mono ?_; rintro e w3 ⟨hb, h⟩; obtain ⟨-, rfl⟩ := h.resolve_left (fun h => HNOT.out h.1); have HB3 := Aside0.mk (below_step HBW.out hb); clear hb h)
              | (go_at_call 15; refine (trefoillaw29_awake.calls 20 true _ awake29).mono ?_; rintro e w4 ⟨rfl, hb⟩; have HB4 := Aside0.mk (below_step HB3.out hb); clear hb))
            go_ret
            exact ⟨rfl, HB4.out⟩
          · obtain ⟨hLp, hall⟩ := HT.out rfl
            have hi0 : (0 : Int) ≤ (i : Int) := by omega
            have hltN : i < l1.length := by omega
            obtain ⟨ax, rfl, hxc⟩ := Kd.at_int HR1.out (i : Int) hi0 hlt2
            rw [Int.toNat_natCast] at hxc
            replace hxc := pw_cell_below HBW.out hxc
            obtain ⟨x, hx⟩ : ∃ x, x = rd l1 (i : Int) := ⟨_, rfl⟩
            have hmem : x ∈ l1 := by
              rw [hx]
              unfold rd
              rw [Int.toNat_natCast, List.getD_eq_getElem?_getD, List.getElem?_eq_getElem hltN]
              exact List.getElem_mem _
            have hsnoc := picks_snoc l0 l1 i hltN
            have htake : ∀ y, y ∈ l1.take (i + 1) → y ∈ l1.take i ∨ y = x := fun y hy => by
              rw [List.take_add_one, List.mem_append, List.getElem?_eq_getElem hltN] at hy
              rcases hy with hy | hy
              · exact .inl hy
              · rw [hx]
                unfold rd
                rw [Int.toNat_natCast, List.getD_eq_getElem?_getD, List.getElem?_eq_getElem hltN]
                exact .inr (by simpa using hy)
            rw [← hx] at hxc hsnoc
            rw [← hLp] at hsnoc
            have HSN := Lib.hid hsnoc
            have HMEM := Lib.hid hmem
            have HTK := Lib.hid htake
            have HALL := Lib.hid hall
            clear hx hsnoc hmem htake hall hLp
            by_cases hin : 0 ≤ x ∧ x < (l0.length : Int)
            · obtain ⟨hx0, hxl⟩ := hin
              have HFW := Kd.F_below (foot52 HR0.out) HBW.out
              obtain ⟨ad, c, rfl, hcl, hFK, hcc, -⟩ := Kd.F_get HFW z52 x hx0 hxl
              obtain ⟨B0, b0, B1, b1, B2, b2, rfl, -, -, -, -, -, -⟩ := k52_open (Kd.FK_now hFK)
              have q0 : wp.cell? (ad.add (x.toNat * 3)) = some _ := hcc 0 _ rfl
              have q1 := hcc 1 _ rfl
              have q2 := hcc 2 _ rfl
              rw [show k52.sz = 3 from rfl, add_field _ _ 1 (by omega)] at q1
              rw [show k52.sz = 3 from rfl, add_field _ _ 2 (by omega)] at q2
              obtain ⟨y, hy⟩ : ∃ y, y = rd_T52 l0 x := ⟨_, rfl⟩
              have hye : l0.getD x.toNat z52 = y := hy.symm
              rw [hye] at q0 q1 q2 hFK
              rw [← hy] at HSN
              have HFK := Aside0.mk hFK
              obtain ⟨Aw, cw, rfl, -, -⟩ := Kd.N_reads HN.out
              have hw02 := HB2.out.size
              have hw2p := HBP.out.size
              have hNB : ∀ k, k < w.heap.size → okN w w2 k ∧ some k ≠ (Value.slice Aw L.length cw).ownBlock := fun k hk => ⟨.inl hk, fun e => by have := Kd.N_base HN.out k e.symm; omega⟩
              have hFR : ∀ k, wp.heap.size ≤ k → okN w w2 k := fun k hk => .inr (by omega)
              have HNB := Lib.hid hNB
              have HFR := Lib.hid hFR
              have hLl : (L.length + 1) * 72 ≤ 140737488355328 := by omega
              clear hy hye hFK hcc hcl HFW hNB hFR
              go_wp2_with ((with_reducible refine gate_builtin (b := .append) (xs := #[.tmp 65, .tmp 73]) rfl ?_); at_builtin; go_loud (refine Kd.N_append k52 (w0 := wp) w2.heap.size rfl (.tmp 65) (.tmp 73) 49 52 z52V 72 rfl Try.underlying49 info52 rfl (by decide) (by omega) (.slice Aw L.length cw) L y [.slice B0 y.f0.length b0, .slice B1 y.f1.length b1, .slice B2 y.f2.length b2] (okN w w2) (fun k => k < w.heap.size) rfl rfl HFK.out HNB.out HFR.out HN.out (Below.refl _ _) hw2p hLl ?_); intro v135 w13 ho hb3 hg hat; have HN3 := Aside0.mk ho; have HB4 := Aside0.mk hb3; clear ho hb3 hg hat)
              go_roundw
              case rel => exact ⟨i + 1, true, L ++ [y], by omega, rfl, by go_num, by simp; omega, HN3, ⟨fun _ => ⟨HSN.out.symm, fun z hz => by rcases HTK.out z hz with h | h; exact HALL.out z h; rw [h]; exact ⟨hx0, hxl⟩⟩⟩, ⟨fun h => by cases h⟩, ⟨below_two HBP.out HB4.out⟩⟩
              case measure => simp [intOf]; omega
            · have HNI := Lib.hid hin
              clear hin
              by_cases hxneg : (0 : Int) ≤ x
              · have hxge : ¬ x < (l0.length : Int) := by have := HNI.out; omega
                go_wp2
                go_roundw
                case rel => exact ⟨i + 1, false, L, by omega, rfl, by go_num, by omega, HN, ⟨fun h => by cases h⟩, ⟨fun _ hall => HNI.out (hall x HMEM.out)⟩, HBP⟩
                case measure => simp [intOf]; omega
              · go_wp2
                go_roundw
                case rel => exact ⟨i + 1, false, L, by omega, rfl, by go_num, by omega, HN, ⟨fun h => by cases h⟩, ⟨fun _ hall => HNI.out (hall x HMEM.out)⟩, HBP⟩
                case measure => simp [intOf]; omega
        · cases b
          · have hno := HF.out rfl
            have HNOT := Lib.hid hno
            have HO := Lib.hid (of_ok Ao A1 co c1 l0 l1 wp (Kd.C_below HCO2.out HBP.out) (Kd.C_below HR1.out HBW.out) HOK.out (by omega))
            clear hno
            go_wp2_with (first
              | (go_at_call 23; refine HO.out.mono ?_; rintro e w3 ⟨hb, h⟩; obtain ⟨-, rfl⟩ := h.resolve_left (fun h => HNOT.out h.1); have HB3 := Aside0.mk (below_step HBW.out hb); clear hb h)
              | (go_at_call 15; refine (trefoillaw29_awake.calls 20 true _ awake29).mono ?_; rintro e w4 ⟨rfl, hb⟩; have HB4 := Aside0.mk (below_step HB3.out hb); clear hb))
            go_ret
            exact ⟨rfl, HB4.out⟩
          · obtain ⟨hLp, hall⟩ := HT.out rfl
            rw [List.take_of_length_le (by omega)] at hLp hall
            subst hLp
            have HALL := Lib.hid hall
            have HO := Lib.hid (of_ok Ao A1 co c1 l0 l1 wp (Kd.C_below HCO2.out HBP.out) (Kd.C_below HR1.out HBW.out) HOK.out (by omega))
            have hst := (HST.out.below HB0.out (Nat.le_refl _)).below HBP.out hle2
            have HS2 := Aside0.mk hst
            have hpl : (picks l0 l1).length ≤ 1000 := by unfold picks; rw [List.length_map]; omega
            have hpok : ∀ z ∈ picks l0 l1, okS z := fun z hz => by
              unfold picks at hz
              obtain ⟨q, hq, rfl⟩ := List.mem_map.1 hz
              have hin := hall q hq
              unfold inR at hin
              apply HOK.out
              rw [List.getD_eq_getElem?_getD, List.getElem?_eq_getElem (by omega)]
              exact List.getElem_mem _
            obtain ⟨L, hL⟩ : ∃ L, L = picks l0 l1 := ⟨_, rfl⟩
            rw [← hL] at HN hpl hpok
            have HSH := Aside0.mk (shares_same L (by omega) hpok)
            have HLL := Lib.hid hL
            clear hall hst hpok hL HT HF
            go_wp2_with (go_at_call 23; refine HO.out.mono ?_; rintro e w3 ⟨hb, h⟩; obtain ⟨-, v, rfl, hr⟩ := h.resolve_right (fun h => h.1 HALL.out); rw [← HLL.out] at hr; have HLT := Aside0.mk (Late.mk (HS2.out.below hb (Nat.le_trans hle2 HBP.out.size)) (Kd.R_mono (Kd.R_bound hr) (fun k hk => hk.2.1)) (Kd.N_below HN.out hb) (below_step HBW.out hb) hle2 HBP.out.size (Nat.le_trans (Nat.le_trans hle2 HBP.out.size) hb.size)); clear hb h hr)
            go_loopw [12] (fun v12 wr => ∃ j : Nat, j ≤ l0.length ∧ v12 = .int .i64 j ∧ Aside0 (Late w wo w2 wp wr Ao l0 L v u6)) (fun v12 _ => l0.length - (intOf v12).toNat)
            case atStart => exact ⟨0, by omega, rfl, HLT⟩
            case round =>
              obtain ⟨wq, rfl⟩ : ∃ wq : World, wq = wr := ⟨_, rfl⟩
              clear HLT
              obtain ⟨j, hj, rfl, HLT⟩ := hrel
              by_cases hjl : j < l0.length
              · have hjI : (j : Int) < (l0.length : Int) := by omega
                have hj0 : (0 : Int) ≤ (j : Int) := by omega
                obtain ⟨ad, cs, vv, rfl, -, -, -, -, -⟩ := HLT.out.st j hjl
                obtain ⟨nn, hnn⟩ : ∃ nn, nn = (l0.getD j z52).f0.length := ⟨_, rfl⟩
                have hn47 : nn ≤ 17592186044416 := by
                  have hok : okS (l0.getD j z52) := by
                    apply HOK.out
                    rw [List.getD_eq_getElem?_getD, List.getElem?_eq_getElem hjl]
                    exact List.getElem_mem _
                  have := hok.1
                  omega
                have HNN := Lib.hid hnn
                clear hnn
                go_wp2
                go_loopw [13] (fun v13 wr => ∃ k : Nat, k ≤ nn ∧ v13 = .int .i64 k ∧ Aside0 (Late w wo w2 wp wr (some ad) l0 L v u6)) (fun v13 _ => nn - (intOf v13).toNat)
                case atStart => exact ⟨0, by omega, rfl, HLT⟩
                case round =>
                  obtain ⟨wz, rfl⟩ : ∃ wz : World, wz = wr := ⟨_, rfl⟩
                  obtain ⟨k, hk, rfl, HL2⟩ := hrel
                  obtain ⟨ad', cs', vv', e', h1, h2, h3, q0, hrw⟩ := HL2.out.st j hjl
                  injection e' with e'
                  subst e'
                  obtain ⟨ai, ca, rfl, hrow⟩ := hrw
                  rw [← HNN.out] at q0 hrow
                  by_cases hkn : k < nn
                  · obtain ⟨g, cs2, rfl, b1, b2, b3, b4⟩ := hrow.resolve_left (by omega)
                    obtain ⟨x, hx⟩ := b4 k hkn
                    have hkI : (k : Int) < (nn : Int) := by omega
                    have hk0 : (0 : Int) ≤ (k : Int) := by omega
                    have hcell : wz.cell? ⟨g, k, none⟩ = some (.int .u64 x) := (blk_cell b3 k).trans hx
                    have hfroz := blk_frozen b3 k
                    have HB3' := Aside0.mk b3
                    have B1 := Lib.hid b1
                    have B2 := Lib.hid b2
                    clear b1 b2 b3 b4 hx h1 h2 h3 hrow
                    go_wp2
                    go_region
                    go_wp2
                    go_roundw
                    case rel => exact ⟨k + 1, by omega, by go_num, ⟨(HL2.out.set HB3'.out B1.out B2.out k _).below (below_drew (Below.refl _ _))⟩⟩
                    case measure => simp [intOf]; omega
                  · go_wp2
                    go_roundw
                    case rel => exact ⟨j + 1, by omega, by go_num, HL2⟩
                    case measure => simp [intOf]; omega
              · have hgot := HLT.out.got
                obtain ⟨As, cas, rfl, hcs, hCs⟩ := Kd.R_reads hgot
                obtain ⟨Aw, cw, rfl, hcw, hCw⟩ := Kd.N_reads HLT.out.want_
                have HCs := Aside0.mk hCs
                have HCw := Aside0.mk hCw
                have HBE := Aside0.mk HLT.out.bel
                clear HLT hgot hCs hCw
                go_wp2_with (first
                  | (go_at_call 22; refine (trefoilref22_Shares.calls fuelS As cas L Aw cw L true _ HCs.out hcs HCw.out hcw HSH.out).mono ?_; rintro e w5 ⟨rfl, hb⟩; have HB5 := Aside0.mk (below_step HBE.out hb); clear hb)
                  | (go_at_call 15; refine (trefoillaw29_awake.calls 20 true _ awake29).mono ?_; rintro e w6 ⟨rfl, hb⟩; have HB6 := Aside0.mk (below_step HB5.out hb); clear hb))
                go_ret
                exact ⟨rfl, HB6.out⟩
end Go.Proofs.Ytojimoebbinhdaa.P
