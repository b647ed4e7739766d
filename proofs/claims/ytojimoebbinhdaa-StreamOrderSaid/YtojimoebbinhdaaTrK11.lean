/- StreamOrder: the law's text, walked. -/
import Derived.BigQuiet
import Derived.Deep.AppendLies
import Derived.Deep.DrawnRows
import Derived.Deep.RegionHeld3
import Derived.Deep.RegionLaw
import Derived.Deep.RegionWith
import Derived.IntWalk
import Derived.Lib.Hide
import Derived.Outline
import Derived.Test.YtojimoebbinhdaaTrPx0
import Derived.WalkSpells
import Derived.Test.YtojimoebbinhdaaTrK0
import Derived.Test.YtojimoebbinhdaaTrK5
import Derived.Test.YtojimoebbinhdaaTrK7
import Derived.Test.YtojimoebbinhdaaTrK8
import Derived.Test.YtojimoebbinhdaaTrK9
import Derived.Test.YtojimoebbinhdaaTrK10
namespace Go.Proofs.Ytojimoebbinhdaa.P
open Go.RowKit Go.Proofs.YtojimoebbinhdaaW.PrintWords Go.Proofs.YtojimoebbinhdaaW.PrintLast Go.Proofs.YtojimoebbinhdaaW.PrintMore
set_option linter.unusedVariables false
set_option linter.unusedSimpArgs false

/-! ### trefoillaw20_StreamOrder: function 8 -/
def trefoillaw20_StreamOrder.f (a0 : Int) (a1 : Int) (l2 : List Int) (a3 : Int) : Option Bool := if (Lit.int .u64 a0).wf = true ∧ (Lit.int .u16 a1).wf = true ∧ (Lit.int .u8 a3).wf = true then some true else none
theorem wf64_inv {x : Int} (h : (Lit.int .u64 x).wf = true) : 0 ≤ x ∧ x < 18446744073709551616 := by
  have a : IntKind.u64.min = 0 := by decide
  have b : IntKind.u64.max = 18446744073709551615 := by decide
  simp [Lit.wf, a, b] at h
  omega
theorem wf16_inv {x : Int} (h : (Lit.int .u16 x).wf = true) : 0 ≤ x ∧ x < 65536 := by
  have a : IntKind.u16.min = 0 := by decide
  have b : IntKind.u16.max = 65535 := by decide
  simp [Lit.wf, a, b] at h
  omega
theorem wf8_inv {x : Int} (h : (Lit.int .u8 x).wf = true) : 0 ≤ x ∧ x < 256 := by
  have a : IntKind.u8.min = 0 := by decide
  have b : IntKind.u8.max = 255 := by decide
  simp [Lit.wf, a, b] at h
  omega
theorem awake_20 : trefoillaw20_awake.f 20 = some true := by kernel_rfl
theorem R_C {w : World} {b n c : Nat} {ok : Nat → Prop} {A : Option Addr} {l : List S32} (h : k32.R 32 w b ok (.slice A n c) l) : k32.C w A l.length l := by
  obtain ⟨A', c', e, -, h2⟩ := Kd.R_reads h
  cases e
  exact h2
theorem part_at {plan : List S32} {l : List Int} (hP : OkPlan plan) (hl : 0 < l.length) (hl2 : l.length ≤ 600) (i : Nat) (hi : i < plan.length) : trefoillaw20_part.f 600 (plan.getD i z32).f0 (plan.getD i z32).f1 (plan.getD i z32).f2 l = some (partOf l (plan.getD i z32)) ∧ ((partOf l (plan.getD i z32)).length : Int) = (plan.getD i z32).f1 ∧ (partOf l (plan.getD i z32)).length ≤ 100000 ∧ (plan.map (partOf l)).getD i [] = partOf l (plan.getD i z32) := by
  obtain ⟨e1, e2, e3⟩ := hP.each i hi
  obtain ⟨s1, s2⟩ := hP.all i (by omega)
  obtain ⟨p1, p2⟩ := part_f l hl hl2 (plan.getD i z32) (by omega) (by omega) (by omega) (by omega)
  refine ⟨p1, p2, by omega, ?_⟩
  rw [List.getD_eq_getElem?_getD, List.getElem?_map, List.getD_eq_getElem?_getD, List.getElem?_eq_getElem hi]
  rfl
theorem plan_all {plan : List S32} (hP : OkPlan plan) : ∀ c ∈ plan, 0 ≤ c.f1 ∧ c.f1 ≤ 512 ∧ 0 ≤ c.f2 ∧ c.f2 ≤ 4096 := fun c hc => by
  obtain ⟨i, hi, e⟩ := List.getElem_of_mem hc
  obtain ⟨e1, e2, e3⟩ := hP.each i hi
  obtain ⟨s1, s2⟩ := hP.all i (by omega)
  have : plan.getD i z32 = c := by rw [List.getD_eq_getElem?_getD, List.getElem?_eq_getElem hi]; exact e
  rw [this] at e1 e2 e3
  exact ⟨by omega, by omega, by omega, by omega⟩
theorem JAt.down {w0 w1 w : World} {g : Nat} {plan : List S32} {each : Int} {PL : List (List Int)} {HL : List Bool} {vp vq vh : Value} (h : JAt w1 w g plan each PL HL vp vq vh) (hs : w0.heap.size ≤ w1.heap.size) : JAt w0 w g plan each PL HL vp vq vh :=
  ⟨h.blk, Nat.le_trans hs h.ge, Kd.R_lower h.plan_ hs, Kd.R_lower h.part hs, Kd.R_lower h.hav hs⟩
theorem ord_start {w w1 w2 w3 : World} {plan : List S32} {vp : Value} {ga gb : Nat} {PLa : List (List Int)} {HLa : List Bool} {PLb : List (List Int)} {HLb : List Bool} {pa qa ha pb qb hb : Value} (hp : k32.R 32 w1 w.heap.size (fun _ => True) vp plan) (h1 : Below w.heap.size w w1) (ja : JAt w1 w2 ga plan 1 PLa HLa pa qa ha) (h2 : Below w1.heap.size w1 w2) (jb : JAt w2 w3 gb plan 1 PLb HLb pb qb hb) (h3 : Below w2.heap.size w2 w3) : OrdAt w w3 plan vp ga gb PLa HLa PLb HLb pa qa ha pb qb hb := by
  have e1 := h1.size
  have e2 := h2.size
  refine ⟨Kd.R_below (Kd.R_below hp h2) h3, (ja.chg h3).down e1, jb.down (Nat.le_trans e1 e2), fun k hk e => ?_, fun k hk e => ?_, below_step (below_step h1 h2) h3⟩
  · have a := Kd.R_lt ja.part k hk
    have b := Kd.R_base jb.part k e
    omega
  · have a := Kd.R_lt ja.hav k hk
    have b := Kd.R_base jb.hav k e
    omega
set_option maxHeartbeats 3200000 in
set_option maxRecDepth 100000 in
theorem trefoillaw20_StreamOrder.calls (a0 a1 : Int) (A2 : Option Addr) (c2 : Nat) (l2 : List Int) (a3 : Int) (r : Bool) (w : World) (hr2 : Kd.C (Kd.int .u64) w A2 l2.length l2) (hc2 : l2.length ≤ c2) (h : trefoillaw20_StreamOrder.f a0 a1 l2 a3 = some r) :
    Calls Try.prog 8 #[.int .u64 a0, .int .u16 a1, .slice A2 l2.length c2, .int .u8 a3] w fun e w' => e = .returned (.bool r) ∧ Below w.heap.size w w' := by
  unfold trefoillaw20_StreamOrder.f at h
  split at h
  case isFalse => cases h
  case isTrue hwf =>
  obtain rfl : true = r := Option.some.inj h
  clear h
  obtain ⟨⟨h00, h01⟩, ⟨h10, h11⟩, ⟨h30, h31⟩⟩ : (0 ≤ a0 ∧ a0 < 18446744073709551616) ∧ (0 ≤ a1 ∧ a1 < 65536) ∧ (0 ≤ a3 ∧ a3 < 256) := ⟨wf64_inv hwf.1, wf16_inv hwf.2.1, wf8_inv hwf.2.2⟩
  obtain ⟨N, rfl⟩ : ∃ N : Nat, a1 = N := ⟨a1.toNat, by omega⟩
  obtain ⟨T, rfl⟩ : ∃ T : Nat, a3 = T := ⟨a3.toNat, by omega⟩
  obtain ⟨m, hm⟩ : ∃ m : Nat, m = N % 2000 := ⟨_, rfl⟩
  have hmI : ((N : Nat) : Int) % 2000 = (m : Int) := by omega
  have hm2 : m < 2000 := by omega
  have HR := Aside0.mk hr2
  have HC := Aside0.mk hc2
  clear hwf hr2 hc2 hm h10 h11
  by_cases hg : l2.length = 0 ∨ 600 < l2.length ∨ 33554432 < a0
  · have hgg : (l2 = [] ∨ (¬ l2 = [] ∧ (600 : Int) < (l2.length : Int))) ∨ (¬ l2 = [] ∧ ¬ (600 : Int) < (l2.length : Int) ∧ 33554432 < a0) := by
      by_cases e : l2 = []
      · exact .inl (.inl e)
      · have : l2.length ≠ 0 := fun h => e (List.length_eq_zero_iff.1 h)
        by_cases e2 : (600 : Int) < (l2.length : Int)
        · exact .inl (.inr ⟨e, e2⟩)
        · exact .inr ⟨e, e2, by omega⟩
    clear hg hmI hm2 h00 h01 h30 h31
    rcases hgg with (rfl | ⟨g1, g2⟩) | ⟨g1, g2, g3⟩
    all_goals
      go_enter Try.func8, Try.ntmps8
      go_wp2_with (first
        | (go_at_call 14; refine (trefoillaw20_awake.calls 20 true _ awake_20).mono ?_; rintro e w1 ⟨rfl, hb1⟩))
      go_ret
      exact ⟨rfl, hb1⟩
  · have g1 : ¬ l2 = [] := fun e => hg (.inl (by rw [e]; rfl))
    have g0 : ((l2.length : Int) == 0) = false := by
      have : l2.length ≠ 0 := fun h => hg (.inl h)
      exact beq_eq_false_iff_ne.mpr (by omega)
    have g2 : ¬ (600 : Int) < (l2.length : Int) := by omega
    have g3 : ¬ 33554432 < a0 := by omega
    have HL0 := Lib.hid (show 0 < l2.length by omega)
    have HL6 := Lib.hid (show l2.length ≤ 600 by omega)
    have hpf := plan_f a0 (m : Int) h00 (by omega) (by omega) (by omega)
    have hpo := plan_ok a0 (m : Int) (by omega) (by omega)
    obtain ⟨plan, hplan⟩ : ∃ plan, plan = planOf a0 (m : Int) := ⟨_, rfl⟩
    rw [← hplan] at hpf hpo
    have hplen : (plan.length : Int) ≤ 6 := by omega
    have HPF := Lib.hid hpf
    have HPO := Lib.hid hpo
    have HINV := Lib.hid (Inv.start plan.length T (plan.map (partOf l2)) (by rw [List.length_map]))
    clear hg h00 h01 hpf hpo hplan
    go_enter Try.func8, Try.ntmps8
    go_wp2_with (go_at_call 11; go_loud (refine (stream_Plan.calls 7 _ _ _ _ _ HPF.out).mono ?_; rintro e w1 ⟨vp, rfl, hp, hb1⟩; obtain ⟨Ap, cp, rfl, hcp, hCp⟩ := Kd.R_reads hp; have HP := Aside0.mk hp; have HB1 := Aside0.mk hb1; have HCp := Aside0.mk hCp; clear hp hb1 hCp))
    go_at_call 27
    refine (new_ok Ap cp plan 1 _ HCp.out HPO.out.1 (by omega) (by omega)).mono ?_
    rintro e w2 ⟨ga, pa, qa, ha, rfl, hj, hb⟩
    have HJ1 := Aside0.mk hj
    have HB2 := Aside0.mk hb
    clear hj hb
    go_wp2_with (go_at_call 27; go_loud (refine (new_ok Ap cp plan 1 _ (Kd.C_below HCp.out HB2.out) HPO.out.1 (by omega) (by omega)).mono ?_; rintro e w3 ⟨gb, pb, qb, hb, rfl, hj, hb0⟩; have HJ2 := Aside0.mk hj; have HB3 := Aside0.mk hb0; clear hj hb0))
    have HO0 := Aside0.mk (ord_start HP.out HB1.out HJ1.out HB2.out HJ2.out HB3.out)
    clear HP HB1 HJ1 HB2 HJ2 HB3 HCp
    go_loopw [16] (fun v16 wr => ∃ i : Nat, i ≤ plan.length ∧ v16 = .int .i64 i ∧ ∃ PLa HLa PLb HLb, Aside0 (OrdAt w wr plan (.slice Ap plan.length cp) ga gb PLa HLa PLb HLb pa qa ha pb qb hb) ∧ Aside0 (Inv plan.length T i (plan.map (partOf l2)) PLa HLa PLb HLb)) (fun v16 _ => plan.length - (intOf v16).toNat)
    case atStart => exact ⟨0, by omega, rfl, _, _, _, _, HO0, ⟨HINV.out⟩⟩
    case round =>
      clear HO0 HINV
      obtain ⟨wo, rfl⟩ : ∃ wo : World, wo = wr := ⟨_, rfl⟩
      obtain ⟨i, hi, rfl, PLa, HLa, PLb, HLb, HO, HV⟩ := hrel
      by_cases hlt : i < plan.length
      · have hltI : (i : Int) < (plan.length : Int) := by omega
        have hi0 : (0 : Int) ≤ (i : Int) := by omega
        obtain ⟨k, hk⟩ : ∃ k, k = (i + T) % plan.length := ⟨_, rfl⟩
        have hkl : k < plan.length := by rw [hk]; exact Nat.mod_lt _ (by omega)
        have hk0 : (0 : Int) ≤ (k : Int) := by omega
        have hkI : (k : Int) < (plan.length : Int) := by omega
        have hsum : IntKind.i64.wrap ((i : Int) + (T : Int)) = (i : Int) + (T : Int) := by rw [IntKind.wrap_i64]; omega
        have hne : ((plan.length : Int) == 0) = false := beq_eq_false_iff_ne.mpr (by omega)
        have hmod : ((i : Int) + (T : Int)) % (plan.length : Int) = (k : Int) := by rw [hk, Int.natCast_emod, Int.natCast_add]
        obtain ⟨p1, p2, p3, p4⟩ := part_at HPO.out.1 HL0.out HL6.out i hlt
        obtain ⟨u1, u2, u3, u4⟩ := part_at HPO.out.1 HL0.out HL6.out k hkl
        have hv1 := HV.out.step hlt
        have hfA := HV.out.freeA hlt
        have hfB := HV.out.freeB hlt
        rw [← hk] at hv1 hfB
        rw [p4, u4] at hv1
        obtain ⟨ad, hAp, q0, q1, q2⟩ := at_T32 (R_C HO.out.pl) (i : Int) hi0 hltI
        have hx' : rd_T32 plan (i : Int) = plan.getD i z32 := by unfold rd_T32; rw [Int.toNat_natCast]
        have hz' : rd_T32 plan (k : Int) = plan.getD k z32 := by unfold rd_T32; rw [Int.toNat_natCast]
        have HZ := Lib.hid hz'
        rw [hx', Int.toNat_natCast] at q0 q1 q2
        cases hAp
        obtain ⟨x, hx⟩ : ∃ x, x = plan.getD i z32 := ⟨_, rfl⟩
        obtain ⟨z, hz⟩ : ∃ z, z = plan.getD k z32 := ⟨_, rfl⟩
        rw [← hx] at p1 p2 p3 hv1 q0 q1 q2
        rw [← hz] at u1 u2 u3 hv1
        rw [hx] at p2
        rw [hz] at u2
        obtain ⟨y, hy⟩ : ∃ y, y = partOf l2 x := ⟨_, rfl⟩
        obtain ⟨v, hv⟩ : ∃ v, v = partOf l2 z := ⟨_, rfl⟩
        rw [← hx, ← hy] at p2
        rw [← hz, ← hv] at u2
        rw [← hy] at p1 p3 hv1
        rw [← hv] at u1 u3 hv1
        rw [hx] at p2
        rw [hz] at u2
        have HV1 := Aside0.mk hv1
        have HP1 := Lib.hid p1
        have HP2 := Lib.hid p2
        have HU1 := Lib.hid u1
        have HU2 := Lib.hid u2
        have HX := Lib.hid hx
        have HZZ := Lib.hid hz
        have HFA := Lib.hid hfA
        have HFB := Lib.hid hfB
        have HLA1 := Lib.hid HV.out.l1
        have HLA2 := Lib.hid HV.out.l2
        have HLB1 := Lib.hid HV.out.l3
        have HLB2 := Lib.hid HV.out.l4
        have HKL := Lib.hid hkl
        have HLT := Lib.hid hlt
        clear p1 p2 p4 u1 u2 u4 hv1 hfA hfB hx hz hy hv hx' hz' hk HV hkl
        go_wp2_with (first
          | (go_at_call 28; with_reducible refine (trefoillaw20_part.calls 600 x.f0 x.f1 x.f2 A2 c2 l2 y _ (Kd.C_below HR.out HO.out.bel) HC.out HP1.out).mono ?_; rintro e w4 ⟨vx, rfl, ho, hb⟩; obtain ⟨Ax, cx, rfl, hcx, hCx⟩ := Kd.R_reads ho; have HO1 := Aside0.mk (HO.out.below hb); have HCX := Aside0.mk hCx; clear ho hb hCx)
          | (go_at_call 25; with_reducible refine (ord_addA HO1.out i Ax cx y HLT.out HLA1.out HLA2.out HFA.out HP2.out p3 HCX.out (by omega)).mono ?_; rintro e w5 ⟨rfl, ho⟩; obtain ⟨adk, ek, r0, r1, r2⟩ := at_T32 (R_C ho.pl) (k : Int) hk0 hkI; rw [HZ.out, ← HZZ.out, Int.toNat_natCast] at r0 r1 r2; cases ek; have HO2 := Aside0.mk ho; clear ho)
          | (go_at_call 28; with_reducible refine (trefoillaw20_part.calls 600 z.f0 z.f1 z.f2 A2 c2 l2 v _ (Kd.C_below HR.out HO2.out.bel) HC.out HU1.out).mono ?_; rintro e w6 ⟨vx2, rfl, ho, hb⟩; obtain ⟨Ay, cy, rfl, hcy, hCy⟩ := Kd.R_reads ho; have HO3 := Aside0.mk (HO2.out.below hb); have HCY := Aside0.mk hCy; clear ho hb hCy)
          | (go_at_call 25; with_reducible refine (ord_addB HO3.out k Ay cy v HKL.out HLB1.out HLB2.out HFB.out HU2.out u3 HCY.out (by omega)).mono ?_; rintro e w7 ⟨rfl, ho⟩; have HO4 := Aside0.mk ho; clear ho))
        go_roundw
        case rel => exact ⟨i + 1, by omega, by go_num, _, _, _, _, HO4, HV1⟩
        case measure => simp [intOf]; omega
      · have he : i = plan.length := by omega
        subst he
        obtain ⟨da, db, dha, dhb⟩ := HV.out.done
        have hfl := flat_sum l2 HL0.out HL6.out plan (plan_all HPO.out.1)
        rw [HPO.out.2.1] at hfl
        have hl1 := HV.out.l0
        obtain ⟨parts, hparts⟩ : ∃ parts, parts = plan.map (partOf l2) := ⟨_, rfl⟩
        have HLH1 := HV.out.l2
        have HLH2 := HV.out.l4
        rw [← hparts] at da db hfl hl1
        rw [da, db] at HO
        obtain ⟨z, hz⟩ : ∃ z, z = parts.flatten := ⟨_, rfl⟩
        have hc1 := all_ok w wo ga plan 1 parts HLa pa qa ha HO.out.a (by omega) dha (by omega) (by omega)
        have hc2 : ∀ w' : World, Below wo.heap.size wo w' → _ := fun w' hW => all_ok w w' gb plan 1 parts HLb pb qb hb (HO.out.below hW).b (by omega) dhb (by omega) (by omega)
        rw [← hz] at hc1 hfl
        simp only [← hz] at hc2
        have HC1 := Lib.hid hc1
        have HC2 := Lib.hid hc2
        have HNS := Lib.hid (numsB_same z (by omega))
        have hzm : ((z.length : Int) == (m : Int)) = true := beq_iff_eq.mpr hfl
        have HBW := Aside0.mk HO.out.bel
        clear hc1 hc2 da db dha dhb hparts hz HO HV hl1 HLH1 HLH2 hfl
        go_wp2_with (first
          | (go_at_call 24; with_reducible refine HC1.out.mono ?_; rintro e w4 ⟨v1, rfl, ho, hb⟩; obtain ⟨Ax, cx, rfl, hcx, hCx⟩ := Kd.R_reads ho; have HX := Aside0.mk hCx; have HXc := Aside0.mk hcx; have HB4 := Aside0.mk hb; clear ho hb hCx hcx)
          | (go_at_call 24; with_reducible refine (HC2.out _ HB4.out).mono ?_; rintro e w5 ⟨v2, rfl, ho, hb⟩; obtain ⟨Ay, cy, rfl, hcy, hCy⟩ := Kd.R_reads ho; have HY := Aside0.mk hCy; have HYc := Aside0.mk hcy; have HB5 := Aside0.mk hb; clear ho hb hCy hcy)
          | (go_at_call 29; with_reducible refine (trefoilref02_Nums.calls (z.length + 1) Ax cx z Ay cy z true _ (Kd.C_below HX.out HB5.out) HXc.out HY.out HYc.out HNS.out).mono ?_; rintro e w6 ⟨rfl, hd⟩; have HD := Aside0.mk hd; clear hd)
          | (go_at_call 14; refine (trefoillaw20_awake.calls 20 true _ awake_20).mono ?_; rintro e w7 ⟨rfl, hb7⟩; have HB7 := Aside0.mk hb7; clear hb7))
        go_ret
        exact ⟨rfl, below_step (below_step (below_step (below_step HBW.out HB4.out) HB5.out) HD.out.below) HB7.out⟩
end Go.Proofs.Ytojimoebbinhdaa.P
