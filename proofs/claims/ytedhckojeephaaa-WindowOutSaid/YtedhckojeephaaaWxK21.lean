/- WindowOut: the law, walked. -/
import Derived.BigQuiet
import Derived.Deep.AppendLies
import Derived.Deep.DrawnRows
import Derived.Deep.RegionHeld3
import Derived.Deep.RegionLaw
import Derived.Deep.RegionWith
import Derived.IntWalk
import Derived.Lib.Hide
import Derived.Outline
import Derived.Test.YtedhckojeephaaaWxPx0
import Derived.WalkSpells
import Derived.Test.YtedhckojeephaaaWxK14
import Derived.Test.YtedhckojeephaaaWxK17
import Derived.Test.YtedhckojeephaaaWxK20
namespace Go.Proofs.Ytedhckojeephaaa.P
open Go.RowKit Go.Maps Go.Proofs.YtedhckojeephaaaW.PrintWords Go.Proofs.YtedhckojeephaaaW.PrintLast Go.Proofs.YtedhckojeephaaaW.PrintMore
set_option linter.unusedVariables false
set_option linter.unusedSimpArgs false
attribute [local go_sem ↓] Go.wp_at_zero Go.wp_at_succ

/-! ### trefoillaw13_WindowOut: function 3 -/
def trefoillaw13_WindowOut.f (a0 : Int) (l1 : List S31) : Option Bool := if (Lit.int .u32 a0).wf = true ∧ (∀ x ∈ l1, (Lit.int .u32 x.f1).wf = true) then some true else none
/-- the law's state ahead of a round: at most i bodies -/
def HeadOut (w wr : World) (g1 g2 rb i : Nat) : Prop := ∃ (rc : Nat) (RL : List ByteArray) (vo vr : Value), OutTwo w wr g1 g2 ((rb : Int) + rc) (RL.drop rc) vo rb rc RL vr ∧ RL.length ≤ i ∧ rc ≤ RL.length ∧ RL.length ≤ rc + 16 ∧ rb + RL.length ≤ 4294967294
theorem wf32_inv {x : Int} (h : (Lit.int .u32 x).wf = true) : 0 ≤ x ∧ x < 4294967296 := by
  have a : IntKind.u32.min = 0 := by decide
  have b : IntKind.u32.max = 4294967295 := by decide
  simp [Lit.wf, a, b] at h
  omega
theorem wfrom_ok (base : Int) (w : World) : Calls Try.prog 11 #[.int .u32 base] w fun e w' => e = .returned (.pointer (some ⟨w.heap.size, 0, none⟩)) ∧ w' = w.alloc (.cells #[.int .u32 base, .slice none 0 0] 52) := by
  go_enter Try.func11, Try.ntmps11
  go_wp2
  go_ret
  exact ⟨rfl, rfl⟩
set_option maxHeartbeats 8000000 in
set_option maxRecDepth 100000 in
theorem trefoillaw13_WindowOut.calls (a0 : Int) (A1 : Option Addr) (c1 : Nat) (l1 : List S31) (r : Bool) (w : World) (hr1 : Kd.C k31 w A1 l1.length l1) (hc1 : l1.length ≤ c1) (h : trefoillaw13_WindowOut.f a0 l1 = some r) :
    Calls Try.prog 3 #[.int .u32 a0, .slice A1 l1.length c1] w fun e w' => e = .returned (.bool r) ∧ Below w.heap.size w w' := by
  unfold trefoillaw13_WindowOut.f at h
  split at h
  case isFalse => cases h
  case isTrue hwf =>
  obtain ⟨hw0, hwp⟩ := hwf
  obtain rfl : true = r := Option.some.inj h
  clear h
  have hm1 := Kd.C_max hr1
  have HR1 := Aside0.mk hr1
  have HWP := Lib.hid hwp
  obtain ⟨ha0, ha1⟩ := wf32_inv hw0
  clear hr1 hwp hw0
  by_cases hlen : a0 ≤ 4294967294
  case neg =>
    have hlI : (4294967294 : Int) < a0 := by omega
    go_enter Try.func3, Try.ntmps3
    go_wp2_with (go_at_call 10; refine (awake13.calls _).mono ?_; rintro e w1 ⟨rfl, hb⟩)
    go_ret
    exact ⟨rfl, hb⟩
  case pos =>
  obtain ⟨rb, rfl⟩ : ∃ rb : Nat, a0 = rb := ⟨a0.toNat, by omega⟩
  have hrb : rb ≤ 4294967294 := by omega
  have hlI : ¬ (4294967294 : Int) < (rb : Int) := by omega
  clear hlen ha0 ha1
  go_enter Try.func3, Try.ntmps3
  go_wp2_with (go_at_call 11; refine (wfrom_ok _ _).mono ?_; rintro e w1 ⟨rfl, rfl⟩)
  have HS : Aside0 (HeadOut w ((w.alloc (.cells #[.int .u32 rb, .slice none 0 0] 52)).alloc (.cells #[.int .i64 rb, .slice none 0 0, .int .i64 0] 29)) w.heap.size (w.heap.size + 1) rb 0) := by
    have hb := below_alloc (below_alloc (Below.refl w.heap.size w) (.cells #[.int .u32 rb, .slice none 0 0] 52)) (.cells #[.int .i64 rb, .slice none 0 0, .int .i64 0] 29)
    have h1 := blk_alloc (heap_alloc_new w (.cells #[.int .u32 rb, .slice none 0 0] 52)) (.cells #[.int .i64 rb, .slice none 0 0, .int .i64 0] 29)
    have h2 := heap_alloc_new (w.alloc (.cells #[.int .u32 rb, .slice none 0 0] 52)) (.cells #[.int .i64 rb, .slice none 0 0, .int .i64 0] 29)
    rw [show (w.alloc (.cells #[.int .u32 rb, .slice none 0 0] 52)).heap.size = w.heap.size + 1 by simp] at h2
    refine ⟨0, [], .slice none 0 0, .slice none 0 0, ⟨⟨?_, Nat.le_refl _, Kd.R_nil _ _ _ _ _⟩, h2, by omega, Kd.R_nil _ _ _ _ _, fun k hk => by simp [Value.ownBlock] at hk, hb⟩, by simp, by simp, by simp, by simpa using hrb⟩
    simpa using h1
  obtain ⟨g1, hg1⟩ : ∃ g1, g1 = w.heap.size := ⟨_, rfl⟩
  obtain ⟨g2, hg2⟩ : ∃ g2, g2 = w.heap.size + 1 := ⟨_, rfl⟩
  rw [← hg2, ← hg1] at HS
  rw [← hg2, ← hg1]
  clear hg1 hg2
  go_loopw [7] (fun s7 wr => ∃ (i : Nat), i ≤ l1.length ∧ i ≤ 60 ∧ s7 = .int .i64 i ∧ Aside0 (HeadOut w wr g1 g2 rb i)) (fun s7 _ => l1.length - (intOf s7).toNat)
  case atStart => exact ⟨0, by omega, by omega, rfl, HS⟩
  case round =>
    clear HS
    obtain ⟨wo, rfl⟩ : ∃ wo : World, wo = wr := ⟨_, rfl⟩
    obtain ⟨i, hi, hi60, rfl, HT⟩ := hrel
    by_cases hgo : i < l1.length ∧ i < 60
    · have hltI : (i : Int) < (l1.length : Int) := by omega
      have h60 : (i : Int) < 60 := by omega
      have hi0 : (0 : Int) ≤ (i : Int) := by omega
      obtain ⟨rc, RL, vo, vr, hT, hRL, hrc, hr16, hrl⟩ := HT.out
      obtain ⟨ad, rfl, p0, p1, p2⟩ := at_T31 HR1.out (i : Int) hi0 hltI
      rw [Int.toNat_natCast] at p0 p1 p2
      obtain ⟨x, hx⟩ : ∃ x, x = rd_T31 l1 (i : Int) := ⟨_, rfl⟩
      have hxw : 0 ≤ x.f1 ∧ x.f1 < 4294967296 := by
        have hm : x ∈ l1 := by
          rw [hx]
          unfold rd_T31
          rw [Int.toNat_natCast, List.getD_eq_getElem?_getD, List.getElem?_eq_getElem (by omega)]
          exact List.getElem_mem _
        exact wf32_inv (HWP.out _ hm)
      rw [← hx] at p0 p1 p2
      have q0 := pw_cell_below hT.bel p0
      have q1 := pw_cell_below hT.bel p1
      have q2 := pw_cell_below hT.bel p2
      have P0 := Lib.hid p0
      have P1 := Lib.hid p1
      have P2 := Lib.hid p2
      clear p0 p1 p2
      have HTT := Aside0.mk hT
      clear hx hT HT hgo
      go_upto_if 39 with fail
      go_cut [] (fun wc => HeadOut w wc g1 g2 rb (i + 1))
      case first =>
        by_cases hk0 : x.f0 = 0
        · have e0 : (x.f0 == 0) = true := by rw [beq_iff_eq]; exact hk0
          have HPUT := Lib.hid (two_put_any HTT.out x.f2 (by omega) hrc hr16 hrl)
          clear hk0
          go_upto_region 9 with (go_at_call 12; refine HPUT.out.mono ?_; rintro e w1 ⟨RL', n, c, vo', rfl, ht, hf, hn32, hl1, hl2, hl3, hl4⟩; have HT2 := Aside0.mk ht; have HF := Lib.hid hf; clear ht hf)
          have r2 := pw_cell_below HT2.out.bel P2.out
          obtain ⟨d0, d1, d2, -⟩ := cells_3 HT2.out.ref
          obtain ⟨Ar, cr, rfl, -, -⟩ := HT2.out.row.form
          clear q0 q1 q2
          go_cut [10, 11, 12] (fun v10 v11 v12 wc => ∃ (gb : Nat) (v1 : Value), v10 = .pointer (some ⟨gb, 0, none⟩) ∧ v11 = .int .i64 n ∧ v12 = .int .i64 c ∧ Aside0 (wc.heap[gb]? = some (.cells #[.int .i64 rb, v1, .int .i64 rc] 29 (0, 0))) ∧ Aside0 (OutVal w wc g1 g2 ((rb : Int) + rc) (RL'.drop rc) vo' RL' v1) ∧ gb ≠ g2)
          case first =>
            have hba := below_alloc (Below.refl w1.heap.size w1) (.cells #[.int .i64 0, .slice none 0 0, .int .i64 0] 29)
            have r2a := pw_cell_below hba r2
            have d0a := pw_cell_below hba d0
            have d1a := pw_cell_below hba d1
            have d2a := pw_cell_below hba d2
            clear hba
            have HRP := Lib.hid (fun (W : World) (hb : Below w1.heap.size w1 W) => two_rput (HT2.out.below hb) x.f2 _ _ _ _ _ HF.out)
            go_region_with (go_at_call 13; go_loud (refine (HRP.out _ ?_).mono ?_); go_loud (first | exact below_drew (Below.refl _ _) | exact below_drew (below_alloc (Below.refl _ _) _)); go_loud (rintro e w2 ⟨v1, rfl, ht2, hall⟩); obtain ⟨A1, k1, rfl, -, -⟩ := ht2.row.form; have HT3 := Aside0.mk ht2; (try (have hz : w2.heap[w1.heap.size]? = some (.cells #[.int .i64 0, .slice none 0 0, .int .i64 0] 29 (0, 0)) := hall _ _ (heap_alloc_new w1 _); obtain ⟨z0, z1, z2, y0, y1, y2⟩ := cells_3 hz; have HZ := Lib.hid hz; clear hz)); clear ht2 hall)
            all_goals go_wp2_with fail
            all_goals go_meet
            all_goals first
              | exact ⟨_, _, rfl, rfl, rfl, ⟨heap_alloc_new w2 _⟩, ⟨HT3.out.below (below_alloc (Below.refl _ _) _)⟩, by have h := HT3.out.ref; obtain ⟨a', b', c', hq⟩ := h; have := blk_lt hq; omega⟩
              | exact ⟨_, _, rfl, rfl, rfl, ⟨(HT3.out.three HZ.out HT2.out.bel.size (by have := blk_lt HT2.out.ref; omega) _ _ _).1⟩, ⟨(HT3.out.three HZ.out HT2.out.bel.size (by have := blk_lt HT2.out.ref; omega) _ _ _).2⟩, by have := blk_lt HT2.out.ref; omega⟩
          case rest =>
            obtain ⟨gb, v1, rfl, rfl, rfl, HGB, HV, hgb⟩ := hcut
            obtain ⟨k0, k1, k2, -⟩ := cells_3 HGB.out
            obtain ⟨a', b', c', hq⟩ := HV.out.ref
            obtain ⟨m0, m1, m2, f0, f1, f2⟩ := cells_3 hq
            obtain ⟨A3, c3, rfl, -, -⟩ := HV.out.row.form
            have hnI : (n : Int) < 4294967296 := by omega
            clear d0 d1 d2 r2 hq
            go_wp2
            go_meet
            case rel => exact ⟨rc, RL', vo', _, HV.out.two rb rc, by omega, hl2, hl3, hl4⟩
        · have e0 : (x.f0 == 0) = false := by rw [beq_eq_false_iff_ne]; exact hk0
          obtain ⟨m, hm⟩ : ∃ m : Nat, x.f1 = (m : Int) := ⟨x.f1.toNat, by omega⟩
          have p1 := P1.out
          rw [hm] at p1
          have P1 := Lib.hid p1
          clear p1
          have HMI := Aside0.mk (show m ≤ 4294967295 by omega)
          rw [hm] at q1
          have HACK := Lib.hid (two_ack_any HTT.out (m : Int) (by omega) hrc hr16 hrl)
          clear hk0 hxw hm
          go_upto_region 14 with (go_at_call 14; refine HACK.out.mono ?_; rintro e w1 ⟨rc', c, vo', rfl, ht, hf, hl1, hl2⟩; have HT2 := Aside0.mk ht; have HF := Lib.hid hf; clear ht hf)
          have r1 := pw_cell_below HT2.out.bel P1.out
          obtain ⟨d0, d1, d2, -⟩ := cells_3 HT2.out.ref
          obtain ⟨Ar, cr, rfl, -, -⟩ := HT2.out.row.form
          clear q0 q1 q2
          go_cut [14, 15] (fun v14 v15 wc => ∃ (gb : Nat) (v1 : Value), v14 = .pointer (some ⟨gb, 0, none⟩) ∧ v15 = .int .i64 c ∧ Aside0 (wc.heap[gb]? = some (.cells #[.int .i64 rb, v1, .int .i64 rc'] 29 (0, 0))) ∧ Aside0 (OutVal w wc g1 g2 ((rb : Int) + rc') (RL.drop rc') vo' RL v1) ∧ gb ≠ g2)
          case first =>
            have hW : IntKind.i64.wrap (m : Int) = (m : Int) := by have := HMI.out; rw [IntKind.wrap_i64]; omega
            have hba := below_alloc (Below.refl w1.heap.size w1) (.cells #[.int .i64 0, .slice none 0 0, .int .i64 0] 29)
            have r1a := pw_cell_below hba r1
            have d0a := pw_cell_below hba d0
            have d1a := pw_cell_below hba d1
            have d2a := pw_cell_below hba d2
            clear hba
            have hrp := fun (W : World) (hb : Below w1.heap.size w1 W) => two_rack (HT2.out.below hb) (IntKind.i64.wrap (m : Int)) _ _ _ _ (hW.symm ▸ HF.out)
            have HRP := Lib.hid hrp
            clear hrp hW
            go_region_with (go_at_call 15; go_loud (refine (HRP.out _ ?_).mono ?_); go_loud (first | exact below_drew (Below.refl _ _) | exact below_drew (below_alloc (Below.refl _ _) _)); go_loud (rintro e w2 ⟨v1, rfl, ht2, hall⟩); obtain ⟨A1, k1, rfl, -, -⟩ := ht2.row.form; have HT3 := Aside0.mk ht2; (try (have hz : w2.heap[w1.heap.size]? = some (.cells #[.int .i64 0, .slice none 0 0, .int .i64 0] 29 (0, 0)) := hall _ _ (heap_alloc_new w1 _); obtain ⟨z0, z1, z2, y0, y1, y2⟩ := cells_3 hz; have HZ := Lib.hid hz; clear hz)); clear ht2 hall)
            all_goals go_wp2_with fail
            all_goals go_meet
            all_goals first
              | exact ⟨_, _, rfl, rfl, ⟨heap_alloc_new w2 _⟩, ⟨HT3.out.below (below_alloc (Below.refl _ _) _)⟩, by have h := HT3.out.ref; obtain ⟨a', b', c', hq⟩ := h; have := blk_lt hq; omega⟩
              | exact ⟨_, _, rfl, rfl, ⟨(HT3.out.three HZ.out HT2.out.bel.size (by have := blk_lt HT2.out.ref; omega) _ _ _).1⟩, ⟨(HT3.out.three HZ.out HT2.out.bel.size (by have := blk_lt HT2.out.ref; omega) _ _ _).2⟩, by have := blk_lt HT2.out.ref; omega⟩
          case rest =>
            obtain ⟨gb, v1, rfl, rfl, HGB, HV, hgb⟩ := hcut
            obtain ⟨k0, k1, k2, -⟩ := cells_3 HGB.out
            obtain ⟨a', b', c', hq⟩ := HV.out.ref
            obtain ⟨m0, m1, m2, f0, f1, f2⟩ := cells_3 hq
            obtain ⟨A3, c3, rfl, -, -⟩ := HV.out.row.form
            clear d0 d1 d2 r1 hq
            go_wp2
            go_meet
            case rel => exact ⟨rc', RL, vo', _, HV.out.two rb rc', by omega, hl2, by omega, hrl⟩
      case rest =>
        obtain ⟨wd, rfl⟩ : ∃ wd : World, wd = wc := ⟨_, rfl⟩
        obtain ⟨rc2, RL2, vo2, vr2, hT, hL, hc2, h16, hlast⟩ := hcut
        obtain ⟨Ar, cr, rfl, -, -⟩ := hT.row.form
        obtain ⟨P, hP⟩ : ∃ P, P = pendL ((rb : Int) + rc2) (RL2.drop rc2) := ⟨_, rfl⟩
        obtain ⟨Q, hQ⟩ : ∃ Q, Q = P.map to96 := ⟨_, rfl⟩
        obtain ⟨nx, hnx⟩ : ∃ nx, nx = rb + RL2.length + 1 := ⟨_, rfl⟩
        have hPl : P.length ≤ 100 := by rw [hP, pendL_len, List.length_drop]; omega
        have hQl : Q.length ≤ 100 := by rw [hQ, List.length_map]; exact hPl
        have hRl : RL2.length ≤ 100 := by omega
        have hwx : IntKind.i64.wrap (nx : Int) = (nx : Int) := by rw [IntKind.wrap_i64]; omega
        have hwq : IntKind.i64.wrap (16 - (Q.length : Int)) = 16 - (Q.length : Int) := by rw [IntKind.wrap_i64]; omega
        have HQ := Lib.hid hQ
        have HQ2 := Lib.hid (show Q = (pendL ((rb : Int) + rc2) (RL2.drop rc2)).map to96 by rw [hQ, hP])
        have HP := Lib.hid hP
        have HNX := Lib.hid hnx
        have HT2 := Aside0.mk (hT.below (below_drew (Below.refl _ _)))
        obtain ⟨d0, d1, d2, -⟩ := cells_3 hT.ref
        clear hQ hP hnx hT q0 q1 q2 HTT
        go_wp2_with fail
        go_region_held3 (fun w' => w'.cell? ⟨g2, 0, none⟩ = some (.int .i64 rb) ∧ w'.cell? ⟨g2, 1, none⟩ = some (.slice Ar RL2.length cr) ∧ w'.cell? ⟨g2, 2, none⟩ = some (.int .i64 rc2)) (refine ⟨?_, ?_, ?_⟩ <;> first | assumption | go_keep)
          (first
          | (go_at_call 18; refine (two_pend HT2.out hc2 h16 hlast P HP.out).mono ?_; rintro e w3 ⟨A3, k3, rfl, hk3, hC3, hb3⟩; have HT3 := Aside0.mk (HT2.out.below hb3); obtain ⟨a0, a1, a2, -⟩ := cells_3 HT3.out.ref)
          | (go_at_call 17; refine (two_told hC3 hk3 hPl Q HQ.out).mono ?_; rintro e w4 ⟨A4, k4, rfl, hk4, hC4, hb4⟩; have HT4 := Aside0.mk (HT3.out.below hb4); obtain ⟨b0, b1, b2, -⟩ := cells_3 HT4.out.ref)
          | (go_at_call 16; refine (two_same (Kd.C_below hC4 hb5) hk4 hC5 hk5 hQl).mono ?_; rintro e w6 ⟨rfl, ⟨m6, rfl⟩⟩)
          | (go_at_call 20; refine (two_next (HT5.out.below (pw_below_drewN (Below.refl _ _) m6)) hc2 hlast nx HNX.out).mono ?_; rintro e w7 ⟨rfl, rfl⟩)
          | (go_at_call 21; refine (two_rnext (HT5.out.below (below_drew (pw_below_drewN (Below.refl _ _) m6))) hlast nx HNX.out).mono ?_; rintro e w8 ⟨rfl, hb8⟩; have HT8 := Aside0.mk ((HT5.out.below (below_drew (pw_below_drewN (Below.refl _ _) m6))).below hb8); obtain ⟨e0', e1', e2', -⟩ := cells_3 HT8.out.ref)
          | (go_at_call 22; refine (two_room HT8.out h16 Q HQ2.out).mono ?_; rintro e w9 ⟨rfl, rfl⟩)
          | (go_at_call 19; refine (two_rpend HT8.out hc2 hRl hlast Q HQ2.out).mono ?_; rintro e wA ⟨AA, kA, rfl, hkA, hCA, hbA⟩; have HTA := Aside0.mk (HT8.out.below hbA); obtain ⟨f0', f1', f2', -⟩ := cells_3 HTA.out.ref)
          | (go_at_call 19; refine (two_rpend HT4.out hc2 hRl hlast Q HQ2.out).mono ?_; rintro e w5 ⟨A5, k5, rfl, hk5, hC5, hb5⟩; have HT5 := Aside0.mk (HT4.out.below hb5); obtain ⟨c0', c1', c2', -⟩ := cells_3 HT5.out.ref))
        go_wp2
        go_roundw
        case rel => exact ⟨i + 1, by omega, by omega, by go_num, ⟨⟨rc2, RL2, vo2, _, HTA.out, hL, hc2, h16, hlast⟩⟩⟩
        case measure => simp [intOf]; omega
    · have hBel : Aside0 (Below w.heap.size w wo) := by obtain ⟨rc, RL, vo, vr, hT, -⟩ := HT.out; exact ⟨hT.bel⟩
      have HX := Lib.hid hgo
      clear HT hgo
      by_cases hlt : (i : Int) < (l1.length : Int)
      · have h60 : ¬ (i : Int) < 60 := by have := HX.out; omega
        go_wp2_with (go_at_call 10; refine (awake13.calls _).mono ?_; rintro e w1 ⟨rfl, hb⟩; have hB2 := Aside0.mk (below_step hBel.out hb); clear hb)
        go_ret
        exact ⟨rfl, hB2.out⟩
      · go_wp2_with (go_at_call 10; refine (awake13.calls _).mono ?_; rintro e w1 ⟨rfl, hb⟩; have hB2 := Aside0.mk (below_step hBel.out hb); clear hb)
        go_ret
        exact ⟨rfl, hB2.out⟩
end Go.Proofs.Ytedhckojeephaaa.P
