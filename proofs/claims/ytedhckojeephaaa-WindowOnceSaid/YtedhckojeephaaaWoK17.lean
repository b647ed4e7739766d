/- WindowOnce: the law, walked. -/
import Derived.BigQuiet
import Derived.Deep.AppendLies
import Derived.Deep.DrawnRows
import Derived.Deep.RegionHeld3
import Derived.Deep.RegionLaw
import Derived.IntWalk
import Derived.Lib.Hide
import Derived.Outline
import Derived.Test.YtedhckojeephaaaWoPx0
import Derived.WalkSpells
import Derived.Test.YtedhckojeephaaaWoK0
import Derived.Test.YtedhckojeephaaaWoK3
import Derived.Test.YtedhckojeephaaaWoK4
import Derived.Test.YtedhckojeephaaaWoK8
import Derived.Test.YtedhckojeephaaaWoK11
import Derived.Test.YtedhckojeephaaaWoK13
import Derived.Test.YtedhckojeephaaaWoK14
import Derived.Test.YtedhckojeephaaaWoK16
namespace Go.Proofs.Ytedhckojeephaaa.P
open Go.RowKit Go.Maps Go.Proofs.YtedhckojeephaaaW.PrintWords Go.Proofs.YtedhckojeephaaaW.PrintLast Go.Proofs.YtedhckojeephaaaW.PrintMore
set_option linter.unusedVariables false
set_option linter.unusedSimpArgs false
attribute [local go_sem ↓] Go.wp_at_zero Go.wp_at_succ

/-! ### window_same: words -/
theorem texts_l0 (l : List ByteArray) (hl : l.length ≤ 9223372036854775807) : ∀ (k : Nat) (x : Nat), x ≤ l.length → l.length - x < k → trefoilref01_Texts.l0 k l l x = some true
  | 0, x, _, h => by omega
  | k + 1, x, hx, h => by
    unfold trefoilref01_Texts.l0
    by_cases hlt : x < l.length
    · rw [if_pos (by omega), if_pos (by omega), if_pos (by omega), if_pos rfl]
      rw [show wrap64 ((x : Int) + 1) = ((x + 1 : Nat) : Int) by unfold wrap64; omega]
      exact texts_l0 l hl k (x + 1) (by omega) (by omega)
    · rw [if_neg (by omega)]
theorem texts_same (l : List ByteArray) (hl : l.length ≤ 9223372036854775807) : trefoilref01_Texts.f (l.length + 1) l l = some true := by
  unfold trefoilref01_Texts.f
  rw [if_pos rfl]
  exact texts_l0 l hl (l.length + 1) 0 (by omega) (by omega)
/-! ### trefoillaw13_WindowOnce: function 4 -/
def trefoillaw13_WindowOnce.f (l0 : List ByteArray) (l1 : List Int) (l2 : List Bool) : Option Bool := if (∀ s ∈ l0, s.size ≤ maxLen) ∧ (∀ x ∈ l1, (Lit.int .u8 x).wf = true) then some true else none
set_option maxHeartbeats 8000000 in
set_option maxRecDepth 100000 in
theorem trefoillaw13_WindowOnce.calls (A0 : Option Addr) (c0 : Nat) (l0 : List ByteArray) (A1 : Option Addr) (c1 : Nat) (l1 : List Int) (A2 : Option Addr) (c2 : Nat) (l2 : List Bool) (r : Bool) (w : World) (hr0 : Kd.C Kd.string w A0 l0.length l0) (hc0 : l0.length ≤ c0) (hr1 : Kd.C (Kd.int .u8) w A1 l1.length l1) (hc1 : l1.length ≤ c1) (hr2 : Kd.C Kd.bool w A2 l2.length l2) (hc2 : l2.length ≤ c2) (h : trefoillaw13_WindowOnce.f l0 l1 l2 = some r) :
    Calls Try.prog 4 #[.slice A0 l0.length c0, .slice A1 l1.length c1, .slice A2 l2.length c2] w fun e w' => e = .returned (.bool r) ∧ Below w.heap.size w w' := by
  unfold trefoillaw13_WindowOnce.f at h
  split at h
  case isFalse => cases h
  case isTrue hwf =>
  obtain ⟨hws, hwp⟩ := hwf
  obtain rfl : true = r := Option.some.inj h
  clear h
  have hm1 := Kd.C_max hr1
  have hm2 := Kd.C_max hr2
  have HR0 := Aside0.mk hr0
  have HR1 := Aside0.mk hr1
  have HR2 := Aside0.mk hr2
  have HWS := Lib.hid hws
  have HWP := Lib.hid hwp
  clear hr0 hr1 hr2 hws hwp
  by_cases hlen : l0.length ≤ 60
  case neg =>
    have hlI : (60 : Int) < (l0.length : Int) := by omega
    go_enter Try.func4, Try.ntmps4
    go_wp2_with (go_at_call 10; refine (awake13.calls _).mono ?_; rintro e w1 ⟨rfl, hb⟩)
    go_ret
    exact ⟨rfl, hb⟩
  case pos =>
  have hlI : ¬ (60 : Int) < (l0.length : Int) := by omega
  go_enter Try.func4, Try.ntmps4
  go_wp2
  have HS : Aside0 (OnceAt w ((w.alloc (.cells #[.int .u32 0, .slice none 0 0] 52)).alloc (.cells #[.int .u32 0, .map none] 55)) w.heap.size (w.heap.size + 1) (.slice none 0 0) l0 0 0 0 0 0 (.slice none 0 0) (.map none) (fun _ => none)) := by
    have hb := below_alloc (below_alloc (Below.refl w.heap.size w) (.cells #[.int .u32 0, .slice none 0 0] 52)) (.cells #[.int .u32 0, .map none] 55)
    have h1 := blk_alloc (heap_alloc_new w (.cells #[.int .u32 0, .slice none 0 0] 52)) (.cells #[.int .u32 0, .map none] 55)
    have h2 := heap_alloc_new (w.alloc (.cells #[.int .u32 0, .slice none 0 0] 52)) (.cells #[.int .u32 0, .map none] 55)
    rw [show (w.alloc (.cells #[.int .u32 0, .slice none 0 0] 52)).heap.size = w.heap.size + 1 by simp] at h2
    exact ⟨⟨h1, Nat.le_refl _, Kd.R_nil _ _ _ _ _⟩, ⟨h2, by omega, .inl ⟨rfl, rfl⟩⟩, Kd.R_nil _ _ _ _ _, fun k hk => by simp [Value.ownBlock] at hk, hb, by omega, by omega, by omega, by omega, fun k t hk => by cases hk⟩
  obtain ⟨g1, hg1⟩ : ∃ g1, g1 = w.heap.size := ⟨_, rfl⟩
  obtain ⟨g2, hg2⟩ : ∃ g2, g2 = w.heap.size + 1 := ⟨_, rfl⟩
  rw [← hg2, ← hg1] at HS
  rw [← hg2, ← hg1]
  clear hg1 hg2
  go_loopw [9, 10, 11] (fun s9 s10 s11 wr => ∃ (i n bo bx q : Nat) (vo mv : Value) (M : Int → Option ByteArray), i ≤ l1.length ∧ i ≤ 150 ∧ q ≤ i ∧ s10 = .int .i64 n ∧ s11 = .int .i64 i ∧ Aside0 (OnceAt w wr g1 g2 s9 l0 q bo bx n bx vo mv M)) (fun _ _ s11 _ => l1.length - (intOf s11).toNat)
  case atStart => exact ⟨0, 0, 0, 0, 0, _, _, _, by omega, by omega, by omega, rfl, rfl, HS⟩
  case round =>
    clear HS
    obtain ⟨wo, rfl⟩ : ∃ wo : World, wo = wr := ⟨_, rfl⟩
    obtain ⟨i, n, bo, bx, q, vo, mv, M, hi, hi150, hq, rfl, rfl, HT⟩ := hrel
    have hT := HT.out
    have l1' := hT.le1
    have l2' := hT.le2
    have l3' := hT.le3
    have l4' := hT.le4
    have hBel := Aside0.mk hT.bel
    obtain ⟨c20, c21, -, -⟩ := cells_2 hT.inn.blk
    obtain ⟨G, hG⟩ : ∃ G, G = l0.take bx := ⟨_, rfl⟩
    have hGl : G.length = bx := by rw [hG, List.length_take]; omega
    by_cases hgo : i < l1.length ∧ i < 150
    · obtain ⟨Ag, cg, rfl, hcg, -⟩ := hT.got.form
      rw [← hG] at HT hcg ⊢
      have hpl := hT.pend
      obtain ⟨P, hP⟩ : ∃ P, P = (l0.take n).drop bo := ⟨_, rfl⟩
      rw [← hP] at hpl
      have HP := Lib.hid hP
      have hltI : (i : Int) < (l1.length : Int) := by omega
      have h150 : (i : Int) < 150 := by omega
      have HG := Lib.hid hG
      have HGL := Lib.hid hGl
      have HPL := Lib.hid hpl
      clear hT hG hP c20 c21 hgo hBel hGl hpl
      go_upto_region 10 with fail
      go_cut [39] (fun v39 wc => ∃ b : Bool, v39 = .bool b ∧ Aside0 (b = true ↔ n < l0.length ∧ n < bo + 16) ∧ Aside0 (OnceAt w wc g1 g2 (.slice Ag G.length cg) l0 q bo bx n bx vo mv M))
      case first =>
        have hO := HT.out.out
        rw [← HP.out] at hO
        have HO := Aside0.mk hO
        by_cases hn : (n : Int) < (l0.length : Int)
        · have hP16 : P.length ≤ 16 := by have := HPL.out; omega
          go_wp2_with (go_at_call 22; refine (wroom_ok w _ g1 bo vo P HO.out hP16).mono ?_; rintro e w1 ⟨rfl, rfl⟩)
          go_meet
          case rel => exact ⟨decide ((P.length : Int) < 16), rfl, ⟨by have := HPL.out; simp; omega⟩, HT⟩
        · go_wp2
          go_meet
          case rel => exact ⟨false, rfl, ⟨by have := HPL.out; simp; omega⟩, HT⟩
      case rest =>
        obtain ⟨b, rfl, Hb, HT2⟩ := hcut
        clear HT
        go_upto_if 39 with fail
        go_cut [10] (fun v10 wd => ∃ (n' : Nat) (vo' : Value), v10 = .int .i64 n' ∧ Aside0 (OnceAt w wd g1 g2 (.slice Ag G.length cg) l0 q bo bx n' bx vo' mv M))
        case first =>
          cases b
          · go_wp2
            go_meet
            case rel => exact ⟨n, vo, rfl, HT2⟩
          · obtain ⟨hn, hr⟩ := Hb.out.1 rfl
            obtain ⟨ad, rfl, hx⟩ := str_cell (Kd.C_below HR0.out HT2.out.bel) n hn
            rw [show sx l0 n = l0.getD n ByteArray.empty by simp [sx, rdOf]] at hx
            obtain ⟨s, hs⟩ : ∃ s, s = l0.getD n ByteArray.empty := ⟨_, rfl⟩
            have hput := once_put HT2.out hn hr hlen
            rw [← hs] at hx hput
            have HPUT := Lib.hid hput
            have hnI : (n : Int) < (l0.length : Int) := by omega
            have hn0 : (0 : Int) ≤ (n : Int) := by omega
            clear hs hput
            go_wp2_with (go_at_call 12; refine HPUT.out.mono ?_; rintro e w1 ⟨rfl, ⟨vo', ht⟩⟩; have HT3 := Aside0.mk ht; clear ht)
            go_meet
            case rel => exact ⟨n + 1, vo', by go_num, HT3⟩
        case rest =>
          obtain ⟨wd, rfl⟩ : ∃ wd : World, wd = wc := ⟨_, rfl⟩
          obtain ⟨n', vo', rfl, HT3⟩ := hcut
          clear HT2 Hb HP HPL
          have l1' := HT3.out.le1
          have l2' := HT3.out.le2
          have l3' := HT3.out.le3
          have l4' := HT3.out.le4
          have hO := HT3.out.out
          have hpl := HT3.out.pend
          obtain ⟨P2, hP2⟩ : ∃ P2, P2 = (l0.take n').drop bo := ⟨_, rfl⟩
          rw [← hP2] at hO hpl
          have hpend := wpend_ok w wd g1 bo vo' P2 hO (by omega) (by omega) (by omega)
          have hQl := pendL_len bo P2
          obtain ⟨Q, hQ⟩ : ∃ Q, Q = pendL bo P2 := ⟨_, rfl⟩
          rw [← hQ] at hpend hQl
          rw [hpl] at hQl
          have HPEND := Lib.hid hpend
          have HQ := Lib.hid hQ
          have HP2 := Lib.hid hP2
          clear hO hpl hP2 hpend hQ
          by_cases he : Q.length = 0
          · have e0 : ((Q.length : Int) == 0) = true := by rw [beq_iff_eq]; omega
            have HE := Lib.hid he
            have HL := Lib.hid hQl
            clear he hQl
            go_wp2_with (go_at_call 18; refine HPEND.out.mono ?_; rintro e w1 ⟨v1, rfl, ho, hb⟩; obtain ⟨A3, c3, rfl, hc3, hC3⟩ := Kd.R_reads ho; have HT4 := Aside0.mk (HT3.out.below hb); clear ho hb hc3 hC3)
            go_roundw
            case rel => exact ⟨i + 1, n', bo, bx, q, vo', mv, M, by omega, by omega, by omega, rfl, by go_num, HT4⟩
            case measure => simp [intOf]; omega
          · have e0 : ((Q.length : Int) == 0) = false := by rw [beq_eq_false_iff_ne]; omega
            obtain ⟨xN, hxN⟩ : ∃ xN : Nat, rd l1 (i : Int) = (xN : Int) ∧ xN < 256 := by
              have hm : rd l1 (i : Int) ∈ l1 := by
                unfold rd
                rw [Int.toNat_natCast, List.getD_eq_getElem?_getD, List.getElem?_eq_getElem (by omega)]
                exact List.getElem_mem _
              have h := HWP.out _ hm
              have a : IntKind.u8.min = 0 := by decide
              have b : IntKind.u8.max = 255 := by decide
              simp [Lit.wf, a, b] at h
              exact ⟨(rd l1 (i : Int)).toNat, by omega, by omega⟩
            obtain ⟨ap, rfl, hxp⟩ := Kd.at_int HR1.out (i : Int) (by omega) hltI
            rw [hxN.1, Int.toNat_natCast] at hxp
            have hx256 := hxN.2
            have hQ16 : Q.length ≤ 16 := by omega
            have hQ0 : 0 < Q.length := by omega
            obtain ⟨j, hj⟩ : ∃ j : Nat, j = xN % Q.length := ⟨_, rfl⟩
            have hjQ : j < Q.length := by rw [hj]; exact Nat.mod_lt _ hQ0
            have hrem : (xN : Int) % (Q.length : Int) = (j : Int) := by rw [hj]; omega
            have hjn : bo + j < n' := by omega
            obtain ⟨s, hs⟩ : ∃ s, s = l0.getD (bo + j) ByteArray.empty := ⟨_, rfl⟩
            obtain ⟨sq, hsq⟩ : ∃ sq : Int, sq = (bo : Int) + j + 1 := ⟨_, rfl⟩
            have hsz : (l0.getD (bo + j) ByteArray.empty).size ≤ maxLen := by
              rw [List.getD_eq_getElem?_getD, List.getElem?_eq_getElem (by omega)]
              exact HWS.out _ (List.getElem_mem _)
            have htk := fun (w1 : World) (h : OnceAt w w1 g1 g2 (.slice Ag G.length cg) l0 q bo bx n' bx vo' mv M) => once_take h j hjn hlen (by omega) hsz sq hsq
            have hrd : rd_T57 Q (j : Int) = ⟨sq, s⟩ := by
              have hg := pendL_get bo P2 j (by rw [← pendL_len bo P2, ← HQ.out]; exact hjQ)
              unfold rd_T57
              rw [Int.toNat_natCast, HQ.out, hg, hsq, hs, HP2.out]
              congr 1
              rw [List.getD_eq_getElem?_getD, List.getD_eq_getElem?_getD, List.getElem?_drop, List.getElem?_take_of_lt (by omega)]
            rw [← hs] at htk
            have HTK := Lib.hid htk
            have HRD := Lib.hid hrd
            have hjI : (j : Int) < (Q.length : Int) := by omega
            have hj0 : (0 : Int) ≤ (j : Int) := by omega
            have HE := Lib.hid he
            have HL := Lib.hid hQl
            have HJ := Lib.hid hj
            have HSQ := Lib.hid hsq
            clear he hQl hxN hj hs hsq hsz htk hrd hjn
            go_upto_region 19 with (first
              | (go_at_call 18; refine HPEND.out.mono ?_; rintro e w1 ⟨v1, rfl, ho, hb⟩; obtain ⟨A3, c3, rfl, hc3, hC3⟩ := Kd.R_reads ho; have HT4 := Aside0.mk (HT3.out.below hb); have hxq := pw_cell_below HT4.out.bel hxp; obtain ⟨a3, rfl, y0, y1⟩ := at_T57 hC3 (j : Int) hj0 hjI; rw [Int.toNat_natCast, HRD.out] at y0 y1; clear ho hb hC3)
              | (go_at_call 23; refine (HTK.out _ (HT4.out.below (below_alloc (Below.refl _ _) _))).mono ?_; rintro e w2 ⟨v, c, L1, mv', M', rfl, hc, hr, hl1, hgl, ht⟩; obtain ⟨Av, cv, rfl, hcv, hCv⟩ := hr.form; have HT6 := Aside0.mk ht; have HCV := Aside0.mk hCv; have HGL2 := Lib.hid hgl; clear hr ht hCv hgl))
            go_cut [80] (fun v80 we => v80 = .bool false ∧ we = w2)
            case first =>
              rcases hc with rfl | rfl
              · go_wp2
                go_meet
                case rel => exact ⟨rfl, rfl⟩
              · go_wp2
                go_meet
                case rel => exact ⟨rfl, rfl⟩
            case rest =>
              obtain ⟨rfl, rfl⟩ := hcut
              obtain ⟨bx', hbx'⟩ : ∃ bx', bx' = bx + L1.length := ⟨_, rfl⟩
              have hgr : G ++ L1 = l0.take bx' := by rw [hbx', HG.out]; exact HGL2.out
              rw [← hbx'] at HT6
              have HGR := Lib.hid hgr
              have HBX := Lib.hid hbx'
              have hbl := HT6.out.bel.size
              have hgl60 : G.length ≤ 60 := by have := HGL.out; omega
              have hgrow : (G.length + L1.length) * 16 ≤ 140737488355328 := by omega
              clear hgr hbx'
              go_upto_region 22 with (at_builtin; go_loud (refine Kd.R_append_rows Kd.string (Rr := Kd.string.K wc) (w0 := wc) w.heap.size rfl (.tmp 81) (.tmp 82) 27 9 (.string ⟨#[]⟩) 16 rfl Try.underlying27 info9 rfl (by decide) (by omega) (.slice Ag G.length cg) G L1 Av L1.length cv (fun _ => True) (fun _ => False) rfl rfl ?aO HCV.out ?aK (fun _ hk => hk.elim) (fun _ _ => trivial) (Below.refl _ _) hbl hgrow ?_); (case aO => have h := HT6.out.got; rw [← HG.out] at h; exact h); (case aK => exact fun _ _ h => h); intro v1 w3 ho hb hg hat; rw [HGR.out] at ho; have HT7 := Aside0.mk (once_got HT6.out ho hg hat); clear ho hb hg hat)
              go_cut [94] (fun v94 we => ∃ b : Bool, v94 = .bool b ∧ we = w3)
              case first =>
                by_cases hls : (l2.length : Int) ≤ (i : Int)
                · go_wp2
                  go_meet
                  case rel => exact ⟨true, rfl, rfl⟩
                · obtain ⟨al, rfl, hxl⟩ := Kd.at_bool HR2.out (i : Int) (by omega) (by omega)
                  replace hxl := pw_cell_below HT7.out.bel hxl
                  rw [Int.toNat_natCast] at hxl
                  obtain ⟨bl, hbl2⟩ : ∃ bl, bl = rdOf false l2 (i : Int) := ⟨_, rfl⟩
                  rw [← hbl2] at hxl
                  clear hbl2
                  have hli : (i : Int) < (l2.length : Int) := by omega
                  have hi0' : (0 : Int) ≤ (i : Int) := by omega
                  go_wp2
                  go_meet
                  case rel => exact ⟨!bl, rfl, rfl⟩
              case rest =>
                obtain ⟨b, rfl, rfl⟩ := hcut
                cases b
                · go_wp2
                  go_roundw
                  case rel => exact ⟨i + 1, n', bo, bx', q + 1, vo', mv', M', by omega, by omega, by omega, rfl, by go_num, HT7⟩
                  case measure => simp [intOf]; omega
                · obtain ⟨d0, d1, -, -⟩ := cells_2 HT7.out.inn.blk
                  have hb1 : ((bx' : Int)) + 1 < 4294967296 := by have := HT7.out.le2; have := HT7.out.le3; omega
                  have hb0 : (0 : Int) ≤ (bx' : Int) := by omega
                  have HACK := Lib.hid (once_ack HT7.out hlen)
                  go_wp2_with (first
                    | (go_at_call 24; refine (wawait_ok _ g2 (bx' : Int) d0 hb0 hb1).mono ?_; rintro e w4 ⟨rfl, rfl⟩)
                    | (go_at_call 14; refine HACK.out.mono ?_; rintro e w5 ⟨rfl, ⟨vo2, ht⟩⟩; have HT8 := Aside0.mk ht; clear ht))
                  go_roundw
                  case rel => exact ⟨i + 1, n', bx', bx', q + 1, vo2, mv', M', by omega, by omega, by omega, rfl, by go_num, HT8⟩
                  case measure => simp [intOf]; omega
    · obtain ⟨Ag, cg, rfl, hcg, hCg⟩ := hT.got.form
      have hCt : Kd.string.C wo A0 (l0.take bx).length (l0.take bx) := Kd.C_take (Kd.C_below HR0.out hT.bel) (by omega)
      rw [← hG] at hcg hCg hCt ⊢
      have HCG := Aside0.mk hCg
      have HCT := Aside0.mk hCt
      obtain ⟨i0, hi0, hz0, hz1, hz2⟩ := info_parts info9
      have hcut : ∀ W : World, (Instr.slice 27 (.slice A0 l0.length c0) none (some (.int .i64 (G.length : Int))) none).run Try.prog W = .ok (.slice A0 G.length c0) W := by
        have h := cut_to (P := Try.prog) 27 9 .i64 Try.underlying27 hi0 A0 l0.length c0 (G.length : Int) (by omega) (by omega) hc0
        simpa using h
      have hle : ((G.length : Int) ≤ (n : Int)) := by omega
      have hbx : (bx : Int) = (G.length : Int) := by omega
      rw [hbx] at c20
      have hw3 : IntKind.u32.wrap ((G.length : Int) + 1) = (G.length : Int) + 1 := wrap32 (by omega) (by omega)
      have hgc : G.length ≤ c0 := by omega
      have hTX := Aside0.mk (texts_same G (by omega))
      have hG60 : (G.length : Int) ≤ 60 := by omega
      have HX := Lib.hid hgo
      clear HT hT hG hGl hCg hCt hbx hgo l1' l2' l3' l4' hq
      by_cases hlt : (i : Int) < (l1.length : Int)
      · have h150 : ¬ (i : Int) < 150 := by have := HX.out; omega
        go_wp2_with (first
          | (go_at_call 25; (with_reducible refine (trefoilref01_Texts.calls (G.length + 1) _ _ _ _ _ _ true _ HCG.out hcg HCT.out hgc hTX.out).mono ?_); rintro e w3 ⟨rfl, ⟨m, rfl⟩⟩)
          | (go_at_call 24; refine (wawait_ok _ g2 (G.length : Int) ?hc (by omega) (by omega)).mono ?_; (case hc => first | exact c20 | go_keep); rintro e w3 ⟨rfl, rfl⟩)
          | (go_at_call 10; refine (awake13.calls _).mono ?_; rintro e w1 ⟨rfl, hb⟩; have hB2 := Aside0.mk (below_step (show Below w.heap.size w (wo.drewN m) from pw_below_drewN hBel.out m) hb); clear hb))
        go_ret
        exact ⟨rfl, hB2.out⟩
      · skip
        go_wp2_with (first
          | (go_at_call 25; (with_reducible refine (trefoilref01_Texts.calls (G.length + 1) _ _ _ _ _ _ true _ HCG.out hcg HCT.out hgc hTX.out).mono ?_); rintro e w3 ⟨rfl, ⟨m, rfl⟩⟩)
          | (go_at_call 24; refine (wawait_ok _ g2 (G.length : Int) ?hc (by omega) (by omega)).mono ?_; (case hc => first | exact c20 | go_keep); rintro e w3 ⟨rfl, rfl⟩)
          | (go_at_call 10; refine (awake13.calls _).mono ?_; rintro e w1 ⟨rfl, hb⟩; have hB2 := Aside0.mk (below_step (show Below w.heap.size w (wo.drewN m) from pw_below_drewN hBel.out m) hb); clear hb))
        go_ret
        exact ⟨rfl, hB2.out⟩
end Go.Proofs.Ytedhckojeephaaa.P
