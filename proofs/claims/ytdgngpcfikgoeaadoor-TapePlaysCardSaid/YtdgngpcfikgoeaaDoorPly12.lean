/- TapePlays: the walk. -/
import Derived.Test.YtdgngpcfikgoeaaDoorPlyA
import Derived.Test.YtdgngpcfikgoeaaDoorPx0
namespace Go.Proofs.YtdgngpcfikgoeaaDoor.P
open Go.RowKit Go.Extern.Stop Go.Stop Go.Extern Go.Proofs.YtdgngpcfikgoeaaDoorW.PrintWords Go.Proofs.YtdgngpcfikgoeaaDoorW.PrintLast Go.Proofs.YtdgngpcfikgoeaaDoorW.PrintMore
set_option linter.unusedVariables false
set_option linter.unusedSimpArgs false
attribute [local go_sem ↓] Go.wp_at_zero Go.wp_at_succ
theorem two_ge {n g gr k : Nat} (h1 : n ≤ g) (h2 : n ≤ gr) (e : k = g ∨ k = gr) : n ≤ k := by rcases e with e | e <;> omega
set_option maxHeartbeats 3200000 in
set_option maxRecDepth 100000 in
theorem plays_ok (hDA : DoesAny) (A1 : Option Addr) (c1 : Nat) (l : List Int) (A2 : Option Addr) (c2 : Nat) (P : List S58) (w : World) (hr1 : Kd.C (Kd.int .u64) w A1 l.length l) (hc1 : l.length ≤ c1) (hr2 : Kd.C k58 w A2 P.length P) (hc2 : P.length ≤ c2) (hu : ∀ x ∈ l, 0 ≤ x ∧ x < 18446744073709551616) (hd : Door w) :
    Calls Tryd.prog 5 #[.slice A1 l.length c1, .slice A2 P.length c2] w fun e w' => e = .returned (.bool true) ∧ Below w.heap.size w w' := by
  have HAW := Lib.hid (fun W (h : Door W) => awake_ok W h)
  have HD := Lib.hid hd
  have HR1 := Lib.hid hr1
  have HR2 := Lib.hid hr2
  by_cases hl : l.length > 500
  · have h6 : (l.length : Int) > 500 := by omega
    clear hl hr1 hr2 hd
    go_enter Tryd.func5, Tryd.ntmps5
    go_wp2_with (go_at_call 10; (with_reducible refine (HAW.out _ HD.out).mono ?_); rintro e w2 ⟨rfl, hb⟩; have HB := Lib.hid hb; clear hb)
    go_ret
    exact ⟨rfl, HB.out⟩
  have h6 : ¬ ((l.length : Int) > 500) := by omega
  have HN := Lib.hid (fun W (h : Kd.C (Kd.int .u64) W A1 l.length l) => tnew_ok A1 c1 l W h (by omega))
  have HDA := Lib.hid (fun W B g gr v a k N b (h : Both W B g gr v l A1 c1 a) => hDA W B g gr v l A1 c1 a k N b h hc1 hu)
  clear hl hr1 hr2 hd hu hDA
  go_enter Tryd.func5, Tryd.ntmps5
  go_wp2_with (go_at_call 11; (with_reducible refine (HN.out w HR1.out).mono ?_); rintro e w1 ⟨g, v, rfl, ht, hb⟩; have HT1 := Lib.hid ht; have HB1 := Lib.hid hb; clear ht hb)
  have HG0 := Lib.hid (show 0 < w.heap.size from HD.out.lt)
  have HBO := Lib.hid (both_new w w1 g v l A1 c1 HT1.out HB1.out HR1.out HD.out)
  have HBA := Lib.hid (below_alloc HB1.out (.cells #[.slice A1 l.length c1, .int .i64 0] 54))
  go_loopw [8] (fun v8 wr => ∃ i a : Nat, i ≤ P.length ∧ i ≤ 60 ∧ v8 = .int .i64 (i : Int) ∧ Hid (Both wr w.heap.size g w1.heap.size v l A1 c1 a) ∧ Hid (Below w.heap.size w wr)) (fun v8 _ => 60 - (intOf v8).toNat)
  case atStart => exact ⟨0, 0, Nat.zero_le _, Nat.zero_le _, rfl, HBO, HBA⟩
  case round =>
    obtain ⟨wo, rfl⟩ : ∃ wo : World, wo = wr := ⟨_, rfl⟩
    obtain ⟨i, a, hi, hi6, rfl, HO, HB⟩ := hrel
    by_cases hlt : i < P.length
    · by_cases hl6 : i < 60
      · have hltI : (i : Int) < (P.length : Int) := by omega
        have hl6I : (i : Int) < 60 := by omega
        have hi0 : (0 : Int) ≤ (i : Int) := by omega
        have hiw : IntKind.i64.wrap ((i : Int) + 1) = (i : Int) + 1 := IntWalk.i64_in _ ⟨by omega, by omega⟩
        obtain ⟨ad, rfl, q0, q1, q2⟩ := at_T58 (Kd.C_below HR2.out HB.out) (i : Int) hi0 hltI
        rw [Int.toNat_natCast] at q0 q1 q2
        generalize rd_T58 P (i : Int) = X at q0 q1 q2
        go_wp2_with (go_at_call 21; go_loud ((with_reducible refine (HDA.out wo _ g w1.heap.size v a X.f0 X.f1 X.f2 HO.out).mono ?_); rintro e w3 ⟨rfl, hO, hc⟩; have HO3 := Lib.hid hO; have HB3 := Lib.hid (hc.below HB.out (fun k e => two_ge HO.out.t.ge HB1.out.size e)); clear hO hc))
        clear hiw
        refine ⟨⟨i + 1, _, Nat.succ_le_of_lt hlt, Nat.succ_le_of_lt hl6, by go_num, HO3, HB3⟩, ?_⟩
        simp [intOf]
        omega
      · have hie : i = 60 := by omega
        subst hie
        have hltI : ((60 : Nat) : Int) < (P.length : Int) := by omega
        go_wp2_with (go_at_call 10; (with_reducible refine (HAW.out _ HO.out.door).mono ?_); rintro e w2 ⟨rfl, hb⟩; have HB2 := Lib.hid (below_step HB.out hb); clear hb)
        go_ret
        exact ⟨rfl, HB2.out⟩
    · have hlt' : ¬ (i : Int) < (P.length : Int) := by omega
      go_wp2_with (go_at_call 10; (with_reducible refine (HAW.out _ HO.out.door).mono ?_); rintro e w2 ⟨rfl, hb⟩; have HB2 := Lib.hid (below_step HB.out hb); clear hb)
      go_ret
      exact ⟨rfl, HB2.out⟩
end Go.Proofs.YtdgngpcfikgoeaaDoor.P
