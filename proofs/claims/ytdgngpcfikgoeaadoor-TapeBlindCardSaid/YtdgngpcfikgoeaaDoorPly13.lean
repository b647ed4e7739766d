/- TapeBlind: the walk. -/
import Derived.Test.YtdgngpcfikgoeaaDoorPlyA
import Derived.Test.YtdgngpcfikgoeaaDoorPx0
namespace Go.Proofs.YtdgngpcfikgoeaaDoor.P
open Go.RowKit Go.Extern.Stop Go.Stop Go.Extern Go.Proofs.YtdgngpcfikgoeaaDoorW.PrintWords Go.Proofs.YtdgngpcfikgoeaaDoorW.PrintLast Go.Proofs.YtdgngpcfikgoeaaDoorW.PrintMore
set_option linter.unusedVariables false
set_option linter.unusedSimpArgs false
attribute [local go_sem ↓] Go.wp_at_zero Go.wp_at_succ
/-- two tapes and their documents, read equally far -/
structure Two (w W : World) (g1 r1 : Nat) (v1 : Value) (l1 : List Int) (A1 : Option Addr) (c1 : Nat) (g2 r2 : Nat) (v2 : Value) (l2 : List Int) (A2 : Option Addr) (c2 a : Nat) : Prop where
  t1 : TAt W w.heap.size g1 v1 l1 a
  t2 : TAt W w.heap.size g2 v2 l2 a
  b1 : W.heap[r1]? = some (.cells #[.slice A1 l1.length c1, .int .i64 (a : Int)] 54 (0, 0))
  b2 : W.heap[r2]? = some (.cells #[.slice A2 l2.length c2, .int .i64 (a : Int)] 54 (0, 0))
  bel : Below w.heap.size w W
/-- what does not change -/
structure Fix (w : World) (g1 r1 : Nat) (l1 : List Int) (A1 : Option Addr) (g2 r2 : Nat) (l2 : List Int) (A2 : Option Addr) : Prop where
  c1 : Kd.C (Kd.int .u64) w A1 l1.length l1
  c2 : Kd.C (Kd.int .u64) w A2 l2.length l2
  ng : g1 ≠ g2
  nr : r1 ≠ r2
  hr1 : w.heap.size ≤ r1
  hr2 : w.heap.size ≤ r2
  door : Door w
theorem both_of (w W : World) (g gr : Nat) (v : Value) (l : List Int) (A : Option Addr) (c a : Nat) (ht : TAt W w.heap.size g v l a) (hr : W.heap[gr]? = some (.cells #[.slice A l.length c, .int .i64 (a : Int)] 54 (0, 0))) (hb : Below w.heap.size w W) (hg : w.heap.size ≤ gr) (hC : Kd.C (Kd.int .u64) w A l.length l) (hd : Door w) : Both W w.heap.size g gr v l A c a :=
  ⟨ht, hr, ⟨w, hC, hb, ht.ge, hg⟩, hd.below hb hd.lt, Nat.lt_of_lt_of_le hd.lt ht.ge, Nat.lt_of_lt_of_le hd.lt hg⟩
theorem tape_ne {W : World} {g r : Nat} {cs cs' : Array Value} (h1 : W.heap[g]? = some (.cells cs 37 (0, 0))) (h2 : W.heap[r]? = some (.cells cs' 54 (0, 0))) : g ≠ r := fun e => by
  rw [e, h2] at h1
  injection h1 with h1
  injection h1 with _ h1
  exact absurd h1 (by decide)
section
variable {w W W1 : World} {g1 r1 : Nat} {v1 : Value} {l1 : List Int} {A1 : Option Addr} {c1 g2 r2 : Nat} {v2 : Value} {l2 : List Int} {A2 : Option Addr} {c2 a a' : Nat}
theorem TAt.other {B g gx rx : Nat} {v : Value} {l : List Int} {cs cx : Array Value} (h : TAt W B g v l a) (hx : W.heap[gx]? = some (.cells cs 37 (0, 0))) (hrx : W.heap[rx]? = some (.cells cx 54 (0, 0))) (hc : Chg (fun k => k = gx ∨ k = rx) W W1) (hn : g ≠ gx) : TAt W1 B g v l a :=
  h.chg hc (fun e => by rcases e with e | e; exact hn e; exact tape_ne h.blk hrx e) (fun k hk e => by rcases e with e | e; exact h.row.ne hx (by decide) (by rw [hk, e]); exact h.row.ne hrx (by decide) (by rw [hk, e]))
theorem blk_other {r gx rx : Nat} {cs cr : Array Value} (h : W.heap[r]? = some (.cells cr 54 (0, 0))) (hx : W.heap[gx]? = some (.cells cs 37 (0, 0))) (hc : Chg (fun k => k = gx ∨ k = rx) W W1) (hn : r ≠ rx) : W1.heap[r]? = some (.cells cr 54 (0, 0)) :=
  (hc.block _ (blk_lt h) (fun e => by rcases e with e | e; exact tape_ne hx h e.symm; exact hn e)).trans h
theorem two_ge {n g gr k : Nat} (h1 : n ≤ g) (h2 : n ≤ gr) (e : k = g ∨ k = gr) : n ≤ k := by rcases e with e | e <;> omega
end
theorem Two.below {w W W1 : World} {g1 r1 : Nat} {v1 : Value} {l1 : List Int} {A1 : Option Addr} {c1 g2 r2 : Nat} {v2 : Value} {l2 : List Int} {A2 : Option Addr} {c2 a : Nat} (h : Two w W g1 r1 v1 l1 A1 c1 g2 r2 v2 l2 A2 c2 a) (hb : Below W.heap.size W W1) : Two w W1 g1 r1 v1 l1 A1 c1 g2 r2 v2 l2 A2 c2 a :=
  ⟨h.t1.below hb, h.t2.below hb, (hb.block _ (blk_lt h.b1)).trans h.b1, (hb.block _ (blk_lt h.b2)).trans h.b2, below_step h.bel hb⟩
theorem act_at {w W : World} {ad : Addr} {P : List S58} (h : Kd.C k58 w (some ad) P.length P) (hb : Below w.heap.size w W) (i : Nat) (h0 : (0 : Int) ≤ (i : Int)) (h1 : (i : Int) < (P.length : Int)) :
    W.cell? (ad.add (i * 3)) = some (.int .i64 (rd_T58 P (i : Int)).f0) ∧ W.cell? ⟨(ad.add (i * 3)).block, (ad.add (i * 3)).off + 1, none⟩ = some (.int .i64 (rd_T58 P (i : Int)).f1) ∧ W.cell? ⟨(ad.add (i * 3)).block, (ad.add (i * 3)).off + 2, none⟩ = some (.int .i64 (rd_T58 P (i : Int)).f2) := by
  obtain ⟨ad', e, q⟩ := at_T58 (Kd.C_below h hb) (i : Int) h0 h1
  injection e with e
  subst e
  rw [Int.toNat_natCast] at q
  exact q
theorem two_new (w w1 w2 : World) (g1 : Nat) (v1 : Value) (l1 : List Int) (A1 : Option Addr) (c1 g2 : Nat) (v2 : Value) (l2 : List Int) (A2 : Option Addr) (c2 : Nat) (h1 : TAt w1 w.heap.size g1 v1 l1 0) (hb1 : Below w.heap.size w w1) (h2 : TAt w2 w1.heap.size g2 v2 l2 0) (hb2 : Below w1.heap.size w1 w2) (hC1 : Kd.C (Kd.int .u64) w A1 l1.length l1) (hC2 : Kd.C (Kd.int .u64) w A2 l2.length l2) (hd : Door w) :
    Two w ((w2.alloc (.cells #[.slice A1 l1.length c1, .int .i64 0] 54)).alloc (.cells #[.slice A2 l2.length c2, .int .i64 0] 54)) g1 w2.heap.size v1 l1 A1 c1 g2 (w2.heap.size + 1) v2 l2 A2 c2 0 ∧ Fix w g1 w2.heap.size l1 A1 g2 (w2.heap.size + 1) l2 A2 := by
  have ha := below_alloc (below_alloc (Below.refl w2.heap.size w2) (.cells #[.slice A1 l1.length c1, .int .i64 0] 54)) (.cells #[.slice A2 l2.length c2, .int .i64 0] 54)
  have hb := below_step hb1 hb2
  have t2 : TAt w2 w.heap.size g2 v2 l2 0 := ⟨h2.blk, Nat.le_trans hb1.size h2.ge, Kd.R_lower h2.row hb1.size, h2.le, h2.len⟩
  exact ⟨⟨(h1.below hb2).below ha, t2.below ha, heap_alloc2_old w2 _ _, heap_alloc2_new w2 _ _, below_step hb ha⟩, ⟨hC1, hC2, fun e => by have := h2.ge; have := blk_lt h1.blk; omega, by omega, hb.size, Nat.le_succ_of_le hb.size, hd⟩⟩
/-- the first is read on, the second not yet -/
structure Mid (w W : World) (g1 r1 : Nat) (v1 : Value) (l1 : List Int) (A1 : Option Addr) (c1 : Nat) (g2 r2 : Nat) (v2 : Value) (l2 : List Int) (A2 : Option Addr) (c2 a a' : Nat) : Prop where
  t1 : TAt W w.heap.size g1 v1 l1 a'
  t2 : TAt W w.heap.size g2 v2 l2 a
  b1 : W.heap[r1]? = some (.cells #[.slice A1 l1.length c1, .int .i64 (a' : Int)] 54 (0, 0))
  b2 : W.heap[r2]? = some (.cells #[.slice A2 l2.length c2, .int .i64 (a : Int)] 54 (0, 0))
  bel : Below w.heap.size w W
section
variable {w W W1 : World} {g1 r1 : Nat} {v1 : Value} {l1 : List Int} {A1 : Option Addr} {c1 g2 r2 : Nat} {v2 : Value} {l2 : List Int} {A2 : Option Addr} {c2 a a' : Nat}
theorem Two.first (h : Two w W g1 r1 v1 l1 A1 c1 g2 r2 v2 l2 A2 c2 a) (f : Fix w g1 r1 l1 A1 g2 r2 l2 A2) (hO : Both W1 w.heap.size g1 r1 v1 l1 A1 c1 a') (hc : Chg (fun k => k = g1 ∨ k = r1) W W1) : Mid w W1 g1 r1 v1 l1 A1 c1 g2 r2 v2 l2 A2 c2 a a' :=
  ⟨hO.t, h.t2.other h.t1.blk h.b1 hc f.ng.symm, hO.rb, blk_other h.b2 h.t1.blk hc f.nr.symm, hc.below h.bel (fun k e => two_ge h.t1.ge f.hr1 e)⟩
theorem Mid.second (h : Mid w W g1 r1 v1 l1 A1 c1 g2 r2 v2 l2 A2 c2 a a') (f : Fix w g1 r1 l1 A1 g2 r2 l2 A2) (hO : Both W1 w.heap.size g2 r2 v2 l2 A2 c2 a') (hc : Chg (fun k => k = g2 ∨ k = r2) W W1) : Two w W1 g1 r1 v1 l1 A1 c1 g2 r2 v2 l2 A2 c2 a' :=
  ⟨h.t1.other h.t2.blk h.b2 hc f.ng, hO.t, blk_other h.b1 h.t2.blk hc f.nr, hO.rb, hc.below h.bel (fun k e => two_ge h.t2.ge f.hr2 e)⟩
end
set_option maxHeartbeats 3200000 in
set_option maxRecDepth 100000 in
theorem blind_ok (hDA : DoesAny) (A1 : Option Addr) (c1 : Nat) (l : List Int) (A2 : Option Addr) (c2 : Nat) (m : List Int) (A3 : Option Addr) (c3 : Nat) (P : List S58) (w : World) (hr1 : Kd.C (Kd.int .u64) w A1 l.length l) (hc1 : l.length ≤ c1) (hr2 : Kd.C (Kd.int .u64) w A2 m.length m) (hc2 : m.length ≤ c2) (hr3 : Kd.C k58 w A3 P.length P) (hc3 : P.length ≤ c3) (hu : ∀ x ∈ l, 0 ≤ x ∧ x < 18446744073709551616) (hv : ∀ x ∈ m, 0 ≤ x ∧ x < 18446744073709551616) (hd : Door w) :
    Calls Tryd.prog 6 #[.slice A1 l.length c1, .slice A2 m.length c2, .slice A3 P.length c3] w fun e w' => e = .returned (.bool true) ∧ Below w.heap.size w w' := by
  have HAW := Lib.hid (fun W (h : Door W) => awake_ok W h)
  have HD := Lib.hid hd
  have HR1 := Lib.hid hr1
  have HR2 := Lib.hid hr2
  have HR3 := Lib.hid hr3
  by_cases hl : l.length > 500 ∨ l.length ≠ m.length
  · have h6 : ((l.length : Int) > 500) ∨ (¬ ((l.length : Int) > 500) ∧ (l.length : Int) ≠ (m.length : Int)) := by omega
    clear hl hr1 hr2 hr3 hd
    rcases h6 with h6 | ⟨h6, h7⟩
    all_goals
      go_enter Tryd.func6, Tryd.ntmps6
      go_wp2_with (go_at_call 10; (with_reducible refine (HAW.out _ HD.out).mono ?_); rintro e w2 ⟨rfl, hb⟩; have HB := Lib.hid hb; clear hb)
      go_ret
      exact ⟨rfl, HB.out⟩
  have h6 : ¬ ((l.length : Int) > 500) := by omega
  have hlm : l.length = m.length := by omega
  have HN1 := Lib.hid (fun W (h : Kd.C (Kd.int .u64) W A1 l.length l) => tnew_ok A1 c1 l W h (by omega))
  have HN2 := Lib.hid (fun W (h : Kd.C (Kd.int .u64) W A2 m.length m) => tnew_ok A2 c2 m W h (by omega))
  have HDA1 := Lib.hid (fun W B g gr v a k N b (h : Both W B g gr v l A1 c1 a) => hDA W B g gr v l A1 c1 a k N b h hc1 hu)
  have HDA2 := Lib.hid (fun W B g gr v a k N b (h : Both W B g gr v m A2 c2 a) => hDA W B g gr v m A2 c2 a k N b h hc2 hv)
  have HAL := Lib.hid (fun a k N b => actA_len hlm a k N b)
  have HLY : Hid (∀ (W : World) (B g : Nat) (v : Value) (a : Nat) (h : TAt W B g v m a), Calls Tryd.prog 20 #[.pointer (some ⟨g, 0, none⟩)] W fun e w' => e = .returned (.int .i64 ((l.length : Int) - a)) ∧ w' = W.drew) := Lib.hid (fun W B g v a h => by rw [hlm]; exact left_ok W B g v m a h)
  have hlmI : (l.length : Int) = (m.length : Int) := by omega
  clear hl hr1 hr2 hr3 hd hu hv hDA hlm
  go_enter Tryd.func6, Tryd.ntmps6
  go_wp2_with (first
    | (go_at_call 11; (with_reducible refine (HN1.out w HR1.out).mono ?_); rintro e w1 ⟨g1, v1, rfl, ht, hb⟩; have HT1 := Lib.hid ht; have HB1 := Lib.hid hb; clear ht hb)
    | (go_at_call 11; (with_reducible refine (HN2.out w1 (Kd.C_below HR2.out HB1.out)).mono ?_); rintro e w2 ⟨g2, v2, rfl, ht, hb⟩; have HT2 := Lib.hid ht; have HB2 := Lib.hid hb; clear ht hb))
  have hnew := two_new w w1 w2 g1 v1 l A1 c1 g2 v2 m A2 c2 HT1.out HB1.out HT2.out HB2.out HR1.out HR2.out HD.out
  have HO0 := Lib.hid hnew.1
  have FX := Lib.hid hnew.2
  clear hnew
  go_loopw [13] (fun v13 wr => ∃ i a : Nat, i ≤ P.length ∧ i ≤ 60 ∧ v13 = .int .i64 (i : Int) ∧ Hid (Two w wr g1 w2.heap.size v1 l A1 c1 g2 (w2.heap.size + 1) v2 m A2 c2 a)) (fun v13 _ => 60 - (intOf v13).toNat)
  case atStart => exact ⟨0, 0, Nat.zero_le _, Nat.zero_le _, rfl, HO0⟩
  case round =>
    obtain ⟨wo, rfl⟩ : ∃ wo : World, wo = wr := ⟨_, rfl⟩
    obtain ⟨i, a, hi, hi6, rfl, HO⟩ := hrel
    have HBB := Lib.hid HO.out.bel
    by_cases hlt : i < P.length
    · by_cases hl6 : i < 60
      · have hltI : (i : Int) < (P.length : Int) := by omega
        have hl6I : (i : Int) < 60 := by omega
        have hi0 : (0 : Int) ≤ (i : Int) := by omega
        have hiw : IntKind.i64.wrap ((i : Int) + 1) = (i : Int) + 1 := IntWalk.i64_in _ ⟨by omega, by omega⟩
        obtain ⟨ad, rfl, q0, q1, q2⟩ := at_T58 (Kd.C_below HR3.out HBB.out) (i : Int) hi0 hltI
        have HQ := Lib.hid (fun W (hb : Below w.heap.size w W) => act_at HR3.out hb i hi0 hltI)
        obtain ⟨X, hX⟩ : ∃ X, X = rd_T58 P (i : Int) := ⟨_, rfl⟩
        rw [← hX] at q0 q1 q2 HQ
        rw [Int.toNat_natCast] at q0 q1 q2
        clear hX
        go_wp2_with (first
          | (go_at_call 21; (with_reducible refine (HDA1.out wo _ g1 w2.heap.size v1 a X.f0 X.f1 X.f2 (both_of w wo g1 _ v1 l A1 c1 a HO.out.t1 HO.out.b1 HO.out.bel FX.out.hr1 FX.out.c1 FX.out.door)).mono ?_); rintro e w3 ⟨rfl, hO, hc⟩; have HM := Lib.hid (HO.out.first FX.out hO hc); obtain ⟨p0, p1, p2⟩ := HQ.out w3 HM.out.bel; clear hO hc)
          | (go_at_call 21; go_loud ((with_reducible refine (HDA2.out w3 _ g2 (w2.heap.size + 1) v2 a X.f0 X.f1 X.f2 (both_of w w3 g2 _ v2 m A2 c2 a HM.out.t2 HM.out.b2 HM.out.bel FX.out.hr2 FX.out.c2 FX.out.door)).mono ?_); rintro e w4 ⟨rfl, hO, hc⟩; rw [← HAL.out] at hO; have H4 := Lib.hid (HM.out.second FX.out hO hc); clear hO hc))
          | (go_at_call 14; (with_reducible refine (at_ok w4 _ g1 v1 l _ H4.out.t1).mono ?_); rintro e w5 ⟨rfl, rfl⟩)
          | (go_at_call 14; go_loud ((with_reducible refine (at_ok w4 _ g2 v2 m _ H4.out.t2).mono ?_); rintro e w5 ⟨rfl, rfl⟩))
          | (go_at_call 20; (with_reducible refine (left_ok w4 _ g1 v1 l _ H4.out.t1).mono ?_); rintro e w5 ⟨rfl, rfl⟩)
          | (go_at_call 20; go_loud ((with_reducible refine (HLY.out _ _ g2 v2 _ (H4.out.t2.below (below_drew (Below.refl _ _)))).mono ?_); rintro e w5 ⟨rfl, rfl⟩)))
        clear hiw
        refine ⟨⟨i + 1, _, Nat.succ_le_of_lt hlt, Nat.succ_le_of_lt hl6, by go_num, Lib.hid ((H4.out.below (below_drew (Below.refl _ _))).below (below_drew (Below.refl _ _)))⟩, ?_⟩
        simp [intOf]
        omega
      · have hie : i = 60 := by omega
        subst hie
        have hltI : ((60 : Nat) : Int) < (P.length : Int) := by omega
        go_wp2_with (go_at_call 10; (with_reducible refine (HAW.out _ (FX.out.door.below HBB.out FX.out.door.lt)).mono ?_); rintro e w2 ⟨rfl, hb⟩; have HB2 := Lib.hid (below_step HBB.out hb); clear hb)
        go_ret
        exact ⟨rfl, HB2.out⟩
    · have hlt' : ¬ (i : Int) < (P.length : Int) := by omega
      go_wp2_with (go_at_call 10; (with_reducible refine (HAW.out _ (FX.out.door.below HBB.out FX.out.door.lt)).mono ?_); rintro e w2 ⟨rfl, hb⟩; have HB2 := Lib.hid (below_step HBB.out hb); clear hb)
      go_ret
      exact ⟨rfl, HB2.out⟩
end Go.Proofs.YtdgngpcfikgoeaaDoor.P
