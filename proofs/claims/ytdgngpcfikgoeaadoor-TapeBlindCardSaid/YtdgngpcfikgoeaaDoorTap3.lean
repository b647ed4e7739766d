/- The tape laws: the document's comparison of lists, and the chapter's example. -/
import Derived.Test.YtdgngpcfikgoeaaDoorTap2
import Derived.Test.YtdgngpcfikgoeaaDoorPx1
import Derived.Lib.Hide
import Derived.IntWalk
import Derived.WalkSpells
import Derived.Outline
import Derived.BigQuiet
import Derived.Deep.RegionHeld3
import Derived.Deep.DrawnRows
import Derived.Deep.RegionLaw
import Derived.Deep.AppendLies
namespace Go.Proofs.YtdgngpcfikgoeaaDoor.P
open Go.RowKit Go.Extern.Stop Go.Stop Go.Extern Go.Proofs.YtdgngpcfikgoeaaDoorW.PrintWords Go.Proofs.YtdgngpcfikgoeaaDoorW.PrintLast Go.Proofs.YtdgngpcfikgoeaaDoorW.PrintMore
set_option linter.unusedVariables false
set_option linter.unusedSimpArgs false
attribute [local go_sem ↓] Go.wp_at_zero Go.wp_at_succ

/-! ### equal lists -/
theorem ew64 {x : Int} (h0 : -9223372036854775808 ≤ x) (h1 : x ≤ 9223372036854775807) : wrap64 x = x := by unfold wrap64; omega
theorem enums_loop (a : List Int) (hm : a.length ≤ 10000000) (d : Nat) : ∀ (k i : Nat), i + d = a.length → d < k → trefoilref02_Nums.l0 k a a i = some true := by
  induction d with
  | zero =>
    intro k i hi hk
    obtain ⟨k, rfl⟩ : ∃ q, k = q + 1 := ⟨k - 1, by omega⟩
    simp only [trefoilref02_Nums.l0]; rw [if_neg (by omega)]
  | succ d ih =>
    intro k i hi hk
    obtain ⟨k, rfl⟩ : ∃ q, k = q + 1 := ⟨k - 1, by omega⟩
    simp only [trefoilref02_Nums.l0]
    rw [if_pos (by omega), if_pos (by omega), if_pos (by omega), if_pos trivial]
    have : wrap64 ((i : Int) + 1) = ((i + 1 : Nat) : Int) := by rw [ew64 (by omega) (by omega)]; omega
    rw [this]
    exact ih k (i + 1) (by omega) (by omega)
theorem nums_ok (A0 : Option Addr) (c0 : Nat) (A1 : Option Addr) (c1 : Nat) (l : List Int) (w : World) (h0 : Kd.C (Kd.int .u64) w A0 l.length l) (hc0 : l.length ≤ c0) (h1 : Kd.C (Kd.int .u64) w A1 l.length l) (hc1 : l.length ≤ c1) (hl : l.length ≤ 10000000) :
    Calls Tryd.prog 13 #[.slice A0 l.length c0, .slice A1 l.length c1] w fun e w' => e = .returned (.bool true) ∧ Below w.heap.size w w' := by
  have hf : trefoilref02_Nums.f (l.length + 1) l l = some true := by
    unfold trefoilref02_Nums.f
    rw [if_pos rfl]
    exact enums_loop l hl l.length _ 0 (by omega) (by omega)
  exact (trefoilref02_Nums.calls _ A0 c0 l A1 c1 l true w h0 hc0 h1 hc1 hf).mono fun e w' ⟨he, hw⟩ => ⟨he, hw.below⟩

theorem nums_okI (A0 : Option Addr) (n0 c0 : Nat) (A1 : Option Addr) (n1 c1 : Nat) (l : List Int) (e0 : n0 = l.length) (e1 : n1 = l.length) (w : World) (h0 : Kd.C (Kd.int .u64) w A0 l.length l) (hc0 : l.length ≤ c0) (h1 : Kd.C (Kd.int .u64) w A1 l.length l) (hc1 : l.length ≤ c1) (hl : l.length ≤ 10000000) :
    Calls Tryd.prog 13 #[.slice A0 n0 c0, .slice A1 n1 c1] w fun e w' => e = .returned (.bool true) ∧ Below w.heap.size w w' := by
  subst e0 e1
  exact nums_ok A0 c0 A1 c1 l w h0 hc0 h1 hc1 hl
/-! ### the chapter's example -/
theorem C_lit (w : World) (l : List Int) (hl : l.length ≤ 1000) : Kd.C (Kd.int .u64) (w.alloc (.cells (encs (Value.int .u64) l).toArray 35)) (some ⟨w.heap.size, 0, none⟩) l.length l := by
  have h : RU 0 (w.alloc (.cells (encs (Value.int .u64) l).toArray 35)) (.slice (some ⟨w.heap.size, 0, none⟩) l.length l.length) l := Kd.R_of_own (own_lit_of w 0 35 l (Nat.zero_le _) (by omega)) (fun _ _ => trivial)
  obtain ⟨A, c, e, -, hC⟩ := h.form
  injection e with e1 e2 e3
  subst e1
  exact hC
theorem RU.C {B n c : Nat} {w : World} {A : Option Addr} {l : List Int} (h : RU B w (.slice A n c) l) : Kd.C (Kd.int .u64) w A l.length l ∧ l.length ≤ c := by
  obtain ⟨A', c', e, hc, hC⟩ := h.form
  injection e with e1 e2 e3
  subst e1 e3
  exact ⟨hC, hc⟩
theorem take_okI (z : Int) (n : Nat) (hz : z = (n : Int)) (w : World) (B g : Nat) (v : Value) (l : List Int) (a : Nat) (h : TAt w B g v l a) (hf : a + n ≤ l.length) :
    Calls Tryd.prog 12 #[.pointer (some ⟨g, 0, none⟩), .int .i64 z] w fun e w' => ∃ u, e = .returned (.tuple #[u, .nilIface]) ∧ RU w.heap.size w' u ((l.take (a + n)).drop a) ∧ TAt w' B g v l (a + n) ∧ Chg (fun k => k = g) w w' := by
  subst hz
  exact take_ok n w B g v l a h hf
/-- blocks of tapes are no faults -/
theorem ErrIs.tape {w w' : World} {g n : Nat} {cs : Array Value} {v : Value} {c : Int} (h : ErrIs n w v c) (hc : Chg (fun k => k = g) w w') (hg : w.heap[g]? = some (.cells cs 37 (0, 0))) : ErrIs n w' v c :=
  h.chg hc (fun k cs' q hk => by subst q; rw [hg] at hk; injection hk with hk; injection hk with _ hk; exact absurd hk (by decide))
set_option maxHeartbeats 1600000 in
theorem awake_ok (w : World) (hd : Door w) : Calls Tryd.prog 10 #[] w fun e w' => e = .returned (.bool true) ∧ Below w.heap.size w w' := by
  have HL : Hid (Kd.C (Kd.int .u64) (w.alloc (.cells #[.int .u64 5, .int .u64 6, .int .u64 7] 35)) (some ⟨w.heap.size, 0, none⟩) 3 [5, 6, 7]) := Lib.hid (C_lit w [5, 6, 7] (by decide))
  have hN : Calls Tryd.prog 11 #[.slice (some ⟨w.heap.size, 0, none⟩) 3 3] (w.alloc (.cells #[.int .u64 5, .int .u64 6, .int .u64 7] 35)) _ := tnew_ok (some ⟨w.heap.size, 0, none⟩) 3 [5, 6, 7] _ HL.out (by decide)
  have HN := Lib.hid hN
  have HB1 := Lib.hid (below_alloc (Below.refl w.heap.size w) (.cells #[.int .u64 5, .int .u64 6, .int .u64 7] 35))
  have HD := Lib.hid hd
  have HX := Lib.hid (fun W (B g : Nat) v (h : TAt W B g v [5, 6, 7] 2) => (show Calls Tryd.prog 15 #[.pointer (some ⟨g, 0, none⟩)] W (fun e w' => e = .returned (.tuple #[.int .u64 7, .nilIface]) ∧ TAt w' B g v [5, 6, 7] 3 ∧ Chg (fun k => k = g) W w') from next_ok W B g v [5, 6, 7] 2 h (by decide)))
  clear hN hd
  go_enter Tryd.func10, Tryd.ntmps10
  go_wp2_with (first
    | (go_at_call 11; ((with_reducible refine HN.out.mono ?_); rintro e w2 ⟨g, v, rfl, ht, hb⟩; have HT2 := Lib.hid ht; have HB2 := Lib.hid (below_step HB1.out hb); have HD2 := Lib.hid (HD.out.below HB2.out HD.out.lt); have HG0 := Lib.hid (show g ≠ 0 by have q1 := ht.ge; have q2 := HD.out.lt; simp at q1; omega); have HGE := Lib.hid (show w.heap.size ≤ g by have q1 := ht.ge; simp at q1; omega); clear ht hb))
    | (go_at_call 12; (with_reducible refine (take_okI 2 2 rfl w2 _ g v [5, 6, 7] 0 HT2.out (by decide)).mono ?_); rintro e w3 ⟨u, rfl, hu, ht, hc⟩; have HT3 := Lib.hid ht; have HC3 := Lib.hid hc; have HU3 : Hid (RU w2.heap.size w3 u [5, 6]) := Lib.hid hu; obtain ⟨A3, c3, rfl, -, -⟩ := (show ∃ A c, u = .slice A 2 c ∧ 2 ≤ c ∧ Kd.C (Kd.int .u64) w3 A 2 [5, 6] from HU3.out.form); clear hu ht hc)
    | (go_at_call 12; (with_reducible refine (take_bad 2 (.pointer (some ⟨g, 0, none⟩)) 10 w3 (Bad.far _ g v _ 2 HT3.out (by decide) (by decide))).mono ?_); rintro e w4 ⟨v4, rfl, hv, hb⟩; have HV4 := Lib.hid hv; have HB4 := Lib.hid hb; have HT4 := Lib.hid (HT3.out.below hb); obtain ⟨p4, rfl⟩ := hv.form; clear hv hb)
    | (go_at_call 15; (with_reducible refine (HX.out w4 _ g v HT4.out).mono ?_); rintro e w5 ⟨rfl, ht, hc⟩; have HT5 := Lib.hid ht; have HC5 := Lib.hid hc; have HC25 := Lib.hid ((HC3.out.trans (Chg.of_below HB4.out _)).trans hc); have HV5 := Lib.hid (HV4.out.tape hc HT4.out.blk); have HU5 := Lib.hid ((HU3.out.chg (Chg.of_below HB4.out (fun k => k = g)) (fun k hk q => HU3.out.ne HT3.out.blk (by decide) (by rw [hk, q]))).chg hc (fun k hk q => HU3.out.ne HT3.out.blk (by decide) (by rw [hk, q]))); clear ht hc)
    | (go_at_call 13; go_loud (refine (nums_okI A3 2 c3 (some ⟨w5.heap.size, 0, none⟩) 2 2 [5, 6] rfl rfl _ (Kd.C_alloc HU5.out.C.1 _) HU5.out.C.2 (C_lit w5 [5, 6] (by decide)) (by decide) (by decide)).mono ?_); rintro e w6 ⟨rfl, hb⟩; have HB6 := Lib.hid (below_step (below_alloc (Below.refl w5.heap.size w5) _) hb); have HV6 := Lib.hid (HV5.out.below HB6.out); have HC26 := Lib.hid (HC25.out.trans (Chg.of_below HB6.out _)); have HD6 := Lib.hid (HD2.out.chg HC26.out (fun q => HG0.out q.symm)); clear hb)
    | (go_at_call 18; (with_reducible refine (code_ok 1 _ 10 w6 HV6.out HD6.out).mono ?_); rintro e w7 ⟨rfl, hb⟩; have HB7 := Lib.hid hb; clear hb))
  go_ret
  exact ⟨rfl, (HC26.out.trans (Chg.of_below HB7.out _)).below HB2.out (fun k q => by rw [q]; exact HGE.out)⟩
end Go.Proofs.YtdgngpcfikgoeaaDoor.P
