/- The table of tickets: the chapter's example (trefoillaw33.awake) comes true. -/
import Derived.Test.YtdifkcbiifhkeaaOoSv7
import Derived.Test.YtdifkcbiifhkeaaOoK2
import Derived.Test.YtdifkcbiifhkeaaOoK3
namespace Go.Proofs.Ytdifkcbiifhkeaa.P
open Go.RowKit Go.Maps Go.Proofs.YtdifkcbiifhkeaaW.PrintWords Go.Proofs.YtdifkcbiifhkeaaW.PrintLast Go.Proofs.YtdifkcbiifhkeaaW.PrintMore
set_option linter.unusedVariables false
set_option linter.unusedSimpArgs false
attribute [local go_sem ↓] Go.wp_at_zero Go.wp_at_succ
abbrev tA2 : Tk := ⟨5, 1, 8, 0, 0, 0, 2⟩
abbrev tA3 : Tk := ⟨5, 1, 8, 0, 0, 0, 3⟩
abbrev tB1 : Tk := ⟨6, 3, 1, 0, 0, 0, 1⟩
theorem tchkA2 : tchk tA2 = 0 := by decide
theorem tchkA3 : tchk tA3 = 0 := by decide
theorem tchkB1 : tchk tB1 = 0 := by decide
abbrev clsA : Array Value := #[.int .i64 1, .int .i64 8, .int .i64 0, .int .i64 0, .int .i64 0]
abbrev clsB : Array Value := #[.int .i64 3, .int .i64 1, .int .i64 0, .int .i64 0, .int .i64 0]
/-- the example, underway: the table and both classes' blocks -/
structure St (w W : World) (g mb n a : Nat) (D : DU) (M : Sm) (F : Ss) (count : Int) : Prop where
  tab : TabAt w W g mb n D M F count
  kA : W.heap[a]? = some (.cells clsA 28 (0, 0))
  kB : W.heap[a + 1]? = some (.cells clsB 28 (0, 0))
  gl : g < a ∧ mb < a
  bel : Below w.heap.size w W
theorem St.below {w W W' : World} {g mb n a : Nat} {D : DU} {M : Sm} {F : Ss} {count : Int} (h : St w W g mb n a D M F count) (hb : Below W.heap.size W W') : St w W' g mb n a D M F count :=
  ⟨h.tab.below hb, blk_below h.kA hb, blk_below h.kB hb, h.gl, below_step h.bel hb⟩
theorem St.full {w W : World} {g mb n a : Nat} {D : DU} {M : Sm} {F : Ss} {count : Int} (h : St w W g mb n a D M F count) : St w W g mb n a D M F count ∧ W.cell? ⟨a + 1, 0, none⟩ = some (.int .i64 3) ∧ W.cell? ⟨a + 1, 1, none⟩ = some (.int .i64 1) ∧ W.cell? ⟨a + 1, 2, none⟩ = some (.int .i64 0) ∧ W.cell? ⟨a + 1, 3, none⟩ = some (.int .i64 0) ∧ W.cell? ⟨a + 1, 4, none⟩ = some (.int .i64 0) := by
  obtain ⟨b0, b1, b2, b3, b4, -⟩ := cells_5 h.kB
  exact ⟨h, b0, b1, b2, b3, b4⟩
theorem St.next {w W W' : World} {g mb n n' a : Nat} {D D' : DU} {M M' : Sm} {F F' : Ss} {count count' : Int} (h : St w W g mb n a D M F count) (hT : TabAt w W' g mb n' D' M' F' count') (hc : Chg (fun k => k = g ∨ k = mb) W W') : St w W' g mb n' a D' M' F' count' :=
  ⟨hT, hc.blk h.kA (fun e => by have := h.gl; omega), hc.blk h.kB (fun e => by have := h.gl; omega), h.gl, hc.below h.bel (fun k hk => by have := h.tab.ge; omega)⟩
theorem St.slot {w W W' : World} {g mb n a b : Nat} {D : DU} {M : Sm} {F F' : Ss} {count : Int} (h : St w W g mb n a D M F count) (hT : TabAt w W' g mb n D M F' count) (hc : Chg (fun k => k = b) W W') {id : Int} (hm : M id = some b) : St w W' g mb n a D M F' count := by
  obtain ⟨hs, hge⟩ := h.tab.slots id b hm
  exact ⟨hT, hc.blk h.kA (blk_ne h.kA hs (by decide)), hc.blk h.kB (blk_ne h.kB hs (by decide)), h.gl, hc.below h.bel (fun k hk => by omega)⟩
theorem St.begin {w w1 : World} {g mb : Nat} (hT : TabAt w w1 g mb 0 (.map []) (fun _ => none) (fun _ => Sl.new 0) 0) (hb : Below w.heap.size w w1) : St w ((w1.alloc (.cells clsA 28)).alloc (.cells clsB 28)) g mb 0 w1.heap.size (.map []) (fun _ => none) (fun _ => Sl.new 0) 0 := by
  have hB := below_alloc (below_alloc (Below.refl w1.heap.size w1) (.cells clsA 28)) (.cells clsB 28)
  have h2 := heap_alloc_new (w1.alloc (.cells clsA 28)) (.cells clsB 28)
  rw [show (w1.alloc (.cells clsA 28)).heap.size = w1.heap.size + 1 by simp] at h2
  exact ⟨hT.below hB, blk_alloc (heap_alloc_new w1 _) _, h2, ⟨blk_lt hT.blk, hT.own.lt⟩, below_step hb hB⟩
abbrev D1 (p : Nat) : DU := (DataW.map []).put (.int .i64 5) (.lit (.int .i64 (p : Int)))
abbrev D2 (p q : Nat) : DU := (D1 p).put (.int .i64 6) (.lit (.int .i64 (q : Int)))
abbrev M1 (p : Nat) : Sm := putP (fun _ => none) 5 p
abbrev M2 (p q : Nat) : Sm := putP (M1 p) 6 q
theorem size1 (p : Nat) : Maps.size (D1 p) = 1 := rfl
theorem size2 (p q : Nat) : Maps.size (D2 p q) = 2 := rfl
theorem keys2 (p q : Nat) : intKeys (D2 p q) = [5, 6] := rfl
def F1 (p : Nat) : Ss := fun x => if x = p then (Sl.new (0 + 1)).ask tA2 else Sl.new 0
def F2 (p : Nat) : Ss := fun x => if x = p then (F1 p p).hear tA3 else F1 p x
def F3 (p q : Nat) : Ss := fun x => if x = q then (Sl.new (0 + 1 + 1)).hear tB1 else F2 p x
def F4 (p q : Nat) : Ss := fun x => if x = q then (F3 p q q).ask tB1 else F3 p q x
theorem F1_heard (p : Nat) : (F1 p p).heard = false := by unfold F1; rw [if_pos rfl]; rfl
theorem F3_asked (p q : Nat) : (F3 p q q).asked = false := by unfold F3; rw [if_pos rfl]; rfl
theorem F4_p {p q : Nat} (h : p ≠ q) : F4 p q p = P56 := by
  unfold F4 F3 F2
  rw [if_neg h, if_neg h, if_pos rfl]
  unfold F1
  rw [if_pos rfl]
  rfl
theorem F4_q (p q : Nat) : F4 p q q = Q56 := by
  unfold F4
  rw [if_pos rfl]
  unfold F3
  rw [if_pos rfl]
  rfl
theorem St.aw {w W : World} {g mb n a p q : Nat} {count : Int} (h : St w W g mb n a (D2 p q) (M2 p q) (F4 p q) count) (hn : p ≠ q) : Aw w W g mb n (D2 p q) (M2 p q) (F4 p q) count p q :=
  ⟨h.tab, by rw [size2]; decide, keys2 p q, rfl, rfl, F4_p hn, F4_q p q⟩
theorem lit5 (W : World) : Kd.C (Kd.int .i64) (W.alloc (.cells #[.int .i64 5] 3)) (some ⟨W.heap.size, 0, none⟩) 1 [5] := by
  refine ⟨rfl, by simp, fun _ => ⟨_, rfl, fun j p hj => ?_⟩⟩
  match j, hj with
  | 0, hj =>
    obtain rfl := Option.some.inj hj
    exact ⟨[.int .i64 5], rfl, rfl, fun i u hu => by rw [add_plain, blk_cell (heap_alloc_new W _)]; match i, hu with | 0, hu => obtain rfl := Option.some.inj hu; rfl⟩
theorem litT (W : World) : Kd.C k30 (W.alloc (.cells #[.int .i64 6, .int .i64 3, .int .i64 1, .int .i64 0, .int .i64 0, .int .i64 0, .int .i64 1] 30)) (some ⟨W.heap.size, 0, none⟩) 1 [T6] := by
  refine ⟨rfl, by simp, fun _ => ⟨_, rfl, fun j p hj => ?_⟩⟩
  match j, hj with
  | 0, hj =>
    obtain rfl := Option.some.inj hj
    refine ⟨_, rfl, k30_mk _ T6, fun i u hu => ?_⟩
    rw [add_plain, blk_cell (heap_alloc_new W _)]
    match i, hu with
    | 0, hu => obtain rfl := Option.some.inj hu; rfl
    | 1, hu => obtain rfl := Option.some.inj hu; rfl
    | 2, hu => obtain rfl := Option.some.inj hu; rfl
    | 3, hu => obtain rfl := Option.some.inj hu; rfl
    | 4, hu => obtain rfl := Option.some.inj hu; rfl
    | 5, hu => obtain rfl := Option.some.inj hu; rfl
    | 6, hu => obtain rfl := Option.some.inj hu; rfl
set_option maxRecDepth 100000 in
set_option maxHeartbeats 4000000 in
theorem awake33.calls (w : World) : Calls Try.prog 7 #[] w fun e w' => e = .returned (.bool true) ∧ Below w.heap.size w w' := by
  have t1 : True := trivial
  have t2 : True := trivial
  go_enter Try.func7, Try.ntmps7
  go_wp2_with (first
    | (go_at_call 4; refine (new_ok _).mono ?_; rintro e w1 ⟨g, mb, rfl, hT, hb⟩; have HS0 := Lib.hid (St.begin hT hb); have Ha : Go.RowKit.Hid (w1.heap.size = w1.heap.size) := Lib.hid rfl; clear hb hT)
    | (go_at_call 5; have _q := t1; go_loud (refine (ask_new w _ g mb 0 (.map []) (fun _ => none) (fun _ => Sl.new 0) 0 tA2 HS0.out.tab tchkA2 (by decide) rfl (by decide) (by unfold maxLen; omega) (by omega)).mono ?_); rintro e w2 ⟨rfl, p, hp, hT, hc⟩; clear t1 _q; have HS1 := Lib.hid (show St w w2 g mb 1 w1.heap.size (D1 p) (M1 p) (F1 p) 1 from HS0.out.next hT hc); obtain ⟨a0, a1, a2, a3, a4, -⟩ := cells_5 HS1.out.kA; clear hT hc hp)
    | (go_at_call 11; have _q := t2; go_loud (refine (hear_there w w2 g mb 1 (D1 p) (M1 p) (F1 p) 1 p tA3 HS1.out.tab tchkA3 (by decide) rfl (F1_heard p)).mono ?_); rintro e w3 ⟨rfl, hT, hc⟩; clear t2 _q a0 a1 a2 a3 a4; have HS2 := Lib.hid (show St w w3 g mb 1 w1.heap.size (D1 p) (M1 p) (F2 p) 1 from HS1.out.slot hT hc (id := 5) rfl); obtain ⟨b0, b1, b2, b3, b4, -⟩ := cells_5 HS2.out.kB; clear hT hc)
    | (go_at_call 11; go_loud (refine (hear_new w w3 g mb 1 (D1 p) (M1 p) (F2 p) 1 tB1 HS2.out.tab tchkB1 (by decide) rfl (by rw [size1]; decide) (by unfold maxLen; omega) (by omega)).mono ?_); rintro e w4 ⟨rfl, q, hq, hT, hc⟩; clear b0 b1 b2 b3 b4; have HPQ := Lib.hid (show p ≠ q by have := blk_lt (HS2.out.tab.slots 5 p rfl).1; omega); have HS3 := Lib.hid (show St w w4 g mb 2 w1.heap.size (D2 p q) (M2 p q) (F3 p q) 2 from HS2.out.next hT hc); obtain ⟨b0, b1, b2, b3, b4, -⟩ := cells_5 HS3.out.kB; clear hT hc hq)
    | (go_at_call 5; go_loud (refine (ask_there w w4 g mb 2 (D2 p q) (M2 p q) (F3 p q) 2 q tB1 HS3.out.tab tchkB1 (by decide) rfl (F3_asked p q)).mono ?_); rintro e w5 ⟨rfl, hT, hc⟩; clear b0 b1 b2 b3 b4; have HS4 := Lib.hid (show St w w5 g mb 2 w1.heap.size (D2 p q) (M2 p q) (F4 p q) 2 from HS3.out.slot hT hc (id := 6) rfl); clear hT hc))
  have HINT := Lib.hid (show trefoilref01_Ints.f 10 [5] [5] = some true from by kernel_rfl)
  have HTK := Lib.hid (show trefoilref33_Tickets.f 10 [T6] [T6] = some true from by kernel_rfl)
  have hSt := HS4.out.full
  go_region_held3 (fun W => St w W g mb 2 w1.heap.size (D2 p q) (M2 p q) (F4 p q) 2 ∧ W.cell? ⟨w1.heap.size + 1, 0, none⟩ = some (.int .i64 3) ∧ W.cell? ⟨w1.heap.size + 1, 1, none⟩ = some (.int .i64 1) ∧ W.cell? ⟨w1.heap.size + 1, 2, none⟩ = some (.int .i64 0) ∧ W.cell? ⟨w1.heap.size + 1, 3, none⟩ = some (.int .i64 0) ∧ W.cell? ⟨w1.heap.size + 1, 4, none⟩ = some (.int .i64 0))
    ((refine St.full ?_; first | exact St.below (by first | assumption | exact And.left (by assumption)) (below_alloc (Below.refl _ _) _) | exact St.below (by first | assumption | exact And.left (by assumption)) (below_drew1 (Below.refl _ _)) | (with_reducible exact HSW.out) | (with_reducible exact HSZ.out) | (with_reducible exact HSY.out) | (with_reducible exact HSX.out) | (with_reducible exact HS4.out) | (with_reducible exact St.below HSW.out (below_alloc (Below.refl _ _) _)) | (with_reducible exact St.below HSW.out (below_drew1 (Below.refl _ _))) | (with_reducible exact St.below HSW.out (below_drew1 (below_alloc (Below.refl _ _) _))) | (with_reducible exact St.below HSZ.out (below_alloc (Below.refl _ _) _)) | (with_reducible exact St.below HSZ.out (below_drew1 (Below.refl _ _))) | (with_reducible exact St.below HSZ.out (below_drew1 (below_alloc (Below.refl _ _) _))) | (with_reducible exact St.below HSY.out (below_alloc (Below.refl _ _) _)) | (with_reducible exact St.below HSY.out (below_drew1 (Below.refl _ _))) | (with_reducible exact St.below HSY.out (below_drew1 (below_alloc (Below.refl _ _) _))) | (with_reducible exact St.below HSX.out (below_alloc (Below.refl _ _) _)) | (with_reducible exact St.below HSX.out (below_drew1 (Below.refl _ _))) | (with_reducible exact St.below HSX.out (below_drew1 (below_alloc (Below.refl _ _) _))) | (with_reducible exact St.below HS4.out (below_alloc (Below.refl _ _) _)) | (with_reducible exact St.below HS4.out (below_drew1 (Below.refl _ _))) | (with_reducible exact St.below HS4.out (below_drew1 (below_alloc (Below.refl _ _) _))) | exact HSW.out | exact HSZ.out | exact HSY.out | exact HSX.out | exact HS4.out | exact St.below HSW.out (below_alloc (Below.refl _ _) _) | exact St.below HSW.out (below_drew1 (Below.refl _ _)) | exact St.below HSW.out (below_drew1 (below_alloc (Below.refl _ _) _)) | exact St.below HSZ.out (below_alloc (Below.refl _ _) _) | exact St.below HSZ.out (below_drew1 (Below.refl _ _)) | exact St.below HSZ.out (below_drew1 (below_alloc (Below.refl _ _) _)) | exact St.below HSY.out (below_alloc (Below.refl _ _) _) | exact St.below HSY.out (below_drew1 (Below.refl _ _)) | exact St.below HSY.out (below_drew1 (below_alloc (Below.refl _ _) _)) | exact St.below HSX.out (below_alloc (Below.refl _ _) _) | exact St.below HSX.out (below_drew1 (Below.refl _ _)) | exact St.below HSX.out (below_drew1 (below_alloc (Below.refl _ _) _)) | exact St.below HS4.out (below_alloc (Below.refl _ _) _) | exact St.below HS4.out (below_drew1 (Below.refl _ _)) | exact St.below HS4.out (below_drew1 (below_alloc (Below.refl _ _) _))))
    (first
      | (go_at_call 16; go_loud (refine (unlike_aw w _ g mb 2 (D2 p q) (M2 p q) (F4 p q) 2 p q (St.aw (by first | assumption | exact And.left (by assumption)) HPQ.out)).mono ?_; rintro e w6 ⟨A, c, rfl, hc, hC, hb⟩; have HU := Lib.hid (And.intro hc hC); have HB6 := Lib.hid hb; have HSX := Lib.hid (St.below (by first | assumption | exact And.left (by assumption)) hb); clear hC hb hc))
      | (go_at_call 15; go_loud (refine (trefoilref01_Ints.calls 10 _ _ [5] _ _ [5] true _ (by first | exact HU.out.2 | exact Kd.C_alloc HU.out.2 _ | exact Kd.C_below HU.out.2 (below_alloc (below_drew1 (Below.refl _ _)) _)) HU.out.1 (by first | exact lit5 _ | exact Kd.C_below (lit5 _) HB6.out | exact Kd.C_below (Kd.C_below (lit5 _) (below_drew1 (Below.refl _ _))) HB6.out) (by decide) HINT.out).mono ?_; rintro e w7 ⟨rfl, hd⟩; have hb7 := (by first | exact hd | exact hd.below : Below _ _ w7); have HSY := Lib.hid (St.below (by first | assumption | exact And.left (by assumption)) hb7); clear hd hb7))
      | (go_at_call 18; go_loud (refine (matched_aw w _ g mb 2 (D2 p q) (M2 p q) (F4 p q) 2 p q (St.aw (by first | assumption | exact And.left (by assumption)) HPQ.out)).mono ?_; rintro e w8 ⟨A8, c8, rfl, hc, hC, hb⟩; have HV := Lib.hid (And.intro hc hC); have HB8 := Lib.hid hb; have HSZ := Lib.hid (St.below (by first | assumption | exact And.left (by assumption)) hb); clear hC hb hc))
      | (go_at_call 17; go_loud (refine (trefoilref33_Tickets.calls 10 _ _ [T6] _ _ [T6] true _ (by first | exact HV.out.2 | exact Kd.C_alloc HV.out.2 _ | exact Kd.C_below HV.out.2 (below_alloc (below_drew1 (Below.refl _ _)) _)) HV.out.1 (by first | exact litT _ | exact Kd.C_below (litT _) HB8.out | exact Kd.C_below (Kd.C_below (litT _) (below_drew1 (Below.refl _ _))) HB8.out) (by decide) HTK.out).mono ?_; rintro e w9 ⟨rfl, hd⟩; have hb9 := (by first | exact hd | exact hd.below : Below _ _ w9); have HSW := Lib.hid (St.below (by first | assumption | exact And.left (by assumption)) hb9); clear hd hb9)))
  all_goals
    go_wp2
    go_ret
    exact ⟨rfl, HSW.out.bel⟩
end Go.Proofs.Ytdifkcbiifhkeaa.P
