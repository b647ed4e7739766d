/- The check's example (trefoillaw30.awake): a trial of no shares. -/
import Derived.Below
import Derived.Deep.Draws
import Derived.Deep.AppendLies
import Derived.Maps.AppendAt
import Derived.OwnWalk
import Derived.Laws.BytesArg
import Derived.Laws.MakeOwn
import Derived.Laws.OwnMore
import Derived.Deep.OwnRows
import Derived.Tactics
import Derived.Lib.ConvBytes
import Derived.Laws.Slices
import Derived.WalkKit
import Derived.KernelRfl
import Derived.RowKit3
import Derived.Deep.LoopGhost
import Derived.Deep.QuietTactic
import Derived.BigQuiet
import Derived.WideLaws
import Derived.Deep.DeepCutAuto
import Derived.Deep.CutBlock
import Derived.Deep.RegionHeld3
import Derived.Laws.Rows
import Derived.Lib.AppendStr
import Derived.ArgAppend
import Derived.Laws.IdiomCopy
import Derived.OrdersHeld
import Derived.Laws.BitsLemmas
import Derived.RowKit
import Derived.Test.YtbednnnjahpmlaaCnMine
import Derived.Test.YtbednnnjahpmlaaCnKn1
import Derived.Test.YtbednnnjahpmlaaCnK0
import Derived.Test.YtbednnnjahpmlaaCnK1
import Derived.Test.YtbednnnjahpmlaaCnShelf
namespace Go.Proofs.Ytbednnnjahpmlaa.P
open Go.RowKit Go.Maps Go.Proofs.YtbednnnjahpmlaaW.PrintWords Go.Proofs.YtbednnnjahpmlaaW.PrintLast Go.Proofs.YtbednnnjahpmlaaW.PrintMore
set_option linter.unusedVariables false
set_option linter.unusedSimpArgs false
attribute [local go_sem ↓] Go.wp_at_zero Go.wp_at_succ
def zc : Array Value := #[.int .u8 0, .int .u8 0, .int .u8 0, .int .u8 0, .int .u8 0, .int .u8 0, .int .u8 0, .int .u8 0, .int .u8 0, .int .u8 0, .int .u8 0, .int .u8 0, .int .u8 0, .int .u8 0, .int .u8 0, .int .u8 0, .int .u8 0, .int .u8 0, .int .u8 0, .int .u8 0, .int .u8 0, .int .u8 0, .int .u8 0, .int .u8 0, .int .u8 0, .int .u8 0, .int .u8 0, .int .u8 0, .int .u8 0, .int .u8 0, .int .u8 0, .int .u8 0]
theorem clip_none (p : Option Addr) (c : Nat) (w : World) : Calls Try.prog 34 #[.slice p 0 c] w fun e w' => ∃ q d, e = .returned (.slice q 0 d) ∧ w' = w := by
  go_enter Try.func34, Try.ntmps34
  go_wp2
  go_ret
  exact ⟨_, _, rfl, rfl⟩
def srcC (n : Int) : Array Value := zc ++ #[.int .u32 n, .int .i64 0, .bool true]
set_option maxRecDepth 100000 in
theorem prgnew_ok (n : Int) (w : World) : Calls Try.prog 40 #[.agg zc, .int .u32 n] w fun e w' => ∃ v, e = .returned v ∧ Below w.heap.size w w' := by
  have HK := Lib.hid (heap_alloc_new w (.cells zc 47))
  go_enter Try.func40, Try.ntmps40
  go_wp2_with (first
    | ((with_reducible refine gate_dst (N := 5) rfl ?_); go_loud (refine wpList_load_row rfl 47 (.tmp 2) rfl w.heap.size (by rfl) 47 zc (0, 0) _ HK.out Try.underlying47 (by rfl) (by kernel_rfl) ?_))
    | ((with_reducible refine gate_dst (N := 7) rfl ?_); go_loud (refine Kd.event_run (v := .agg (srcC n)) (w1 := w.alloc (.cells zc 47)) rfl (by kernel_rfl) ?_)))
  go_ret
  exact ⟨_, rfl, by repeat (first | exact Below.refl _ _ | apply below_alloc)⟩
theorem info_share : (Try.prog.info? 43).map (fun i => (i.zero, i.size, i.bytes)) = some (some (.agg #[(.slice none 0 0), (.slice none 0 0), (.slice none 0 0)]), 3, 72) := by kernel_rfl
theorem mk_i64 {o : Oper} {a : Act} {rest : List Oper} {ops : Array Oper} {W : World} {Q : Exit → Act → World → Prop} (w : World) (hgd : o.guard = none) {N : Tmp} (hd : o.dst = some N) (x y : Operand) (ho : o.op = .makeSlice 26 x y) (hx : a.eval x = .int .i64 0) (hy : a.eval y = .int .i64 0) (HB : Below w.heap.size w W) (h : ∀ q c w1, Below w.heap.size w w1 → W.grownBy w1 none → wpList Try.prog ops Q rest (a.put o.dst (.slice q 0 c)) w1) : wpList Try.prog ops Q (o :: rest) a W := by
  refine Kd.R_make (Kd.int .i64) (w0 := w) w.heap.size 3 hgd hd 26 x y ho 0 hx hy Try.underlying26 (.int .i64 0) 8 info3 rfl (by decide) (by omega) 0 (ok := fun _ => True) (okp := fun _ => True) rfl (fun _ hk => hk) trivial (by omega) (by decide) HB HB.size ?_
  intro v w1 hr hb hg hn
  obtain ⟨q, c, rfl, -, -⟩ := Kd.R_reads hr
  exact h q c w1 hb hg
set_option maxRecDepth 100000 in
theorem shuffle_none (w : World) : Calls Try.prog 32 #[.agg zc, .int .i64 0] w fun e w' => ∃ q d, e = .returned (.tuple #[.slice q 0 d, .int .i64 0]) ∧ Below w.heap.size w w' := by
  have HK := Lib.hid (heap_alloc_new w (.cells zc 47))
  have HB0 := Lib.hid (below_alloc (Below.refl w.heap.size w) (.cells zc 47))
  go_enter Try.func32, Try.ntmps32
  go_wp2_with ((with_reducible refine gate_dst (N := 19) rfl ?_); refine mk_i64 w rfl (N := 19) rfl _ _ rfl rfl rfl HB0.out ?_; intro q c w1 hb hg; have HB1 := Lib.hid hb; have HK1 := Lib.hid (blk_grown HK.out hg (by simp)); clear hb hg)
  go_loop [22] (fun a => a = .int .i64 0) (fun a => 0)
  case atStart => rfl
  case round =>
    subst hrel
    go_wp2_with (first
      | ((with_reducible refine gate_dst (N := 30) rfl ?_); go_loud (refine wpList_load_row rfl 47 (.tmp 2) rfl w.heap.size (by rfl) 47 zc (0, 0) _ HK1.out Try.underlying47 (by rfl) (by kernel_rfl) ?_))
      | (go_at_call 40; (with_reducible refine (prgnew_ok _ _).mono ?_); rintro e w2 ⟨v, rfl, hb⟩; have HB2 := Lib.hid (below_step HB1.out hb)))
    go_loop [9] (fun a => a = .int .i64 (-1)) (fun a => 0)
    case atStart => rfl
    case round =>
      subst hrel
      go_wp2
      go_ret2
      first | exact ⟨_, _, rfl, HB2.out⟩ | exact ⟨⟨_, _, rfl⟩, HB2.out⟩
set_option maxRecDepth 100000 in
theorem pick_none (w : World) : Calls Try.prog 21 #[.agg zc, .int .i64 0, .int .i64 0] w fun e w' => ∃ q d, e = .returned (.tuple #[.slice q 0 d, .int .i64 0]) ∧ Below w.heap.size w w' := by
  have HK := Lib.hid (heap_alloc_new w (.cells zc 47))
  have HB0 := Lib.hid (below_alloc (Below.refl w.heap.size w) (.cells zc 47))
  go_enter Try.func21, Try.ntmps21
  go_wp2_with (first
    | ((with_reducible refine gate_dst (N := 18) rfl ?_); go_loud (refine wpList_load_row rfl 47 (.tmp 3) rfl w.heap.size (by rfl) 47 zc (0, 0) _ HK.out Try.underlying47 (by rfl) (by kernel_rfl) ?_))
    | (go_at_call 32; (with_reducible refine (shuffle_none _).mono ?_); rintro e w1 ⟨q, d, rfl, hb⟩; have HB1 := Lib.hid (below_step HB0.out hb); clear hb)
    | (go_at_call 33; (with_reducible refine (Try.slices_Sort_int_none _ _ _).mono ?_); rintro e w2 ⟨rfl, rfl⟩)
    | (go_at_call 34; (with_reducible refine (clip_none _ _ _).mono ?_); rintro e w3 ⟨q2, d2, rfl, rfl⟩))
  go_ret2
  exact ⟨_, _, rfl, HB1.out⟩
theorem mk_share {o : Oper} {a : Act} {rest : List Oper} {ops : Array Oper} {W : World} {Q : Exit → Act → World → Prop} (w : World) (hgd : o.guard = none) {N : Tmp} (hd : o.dst = some N) (x y : Operand) (ho : o.op = .makeSlice 24 x y) (hx : a.eval x = .int .i64 0) (hy : a.eval y = .int .i64 0) (HB : Below w.heap.size w W) (h : ∀ q c w1, Below w.heap.size w w1 → wpList Try.prog ops Q rest (a.put o.dst (.slice q 0 c)) w1) : wpList Try.prog ops Q (o :: rest) a W := by
  refine Kd.S_makecap k43 w.heap.size 43 hgd hd 24 x y ho 0 hx hy Try.underlying24 (.agg #[(.slice none 0 0), (.slice none 0 0), (.slice none 0 0)]) 72 info_share rfl (by decide) (by omega) z43 (ok := fun _ => True) (okp := fun _ => True) (k43_mkM _ _ _ z43 (Kd.R_nil _ _ _ _ _) (Kd.R_nil _ _ _ _ _) (Kd.R_nil _ _ _ _ _)) (fun _ hk => hk) trivial (by omega) (by decide) HB HB.size ?_
  intro v w1 hr hb hg hn
  obtain ⟨q, c, rfl, -, -⟩ := Kd.S_reads hr
  exact h q c w1 hb
set_option maxRecDepth 100000 in
theorem those_none (f : Value) (q : Option Addr) (d : Nat) (w : World) : Calls Try.prog 15 #[.slice none 0 0, .slice q 0 d, f] w fun e w' => ∃ q d, e = .returned (.tuple #[.slice q 0 d, .int .i64 0]) ∧ Below w.heap.size w w' := by
  go_enter Try.func15, Try.ntmps15
  go_wp2_with ((with_reducible refine gate_dst (N := 13) rfl ?_); refine mk_share w rfl (N := 13) rfl _ _ rfl rfl rfl (Below.refl _ _) ?_; intro q c w1 hb; have HB1 := Lib.hid hb; clear hb)
  go_loop [8, 16] (fun b a => b = .slice q 0 c ∧ a = .int .i64 0) (fun b a => 0)
  case atStart => exact ⟨rfl, rfl⟩
  case round =>
    obtain ⟨rfl, rfl⟩ := hrel
    go_wp2
    go_ret2
    first | exact ⟨_, _, rfl, HB1.out⟩ | exact ⟨⟨_, _, rfl⟩, HB1.out⟩
theorem of_none (q : Option Addr) (d : Nat) (w : World) : Calls Try.prog 11 #[.slice none 0 0, .slice q 0 d] w fun e w' => ∃ q d, e = .returned (.tuple #[.slice q 0 d, .int .i64 0]) ∧ Below w.heap.size w w' := by
  go_enter Try.func11, Try.ntmps11
  go_wp2_with (go_at_call 15; (with_reducible refine (those_none _ _ _ _).mono ?_); rintro e w1 ⟨q2, d2, rfl, hb⟩)
  go_ret2
  first | exact ⟨_, _, rfl, hb⟩ | exact ⟨⟨_, _, rfl⟩, hb⟩
/-- the example's trial, at g -/
def AwT (w : World) (g : Nat) (A : Option Addr) (c : Nat) (B : Option Addr) (d : Nat) (s f : Bool) : Prop := w.heap[g]? = some (.cells #[.int .i64 1, .int .i64 8, .int .i64 0, .int .i64 0, .int .i64 0, .slice none 0 0, .slice A 0 c, .slice B 0 d, .slice none 0 0, .bool s, .bool f] 28 (0, 0))
theorem rest_none (q : Option Addr) (d : Nat) (w : World) : Calls Try.prog 22 #[.int .i64 0, .slice q 0 d] w fun e w' => ∃ B d, e = .returned (.tuple #[.slice B 0 d, .int .i64 0]) ∧ Below w.heap.size w w' :=
  (sample_Rest.calls 10 0 q d [] [] 0 w ⟨rfl, by simp, fun h => absurd h (Nat.lt_irrefl 0)⟩ (Nat.zero_le _) (by kernel_rfl)).mono fun e w' ⟨v, he, hr, hb⟩ => by
    obtain ⟨B, d2, rfl, -, -⟩ := Kd.R_reads hr
    exact ⟨B, d2, he, hb⟩
/-- what New of no shares tells -/
def NewAns (w : World) (e : Ending) (w' : World) : Prop := ∃ g A c B d, e = .returned (.tuple #[.pointer (some ⟨g, 0, none⟩), .int .i64 0]) ∧ w.heap.size ≤ g ∧ AwT w' g A c B d false false ∧ Below w.heap.size w w'
abbrev clsC : Array Value := #[.int .i64 1, .int .i64 8, .int .i64 0, .int .i64 0, .int .i64 0]
set_option maxRecDepth 100000 in
theorem new_none (w : World) : Calls Try.prog 13 #[.agg clsC, .slice none 0 0, .agg zc, .int .i64 0] w (NewAns w) := by
  have HC := Lib.hid (fun W => shape_Check.calls 10 1 8 0 0 0 0 W (by kernel_rfl))
  have HB0 := Lib.hid (below_alloc (below_alloc (Below.refl w.heap.size w) (.cells clsC 23)) (.cells zc 47))
  have HK0 := Lib.hid (blk_alloc (heap_alloc_new w (.cells clsC 23)) (.cells zc 47))
  have HS0 := Lib.hid (show ((w.alloc (.cells clsC 23)).alloc (.cells zc 47)).heap[w.heap.size + 1]? = some (.cells zc 47 (0, 0)) by have := heap_alloc_new (w.alloc (.cells clsC 23)) (.cells zc 47); rwa [show (w.alloc (.cells clsC 23)).heap.size = w.heap.size + 1 by simp] at this)
  go_enter Try.func13, Try.ntmps13
  go_wp2_with (first
    | (go_at_call 14; (with_reducible refine (HC.out _).mono ?_); rintro e w1 ⟨rfl, hb⟩; have hb1 := (by first | exact hb | exact hb.below : Below _ _ w1); have HB1 := Lib.hid (below_step HB0.out hb1); have HK1 := Lib.hid (blk_below HK0.out hb1); have HS1 := Lib.hid (blk_below HS0.out hb1); clear hb hb1))
  go_loop [26] (fun a => a = .int .i64 0) (fun a => 0)
  case atStart => rfl
  case round =>
    subst hrel
    go_wp2_with (first
      | ((with_reducible refine gate_dst (N := 36) rfl ?_); go_loud (refine wpList_load_row rfl 47 (.tmp 6) rfl (w.heap.size + 1) (by rfl) 47 zc (0, 0) _ HS1.out Try.underlying47 (by rfl) (by kernel_rfl) ?_))
      | (go_at_call 21; (with_reducible refine (pick_none _).mono ?_); rintro e w2 ⟨A, c, rfl, hb⟩; have HB2 := Lib.hid (below_step HB1.out hb); have HK2 := Lib.hid (blk_below HK1.out hb); clear hb)
      | (go_at_call 22; (with_reducible refine (rest_none _ _ _).mono ?_); rintro e w3 ⟨B, d, rfl, hb⟩; have HB3 := Lib.hid (below_step HB2.out hb); obtain ⟨c0, c1, c2, c3, c4, -⟩ := cells_5 (blk_below HK2.out hb); clear hb))
    have HT := Lib.hid (heap_alloc_new w3 (.cells #[.int .i64 1, .int .i64 8, .int .i64 0, .int .i64 0, .int .i64 0, .slice none 0 0, .slice A 0 c, .slice B 0 d, .slice none 0 0, .bool false, .bool false] 28))
    go_loop [63] (fun a => a = .int .i64 0) (fun a => 0)
    case atStart => rfl
    case round =>
      subst hrel
      go_wp2
      go_ret2
      exact ⟨w3.heap.size, A, c, B, d, rfl, HB3.out.size, HT.out, below_alloc HB3.out _⟩
theorem AwT.cells {w : World} {g : Nat} {A B : Option Addr} {c d : Nat} {s f : Bool} (h : AwT w g A c B d s f) : w.cell? ⟨g, 0, none⟩ = some (.int .i64 1) ∧ w.cell? ⟨g, 1, none⟩ = some (.int .i64 8) ∧ w.cell? ⟨g, 2, none⟩ = some (.int .i64 0) ∧ w.cell? ⟨g, 3, none⟩ = some (.int .i64 0) ∧ w.cell? ⟨g, 4, none⟩ = some (.int .i64 0) ∧ w.cell? ⟨g, 5, none⟩ = some (.slice none 0 0) ∧ w.cell? ⟨g, 6, none⟩ = some (.slice A 0 c) ∧ w.cell? ⟨g, 7, none⟩ = some (.slice B 0 d) ∧ w.cell? ⟨g, 8, none⟩ = some (.slice none 0 0) ∧ w.cell? ⟨g, 9, none⟩ = some (.bool s) ∧ w.cell? ⟨g, 10, none⟩ = some (.bool f) := by
  refine ⟨?_, ?_, ?_, ?_, ?_, ?_, ?_, ?_, ?_, ?_, ?_⟩ <;> (rw [blk_cell h]; rfl)
theorem made_aw (g : Nat) (A : Option Addr) (c : Nat) (B : Option Addr) (d : Nat) (s f : Bool) (w : World) (h : AwT w g A c B d s f) : Calls Try.prog 10 #[.pointer (some ⟨g, 0, none⟩)] w fun e w' => e = .returned (.bool true) ∧ Below w.heap.size w w' := by
  obtain ⟨h0, h1, h2, h3, h4, -⟩ := h.cells
  have HC := Lib.hid (fun W => shape_Check.calls 10 1 8 0 0 0 0 W (by kernel_rfl))
  go_enter Try.func10, Try.ntmps10
  go_wp2_with (go_at_call 14; (with_reducible refine (HC.out _).mono ?_); rintro e w1 ⟨rfl, hb⟩)
  go_ret
  exact ⟨rfl, by first | exact hb | exact hb.below⟩
theorem kept_aw (g : Nat) (A : Option Addr) (c : Nat) (B : Option Addr) (d : Nat) (s : Bool) (w : World) (h : AwT w g A c B d s true) : Calls Try.prog 4 #[.pointer (some ⟨g, 0, none⟩)] w fun e w' => ∃ q k, e = .returned (.tuple #[.slice q 0 k, .bool true]) ∧ Below w.heap.size w w' := by
  have HM := Lib.hid (made_aw g A c B d s true w h)
  have hg : g < w.heap.size := blk_lt h
  go_enter Try.func4, Try.ntmps4
  go_wp2_with (go_at_call 10; (with_reducible refine HM.out.mono ?_); rintro e w1 ⟨rfl, hb⟩; have HB1 := Lib.hid hb; have h1 : AwT w1 g A c B d s true := blk_below h hb; have hg1 : g < w1.heap.size := blk_lt h1; obtain ⟨-, -, -, -, -, k5, k6, k7, k8, k9, k10⟩ := h1.cells; clear hb h1)
  go_region_held3 (fun w' => w'.cell? ⟨g, 5, none⟩ = some (.slice none 0 0) ∧ w'.cell? ⟨g, 7, none⟩ = some (.slice B 0 d)) (refine ⟨?_, ?_⟩ <;> first | exact k5 | exact k7 | exact (HB2.out.cell hg1).trans k5 | exact (HB2.out.cell hg1).trans k7 | go_keep)
    ((go_at_call 11; (with_reducible refine (of_none _ _ _).mono ?_); rintro e w2 ⟨q, k, rfl, hb⟩; have HB2 := Lib.hid hb; clear hb))
  have HB3 := Lib.hid (below_step (below_drew1 HB1.out) HB2.out)
  go_wp2
  go_ret2
  first | exact ⟨_, _, rfl, HB3.out⟩ | exact ⟨⟨_, _, rfl⟩, HB3.out⟩
theorem look2_aw (g : Nat) (A : Option Addr) (c : Nat) (B : Option Addr) (d : Nat) (f : Bool) (w : World) (h : AwT w g A c B d true f) : Calls Try.prog 5 #[.pointer (some ⟨g, 0, none⟩), .agg clsC, .slice none 0 0] w fun e w' => e = .returned (.int .i64 7) ∧ Below w.heap.size w w' := by
  have hA := blk_alloc h (.cells clsC 23)
  have HM := Lib.hid (made_aw g A c B d true f _ hA)
  have HB0 := Lib.hid (below_alloc (Below.refl w.heap.size w) (.cells clsC 23))
  go_enter Try.func5, Try.ntmps5
  go_wp2_with (first
    | (go_at_call 10; (with_reducible refine HM.out.mono ?_); rintro e w1 ⟨rfl, hb⟩; have HB1 := Lib.hid (below_step HB0.out hb); have h1 : AwT w1 g A c B d true f := blk_below hA hb; obtain ⟨-, -, -, -, -, k5, k6, k7, k8, k9, k10⟩ := h1.cells; clear hb h1))
  go_ret
  exact ⟨rfl, HB1.out⟩
theorem look_aw (g : Nat) (A : Option Addr) (c : Nat) (B : Option Addr) (d : Nat) (w : World) (h : AwT w g A c B d false false) : Calls Try.prog 5 #[.pointer (some ⟨g, 0, none⟩), .agg clsC, .slice none 0 0] w fun e w' => e = .returned (.int .i64 0) ∧ AwT w' g A c B d true true ∧ Chg (fun k => k = g) w w' := by
  have hA := blk_alloc h (.cells clsC 23)
  have HM := Lib.hid (made_aw g A c B d false false _ hA)
  have HB0 := Lib.hid (below_alloc (Below.refl w.heap.size w) (.cells clsC 23))
  have HQ := Lib.hid (heap_alloc_new w (.cells clsC 23))
  go_enter Try.func5, Try.ntmps5
  go_wp2_with (first
    | (go_at_call 10; (with_reducible refine HM.out.mono ?_); rintro e w1 ⟨rfl, hb⟩; have HB1 := Lib.hid (below_step HB0.out hb); have h1 : AwT w1 g A c B d false false := blk_below hA hb; obtain ⟨k0, k1, k2, k3, k4, k5, k6, k7, k8, k9, k10⟩ := h1.cells; have HQ1 := Lib.hid (blk_below HQ.out hb); have hf := blk_frozen h1 9; clear hb))
  have HT1 := Lib.hid (blk_put h1 9 (.bool true) rfl)
  have HQ2 := Lib.hid (blk_far HQ1.out (show w.heap.size ≠ g from fun e => by have := blk_lt h; omega) (.bool true) (p := ⟨g, 9, none⟩))
  have HB2 := Lib.hid ((Chg.of_below HB1.out (fun k => k = g)).set (g := g) (j := 9) (v := .bool true) rfl)
  clear k0 k1 k2 k3 k4 k5 k6 k7 k8 k9 k10 hf h1 HB1 HQ1
  generalize w1.setCell ⟨g, 9, none⟩ (.bool true) = W at *
  obtain ⟨k0, k1, k2, k3, k4, k5, k6, k7, k8, k9, k10⟩ := AwT.cells (s := true) (f := false) HT1.out
  obtain ⟨c0, c1, c2, c3, c4, -⟩ := cells_5 HQ2.out
  go_quiet (fail)
  go_wp2
  go_loopw [50] (fun s wr => s = .int .i64 0 ∧ wr = W.drewN nq) (fun s _ => 0)
  case atStart => exact ⟨rfl, rfl⟩
  case round =>
    obtain ⟨rfl, rfl⟩ := hrel
    have hf := blk_frozen HT1.out 10
    go_wp2
    go_ret
    exact ⟨rfl, blk_put HT1.out 10 (.bool true) rfl, (show Chg (fun k => k = g) w (W.drewN nq) from ⟨HB2.out.os, HB2.out.tape, HB2.out.output, HB2.out.size, HB2.out.block⟩).set rfl⟩
set_option maxRecDepth 100000 in
set_option maxHeartbeats 1000000 in
theorem awake30.calls (w : World) : Calls Try.prog 9 #[] w fun e w' => e = .returned (.bool true) ∧ Below w.heap.size w w' := by
  have HB0 := Lib.hid (below_alloc (Below.refl w.heap.size w) (.cells clsC 23))
  have HQ0 := Lib.hid (heap_alloc_new w (.cells clsC 23))
  go_enter Try.func9, Try.ntmps9
  go_wp2_with (first
    | (go_at_call 13; refine (new_none _).mono ?_; rintro e w1 ⟨g, A, c, B, d, rfl, hg, hT, hb⟩; have HB1 := Lib.hid (below_step HB0.out hb); have HT1 := Lib.hid hT; have HQ1 := Lib.hid (blk_below HQ0.out hb); have HG := Lib.hid (show w.heap.size + 1 ≤ g by simpa using hg); obtain ⟨c0, c1, c2, c3, c4, -⟩ := cells_5 HQ1.out; clear hb hT hg)
    | (go_at_call 5; have _t := c0; refine (look_aw g A c B d w1 HT1.out).mono ?_; rintro e w2 ⟨rfl, hT, hc⟩; clear c0 c1 c2 c3 c4; have HT2 := Lib.hid hT; have HB2 := Lib.hid (hc.below HB1.out (fun k hk => by have := HG.out; omega)); have HQ2 := Lib.hid (hc.blk HQ1.out (fun e => by have := HG.out; omega)); clear hT hc)
    | (go_at_call 4; refine (kept_aw g A c B d true w2 HT2.out).mono ?_; rintro e w3 ⟨q, k, rfl, hb⟩; have HB3 := Lib.hid (below_step HB2.out hb); have HT3 := Lib.hid (blk_below HT2.out hb); obtain ⟨k0, k1, k2, k3, k4, -⟩ := cells_5 (blk_below HQ2.out hb); clear hb)
    | (go_at_call 5; refine (look2_aw g A c B d true w3 HT3.out).mono ?_; rintro e w4 ⟨rfl, hb⟩; have HB4 := Lib.hid (below_step HB3.out hb); clear hb))
  go_ret
  exact ⟨rfl, HB4.out⟩
end Go.Proofs.Ytbednnnjahpmlaa.P
