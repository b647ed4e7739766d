/- The tape: its form; New, ready, Take. -/
import Derived.Test.YtdgngpcfikgoeaaDoorMdErr2
import Derived.Test.YtdgngpcfikgoeaaDoorMdWWords
import Derived.Test.YtdgngpcfikgoeaaDoorMdWMore
import Derived.Test.YtdgngpcfikgoeaaDoorMdWLast
import Derived.Lib.Hide
import Derived.IntWalk
import Derived.WalkSpells
import Derived.Outline
import Derived.BigQuiet
import Derived.Deep.RegionHeld3
import Derived.Deep.DrawnRows
import Derived.Deep.RegionLaw
import Derived.Deep.AppendLies
namespace Go.Proofs.YtdgngpcfikgoeaaDoor.P
open Go.RowKit Go.Extern.Stop Go.Stop Go.Extern Go.Proofs.YtdgngpcfikgoeaaDoorW.PrintWords Go.Proofs.YtdgngpcfikgoeaaDoorW.PrintLast Go.Proofs.YtdgngpcfikgoeaaDoorW.PrintMore
set_option linter.unusedVariables false
set_option linter.unusedSimpArgs false
attribute [local go_sem ↓] Go.wp_at_zero Go.wp_at_succ

/-! ### rows of words -/
theorem infoU64 : (Tryd.prog.info? 35).map (fun i => (i.zero, i.size, i.bytes)) = some (some (.int .u64 0), 1, 8) := by kernel_rfl
theorem info_of {t : TypeId} {x : Option Value × Nat × Nat} (h : (Tryd.prog.info? t).map (fun i => (i.zero, i.size, i.bytes)) = some x) : ∃ i0, Tryd.prog.info? t = some i0 ∧ i0.zero = x.1 ∧ i0.size = x.2.1 ∧ i0.bytes = x.2.2 := by
  obtain ⟨i0, hi, hzz⟩ := Option.map_eq_some_iff.1 h
  subst hzz
  exact ⟨i0, hi, rfl, rfl, rfl⟩
/-- a row of words of the law's own -/
abbrev RU (B : Nat) (w : World) (v : Value) (l : List Int) : Prop := Kd.R (Kd.int .u64) 35 w B (fun _ => True) v l
theorem RU.move {B : Nat} {w w1 : World} {v : Value} {l : List Int} (h : RU B w v l) (hm : ∀ k, v.ownBlock = some k → w1.heap[k]? = w.heap[k]?) : RU B w1 v l :=
  Kd.R_reok rfl (Kd.R_move (Kd.R_tight rfl h) (fun k hk => hm k hk.symm)) (fun _ _ => trivial)
theorem RU.lt {B : Nat} {w : World} {v : Value} {l : List Int} (h : RU B w v l) : ∀ k, v.ownBlock = some k → k < w.heap.size := by
  obtain ⟨inner, ho⟩ := Kd.R_own h
  exact fun k hk => own_lt ho k hk
theorem RU.ge {B : Nat} {w : World} {v : Value} {l : List Int} (h : RU B w v l) : ∀ k, v.ownBlock = some k → B ≤ k := by
  obtain ⟨inner, ho⟩ := Kd.R_own h
  exact fun k hk => own_base ho k hk
theorem RU.chg {B : Nat} {S : Nat → Prop} {w w1 : World} {v : Value} {l : List Int} (h : RU B w v l) (hc : Chg S w w1) (hv : ∀ k, v.ownBlock = some k → ¬ S k) : RU B w1 v l := h.move (fun k hk => hc.block k (h.lt k hk) (hv k hk))
theorem RU.form {B : Nat} {w : World} {v : Value} {l : List Int} (h : RU B w v l) : ∃ A c, v = .slice A l.length c ∧ l.length ≤ c ∧ Kd.C (Kd.int .u64) w A l.length l := Kd.R_reads h
theorem RU.ne {B : Nat} {w : World} {v : Value} {l : List Int} (h : RU B w v l) {g t : Nat} {cs : Array Value} (hb : w.heap[g]? = some (.cells cs t (0, 0))) (ht : 35 ≠ t) : v.ownBlock ≠ some g := fun e => Kd.R_ne h hb ht e.symm

/-! ### slices.Clone -/
theorem RU_empty (W : World) (B : Nat) (hb : B ≤ W.heap.size) : RU B (W.alloc (.cells #[] 35)) (.slice (some ⟨W.heap.size, 0, none⟩) 0 0) ([] : List Int) :=
  ⟨fun k hk => trivial, [], ⟨by simp, .inr ⟨W.heap.size, 0, #[], rfl, hb, heap_alloc_new W _, Nat.le_refl _, by unfold maxLen; omega, by simp, by simp⟩⟩, Reps.none _ _⟩
theorem eC_none {α : Type} {d : Kd α} {w : World} {n : Nat} {xs : List α} (h : d.C w none n xs) : xs = [] := by
  have h0 := h.1
  rcases Nat.eq_zero_or_pos n with h1 | h1
  · exact List.eq_nil_of_length_eq_zero (by omega)
  · obtain ⟨ad, he, _⟩ := h.2.2 h1
    cases he
set_option maxHeartbeats 400000 in
theorem clone_ok (A : Option Addr) (c : Nat) (l : List Int) (w : World) (hr : Kd.C (Kd.int .u64) w A l.length l) (hs : l.length * 8 ≤ 140737488355328) :
    Calls Tryd.prog 32 #[.slice A l.length c] w fun e w' => ∃ v, e = .returned v ∧ RU w.heap.size w' v l ∧ Below w.heap.size w w' := by
  have q : ∀ (w : World) (a : Option Addr) (n c n' c' : Nat), (binOp .eql 22 (.slice a n c) (.slice none n' c')).run Tryd.prog w = .ok (.bool a.isNone) w := fun w a n c n' c' => Lib.run_eql_slice_nil w _ _ a n c n' c' Tryd.underlying22
  have HR := Aside0.mk hr
  clear hr
  cases A with
  | none =>
    have HL := Aside0.mk (eC_none HR.out)
    go_enter Tryd.func32, Tryd.ntmps32
    go_wp2
    go_ret
    refine ⟨_, rfl, ?_, Below.refl _ _⟩
    rw [HL.out]
    exact Kd.R_nil _ _ _ _ _
  | some ad =>
    go_enter Tryd.func32, Tryd.ntmps32
    go_wp2_with (at_builtin; refine Kd.R_append_rows (Kd.int .u64) (Rr := (Kd.int .u64).K w) (w0 := w) w.heap.size rfl (.tmp 5) (.tmp 6) 22 35 (.int .u64 0) 8 rfl Tryd.underlying22 infoU64 rfl (by decide) (by omega) (.slice (some ⟨w.heap.size, 0, none⟩) 0 0) [] l (some ad) l.length c (fun _ => True) (fun _ => False) rfl rfl ?aO ?aR ?aK (fun _ hk => hk.elim) (fun _ _ => trivial) ?aB ?aS ?aL ?_; (case aO => exact RU_empty _ _ (Nat.le_refl _)); (case aR => exact Kd.C_alloc HR.out _); (case aK => exact fun _ _ h => h); (case aB => exact below_alloc (Below.refl _ _) _); (case aS => simp); (case aL => simpa using hs); intro v w1 ho hb hg hat)
    go_ret
    exact ⟨v, rfl, ho, hb⟩

theorem wrap_i64 {x : Int} (h0 : -9223372036854775808 ≤ x) (h1 : x ≤ 9223372036854775807) : IntKind.i64.wrap x = x := by rw [IntKind.wrap_i64]; omega
theorem undrew {w w1 : World} (h : Below w.drew.heap.size w.drew w1) : Below w.heap.size w w1 := ⟨h.os, h.tape, h.output, h.size, h.block⟩
/-! ### the tape -/
/-- a tape at g: its words, and how many are read -/
structure TAt (w : World) (B g : Nat) (v : Value) (l : List Int) (a : Nat) : Prop where
  blk : w.heap[g]? = some (.cells #[v, .int .i64 (a : Int), .bool true] 37 (0, 0))
  ge : B ≤ g
  row : RU B w v l
  le : a ≤ l.length
  len : l.length ≤ 1048576
theorem TAt.chg {B g : Nat} {S : Nat → Prop} {w w1 : World} {v : Value} {l : List Int} {a : Nat} (h : TAt w B g v l a) (hc : Chg S w w1) (hg : ¬ S g) (hv : ∀ k, v.ownBlock = some k → ¬ S k) : TAt w1 B g v l a :=
  ⟨(hc.block g (blk_lt h.blk) hg).trans h.blk, h.ge, h.row.chg hc hv, h.le, h.len⟩
theorem TAt.below {B g : Nat} {w w1 : World} {v : Value} {l : List Int} {a : Nat} (h : TAt w B g v l a) (hb : Below w.heap.size w w1) : TAt w1 B g v l a := h.chg (Chg.of_below hb (fun _ => False)) (fun q => q) (fun _ _ q => q)
theorem TAt.set {B g : Nat} {w : World} {v : Value} {l : List Int} {a b : Nat} (h : TAt w B g v l a) (hb : b ≤ l.length) : TAt (w.setCell ⟨g, 1, none⟩ (.int .i64 (b : Int))) B g v l b :=
  ⟨by simpa using blk_set h.blk 1 (.int .i64 (b : Int)), h.ge, h.row.move (fun k hk => Below.heap_setCell _ _ _ _ (fun e => h.row.ne h.blk (by decide) (by rw [hk, e]))), hb, h.len⟩
theorem tcells {B g : Nat} {w : World} {v : Value} {l : List Int} {a : Nat} (h : TAt w B g v l a) : w.cell? ⟨g, 0, none⟩ = some v ∧ w.cell? ⟨g, 1, none⟩ = some (.int .i64 (a : Int)) ∧ w.cell? ⟨g, 2, none⟩ = some (.bool true) ∧ w.frozen? ⟨g, 1, none⟩ = false :=
  ⟨(ecells_3 h.blk).1, (ecells_3 h.blk).2.1, (ecells_3 h.blk).2.2, blk_frozen h.blk 1⟩

theorem tnew_ok (A : Option Addr) (c : Nat) (l : List Int) (w : World) (hr : Kd.C (Kd.int .u64) w A l.length l) (hl : l.length ≤ 1048576) :
    Calls Tryd.prog 11 #[.slice A l.length c] w fun e w' => ∃ g v, e = .returned (.tuple #[.pointer (some ⟨g, 0, none⟩), .nilIface]) ∧ TAt w' w.heap.size g v l 0 ∧ Below w.heap.size w w' := by
  have HC := Lib.hid (clone_ok A c l w hr (by omega))
  have h0 : ¬ ((l.length : Int) > 1048576) := by omega
  have HLen := Lib.hid hl
  clear hr hl
  go_enter Tryd.func11, Tryd.ntmps11
  go_wp2_with (go_at_call 32; (with_reducible refine HC.out.mono ?_); rintro e w1 ⟨v, rfl, hv, hb⟩; obtain ⟨A1, c1, rfl, -, -⟩ := hv.form; have HV := Aside0.mk hv; have HB := Aside0.mk hb; clear hv hb)
  go_ret2
  exact ⟨w1.heap.size, _, rfl, ⟨heap_alloc_new w1 _, HB.out.size, HV.out.move (fun k hk => Below.heap_alloc _ _ _ (HV.out.lt k hk)), Nat.zero_le _, HLen.out⟩, below_alloc HB.out _⟩

/-- a call on a tape that is refused, and with what -/
inductive Bad (w : World) (n : Int) : Value → Int → Prop
  | none : Bad w n (.pointer none) 3
  | zero (g : Nat) (h : w.heap[g]? = some (.cells #[.slice none 0 0, .int .i64 0, .bool false] 37 (0, 0))) : Bad w n (.pointer (some ⟨g, 0, none⟩)) 3
  | neg (B g : Nat) (v : Value) (l : List Int) (a : Nat) (h : TAt w B g v l a) (hn : n < 0) : Bad w n (.pointer (some ⟨g, 0, none⟩)) 1
  | far (B g : Nat) (v : Value) (l : List Int) (a : Nat) (h : TAt w B g v l a) (hn : 0 ≤ n) (hf : n > (l.length : Int) - a) : Bad w n (.pointer (some ⟨g, 0, none⟩)) 10
theorem Bad.ne {w : World} {n c : Int} {tp : Value} (h : Bad w n tp c) : c ≠ 0 := by cases h <;> decide
theorem ready_bad (n : Int) (tp : Value) (c : Int) (w : World) (h : Bad w n tp c) : Calls Tryd.prog 33 #[tp, .int .i64 n] w fun e w' => ∃ v, e = .returned v ∧ ErrIs 0 w' v c ∧ Below w.heap.size w w' := by
  have HN := Lib.hid (fun W (c : Int) (hc : c ≠ 0) => fnew_err c ⟨#[116, 97, 112, 101]⟩ W hc)
  cases h with
  | none =>
    go_enter Tryd.func33, Tryd.ntmps33
    go_wp2_with (go_at_call 31; (with_reducible refine (HN.out _ _ (by decide)).mono ?_); rintro e w1 ⟨v, rfl, hv, hb⟩; have HV := Aside0.mk hv; have HB := Aside0.mk hb; clear hv hb)
    go_ret
    exact ⟨v, rfl, HV.out, HB.out⟩
  | zero g h =>
    obtain ⟨c0, c1, c2⟩ := ecells_3 h
    go_enter Tryd.func33, Tryd.ntmps33
    go_wp2_with (go_at_call 31; (with_reducible refine (HN.out _ _ (by decide)).mono ?_); rintro e w1 ⟨v, rfl, hv, hb⟩; have HV := Aside0.mk hv; have HB := Aside0.mk hb; clear hv hb)
    go_ret
    exact ⟨v, rfl, HV.out, HB.out⟩
  | neg B g v l a h hn =>
    obtain ⟨c0, c1, c2, -⟩ := tcells h
    clear h
    go_enter Tryd.func33, Tryd.ntmps33
    go_wp2_with (go_at_call 31; (with_reducible refine (HN.out _ _ (by decide)).mono ?_); rintro e w1 ⟨v, rfl, hv, hb⟩; have HV := Aside0.mk hv; have HB := Aside0.mk hb; clear hv hb)
    go_ret
    exact ⟨_, rfl, HV.out, HB.out⟩
  | far B g v l a h hn hf =>
    obtain ⟨c0, c1, c2, -⟩ := tcells h
    obtain ⟨A, cp, rfl, -, -⟩ := h.row.form
    have hle := h.le
    have hlen := h.len
    have hn0 : ¬ n < 0 := by omega
    have hw1 : IntKind.i64.wrap ((l.length : Int) - (a : Int)) = (l.length : Int) - a := wrap_i64 (by omega) (by omega)
    clear h
    go_enter Tryd.func33, Tryd.ntmps33
    go_wp2_with fail
    go_region_held3 (fun W => W.cell? ⟨g, 0, none⟩ = some (.slice A l.length cp) ∧ W.cell? ⟨g, 1, none⟩ = some (.int .i64 (a : Int))) (go_keep) (fail)
    go_wp2_with (go_at_call 31; (with_reducible refine (HN.out _ _ (by decide)).mono ?_); rintro e w1 ⟨v, rfl, hv, hb⟩; have HV := Aside0.mk hv; have HB := Aside0.mk hb; clear hv hb)
    go_ret
    exact ⟨_, rfl, HV.out, undrew HB.out⟩
theorem ready_ok (n : Int) (w : World) (B g : Nat) (v : Value) (l : List Int) (a : Nat) (h : TAt w B g v l a) (hn : 0 ≤ n) (hf : n ≤ (l.length : Int) - a) : Calls Tryd.prog 33 #[.pointer (some ⟨g, 0, none⟩), .int .i64 n] w fun e w' => e = .returned .nilIface ∧ w' = w.drew := by
  obtain ⟨c0, c1, c2, -⟩ := tcells h
  obtain ⟨A, cp, rfl, -, -⟩ := h.row.form
  have hle := h.le
  have hlen := h.len
  have hn0 : ¬ n < 0 := by omega
  have hf0 : ¬ n > (l.length : Int) - a := by omega
  have hw1 : IntKind.i64.wrap ((l.length : Int) - (a : Int)) = (l.length : Int) - a := wrap_i64 (by omega) (by omega)
  clear h
  go_enter Tryd.func33, Tryd.ntmps33
  go_wp2_with fail
  go_region_held3 (fun W => W.cell? ⟨g, 0, none⟩ = some (.slice A l.length cp) ∧ W.cell? ⟨g, 1, none⟩ = some (.int .i64 (a : Int))) (go_keep) (fail)
  go_wp2
  go_ret
  exact ⟨rfl, rfl⟩
theorem cutU (A : Option Addr) (c : Nat) (l : List Int) (w : World) (hr : Kd.C (Kd.int .u64) w A l.length l) (hc : l.length ≤ c) (lo hi : Int) (h0 : 0 ≤ lo) (h1 : lo ≤ hi) (h2 : hi ≤ (l.length : Int)) (Y : List Int) (hY : Y = (l.take hi.toNat).drop lo.toNat) :
    ∃ A1 c1, (∀ W : World, (Instr.slice 22 (.slice A l.length c) (some (.int .i64 lo)) (some (.int .i64 hi)) none).run Tryd.prog W = .ok (.slice A1 Y.length c1) W) ∧ Kd.C (Kd.int .u64) w A1 Y.length Y ∧ Y.length ≤ c1 := by
  obtain ⟨i0, hi0, _, hz1, _⟩ := info_of infoU64
  have hcut := cut_mid (P := Tryd.prog) 22 35 .i64 .i64 Tryd.underlying22 hi0 1 hz1 A l.length c lo hi h0 h1 h2 hc
  have hl : Y.length = hi.toNat - lo.toNat := by rw [hY, List.length_drop, List.length_take]; omega
  have hr := Kd.C_mid (lo := lo.toNat) (hi := hi.toNat) (c := c) hr (by omega) (by omega) hc
  rw [← hY] at hr
  rw [← hl] at hcut
  refine ⟨_, _, hcut, hr, ?_⟩
  rw [hl]
  omega
/-! ### Take -/
theorem take_bad (n : Int) (tp : Value) (c : Int) (w : World) (h : Bad w n tp c) : Calls Tryd.prog 12 #[tp, .int .i64 n] w fun e w' => ∃ v, e = .returned (.tuple #[.slice none 0 0, v]) ∧ ErrIs 1 w' v c ∧ Below w.heap.size w w' := by
  have HR := Lib.hid (ready_bad n tp c w h)
  have HW := Lib.hid (fun W v (hE : ErrIs 0 W v c) => fwrap_err ⟨#[116, 97, 107, 101]⟩ 0 v c W hE)
  clear h
  go_enter Tryd.func12, Tryd.ntmps12
  go_wp2_with (first
    | (go_at_call 33; (with_reducible refine HR.out.mono ?_); rintro e w1 ⟨v, rfl, hv, hb⟩; have HV := Lib.hid hv; have HB := Lib.hid hb; obtain ⟨p, rfl⟩ := hv.form; clear hv hb)
    | (go_at_call 34; (with_reducible refine (HW.out _ _ HV.out).mono ?_); rintro e w2 ⟨v2, rfl, hv, hb⟩; have HV2 := Lib.hid hv; have HB2 := Lib.hid hb; clear hv hb))
  go_ret2
  exact ⟨v2, rfl, HV2.out, below_step HB.out HB2.out⟩
set_option maxHeartbeats 1600000 in
theorem take_ok (n : Nat) (w : World) (B g : Nat) (v : Value) (l : List Int) (a : Nat) (h : TAt w B g v l a) (hf : a + n ≤ l.length) :
    Calls Tryd.prog 12 #[.pointer (some ⟨g, 0, none⟩), .int .i64 (n : Int)] w fun e w' => ∃ u, e = .returned (.tuple #[u, .nilIface]) ∧ RU w.heap.size w' u ((l.take (a + n)).drop a) ∧ TAt w' B g v l (a + n) ∧ Chg (fun k => k = g) w w' := by
  have hR := ready_ok (n : Int) w B g v l a h (by omega) (by omega)
  obtain ⟨c0, c1, c2, cf⟩ := tcells h
  obtain ⟨A, cp, rfl, hcp, hC⟩ := h.row.form
  have hle := h.le
  have hlen := h.len
  obtain ⟨z, hz⟩ : ∃ z : Int, z = ((a + n : Nat) : Int) := ⟨_, rfl⟩
  have hw1 : IntKind.i64.wrap ((a : Int) + (n : Int)) = z := by rw [wrap_i64 (by omega) (by omega)]; omega
  obtain ⟨A1, c3, hcut, hC1, hc3⟩ := cutU A cp l w hC hcp (a : Int) z (by omega) (by omega) (by omega) ((l.take (a + n)).drop a) (by rw [hz, Int.toNat_natCast, Int.toNat_natCast])
  have hYl : ((l.take (a + n)).drop a).length ≤ 1048576 := by rw [List.length_drop, List.length_take]; omega
  generalize hY : (l.take (a + n)).drop a = Y at hcut hC1 hc3 hYl
  have HC := Lib.hid (fun W (hr : Kd.C (Kd.int .u64) W A1 Y.length Y) => clone_ok A1 c3 Y W hr (by omega))
  have HR := Lib.hid hR
  have H := Lib.hid h
  have HC1 := Lib.hid hC1
  have HLE := Lib.hid hf
  have HY := Lib.hid hY
  have HZ := Lib.hid hz
  clear hz hR h hC1 hC hY hcp hc3 hYl hle hlen hf
  go_enter Tryd.func12, Tryd.ntmps12
  go_wp2_with (go_at_call 33; (with_reducible refine HR.out.mono ?_); rintro e w1 ⟨rfl, rfl⟩)
  go_region_held3 (fun W => W.cell? ⟨g, 0, none⟩ = some (.slice A l.length cp) ∧ W.cell? ⟨g, 1, none⟩ = some (.int .i64 (a : Int))) (go_keep)
    ((go_at_call 32; (with_reducible refine (HC.out _ (Kd.C_below HC1.out (below_drew (below_drew (Below.refl _ _))))).mono ?_); rintro e w1 ⟨u, rfl, hu, hb⟩; have hb1 := undrew (undrew hb); have HT1 := Lib.hid (H.out.below hb1); obtain ⟨k0, k1, k2, kf⟩ := tcells HT1.out; have HB := Lib.hid hb1; have HU := Lib.hid hu; obtain ⟨A2, c2', rfl, -, -⟩ := hu.form; clear hu hb hb1))
  go_wp2
  go_ret2
  have hu : RU w.heap.size w1 (.slice A2 Y.length c2') Y := HU.out
  refine ⟨_, rfl, ?_, ?_, ?_⟩
  · exact hu.move (fun k hk => Below.heap_setCell _ _ _ _ (fun e => hu.ne HT1.out.blk (by decide) (by rw [hk, e])))
  · have h := HT1.out.set HLE.out
    rw [← HZ.out] at h
    exact h
  · exact (Chg.of_below HB.out _).set rfl
end Go.Proofs.YtdgngpcfikgoeaaDoor.P
