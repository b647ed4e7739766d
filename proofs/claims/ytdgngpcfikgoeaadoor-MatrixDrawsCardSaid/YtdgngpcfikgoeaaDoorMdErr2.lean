/- fault.Code: the number at the root of an error. -/
import Derived.Test.YtdgngpcfikgoeaaDoorMdErr1
import Derived.Test.YtdgngpcfikgoeaaDoorMdWWords
import Derived.Test.YtdgngpcfikgoeaaDoorMdWMore
import Derived.Test.YtdgngpcfikgoeaaDoorMdWLast
import Derived.Lib.Hide
import Derived.IntWalk
import Derived.WalkSpells
import Derived.Outline
import Derived.BigQuiet
import Derived.Deep.RegionHeld3
import Derived.Deep.DrawnRows
import Derived.Deep.RegionLaw
import Derived.Deep.AppendLies
namespace Go.Proofs.YtdgngpcfikgoeaaDoor.P
open Go.RowKit Go.Extern.Stop Go.Stop Go.Extern Go.Proofs.YtdgngpcfikgoeaaDoorW.PrintWords Go.Proofs.YtdgngpcfikgoeaaDoorW.PrintLast Go.Proofs.YtdgngpcfikgoeaaDoorW.PrintMore
set_option linter.unusedVariables false
set_option linter.unusedSimpArgs false
attribute [local go_sem ↓] Go.wp_at_zero Go.wp_at_succ

/-! ### errors.As at a fault -/
theorem as_fault (p tb : Nat) (w : World) (hd : Door w) (ht : w.heap[tb]? = some (.cells #[.pointer none] 93 (0, 0))) : Calls Tryd.prog 61 #[.iface 93 (.pointer (some ⟨p, 0, none⟩)), .iface 110 (.pointer (some ⟨tb, 0, none⟩))] w fun e w' => e = .returned (.bool true) ∧ w'.heap[tb]? = some (.cells #[.pointer (some ⟨p, 0, none⟩)] 93 (0, 0)) ∧ Chg (fun k => k = tb) w w' := by
  refine (as_hit ⟨p, 0, none⟩ ⟨tb, 0, none⟩ (.pointer none) w hd.cell (by simpa using blk_cell ht 0) (blk_frozen ht 0)).mono fun e w' ⟨he, hw⟩ => ?_
  subst hw
  have hb := below_alloc (below_alloc (below_alloc (below_alloc (Below.refl w.heap.size w) (.cells #[.pointer (some ⟨tb, 0, none⟩)] 110)) (.cells #[.pointer (some ⟨1, 110, none⟩), .pointer (some ⟨w.heap.size, 0, none⟩), .int .u64 150] 122)) (.cells #[.pointer (some ⟨1, 110, none⟩), .pointer (some ⟨w.heap.size, 0, none⟩), .int .u64 150] 122)) (.cells #[.pointer (some ⟨p, 0, none⟩)] 93)
  refine ⟨he, ?_, (Chg.of_below hb (fun k => k = tb)).set rfl⟩
  have h := blk_set ((hb.block tb (blk_lt ht)).trans ht) 0 (.pointer (some ⟨p, 0, none⟩))
  simpa using h

theorem ecells_3 {W : World} {g t : Nat} {a b c : Value} (h : W.heap[g]? = some (.cells #[a, b, c] t (0, 0))) : W.cell? ⟨g, 0, none⟩ = some a ∧ W.cell? ⟨g, 1, none⟩ = some b ∧ W.cell? ⟨g, 2, none⟩ = some c := ⟨by simpa using blk_cell h 0, by simpa using blk_cell h 1, by simpa using blk_cell h 2⟩
theorem ecells_1 {W : World} {g t : Nat} {a : Value} (h : W.heap[g]? = some (.cells #[a] t (0, 0))) : W.cell? ⟨g, 0, none⟩ = some a ∧ W.frozen? ⟨g, 0, none⟩ = false := ⟨by simpa using blk_cell h 0, blk_frozen h 0⟩

theorem noUnwraps (v : Value) (xT : TypeId) (w : World) : (Instr.typeAssert (.iface 93 v) xT 106 true).run Tryd.prog w = .ok (.tuple #[.nilIface, .bool false]) w := run_typeAssert_lacksB Tryd.underlying106 (by kernel_rfl) (by kernel_rfl) v xT w

theorem infoErrno : (Tryd.prog.info? 48).map (fun i => (i.zero, i.size, i.bytes)) = some (some (.int .i64 0), 1, 8) := by kernel_rfl
/-- what collect leaves: the list's variable holds the number alone -/
structure Told (w w' : World) (b : Nat) (c : Int) : Prop where
  row : ∃ r q, w'.heap[b]? = some (.cells #[.slice (some ⟨r, 0, none⟩) 1 q] 75 (0, 0)) ∧ w'.cell? ⟨r, 0, none⟩ = some (.int .i64 c)
  chg : Chg (fun k => k = b) w w'

set_option maxHeartbeats 1600000 in
set_option maxRecDepth 100000 in
theorem collect_ok : ∀ (n : Nat) (v : Value) (c : Int) (b : Nat) (w : World), ErrIs n w v c → Door w → w.heap[b]? = some (.cells #[.slice none 0 0] 75 (0, 0)) →
    Calls Tryd.prog 51 #[v, .pointer (some ⟨b, 0, none⟩)] w fun e w' => e = .returned (.tuple #[]) ∧ Told w w' b c
  | n, v, c, b, w, hE, hd, hb => by
    obtain ⟨p, rfl⟩ := hE.form
    have hno := noUnwraps
    have hlt := blk_lt hb
    have HA := Lib.hid (fun W (hd' : Door W) (ht : W.heap[w.heap.size]? = some (.cells #[.pointer none] 93 (0, 0))) => as_fault p w.heap.size W hd' ht)
    have hB2 := below_alloc (below_alloc (Below.refl w.heap.size w) (.cells #[.pointer none] 93)) (.cells #[.int .i64 0] 48)
    have HD2 := Lib.hid (hd.below hB2 hd.lt)
    have HT2 : Hid (((w.alloc (.cells #[.pointer none] 93)).alloc (.cells #[.int .i64 0] 48)).heap[w.heap.size]? = some (.cells #[.pointer none] 93 (0, 0))) := Lib.hid ((Below.heap_alloc _ _ _ (by simp)).trans (heap_alloc_new w _))
    have hpn : ∀ cs, w.heap[w.heap.size]? ≠ some (.cells cs 95 (0, 0)) := fun cs h => absurd (blk_lt h) (by omega)
    cases n with
    | zero =>
      obtain ⟨p', s, e, hp⟩ := hE
      injection e with e1 e2
      injection e2 with e2
      injection e2 with e2
      injection e2 with e2
      subst e2
      have hpl := blk_lt hp
      have KP := Lib.hid ((hB2.block p hpl).trans hp)
      have KB := Lib.hid ((hB2.block b hlt).trans hb)
      have HB2 := Lib.hid hB2
      have HPL := Lib.hid hpl
      have HBL := Lib.hid hlt
      clear hB2 hd hb hp hpn hpl hlt
      go_enter Tryd.func51, Tryd.ntmps51
      go_wp2_with (go_at_call 61; (with_reducible refine (HA.out _ HD2.out HT2.out).mono ?_); rintro e w3 ⟨rfl, h3, hc3⟩; obtain ⟨f0, ff0⟩ := ecells_1 h3; obtain ⟨p0, p1, p2⟩ := ecells_3 ((hc3.block p (blk_lt KP.out) (fun q => by have := HPL.out; omega)).trans KP.out); have KB3 := Aside0.mk ((hc3.block b (blk_lt KB.out) (fun q => by have := HBL.out; omega)).trans KB.out); obtain ⟨l0, lf0⟩ := ecells_1 KB3.out; have H3 := Lib.hid h3; have HC3 := Aside0.mk hc3; clear h3 hc3)
      obtain ⟨i0, hi0, hzz⟩ := Option.map_eq_some_iff.1 infoErrno
      simp only [Prod.mk.injEq] at hzz
      obtain ⟨hz0, hz1, hz2⟩ := hzz
      have n0 : (w3.alloc (.cells #[.int .i64 c] 48)).cell? ⟨b, 0, none⟩ = some (.slice none 0 0) := by simpa using blk_cell (blk_alloc KB3.out (.cells #[.int .i64 c] 48)) 0
      have n1 : (w3.alloc (.cells #[.int .i64 c] 48)).drew.cell? ⟨b, 0, none⟩ = some (.slice none 0 0) := n0
      go_region_law ((refine step_append_lies _ (by rfl) (.tmp 35) (.tmp 40) 75 (by rfl) w3.heap.size 48 i0 (.int .i64 0) 1 8 Tryd.underlying75 hi0 hz0 hz1 hz2 rfl (by decide) (.slice none 0 0) 0 [] (by rfl) (own_nil _ _ _ _) ⟨w3.heap.size, 0, none⟩ 1 1 [.int .i64 c] (by rfl) (by rfl) (World.news_of_block (cs := #[.int .i64 c]) (t := 48) (fr := (0, 0)) (heap_alloc_new w3 _)) (by intro u hu; rw [List.mem_singleton.1 hu]; rfl) (by decide) (by decide) (by decide) (by simp) (w3.heap.size + 1) (by simp) ?_; intro g2 cap2 w4 hown hgrow hat hlt2; have KB4 := Aside0.mk ((hgrow.block b (by have := blk_lt KB3.out; simp; omega) (by simp [Value.ownBlock])).trans (blk_alloc KB3.out _)); obtain ⟨m0, mf0⟩ := ecells_1 KB4.out; have HG4 := Aside0.mk hgrow; have HO4 := Aside0.mk hown; clear hgrow hat hown))
      all_goals
        go_wp2
        go_end0
        have hg4 := own_at (k := .i64) (xs := [c]) HO4.out 0 (by omega) (by omega)
        have hne : b ≠ g2 := fun e => own_ne HO4.out KB4.out (by decide) (by rw [e]; rfl)
        refine ⟨rfl, ⟨g2, cap2, by simpa using blk_set KB4.out 0 (.slice (some ⟨g2, 0, none⟩) 1 cap2), ?_⟩, ?_⟩
        · exact (cell_of_heap (Below.heap_setCell w4 ⟨b, 0, none⟩ _ g2 (fun e => hne e.symm))).trans hg4.1
        · exact (((((Chg.of_below HB2.out (fun k => k = b ∨ k = w.heap.size)).trans (HC3.out.mono (fun _ _ h => .inr h))).alloc _).drew.grown HG4.out (fun k e => by cases e)).set (.inl rfl)).mono (fun k hk h => by rcases h with h | h; exact h; omega)
    | succ n =>
      obtain ⟨p', s, u, e, hp, hu⟩ := hE
      injection e with e1 e2
      injection e2 with e2
      injection e2 with e2
      injection e2 with e2
      subst e2
      have hpl := blk_lt hp
      have KP := Lib.hid ((hB2.block p hpl).trans hp)
      have KB := Lib.hid ((hB2.block b hlt).trans hb)
      have HU := Lib.hid (hu.below hB2)
      have HB2 := Lib.hid hB2
      have HPL := Lib.hid hpl
      have HBL := Lib.hid hlt
      have HD := Lib.hid hd
      have IH := Lib.hid (fun W h1 h2 h3 => collect_ok n u c b W h1 h2 h3)
      obtain ⟨p2, rfl⟩ := hu.form
      clear hB2 hd hb hp hpn hpl hlt hu
      go_enter Tryd.func51, Tryd.ntmps51
      go_wp2_with (first
        | (go_at_call 61; (with_reducible refine (HA.out _ HD2.out HT2.out).mono ?_); rintro e w3 ⟨rfl, h3, hc3⟩; obtain ⟨f0, ff0⟩ := ecells_1 h3; obtain ⟨p0, p1, p2⟩ := ecells_3 ((hc3.block p (blk_lt KP.out) (fun q => by have := HPL.out; omega)).trans KP.out); have KB3 := Aside0.mk ((hc3.block b (blk_lt KB.out) (fun q => by have := HBL.out; omega)).trans KB.out); have HU3 := Lib.hid (HU.out.chg hc3 (fun k cs q h => by subst q; rw [HT2.out] at h; injection h with h; injection h with _ h; exact absurd h (by decide))); have HD3 := Lib.hid (HD2.out.chg hc3 (fun q => by have := HD.out.lt; omega)); have HC3 := Aside0.mk hc3; clear h3 hc3)
        | (go_at_call 51; (with_reducible refine (IH.out _ HU3.out HD3.out KB3.out).mono ?_); rintro e w4 ⟨rfl, HT4⟩))
      go_end0
      obtain ⟨⟨r, q, hr, hq⟩, hc4⟩ := HT4
      refine ⟨rfl, ⟨r, q, hr, hq⟩, ?_⟩
      exact (((Chg.of_below HB2.out (fun k => k = b ∨ k = w.heap.size)).trans (HC3.out.mono (fun _ _ h => .inr h))).trans (hc4.mono (fun _ _ h => .inl h))).mono (fun k hk h => by rcases h with h | h; exact h; omega)

/-! ### fault.Codes, fault.Code -/
theorem codes_ok (n : Nat) (v : Value) (c : Int) (w : World) (hE : ErrIs n w v c) (hd : Door w) : Calls Tryd.prog 35 #[v] w fun e w' => ∃ r q, e = .returned (.slice (some ⟨r, 0, none⟩) 1 q) ∧ w'.cell? ⟨r, 0, none⟩ = some (.int .i64 c) ∧ Below w.heap.size w w' := by
  have hb := below_alloc (Below.refl w.heap.size w) (.cells #[.slice none 0 0] 75)
  have HC := Lib.hid (collect_ok n v c w.heap.size _ (hE.below hb) (hd.below hb hd.lt) (heap_alloc_new w _))
  have HB := Lib.hid hb
  clear hE hd hb
  go_enter Tryd.func35, Tryd.ntmps35
  go_wp2_with (go_at_call 51; (with_reducible refine HC.out.mono ?_); rintro e w4 ⟨rfl, ⟨⟨r, q, hr, hq⟩, hc⟩⟩; obtain ⟨x0, xf0⟩ := ecells_1 hr)
  go_ret
  exact ⟨r, q, rfl, hq, ((Chg.of_below HB.out _).trans hc).none (fun k hk e => by omega)⟩
theorem code_nil (w : World) : Calls Tryd.prog 18 #[.nilIface] w fun e w' => e = .returned (.int .i64 0) ∧ w = w' := by
  go_enter Tryd.func18, Tryd.ntmps18
  go_wp2
  go_ret
  exact ⟨rfl, rfl⟩
theorem code_ok (n : Nat) (v : Value) (c : Int) (w : World) (hE : ErrIs n w v c) (hd : Door w) : Calls Tryd.prog 18 #[v] w fun e w' => e = .returned (.int .i64 c) ∧ Below w.heap.size w w' := by
  have HC := Lib.hid (codes_ok n v c w hE hd)
  obtain ⟨p, rfl⟩ := hE.form
  clear hE hd
  go_enter Tryd.func18, Tryd.ntmps18
  go_wp2_with (go_at_call 35; (with_reducible refine HC.out.mono ?_); rintro e w4 ⟨r, q, rfl, hq, hb⟩; have HB := Aside0.mk hb; clear hb)
  refine wp_loop_rounds 1 ?_
  rw [rounds_succ]
  go_wp2
  go_ret
  exact ⟨rfl, HB.out⟩
end Go.Proofs.YtdgngpcfikgoeaaDoor.P
