/- stream.Joiner: Add takes what came of a chunk. -/
import Derived.BigQuiet
import Derived.Deep.AppendLies
import Derived.Deep.DrawnRows
import Derived.Deep.RegionHeld3
import Derived.Deep.RegionLaw
import Derived.Deep.RegionWith
import Derived.IntWalk
import Derived.Lib.Hide
import Derived.Outline
import Derived.Test.YtojimoebbinhdaaTrPx0
import Derived.WalkSpells
import Derived.Test.YtojimoebbinhdaaTrK1
import Derived.Test.YtojimoebbinhdaaTrK2
import Derived.Test.YtojimoebbinhdaaTrK5
namespace Go.Proofs.Ytojimoebbinhdaa.P
open Go.RowKit Go.Proofs.YtojimoebbinhdaaW.PrintWords Go.Proofs.YtojimoebbinhdaaW.PrintLast Go.Proofs.YtojimoebbinhdaaW.PrintMore
set_option linter.unusedVariables false
set_option linter.unusedSimpArgs false

/-! ### stream_rows: words -/
abbrev kRows : Kd (List Int) := Kd.slice 22 (Kd.int .u64)
theorem M_rows {w : World} {base : Nat} {ok : Nat → Prop} {x : List Int} {cs : List Value} (h : kRows.M w base ok x cs) : ∃ v, cs = [v] ∧ k64.R 22 w base ok v x := h
theorem R_setN {w : World} {base q n cap : Nat} {PL : List (List Int)} {v : Value} {l : List Int} (h : kRows.R 50 w base (fun _ => True) (.slice (some ⟨q, 0, none⟩) n cap) PL) (i : Nat) (hv : k64.R 22 w base (fun _ => True) v l) :
    kRows.R 50 (w.setCell ⟨q, i, none⟩ v) base (fun _ => True) (.slice (some ⟨q, 0, none⟩) n cap) (PL.set i l) := by
  obtain ⟨h0, inner, ho, hr1, hr2⟩ := h
  have hn : n = PL.length := by
    rcases ho.2 with ⟨h', _⟩ | ⟨g', cap', cur, h', -⟩
    · simp at h'
    · injection h' with _ h2 _
  subst hn
  obtain ⟨hs, hg⟩ := ho.stored i v
  have hty : ∃ cs, w.heap[q]? = some (.cells cs 50 (0, 0)) := own_typed ho q (by simp [Value.ownBlock])
  obtain ⟨cs, hq⟩ := hty
  have mv : ∀ (u : Value) (x : List Int) (ok : Nat → Prop), k64.R 22 w base ok u x → k64.R 22 (w.setCell ⟨q, i, none⟩ v) base ok u x := fun u x ok hu =>
    Kd.R_set hu hq (by decide) i v
  refine ⟨fun _ _ => trivial, inner.set i v, by rw [List.length_set]; exact hs, by rw [List.length_set, List.length_set]; exact hr1, fun j p hj => ?_⟩
  have hsz : kRows.sz = 1 := rfl
  rw [hsz] at hr1 hr2 ⊢
  rw [Nat.mul_one] at hr1
  have hjl : j < PL.length := by have := (List.getElem?_eq_some_iff.1 hj).1; rwa [List.length_set] at this
  have cut : ∀ (L : List Value) (k : Nat) (hk : k < L.length), (L.drop (k * 1)).take 1 = [L[k]] := fun L k hk => by
    rw [Nat.mul_one, List.drop_eq_getElem_cons hk]; rfl
  by_cases hji : i = j
  · subst hji
    rw [List.getElem?_set_self (by omega)] at hj
    injection hj with hj
    subst hj
    rw [cut _ i (by rw [List.length_set]; omega), List.getElem_set_self]
    exact ⟨v, rfl, Kd.R_mono (mv v l _ (Kd.R_tight rfl hv)) (fun k hk => ⟨trivial, fun e => Kd.R_ne hv hq (by decide) (by rw [← hk, e]; rfl)⟩)⟩
  · rw [List.getElem?_set_ne hji] at hj
    obtain ⟨u, hu, hR⟩ := hr2 j p hj
    rw [cut _ j (by rw [List.length_set]; omega), List.getElem_set_ne hji]
    rw [cut _ j (by omega)] at hu
    injection hu with hu
    exact ⟨u, by rw [hu], mv u p _ hR⟩
theorem JAt.chg {w0 w w' : World} {g : Nat} {plan : List S32} {each : Int} {PL : List (List Int)} {HL : List Bool} {vp vq vh : Value} (h : JAt w0 w g plan each PL HL vp vq vh) (hb : Below w.heap.size w w') : JAt w0 w' g plan each PL HL vp vq vh :=
  ⟨(hb.block g (blk_lt h.blk)).trans h.blk, h.ge, Kd.R_below h.plan_ hb, Kd.R_below h.part hb, Kd.R_below h.hav hb⟩
/-! ### stream_add: function 25 -/
set_option maxHeartbeats 1600000 in
set_option maxRecDepth 100000 in
theorem add_ok (w0 w : World) (g : Nat) (plan : List S32) (each : Int) (PL : List (List Int)) (HL : List Bool) (vp vq vh : Value) (i : Nat) (A : Option Addr) (c : Nat) (l : List Int) (hJ : JAt w0 w g plan each PL HL vp vq vh) (hB : Below w0.heap.size w0 w) (hi : i < plan.length) (hPL : PL.length = plan.length) (hHL : HL.length = plan.length) (hf : HL.getD i false = false)
    (hl : (l.length : Int) = each * (plan.getD i z32).f1) (hl2 : l.length ≤ 100000) (hC : k64.C w A l.length l) (hpl : plan.length ≤ 100000) :
    Calls Try.prog 25 #[.pointer (some ⟨g, 0, none⟩), .int .i64 i, .slice A l.length c] w fun e w' => e = .returned (.int .i64 0) ∧ JAt w0 w' g plan each (PL.set i l) (HL.set i true) vp vq vh ∧ Below w0.heap.size w0 w' ∧ w.heap.size ≤ w'.heap.size ∧ ∀ k, k < w.heap.size → vq.ownBlock ≠ some k → vh.ownBlock ≠ some k → w'.heap[k]? = w.heap[k]? := by
  obtain ⟨q, cq, rfl, hq0, hqlt, csq, hqc⟩ := Kd.R_form hJ.part (by omega)
  obtain ⟨h, ch, rfl, hh0, hhlt, csh, hhc⟩ := Kd.R_form hJ.hav (by omega)
  obtain ⟨Ap, cp, rfl, hcp, hCp⟩ := Kd.R_reads hJ.plan_
  have hi0 : (0 : Int) ≤ (i : Int) := by omega
  have hiP : (i : Int) < (plan.length : Int) := by omega
  have hiQ : (i : Int) < (PL.length : Int) := by omega
  have hiH : (i : Int) < (HL.length : Int) := by omega
  obtain ⟨ad, rfl, -, p1, -⟩ := at_T32 hCp (i : Int) hi0 hiP
  rw [Int.toNat_natCast] at p1
  have hx' : rd_T32 plan (i : Int) = plan.getD i z32 := by unfold rd_T32; rw [Int.toNat_natCast]
  rw [hx'] at p1
  obtain ⟨x1, hx1⟩ : ∃ x1, x1 = (plan.getD i z32).f1 := ⟨_, rfl⟩
  rw [← hx1] at p1 hl
  have hmul : IntKind.i64.wrap (each * x1) = (l.length : Int) := by rw [← hl, IntKind.wrap_i64]; omega
  have hcb := (Kd.R_cell false hJ.hav (i : Int) hi0 hiH)
  rw [show rdOf false HL (i : Int) = false by unfold rdOf; rw [Int.toNat_natCast]; exact hf, Int.toNat_natCast] at hcb
  obtain ⟨hcb, hfb⟩ := hcb
  have d0 : w.cell? ⟨g, 0, none⟩ = some _ := (blk_cell hJ.blk 0).trans rfl
  have d1 : w.cell? ⟨g, 1, none⟩ = some _ := (blk_cell hJ.blk 1).trans rfl
  have d2 : w.cell? ⟨g, 2, none⟩ = some _ := (blk_cell hJ.blk 2).trans rfl
  have d3 : w.cell? ⟨g, 3, none⟩ = some _ := (blk_cell hJ.blk 3).trans rfl
  have d4 : w.cell? ⟨g, 4, none⟩ = some _ := (blk_cell hJ.blk 4).trans rfl
  obtain ⟨u0, hu0⟩ : ∃ u0, w.cell? ⟨q, i, none⟩ = some u0 := by
    obtain ⟨c', hcl, hM, hcc⟩ := Kd.R_getA hJ.part ([] : List Int) (i : Int) hi0 hiQ
    obtain ⟨v0, rfl, -⟩ := M_rows hM
    have := hcc 0 v0 rfl
    rw [Int.toNat_natCast, show kRows.sz = 1 from rfl, Nat.mul_one, Nat.add_zero, add_at, Nat.zero_add] at this
    exact ⟨v0, this⟩
  have hgq : g ≠ q := fun e => by have h1 := hJ.blk; rw [e, hqc] at h1; injection h1 with h1; injection h1 with _ h1; exact absurd h1 (by decide)
  have hgh : g ≠ h := fun e => by have h1 := hJ.blk; rw [e, hhc] at h1; injection h1 with h1; injection h1 with _ h1; exact absurd h1 (by decide)
  have hhq : h ≠ q := fun e => by have h1 := hhc; rw [e, hqc] at h1; injection h1 with h1; injection h1 with _ h1; exact absurd h1 (by decide)
  have HGQ := Lib.hid hgq
  have HGH := Lib.hid hgh
  have HHQ := Lib.hid hhq
  have HQC := Aside0.mk hqc
  have HHC := Aside0.mk hhc
  clear hgq hgh hhq hqc hhc
  have HJ := Aside0.mk hJ
  have HB := Aside0.mk hB
  have HC := Aside0.mk hC
  have HPL := Lib.hid hPL
  have HHL := Lib.hid hHL
  have HL1 := Lib.hid hl
  have hs34 : l.length * 8 ≤ 140737488355328 := by omega
  clear hPL hHL hf hl hC hJ hB hCp hx' hx1 hpl
  go_enter Try.func25, Try.ntmps25
  go_upto_region 7 with fail
  go_region_held3 (fun w' => w'.cell? ⟨g, 0, none⟩ = some (.slice (some ad) plan.length cp) ∧ w'.cell? ⟨g, 1, none⟩ = some (.int .i64 each) ∧ w'.cell? ⟨(ad.add (i * 3)).block, (ad.add (i * 3)).off + 1, none⟩ = some (.int .i64 x1)) (refine ⟨?_, ?_, ?_⟩ <;> first | assumption | go_keep) (fail)
  go_upto_region 9 with fail
  have HC2 := Aside0.mk (Kd.C_below HC.out (below_drew (below_drew (Below.refl _ _))))
  go_region_held3 (fun w' => w'.cell? ⟨g, 2, none⟩ = some (.slice (some ⟨q, 0, none⟩) PL.length cq) ∧ w'.cell? ⟨g, 3, none⟩ = some (.slice (some ⟨h, 0, none⟩) HL.length ch)) (refine ⟨?_, ?_⟩ <;> first | assumption | exact cell_ap HGQ.out e2 | exact cell_ap HGQ.out e3 | exact cell_ap HGH.out (cell_ap HGQ.out e2) | exact cell_ap HGH.out (cell_ap HGQ.out e3) | go_keep)
    (first | (go_at_call 34; refine (clone_u64.calls A c l _ HC2.out hs34).mono ?_; rintro e w1 ⟨v, rfl, ho, hb⟩; obtain ⟨Av, cv, rfl, -, -⟩ := Kd.R_reads ho; have HO := Aside0.mk ho; have HBA := Aside0.mk (below_step (below_drew (below_drew (Below.refl _ _))) hb); have e2 := pw_cell_below HBA.out d2; have e3 := pw_cell_below HBA.out d3; have eq := pw_cell_below HBA.out hu0; have eh := cell_ap (b := i) (v := .slice Av l.length cv) HHQ.out (pw_cell_below HBA.out hcb); have HQ1 := Aside0.mk (blk_grown HQC.out (grown_of_below HBA.out none) (by simp)); have HH1 := Aside0.mk (blk_grown HHC.out (grown_of_below HBA.out none) (by simp)); have fq := blk_frozen HQ1.out i; have fh := blk_frozen ((Below.heap_setCell w1 ⟨q, i, none⟩ (.slice Av l.length cv) h HHQ.out).trans HH1.out) i; clear ho hb))
  go_wp2
  go_ret
  have hsz := HB.out.size
  have hs1 := HBA.out.size
  have j1 := HJ.out.chg HBA.out
  have hv : k64.R 22 w1 w0.heap.size (fun _ => True) (.slice Av l.length cv) l := Kd.R_lower HO.out (by show w0.heap.size ≤ w.heap.size; exact hsz)
  have hH2 := (Below.heap_setCell w1 ⟨q, i, none⟩ (.slice Av l.length cv) h HHQ.out).trans HH1.out
  have hp := Kd.R_put (Kd.R_set j1.hav HQ1.out (by decide) i (.slice Av l.length cv)) (i : Int) true
  rw [Int.toNat_natCast] at hp
  refine ⟨rfl, ⟨?_, HJ.out.ge, Kd.R_set (Kd.R_set j1.plan_ HQ1.out (by decide) i _) hH2 (by decide) i _, ?_, ?_⟩, ?_, ?_, fun k hk n1 n2 => ?_⟩
  · exact ((Below.heap_setCell _ _ _ _ HGH.out).trans (Below.heap_setCell _ _ _ _ HGQ.out)).trans j1.blk
  · exact Kd.R_set (R_setN j1.part i hv) hH2 (by decide) i _
  · exact hp.1
  · exact below_set (below_set (below_step HB.out HBA.out) hq0) hh0
  · simpa using hs1
  · have hkq : k ≠ q := fun e => n1 (by rw [e]; rfl)
    have hkh : k ≠ h := fun e => n2 (by rw [e]; rfl)
    exact ((Below.heap_setCell _ _ _ _ hkh).trans (Below.heap_setCell _ _ _ _ hkq)).trans (HBA.out.block k hk)
end Go.Proofs.Ytojimoebbinhdaa.P
