/- stream.New: a joiner of a plan. -/
import Derived.BigQuiet
import Derived.Deep.AppendLies
import Derived.Deep.DrawnRows
import Derived.Deep.RegionHeld3
import Derived.Deep.RegionLaw
import Derived.Deep.RegionWith
import Derived.IntWalk
import Derived.Lib.Hide
import Derived.Outline
import Derived.Test.YtojimoebbinhdaaTrPx0
import Derived.WalkSpells
import Derived.Test.YtojimoebbinhdaaTrK4
namespace Go.Proofs.Ytojimoebbinhdaa.P
open Go.RowKit Go.Proofs.YtojimoebbinhdaaW.PrintWords Go.Proofs.YtojimoebbinhdaaW.PrintLast Go.Proofs.YtojimoebbinhdaaW.PrintMore
set_option linter.unusedVariables false
set_option linter.unusedSimpArgs false

/-! ### stream_joiner: words -/
/-- how many transfers a plan has -/
def sumC : List S32 → Int
  | [] => 0
  | c :: l => c.f1 + sumC l
theorem sumC_snoc (l : List S32) (c : S32) : sumC (l ++ [c]) = sumC l + c.f1 := by
  induction l with
  | nil => simp [sumC]
  | cons d l ih => simp only [List.cons_append, sumC, ih]; omega
/-- a plan that a joiner takes -/
structure OkPlan (plan : List S32) : Prop where
  each : ∀ i, i < plan.length → 1 ≤ (plan.getD i z32).f1 ∧ (plan.getD i z32).f1 ≤ 512 ∧ (plan.getD i z32).f2 = sumC (plan.take i)
  all : ∀ i, i ≤ plan.length → sumC (plan.take i) ≤ 4096 ∧ 0 ≤ sumC (plan.take i)
  len : plan.length ≤ 4096
/-- a joiner at g -/
structure JAt (w0 w : World) (g : Nat) (plan : List S32) (each : Int) (PL : List (List Int)) (HL : List Bool) (vp vq vh : Value) : Prop where
  blk : w.heap[g]? = some (.cells #[vp, .int .i64 each, vq, vh, .bool true] 62 (0, 0))
  ge : w0.heap.size ≤ g
  plan_ : k32.R 32 w w0.heap.size (fun _ => True) vp plan
  part : (Kd.slice 22 (Kd.int .u64)).R 50 w w0.heap.size (fun _ => True) vq PL
  hav : Kd.bool.R 4 w w0.heap.size (fun _ => True) vh HL
theorem below_none {w w' : World} (h : w.grownBy w' none) : Below w.heap.size w w' := ⟨h.os, h.tape, h.output, h.size, fun k hk => h.block k hk (by simp)⟩
theorem infoS50 : (Try.prog.info? 50).map (fun i => (i.zero, i.size, i.bytes)) = some (some (.slice none 0 0), 1, 24) := by kernel_rfl
theorem infoB4 : (Try.prog.info? 4).map (fun i => (i.zero, i.size, i.bytes)) = some (some (.bool false), 1, 1) := by kernel_rfl
theorem made_R {α : Type} (d : Kd α) (e : Nat) (z : Value) (z0 : α) (hz : z.cells.size = d.sz) (hs : 0 < d.sz) (hM : ∀ (W : World) (base : Nat) (ok : Nat → Prop), d.M W base ok z0 z.cells.toList) (W : World) (base n g : Nat) (hb : base ≤ W.heap.size) (hn : n ≤ maxLen) (hg : g = W.heap.size) :
    d.R e (W.alloc (.cells (madeCells z.cells (n * d.sz)) e)) base (fun _ => True) (.slice (some ⟨g, 0, none⟩) n n) (List.replicate n z0) := by
  subst hg
  refine ⟨fun _ _ => trivial, (madeCells z.cells (n * d.sz)).toList, ?_, Kd.reps_made hz hs (hM _ _ _) n⟩
  rw [List.length_replicate]
  exact World.ownsRow_lit W _ n hb hn (size_madeCells _ _)
def Z59 (n : Nat) : Obj := .cells (madeCells (Value.cells (.slice none 0 0)) (n * 1)) 50
def Z60 (n : Nat) : Obj := .cells (madeCells (Value.cells (.bool false)) (n * 1)) 4
theorem made59 (W : World) (base n g : Nat) (hb : base ≤ W.heap.size) (hn : n ≤ 4096) (hg : g = W.heap.size) : (Kd.slice 22 (Kd.int .u64)).R 50 (W.alloc (Z59 n)) base (fun _ => True) (.slice (some ⟨g, 0, none⟩) n n) (List.replicate n ([] : List Int)) :=
  made_R (Kd.slice 22 (Kd.int .u64)) 50 (.slice none 0 0) [] rfl (by decide) (fun _ _ _ => ⟨_, rfl, Kd.R_nil _ _ _ _ _⟩) W base n g hb (by unfold maxLen; omega) hg
theorem made60 (W : World) (base n g : Nat) (hb : base ≤ W.heap.size) (hn : n ≤ 4096) (hg : g = W.heap.size) : Kd.bool.R 4 (W.alloc (Z60 n)) base (fun _ => True) (.slice (some ⟨g, 0, none⟩) n n) (List.replicate n false) :=
  made_R Kd.bool 4 (.bool false) false rfl (by decide) (fun _ _ _ => rfl) W base n g hb (by unfold maxLen; omega) hg
theorem run59 (n : Nat) (hn : n ≤ 4096) : ∀ W : World, (Instr.makeSlice 59 (.int .i64 (n : Int)) (.int .i64 (n : Int))).run Try.prog W = .ok (.slice (some ⟨W.heap.size, 0, none⟩) n n) (W.alloc (Z59 n)) := fun W => by
  obtain ⟨i0, hi, hzz⟩ := Option.map_eq_some_iff.1 infoS50
  simp only [Prod.mk.injEq] at hzz
  obtain ⟨hz0, hz1, hz2⟩ := hzz
  have hr := run_make (P := Try.prog) W 59 50 i0 (.slice none 0 0) Try.underlying59 hi hz0 .i64 .i64 (n : Int) (n : Int) (by omega) (by omega) (by rw [hz2]; omega) (by omega)
  simp only [Int.toNat_natCast] at hr
  rw [hz1] at hr
  exact hr
theorem run60 (n : Nat) (hn : n ≤ 4096) : ∀ W : World, (Instr.makeSlice 60 (.int .i64 (n : Int)) (.int .i64 (n : Int))).run Try.prog W = .ok (.slice (some ⟨W.heap.size, 0, none⟩) n n) (W.alloc (Z60 n)) := fun W => by
  obtain ⟨i0, hi, hzz⟩ := Option.map_eq_some_iff.1 infoB4
  simp only [Prod.mk.injEq] at hzz
  obtain ⟨hz0, hz1, hz2⟩ := hzz
  have hr := run_make (P := Try.prog) W 60 4 i0 (.bool false) Try.underlying60 hi hz0 .i64 .i64 (n : Int) (n : Int) (by omega) (by omega) (by rw [hz2]; omega) (by omega)
  simp only [Int.toNat_natCast] at hr
  rw [hz1] at hr
  exact hr
theorem joined {w0 X : World} {plan : List S32} {each : Int} {PL : List (List Int)} {HL : List Bool} {vp vq vh : Value} {g : Nat} (hg : g = X.heap.size) (hb : Below w0.heap.size w0 X) (hp : k32.R 32 X w0.heap.size (fun _ => True) vp plan) (hq : (Kd.slice 22 (Kd.int .u64)).R 50 X w0.heap.size (fun _ => True) vq PL) (hh : Kd.bool.R 4 X w0.heap.size (fun _ => True) vh HL) :
    JAt w0 (X.alloc (.cells #[vp, .int .i64 each, vq, vh, .bool true] 62)) g plan each PL HL vp vq vh ∧ Below w0.heap.size w0 (X.alloc (.cells #[vp, .int .i64 each, vq, vh, .bool true] 62)) := by
  subst hg
  exact ⟨⟨heap_alloc_new X _, hb.size, Kd.R_alloc hp _, Kd.R_alloc hq _, Kd.R_alloc hh _⟩, below_alloc hb _⟩
/-! ### stream_new: function 27 -/
set_option maxHeartbeats 1600000 in
set_option maxRecDepth 100000 in
theorem new_ok (A : Option Addr) (c : Nat) (plan : List S32) (each : Int) (w : World) (hr : k32.C w A plan.length plan) (hP : OkPlan plan) (h0 : 0 ≤ each) (h6 : each ≤ 6) :
    Calls Try.prog 27 #[.slice A plan.length c, .int .i64 each] w fun e w' => ∃ g vp vq vh, e = .returned (.tuple #[.pointer (some ⟨g, 0, none⟩), .int .i64 0]) ∧ JAt w w' g plan each (List.replicate plan.length []) (List.replicate plan.length false) vp vq vh ∧ Below w.heap.size w w' := by
  have HR := Aside0.mk hr
  have HP := Aside0.mk hP
  have hlen := hP.len
  have hlI : (plan.length : Int) ≤ 4096 := by omega
  have h0n : ¬ each < 0 := by omega
  have h6n : ¬ (6 : Int) < each := by omega
  clear hr hP
  go_enter Try.func27, Try.ntmps27
  go_wp2
  go_loopw [6, 17] (fun v6 v17 wr => ∃ i : Nat, i ≤ plan.length ∧ v17 = .int .i64 i ∧ v6 = .int .i64 (sumC (plan.take i)) ∧ Aside0 (Below w.heap.size w wr)) (fun _ v17 _ => plan.length - (intOf v17).toNat)
  case atStart => exact ⟨0, by omega, rfl, by simp [sumC], ⟨Below.refl _ _⟩⟩
  case round =>
    obtain ⟨wo, rfl⟩ : ∃ wo : World, wo = wr := ⟨_, rfl⟩
    obtain ⟨i, hi, rfl, rfl, HB⟩ := hrel
    by_cases hlt : i < plan.length
    · have hltI : (i : Int) < (plan.length : Int) := by omega
      have hi0 : (0 : Int) ≤ (i : Int) := by omega
      obtain ⟨ad, rfl, q0, q1, q2⟩ := at_T32 (Kd.C_below HR.out HB.out) (i : Int) hi0 hltI
      rw [Int.toNat_natCast] at q0 q1 q2
      obtain ⟨e1, e2, e3⟩ := HP.out.each i hlt
      obtain ⟨s1, s2⟩ := HP.out.all i hi
      obtain ⟨t1, t2⟩ := HP.out.all (i + 1) (by omega)
      have hsn : sumC (plan.take (i + 1)) = sumC (plan.take i) + (plan.getD i z32).f1 := by
        rw [← sumC_snoc, List.take_add_one, List.getElem?_eq_getElem hlt, List.getD_eq_getElem?_getD, List.getElem?_eq_getElem hlt]
        rfl
      rw [hsn] at t1 t2
      obtain ⟨x, hx⟩ : ∃ x, x = plan.getD i z32 := ⟨_, rfl⟩
      have hx' : rd_T32 plan (i : Int) = x := by rw [hx]; unfold rd_T32; rw [Int.toNat_natCast]
      rw [hx'] at q0 q1 q2
      rw [← hx] at e1 e2 e3 hsn t1 t2
      obtain ⟨s, hs⟩ : ∃ s, s = sumC (plan.take i) := ⟨_, rfl⟩
      rw [← hs] at e3 hsn s1 s2 t1 t2 ⊢
      have HSN := Lib.hid hsn
      have f1 : ¬ x.f1 < 1 := by omega
      have f2 : ¬ (512 : Int) < x.f1 := by omega
      have f3 : (x.f2 != s) = false := by rw [e3]; simp
      have f4 : IntKind.i64.wrap (s + x.f1) = s + x.f1 := by rw [IntKind.wrap_i64]; omega
      have f5 : ¬ (4096 : Int) < s + x.f1 := by omega
      clear hx hx' e3 hsn hs
      go_wp2
      go_roundw
      case rel => exact ⟨i + 1, by omega, by go_num, by rw [HSN.out], ⟨below_alloc HB.out _⟩⟩
      case measure => simp [intOf]; omega
    · have hs38 : plan.length * 24 ≤ 140737488355328 := by omega
      have hm59 := run59 plan.length hlen
      have hm60 := run60 plan.length hlen
      go_upto_region 13 with fail
      go_region_with (go_at_call 38; refine (clone_chunks A c plan _ (Kd.C_below HR.out ?_) hs38).mono ?_; (first | exact below_drew HB.out | exact below_drew (below_alloc HB.out _) | exact below_drew (below_alloc (below_alloc HB.out _) _)); rintro e w2 ⟨vp, rfl, ho, hb⟩; obtain ⟨Ap, cp, rfl, -, -⟩ := Kd.R_reads ho; have HO := Aside0.mk ho; have HB2 := Aside0.mk hb; clear ho hb)
      all_goals go_wp2
      all_goals go_ret2
      all_goals have hwo := HB.out.size
      all_goals have hb2 : Below w.heap.size w w2 := below_step (by first | exact below_drew HB.out | exact below_drew (below_alloc HB.out _) | exact below_drew (below_alloc (below_alloc HB.out _) _)) HB2.out
      all_goals have hs2 := hb2.size
      all_goals have hp2 : k32.R 32 w2 w.heap.size (fun _ => True) (.slice Ap plan.length cp) plan := Kd.R_lower HO.out (by first | exact (below_drew HB.out).size | exact (below_drew (below_alloc HB.out _)).size | exact (below_drew (below_alloc (below_alloc HB.out _) _)).size)
      all_goals
        refine ⟨_, _, _, _, rfl, joined ?jg ?jb ?jp ?jq ?jh⟩
        case jg => simp
        case jb => repeat (first | exact hb2 | apply below_alloc)
        case jp => repeat (first | exact hp2 | apply Kd.R_alloc)
        case jq => repeat' (first | (with_reducible refine made59 _ _ _ _ ?_ hlen ?_) | (with_reducible exact hb2.size) | (with_reducible exact hwo) | (with_reducible apply Kd.R_alloc) | (with_reducible refine Kd.R_below ?_ HB2.out) | (with_reducible apply Kd.R_drew) | (simp; done) | (simp; omega))
        case jh => repeat' (first | (with_reducible refine made60 _ _ _ _ ?_ hlen ?_) | (with_reducible exact hb2.size) | (with_reducible exact hwo) | (with_reducible apply Kd.R_alloc) | (with_reducible refine Kd.R_below ?_ HB2.out) | (with_reducible apply Kd.R_drew) | (simp; done) | (simp; omega))
end Go.Proofs.Ytojimoebbinhdaa.P
