/- The pool: Put and Grant, whatever they answer; a pool that is full. -/
import Derived.Test.YtieaealkdjnolaaPaPl13
namespace Go.Proofs.Ytieaealkdjnolaa.P
open Go.RowKit Go.Maps Go.Proofs.YtieaealkdjnolaaW.PrintWords Go.Proofs.YtieaealkdjnolaaW.PrintLast Go.Proofs.YtieaealkdjnolaaW.PrintMore
set_option linter.unusedVariables false
set_option linter.unusedSimpArgs false
attribute [local go_sem ↓] Go.wp_at_zero Go.wp_at_succ
set_option maxRecDepth 100000 in
set_option maxHeartbeats 4000000 in
theorem put_full {w0 w : World} {g : Nat} {c : S26} {b : Bn} (h : BinAt w0 w g c b) (A : Option Addr) (cl : Nat) (l : List S32) (hC : ∀ W, Below w.heap.size w W → Kd.C k32 W A l.length l) (hcl : l.length ≤ cl) (hz : chkC c = 0) (K : Nat) (hf : Puttable K c l) (hs : 64 < Maps.size b.D + l.length) (hn : Maps.size b.D ≤ 1000) :
    Calls Try.prog 8 #[.pointer (some ⟨g, 0, none⟩), .agg (cC c), .slice A l.length cl] w fun e w' => e = .returned (.tuple #[.int .i64 0, .int .i64 16]) ∧ Below w.heap.size w w' := by
  have HB0 := Lib.hid (below_alloc (Below.refl w.heap.size w) (.cells (cC c) 26))
  have HC0 := Lib.hid (heap_alloc_new w (.cells (cC c) 26))
  obtain ⟨a0, a1, a2, a3, a4⟩ := cls_new w c
  have HA := Lib.hid h
  have HZ := Lib.hid hz
  have HF := Lib.hid hf
  have HS := Lib.hid hC
  have HCL := Lib.hid hcl
  have hfew := hf.few
  have hw1 : IntKind.i64.wrap (64 - (Maps.size b.D : Int)) = 64 - (Maps.size b.D : Int) := by rw [IntKind.wrap_i64]; omega
  have hq1 : 64 - (Maps.size b.D : Int) < (l.length : Int) := by omega
  clear h hz hf hC hcl hs hn
  obtain ⟨r, cap, p, mb, n, D, V, X, total, mark, next⟩ := b
  simp only at hw1 hq1
  go_enter Try.func8, Try.ntmps8
  go_wp2_with (go_at_call 21; go_loud (refine (pready_ok (w0 := w0) (c := c) (o := some ⟨r, cap, p, mb, n, D, V, X, total, mark, next⟩) (BinAt.below HA.out HB0.out)).mono ?_); rintro e w1 ⟨rfl, hb⟩; rw [HZ.out]; have HB1 := Lib.hid (below_step HB0.out hb); have HC1 := Lib.hid (blk_below HC0.out hb); clear hb a0 a1 a2 a3 a4)
  go_loopw [24] (fun s wr => ∃ i : Nat, i ≤ l.length ∧ s = .int .i64 (i : Int) ∧ Go.RowKit.Hid (Below w.heap.size w wr) ∧ Go.RowKit.Hid (wr.heap[w.heap.size]? = some (.cells (cC c) 26 (0, 0)))) (fun s _ => l.length - (intOf s).toNat)
  case atStart => exact ⟨0, by omega, rfl, HB1, HC1⟩
  case round =>
    obtain ⟨i, hi, rfl, HB2, HC2⟩ := hrel
    by_cases hin : i < l.length
    · have c1 : (i : Int) < (l.length : Int) := by omega
      obtain ⟨ad, A0, c0, A1, cc1, A2, c2, rfl, e0, e1, e2, l0, g0, l1, g1, l2, g2⟩ := at_T32 (HS.out wr HB2.out) (i : Int) (by omega) (by omega)
      simp only [Int.toNat_natCast] at e0 e1 e2
      have HFT := Lib.hid (HF.out.fit i hin)
      generalize rd_T32 l (i : Int) = x at *
      have G0 := Lib.hid g0
      have G1 := Lib.hid g1
      have G2 := Lib.hid g2
      have L0 := Lib.hid l0
      have L1 := Lib.hid l1
      have L2 := Lib.hid l2
      clear g0 g1 g2 l0 l1 l2
      have HN2 := Lib.hid (below_alloc (Below.refl wr.heap.size wr) (.cells #[.slice A0 x.f0.length c0, .slice A1 x.f1.length cc1, .slice A2 x.f2.length c2] 32))
      obtain ⟨a0, a1, a2, a3, a4, -⟩ := cells_5 (blk_below HC2.out HN2.out)
      go_wp2_with (go_at_call 22; go_loud (refine (shape_Fits.calls K c.f0 c.f1 c.f2 c.f3 c.f4 A0 c0 x.f0 A1 cc1 x.f1 A2 c2 x.f2 true _ (Kd.C_below G0.out HN2.out) L0.out (Kd.C_below G1.out HN2.out) L1.out (Kd.C_below G2.out HN2.out) L2.out HFT.out).mono ?_); rintro e w3 ⟨rfl, hb⟩; have HB3 := Lib.hid (below_step (below_step HB2.out HN2.out) hb); have HC3 := Lib.hid (blk_below (blk_below HC2.out HN2.out) hb); clear hb)
      go_roundw
      case rel => exact ⟨i + 1, by omega, by go_num, HB3, HC3⟩
      case measure => simp [intOf]; omega
    · have c1 : ¬ (i : Int) < (l.length : Int) := by omega
      obtain ⟨a0, a1, a2, a3, a4, -⟩ := cells_5 HC2.out
      have HFN := Lib.hid (find_one (BinAt.below HA.out HB2.out))
      go_wp2_with (go_at_call 23; go_loud (refine HFN.out.mono ?_); rintro e w4 ⟨rfl, hb⟩; have HB4 := Lib.hid (below_step HB2.out hb); have hlen := (BinAt.below HA.out HB4.out).own.len Try.underlying69 3; obtain ⟨b0, b1, b2, b3, b4, b5, b6, -⟩ := cells_9 (BinAt.below HA.out HB4.out).blk; simp only at hlen; clear hb a0 a1 a2 a3 a4)
      go_ret2
      exact ⟨rfl, HB4.out⟩
def markO : Option Bn → Int
  | none => 0
  | some b => b.mark
def nextO : Option Bn → Int
  | none => 0
  | some b => b.next
/-- a pool into which shares are put alone, and from which none is taken -/
def Grows : Option Bn → Prop
  | none => True
  | some b => (Maps.size b.D : Int) = b.total ∧ (b.n : Int) = b.total ∧ b.total ≤ 64 ∧ b.mark ≤ b.total
/-- what Put answers there -/
def putV1 (o : Option Bn) (n : Nat) : Int := if totO o + (n : Int) ≤ 64 then totO o else 0
def putV2 (o : Option Bn) (n : Nat) : Int := if totO o + (n : Int) ≤ 64 then 0 else 16
/-- what stands behind a Put -/
structure Grown (W : World) (o o' : Option Bn) (n : Nat) : Prop where
  one : ∃ b, o' = some b
  tot : totO o' = if totO o + (n : Int) ≤ 64 then totO o + (n : Int) else totO o
  mark : markO o' = markO o
  next : nextO o' = nextO o
  grows : Grows o'
  new : ∀ b b', o = some b → o' = some b' → b'.p = b.p ∧ b'.mb = b.mb
  fresh : ∀ b', o = none → o' = some b' → W.heap.size ≤ b'.p ∧ W.heap.size ≤ b'.mb
theorem put_any {w W : World} {g k : Nat} {o : Option Bn} (h : St w W g k o) (hg : Grows o) (A : Option Addr) (cl : Nat) (l : List S32) (hR : Kd.R kS 32 W w.heap.size (fun _ => True) (.slice A l.length cl) l) (hf : Puttable 20 c8 l) : Calls Try.prog 8 #[.pointer (some ⟨g, 0, none⟩), .agg (cC c8), .slice A l.length cl] W fun e w' => e = .returned (.tuple #[.int .i64 (putV1 o l.length), .int .i64 (putV2 o l.length)]) ∧ ∃ o', St w w' g k o' ∧ Grown W o o' l.length ∧ Chg (PoolOf g o) W w' := by
  have hfew := hf.few
  cases o with
  | none =>
    refine (put_first h A cl l hR hf).mono ?_
    rintro e w' ⟨rfl, b, hs, ht, hm, hn, hnn, hsz, hx, hp, hmb, hc⟩
    have h64 : totO none + (l.length : Int) ≤ 64 := by show (0 : Int) + _ ≤ 64; omega
    refine ⟨by unfold putV1 putV2; rw [if_pos h64, if_pos h64]; rfl, some b, hs, ⟨⟨b, rfl⟩, ?_, hm, hn, ?_, (fun b b' hb => by cases hb), (fun b' _ hb => by cases hb; exact ⟨hp, hmb⟩)⟩, hc⟩
    · rw [if_pos h64]; show b.total = 0 + _; omega
    · show (Maps.size b.D : Int) = b.total ∧ (b.n : Int) = b.total ∧ b.total ≤ 64 ∧ b.mark ≤ b.total
      omega
  | some b =>
    obtain ⟨-, hcl, -⟩ := RS_C hR
    obtain ⟨g1, g2, g3, g4⟩ := hg
    have hbd := BinAt.bd h.pool
    by_cases h64 : totO (some b) + (l.length : Int) ≤ 64
    · have h64' : b.total + (l.length : Int) ≤ 64 := h64
      refine (put_some (w0 := w) (b := b) h.pool A cl l (fun W' hc => (RS_C (RS_chg hR hc (fun k cs t hk => h.pool.types k cs t hk))).2.2) hcl chk8 20 hf (by omega) (by omega) h.bel.size).mono ?_
      rintro e w' ⟨b', rfl, hP⟩
      obtain ⟨e1, e2, e3, e4, e5, e6, e7, e8, e9⟩ := hP.eqs
      have hc : Chg (PoolOf g (some b)) W w' := hP.chg.mono (fun k _ hk => .inr hk)
      refine ⟨by unfold putV1 putV2; rw [if_pos h64, if_pos h64]; rfl, some b', h.next (o' := some b') hP.at_ hc, ⟨⟨b', rfl⟩, ?_, e7, e8, ?_, (fun b1 b2 h1 h2 => by cases h1; cases h2; exact ⟨e3, e4⟩), (fun b1 h1 => by cases h1)⟩, hc⟩
      · rw [if_pos h64]; exact e6
      · show (Maps.size b'.D : Int) = b'.total ∧ (b'.n : Int) = b'.total ∧ b'.total ≤ 64 ∧ b'.mark ≤ b'.total
        omega
    · have h64' : ¬ b.total + (l.length : Int) ≤ 64 := h64
      refine (put_full (w0 := w) (b := b) h.pool A cl l (fun W' hb => Kd.C_below (RS_C hR).2.2 hb) hcl chk8 20 hf (by omega) (by omega)).mono ?_
      rintro e w' ⟨rfl, hb⟩
      exact ⟨by unfold putV1 putV2; rw [if_neg h64, if_neg h64], some b, h.below hb, ⟨⟨b, rfl⟩, by rw [if_neg h64], rfl, rfl, ⟨g1, g2, g3, g4⟩, (fun b1 b2 h1 h2 => by cases h1; cases h2; exact ⟨rfl, rfl⟩), (fun b1 h1 => by cases h1)⟩, Chg.of_below hb _⟩
/-- what Grant answers -/
def grantV1 (o : Option Bn) (n : Int) : Int := if n < 1 ∨ 64 < n then 0 else if freeO o < n then 0 else nextO o
def grantV2 (o : Option Bn) (n : Int) : Int := if n < 1 ∨ 64 < n then 1 else if freeO o < n then 42 else 0
def granted (o : Option Bn) (n : Int) : Option Bn := match o with
  | none => none
  | some b => if n < 1 ∨ 64 < n then some b else if freeB b.total b.mark b.next < n then some b else some { b with next := b.next + n }
theorem grant_any {w W : World} {g k : Nat} {o : Option Bn} (h : St w W g k o) (n : Int) : Calls Try.prog 11 #[.pointer (some ⟨g, 0, none⟩), .agg (cC c8), .int .i64 n] W fun e w' => e = .returned (.tuple #[.int .i64 (grantV1 o n), .int .i64 (grantV2 o n)]) ∧ St w w' g k (granted o n) ∧ Chg (PoolOf g o) W w' := by
  by_cases h1 : n < 1 ∨ 64 < n
  · refine (grant_arg h.pool n chk8 h1).mono ?_
    rintro e w' ⟨rfl, hb⟩
    refine ⟨by unfold grantV1 grantV2; rw [if_pos h1, if_pos h1], ?_, Chg.of_below hb _⟩
    have : granted o n = o := by
      cases o with
      | none => rfl
      | some b => show (if n < 1 ∨ 64 < n then _ else _) = _; rw [if_pos h1]
    rw [this]
    exact h.below hb
  · by_cases h2 : freeO o < n
    · refine (grant_wait h.pool n chk8 (by omega) h2).mono ?_
      rintro e w' ⟨rfl, hb⟩
      refine ⟨by unfold grantV1 grantV2; rw [if_neg h1, if_neg h1, if_pos h2, if_pos h2], ?_, Chg.of_below hb _⟩
      have : granted o n = o := by
        cases o with
        | none => rfl
        | some b => show (if n < 1 ∨ 64 < n then _ else if freeB b.total b.mark b.next < n then _ else _) = _; rw [if_neg h1, if_pos (show freeB b.total b.mark b.next < n from h2)]
      rw [this]
      exact h.below hb
    · cases o with
      | none => exact absurd (show (0 : Int) < n by omega) h2
      | some b =>
        refine (grant_ok (w0 := w) (b := b) h.pool n chk8 (by omega) (show n ≤ freeO (some b) by omega)).mono ?_
        rintro e w' ⟨rfl, hB, hc⟩
        refine ⟨by unfold grantV1 grantV2; rw [if_neg h1, if_neg h1, if_neg h2, if_neg h2]; rfl, ?_, PoolOf_sub hc⟩
        have : granted (some b) n = some { b with next := b.next + n } := by
          show (if n < 1 ∨ 64 < n then _ else if freeB b.total b.mark b.next < n then _ else _) = _
          rw [if_neg h1, if_neg (show ¬ freeB b.total b.mark b.next < n from h2)]
        rw [this]
        exact h.next (o' := some { b with next := b.next + n }) hB (PoolOf_sub hc)
/-- a call on one pool leaves another one -/
def Apart : Option Bn → Option Bn → Prop
  | some a, some b => a.p ≠ b.p ∧ a.mb ≠ b.mb
  | _, _ => True
theorem Apart.symm {a b : Option Bn} (h : Apart a b) : Apart b a := by
  cases a <;> cases b <;> first | trivial | exact ⟨fun e => h.1 e.symm, fun e => h.2 e.symm⟩
theorem St.other {w W W' : World} {g g' k : Nat} {o o' : Option Bn} (h : St w W g k o) (h' : St w W g' k o') (hg : g' ≠ g) (ha : Apart o' o) (hc : Chg (PoolOf g' o') W W') : St w W' g k o := by
  have hcell : ∀ {j t : Nat} {cs : Array Value}, W.heap[j]? = some (.cells cs t (0, 0)) → j ≠ g' → (∀ b', o' = some b' → j ≠ b'.p) → ¬ PoolOf g' o' j := fun {j t cs} hj h1 h2 hp => by
    cases o' with
    | none => exact h1 hp
    | some b' =>
      rcases hp with e | e | e
      · exact h1 e
      · exact h2 b' rfl e
      · exact own_neV (BinAt.own h'.pool) hj e
  refine ⟨?_, hc.blk h.kc (h'.pool.not h.kc (by decide) (by decide)), hc.below h.bel (fun k hk => h'.pool.ge hk)⟩
  cases o with
  | none => exact ⟨hc.blk h.pool.1 (hcell h.pool.1 (fun e => hg e.symm) (fun b' e => by subst e; exact blk_ne h.pool.1 (BinAt.blk h'.pool) (by decide))), h.pool.2⟩
  | some b =>
    have hB : BinAt w W g c8 b := h.pool
    refine BinAt.chg hB hc (fun j hj => ?_)
    obtain ⟨cs, hr, -⟩ := hB.row
    obtain ⟨v', hv'⟩ := h'.pool.made
    have hgj : ∀ {t t' : Nat} {cs cs' : Array Value} {i : Nat}, W.heap[i]? = some (.cells cs t (0, 0)) → W.heap[j]? = some (.cells cs' t' (0, 0)) → t' ≠ t → j ≠ i := fun hi hj' ht => blk_ne hj' hi ht
    cases o' with
    | none =>
      have e : j = g' := hj
      rw [e]
      exact ⟨own_neV hB.own hv', hg, blk_ne hv' hr (by decide), blk_ne hv' hB.blk (by decide), fun cs' hcs => by rw [hv'] at hcs; injection hcs with hcs; injection hcs with _ hcs _; exact absurd hcs (by decide)⟩
    | some b' =>
      have hB' : BinAt w W g' c8 b' := h'.pool
      rcases hj with e | e | e
      · rw [e]
        exact ⟨own_neV hB.own hv', hg, blk_ne hv' hr (by decide), blk_ne hv' hB.blk (by decide), fun cs' hcs => by rw [hv'] at hcs; injection hcs with hcs; injection hcs with _ hcs _; exact absurd hcs (by decide)⟩
      · rw [e]
        exact ⟨own_neV hB.own hB'.blk, blk_ne hB'.blk hB.pool (by decide), blk_ne hB'.blk hr (by decide), ha.1, fun cs' hcs => by rw [hB'.blk] at hcs; injection hcs with hcs; injection hcs with _ hcs _; exact absurd hcs (by decide)⟩
      · rw [e]
        exact ⟨ha.2, fun q => own_neV hB'.own hB.pool q.symm, fun q => own_neV hB'.own hr q.symm, fun q => own_neV hB'.own hB.blk q.symm, fun cs' hcs => own_neV hB'.own hcs rfl⟩
end Go.Proofs.Ytieaealkdjnolaa.P
