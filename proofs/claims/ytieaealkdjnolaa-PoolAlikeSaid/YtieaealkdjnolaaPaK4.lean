/- PoolAlike: the law's text, walked. -/
import Derived.Test.YtieaealkdjnolaaPaPl15
import Derived.Test.YtieaealkdjnolaaPaPx0
namespace Go.Proofs.Ytieaealkdjnolaa.P
open Go.RowKit Go.Maps Go.Proofs.YtieaealkdjnolaaW.PrintWords Go.Proofs.YtieaealkdjnolaaW.PrintLast Go.Proofs.YtieaealkdjnolaaW.PrintMore
set_option linter.unusedVariables false
set_option linter.unusedSimpArgs false
attribute [local go_sem ↓] Go.wp_at_zero Go.wp_at_succ
/-- two pools in which alike many are -/
structure Duo (w W : World) (g h k : Nat) (o1 o2 : Option Bn) : Prop where
  l : St w W g k o1
  r : St w W h k o2
  ne : g ≠ h
  apart : Apart o1 o2
  tot : totO o1 = totO o2
  mark : markO o1 = markO o2
  next : nextO o1 = nextO o2
theorem Duo.below {w W W' : World} {g h k : Nat} {o1 o2 : Option Bn} (H : Duo w W g h k o1 o2) (hb : Below W.heap.size W W') : Duo w W' g h k o1 o2 := ⟨H.l.below hb, H.r.below hb, H.ne, H.apart, H.tot, H.mark, H.next⟩
theorem Grown.apart {w W : World} {g k n : Nat} {o o' o2 : Option Bn} (h : St w W g k o2) (ha : Apart o o2) (hg : Grown W o o' n) : Apart o' o2 := by
  obtain ⟨b', rfl⟩ := hg.one
  cases o2 with
  | none => trivial
  | some b2 =>
    have hB : BinAt w W g c8 b2 := h.pool
    cases o with
    | none =>
      obtain ⟨h1, h2⟩ := hg.fresh b' rfl rfl
      have h3 := blk_lt hB.blk
      have h4 := hB.own.lt
      exact ⟨fun e => by omega, fun e => by omega⟩
    | some b =>
      obtain ⟨h1, h2⟩ := hg.new b b' rfl rfl
      exact ⟨by rw [h1]; exact ha.1, by rw [h2]; exact ha.2⟩
theorem freeO_eq (o : Option Bn) : freeO o = freeB (totO o) (markO o) (nextO o) := by
  cases o with
  | none => show (0 : Int) = freeB 0 0 0; decide
  | some b => rfl
theorem duo_begin {w w1 w2 : World} {g h : Nat} (hP : PoolAt w w1 g c8 none) (hb : Below w.heap.size w w1) (hQ : PoolAt w1 w2 h c8 none) (hb2 : Below w1.heap.size w1 w2) (hh : w1.heap.size ≤ h) : Duo w (w2.alloc (.cells (cC c8) 26)) g h w2.heap.size none none := by
  have h1 := blk_lt hP.1
  refine ⟨⟨(hP.below hb2).below (below_alloc (Below.refl _ _) _), heap_alloc_new w2 _, below_alloc (below_step hb hb2) _⟩, ⟨PoolAt.below (o := none) ⟨hQ.1, Nat.le_trans hb.size hQ.2⟩ (below_alloc (Below.refl _ _) _), heap_alloc_new w2 _, below_alloc (below_step hb hb2) _⟩, fun e => by omega, trivial, rfl, rfl, rfl⟩
theorem mark_any {w W : World} {g k : Nat} {b : Bn} (h : St w W g k (some b)) (hg : Grows (some b)) : Calls Try.prog 10 #[.pointer (some ⟨g, 0, none⟩), .agg (cC c8), .int .i64 b.total] W fun e w' => e = .returned (.int .i64 0) ∧ St w w' g k (some { b with mark := b.total }) ∧ Chg (PoolOf g (some b)) W w' := by
  obtain ⟨g1, g2, g3, g4⟩ := hg
  refine (mark_ok (w0 := w) (b := b) h.pool b.total chk8 ⟨g4, by omega⟩).mono ?_
  rintro e w' ⟨rfl, hB, hc⟩
  exact ⟨rfl, h.next (o' := some { b with mark := b.total }) hB (PoolOf_sub hc), PoolOf_sub hc⟩
/-- ones -/
def Onesl (l : List S32) : Prop := ∀ x ∈ l, ∃ n : Int, x = oneS n ∧ 0 ≤ n ∧ n < 256
theorem Onesl.snoc {l : List S32} (h : Onesl l) {n : Int} (h0 : 0 ≤ n) (h1 : n < 256) : Onesl (l ++ [oneS n]) := fun x hx => by
  rcases List.mem_append.1 hx with hx | hx
  · exact h x hx
  · exact ⟨n, List.mem_singleton.1 hx, h0, h1⟩
theorem wf8_inv {x : Int} (h : (Lit.int .u8 x).wf = true) : 0 ≤ x ∧ x < 256 := by
  have e1 : IntKind.u8.min = 0 := by decide
  have e2 : IntKind.u8.max = 255 := by decide
  simp only [Lit.wf, e1, e2, Bool.and_eq_true, decide_eq_true_eq] at h
  omega
theorem off_row {W : World} {base base' : Nat} {ok okm : Nat → Prop} {v : Value} {xs : List S32} {x : S32} {cs : List Value} (h : Kd.R kS 32 W base' ok v xs) (hm : kS.M W base okm x cs) : kS.M W base (fun k => okm k ∧ some k ≠ v.ownBlock) x cs := by
  obtain ⟨inner, hown⟩ := Kd.R_own h
  cases hv : v.ownBlock with
  | none => exact kS.M_mono (fun k hk => ⟨hk, by simp⟩) hm
  | some g =>
    obtain ⟨cells, hcell⟩ := own_typed hown g hv
    exact kS.M_mono (fun k hk => ⟨hk.1, fun e => hk.2 (by injection e)⟩) (Kd.M_types hm hcell (by decide))
/-- two rows that grow beside each other -/
structure Pair (W : World) (base : Nat) (u v : Value) (la lb : List S32) : Prop where
  a : Kd.R kS 32 W base (fun k => True ∧ some k ≠ v.ownBlock) u la
  b : Kd.R kS 32 W base (fun k => True ∧ some k ≠ u.ownBlock) v lb
theorem Pair.below {W W' : World} {base : Nat} {u v : Value} {la lb : List S32} (h : Pair W base u v la lb) (hb : Below W.heap.size W W') : Pair W' base u v la lb := ⟨Kd.R_below h.a hb, Kd.R_below h.b hb⟩
theorem Pair.swap {W : World} {base : Nat} {u v : Value} {la lb : List S32} (h : Pair W base u v la lb) : Pair W base v u lb la := ⟨h.b, h.a⟩
theorem Pair.fresh {W : World} {base : Nat} {u v : Value} {la lb : List S32} (h : Pair W base u v la lb) : ∀ k, W.heap.size ≤ k → True ∧ some k ≠ v.ownBlock := fun k hk => ⟨trivial, fun e => by
  have := ((Kd.R_bound h.b).1 k e.symm).2.2.1
  omega⟩
theorem Pair.off {W : World} {base base' : Nat} {u v : Value} {la lb : List S32} {x : S32} {cs : List Value} (h : Pair W base u v la lb) (hm : kS.M W base' (fun _ => True) x cs) : kS.M W base' (fun k => (True ∧ some k ≠ v.ownBlock) ∧ some k ≠ u.ownBlock) x cs := off_row h.a (off_row h.b hm)
theorem Pair.grown {W W1 : World} {base : Nat} {u v u1 : Value} {la lb la1 : List S32} (h : Pair W base u v la lb) (ho : Kd.R kS 32 W1 base (fun k => True ∧ some k ≠ v.ownBlock) u1 la1) (hg : W.grownBy W1 u.ownBlock) (hat : u1.ownBlock = u.ownBlock ∨ ∃ b, u1.ownBlock = some b ∧ W.heap.size ≤ b) : Pair W1 base u1 v la1 lb := ⟨ho, Kd.R_after h.b hg hat⟩
theorem St.grown {w W W' : World} {g k : Nat} {o : Option Bn} {row : Option Nat} (h : St w W g k o) (hb : Below w.heap.size w W') (hg : W.grownBy W' row) (hr : ∀ j, row = some j → ∃ cells, W.heap[j]? = some (.cells cells 32 (0, 0))) : St w W' g k o := by
  have hne : ∀ {i t : Nat} {cs : Array Value}, W.heap[i]? = some (.cells cs t (0, 0)) → t ≠ 32 → some i ≠ row := fun hi ht e => by
    obtain ⟨cells, hc⟩ := hr _ e.symm
    rw [hi] at hc
    injection hc with hc; injection hc with _ hc _
    exact ht hc
  refine ⟨?_, blk_grown h.kc hg (hne h.kc (by decide)), hb⟩
  cases o with
  | none => exact ⟨blk_grown h.pool.1 hg (hne h.pool.1 (by decide)), h.pool.2⟩
  | some b =>
    have hB : BinAt w W g c8 b := h.pool
    obtain ⟨cs, hrow, -⟩ := hB.row
    refine BinAt.chg hB (S := fun j => row = some j) ((Chg.refl _ W).grown hg (fun j e => .inl e)) (fun j hj => ?_)
    obtain ⟨cells, hc⟩ := hr j hj
    refine ⟨own_neV hB.own hc, fun e => hne hB.pool (by decide) (by rw [← e]; exact hj.symm), fun e => hne hrow (by decide) (by rw [← e]; exact hj.symm), fun e => hne hB.blk (by decide) (by rw [← e]; exact hj.symm), fun cs' hcs => ?_⟩
    rw [hc] at hcs
    injection hcs with hcs; injection hcs with _ hcs _
    exact absurd hcs (by decide)
theorem Duo.grown {w W W' : World} {g h k : Nat} {o1 o2 : Option Bn} {row : Option Nat} (H : Duo w W g h k o1 o2) (hb : Below w.heap.size w W') (hg : W.grownBy W' row) (hr : ∀ j, row = some j → ∃ cells, W.heap[j]? = some (.cells cells 32 (0, 0))) : Duo w W' g h k o1 o2 := ⟨H.l.grown hb hg hr, H.r.grown hb hg hr, H.ne, H.apart, H.tot, H.mark, H.next⟩
theorem row_typed {W : World} {base : Nat} {ok : Nat → Prop} {v : Value} {xs : List S32} (h : Kd.R kS 32 W base ok v xs) (j : Nat) (hj : v.ownBlock = some j) : ∃ cells, W.heap[j]? = some (.cells cells 32 (0, 0)) := by
  obtain ⟨inner, hown⟩ := Kd.R_own h
  exact own_typed hown j hj
theorem granted_tot (o : Option Bn) (n : Int) : totO (granted o n) = totO o ∧ markO (granted o n) = markO o := by
  cases o with
  | none => exact ⟨rfl, rfl⟩
  | some b =>
    unfold granted
    simp only
    repeat' split
    all_goals exact ⟨rfl, rfl⟩
theorem granted_next (o : Option Bn) (n : Int) : nextO (granted o n) = if n < 1 ∨ 64 < n then nextO o else if freeO o < n then nextO o else nextO o + n := by
  cases o with
  | none =>
    show (0 : Int) = if n < 1 ∨ 64 < n then 0 else if (0 : Int) < n then 0 else 0 + n
    repeat' split
    all_goals omega
  | some b =>
    unfold granted
    simp only
    show _ = if n < 1 ∨ 64 < n then b.next else if freeB b.total b.mark b.next < n then b.next else b.next + n
    repeat' split
    all_goals rfl
theorem granted_apart {o1 o2 : Option Bn} (n : Int) (h : Apart o1 o2) : Apart (granted o1 n) o2 := by
  cases o1 with
  | none => exact h
  | some b =>
    unfold granted
    simp only
    repeat' split
    all_goals (cases o2 <;> exact h)
theorem St.cells6 {w W : World} {g k : Nat} {o : Option Bn} (h : St w W g k o) {a : Addr} {v : Value} (hc : W.cell? a = some v) : W.cell? ⟨k, 0, none⟩ = some (.int .i64 1) ∧ W.cell? ⟨k, 1, none⟩ = some (.int .i64 8) ∧ W.cell? ⟨k, 2, none⟩ = some (.int .i64 0) ∧ W.cell? ⟨k, 3, none⟩ = some (.int .i64 0) ∧ W.cell? ⟨k, 4, none⟩ = some (.int .i64 0) ∧ W.cell? a = some v := by
  obtain ⟨a0, a1, a2, a3, a4⟩ := h.cells
  exact ⟨a0, a1, a2, a3, a4, hc⟩
/-! ### trefoillaw32_PoolAlike: function 4 -/
def trefoillaw32_PoolAlike.f (l0 l1 : List Int) : Option Bool := if (∀ y ∈ l0, (Lit.int .u8 y).wf = true) ∧ (∀ y ∈ l1, (Lit.int .u8 y).wf = true) then some true else none
set_option maxHeartbeats 4000000 in
set_option maxRecDepth 100000 in
theorem trefoillaw32_PoolAlike.calls (A0 : Option Addr) (c0 : Nat) (l0 : List Int) (A1 : Option Addr) (c1 : Nat) (l1 : List Int) (r : Bool) (w : World) (hr0 : Kd.C (Kd.int .u8) w A0 l0.length l0) (hc0 : l0.length ≤ c0) (hr1 : Kd.C (Kd.int .u8) w A1 l1.length l1) (hc1 : l1.length ≤ c1) (h : trefoillaw32_PoolAlike.f l0 l1 = some r) :
    Calls Try.prog 4 #[.slice A0 l0.length c0, .slice A1 l1.length c1] w fun e w' => e = .returned (.bool r) ∧ Below w.heap.size w w' := by
  unfold trefoillaw32_PoolAlike.f at h
  by_cases hk : (∀ y ∈ l0, (Lit.int .u8 y).wf = true) ∧ (∀ y ∈ l1, (Lit.int .u8 y).wf = true)
  case neg => rw [if_neg hk] at h; cases h
  rw [if_pos hk] at h
  obtain rfl := Option.some.inj h
  have HK := Lib.hid hk
  have HR0 := Lib.hid hr0
  have HR1 := Lib.hid hr1
  clear h hk hr0 hr1 hc0 hc1
  go_enter Try.func4, Try.ntmps4
  go_wp2_with (first
    | (go_at_call 7; have _t := HN1; (with_reducible refine (pnew_ok c8 _).mono ?_); rintro e w2 ⟨h, rfl, hh, hQ, hb2⟩; have HD0 := Lib.hid (duo_begin HN1.out.1 HN1.out.2 hQ hb2 hh); clear hh hQ hb2)
    | (go_at_call 7; (with_reducible refine (pnew_ok c8 _).mono ?_); rintro e w1 ⟨g, rfl, hg, hP, hb⟩; have HN1 := Lib.hid (And.intro hP hb); clear hg hP hb))
  obtain ⟨W0, hW0⟩ : ∃ W0, W0 = w2.alloc (.cells (cC c8) 26) := ⟨_, rfl⟩
  rw [← hW0] at HD0 ⊢
  clear hW0
  go_loopw [8] (fun s wr => ∃ (i : Nat) (o1 o2 : Option Bn), i ≤ 20 ∧ s = .int .i64 (i : Int) ∧ Go.RowKit.Hid (Grows o1) ∧ Go.RowKit.Hid (Grows o2) ∧ Go.RowKit.Hid (Duo w wr g h w2.heap.size o1 o2)) (fun s _ => 30 - (intOf s).toNat)
  case atStart => exact ⟨0, none, none, by omega, rfl, Lib.hid trivial, Lib.hid trivial, HD0⟩
  case round =>
    obtain ⟨i, o1, o2, hi, rfl, HG1, HG2, HD1⟩ := hrel
    by_cases hin : i < l0.length ∧ i < 20
    · obtain ⟨hil, hi20⟩ := hin
      have q1 : (i : Int) < (l0.length : Int) := by omega
      have q2 : (i : Int) < 20 := by omega
      obtain ⟨x, hx, hx0, hx1⟩ : ∃ x : Int, rdOf 0 l0 (i : Int) = x ∧ 0 ≤ x ∧ x < 256 := by
        refine ⟨_, rfl, ?_⟩
        have hy : rdOf 0 l0 (i : Int) ∈ l0 := by
          unfold rdOf
          rw [Int.toNat_natCast, List.getD_eq_getElem?_getD, List.getElem?_eq_getElem hil]
          exact List.getElem_mem hil
        exact wf8_inv (HK.out.1 _ hy)
      have HRW : Go.RowKit.Hid (∀ W, Below w.heap.size w W → ∃ ad, A0 = some ad ∧ W.cell? (ad.add i) = some (.int .u8 x)) := Lib.hid (fun W hW => by
        obtain ⟨ad, he, hc⟩ := (Kd.reads_of_C (d := 0) (Kd.C_below HR0.out hW)).at_ (i : Int) (by omega) (by omega)
        rw [hx] at hc
        exact ⟨ad, he, by simpa using hc⟩)
      clear hx
      obtain ⟨ad, rfl, -⟩ := HRW.out w (Below.refl _ _)
      go_wp2
      go_loopw [9, 10, 11] (fun u v s wr2 => ∃ (j : Nat) (la lb : List S32), (j : Int) ≤ x % 5 ∧ s = .int .i64 (j : Int) ∧ Go.RowKit.Hid (Onesl la ∧ Onesl lb ∧ la.length = j ∧ lb.length = j) ∧ Go.RowKit.Hid (Pair wr2 w.heap.size u v la lb) ∧ Go.RowKit.Hid (Duo w wr2 g h w2.heap.size o1 o2)) (fun u v s _ => 10 - (intOf s).toNat)
      case atStart => exact ⟨0, [], [], by omega, rfl, Lib.hid ⟨fun x hx => by simp at hx, fun x hx => by simp at hx, rfl, rfl⟩, Lib.hid ⟨Kd.R_nil _ _ _ _ _, Kd.R_nil _ _ _ _ _⟩, HD1⟩
      case round =>
        obtain ⟨j, la, lb, hj, rfl, HO, HP, HD2⟩ := hrel
        obtain ⟨ad', hadd, k0⟩ := HRW.out _ HD2.out.l.bel
        obtain rfl := Option.some.inj hadd
        clear hadd
        by_cases hjc : (j : Int) < x % 5
        · have hlen1 : (la.length + 1) * 72 ≤ 140737488355328 := by have := HO.out.2.2.1; omega
          have hlen2 : (lb.length + 1) * 72 ≤ 140737488355328 := by have := HO.out.2.2.2; omega
          have HLN := Lib.hid (And.intro hlen1 hlen2)
          clear hlen1 hlen2
          go_wp2_with (first
            | (go_at_call 9; have _t := HP4; go_loud (refine (one_ok _ _).mono ?_; rintro e w5 ⟨B0, d0, B1, d1, B2, d2, rfl, hm, hb⟩; have HM5 := Lib.hid (kS.M_lower HD4.out.l.bel.size hm); have HP5 := Lib.hid (HP4.out.below hb); have HD5 := Lib.hid (HD4.out.below hb); clear hm hb))
            | (go_at_call 9; go_loud (refine (one_ok _ _).mono ?_; rintro e w3 ⟨B0, d0, B1, d1, B2, d2, rfl, hm, hb⟩; have HM3 := Lib.hid (kS.M_lower HD2.out.l.bel.size hm); have HP3 := Lib.hid (HP.out.below hb); have HD3 := Lib.hid (HD2.out.below hb); clear hm hb))
            | (at_builtin; have _t := HP5; go_loud (refine Kd.R_append kS (w0 := w) w.heap.size rfl (.tmp 50) (.tmp 57) 35 32 (.agg #[(.slice none 0 0), (.slice none 0 0), (.slice none 0 0)]) 72 rfl Try.underlying35 info32 rfl (by decide) (by omega) _ lb _ _ _ _ rfl rfl (HP5.out.swap.off HM5.out) (fun k hk => hk) HP5.out.swap.fresh HP5.out.swap.a HD5.out.l.bel HD5.out.l.bel.size HLN.out.2 ?_; intro v6 w6 ho hb hg hat; have HP6 := Lib.hid ((HP5.out.swap.grown ho hg hat).swap); have HD6 := Lib.hid (HD5.out.grown hb hg (fun j hj => row_typed HP5.out.b j hj)); clear ho hb hg hat))
            | (at_builtin; go_loud (refine Kd.R_append kS (w0 := w) w.heap.size rfl (.tmp 44) (.tmp 48) 35 32 (.agg #[(.slice none 0 0), (.slice none 0 0), (.slice none 0 0)]) 72 rfl Try.underlying35 info32 rfl (by decide) (by omega) _ la _ _ _ _ rfl rfl (HP3.out.off HM3.out) (fun k hk => hk) HP3.out.fresh HP3.out.a HD3.out.l.bel HD3.out.l.bel.size HLN.out.1 ?_; intro v4 w4 ho hb hg hat; have HP4 := Lib.hid (HP3.out.grown ho hg hat); have HD4 := Lib.hid (HD3.out.grown hb hg (fun j hj => row_typed HP3.out.a j hj)); clear ho hb hg hat)))
          go_roundw
          case rel => exact ⟨j + 1, la ++ [oneS (j : Int)], lb ++ [oneS _], by omega, by go_num, Lib.hid ⟨HO.out.1.snoc (by omega) (by omega), HO.out.2.1.snoc (by omega) (by omega), by rw [List.length_append, HO.out.2.2.1]; rfl, by rw [List.length_append, HO.out.2.2.2]; rfl⟩, HP6, HD6⟩
          case measure => simp [intOf]; omega
        · obtain ⟨Aa, ca, rfl, -, -⟩ := Kd.R_reads HP.out.a
          obtain ⟨Ab, cb, rfl, -, -⟩ := Kd.R_reads HP.out.b
          have HRA := Lib.hid (Kd.R_mono HP.out.a (fun _ _ => trivial) : Kd.R kS 32 wr w.heap.size (fun _ => True) (.slice Aa la.length ca) la)
          have HRB := Lib.hid (Kd.R_mono HP.out.b (fun _ _ => trivial) : Kd.R kS 32 wr w.heap.size (fun _ => True) (.slice Ab lb.length cb) lb)
          have HPA := Lib.hid (puttable_ones la (by have := HO.out.2.2.1; omega) HO.out.1)
          have HPB := Lib.hid (puttable_ones lb (by have := HO.out.2.2.2; omega) HO.out.2.1)
          have HEQ := Lib.hid (show putV1 o2 lb.length = putV1 o1 la.length ∧ putV2 o2 lb.length = putV2 o1 la.length by unfold putV1 putV2; rw [HD2.out.tot, HO.out.2.2.1, HO.out.2.2.2]; exact ⟨rfl, rfl⟩)
          have HLL := Lib.hid (show lb.length = la.length by rw [HO.out.2.2.1, HO.out.2.2.2])
          clear HP
          obtain ⟨k1, k2, k3, k4, k5⟩ := HD2.out.l.cells
          go_wp2_with (first
            | (go_at_call 8; have _t := HS3; go_loud (refine (put_any HO3.out HG2.out Ab cb lb HRB3.out HPB.out).mono ?_); rintro e w4 ⟨rfl, o2', hs, hgr, hc⟩; rw [HEQ.out.1, HEQ.out.2]; have HGR2 := Lib.hid hgr; have HS4 := Lib.hid hs; have HO4 := Lib.hid (HS3.out.other HO3.out (fun e => HD2.out.ne e.symm) HAP3.out.symm hc); have HAP4 := Lib.hid (hgr.apart HS3.out HAP3.out.symm); clear hs hgr hc k1 k2 k3 k4 k5; obtain ⟨k1, k2, k3, k4, k5⟩ := HS4.out.cells)
            | (go_at_call 8; go_loud (refine (put_any HD2.out.l HG1.out Aa ca la HRA.out HPA.out).mono ?_); rintro e w3 ⟨rfl, o1', hs, hgr, hc⟩; have HGR1 := Lib.hid hgr; have HS3 := Lib.hid hs; have HO3 := Lib.hid (HD2.out.r.other HD2.out.l HD2.out.ne HD2.out.apart hc); have HAP3 := Lib.hid (hgr.apart HD2.out.r HD2.out.apart); have HRB3 := Lib.hid (RS_chg HRB.out hc (fun k cs t hk => HD2.out.l.pool.types k cs t hk)); clear hs hgr hc k1 k2 k3 k4 k5; obtain ⟨k1, k2, k3, k4, k5⟩ := HS3.out.cells))
          obtain ⟨b1, rfl⟩ := HGR1.out.one
          obtain ⟨b2, rfl⟩ := HGR2.out.one
          have HE3 := Lib.hid (show b2.total = b1.total by
            have h1 := HGR1.out.tot
            have h2 := HGR2.out.tot
            rw [HD2.out.tot, ← HLL.out] at h1
            exact h2.trans h1.symm)
          generalize putV1 o1 la.length = x1 at *
          generalize putV2 o1 la.length = x2 at *
          have HL := Lib.hid HS4.out.cells
          go_region_held3 (fun W => W.cell? ⟨w2.heap.size, 0, none⟩ = some (.int .i64 1) ∧ W.cell? ⟨w2.heap.size, 1, none⟩ = some (.int .i64 8) ∧ W.cell? ⟨w2.heap.size, 2, none⟩ = some (.int .i64 0) ∧ W.cell? ⟨w2.heap.size, 3, none⟩ = some (.int .i64 0) ∧ W.cell? ⟨w2.heap.size, 4, none⟩ = some (.int .i64 0))
            ((first | exact HL.out | exact HL5.out | exact HL6.out | exact HL7.out | exact HL8.out))
            (first
              | (go_at_call 14; have _t := HS6; go_loud (refine (show Calls Try.prog 14 _ _ fun e w' => e = .returned (.int .i64 b1.total) ∧ Below w6.heap.size w6 w' from total_one (b := { b1 with mark := b1.total }) HS6.out.pool).mono ?_; rintro e w7 ⟨rfl, hb⟩; have HS7 := Lib.hid (HS6.out.below hb); have HO7 := Lib.hid (HO6.out.below hb); have HL7 := Lib.hid HS7.out.cells; clear hb))
              | (go_at_call 14; go_loud (refine (total_one (HS4.out.below (below_drew1 (Below.refl _ _))).pool).mono ?_; rintro e w5 ⟨rfl, hb⟩; rw [HE3.out]; have HS5 := Lib.hid (HS4.out.below (below_step (below_drew1 (Below.refl _ _)) hb)); have HO5 := Lib.hid (HO4.out.below (below_step (below_drew1 (Below.refl _ _)) hb)); have HL5 := Lib.hid HS5.out.cells; clear hb))
              | (go_at_call 10; have _t := HS7; go_loud (have HMK := mark_any HO7.out HGR2.out.grows; rw [HE3.out] at HMK; refine HMK.mono ?_; rintro e w8 ⟨rfl, hs, hc⟩; have HS8 := Lib.hid hs; have HO8 := Lib.hid (HS7.out.other HO7.out (fun e => HD2.out.ne e.symm) (show b2.p ≠ b1.p ∧ b2.mb ≠ b1.mb from HAP4.out) hc); have HL8 := Lib.hid HS8.out.cells; clear hs hc HMK))
              | (go_at_call 10; go_loud (refine (mark_any HO5.out HGR1.out.grows).mono ?_; rintro e w6 ⟨rfl, hs, hc⟩; have HS6 := Lib.hid hs; have HO6 := Lib.hid (HS5.out.other HO5.out HD2.out.ne HAP4.out.symm hc); have HL6 := Lib.hid HS6.out.cells; clear hs hc)))
          have HNX := Lib.hid (show b1.next = b2.next from HGR1.out.next.trans (HD2.out.next.trans HGR2.out.next.symm))
          have HDN := Lib.hid (show Duo w w8 g h w2.heap.size _ _ from ⟨HO8.out, HS8.out, HD2.out.ne, HAP4.out.symm, rfl, rfl, HNX.out⟩)
          have HGA := Lib.hid (show Grows (some { b1 with mark := b1.total }) from ⟨HGR1.out.grows.1, HGR1.out.grows.2.1, HGR1.out.grows.2.2.1, Int.le_refl _⟩)
          have HGB := Lib.hid (show Grows (some { b2 with mark := b1.total, total := b1.total }) from ⟨HGR2.out.grows.1.trans HE3.out, HGR2.out.grows.2.1.trans HE3.out, HGR1.out.grows.2.2.1, Int.le_refl _⟩)
          go_wp2
          go_roundw
          case rel => exact ⟨i + 1, _, _, by omega, by go_num, HGA, HGB, HDN⟩
          case measure => simp [intOf]; omega
    · have hq : (¬ (i : Int) < (l0.length : Int)) ∨ ((i : Int) < (l0.length : Int) ∧ ¬ (i : Int) < 20) := by omega
      clear HG1 HG2 HD0
      rcases hq with q1 | ⟨q1, q2⟩
      all_goals
        go_wp2
        go_loopw [16] (fun s wr3 => ∃ (m : Nat) (p1 p2 : Option Bn), m ≤ 30 ∧ s = .int .i64 (m : Int) ∧ Go.RowKit.Hid (Duo w wr3 g h w2.heap.size p1 p2)) (fun s _ => 40 - (intOf s).toNat)
        case atStart => exact ⟨0, _, _, by omega, rfl, HD1⟩
        case round =>
          obtain ⟨m, p1, p2, hm, rfl, HD2⟩ := hrel
          by_cases hmn : m < l1.length ∧ m < 30
          · obtain ⟨hml, hm30⟩ := hmn
            have t1 : (m : Int) < (l1.length : Int) := by omega
            have t2 : (m : Int) < 30 := by omega
            obtain ⟨y, hy, hy0, hy1⟩ : ∃ y : Int, rdOf 0 l1 (m : Int) = y ∧ 0 ≤ y ∧ y < 256 := by
              refine ⟨_, rfl, ?_⟩
              have hy : rdOf 0 l1 (m : Int) ∈ l1 := by
                unfold rdOf
                rw [Int.toNat_natCast, List.getD_eq_getElem?_getD, List.getElem?_eq_getElem hml]
                exact List.getElem_mem hml
              exact wf8_inv (HK.out.2 _ hy)
            obtain ⟨ad1, hA1⟩ : ∃ ad1, A1 = some ad1 := by
              obtain ⟨ad, he, -⟩ := (Kd.reads_of_C (d := 0) HR1.out).at_ (m : Int) (by omega) (by omega)
              exact ⟨ad, he⟩
            have HRY : Go.RowKit.Hid (∀ W, Below w.heap.size w W → W.cell? (ad1.add m) = some (.int .u8 y)) := Lib.hid (fun W hW => by
              obtain ⟨ad, he, hc⟩ := (Kd.reads_of_C (d := 0) (Kd.C_below HR1.out hW)).at_ (m : Int) (by omega) (by omega)
              rw [hy] at hc
              rw [hA1] at he
              obtain rfl := Option.some.inj he
              simpa using hc)
            clear hy
            subst hA1
            have HV := Lib.hid (show grantV1 p2 (IntKind.i64.wrap (y.tmod 5)) = grantV1 p1 (IntKind.i64.wrap (y.tmod 5)) ∧ grantV2 p2 (IntKind.i64.wrap (y.tmod 5)) = grantV2 p1 (IntKind.i64.wrap (y.tmod 5)) ∧ freeO (granted p2 (IntKind.i64.wrap (y.tmod 5))) = freeO (granted p1 (IntKind.i64.wrap (y.tmod 5))) ∧ nextO (granted p1 (IntKind.i64.wrap (y.tmod 5))) = nextO (granted p2 (IntKind.i64.wrap (y.tmod 5))) by
              have ef : freeO p2 = freeO p1 := by rw [freeO_eq, freeO_eq, HD2.out.tot, HD2.out.mark, HD2.out.next]
              have en : nextO (granted p1 (IntKind.i64.wrap (y.tmod 5))) = nextO (granted p2 (IntKind.i64.wrap (y.tmod 5))) := by rw [granted_next, granted_next, ef, HD2.out.next]
              refine ⟨by unfold grantV1; rw [ef, HD2.out.next], by unfold grantV2; rw [ef], ?_, en⟩
              rw [freeO_eq, freeO_eq, (granted_tot p2 _).1, (granted_tot p2 _).2, (granted_tot p1 _).1, (granted_tot p1 _).2, HD2.out.tot, HD2.out.mark, en])
            have HL := Lib.hid (HD2.out.l.cells6 (HRY.out _ HD2.out.l.bel))
            go_wp2
            go_region_held3 (fun W => W.cell? ⟨w2.heap.size, 0, none⟩ = some (.int .i64 1) ∧ W.cell? ⟨w2.heap.size, 1, none⟩ = some (.int .i64 8) ∧ W.cell? ⟨w2.heap.size, 2, none⟩ = some (.int .i64 0) ∧ W.cell? ⟨w2.heap.size, 3, none⟩ = some (.int .i64 0) ∧ W.cell? ⟨w2.heap.size, 4, none⟩ = some (.int .i64 0) ∧ W.cell? (ad1.add m) = some (.int .u8 y))
              ((first | exact HL.out | exact HL3.out))
              ((go_at_call 11; go_loud (refine (grant_any (HD2.out.below (below_drew1 (Below.refl _ _))).l (IntKind.i64.wrap (y.tmod 5))).mono ?_; rintro e w3 ⟨rfl, hs, hc⟩; have HS3 := Lib.hid hs; have HO3 := Lib.hid ((HD2.out.below (below_drew1 (Below.refl _ _))).r.other (HD2.out.below (below_drew1 (Below.refl _ _))).l HD2.out.ne HD2.out.apart hc); have HL3 := Lib.hid (HS3.out.cells6 (HRY.out _ HS3.out.bel)); clear hs hc)))
            go_wp2
            go_region_held3 (fun W => W.cell? ⟨w2.heap.size, 0, none⟩ = some (.int .i64 1) ∧ W.cell? ⟨w2.heap.size, 1, none⟩ = some (.int .i64 8) ∧ W.cell? ⟨w2.heap.size, 2, none⟩ = some (.int .i64 0) ∧ W.cell? ⟨w2.heap.size, 3, none⟩ = some (.int .i64 0) ∧ W.cell? ⟨w2.heap.size, 4, none⟩ = some (.int .i64 0) ∧ W.cell? (ad1.add m) = some (.int .u8 y))
              ((first | exact HL3.out | exact HL4.out))
              ((go_at_call 11; go_loud (refine (grant_any (HO3.out.below (below_drew1 (Below.refl _ _))) (IntKind.i64.wrap (y.tmod 5))).mono ?_; rintro e w4 ⟨rfl, hs, hc⟩; rw [HV.out.1, HV.out.2.1]; have HO4 := Lib.hid hs; have HS4 := Lib.hid ((HS3.out.below (below_drew1 (Below.refl _ _))).other (HO3.out.below (below_drew1 (Below.refl _ _))) (fun e => HD2.out.ne e.symm) (granted_apart (IntKind.i64.wrap (y.tmod 5)) HD2.out.apart).symm hc); have HL4 := Lib.hid (HS4.out.cells6 (HRY.out _ HS4.out.bel)); clear hs hc)))
            have HAP := Lib.hid (granted_apart (IntKind.i64.wrap (y.tmod 5)) (granted_apart (IntKind.i64.wrap (y.tmod 5)) HD2.out.apart).symm).symm
            have HTM := Lib.hid (And.intro ((granted_tot p1 (IntKind.i64.wrap (y.tmod 5))).1.trans (HD2.out.tot.trans (granted_tot p2 (IntKind.i64.wrap (y.tmod 5))).1.symm)) ((granted_tot p1 (IntKind.i64.wrap (y.tmod 5))).2.trans (HD2.out.mark.trans (granted_tot p2 (IntKind.i64.wrap (y.tmod 5))).2.symm)))
            generalize grantV1 p1 (IntKind.i64.wrap (y.tmod 5)) = x1 at *
            generalize grantV2 p1 (IntKind.i64.wrap (y.tmod 5)) = x2 at *
            go_wp2
            go_region_held3 (fun W => W.cell? ⟨w2.heap.size, 0, none⟩ = some (.int .i64 1) ∧ W.cell? ⟨w2.heap.size, 1, none⟩ = some (.int .i64 8) ∧ W.cell? ⟨w2.heap.size, 2, none⟩ = some (.int .i64 0) ∧ W.cell? ⟨w2.heap.size, 3, none⟩ = some (.int .i64 0) ∧ W.cell? ⟨w2.heap.size, 4, none⟩ = some (.int .i64 0) ∧ W.cell? (ad1.add m) = some (.int .u8 y))
              ((first | exact HL4.out | exact HL5.out | exact HL6.out))
              (first
                | (go_at_call 16; have _t := HS5; go_loud (refine (free_ok HO5.out.pool).mono ?_; rintro e w6 ⟨rfl, hb⟩; rw [HV.out.2.2.1]; have HS6 := Lib.hid (HS5.out.below hb); have HO6 := Lib.hid (HO5.out.below hb); have HL6 := Lib.hid (HS6.out.cells6 (HRY.out _ HS6.out.bel)); clear hb))
                | (go_at_call 16; go_loud (refine (free_ok (HS4.out.below (below_drew1 (Below.refl _ _))).pool).mono ?_; rintro e w5 ⟨rfl, hb⟩; have HS5 := Lib.hid (HS4.out.below (below_step (below_drew1 (Below.refl _ _)) hb)); have HO5 := Lib.hid (HO4.out.below (below_step (below_drew1 (Below.refl _ _)) hb)); have HL5 := Lib.hid (HS5.out.cells6 (HRY.out _ HS5.out.bel)); clear hb)))
            have HDN := Lib.hid (show Duo w w6 g h w2.heap.size _ _ from ⟨HS6.out, HO6.out, HD2.out.ne, HAP.out, HTM.out.1, HTM.out.2, HV.out.2.2.2⟩)
            go_wp2
            go_roundw
            case rel => exact ⟨m + 1, _, _, by omega, by go_num, HDN⟩
            case measure => simp [intOf]; omega
          · have hq2 : (¬ (m : Int) < (l1.length : Int)) ∨ ((m : Int) < (l1.length : Int) ∧ ¬ (m : Int) < 30) := by omega
            rcases hq2 with t1 | ⟨t1, t2⟩
            all_goals
              go_wp2_with (go_at_call 15; go_loud (refine (awake32.calls _).mono ?_; rintro e w9 ⟨rfl, hb⟩))
              go_ret
              exact ⟨rfl, below_step HD2.out.l.bel hb⟩
end Go.Proofs.Ytieaealkdjnolaa.P
