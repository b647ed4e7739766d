/- Shares drawn from a tape: rows of shares that grow; dabit.Draw, the program's and the document's. -/
import Derived.Test.YtdgngpcfikgoeaaDoorTap6
import Derived.Test.YtdgngpcfikgoeaaDoorPx6
import Derived.Test.YtdgngpcfikgoeaaDoorPx8
import Derived.Test.YtdgngpcfikgoeaaDoorPx10
import Derived.Test.YtdgngpcfikgoeaaDoorLemDchk
namespace Go.Proofs.YtdgngpcfikgoeaaDoor.P
open Go.RowKit Go.Extern.Stop Go.Stop Go.Extern Go.Proofs.YtdgngpcfikgoeaaDoorW.PrintWords Go.Proofs.YtdgngpcfikgoeaaDoorW.PrintLast Go.Proofs.YtdgngpcfikgoeaaDoorW.PrintMore
set_option linter.unusedVariables false
set_option linter.unusedSimpArgs false
attribute [local go_sem ↓] Go.wp_at_zero Go.wp_at_succ

/-! ### rows of shares -/
abbrev SR (B : Nat) (w : World) (v : Value) (xs : List S86) : Prop := Kd.R k86 86 w B (fun _ => True) v xs
theorem SR.lt {B : Nat} {w : World} {v : Value} {xs : List S86} (h : SR B w v xs) : ∀ k, v.ownBlock = some k → k < w.heap.size := by
  obtain ⟨inner, ho⟩ := Kd.R_own h
  exact fun k hk => own_lt ho k hk
theorem SR.ge {B : Nat} {w : World} {v : Value} {xs : List S86} (h : SR B w v xs) : ∀ k, v.ownBlock = some k → B ≤ k := by
  obtain ⟨inner, ho⟩ := Kd.R_own h
  exact fun k hk => own_base ho k hk
theorem SR.C2 {B n c : Nat} {w : World} {A : Option Addr} {xs : List S86} (h : SR B w (.slice A n c) xs) : Kd.C k86 w A xs.length xs ∧ xs.length ≤ c := by
  obtain ⟨A', c', e, hc, hC⟩ := Kd.R_reads h
  injection e with e1 e2 e3
  subst e1 e3
  exact ⟨hC, hc⟩
section
variable {ops : Array Oper} {rest : List Oper} {o : Oper} {a : Act} {Q : Exit → Act → World → Prop}
/-- a share of two new rows is appended -/
theorem sr_app {b : Nat} {w0 W0 W : World} {v u1 u2 : Value} {xs : List S86} {ys zs : List Int} (h : SR b W0 v xs) (hbW : Below W0.heap.size W0 W) (hu1 : Kd.R (Kd.int .u64) 35 W W0.heap.size (fun _ => True) u1 ys) (hu2 : Kd.R (Kd.int .u64) 35 W W0.heap.size (fun _ => True) u2 zs)
    (hb0 : b ≤ W0.heap.size) (HB : Below b w0 W) (hl : xs.length < 1954687338268) (hgd : o.guard = none) (s xo : Operand) (ho : o.op = .call { callee := .builtin .append, args := #[s, xo], argTypes := #[63, 63] }) (hs : a.eval s = v) (hx : a.eval xo = .slice (some ⟨W.heap.size, 0, none⟩) 1 1)
    (hk : ∀ v1 w1, SR b w1 v1 (xs ++ [⟨ys, zs, []⟩]) → Below b w0 w1 → W0.grownBy w1 v.ownBlock → wpList Tryd.prog ops Q rest (a.put o.dst v1) w1) : wpList Tryd.prog ops Q (o :: rest) a (W.alloc (.cells #[u1, u2, .slice none 0 0] 86)) := by
  have hlt := SR.lt h
  have hsz := hbW.size
  refine Kd.R_append k86 (w0 := w0) b hgd s xo 63 86 (.agg #[(.slice none 0 0), (.slice none 0 0), (.slice none 0 0)]) 72 ho Tryd.underlying63 info86 rfl (by decide) (by omega) v xs ⟨ys, zs, []⟩ [u1, u2, .slice none 0 0] (fun _ => True) (fun k => W0.heap.size ≤ k) hs hx
    (k86_mkM _ _ _ _ (Kd.R_lower (Kd.R_mono (Kd.R_bound hu1) (fun k hk => hk.2.1)) hb0) (Kd.R_lower (Kd.R_mono (Kd.R_bound hu2) (fun k hk => hk.2.1)) hb0) (Kd.R_nil _ _ _ _ _)) (fun k hk => ⟨trivial, fun e => by have := hlt k e.symm; omega⟩) (fun k hk => trivial)
    (Kd.R_below h hbW) HB (by omega) (by omega) ?_
  intro v1 w1 hr hb hg _
  exact hk v1 w1 hr hb (World.grownBy.trans (grown_of_below hbW _) hg)
end
/-- shares of one number each -/
def shs (Y : List Int) : List S86 := Y.map fun x => ⟨[x], [], []⟩
theorem shs_snoc (Y : List Int) (i : Nat) (h : i < Y.length) : shs (Y.take i) ++ [⟨[rd Y (i : Int)], [], []⟩] = shs (Y.take (i + 1)) := by
  unfold shs
  rw [List.take_succ_eq_append_getElem h, List.map_append]
  unfold rd
  rw [Int.toNat_natCast, List.getD_eq_getElem?_getD, List.getElem?_eq_getElem h]
  rfl
theorem shs_len (Y : List Int) : (shs Y).length = Y.length := by simp [shs]
/-- one number, laid -/
theorem RU_one (W : World) (B : Nat) (x : Int) (hb : B ≤ W.heap.size) : RU B (W.alloc (.cells #[.int .u64 x] 35)) (.slice (some ⟨W.heap.size, 0, none⟩) 1 1) [x] :=
  Kd.R_of_own (own_lit_of W B 35 [x] hb (by simp)) (fun _ _ => trivial)
/-- a class as a value -/
abbrev cV (c0 c1 c2 c3 c4 : Int) : Value := .agg #[.int .i64 c0, .int .i64 c1, .int .i64 c2, .int .i64 c3, .int .i64 c4]

/-! ### the document's dabit.Draw -/
theorem rcheck_ok (c0 c1 c2 c3 c4 n : Int) (w : World) : Calls Tryd.prog 43 #[cV c0 c1 c2 c3 c4, .int .i64 n] w fun e w' => e = .returned (.int .i64 (Lem.dchk c0 c1 c2 c3 c4 n)) ∧ Below w.heap.size w w' :=
  trefoilref25_Check.calls 10 c0 c1 c2 c3 c4 n _ w (Lem.dcheck_r 10 (by omega) c0 c1 c2 c3 c4 n)
theorem dcheck_ok (c0 c1 c2 c3 c4 n : Int) (w : World) : Calls Tryd.prog 42 #[cV c0 c1 c2 c3 c4, .int .i64 n] w fun e w' => e = .returned (.int .i64 (Lem.dchk c0 c1 c2 c3 c4 n)) ∧ Below w.heap.size w w' :=
  dabit_check.calls 10 c0 c1 c2 c3 c4 n _ w (Lem.dcheck_f 10 (by omega) c0 c1 c2 c3 c4 n)

/-! ### the program's dabit.Draw -/
set_option maxHeartbeats 1600000 in
theorem ddraw_no (c0 c1 c2 c3 c4 n : Int) (tp : Value) (w : World) (h : Lem.dchk c0 c1 c2 c3 c4 n ≠ 0) :
    Calls Tryd.prog 23 #[cV c0 c1 c2 c3 c4, .int .i64 n, tp] w fun e w' => ∃ v, e = .returned (.tuple #[.slice none 0 0, v]) ∧ ErrIs 0 w' v (Lem.dchk c0 c1 c2 c3 c4 n) ∧ Below w.heap.size w w' := by
  have HC := Lib.hid (fun W => dcheck_ok c0 c1 c2 c3 c4 n W)
  generalize Lem.dchk c0 c1 c2 c3 c4 n = t at *
  have HN := Lib.hid (fun W => fnew_err t ⟨#[100, 97, 98, 105, 116]⟩ W h)
  have hb : (t != 0) = true := by rw [bne_iff_ne]; exact h
  have HB0 := Lib.hid (below_alloc (Below.refl w.heap.size w) (.cells #[.int .i64 c0, .int .i64 c1, .int .i64 c2, .int .i64 c3, .int .i64 c4] 62))
  clear h
  go_enter Tryd.func23, Tryd.ntmps23
  go_wp2_with (first
    | (go_at_call 42; (with_reducible refine (HC.out _).mono ?_); rintro e w1 ⟨rfl, hb⟩; have HB1 := Lib.hid (below_step HB0.out hb); clear hb)
    | (go_at_call 31; (with_reducible refine (HN.out _).mono ?_); rintro e w2 ⟨v, rfl, hv, hb⟩; have HV := Lib.hid hv; have HB2 := Lib.hid (below_step HB1.out hb); clear hv hb))
  go_ret2
  exact ⟨v, rfl, HV.out, HB2.out⟩
set_option maxHeartbeats 1600000 in
theorem ddraw_bad (c0 c1 c2 c3 c4 n : Int) (tp : Value) (c : Int) (w : World) (h : Lem.dchk c0 c1 c2 c3 c4 n = 0) (hB : Bad w n tp c) (hBB : ∀ W, Below w.heap.size w W → Bad W n tp c) :
    Calls Tryd.prog 23 #[cV c0 c1 c2 c3 c4, .int .i64 n, tp] w fun e w' => ∃ v, e = .returned (.tuple #[.slice none 0 0, v]) ∧ ErrIs 3 w' v c ∧ Below w.heap.size w w' := by
  have HC := Lib.hid (fun W => dcheck_ok c0 c1 c2 c3 c4 n W)
  rw [h] at HC
  have HN := Lib.hid (fun W (hW : Below w.heap.size w W) => numbers_bad n 1 tp c W (by omega) (by omega) (hBB W hW))
  have HW := Lib.hid (fun W v (hE : ErrIs 2 W v c) => fwrap_err ⟨#[100, 97, 98, 105, 116]⟩ 2 v c W hE)
  have HB0 := Lib.hid (below_alloc (Below.refl w.heap.size w) (.cells #[.int .i64 c0, .int .i64 c1, .int .i64 c2, .int .i64 c3, .int .i64 c4] 62))
  clear h hB hBB
  go_enter Tryd.func23, Tryd.ntmps23
  go_wp2_with (first
    | (go_at_call 42; (with_reducible refine (HC.out _).mono ?_); rintro e w1 ⟨rfl, hb⟩; have HB1 := Lib.hid (below_step HB0.out hb); clear hb)
    | (go_at_call 37; (with_reducible refine (HN.out _ HB1.out).mono ?_); rintro e w2 ⟨v, rfl, hv, hb⟩; have HV := Lib.hid hv; have HB2 := Lib.hid (below_step HB1.out hb); obtain ⟨p, rfl⟩ := hv.form; clear hv hb)
    | (go_at_call 34; (with_reducible refine (HW.out _ _ HV.out).mono ?_); rintro e w3 ⟨v2, rfl, hv, hb⟩; have HV2 := Lib.hid hv; have HB3 := Lib.hid (below_step HB2.out hb); clear hv hb))
  go_ret2
  exact ⟨v2, rfl, HV2.out, HB3.out⟩
theorem below_lower {B B2 : Nat} {w w1 : World} (h : Below B w w1) (hb : B2 ≤ B) : Below B2 w w1 := ⟨h.os, h.tape, h.output, h.size, fun k hk => h.block k (Nat.lt_of_lt_of_le hk hb)⟩
/-- a row of shares grew: what else lies there -/
theorem grown_row {B B2 : Nat} {w w1 : World} {v u : Value} {xs : List S86} {l : List Int} (hs : SR B w v xs) (hu : RU B2 w u l) (hg : w.grownBy w1 v.ownBlock) : RU B2 w1 u l := by
  have hc : Chg (fun k => v.ownBlock = some k) w w1 := (Chg.refl _ w).grown hg (fun k e => .inl e)
  obtain ⟨inner, ho⟩ := Kd.R_own hs
  refine hu.chg hc (fun k hk e => ?_)
  rcases own_type_ne hu.own ho (by decide) with q | q
  · rw [q] at hk; cases hk
  · exact q (by rw [hk, e])
theorem grown_tape {B B2 g : Nat} {w w1 : World} {v u : Value} {xs : List S86} {l : List Int} {a : Nat} (hs : SR B w v xs) (ht : TAt w B2 g u l a) (hg : w.grownBy w1 v.ownBlock) : TAt w1 B2 g u l a :=
  ⟨blk_grown ht.blk hg (Kd.R_ne hs ht.blk (by decide)), ht.ge, grown_row hs ht.row hg, ht.le, ht.len⟩
set_option maxHeartbeats 3200000 in
set_option maxRecDepth 100000 in
theorem ddraw_ok (c0 c1 c2 c3 c4 : Int) (n : Nat) (w : World) (B g : Nat) (v : Value) (l : List Int) (a : Nat) (h : Lem.dchk c0 c1 c2 c3 c4 (n : Int) = 0) (hT : TAt w B g v l a) (hf : a + n ≤ l.length) (hu : ∀ x ∈ l, 0 ≤ x ∧ x < 18446744073709551616) :
    Calls Tryd.prog 23 #[cV c0 c1 c2 c3 c4, .int .i64 (n : Int), .pointer (some ⟨g, 0, none⟩)] w fun e w' => ∃ u, e = .returned (.tuple #[u, .nilIface]) ∧ SR w.heap.size w' u (shs (((l.take (a + n)).drop a).map (cutB 1))) ∧ TAt w' B g v l (a + n) ∧ Chg (fun k => k = g) w w' := by
  have HC := Lib.hid (fun W => dcheck_ok c0 c1 c2 c3 c4 (n : Int) W)
  rw [h] at HC
  obtain ⟨-, -, n1, n24⟩ := Lem.dchk_zero h
  have HN := Lib.hid (fun W (hW : TAt W B g v l a) => (show Calls Tryd.prog 37 #[.pointer (some ⟨g, 0, none⟩), .int .i64 (n : Int), .int .i64 1] W _ from numbers_ok n 1 W B g v l a (by omega) (by omega) hW hf hu))
  have hyl : (((l.take (a + n)).drop a).map (cutB 1)).length = n := by rw [List.length_map, List.length_drop, List.length_take]; omega
  generalize ((l.take (a + n)).drop a).map (cutB 1) = Y at *
  have HYL := Lib.hid hyl
  have HB0 := Lib.hid (below_alloc (Below.refl w.heap.size w) (.cells #[.int .i64 c0, .int .i64 c1, .int .i64 c2, .int .i64 c3, .int .i64 c4] 62))
  have HT := Lib.hid hT
  clear h hT hf hu hyl
  go_enter Tryd.func23, Tryd.ntmps23
  go_wp2_with (first
    | (go_at_call 42; (with_reducible refine (HC.out _).mono ?_); rintro e w1 ⟨rfl, hb⟩; have HB1 := Lib.hid (below_step HB0.out hb); clear hb)
    | (go_at_call 37; go_loud ((with_reducible refine (HN.out _ (HT.out.below HB1.out)).mono ?_); rintro e w2 ⟨u, rfl, hu, ht, hc⟩; have HU := Lib.hid hu; have HT2 := Lib.hid ht; have HC2 := Lib.hid ((Chg.of_below HB1.out (fun k => k = g)).trans hc); obtain ⟨A1, cp, eu, -, -⟩ := hu.form; rw [HYL.out] at eu; subst eu; clear hu ht hc))
    | (go_loud (refine Kd.R_makecap k86 _ 86 rfl (N := 32) rfl 63 _ _ rfl (n : Int) rfl rfl Tryd.underlying63 (.agg #[(.slice none 0 0), (.slice none 0 0), (.slice none 0 0)]) 72 info86 rfl (by decide) (by omega) z86 (ok := fun _ => True) (okp := fun _ => True) (k86_mkM _ _ _ z86 (Kd.R_nil _ _ _ _ _) (Kd.R_nil _ _ _ _ _) (Kd.R_nil _ _ _ _ _)) (fun _ hk => hk) trivial (by omega) (by rw [Int.toNat_natCast]; omega) (Below.refl _ _) (Nat.le_refl _) ?_; intro v4 w4 ho4 hb4 hg_ hnew_; have HO4 := Lib.hid ho4; have HB4 := Lib.hid hb4; clear ho4 hb4 hg_ hnew_)))
  have HX2 := Lib.hid (HT2.out.below HB4.out)
  have HC4 := Lib.hid (HC2.out.trans (Chg.of_below HB4.out _))
  have HU4 := Lib.hid (Kd.R_below HU.out HB4.out)
  have hws : w.heap.size ≤ w2.heap.size := HC2.out.size
  have HS4 : Hid (SR w.heap.size w4 v4 (shs (Y.take 0))) := Lib.hid (Kd.R_lower HO4.out hws)
  have hn24 : n ≤ 24 := by omega
  clear hws
  go_loopw [11, 13, 35] (fun v11 v13 v35 wr => ∃ i : Nat, i ≤ n ∧ v35 = .int .i64 (i : Int) ∧ Hid (SR w.heap.size wr v11 (shs (Y.take i))) ∧ Hid (RU w1.heap.size wr (.slice A1 n cp) Y) ∧ Hid (TAt wr B g v l (a + n)) ∧ Hid (Chg (fun k => k = g) w wr)) (fun _ _ v35 _ => n - (intOf v35).toNat)
  case atStart => exact ⟨0, by omega, rfl, HS4, HU4, HX2, HC4⟩
  case round =>
    obtain ⟨wo, rfl⟩ : ∃ wo : World, wo = wr := ⟨_, rfl⟩
    obtain ⟨i, hi, rfl, HS, HU, HT, HCH⟩ := hrel
    by_cases hlt : i < n
    · have hltI : (i : Int) < (n : Int) := by omega
      have hi0 : (0 : Int) ≤ (i : Int) := by omega
      obtain ⟨ad, rfl, q0⟩ := Kd.at_int HU.out.C.1 (i : Int) hi0 (by have := HYL.out; omega)
      rw [Int.toNat_natCast] at q0
      have hsn := shs_snoc Y i (by have := HYL.out; omega)
      obtain ⟨x, hx⟩ : ∃ x, x = rd Y (i : Int) := ⟨_, rfl⟩
      rw [← hx] at q0 hsn
      have HSN := Lib.hid hsn
      have hiw : IntKind.i64.wrap ((i : Int) + 1) = (i : Int) + 1 := IntWalk.i64_in _ ⟨by omega, by omega⟩
      have HLn := Lib.hid (show (shs (Y.take i)).length < 1954687338268 by rw [shs_len, List.length_take]; omega)
      have HLI := Lib.hid (show Below wo.heap.size wo (wo.alloc (.cells #[.int .u64 x] 35)) from below_alloc (Below.refl _ _) _)
      have HSZ := Lib.hid HCH.out.size
      clear hx hsn
      go_wp2_with (at_builtin; go_loud (refine sr_app (w0 := wo) (b := w.heap.size) HS.out HLI.out (RU_one wo _ x (Nat.le_refl _)) (Kd.R_nil _ _ _ _ _) HSZ.out (below_lower HLI.out HSZ.out) HLn.out rfl (.tmp 39) (.tmp 43) rfl rfl (by first | rfl | (simp; rfl) | (simp; done)) ?_; intro v5 w5 hs hb hg; rw [HSN.out] at hs; have HS5 := Lib.hid hs; have HU5 := Lib.hid (grown_row HS.out HU.out hg); have HT5 := Lib.hid (grown_tape HS.out HT.out hg); have HC5 := Lib.hid (HCH.out.grown hg (fun k e => .inr (HS.out.ge k e))); clear hs hb hg))
      go_roundw
      case rel => exact ⟨i + 1, by omega, by go_num, HS5, HU5, HT5, HC5⟩
      case measure => simp [intOf]; omega
    · have hie : i = n := by omega
      subst hie
      have hnlt : ¬ (i : Int) < (i : Int) := by omega
      go_wp2
      go_ret2
      refine ⟨_, rfl, ?_, HT.out, HCH.out⟩
      have hs := HS.out
      rw [List.take_of_length_le (by have := HYL.out; omega)] at hs
      exact hs
end Go.Proofs.YtdgngpcfikgoeaaDoor.P
