/- The document's ref22.Draw, of any kind and sides: where all is well. -/
import Derived.Test.YtdgngpcfikgoeaaDoorMdDrw9
namespace Go.Proofs.YtdgngpcfikgoeaaDoor.P
open Go.RowKit Go.Extern.Stop Go.Stop Go.Extern Go.Proofs.YtdgngpcfikgoeaaDoorW.PrintWords Go.Proofs.YtdgngpcfikgoeaaDoorW.PrintLast Go.Proofs.YtdgngpcfikgoeaaDoorW.PrintMore
set_option linter.unusedVariables false
set_option linter.unusedSimpArgs false
attribute [local go_sem ↓] Go.wp_at_zero Go.wp_at_succ
/-- a part of a row, with its footprint -/
theorem cutF (A : Option Addr) (c : Nat) (l : List Int) (w : World) (ok : Nat → Prop) (hr : Kd.F (Kd.int .u64) w ok A l.length l) (hc : l.length ≤ c) (lo hi : Int) (h0 : 0 ≤ lo) (h1 : lo ≤ hi) (h2 : hi ≤ (l.length : Int)) (Y : List Int) (hY : Y = (l.take hi.toNat).drop lo.toNat) :
    ∃ A1 c1, (∀ W : World, (Instr.slice 22 (.slice A l.length c) (some (.int .i64 lo)) (some (.int .i64 hi)) none).run Tryd.prog W = .ok (.slice A1 Y.length c1) W) ∧ Kd.F (Kd.int .u64) w ok A1 Y.length Y ∧ Y.length ≤ c1 := by
  obtain ⟨i0, hi0, _, hz1, _⟩ := info_of infoU64
  have hcut := cut_mid (P := Tryd.prog) 22 35 .i64 .i64 Tryd.underlying22 hi0 1 hz1 A l.length c lo hi h0 h1 h2 hc
  have hl : Y.length = hi.toNat - lo.toNat := by rw [hY, List.length_drop, List.length_take]; omega
  have hr := Kd.F_imp (A' := if c = lo.toNat then A else A.map (·.add (lo.toNat * 1))) (n' := ((l.take hi.toNat).drop lo.toNat).length) (xs' := (l.take hi.toNat).drop lo.toNat) (d' := Kd.int .u64) hr (fun W' hC => Kd.C_mid (lo := lo.toNat) (hi := hi.toNat) (c := c) hC (by omega) (by omega) hc)
  rw [← hY] at hr
  rw [← hl] at hcut
  refine ⟨_, _, hcut, hr, ?_⟩
  rw [hl]
  omega
/-- shares whose parts lie from N on -/
abbrev FR (w4 : World) (N : Nat) (p : S86) (cs : List Value) : Prop := Kd.FK k86 w4 (fun k => N ≤ k) p cs
theorem FR.K {w4 W : World} {N : Nat} {p : S86} {cs : List Value} (h : FR w4 N p cs) (hm : ∀ k, N ≤ k → k < w4.heap.size → W.heap[k]? = w4.heap[k]?) : k86.K W p cs := Kd.FK_now (Kd.FK_step h hm)
section
variable {ops : Array Oper} {o : Oper} {a : Act} {Q : Exit → Act → World → Prop} {Kc : Act → World → Prop}
theorem or_app_stepD {R : S86 → List Value → Prop} {b : Nat} {w0 V : World} {v u1 u2 : Value} {xs : List S86} {p : S86} (h : OwnRow R 86 3 V.drew b v xs) (hp : R p [u1, u2, .slice none 0 0]) (h1 : ∀ u ∈ [u1, u2, Value.slice none 0 0], u.oneCell' = true) (hb0 : b ≤ V.heap.size) (HB : Below b w0 V.drew) (hl : xs.length < 1954687338268) (hw : Region.wanted o (yielded ops a.tmps) = true) (s xo : Operand) (ho : o.op = .call { callee := .builtin .append, args := #[s, xo], argTypes := #[63, 63] }) (hs : a.eval s = v) (hx : a.eval xo = .slice (some ⟨V.heap.size, 0, none⟩) 1 1)
    (hk : ∀ v1 w1, OwnRow R 86 3 w1 b v1 (xs ++ [p]) → Below b w0 w1 → V.drew.grownBy w1 v.ownBlock → Kc (a.put o.dst v1) w1) : if Region.wanted o (yielded ops a.tmps) = true then Oper.wp Tryd.prog o a ((V.alloc (.cells #[u1, u2, .slice none 0 0] 86)).drew) Kc Q else Kc (a.put o.dst undef) ((V.alloc (.cells #[u1, u2, .slice none 0 0] 86)).drew) :=
  OwnRow.append_step (W := V.drew) (w0 := w0) b hw s xo 63 86 (.agg #[(.slice none 0 0), (.slice none 0 0), (.slice none 0 0)]) 3 72 ho Tryd.underlying63 info86 rfl (by decide) (by decide) v xs p [u1, u2, .slice none 0 0] hs hx hp rfl h1 h HB hb0 (by omega) (fun v1 w1 ho hb hg _ => hk v1 w1 ho hb hg)
end
section
variable (kind c0 c1 c2 c3 c4 n : Int) (A : Option Addr) (c : Nat) (l : List Int) (a : Nat) (w : World)
variable (m k q : Int) (x y s N : Nat) (HRk : Reck m k q x y s N n)
  (HCk : ∀ W, Calls Tryd.prog 47 #[cV c0 c1 c2 c3 c4, .int .i64 kind, .int .i64 n] W fun e w' => e = .returned (.int .i64 0) ∧ Below W.heap.size W w')
  (HSd : ∀ W, Calls Tryd.prog 48 #[cV c0 c1 c2 c3 c4] W fun e w' => e = .returned (.tuple #[.int .i64 m, .int .i64 k, .int .i64 q]) ∧ Below W.heap.size W w')
include HRk HCk HSd
set_option maxHeartbeats 3200000 in
set_option maxRecDepth 100000 in
theorem rdrawG_ok (hn : 0 ≤ n ∧ n ≤ 24) (hs : s = x + y) (hN : n * ((x + y : Nat) : Int) = (N : Int)) (Y : List Int) (hY : Y.length = N) (hYl : Y.length ≤ 1048576) (a' : Nat) (HNm : ∀ W, Below w.heap.size w W → Calls Tryd.prog 38 #[rT A l.length c a, .int .i64 (N : Int), .int .i64 c1] W fun e w' => ∃ u, e = .returned (.tuple #[rT A l.length c a', u, .int .i64 0]) ∧ RU W.heap.size w' u Y ∧ Below W.heap.size W w') :
    Calls Tryd.prog 28 #[cV c0 c1 c2 c3 c4, .int .i64 kind, .int .i64 n, rT A l.length c a] w fun e w' => ∃ Au cu, e = .returned (.tuple #[rT A l.length c a', .slice Au (shG Y x y n.toNat).length cu, .int .i64 0]) ∧ (shG Y x y n.toNat).length ≤ cu ∧ Kd.C k86 w' Au (shG Y x y n.toNat).length (shG Y x y n.toNat) ∧ Below w.heap.size w w' := by
  have HC := Lib.hid HCk
  have HS := Lib.hid HSd
  have HN := Lib.hid HNm
  have HB0 := Lib.hid (begun w c0 c1 c2 c3 c4 A l.length c a)
  have HRK := Lib.hid HRk
  obtain ⟨n, rfl⟩ : ∃ m : Nat, n = (m : Int) := ⟨n.toNat, by omega⟩
  rw [Int.toNat_natCast]
  have HYL := Lib.hid hYl
  have HNN := Lib.hid (show n * (x + y) ≤ Y.length by rw [hY]; exact Nat.le_of_eq (by have := hN; exact_mod_cast this))
  have hn24 : n ≤ 24 := by omega
  clear HCk HSd HNm hY hN hs hYl hn HRk
  obtain ⟨hx1, hx2, hy1, hy2, hs1, hs2, hn1, hn2⟩ := HRK.out
  go_enter Tryd.func28, Tryd.ntmps28
  go_wp2_with (first
    | (go_at_call 47; (with_reducible refine (HC.out _).mono ?_); rintro e w1 ⟨rfl, hb⟩; have HB1 := Lib.hid (HB0.out.below hb); obtain ⟨k0, k1, k2, k3, k4, -⟩ := cells_5 HB1.out.k3; clear hb)
    | (go_at_call 48; (with_reducible refine (HS.out _).mono ?_); rintro e w2 ⟨rfl, hb⟩; have HB2 := Lib.hid (HB1.out.below hb); obtain ⟨p0, p1, p2, p3, p4, -⟩ := cells_5 HB2.out.k3; obtain ⟨m0, m1, -⟩ := cells_2 HB2.out.k5; clear hb)
    | (go_at_call 38; go_loud ((with_reducible refine (HN.out _ HB2.out.bel).mono ?_); rintro e w3 ⟨u, rfl, hu, hb⟩; have HU := Lib.hid hu; have HB3 := Lib.hid (HB2.out.below hb); obtain ⟨A1, cp, rfl, -, -⟩ := hu.form; clear hu hb)))
  obtain ⟨w4, hw4⟩ : ∃ w4 : World, w4 = w3.alloc (.cells #[.slice A l.length c, .int .i64 (a' : Int)] 54) := ⟨_, rfl⟩
  rw [← hw4]
  have HB4 := Lib.hid (show Begun w w4 c0 c1 c2 c3 c4 A l.length c a (.slice none 0 0) (.int .i64 0) by rw [hw4]; exact HB3.out.below (below_alloc (Below.refl _ _) _))
  have HK4 := Lib.hid (show w4.heap[w3.heap.size]? = some (.cells #[.slice A l.length c, .int .i64 (a' : Int)] 54 (0, 0)) by rw [hw4]; exact heap_alloc_new w3 _)
  have HY4 := Lib.hid (show Kd.F (Kd.int .u64) w4 (fun k => w2.heap.size ≤ k) A1 Y.length Y ∧ Y.length ≤ cp by
    refine ⟨?_, ?_⟩
    · rw [hw4]
      exact Kd.F_alloc (Kd.R_F (Kd.R_mono (Kd.R_bound HU.out) (fun k hk => hk.2.1))) _
    · obtain ⟨A', c', e, hc, hC⟩ := HU.out.form
      injection e with e1 e2 e3
      subst e3
      exact hc)
  have HZ2 := Lib.hid (blk_lt HB2.out.k6)
  clear hw4 hx1 hx2 hy1 hy2 hs1 hs2 hn1 hn2
  go_loopw [17, 18, 19] (fun v17 v18 v19 wr => ∃ i : Nat, i ≤ n ∧ v18 = .int .i64 ((i * (x + y) : Nat) : Int) ∧ v19 = .int .i64 (i : Int) ∧ Hid (OwnRow (FR w4 w2.heap.size) 86 3 wr w4.heap.size v17 (shG Y x y i)) ∧ Hid (Below w4.heap.size w4 wr)) (fun _ _ v19 _ => n - (intOf v19).toNat)
  case atStart => exact ⟨0, by omega, by rw [Nat.zero_mul]; rfl, rfl, Lib.hid (OwnRow.none_ _ _ _ _ _), Lib.hid (Below.refl _ _)⟩
  case round =>
    obtain ⟨wo, rfl⟩ : ∃ wo : World, wo = wr := ⟨_, rfl⟩
    obtain ⟨i, hi, rfl, rfl, HS, HBo⟩ := hrel
    by_cases hlt : i < n
    · have hltI : (i : Int) < (n : Int) := by omega
      have hi0 : (0 : Int) ≤ (i : Int) := by omega
      have hle : (i + 1) * (x + y) ≤ n * (x + y) := Nat.mul_le_mul_right _ hlt
      have hsu : (i + 1) * (x + y) = i * (x + y) + (x + y) := Nat.succ_mul _ _
      obtain ⟨p, hp⟩ : ∃ p : Nat, p = i * (x + y) := ⟨_, rfl⟩
      obtain ⟨r, hr⟩ : ∃ r : Nat, r = p + x := ⟨_, rfl⟩
      obtain ⟨t, ht⟩ : ∃ t : Nat, t = r + y := ⟨_, rfl⟩
      have hNN := HNN.out
      have hYl := HYL.out
      have htl : t ≤ Y.length := by omega
      have hpl : (p : Int) + (x : Int) ≤ 1048576 := by omega
      have hrl : (r : Int) + (y : Int) ≤ 1048576 := by omega
      have u1 : 0 ≤ (p : Int) := by omega
      have u2 : (p : Int) ≤ (r : Int) := by omega
      have u3 : (r : Int) ≤ (Y.length : Int) := by omega
      have u4 : 0 ≤ (r : Int) := by omega
      have u5 : (r : Int) ≤ (t : Int) := by omega
      have u6 : (t : Int) ≤ (Y.length : Int) := by omega
      have u7 : (p : Int) + (x : Int) = (r : Int) := by omega
      have u8 : (r : Int) + (y : Int) = (t : Int) := by omega
      have u9 : -9223372036854775808 ≤ (p : Int) + (x : Int) := by omega
      have v1 : -9223372036854775808 ≤ (r : Int) + (y : Int) := by omega
      have v2 : (p : Int) + (x : Int) ≤ 9223372036854775807 := by omega
      have v3 : (r : Int) + (y : Int) ≤ 9223372036854775807 := by omega
      have v4 : t = (i + 1) * (x + y) := by omega
      have v5 : (shG Y x y i).length < 1954687338268 := by rw [shG_len]; omega
      have e1 : wrap64 ((p : Int) + (x : Int)) = (r : Int) := (ew64 u9 v2).trans u7
      have e2 : IntKind.i64.wrap ((p : Int) + (x : Int)) = (r : Int) := (wrap_i64 u9 v2).trans u7
      have e3 : wrap64 ((r : Int) + (y : Int)) = (t : Int) := (ew64 v1 v3).trans u8
      have e4 : IntKind.i64.wrap ((r : Int) + (y : Int)) = (t : Int) := (wrap_i64 v1 v3).trans u8
      have hiw : IntKind.i64.wrap ((i : Int) + 1) = (i : Int) + 1 := IntWalk.i64_in _ ⟨by clear e1 e2 e3 e4; omega, by clear e1 e2 e3 e4; omega⟩
      obtain ⟨Y1, hY1⟩ : ∃ Y1, Y1 = (Y.take (r : Int).toNat).drop (p : Int).toNat := ⟨_, rfl⟩
      obtain ⟨Y2, hY2⟩ : ∃ Y2, Y2 = (Y.take (t : Int).toNat).drop (r : Int).toNat := ⟨_, rfl⟩
      obtain ⟨A2, d2, g1, g2, g3⟩ := cutF A1 cp Y w4 _ HY4.out.1 HY4.out.2 (p : Int) (r : Int) u1 u2 u3 Y1 hY1
      obtain ⟨A3, d3, f1, f2, f3⟩ := cutF A1 cp Y w4 _ HY4.out.1 HY4.out.2 (r : Int) (t : Int) u4 u5 u6 Y2 hY2
      have HSN := Lib.hid (show shG Y x y i ++ [⟨Y1, Y2, []⟩] = shG Y x y (i + 1) by
        rw [← shG_snoc]
        congr 2
        unfold shA
        rw [hY1, hY2, Int.toNat_natCast, Int.toNat_natCast, Int.toNat_natCast, ht, hr, hp])
      have HPK := Lib.hid (k86_mkF w4 (fun k => w2.heap.size ≤ k) ⟨Y1, Y2, []⟩ g3 g2 f3 f2 (A2 := none) (c2 := 0) (Nat.le_refl _) (Kd.F_nil _ _ _))
      have HON := Lib.hid (show ∀ u ∈ [Value.slice A2 Y1.length d2, Value.slice A3 Y2.length d3, Value.slice none 0 0], u.oneCell' = true by simp [Value.oneCell'])
      have HLn := Lib.hid v5
      have HT := Lib.hid v4
      rw [← hp]
      clear hY1 hY2 g2 g3 f2 f3 hp hr ht hle hsu hNN hYl htl hpl hrl u1 u2 u3 u4 u5 u6 u7 u8 u9 v1 v2 v3 v4 v5
      obtain ⟨hx1, hx2, hy1, hy2, hs1, hs2, hn1, hn2⟩ := HRK.out
      go_wp2
      go_region_law ((refine or_app_stepD (w0 := w4) (b := w4.heap.size) (V := wo) (show OwnRow (FR w4 w2.heap.size) 86 3 wo.drew w4.heap.size _ _ from HS.out) HPK.out HON.out HBo.out.size (below_drew HBo.out) HLn.out (by rfl) (.tmp 62) (.tmp 88) rfl rfl (by first | rfl | (simp; rfl) | (simp; done)) ?_; intro v5 w5 hs hb hg; rw [HSN.out] at hs; have HS5 := Lib.hid hs; have HB5 := Lib.hid hb; clear hs hb hg))
      all_goals go_wp2
      all_goals clear e1 e2 e3 e4 hiw hx1 hx2 hy1 hy2 hs1 hs2 hn1 hn2
      all_goals refine ⟨⟨i + 1, Nat.succ_le_of_lt hlt, by rw [← HT.out], by go_num, HS5, HB5⟩, ?_⟩
      all_goals (simp [intOf]; omega)
    · have hie : i = n := by omega
      subst hie
      have hnlt : ¬ (i : Int) < (i : Int) := by omega
      have HB5 := Lib.hid (HB4.out.below HBo.out)
      have HK5 := Lib.hid ((HBo.out.block _ (blk_lt HK4.out)).trans HK4.out)
      obtain ⟨r0, r1, -⟩ := cells_2 HK5.out
      obtain ⟨x0, x1, xf0, xf1⟩ := cells_2 HB5.out.k6
      obtain ⟨Au, cu, rfl, hcu⟩ := HS.out.slice_
      have HCL := Lib.hid hcu
      clear hcu
      go_wp2
      refine bodyPost_ret (results_ctt rfl _ _ (w.heap.size + 1 + 1) 54 #[.slice A l.length c, .int .i64 (a' : Int)] (0, 0) _ rfl (HB5.out.put _ _).k6 Tryd.underlying54 rfl (by kernel_rfl)) rfl ?_
      refine ⟨Au, cu, rfl, HCL.out, ?_, (HB5.out.put _ _).bel⟩
      have h1 := OwnRow.set_ (OwnRow.set_ HS.out HB5.out.k6 (by decide) 0 (.slice A l.length c)) (by simpa using blk_set HB5.out.k6 0 (.slice A l.length c)) (by decide) 1 (.int .i64 (a' : Int))
      obtain ⟨A', c', e', hc', hR⟩ := OwnRow.reads (h1.imp_ (R' := k86.K ((wo.setCell ⟨w.heap.size + 1 + 1, 0, none⟩ (.slice A l.length c)).setCell ⟨w.heap.size + 1 + 1, 1, none⟩ (.int .i64 (a' : Int)))) (fun p cs hp => FR.K hp (fun k hk hlt => by
        have hz := HZ2.out
        rw [Below.heap_setCell _ _ _ _ (by simp; omega), Below.heap_setCell _ _ _ _ (by simp; omega)]
        exact HBo.out.block k hlt)))
      injection e' with e1 e2 e3
      subst e1
      exact hR
end
end Go.Proofs.YtdgngpcfikgoeaaDoor.P
