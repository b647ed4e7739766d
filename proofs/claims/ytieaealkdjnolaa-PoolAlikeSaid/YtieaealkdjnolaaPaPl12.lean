/- The pool: shares of one number, rows of them; a pool that is full. -/
import Derived.Test.YtieaealkdjnolaaPaK1
import Derived.Test.YtieaealkdjnolaaPaK2
import Derived.Test.YtieaealkdjnolaaPaK3
import Derived.Test.YtieaealkdjnolaaPaPl11
namespace Go.Proofs.Ytieaealkdjnolaa.P
open Go.RowKit Go.Maps Go.Proofs.YtieaealkdjnolaaW.PrintWords Go.Proofs.YtieaealkdjnolaaW.PrintLast Go.Proofs.YtieaealkdjnolaaW.PrintMore
set_option linter.unusedVariables false
set_option linter.unusedSimpArgs false
attribute [local go_sem ↓] Go.wp_at_zero Go.wp_at_succ
/-- a share of one number -/
abbrev oneS (n : Int) : S32 := ⟨[n], [n], [n]⟩
abbrev kS : Kd S32 := k32
theorem one_ok (n : Int) (w : World) : Calls Try.prog 9 #[.int .u64 n] w fun e w' => ∃ A0 c0 A1 c1 A2 c2, e = .returned (.agg #[.slice A0 1 c0, .slice A1 1 c1, .slice A2 1 c2]) ∧ kS.M w' w.heap.size (fun _ => True) (oneS n) [.slice A0 1 c0, .slice A1 1 c1, .slice A2 1 c2] ∧ Below w.heap.size w w' := by
  refine (trefoillaw32_one.calls n [n] [n] [n] w rfl).mono ?_
  rintro e w' ⟨v0, v1, v2, rfl, h0, h1, h2, hb⟩
  obtain ⟨A0, c0, rfl, -, -⟩ := Kd.R_reads h0
  obtain ⟨A1, c1, rfl, -, -⟩ := Kd.R_reads h1
  obtain ⟨A2, c2, rfl, -, -⟩ := Kd.R_reads h2
  exact ⟨A0, c0, A1, c1, A2, c2, rfl, k32_mkM _ _ _ (oneS n) (Kd.R_mono h0 (fun _ _ => trivial)) (Kd.R_mono h1 (fun _ _ => trivial)) (Kd.R_mono h2 (fun _ _ => trivial)), hb⟩
theorem lit_R {W : World} {base k n : Nat} {cs : List Value} {xs : List S32} (hk : base ≤ k) (hblk : W.heap[k]? = some (.cells cs.toArray 32 (0, 0))) (hr : Reps (kS.M W base (fun _ => True)) 3 xs cs) (hn : xs.length = n) (hlim : n ≤ 1000) : Kd.R kS 32 W base (fun _ => True) (.slice (some ⟨k, 0, none⟩) n n) xs := by
  have hcs : cs.length = n * 3 := by rw [hr.1, hn]
  refine ⟨fun _ _ => trivial, cs, ⟨by rw [hn, hcs]; rfl, .inr ⟨k, n, cs.toArray, by rw [hn], hk, hblk, by omega, by unfold maxLen; omega, by show cs.toArray.size = n * 3; simpa using hcs, ?_⟩⟩, hr.imp_ (fun x c hm => ?_)⟩
  · rw [hn]
    show cs.toArray.toList.take (n * 3) = cs
    rw [← hcs]; simp
  · have h1 := Kd.M_types hm hblk (by decide)
    exact kS.M_mono (fun q hq => ⟨trivial, fun e => hq.2 (by simpa [Value.ownBlock] using e)⟩) h1
theorem lit_R2 {W : World} {base k : Nat} {a b c d e f : Value} {x y : S32} (hk : base ≤ k) (hblk : W.heap[k]? = some (.cells #[a, b, c, d, e, f] 32 (0, 0))) (h : kS.M W base (fun _ => True) x [a, b, c]) (h2 : kS.M W base (fun _ => True) y [d, e, f]) : Kd.R kS 32 W base (fun _ => True) (.slice (some ⟨k, 0, none⟩) 2 2) [x, y] :=
  lit_R (cs := [a, b, c, d, e, f]) hk hblk (((Reps.none _ 3).snoc h rfl).snoc h2 rfl) rfl (by omega)
theorem lit_R3 {W : World} {base k : Nat} {a b c d e f g i j : Value} {x y z : S32} (hk : base ≤ k) (hblk : W.heap[k]? = some (.cells #[a, b, c, d, e, f, g, i, j] 32 (0, 0))) (h : kS.M W base (fun _ => True) x [a, b, c]) (h2 : kS.M W base (fun _ => True) y [d, e, f]) (h3 : kS.M W base (fun _ => True) z [g, i, j]) : Kd.R kS 32 W base (fun _ => True) (.slice (some ⟨k, 0, none⟩) 3 3) [x, y, z] :=
  lit_R (cs := [a, b, c, d, e, f, g, i, j]) hk hblk ((((Reps.none _ 3).snoc h rfl).snoc h2 rfl).snoc h3 rfl) rfl (by omega)
theorem RS_chg {w w' : World} {base : Nat} {v : Value} {l : List S32} {S : Nat → Prop} (h : Kd.R kS 32 w base (fun _ => True) v l) (hc : Chg S w w') (hS : ∀ k cs t, S k → w.heap[k]? = some (.cells cs t (0, 0)) → t ≠ 32 ∧ t ≠ 34) : Kd.R kS 32 w' base (fun _ => True) v l :=
  Kd.R_mono (Kd.R_step (Kd.R_bound h) (fun k hk hlt => by
    obtain ⟨-, -, -, q, hq, cells, hcell⟩ := hk
    refine hc.block k hlt (fun hs => ?_)
    obtain ⟨t1, t2⟩ := hS k cells q hs hcell
    rcases List.mem_cons.1 hq with rfl | hq
    · exact t1 rfl
    · have : q = 34 := by
        have he : kS.E = [34, 34, 34] := by first | rfl | decide
        rw [he] at hq
        simpa using hq
      exact t2 this)) (fun _ _ => trivial)
theorem RS_C {w : World} {base n c : Nat} {ok : Nat → Prop} {A : Option Addr} {l : List S32} (h : Kd.R kS 32 w base ok (.slice A n c) l) : n = l.length ∧ l.length ≤ c ∧ Kd.C kS w A l.length l := by
  obtain ⟨A', c', he, hc, hC⟩ := Kd.R_reads h
  injection he with h1 h2 h3
  subst h1 h2 h3
  exact ⟨rfl, hc, hC⟩
theorem PoolAt.types {w0 w : World} {g : Nat} {c : S26} {o : Option Bn} (h : PoolAt w0 w g c o) (k : Nat) (cs : Array Value) (t : Nat) (hk : PoolOf g o k) (hb : w.heap[k]? = some (.cells cs t (0, 0))) : t ≠ 32 ∧ t ≠ 34 := by
  have key : ∀ {cs' : Array Value} {t' : Nat}, w.heap[k]? = some (.cells cs' t' (0, 0)) → t' ≠ 32 → t' ≠ 34 → t ≠ 32 ∧ t ≠ 34 := fun h' h1 h2 => by
    rw [hb] at h'
    injection h' with h'; injection h' with _ h' _
    rw [h']; exact ⟨h1, h2⟩
  cases o with
  | none => exact key (by rw [show k = g from hk]; exact h.1) (by decide) (by decide)
  | some b =>
    rcases hk with e | e | e
    · exact key (by rw [e]; exact BinAt.pool h) (by decide) (by decide)
    · exact key (by rw [e]; exact BinAt.blk h) (by decide) (by decide)
    · exact absurd e (own_neV (BinAt.own h) hb)
abbrev c8 : S26 := ⟨1, 8, 0, 0, 0⟩
theorem chk8 : chkC c8 = 0 := by decide
theorem fits_one (n : Int) (h0 : 0 ≤ n) (h1 : n < 256) : shape_Fits.f 20 1 8 0 0 0 [n] [n] [n] = some true := by
  have e1 : shape_Check.f 20 1 8 0 0 0 = some 0 := by decide
  have e2 : shape_Sizes.f 20 1 8 0 0 0 = some (1, 1, 1) := by decide
  have e3 : shape_Widths.f 20 1 8 0 0 0 = some (8, 8, 8) := by decide
  have e4 : shape_fits.f 20 1 8 [n] = some true := by
    have hw : IntKind.u64.wrap 8 = 8 := by decide
    have w1 : wrap64 1 = 1 := by unfold wrap64; omega
    have hs : shr .u64 n 8 = 0 := by
      unfold shr
      rw [show min (8 : Int).toNat IntKind.u64.bits = 8 by decide]
      omega
    simp [shape_fits.f, shape_fits.l0, rd, hw, w1, hs]
  simp [shape_Fits.f, e1, e2, e3, e4]
end Go.Proofs.Ytieaealkdjnolaa.P
