/- DabitRights, the plain part: whether two shares are of one bit, the program and the document say the same. -/
import Derived.Test.YtcmaidpoolcelaaMcK1
import Derived.Test.YtcmaidpoolcelaaMcL0
import Derived.Test.YtcmaidpoolcelaaMcOps
import Derived.Test.YtcmaidpoolcelaaMcK2
import Derived.Test.YtcmaidpoolcelaaMcK4
import Derived.Test.YtcmaidpoolcelaaMcK6
import Derived.Test.YtcmaidpoolcelaaMcPx0
import Derived.Test.YtcmaidpoolcelaaMcL1
import Derived.Test.YtcmaidpoolcelaaMcK8
import Derived.Test.YtcmaidpoolcelaaMcMine
import Derived.Lib.Hide
import Derived.IntWalk
import Derived.WalkSpells
import Derived.Outline
import Derived.BigQuiet
import Derived.Deep.RegionHeld3
import Derived.Deep.DrawnRows
import Derived.Deep.RegionLaw
import Derived.Deep.AppendLies
import Derived.Deep.RegionWith
import Derived.Deep.DeepCutAuto
import Derived.Test.YtcmaidpoolcelaaMcK7
import Derived.Test.YtcmaidpoolcelaaMcK10
import Derived.Test.YtcmaidpoolcelaaMcK11
import Derived.Test.YtcmaidpoolcelaaMcK12
namespace Go.Proofs.Ytcmaidpoolcelaa.Pure
open Go.RowKit Go.Proofs.Ytcmaidpoolcelaa.P Go.Proofs.Ytcmaidpoolcelaa.Lem Go.Proofs.Ytcmaidpoolcelaa.Num Go.Proofs.Ytcmaidpoolcelaa.Ops Go.Proofs.YtcmaidpoolcelaaW.PrintWords Go.Proofs.YtcmaidpoolcelaaW.PrintMore
set_option linter.unusedVariables false
namespace DabitRightsL

theorem u64s_of {l : List Int} (h : l.length ≤ maxLen ∧ ∀ y ∈ l, (Lit.int .u64 y).wf = true) : U64s l := fun x hx => by
  have := bounds_u64 (h.2 x hx)
  omega

theorem fit_len {n w : Int} {l : List Int} (h : fit n w l = true) : (l.length : Int) = n := by
  unfold fit at h
  rw [Bool.and_eq_true, decide_eq_true_eq] at h
  exact h.1
theorem add_r' (k l a b : Nat) (hk : 100 ≤ k) (h1 : l ≤ 64) (ha : a < 18446744073709551616) (hb : b < 18446744073709551616) : trefoilref03_Add.f k (l : Int) (a : Int) (b : Int) = some (((a + b) % 2 ^ l : Nat) : Int) := by
  rw [add_r k hk l a b ha hb, min64 h1]

end DabitRightsL
open DabitRightsL

end Go.Proofs.Ytcmaidpoolcelaa.Pure
namespace Go.Proofs.Ytcmaidpoolcelaa.Pure
open Go.RowKit Go.Proofs.Ytcmaidpoolcelaa.P Go.Proofs.Ytcmaidpoolcelaa.Lem Go.Proofs.Ytcmaidpoolcelaa.Num Go.Proofs.Ytcmaidpoolcelaa.Ops Go.Proofs.YtcmaidpoolcelaaW.PrintWords Go.Proofs.YtcmaidpoolcelaaW.PrintMore
set_option linter.unusedVariables false
namespace RightsL
open DabitRightsL

/-- a class that is no bit's: the sizes of all parts -/
theorem sizes_of {c0 c1 c2 c3 c4 : Int} {a b d : List Int} (h4 : ¬ c0 = 4) (h : fitsOf c0 c1 c2 c3 c4 a b d = true) :
    chk c0 c1 c2 c3 c4 = 0 ∧ (a.length : Int) = sz0 c0 c2 c3 ∧ (b.length : Int) = sz1 c0 c3 c4 ∧ (d.length : Int) = sz2 c0 c2 c4 := by
  unfold fitsOf at h
  rw [Bool.and_eq_true, Bool.and_eq_true, Bool.and_eq_true, decide_eq_true_eq] at h
  obtain ⟨hc, ha, hb, hd⟩ := h
  exact ⟨hc, fit_len ha, fit_len hb, fit_len hd⟩

theorem both23 (k : Nat) (hk : 20001 ≤ k) (c0 c1 c2 c3 c4 : Int) (a b d e f g : List Int) (ha : U64s a) (hb : U64s b) (hd : U64s d) (he : U64s e) (hf : U64s f) (hg : U64s g)
    (la : a.length ≤ 1000) (lb : b.length ≤ 1000) (ld : d.length ≤ 1000) (le : e.length ≤ 1000) (lf : f.length ≤ 1000) (lg : g.length ≤ 1000) :
    ∃ r, matrix_Right.f k c0 c1 c2 c3 c4 a b d e f g = some r ∧ trefoilref22_Right.f k c0 c1 c2 c3 c4 2 a b d e f g = some r := by
  obtain ⟨k, rfl⟩ : ∃ q, k = q + 1 := ⟨k - 1, by omega⟩
  have no_s : matrix_Right.j0 (k + 1) true c0 c1 c2 c3 c4 a b d e f g = some false := by simp only [matrix_Right.j0]; rw [if_pos trivial]
  have no_r : trefoilref22_Right.j0 (k + 1) true c0 c1 c2 c3 c4 a b d e f g = some false := by simp only [trefoilref22_Right.j0]; rw [if_pos trivial]
  unfold matrix_Right.f trefoilref22_Right.f
  by_cases h4 : c0 = 2
  · rw [if_pos h4, if_pos h4, shareFits_f _ (by omega) c0 c1 c2 c3 c4 a b d ha hb hd la lb ld, shareFits_r _ (by omega) c0 c1 c2 c3 c4 a b d ha hb hd la lb ld, Option.bind_some, Option.bind_some]
    by_cases h1 : fitsOf c0 c1 c2 c3 c4 a b d = true
    · rw [if_pos h1, if_pos h1, shareFits_f _ (by omega) c0 c1 c2 c3 c4 e f g he hf hg le lf lg, shareFits_r _ (by omega) c0 c1 c2 c3 c4 e f g he hf hg le lf lg, Option.bind_some, Option.bind_some]
      by_cases h2 : fitsOf c0 c1 c2 c3 c4 e f g = true
      · rw [h2]
        obtain ⟨hc, s1, s2, s3⟩ := sizes_of (by omega) h1
        obtain ⟨_, s4, s5, s6⟩ := sizes_of (by omega) h2
        obtain ⟨p1, p2, _, _⟩ := chk_bits hc
        obtain ⟨q1, q2, q3, q4, q5, q6⟩ := chk_sides hc h4
        obtain ⟨l, rfl⟩ := nat_of (show 0 ≤ c1 by omega)
        obtain ⟨m, rfl⟩ := nat_of (show 0 ≤ c2 by omega)
        obtain ⟨n, rfl⟩ := nat_of (show 0 ≤ c3 by omega)
        obtain ⟨r, rfl⟩ := nat_of (show 0 ≤ c4 by omega)
        have hs : trefoilref22_Sides.f c0 (l : Int) (m : Int) (n : Int) (r : Int) = some ((m : Int), (n : Int), (r : Int)) := by unfold trefoilref22_Sides.f; rw [if_pos h4]
        unfold sz0 at s1 s4
        unfold sz1 at s2 s5
        unfold sz2 at s3 s6
        rw [if_pos h4] at s1 s2 s3 s4 s5 s6
        rw [← Int.natCast_mul] at s1 s2 s3 s4 s5 s6
        have w1 := Int.ofNat.inj s1
        have w2 := Int.ofNat.inj s2
        have w3 := Int.ofNat.inj s3
        have w4 := Int.ofNat.inj s4
        have w5 := Int.ofNat.inj s5
        have w6 := Int.ofNat.inj s6
        refine ⟨_, right_m k l m n r (by omega) (by omega) (by omega) (by omega) (by omega) (by omega) (by omega) (by omega) (by omega) a b d e f g ha hb he hf w1 w2 w3 w4 w5 w6 c0, ?_⟩
        exact right_r k l m n r (by omega) (by omega) (by omega) (by omega) (by omega) (by omega) (by omega) (by omega) (by omega) a b d e f g ha hb hd he hf hg w1 w2 w3 w4 w5 w6 c0 (m : Int) (n : Int) (r : Int) hs
      · have h2 : fitsOf c0 c1 c2 c3 c4 e f g = false := by simpa using h2
        rw [h2]
        exact ⟨false, no_s, no_r⟩
    · rw [if_neg h1, if_neg h1]
      exact ⟨false, no_s, no_r⟩
  · rw [if_neg h4, if_neg h4]
    exact ⟨false, no_s, no_r⟩
end RightsL
end Go.Proofs.Ytcmaidpoolcelaa.Pure
namespace Go.Proofs.Ytcmaidpoolcelaa.Lem
open Go.RowKit Go.Proofs.Ytcmaidpoolcelaa.P Go.Proofs.Ytcmaidpoolcelaa.Num Go.Proofs.YtcmaidpoolcelaaW.PrintWords Go.Proofs.YtcmaidpoolcelaaW.PrintMore
set_option linter.unusedVariables false
set_option linter.unusedSectionVars false
theorem at_eq (z r q c g b : Nat) : z * r * q * c + g * c + b = (z * (r * q) + g) * c + b := by rw [Nat.add_mul, Nat.mul_assoc z r q]
theorem rowP_rd (l q c : Nat) (A B X Y : List Int) (at_ m z : Nat) (hz : z < m) : rd (rowP l q c A B X Y at_ m) (z : Int) = cellP l q c A B X Y at_ (z / c) (z % c) q := by
  unfold rowP
  rw [rd_get?, List.getElem?_map, List.getElem?_range hz]
  rfl
theorem rowP_low (l q c : Nat) (A B X Y : List Int) (at_ m : Nat) : lows l (rowP l q c A B X Y at_ m) = true := by
  unfold lows
  rw [List.all_eq_true]
  intro x hx
  unfold rowP at hx
  obtain ⟨z, -, rfl⟩ := List.mem_map.1 hx
  rw [decide_eq_true_eq]
  exact Int.ofNat_lt.2 (Nat.mod_lt _ (Nat.two_pow_pos l))
theorem rowP_u64 (l q c : Nat) (hl : l ≤ 64) (A B X Y : List Int) (at_ m : Nat) : U64s (rowP l q c A B X Y at_ m) := by
  intro x hx
  unfold rowP at hx
  obtain ⟨z, -, rfl⟩ := List.mem_map.1 hx
  have := lt64 (n := prodF q c A B X Y at_ (z / c) (z % c) q) hl
  unfold entP cellP
  omega
theorem sumAll_cg {l : Nat} (h0 : 1 ≤ l) (hl : l ≤ 64) {xs ys : List Int} (hx : U64s xs) (hy : U64s ys) (hlen : ys.length = xs.length) (i : Nat) (hi : i < xs.length) : Cg (2 ^ l) (rd (sumAll l xs ys) (i : Int)).toNat (nv xs i + nv ys i) := by
  have h := sumAll_rd l xs ys i hi
  obtain ⟨e1, -⟩ := nv_eq hx i hi
  obtain ⟨e2, -⟩ := nv_eq hy i (by omega)
  have e : rd (sumAll l xs ys) (i : Int) = (((nv xs i + nv ys i) % 2 ^ l : Nat) : Int) := by
    rw [rd_get?, List.getElem?_eq_getElem (by rw [sumAll_len]; exact hi), h]
    show addOf (l : Int) (rd xs (i : Int)) (rd ys (i : Int)) = _
    rw [e1, e2, addOf_nat l _ _ h0 hl]
  rw [e, Int.toNat_natCast]
  exact Cg.mod _ _
section
variable {l r q c : Nat} (h0 : 1 ≤ l) (hl : l ≤ 64) (hr0 : 1 ≤ r) (hr : r ≤ 6) (hq0 : 1 ≤ q) (hq : q ≤ 6) (hc0 : 1 ≤ c) (hc : c ≤ 6) {xs ys : List S26} (hx : Few xs) (hy : Few ys) (hox : xs.all (okSh l r q c) = true) (hoy : ys.all (okSh l r q c) = true) (hlen : ys.length = xs.length) (noise : List Int)
include h0 hl hr0 hr hq0 hq hc0 hc hx hy hox hoy hlen
/-- the sums of both -/
def cmX (l r q c : Nat) (xs : List S26) (noise : List Int) : List Int := foldF l (spP l noise (xs.length * (r * q) * (l * c))) c (xs.length * (r * q))
def cmY (l r q c : Nat) (xs ys : List S26) (noise : List Int) : List Int := foldF l (spQ l c (spreadAll l (allBlks r q c xs)) (allBits l (fst0 ys)) noise (xs.length * (r * q) * (l * c))) c (xs.length * (r * q))
theorem triple_z (z : Nat) (hz : z < xs.length) :
    tripleOf l r q c (rd_T26 xs (z : Int)).f0 (rd_T26 xs (z : Int)).f1 (rowP l q c (rd_T26 xs (z : Int)).f0 (rd_T26 xs (z : Int)).f1 (cmX l r q c xs noise) (cmY l r q c ys xs noise) (z * r * q * c) (r * c))
      (rd_T26 ys (z : Int)).f0 (rd_T26 ys (z : Int)).f1 (rowP l q c (rd_T26 ys (z : Int)).f0 (rd_T26 ys (z : Int)).f1 (cmX l r q c ys noise) (cmY l r q c xs ys noise) (z * r * q * c) (r * c)) = true := by
  have hsx := sh_mem xs z hz
  have hzy : z < ys.length := by omega
  have hsy := sh_mem ys z hzy
  obtain ⟨a1, a2, -, -⟩ := okSh_iff (List.all_eq_true.1 hox _ hsx)
  obtain ⟨b1, b2, -, -⟩ := okSh_iff (List.all_eq_true.1 hoy _ hsy)
  obtain ⟨ux, vx, -⟩ := hx.2 _ hsx
  obtain ⟨uy, vy, -⟩ := hy.2 _ hsy
  have f1 := fun (g b : Nat) (hg : g < r * q) (hb : b < c) => folds_prod hl hox hoy hlen hy noise z g b hz hg hb _ (spread_len' hox).symm
  have f2 := fun (g b : Nat) (hg : g < r * q) (hb : b < c) => folds_prod hl hoy hox hlen.symm hx noise z g b hzy hg hb _ (spread_len' hoy).symm
  unfold cmX cmY
  rw [← hlen] at f1 ⊢
  generalize (rd_T26 xs (z : Int)).f0 = A at *
  generalize (rd_T26 xs (z : Int)).f1 = B at *
  generalize (rd_T26 ys (z : Int)).f0 = A' at *
  generalize (rd_T26 ys (z : Int)).f1 = B' at *
  generalize foldF l (spP l noise (ys.length * (r * q) * (l * c))) c (ys.length * (r * q)) = X at *
  generalize foldF l (spQ l c (spreadAll l (allBlks r q c xs)) (allBits l (fst0 ys)) noise (ys.length * (r * q) * (l * c))) c (ys.length * (r * q)) = Y' at *
  generalize foldF l (spQ l c (spreadAll l (allBlks r q c ys)) (allBits l (fst0 xs)) noise (ys.length * (r * q) * (l * c))) c (ys.length * (r * q)) = Y at *
  unfold tripleOf
  rw [decide_eq_true_eq]
  apply List.ext_getElem
  · rw [mm_len, sumAll_len, rowP_len]
  · intro p hp1 hp2
    have hp : p < r * c := by rw [mm_len] at hp1; exact hp1
    have ha : p / c < r := by rw [Nat.div_lt_iff_lt_mul hc0]; exact hp
    have hb : p % c < c := Nat.mod_lt _ hc0
    have e1 : (mm l r q c (sumAll l A A') (sumAll l B B'))[p] = entry_ l (sumAll l A A') (sumAll l B B') q c p := by simp [mm]
    rw [e1, sumAll_rd l _ _ p (by rw [rowP_len]; exact hp)]
    show _ = addOf (l : Int) (rd _ (p : Int)) (rd _ (p : Int))
    rw [rowP_rd _ _ _ _ _ _ _ _ _ _ hp, rowP_rd _ _ _ _ _ _ _ _ _ _ hp]
    unfold entry_ cellP
    rw [addOf_nat l _ _ h0 hl]
    have key := prod_pair (2 ^ l) q c A B X Y A' B' X Y' (sumAll l A A') (sumAll l B B') (z * r * q * c) (p / c) (p % c) q
      (fun τ hτ => sumAll_cg h0 hl ux uy (by rw [a1, b1]) _ (by rw [a1]; exact place_lt ha hτ))
      (fun τ hτ => sumAll_cg h0 hl vx vy (by rw [a2, b2]) _ (by rw [a2]; exact place_lt hτ hb))
      (fun τ hτ => by
        have h1 := f1 (p / c * q + τ) (p % c) (place_lt ha hτ) hb
        rw [(place (p / c) τ q hτ).2] at h1
        rw [at_eq]
        exact h1)
      (fun τ hτ => by
        have h1 := f2 (p / c * q + τ) (p % c) (place_lt ha hτ) hb
        rw [(place (p / c) τ q hτ).2] at h1
        rw [at_eq]
        exact h1)
    unfold Cg at key
    rw [← key, ← Nat.add_mod]
end
end Go.Proofs.Ytcmaidpoolcelaa.Lem
namespace Go.Proofs.Ytcmaidpoolcelaa.Pure
open Go.RowKit Go.Proofs.Ytcmaidpoolcelaa.P Go.Proofs.Ytcmaidpoolcelaa.Lem Go.Proofs.Ytcmaidpoolcelaa.Num Go.Proofs.Ytcmaidpoolcelaa.Ops Go.Proofs.YtcmaidpoolcelaaW.PrintWords Go.Proofs.YtcmaidpoolcelaaW.PrintMore
set_option linter.unusedVariables false
namespace ScalarSidesL
open DabitRightsL

theorem held_bools (k : Nat) (hk : 200001 ≤ k) (t : Int × List Int × Int) (L : List Bool) (w : Int) (h : Held t L w) (hL : L.length ≤ 200000) : bits_Vec_Bools.f k t.1 t.2.1 = some L := by
  obtain ⟨a, b, c, d, e⟩ := h
  rw [a]
  exact bools_f k t.2.1 L c hL d e hk
end ScalarSidesL
open ScalarSidesL DabitRightsL

end Go.Proofs.Ytcmaidpoolcelaa.Pure
namespace Go.Proofs.Ytcmaidpoolcelaa.P
open Go.RowKit Go.Proofs.YtcmaidpoolcelaaW.PrintWords Go.Proofs.YtcmaidpoolcelaaW.PrintLast Go.Proofs.YtcmaidpoolcelaaW.PrintMore
set_option linter.unusedVariables false
set_option linter.unusedSimpArgs false
attribute [local go_sem ↓] Go.wp_at_zero Go.wp_at_succ
theorem infoU64 : (Try.prog.info? 35).map (fun i => (i.zero, i.size, i.bytes)) = some (some (.int .u64 0), 1, 8) := by kernel_rfl
theorem info_of {t : TypeId} {x : Option Value × Nat × Nat} (h : (Try.prog.info? t).map (fun i => (i.zero, i.size, i.bytes)) = some x) : ∃ i0, Try.prog.info? t = some i0 ∧ i0.zero = x.1 ∧ i0.size = x.2.1 ∧ i0.bytes = x.2.2 := by
  obtain ⟨i0, hi, hzz⟩ := Option.map_eq_some_iff.1 h
  subst hzz
  exact ⟨i0, hi, rfl, rfl, rfl⟩
theorem ew64 {x : Int} (h0 : -9223372036854775808 ≤ x) (h1 : x ≤ 9223372036854775807) : wrap64 x = x := by unfold wrap64; omega
/-- a row of words of the law's own -/
abbrev RU (B : Nat) (w : World) (v : Value) (l : List Int) : Prop := Kd.R (Kd.int .u64) 35 w B (fun _ => True) v l
theorem RU.move {B : Nat} {w w1 : World} {v : Value} {l : List Int} (h : RU B w v l) (hm : ∀ k, v.ownBlock = some k → w1.heap[k]? = w.heap[k]?) : RU B w1 v l :=
  Kd.R_reok rfl (Kd.R_move (Kd.R_tight rfl h) (fun k hk => hm k hk.symm)) (fun _ _ => trivial)
theorem RU.ge {B : Nat} {w : World} {v : Value} {l : List Int} (h : RU B w v l) : ∀ k, v.ownBlock = some k → B ≤ k := by
  obtain ⟨inner, ho⟩ := Kd.R_own h
  exact fun k hk => own_base ho k hk
theorem RU.own {B : Nat} {w : World} {v : Value} {xs : List Int} (h : RU B w v xs) : w.ownsRow B 35 1 v xs.length (nums .u64 xs) := Kd.own_of_R h
theorem RU.of {B : Nat} {w : World} {v : Value} {xs : List Int} (h : w.ownsRow B 35 1 v xs.length (nums .u64 xs)) : RU B w v xs := Kd.R_of_own h (fun _ _ => trivial)
theorem RU.form {B : Nat} {w : World} {v : Value} {l : List Int} (h : RU B w v l) : ∃ A c, v = .slice A l.length c ∧ l.length ≤ c ∧ Kd.C (Kd.int .u64) w A l.length l := Kd.R_reads h
theorem RU.ne {B : Nat} {w : World} {v : Value} {l : List Int} (h : RU B w v l) {g t : Nat} {cs : Array Value} (hb : w.heap[g]? = some (.cells cs t (0, 0))) (ht : 35 ≠ t) : v.ownBlock ≠ some g := fun e => Kd.R_ne h hb ht e.symm
theorem RU_empty (W : World) (B : Nat) (hb : B ≤ W.heap.size) : RU B (W.alloc (.cells #[] 35)) (.slice (some ⟨W.heap.size, 0, none⟩) 0 0) ([] : List Int) :=
  ⟨fun k hk => trivial, [], ⟨by simp, .inr ⟨W.heap.size, 0, #[], rfl, hb, heap_alloc_new W _, Nat.le_refl _, by unfold maxLen; omega, by simp, by simp⟩⟩, Reps.none _ _⟩
theorem wrap_i64 {x : Int} (h0 : -9223372036854775808 ≤ x) (h1 : x ≤ 9223372036854775807) : IntKind.i64.wrap x = x := by rw [IntKind.wrap_i64]; omega
theorem cutU (A : Option Addr) (c : Nat) (l : List Int) (w : World) (hr : Kd.C (Kd.int .u64) w A l.length l) (hc : l.length ≤ c) (lo hi : Int) (h0 : 0 ≤ lo) (h1 : lo ≤ hi) (h2 : hi ≤ (l.length : Int)) (Y : List Int) (hY : Y = (l.take hi.toNat).drop lo.toNat) :
    ∃ A1 c1, (∀ W : World, (Instr.slice 24 (.slice A l.length c) (some (.int .i64 lo)) (some (.int .i64 hi)) none).run Try.prog W = .ok (.slice A1 Y.length c1) W) ∧ Kd.C (Kd.int .u64) w A1 Y.length Y ∧ Y.length ≤ c1 := by
  obtain ⟨i0, hi0, _, hz1, _⟩ := info_of infoU64
  have hcut := cut_mid (P := Try.prog) 24 35 .i64 .i64 Try.underlying24 hi0 1 hz1 A l.length c lo hi h0 h1 h2 hc
  have hl : Y.length = hi.toNat - lo.toNat := by rw [hY, List.length_drop, List.length_take]; omega
  have hr := Kd.C_mid (lo := lo.toNat) (hi := hi.toNat) (c := c) hr (by omega) (by omega) hc
  rw [← hY] at hr
  rw [← hl] at hcut
  refine ⟨_, _, hcut, hr, ?_⟩
  rw [hl]
  omega
/-- the document's tape as a value -/
abbrev rT (A : Option Addr) (n c : Nat) (a : Nat) : Value := .agg #[.slice A n c, .int .i64 (a : Int)]
/-- the number that a call for n words tells -/
def takeE (l : List Int) (a : Nat) (n : Int) : Int := if n < 0 then 1 else if n > (l.length : Int) - a then 10 else 0
set_option maxHeartbeats 1600000 in
theorem rtake_bad (A : Option Addr) (c : Nat) (l : List Int) (a : Nat) (n : Int) (w : World) (ha : a ≤ l.length) (hl : l.length ≤ 9223372036854775807) (hE : takeE l a n ≠ 0) :
    Calls Try.prog 110 #[rT A l.length c a, .int .i64 n] w fun e w' => e = .returned (.tuple #[rT A l.length c a, .slice none 0 0, .int .i64 (takeE l a n)]) ∧ Below w.heap.size w w' := by
  have hw1 : wrap64 ((l.length : Int) - (a : Int)) = (l.length : Int) - a := ew64 (by omega) (by omega)
  have HB2 := Lib.hid (below_alloc (below_alloc (Below.refl w.heap.size w) (.cells #[.slice A l.length c, .int .i64 (a : Int)] 67)) (.cells #[.slice none 0 0, .int .i64 0] 67))
  have HK := Lib.hid (heap_alloc2_new w (.cells #[.slice A l.length c, .int .i64 (a : Int)] 67) (.cells #[.slice none 0 0, .int .i64 0] 67))
  unfold takeE at hE ⊢
  by_cases h1 : n < 0
  · rw [if_pos h1]
    clear hE
    go_enter Try.func110, Try.ntmps110
    go_wp2
    refine bodyPost_ret (results_ctt rfl _ _ (w.heap.size + 1) 67 _ (0, 0) _ rfl (heap_alloc2_new w _ _) Try.underlying67 rfl (by kernel_rfl)) rfl ?_
    exact ⟨rfl, below_alloc (below_alloc (Below.refl _ _) _) _⟩
  · by_cases h2 : n > (l.length : Int) - a
    · rw [if_neg h1, if_pos h2]
      clear hE
      go_enter Try.func110, Try.ntmps110
      go_wp2
      refine bodyPost_ret (results_ctt rfl _ _ (w.heap.size + 1) 67 _ (0, 0) _ rfl (heap_alloc2_new w _ _) Try.underlying67 rfl (by kernel_rfl)) rfl ?_
      exact ⟨rfl, below_alloc (below_alloc (Below.refl _ _) _) _⟩
    · rw [if_neg h1, if_neg h2] at hE
      exact absurd rfl hE
set_option maxHeartbeats 1600000 in
theorem rtake_ok (A : Option Addr) (c : Nat) (l : List Int) (a n : Nat) (w : World) (hf : a + n ≤ l.length) (hl : l.length ≤ 9223372036854775807) (hn : n ≤ 1048576) (hr : Kd.C (Kd.int .u64) w A l.length l) (hc : l.length ≤ c) :
    Calls Try.prog 110 #[rT A l.length c a, .int .i64 (n : Int)] w fun e w' => ∃ u, e = .returned (.tuple #[rT A l.length c (a + n), u, .int .i64 0]) ∧ RU w.heap.size w' u ((l.take (a + n)).drop a) ∧ Below w.heap.size w w' := by
  have hw1 : wrap64 ((l.length : Int) - (a : Int)) = (l.length : Int) - a := ew64 (by omega) (by omega)
  obtain ⟨z, hz⟩ : ∃ z : Int, z = ((a + n : Nat) : Int) := ⟨_, rfl⟩
  have hw2 : wrap64 ((a : Int) + (n : Int)) = z := by rw [ew64 (by omega) (by omega)]; omega
  have h1 : ¬ (n : Int) < 0 := by omega
  have h2 : ¬ (n : Int) > (l.length : Int) - a := by omega
  obtain ⟨A1, c3, hcut, hC1, hc3⟩ := cutU A c l w hr hc (a : Int) z (by omega) (by omega) (by omega) ((l.take (a + n)).drop a) (by rw [hz, Int.toNat_natCast, Int.toNat_natCast])
  have hYl : ((l.take (a + n)).drop a).length ≤ 1048576 := by rw [List.length_drop, List.length_take]; omega
  have HZ := Lib.hid hz
  generalize (l.take (a + n)).drop a = Y at *
  have HB2 := Lib.hid (below_alloc (below_alloc (Below.refl w.heap.size w) (.cells #[.slice A l.length c, .int .i64 (a : Int)] 67)) (.cells #[.slice none 0 0, .int .i64 0] 67))
  have HK := Lib.hid (heap_alloc2_new w (.cells #[.slice A l.length c, .int .i64 (a : Int)] 67) (.cells #[.slice none 0 0, .int .i64 0] 67))
  have HC1 := Lib.hid hC1
  have HYL := Lib.hid hYl
  clear hz hC1 hYl hr hf hl hc3 hc
  go_enter Try.func110, Try.ntmps110
  have HA := Lib.hid (heap_alloc2_old w (.cells #[.slice A l.length c, .int .i64 (a : Int)] 67) (.cells #[.slice none 0 0, .int .i64 0] 67))
  have HRE := Lib.hid (RU_empty ((w.alloc (.cells #[.slice A l.length c, .int .i64 (a : Int)] 67)).alloc (.cells #[.slice none 0 0, .int .i64 0] 67)) w.heap.size HB2.out.size)
  have HB3 := Lib.hid (below_alloc HB2.out (.cells #[] 35))
  go_wp2_with (at_builtin; go_loud (refine Kd.R_append_rows (Kd.int .u64) (Rr := (Kd.int .u64).K w) (w0 := w) w.heap.size rfl (.tmp 20) (.tmp 29) 24 35 (.int .u64 0) 8 rfl Try.underlying24 infoU64 rfl (by decide) (by omega) (.slice (some ⟨w.heap.size + 1 + 1, 0, none⟩) 0 0) [] Y A1 Y.length c3 (fun _ => True) (fun _ => False) rfl rfl (by simpa using HRE.out) (Kd.C_alloc (Kd.C_alloc (Kd.C_alloc HC1.out _) _) _) (fun _ _ h => h) (fun _ hk => hk.elim) (fun _ _ => trivial) HB3.out HB3.out.size (by have := HYL.out; simp; omega) ?_; intro v9 w4 ho hb hg hat; rw [List.nil_append] at ho; have K0 := Lib.hid ((hg.block w.heap.size (by simp; omega) (by simp [Value.ownBlock]; omega)).trans (blk_alloc HA.out _)); have K1 := Lib.hid ((hg.block (w.heap.size + 1) (by simp) (by simp [Value.ownBlock])).trans (blk_alloc HK.out _)); obtain ⟨k0, k1, -, -⟩ := cells_2 K0.out; obtain ⟨m0, m1, mf0, mf1⟩ := cells_2 K1.out; have HO := Lib.hid ho; have HB4 := Lib.hid hb; obtain ⟨A4, c4, rfl, -, -⟩ := RU.form ho; clear ho hb hg hat))
  refine bodyPost_ret (results_ctt rfl _ _ (w.heap.size + 1) 67 _ (0, 0) _ rfl (by simpa using blk_set (blk_set K1.out 0 (.slice A l.length c)) 1 (.int .i64 z)) Try.underlying67 rfl (by kernel_rfl)) rfl ?_
  have hu : RU w.heap.size w4 (.slice A4 Y.length c4) Y := HO.out
  exact ⟨.slice A4 Y.length c4, by rw [HZ.out]; rfl, (hu.move (fun k hk => Below.heap_setCell _ _ _ _ (fun e => hu.ne K1.out (by decide) (by rw [hk, e])))).move (fun k hk => Below.heap_setCell _ _ _ _ (fun e => hu.ne K1.out (by decide) (by rw [hk, e]))), below_set (below_set HB4.out (by omega)) (by omega)⟩
/-- the lowest b bits of a word -/
def cutB (b : Nat) (x : Int) : Int := ((x.toNat % 2 ^ b : Nat) : Int)
theorem mem_mid {l : List Int} {a n : Nat} {x : Int} (h : x ∈ (l.take (a + n)).drop a) : x ∈ l := List.mem_of_mem_take (List.mem_of_mem_drop h)
theorem rd_mem {l : List Int} {i : Nat} (h : i < l.length) : rd l (i : Int) ∈ l := by
  unfold rd
  rw [Int.toNat_natCast, List.getD_eq_getElem?_getD, List.getElem?_eq_getElem h]
  exact List.getElem_mem h
/-- the first i of a list turned -/
def mixL (f : Int → Int) (Y : List Int) (i : Nat) : List Int := (Y.take i).map f ++ Y.drop i
theorem mixL_zero (f : Int → Int) (Y : List Int) : mixL f Y 0 = Y := by simp [mixL]
theorem mixL_len (f : Int → Int) (Y : List Int) (i : Nat) : (mixL f Y i).length = Y.length := by simp [mixL]; omega
theorem mixL_rd (f : Int → Int) (Y : List Int) (i : Nat) (hi : i < Y.length) : rd (mixL f Y i) (i : Int) = rd Y (i : Int) := by
  unfold rd mixL
  rw [Int.toNat_natCast, List.getD_eq_getElem?_getD, List.getD_eq_getElem?_getD, List.getElem?_append_right (by simp; omega)]
  simp [Nat.min_eq_left (Nat.le_of_lt hi)]
theorem mixL_set (f : Int → Int) (Y : List Int) (i : Nat) (hi : i < Y.length) : (mixL f Y i).set i (f (rd Y (i : Int))) = mixL f Y (i + 1) := by
  have hr : rd Y (i : Int) = Y[i] := by
    unfold rd
    rw [Int.toNat_natCast, List.getD_eq_getElem?_getD, List.getElem?_eq_getElem hi]
    rfl
  have hl : ((Y.take i).map f).length = i := by simp; omega
  rw [hr]
  unfold mixL
  rw [List.drop_eq_getElem_cons hi, List.take_succ_eq_append_getElem hi, List.map_append, List.append_assoc, List.set_append_right _ _ (by omega), hl, Nat.sub_self]
  rfl
theorem mixL_all (f : Int → Int) (Y : List Int) : mixL f Y Y.length = Y.map f := by simp [mixL]
theorem RU.block {B : Nat} {w : World} {v : Value} {xs : List Int} (h : RU B w v xs) (hx : 0 < xs.length) : ∃ g c, v = .slice (some ⟨g, 0, none⟩) xs.length c := by
  obtain ⟨g, c, e, -⟩ := Kd.R_form h hx
  exact ⟨g, c, e⟩
theorem RU.at {B g n c : Nat} {w : World} {xs : List Int} (h : RU B w (.slice (some ⟨g, 0, none⟩) n c) xs) (i : Nat) (hi : i < xs.length) : w.cell? ⟨g, i, none⟩ = some (.int .u64 (rd xs (i : Int))) ∧ w.frozen? ⟨g, i, none⟩ = false := by
  have hn : xs.length = n := by
    obtain ⟨A', c', e, -, -⟩ := h.form
    injection e with _ e2 _
    exact e2.symm
  have ho := h.own
  rw [hn] at ho
  have := own_at ho (i : Int) (by omega) (by omega)
  simpa using this
theorem RU.put {B g n c : Nat} {w : World} {xs : List Int} (h : RU B w (.slice (some ⟨g, 0, none⟩) n c) xs) (i : Nat) (hi : i < xs.length) (x : Int) : RU B (w.setCell ⟨g, i, none⟩ (.int .u64 x)) (.slice (some ⟨g, 0, none⟩) n c) (xs.set i x) := by
  have hn : xs.length = n := by
    obtain ⟨A', c', e, -, -⟩ := h.form
    injection e with _ e2 _
    exact e2.symm
  have ho := h.own
  rw [hn] at ho
  have h2 := (own_store ho (i : Int) x).1
  refine RU.of ?_
  rw [List.length_set, hn]
  simpa using h2
theorem cut_ok (x : Nat) (b : Nat) (w : World) (hb1 : 1 ≤ b) (hb2 : b ≤ 64) (hx : x < 18446744073709551616) : Calls Try.prog 111 #[.int .u64 (x : Int), .int .i64 (b : Int)] w fun e w' => e = .returned (.int .u64 ((x % 2 ^ b : Nat) : Int)) ∧ w = w' := by
  by_cases h : (b : Int) ≥ 64
  · have hb : b = 64 := by omega
    have hm : x % 2 ^ b = x := by rw [hb]; exact Nat.mod_eq_of_lt hx
    rw [hm]
    go_enter Try.func111, Try.ntmps111
    go_wp2
    go_ret
    exact ⟨rfl, rfl⟩
  · have hb : b < 64 := by omega
    have hw3 : IntKind.u64.wrap (b : Int) = (b : Int) := Num.wu64_nat' (by omega)
    have hp : IntKind.u64.wrap (2 ^ b) = ((2 ^ b : Nat) : Int) := by
      have hlt : 2 ^ b < 18446744073709551616 := Nat.pow_lt_pow_right (a := 2) (by decide) (show b < 64 from hb)
      have e : (2 : Int) ^ b = ((2 ^ b : Nat) : Int) := by rw [Int.natCast_pow]; rfl
      rw [e]
      exact Num.wu64_nat' hlt
    have hpos : 0 < 2 ^ b := Nat.two_pow_pos b
    rw [Int.natCast_emod]
    generalize 2 ^ b = P at *
    have hz : ¬ (P : Int) = 0 := by omega
    go_enter Try.func111, Try.ntmps111
    go_wp2
    go_ret
    exact ⟨rfl, rfl⟩
set_option maxHeartbeats 3200000 in
theorem rnums_gen (A : Option Addr) (c : Nat) (l : List Int) (a : Nat) (n : Int) (b : Nat) (w : World) (hb1 : 1 ≤ b) (hb2 : b ≤ 64) (a' : Nat) (Y : List Int) (E : Int) (hY : ∀ x ∈ Y, 0 ≤ x ∧ x < 18446744073709551616) (hYl : Y.length ≤ 1048576)
    (hR : ∀ W, Below w.heap.size w W → Calls Try.prog 110 #[rT A l.length c a, .int .i64 n] W fun e w' => ∃ u, e = .returned (.tuple #[rT A l.length c a', u, .int .i64 E]) ∧ RU W.heap.size w' u Y ∧ Below W.heap.size W w') :
    Calls Try.prog 82 #[rT A l.length c a, .int .i64 n, .int .i64 (b : Int)] w fun e w' => ∃ u, e = .returned (.tuple #[rT A l.length c a', u, .int .i64 E]) ∧ RU w.heap.size w' u (Y.map (cutB b)) ∧ Below w.heap.size w w' := by
  have HB2 := Lib.hid (below_alloc (below_alloc (Below.refl w.heap.size w) (.cells #[.slice A l.length c, .int .i64 (a : Int)] 67)) (.cells #[.slice none 0 0, .int .i64 0] 67))
  have HK := Lib.hid (heap_alloc2_new w (.cells #[.slice A l.length c, .int .i64 (a : Int)] 67) (.cells #[.slice none 0 0, .int .i64 0] 67))
  have HR := Lib.hid (hR _ HB2.out)
  have HYL := Lib.hid hYl
  have HY := Lib.hid hY
  have h6 : ¬ (b : Int) < 1 := by omega
  have h7 : ¬ (b : Int) > 64 := by omega
  clear hR hY hYl
  go_enter Try.func82, Try.ntmps82
  go_wp2_with (go_at_call 110; go_loud ((with_reducible refine HR.out.mono ?_); rintro e w1 ⟨u, rfl, hu, hb⟩; have HU := Lib.hid hu; have HB1 := Lib.hid (below_step HB2.out hb); have K1 := Lib.hid ((hb.block _ (blk_lt HK.out)).trans HK.out); obtain ⟨A1, c1, rfl, -, -⟩ := hu.form; clear hu hb))
  have HU0 : Hid (RU w.heap.size w1 (.slice A1 Y.length c1) Y) := Lib.hid (Kd.R_lower HU.out HB2.out.size)
  go_loopw [12] (fun v12 wr => ∃ i : Nat, i ≤ Y.length ∧ v12 = .int .i64 (i : Int) ∧ Hid (RU w.heap.size wr (.slice A1 Y.length c1) (mixL (cutB b) Y i)) ∧ Hid (wr.heap[w.heap.size + 1]? = some (.cells #[.slice none 0 0, .int .i64 0] 67 (0, 0))) ∧ Hid (wr.heap[w1.heap.size]? = some (.cells #[.slice A l.length c, .int .i64 (a' : Int)] 67 (0, 0))) ∧ Hid (Below w.heap.size w wr)) (fun v12 _ => Y.length - (intOf v12).toNat)
  case atStart => exact ⟨0, by omega, rfl, Lib.hid (by rw [mixL_zero]; exact Kd.R_alloc HU0.out _), Lib.hid (blk_alloc K1.out _), Lib.hid (heap_alloc_new w1 _), Lib.hid (below_alloc HB1.out _)⟩
  case round =>
    obtain ⟨wo, rfl⟩ : ∃ wo : World, wo = wr := ⟨_, rfl⟩
    obtain ⟨i, hi, rfl, HU, K1, K2, HB⟩ := hrel
    by_cases hlt : i < Y.length
    · have hltI : (i : Int) < (Y.length : Int) := by omega
      have hi0 : (0 : Int) ≤ (i : Int) := by omega
      obtain ⟨g1, c1', e1⟩ := HU.out.block (by rw [mixL_len]; omega)
      injection e1 with e1 e2 e3
      subst e1
      clear e2 e3
      obtain ⟨q0, q1⟩ := HU.out.at i (by rw [mixL_len]; exact hlt)
      rw [mixL_rd _ _ _ hlt] at q0
      obtain ⟨x0, x1⟩ := HY.out _ (rd_mem hlt)
      obtain ⟨x, hx⟩ : ∃ x : Nat, rd Y (i : Int) = (x : Int) := ⟨(rd Y (i : Int)).toNat, by omega⟩
      rw [hx] at q0 x0 x1
      have HCUT := Lib.hid (fun W => cut_ok x b W hb1 hb2 (by omega))
      have hiw : IntKind.i64.wrap ((i : Int) + 1) = (i : Int) + 1 := IntWalk.i64_in _ ⟨by omega, by have := HYL.out; omega⟩
      have HX := Lib.hid hx
      clear hx x0 x1
      have HSET := Lib.hid (show (mixL (cutB b) Y i).set i (((x % 2 ^ b : Nat) : Int)) = mixL (cutB b) Y (i + 1) by
        have := mixL_set (cutB b) Y i hlt
        rw [HX.out] at this
        simpa [cutB] using this)
      obtain ⟨z, hz⟩ : ∃ z : Int, z = ((x % 2 ^ b : Nat) : Int) := ⟨_, rfl⟩
      rw [← hz] at HCUT HSET
      clear hz
      go_wp2_with (go_at_call 111; (with_reducible refine (HCUT.out _).mono ?_); rintro e w2 ⟨rfl, rfl⟩)
      go_roundw
      case measure => simp [intOf]; omega
      case rel =>
        refine ⟨i + 1, by omega, by go_num, ?_, ?_, ?_, ?_⟩
        · have h := HU.out.put i (by rw [mixL_len]; exact hlt) z
          rw [HSET.out] at h
          exact Lib.hid h
        · exact Lib.hid (blk_far K1.out (fun e => HU.out.ne K1.out (by decide) (by rw [e]; rfl)) _)
        · exact Lib.hid (blk_far K2.out (fun e => HU.out.ne K2.out (by decide) (by rw [e]; rfl)) _)
        · exact Lib.hid (below_set HB.out (HU.out.ge g1 rfl))
    · have hie : i = Y.length := by omega
      subst hie
      have hnlt : ¬ (Y.length : Int) < (Y.length : Int) := by omega
      obtain ⟨k0, k1, -, -⟩ := cells_2 K2.out
      obtain ⟨m0, m1, mf0, mf1⟩ := cells_2 K1.out
      go_wp2
      refine bodyPost_ret (results_ctt rfl _ _ (w.heap.size + 1) 67 _ (0, 0) _ rfl (by simpa using blk_set (blk_set K1.out 0 (.slice A l.length c)) 1 (.int .i64 (a' : Int))) Try.underlying67 rfl (by kernel_rfl)) rfl ?_
      have hu := HU.out
      rw [mixL_all] at hu
      exact ⟨.slice A1 Y.length c1, rfl, (hu.move (fun k hk => Below.heap_setCell _ _ _ _ (fun e => hu.ne K1.out (by decide) (by rw [hk, e])))).move (fun k hk => Below.heap_setCell _ _ _ _ (fun e => hu.ne K1.out (by decide) (by rw [hk, e]))), below_set (below_set HB.out (by omega)) (by omega)⟩
theorem rnums_ok (A : Option Addr) (c : Nat) (l : List Int) (a n b : Nat) (w : World) (hb1 : 1 ≤ b) (hb2 : b ≤ 64) (hf : a + n ≤ l.length) (hl : l.length ≤ 9223372036854775807) (hn : n ≤ 1048576) (hr : Kd.C (Kd.int .u64) w A l.length l) (hc : l.length ≤ c) (hu : ∀ x ∈ l, 0 ≤ x ∧ x < 18446744073709551616) :
    Calls Try.prog 82 #[rT A l.length c a, .int .i64 (n : Int), .int .i64 (b : Int)] w fun e w' => ∃ u, e = .returned (.tuple #[rT A l.length c (a + n), u, .int .i64 0]) ∧ RU w.heap.size w' u (((l.take (a + n)).drop a).map (cutB b)) ∧ Below w.heap.size w w' :=
  rnums_gen A c l a n b w hb1 hb2 (a + n) _ 0 (fun x hx => hu x (mem_mid hx)) (by rw [List.length_drop, List.length_take]; omega) (fun W hW => rtake_ok A c l a n W hf hl hn (Kd.C_below hr hW) hc)
theorem rnums_bad (A : Option Addr) (c : Nat) (l : List Int) (a b : Nat) (n : Int) (w : World) (hb1 : 1 ≤ b) (hb2 : b ≤ 64) (ha : a ≤ l.length) (hl : l.length ≤ 9223372036854775807) (hE : takeE l a n ≠ 0) :
    Calls Try.prog 82 #[rT A l.length c a, .int .i64 n, .int .i64 (b : Int)] w fun e w' => ∃ u, e = .returned (.tuple #[rT A l.length c a, u, .int .i64 (takeE l a n)]) ∧ RU w.heap.size w' u [] ∧ Below w.heap.size w w' :=
  rnums_gen A c l a n b w hb1 hb2 a [] (takeE l a n) (fun x hx => by simp at hx) (by simp) (fun W hW => (rtake_bad A c l a n W ha hl hE).mono (fun e w' ⟨he, hb⟩ => ⟨_, he, Kd.R_nil _ _ _ _ _, hb⟩))
end Go.Proofs.Ytcmaidpoolcelaa.P
namespace Go.Proofs.Ytcmaidpoolcelaa.P
open Go.RowKit Go.Proofs.YtcmaidpoolcelaaW.PrintWords Go.Proofs.YtcmaidpoolcelaaW.PrintLast Go.Proofs.YtcmaidpoolcelaaW.PrintMore
set_option linter.unusedVariables false
set_option linter.unusedSimpArgs false
attribute [local go_sem ↓] Go.wp_at_zero Go.wp_at_succ
/-- a class as a value -/
abbrev cV (c0 c1 c2 c3 c4 : Int) : Value := .agg #[.int .i64 c0, .int .i64 c1, .int .i64 c2, .int .i64 c3, .int .i64 c4]
/-- the three blocks that the document's Draw begins with -/
structure Begun (w W : World) (c0 c1 c2 c3 c4 : Int) (A : Option Addr) (n c a : Nat) (x y : Value) : Prop where
  k3 : W.heap[w.heap.size]? = some (.cells #[.int .i64 c0, .int .i64 c1, .int .i64 c2, .int .i64 c3, .int .i64 c4] 23 (0, 0))
  k5 : W.heap[w.heap.size + 1]? = some (.cells #[.slice A n c, .int .i64 (a : Int)] 67 (0, 0))
  k6 : W.heap[w.heap.size + 1 + 1]? = some (.cells #[x, y] 67 (0, 0))
  bel : Below w.heap.size w W
section
variable {w W W1 : World} {c0 c1 c2 c3 c4 : Int} {A : Option Addr} {n c a : Nat} {x y : Value}
theorem Begun.below (h : Begun w W c0 c1 c2 c3 c4 A n c a x y) (hb : Below W.heap.size W W1) : Begun w W1 c0 c1 c2 c3 c4 A n c a x y :=
  ⟨(hb.block _ (blk_lt h.k3)).trans h.k3, (hb.block _ (blk_lt h.k5)).trans h.k5, (hb.block _ (blk_lt h.k6)).trans h.k6, below_step h.bel hb⟩
theorem Begun.drew (h : Begun w W c0 c1 c2 c3 c4 A n c a x y) : Begun w W.drew c0 c1 c2 c3 c4 A n c a x y := h.below (below_drew (Below.refl _ _))
theorem Begun.put (h : Begun w W c0 c1 c2 c3 c4 A n c a x y) (u v : Value) : Begun w ((W.setCell ⟨w.heap.size + 1 + 1, 0, none⟩ u).setCell ⟨w.heap.size + 1 + 1, 1, none⟩ v) c0 c1 c2 c3 c4 A n c a u v :=
  ⟨blk_far (blk_far h.k3 (by simp; omega) _) (by simp; omega) _, blk_far (blk_far h.k5 (by simp) _) (by simp) _, by simpa using blk_set (blk_set h.k6 0 u) 1 v, below_set (below_set h.bel (by omega)) (by omega)⟩
end
theorem begun (w : World) (c0 c1 c2 c3 c4 : Int) (A : Option Addr) (n c a : Nat) : Begun w (((w.alloc (.cells #[.int .i64 c0, .int .i64 c1, .int .i64 c2, .int .i64 c3, .int .i64 c4] 23)).alloc (.cells #[.slice A n c, .int .i64 (a : Int)] 67)).alloc (.cells #[.slice none 0 0, .int .i64 0] 67)) c0 c1 c2 c3 c4 A n c a (.slice none 0 0) (.int .i64 0) := by
  refine ⟨blk_alloc (blk_alloc (heap_alloc_new w _) _) _, blk_alloc ?_ _, ?_, below_alloc (below_alloc (below_alloc (Below.refl _ _) _) _) _⟩
  · exact heap_alloc2_new w _ _
  · have h := heap_alloc_new ((w.alloc (.cells #[.int .i64 c0, .int .i64 c1, .int .i64 c2, .int .i64 c3, .int .i64 c4] 23)).alloc (.cells #[.slice A n c, .int .i64 (a : Int)] 67)) (.cells #[.slice none 0 0, .int .i64 0] 67)
    simpa using h
/-- the i-th share of a row of numbers, x and y of them -/
def shA (Y : List Int) (x y i : Nat) : S26 := ⟨(Y.take (i * (x + y) + x)).drop (i * (x + y)), (Y.take (i * (x + y) + x + y)).drop (i * (x + y) + x), []⟩
def shG (Y : List Int) (x y n : Nat) : List S26 := (List.range n).map (shA Y x y)
theorem shG_snoc (Y : List Int) (x y i : Nat) : shG Y x y i ++ [shA Y x y i] = shG Y x y (i + 1) := by
  unfold shG
  rw [List.range_succ, List.map_append]
  rfl
theorem shG_len (Y : List Int) (x y n : Nat) : (shG Y x y n).length = n := by simp [shG]
section
variable (kind c0 c1 c2 c3 c4 n : Int) (A : Option Addr) (c : Nat) (l : List Int) (a : Nat) (w : World)
set_option maxHeartbeats 3200000 in
theorem rdrawG_no (E : Int) (hE : E ≠ 0) (HCk : ∀ W, Calls Try.prog 81 #[cV c0 c1 c2 c3 c4, .int .i64 kind, .int .i64 n] W fun e w' => e = .returned (.int .i64 E) ∧ Below W.heap.size W w') :
    Calls Try.prog 47 #[cV c0 c1 c2 c3 c4, .int .i64 kind, .int .i64 n, rT A l.length c a] w fun e w' => e = .returned (.tuple #[rT A l.length c a, .slice none 0 0, .int .i64 E]) ∧ Below w.heap.size w w' := by
  have HC := Lib.hid HCk
  have hb : (E != 0) = true := by rw [bne_iff_ne]; exact hE
  have HB0 := Lib.hid (begun w c0 c1 c2 c3 c4 A l.length c a)
  have n02 : w.heap.size ≠ w.heap.size + 1 + 1 := by omega
  have n12 : w.heap.size + 1 ≠ w.heap.size + 1 + 1 := by omega
  clear hE HCk
  go_enter Try.func47, Try.ntmps47
  go_wp2_with (go_at_call 81; (with_reducible refine (HC.out _).mono ?_); rintro e w1 ⟨rfl, hb⟩; have HB1 := Lib.hid (HB0.out.below hb); obtain ⟨k0, k1, k2, k3, k4, -⟩ := cells_5 HB1.out.k3; obtain ⟨m0, m1, -⟩ := cells_2 HB1.out.k5; obtain ⟨z0, z1, zf0, zf1⟩ := cells_2 HB1.out.k6; clear hb)
  go_region_with (go_at_call 81; (with_reducible refine (HC.out _).mono ?_); rintro e w2 ⟨rfl, hb⟩; (first | have HB2 := Lib.hid (HB1.out.drew.below hb) | have HB2 := Lib.hid ((HB1.out.drew.put (.slice A l.length c) (.int .i64 (a : Int))).below hb)); obtain ⟨p0, p1, p2, p3, p4, -⟩ := cells_5 HB2.out.k3; obtain ⟨q0, q1, -⟩ := cells_2 HB2.out.k5; obtain ⟨x0, x1, xf0, xf1⟩ := cells_2 HB2.out.k6; clear hb)
  all_goals go_wp2
  all_goals
    first
      | (refine bodyPost_ret (results_ctt rfl _ _ (w.heap.size + 1 + 1) 67 #[.slice A l.length c, .int .i64 (a : Int)] (0, 0) _ rfl (HB2.out.put _ _).k6 Try.underlying67 rfl (by kernel_rfl)) rfl ?_; exact ⟨rfl, (HB2.out.put _ _).bel⟩)
      | (refine bodyPost_ret (results_ctt rfl _ _ (w.heap.size + 1 + 1) 67 #[.slice A l.length c, .int .i64 (a : Int)] (0, 0) _ rfl HB2.out.k6 Try.underlying67 rfl (by kernel_rfl)) rfl ?_; exact ⟨rfl, HB2.out.bel⟩)
/-- what the document's Draw reckons with: the sides' products, and how many numbers -/
structure Reck (m k q : Int) (x y s N : Nat) (n : Int) : Prop where
  x1 : wrap64 (m * k) = (x : Int)
  x2 : IntKind.i64.wrap (m * k) = (x : Int)
  y1 : wrap64 (k * q) = (y : Int)
  y2 : IntKind.i64.wrap (k * q) = (y : Int)
  s1 : wrap64 ((x : Int) + (y : Int)) = (s : Int)
  s2 : IntKind.i64.wrap ((x : Int) + (y : Int)) = (s : Int)
  n1 : wrap64 (n * (s : Int)) = (N : Int)
  n2 : IntKind.i64.wrap (n * (s : Int)) = (N : Int)
variable (m k q : Int) (x y s N : Nat) (HRk : Reck m k q x y s N n)
  (HCk : ∀ W, Calls Try.prog 81 #[cV c0 c1 c2 c3 c4, .int .i64 kind, .int .i64 n] W fun e w' => e = .returned (.int .i64 0) ∧ Below W.heap.size W w')
  (HSd : ∀ W, Calls Try.prog 48 #[cV c0 c1 c2 c3 c4] W fun e w' => e = .returned (.tuple #[.int .i64 m, .int .i64 k, .int .i64 q]) ∧ Below W.heap.size W w')
include HRk HCk HSd
set_option maxHeartbeats 3200000 in
set_option maxRecDepth 100000 in
theorem rdrawG_bad (E : Int) (hE : E ≠ 0) (HNm : ∀ W, Below w.heap.size w W → Calls Try.prog 82 #[rT A l.length c a, .int .i64 (N : Int), .int .i64 c1] W fun e w' => ∃ u, e = .returned (.tuple #[rT A l.length c a, u, .int .i64 E]) ∧ Below W.heap.size W w') :
    Calls Try.prog 47 #[cV c0 c1 c2 c3 c4, .int .i64 kind, .int .i64 n, rT A l.length c a] w fun e w' => e = .returned (.tuple #[rT A l.length c a, .slice none 0 0, .int .i64 E]) ∧ Below w.heap.size w w' := by
  have HC := Lib.hid HCk
  have HS := Lib.hid HSd
  have HN := Lib.hid HNm
  have hb : (E != 0) = true := by rw [bne_iff_ne]; exact hE
  have HB0 := Lib.hid (begun w c0 c1 c2 c3 c4 A l.length c a)
  obtain ⟨hx1, hx2, hy1, hy2, hs1, hs2, hn1, hn2⟩ := HRk
  have n02 : w.heap.size ≠ w.heap.size + 1 + 1 := by omega
  have n12 : w.heap.size + 1 ≠ w.heap.size + 1 + 1 := by omega
  clear hE HCk HSd HNm
  go_enter Try.func47, Try.ntmps47
  go_wp2_with (first
    | (go_at_call 81; (with_reducible refine (HC.out _).mono ?_); rintro e w1 ⟨rfl, hb⟩; have HB1 := Lib.hid (HB0.out.below hb); obtain ⟨k0, k1, k2, k3, k4, -⟩ := cells_5 HB1.out.k3; clear hb)
    | (go_at_call 48; (with_reducible refine (HS.out _).mono ?_); rintro e w2 ⟨rfl, hb⟩; have HB2 := Lib.hid (HB1.out.below hb); obtain ⟨p0, p1, p2, p3, p4, -⟩ := cells_5 HB2.out.k3; obtain ⟨m0, m1, -⟩ := cells_2 HB2.out.k5; clear hb)
    | (go_at_call 82; go_loud ((with_reducible refine (HN.out _ HB2.out.bel).mono ?_); rintro e w3 ⟨u, rfl, hb⟩; have HB3 := Lib.hid (HB2.out.below (below_alloc hb (.cells #[.slice A l.length c, .int .i64 (a : Int)] 67))); obtain ⟨q0, q1, -⟩ := cells_2 HB3.out.k5; obtain ⟨x0, x1, xf0, xf1⟩ := cells_2 HB3.out.k6; clear hb)))
  refine bodyPost_ret (results_ctt rfl _ _ (w.heap.size + 1 + 1) 67 #[.slice A l.length c, .int .i64 (a : Int)] (0, 0) _ rfl (HB3.out.put _ _).k6 Try.underlying67 rfl (by kernel_rfl)) rfl ?_
  exact ⟨rfl, (HB3.out.put _ _).bel⟩
end
/-- a part of a row, with its footprint -/
theorem cutF (A : Option Addr) (c : Nat) (l : List Int) (w : World) (ok : Nat → Prop) (hr : Kd.F (Kd.int .u64) w ok A l.length l) (hc : l.length ≤ c) (lo hi : Int) (h0 : 0 ≤ lo) (h1 : lo ≤ hi) (h2 : hi ≤ (l.length : Int)) (Y : List Int) (hY : Y = (l.take hi.toNat).drop lo.toNat) :
    ∃ A1 c1, (∀ W : World, (Instr.slice 24 (.slice A l.length c) (some (.int .i64 lo)) (some (.int .i64 hi)) none).run Try.prog W = .ok (.slice A1 Y.length c1) W) ∧ Kd.F (Kd.int .u64) w ok A1 Y.length Y ∧ Y.length ≤ c1 := by
  obtain ⟨i0, hi0, _, hz1, _⟩ := info_of infoU64
  have hcut := cut_mid (P := Try.prog) 24 35 .i64 .i64 Try.underlying24 hi0 1 hz1 A l.length c lo hi h0 h1 h2 hc
  have hl : Y.length = hi.toNat - lo.toNat := by rw [hY, List.length_drop, List.length_take]; omega
  have hr := Kd.F_imp (A' := if c = lo.toNat then A else A.map (·.add (lo.toNat * 1))) (n' := ((l.take hi.toNat).drop lo.toNat).length) (xs' := (l.take hi.toNat).drop lo.toNat) (d' := Kd.int .u64) hr (fun W' hC => Kd.C_mid (lo := lo.toNat) (hi := hi.toNat) (c := c) hC (by omega) (by omega) hc)
  rw [← hY] at hr
  rw [← hl] at hcut
  refine ⟨_, _, hcut, hr, ?_⟩
  rw [hl]
  omega
/-- shares whose parts lie from N on -/
abbrev FR (w4 : World) (N : Nat) (p : S26) (cs : List Value) : Prop := Kd.FK k26 w4 (fun k => N ≤ k) p cs
theorem FR.K {w4 W : World} {N : Nat} {p : S26} {cs : List Value} (h : FR w4 N p cs) (hm : ∀ k, N ≤ k → k < w4.heap.size → W.heap[k]? = w4.heap[k]?) : k26.K W p cs := Kd.FK_now (Kd.FK_step h hm)
section
variable {ops : Array Oper} {o : Oper} {a : Act} {Q : Exit → Act → World → Prop} {Kc : Act → World → Prop}
theorem or_app_stepD {R : S26 → List Value → Prop} {b : Nat} {w0 V : World} {v u1 u2 : Value} {xs : List S26} {p : S26} (h : OwnRow R 26 3 V.drew b v xs) (hp : R p [u1, u2, .slice none 0 0]) (h1 : ∀ u ∈ [u1, u2, Value.slice none 0 0], u.oneCell' = true) (hb0 : b ≤ V.heap.size) (HB : Below b w0 V.drew) (hl : xs.length < 1954687338268) (hw : Region.wanted o (yielded ops a.tmps) = true) (s xo : Operand) (ho : o.op = .call { callee := .builtin .append, args := #[s, xo], argTypes := #[30, 30] }) (hs : a.eval s = v) (hx : a.eval xo = .slice (some ⟨V.heap.size, 0, none⟩) 1 1)
    (hk : ∀ v1 w1, OwnRow R 26 3 w1 b v1 (xs ++ [p]) → Below b w0 w1 → V.drew.grownBy w1 v.ownBlock → Kc (a.put o.dst v1) w1) : if Region.wanted o (yielded ops a.tmps) = true then Oper.wp Try.prog o a ((V.alloc (.cells #[u1, u2, .slice none 0 0] 26)).drew) Kc Q else Kc (a.put o.dst undef) ((V.alloc (.cells #[u1, u2, .slice none 0 0] 26)).drew) :=
  OwnRow.append_step (W := V.drew) (w0 := w0) b hw s xo 30 26 (.agg #[(.slice none 0 0), (.slice none 0 0), (.slice none 0 0)]) 3 72 ho Try.underlying30 info26 rfl (by decide) (by decide) v xs p [u1, u2, .slice none 0 0] hs hx hp rfl h1 h HB hb0 (by omega) (fun v1 w1 ho hb hg _ => hk v1 w1 ho hb hg)
end
section
variable (kind c0 c1 c2 c3 c4 n : Int) (A : Option Addr) (c : Nat) (l : List Int) (a : Nat) (w : World)
variable (m k q : Int) (x y s N : Nat) (HRk : Reck m k q x y s N n)
  (HCk : ∀ W, Calls Try.prog 81 #[cV c0 c1 c2 c3 c4, .int .i64 kind, .int .i64 n] W fun e w' => e = .returned (.int .i64 0) ∧ Below W.heap.size W w')
  (HSd : ∀ W, Calls Try.prog 48 #[cV c0 c1 c2 c3 c4] W fun e w' => e = .returned (.tuple #[.int .i64 m, .int .i64 k, .int .i64 q]) ∧ Below W.heap.size W w')
include HRk HCk HSd
set_option maxHeartbeats 3200000 in
set_option maxRecDepth 100000 in
theorem rdrawG_ok (hn : 0 ≤ n ∧ n ≤ 24) (hs : s = x + y) (hN : n * ((x + y : Nat) : Int) = (N : Int)) (Y : List Int) (hY : Y.length = N) (hYl : Y.length ≤ 1048576) (a' : Nat) (HNm : ∀ W, Below w.heap.size w W → Calls Try.prog 82 #[rT A l.length c a, .int .i64 (N : Int), .int .i64 c1] W fun e w' => ∃ u, e = .returned (.tuple #[rT A l.length c a', u, .int .i64 0]) ∧ RU W.heap.size w' u Y ∧ Below W.heap.size W w') :
    Calls Try.prog 47 #[cV c0 c1 c2 c3 c4, .int .i64 kind, .int .i64 n, rT A l.length c a] w fun e w' => ∃ Au cu, e = .returned (.tuple #[rT A l.length c a', .slice Au (shG Y x y n.toNat).length cu, .int .i64 0]) ∧ (shG Y x y n.toNat).length ≤ cu ∧ Kd.C k26 w' Au (shG Y x y n.toNat).length (shG Y x y n.toNat) ∧ Below w.heap.size w w' := by
  have HC := Lib.hid HCk
  have HS := Lib.hid HSd
  have HN := Lib.hid HNm
  have HB0 := Lib.hid (begun w c0 c1 c2 c3 c4 A l.length c a)
  have HRK := Lib.hid HRk
  obtain ⟨n, rfl⟩ : ∃ m : Nat, n = (m : Int) := ⟨n.toNat, by omega⟩
  rw [Int.toNat_natCast]
  have HYL := Lib.hid hYl
  have HNN := Lib.hid (show n * (x + y) ≤ Y.length by rw [hY]; exact Nat.le_of_eq (by have := hN; exact_mod_cast this))
  have hn24 : n ≤ 24 := by omega
  clear HCk HSd HNm hY hN hs hYl hn HRk
  obtain ⟨hx1, hx2, hy1, hy2, hs1, hs2, hn1, hn2⟩ := HRK.out
  go_enter Try.func47, Try.ntmps47
  go_wp2_with (first
    | (go_at_call 81; (with_reducible refine (HC.out _).mono ?_); rintro e w1 ⟨rfl, hb⟩; have HB1 := Lib.hid (HB0.out.below hb); obtain ⟨k0, k1, k2, k3, k4, -⟩ := cells_5 HB1.out.k3; clear hb)
    | (go_at_call 48; (with_reducible refine (HS.out _).mono ?_); rintro e w2 ⟨rfl, hb⟩; have HB2 := Lib.hid (HB1.out.below hb); obtain ⟨p0, p1, p2, p3, p4, -⟩ := cells_5 HB2.out.k3; obtain ⟨m0, m1, -⟩ := cells_2 HB2.out.k5; clear hb)
    | (go_at_call 82; go_loud ((with_reducible refine (HN.out _ HB2.out.bel).mono ?_); rintro e w3 ⟨u, rfl, hu, hb⟩; have HU := Lib.hid hu; have HB3 := Lib.hid (HB2.out.below hb); obtain ⟨A1, cp, rfl, -, -⟩ := hu.form; clear hu hb)))
  obtain ⟨w4, hw4⟩ : ∃ w4 : World, w4 = w3.alloc (.cells #[.slice A l.length c, .int .i64 (a' : Int)] 67) := ⟨_, rfl⟩
  rw [← hw4]
  have HB4 := Lib.hid (show Begun w w4 c0 c1 c2 c3 c4 A l.length c a (.slice none 0 0) (.int .i64 0) by rw [hw4]; exact HB3.out.below (below_alloc (Below.refl _ _) _))
  have HK4 := Lib.hid (show w4.heap[w3.heap.size]? = some (.cells #[.slice A l.length c, .int .i64 (a' : Int)] 67 (0, 0)) by rw [hw4]; exact heap_alloc_new w3 _)
  have HY4 := Lib.hid (show Kd.F (Kd.int .u64) w4 (fun k => w2.heap.size ≤ k) A1 Y.length Y ∧ Y.length ≤ cp by
    refine ⟨?_, ?_⟩
    · rw [hw4]
      exact Kd.F_alloc (Kd.R_F (Kd.R_mono (Kd.R_bound HU.out) (fun k hk => hk.2.1))) _
    · obtain ⟨A', c', e, hc, hC⟩ := HU.out.form
      injection e with e1 e2 e3
      subst e3
      exact hc)
  have HZ2 := Lib.hid (blk_lt HB2.out.k6)
  clear hw4 hx1 hx2 hy1 hy2 hs1 hs2 hn1 hn2
  go_loopw [17, 18, 19] (fun v17 v18 v19 wr => ∃ i : Nat, i ≤ n ∧ v18 = .int .i64 ((i * (x + y) : Nat) : Int) ∧ v19 = .int .i64 (i : Int) ∧ Hid (OwnRow (FR w4 w2.heap.size) 26 3 wr w4.heap.size v17 (shG Y x y i)) ∧ Hid (Below w4.heap.size w4 wr)) (fun _ _ v19 _ => n - (intOf v19).toNat)
  case atStart => exact ⟨0, by omega, by rw [Nat.zero_mul]; rfl, rfl, Lib.hid (OwnRow.none_ _ _ _ _ _), Lib.hid (Below.refl _ _)⟩
  case round =>
    obtain ⟨wo, rfl⟩ : ∃ wo : World, wo = wr := ⟨_, rfl⟩
    obtain ⟨i, hi, rfl, rfl, HS, HBo⟩ := hrel
    by_cases hlt : i < n
    · have hltI : (i : Int) < (n : Int) := by omega
      have hi0 : (0 : Int) ≤ (i : Int) := by omega
      have hle : (i + 1) * (x + y) ≤ n * (x + y) := Nat.mul_le_mul_right _ hlt
      have hsu : (i + 1) * (x + y) = i * (x + y) + (x + y) := Nat.succ_mul _ _
      obtain ⟨p, hp⟩ : ∃ p : Nat, p = i * (x + y) := ⟨_, rfl⟩
      obtain ⟨r, hr⟩ : ∃ r : Nat, r = p + x := ⟨_, rfl⟩
      obtain ⟨t, ht⟩ : ∃ t : Nat, t = r + y := ⟨_, rfl⟩
      have hNN := HNN.out
      have hYl := HYL.out
      have htl : t ≤ Y.length := by omega
      have hpl : (p : Int) + (x : Int) ≤ 1048576 := by omega
      have hrl : (r : Int) + (y : Int) ≤ 1048576 := by omega
      have u1 : 0 ≤ (p : Int) := by omega
      have u2 : (p : Int) ≤ (r : Int) := by omega
      have u3 : (r : Int) ≤ (Y.length : Int) := by omega
      have u4 : 0 ≤ (r : Int) := by omega
      have u5 : (r : Int) ≤ (t : Int) := by omega
      have u6 : (t : Int) ≤ (Y.length : Int) := by omega
      have u7 : (p : Int) + (x : Int) = (r : Int) := by omega
      have u8 : (r : Int) + (y : Int) = (t : Int) := by omega
      have u9 : -9223372036854775808 ≤ (p : Int) + (x : Int) := by omega
      have v1 : -9223372036854775808 ≤ (r : Int) + (y : Int) := by omega
      have v2 : (p : Int) + (x : Int) ≤ 9223372036854775807 := by omega
      have v3 : (r : Int) + (y : Int) ≤ 9223372036854775807 := by omega
      have v4 : t = (i + 1) * (x + y) := by omega
      have v5 : (shG Y x y i).length < 1954687338268 := by rw [shG_len]; omega
      have e1 : wrap64 ((p : Int) + (x : Int)) = (r : Int) := (ew64 u9 v2).trans u7
      have e2 : IntKind.i64.wrap ((p : Int) + (x : Int)) = (r : Int) := (wrap_i64 u9 v2).trans u7
      have e3 : wrap64 ((r : Int) + (y : Int)) = (t : Int) := (ew64 v1 v3).trans u8
      have e4 : IntKind.i64.wrap ((r : Int) + (y : Int)) = (t : Int) := (wrap_i64 v1 v3).trans u8
      have hiw : IntKind.i64.wrap ((i : Int) + 1) = (i : Int) + 1 := IntWalk.i64_in _ ⟨by clear e1 e2 e3 e4; omega, by clear e1 e2 e3 e4; omega⟩
      obtain ⟨Y1, hY1⟩ : ∃ Y1, Y1 = (Y.take (r : Int).toNat).drop (p : Int).toNat := ⟨_, rfl⟩
      obtain ⟨Y2, hY2⟩ : ∃ Y2, Y2 = (Y.take (t : Int).toNat).drop (r : Int).toNat := ⟨_, rfl⟩
      obtain ⟨A2, d2, g1, g2, g3⟩ := cutF A1 cp Y w4 _ HY4.out.1 HY4.out.2 (p : Int) (r : Int) u1 u2 u3 Y1 hY1
      obtain ⟨A3, d3, f1, f2, f3⟩ := cutF A1 cp Y w4 _ HY4.out.1 HY4.out.2 (r : Int) (t : Int) u4 u5 u6 Y2 hY2
      have HSN := Lib.hid (show shG Y x y i ++ [⟨Y1, Y2, []⟩] = shG Y x y (i + 1) by
        rw [← shG_snoc]
        congr 2
        unfold shA
        rw [hY1, hY2, Int.toNat_natCast, Int.toNat_natCast, Int.toNat_natCast, ht, hr, hp])
      have HPK := Lib.hid (k26_mkF w4 (fun k => w2.heap.size ≤ k) ⟨Y1, Y2, []⟩ g3 g2 f3 f2 (A2 := none) (c2 := 0) (Nat.le_refl _) (Kd.F_nil _ _ _))
      have HON := Lib.hid (show ∀ u ∈ [Value.slice A2 Y1.length d2, Value.slice A3 Y2.length d3, Value.slice none 0 0], u.oneCell' = true by simp [Value.oneCell'])
      have HLn := Lib.hid v5
      have HT := Lib.hid v4
      rw [← hp]
      clear hY1 hY2 g2 g3 f2 f3 hp hr ht hle hsu hNN hYl htl hpl hrl u1 u2 u3 u4 u5 u6 u7 u8 u9 v1 v2 v3 v4 v5
      obtain ⟨hx1, hx2, hy1, hy2, hs1, hs2, hn1, hn2⟩ := HRK.out
      go_wp2
      go_region_law ((refine or_app_stepD (w0 := w4) (b := w4.heap.size) (V := wo) (show OwnRow (FR w4 w2.heap.size) 26 3 wo.drew w4.heap.size _ _ from HS.out) HPK.out HON.out HBo.out.size (below_drew HBo.out) HLn.out (by rfl) (.tmp 62) (.tmp 88) rfl rfl (by first | rfl | (simp; rfl) | (simp; done)) ?_; intro v5 w5 hs hb hg; rw [HSN.out] at hs; have HS5 := Lib.hid hs; have HB5 := Lib.hid hb; clear hs hb hg))
      all_goals go_wp2
      all_goals clear e1 e2 e3 e4 hiw hx1 hx2 hy1 hy2 hs1 hs2 hn1 hn2
      all_goals refine ⟨⟨i + 1, Nat.succ_le_of_lt hlt, by rw [← HT.out], by go_num, HS5, HB5⟩, ?_⟩
      all_goals (simp [intOf]; omega)
    · have hie : i = n := by omega
      subst hie
      have hnlt : ¬ (i : Int) < (i : Int) := by omega
      have HB5 := Lib.hid (HB4.out.below HBo.out)
      have HK5 := Lib.hid ((HBo.out.block _ (blk_lt HK4.out)).trans HK4.out)
      obtain ⟨r0, r1, -⟩ := cells_2 HK5.out
      obtain ⟨x0, x1, xf0, xf1⟩ := cells_2 HB5.out.k6
      obtain ⟨Au, cu, rfl, hcu⟩ := HS.out.slice_
      have HCL := Lib.hid hcu
      clear hcu
      go_wp2
      refine bodyPost_ret (results_ctt rfl _ _ (w.heap.size + 1 + 1) 67 #[.slice A l.length c, .int .i64 (a' : Int)] (0, 0) _ rfl (HB5.out.put _ _).k6 Try.underlying67 rfl (by kernel_rfl)) rfl ?_
      refine ⟨Au, cu, rfl, HCL.out, ?_, (HB5.out.put _ _).bel⟩
      have h1 := OwnRow.set_ (OwnRow.set_ HS.out HB5.out.k6 (by decide) 0 (.slice A l.length c)) (by simpa using blk_set HB5.out.k6 0 (.slice A l.length c)) (by decide) 1 (.int .i64 (a' : Int))
      obtain ⟨A', c', e', hc', hR⟩ := OwnRow.reads (h1.imp_ (R' := k26.K ((wo.setCell ⟨w.heap.size + 1 + 1, 0, none⟩ (.slice A l.length c)).setCell ⟨w.heap.size + 1 + 1, 1, none⟩ (.int .i64 (a' : Int)))) (fun p cs hp => FR.K hp (fun k hk hlt => by
        have hz := HZ2.out
        rw [Below.heap_setCell _ _ _ _ (by simp; omega), Below.heap_setCell _ _ _ _ (by simp; omega)]
        exact HBo.out.block k hlt)))
      injection e' with e1 e2 e3
      subst e1
      exact hR
end
end Go.Proofs.Ytcmaidpoolcelaa.P
namespace Go.Proofs.Ytcmaidpoolcelaa.P
open Go.RowKit Go.Proofs.YtcmaidpoolcelaaW.PrintWords Go.Proofs.YtcmaidpoolcelaaW.PrintLast Go.Proofs.YtcmaidpoolcelaaW.PrintMore
set_option linter.unusedVariables false
set_option linter.unusedSimpArgs false
attribute [local go_sem ↓] Go.wp_at_zero Go.wp_at_succ
/-- what the document's Draw answers -/
abbrev mcDrawn (w : World) (c0 c1 c2 c3 c4 : Int) (kk : Nat) (A : Option Addr) (c : Nat) (l : List Int) (E : Int) (a' : Nat) (xs : List S26) : Prop :=
  ∀ W, Below w.heap.size w W → Calls Try.prog 47 #[cV c0 c1 c2 c3 c4, .int .i64 2, .int .i64 (kk : Int), .agg #[.slice A l.length c, .int .i64 0]] W fun e w' => ∃ Au cu, e = .returned (.tuple #[rT A l.length c a', .slice Au xs.length cu, .int .i64 E]) ∧ xs.length ≤ cu ∧ Kd.C k26 w' Au xs.length xs ∧ Below W.heap.size W w'
set_option maxHeartbeats 3200000 in
set_option maxRecDepth 100000 in
theorem mccomes_no (c0 c1 c2 c3 c4 n : Int) (kk : Nat) (hn : 0 ≤ n ∧ n < 256 ∧ (kk : Int) = n % 3 + 1) (A1 : Option Addr) (d1 : Nat) (l1 : List Int) (A2 : Option Addr) (d2 : Nat) (l2 : List Int) (A3 : Option Addr) (d3 : Nat) (l3 : List Int) (w : World) (E1 E2 : Int) (a1 a2 : Nat) (xs ys : List S26)
    (H1 : mcDrawn w c0 c1 c2 c3 c4 kk A1 d1 l1 E1 a1 xs) (H2 : mcDrawn w c0 c1 c2 c3 c4 kk A2 d2 l2 E2 a2 ys) (hno : E1 ≠ 0 ∨ E2 ≠ 0 ∨ a1 ≠ a2) (HAw : ∀ W, Calls Try.prog 22 #[] W fun e w' => e = .returned (.bool true) ∧ Below W.heap.size W w') :
    Calls Try.prog 13 #[cV c0 c1 c2 c3 c4, .int .u8 n, .slice A1 l1.length d1, .slice A2 l2.length d2, .slice A3 l3.length d3] w fun e w' => e = .returned (.bool true) ∧ Below w.heap.size w w' := by
  have HD1 := Lib.hid H1
  have HD2 := Lib.hid H2
  have HA := Lib.hid HAw
  have HB0 := Lib.hid (below_alloc (Below.refl w.heap.size w) (.cells #[.int .i64 c0, .int .i64 c1, .int .i64 c2, .int .i64 c3, .int .i64 c4] 23))
  have HK0 := Lib.hid (heap_alloc_new w (.cells #[.int .i64 c0, .int .i64 c1, .int .i64 c2, .int .i64 c3, .int .i64 c4] 23))
  have hk1 : IntKind.i64.wrap (n.tmod 3) = n.tmod 3 := by rw [Int.tmod_eq_emod_of_nonneg hn.1]; exact wrap_i64 (by omega) (by omega)
  have hk2 : IntKind.i64.wrap (n.tmod 3 + 1) = (kk : Int) := by rw [Int.tmod_eq_emod_of_nonneg hn.1, wrap_i64 (by omega) (by omega)]; omega
  have hk3 : wrap64 (n.tmod 3 + 1) = (kk : Int) := by rw [Int.tmod_eq_emod_of_nonneg hn.1, ew64 (by omega) (by omega)]; omega
  have hcase : (E1 != 0) = true ∨ (E1 = 0 ∧ (E2 != 0) = true) ∨ (E1 = 0 ∧ E2 = 0 ∧ ((a1 : Int) != (a2 : Int)) = true) := by
    simp only [bne_iff_ne]
    omega
  clear H1 H2 HAw hn hno
  rcases hcase with hb1 | ⟨rfl, hb1⟩ | ⟨rfl, rfl, hb1⟩
  all_goals
    go_enter Try.func13, Try.ntmps13
    go_wp2_with (first
      | (go_at_call 47; go_loud ((with_reducible refine (HD1.out _ HB0.out).mono ?_); rintro e w1 ⟨Au1, cu1, rfl, hl1, hC1, hb⟩; have HB1 := Lib.hid (below_alloc (below_step HB0.out hb) (.cells #[.slice A1 l1.length d1, .int .i64 (a1 : Int)] 67)); have HK1 := Lib.hid (blk_alloc ((hb.block _ (blk_lt HK0.out)).trans HK0.out) (.cells #[.slice A1 l1.length d1, .int .i64 (a1 : Int)] 67)); have HT1 := Lib.hid (heap_alloc_new w1 (.cells #[.slice A1 l1.length d1, .int .i64 (a1 : Int)] 67)); obtain ⟨k0, k1, k2, k3, k4, -⟩ := cells_5 HK1.out; clear hl1 hC1 hb))
      | (go_at_call 47; go_loud ((with_reducible refine (HD2.out _ HB1.out).mono ?_); rintro e w2 ⟨Au2, cu2, rfl, hl2, hC2, hb⟩; have HB2 := Lib.hid (below_alloc (below_step HB1.out hb) (.cells #[.slice A2 l2.length d2, .int .i64 (a2 : Int)] 67)); have HT3 := Lib.hid (blk_alloc ((hb.block _ (blk_lt HT1.out)).trans HT1.out) (.cells #[.slice A2 l2.length d2, .int .i64 (a2 : Int)] 67)); have HT4 := Lib.hid (heap_alloc_new w2 (.cells #[.slice A2 l2.length d2, .int .i64 (a2 : Int)] 67)); obtain ⟨m0, m1, -⟩ := cells_2 HT3.out; obtain ⟨n0, n1, -⟩ := cells_2 HT4.out; clear hl2 hC2 hb))
      | (go_at_call 22; go_loud ((with_reducible refine (HA.out _).mono ?_); rintro e w5 ⟨rfl, hb⟩; have HB5 := Lib.hid (below_step HB2.out hb); clear hb)))
    go_ret
    exact ⟨rfl, HB5.out⟩
/-! ### contracts, as the law asks them -/
abbrev mcSpreadC (cl : Value) (xs : List S26) (s : List Int) (es : Int) : Prop := ∀ W A c, Kd.C k26 W A xs.length xs → xs.length ≤ c → Calls Try.prog 52 #[cl, .slice A xs.length c] W fun e w' => ∃ A' c', e = .returned (.tuple #[.slice A' s.length c', .int .i64 es]) ∧ s.length ≤ c' ∧ Kd.C (Kd.int .u64) w' A' s.length s ∧ Below W.heap.size W w'
abbrev mcChoicesC (cl : Value) (xs : List S26) (un : Int) (uw : List Int) (eu : Int) : Prop := ∀ W A c, Kd.C k26 W A xs.length xs → xs.length ≤ c → Calls Try.prog 51 #[cl, .slice A xs.length c] W fun e w' => ∃ A' c', e = .returned (.tuple #[.agg #[.int .i64 un, .slice A' uw.length c'], .int .i64 eu]) ∧ uw.length ≤ c' ∧ Kd.C (Kd.int .u64) w' A' uw.length uw ∧ Below W.heap.size W w'
abbrev mcBoolsC (un : Int) (uw : List Int) (bu : List Bool) : Prop := ∀ W A c, Kd.C (Kd.int .u64) W A uw.length uw → uw.length ≤ c → Calls Try.prog 45 #[.agg #[.int .i64 un, .slice A uw.length c]] W fun e w' => ∃ A' c', e = .returned (.slice A' bu.length c') ∧ bu.length ≤ c' ∧ Kd.C Kd.bool w' A' bu.length bu ∧ Below W.heap.size W w'
abbrev mcSplitC (c1 sw : Int) (s : List Int) (bv : List Bool) (l : List Int) (p q : List Int) : Prop := ∀ W A2 d2 A3 d3 A4 d4, Kd.C (Kd.int .u64) W A2 s.length s → s.length ≤ d2 → Kd.C Kd.bool W A3 bv.length bv → bv.length ≤ d3 → Kd.C (Kd.int .u64) W A4 l.length l → l.length ≤ d4 → Calls Try.prog 49 #[.int .i64 c1, .int .i64 sw, .slice A2 s.length d2, .slice A3 bv.length d3, .slice A4 l.length d4] W fun e w' => ∃ A' c' B' e', e = .returned (.tuple #[.slice A' p.length c', .slice B' q.length e']) ∧ p.length ≤ c' ∧ Kd.C (Kd.int .u64) w' A' p.length p ∧ q.length ≤ e' ∧ Kd.C (Kd.int .u64) w' B' q.length q ∧ Below W.heap.size W w'
abbrev mcFinishC (cl : Value) (xs : List S26) (p o : List Int) (g : List S26) : Prop := ∀ W A1 d1 A2 d2 A3 d3, Kd.C k26 W A1 xs.length xs → xs.length ≤ d1 → Kd.C (Kd.int .u64) W A2 p.length p → p.length ≤ d2 → Kd.C (Kd.int .u64) W A3 o.length o → o.length ≤ d3 → Calls Try.prog 46 #[cl, .slice A1 xs.length d1, .slice A2 p.length d2, .slice A3 o.length d3] W fun e w' => ∃ A' c', e = .returned (.tuple #[.slice A' g.length c', .int .i64 0]) ∧ g.length ≤ c' ∧ Kd.C k26 w' A' g.length g ∧ Below W.heap.size W w'
abbrev mcRightC (cl : Value) (x y : S26) : Prop := ∀ W A0 d0 A1 d1 A2 d2 B0 e0 B1 e1 B2 e2, k26.K W x [.slice A0 x.f0.length d0, .slice A1 x.f1.length d1, .slice A2 x.f2.length d2] → k26.K W y [.slice B0 y.f0.length e0, .slice B1 y.f1.length e1, .slice B2 y.f2.length e2] → 
  Calls Try.prog 20 #[cl, .int .i64 2, .agg #[.slice A0 x.f0.length d0, .slice A1 x.f1.length d1, .slice A2 x.f2.length d2], .agg #[.slice B0 y.f0.length e0, .slice B1 y.f1.length e1, .slice B2 y.f2.length e2]] W (fun e w' => e = .returned (.bool true) ∧ Below W.heap.size W w')
  ∧ Calls Try.prog 23 #[cl, .agg #[.slice A0 x.f0.length d0, .slice A1 x.f1.length d1, .slice A2 x.f2.length d2], .agg #[.slice B0 y.f0.length e0, .slice B1 y.f1.length e1, .slice B2 y.f2.length e2]] W (fun e w' => e = .returned (.bool true) ∧ Below W.heap.size W w')
  ∧ Calls Try.prog 50 #[cl, .agg #[.slice A0 x.f0.length d0, .slice A1 x.f1.length d1, .slice A2 x.f2.length d2]] W (fun e w' => e = .returned (.bool true) ∧ Below W.heap.size W w')
/-- a share of a row: its cells, and how it is read -/
theorem mcshare_at {w : World} {A : Option Addr} {n : Nat} {xs : List S26} (h : Kd.C k26 w A n xs) (i : Nat) (h1 : (i : Int) < n) : ∃ ad A0 d0 A1 d1 A2 d2, A = some ad ∧ w.cell? (ad.add (i * 3)) = some (.slice A0 (rd_T26 xs (i : Int)).f0.length d0) ∧ w.cell? ⟨(ad.add (i * 3)).block, (ad.add (i * 3)).off + 1, none⟩ = some (.slice A1 (rd_T26 xs (i : Int)).f1.length d1) ∧ w.cell? ⟨(ad.add (i * 3)).block, (ad.add (i * 3)).off + 2, none⟩ = some (.slice A2 (rd_T26 xs (i : Int)).f2.length d2) ∧ k26.K w (rd_T26 xs (i : Int)) [.slice A0 (rd_T26 xs (i : Int)).f0.length d0, .slice A1 (rd_T26 xs (i : Int)).f1.length d1, .slice A2 (rd_T26 xs (i : Int)).f2.length d2] := by
  obtain ⟨ad, A0, c0, A1, c1, A2, c2, e, x0, x1, x2, l0, i0, l1, i1, l2, i2⟩ := at_T26 h (i : Int) (by omega) h1
  rw [Int.toNat_natCast] at x0 x1 x2
  exact ⟨ad, A0, c0, A1, c1, A2, c2, e, x0, x1, x2, k26_mk w _ l0 i0 l1 i1 l2 i2⟩
set_option maxHeartbeats 6400000 in
set_option maxRecDepth 100000 in
theorem mccomes_yes (c0 c1 c2 c3 c4 n : Int) (kk : Nat) (hn : 0 ≤ n ∧ n < 256 ∧ (kk : Int) = n % 3 + 1) (A1 : Option Addr) (d1 : Nat) (l1 : List Int) (A2 : Option Addr) (d2 : Nat) (l2 : List Int) (A3 : Option Addr) (d3 : Nat) (l3 : List Int) (w : World) (a' : Nat) (xs ys : List S26)
    (H1 : mcDrawn w c0 c1 c2 c3 c4 kk A1 d1 l1 0 a' xs) (H2 : mcDrawn w c0 c1 c2 c3 c4 kk A2 d2 l2 0 a' ys) (HAw : ∀ W, Calls Try.prog 22 #[] W fun e w' => e = .returned (.bool true) ∧ Below W.heap.size W w')
    (hr3 : Kd.C (Kd.int .u64) w A3 l3.length l3) (hc3 : l3.length ≤ d3)
    (sm sq sw : Int) (HSd : ∀ W, Calls Try.prog 48 #[cV c0 c1 c2 c3 c4] W fun e w' => e = .returned (.tuple #[.int .i64 sm, .int .i64 sq, .int .i64 sw]) ∧ Below W.heap.size W w')
    (s t : List Int) (es et : Int) (Hs : mcSpreadC (cV c0 c1 c2 c3 c4) xs s es) (Ht : mcSpreadC (cV c0 c1 c2 c3 c4) ys t et)
    (un vn : Int) (uw vw : List Int) (eu ev : Int) (Hu : mcChoicesC (cV c0 c1 c2 c3 c4) xs un uw eu) (Hv : mcChoicesC (cV c0 c1 c2 c3 c4) ys vn vw ev)
    (bu bv : List Bool) (Hbu : mcBoolsC un uw bu) (Hbv : mcBoolsC vn vw bv)
    (p q m o : List Int) (Hp : mcSplitC c1 sw s bv l3 p q) (Hm : mcSplitC c1 sw t bu l3 m o)
    (g h : List S26) (Hg : mcFinishC (cV c0 c1 c2 c3 c4) xs p o g) (Hh : mcFinishC (cV c0 c1 c2 c3 c4) ys m q h) (lg : g.length = kk) (lh : h.length = kk)
    (Hz : ∀ z : Nat, z < kk → mcRightC (cV c0 c1 c2 c3 c4) (rd_T26 g (z : Int)) (rd_T26 h (z : Int))) :
    Calls Try.prog 13 #[cV c0 c1 c2 c3 c4, .int .u8 n, .slice A1 l1.length d1, .slice A2 l2.length d2, .slice A3 l3.length d3] w fun e w' => e = .returned (.bool true) ∧ Below w.heap.size w w' := by
  have HD1 := Lib.hid H1
  have HD2 := Lib.hid H2
  have HA := Lib.hid HAw
  have HL3 := Lib.hid hr3
  have HC3 := Lib.hid hc3
  have HSD := Lib.hid HSd
  have HSP1 := Lib.hid Hs
  have HSP2 := Lib.hid Ht
  have HCH1 := Lib.hid Hu
  have HCH2 := Lib.hid Hv
  have HBO1 := Lib.hid Hbu
  have HBO2 := Lib.hid Hbv
  have HST1 := Lib.hid Hp
  have HST2 := Lib.hid Hm
  have HFI1 := Lib.hid Hg
  have HFI2 := Lib.hid Hh
  have HZ := Lib.hid Hz
  have HLG := Lib.hid lg
  have HLH := Lib.hid lh
  have HB0 := Lib.hid (below_alloc (Below.refl w.heap.size w) (.cells #[.int .i64 c0, .int .i64 c1, .int .i64 c2, .int .i64 c3, .int .i64 c4] 23))
  have HK0 := Lib.hid (heap_alloc_new w (.cells #[.int .i64 c0, .int .i64 c1, .int .i64 c2, .int .i64 c3, .int .i64 c4] 23))
  have hk1 : IntKind.i64.wrap (n.tmod 3) = n.tmod 3 := by rw [Int.tmod_eq_emod_of_nonneg hn.1]; exact wrap_i64 (by omega) (by omega)
  have hk2 : IntKind.i64.wrap (n.tmod 3 + 1) = (kk : Int) := by rw [Int.tmod_eq_emod_of_nonneg hn.1, wrap_i64 (by omega) (by omega)]; omega
  have hk3 : wrap64 (n.tmod 3 + 1) = (kk : Int) := by rw [Int.tmod_eq_emod_of_nonneg hn.1, ew64 (by omega) (by omega)]; omega
  have hkk : kk ≤ 3 := by omega
  have HKK := Lib.hid hkk
  have hlg : ((g.length : Int) != (kk : Int)) = false := by rw [lg]; simp
  have hlh : ((h.length : Int) != (kk : Int)) = false := by rw [lh]; simp
  clear H1 H2 HAw hn hr3 hc3 HSd Hs Ht Hu Hv Hbu Hbv Hp Hm Hg Hh Hz lg lh hkk
  go_enter Try.func13, Try.ntmps13
  go_wp2_with (first
    | (go_at_call 47; ((with_reducible refine (HD1.out _ HB0.out).mono ?_); rintro e w1 ⟨Au1, cu1, rfl, hl1, hC1, hb⟩; have HX1 := Lib.hid (Kd.C_alloc hC1 (.cells #[.slice A1 l1.length d1, .int .i64 (a' : Int)] 67)); have HXL := Lib.hid hl1; have HB1 := Lib.hid (below_alloc (below_step HB0.out hb) (.cells #[.slice A1 l1.length d1, .int .i64 (a' : Int)] 67)); have HK1 := Lib.hid (blk_alloc ((hb.block _ (blk_lt HK0.out)).trans HK0.out) (.cells #[.slice A1 l1.length d1, .int .i64 (a' : Int)] 67)); have HT1 := Lib.hid (heap_alloc_new w1 (.cells #[.slice A1 l1.length d1, .int .i64 (a' : Int)] 67)); obtain ⟨k0, k1, k2, k3, k4, -⟩ := cells_5 HK1.out; clear hl1 hC1 hb))
    | (go_at_call 47; ((with_reducible refine (HD2.out _ HB1.out).mono ?_); rintro e w2 ⟨Au2, cu2, rfl, hl2, hC2, hb⟩; have HY2 := Lib.hid (Kd.C_alloc hC2 (.cells #[.slice A2 l2.length d2, .int .i64 (a' : Int)] 67)); have HYL := Lib.hid hl2; have HX2 := Lib.hid (Kd.C_alloc (Kd.C_below HX1.out hb) (.cells #[.slice A2 l2.length d2, .int .i64 (a' : Int)] 67)); have HB2 := Lib.hid (below_alloc (below_step HB1.out hb) (.cells #[.slice A2 l2.length d2, .int .i64 (a' : Int)] 67)); have HK2 := Lib.hid (blk_alloc ((hb.block _ (blk_lt HK1.out)).trans HK1.out) (.cells #[.slice A2 l2.length d2, .int .i64 (a' : Int)] 67)); have HT3 := Lib.hid (blk_alloc ((hb.block _ (blk_lt HT1.out)).trans HT1.out) (.cells #[.slice A2 l2.length d2, .int .i64 (a' : Int)] 67)); have HT4 := Lib.hid (heap_alloc_new w2 (.cells #[.slice A2 l2.length d2, .int .i64 (a' : Int)] 67)); obtain ⟨m0, m1, -⟩ := cells_2 HT3.out; obtain ⟨n0, n1, -⟩ := cells_2 HT4.out; obtain ⟨k0, k1, k2, k3, k4, -⟩ := cells_5 HK2.out; clear hl2 hC2 hb))
    | (go_at_call 48; go_loud ((with_reducible refine (HSD.out _).mono ?_); rintro e w3 ⟨rfl, hb⟩; have HB3 := Lib.hid (below_step HB2.out hb); have HK3 := Lib.hid (blk_below HK2.out hb); have HX3 := Lib.hid (Kd.C_below HX2.out hb); have HY3 := Lib.hid (Kd.C_below HY2.out hb); obtain ⟨k0, k1, k2, k3, k4, -⟩ := cells_5 HK3.out; clear hb))
    | (go_at_call 52; ((with_reducible refine (HSP1.out _ _ _ HX3.out HXL.out).mono ?_); rintro e w4 ⟨As, cs, rfl, hl, hC, hb⟩; have HS4 := Lib.hid hC; have HSL := Lib.hid hl; have HB4 := Lib.hid (below_step HB3.out hb); have HK4 := Lib.hid (blk_below HK3.out hb); have HX4 := Lib.hid (Kd.C_below HX3.out hb); have HY4 := Lib.hid (Kd.C_below HY3.out hb); obtain ⟨k0, k1, k2, k3, k4, -⟩ := cells_5 HK4.out; clear hb hl hC))
    | (go_at_call 52; go_loud ((with_reducible refine (HSP2.out _ _ _ HY4.out HYL.out).mono ?_); rintro e w5 ⟨At, ct, rfl, hl, hC, hb⟩; have HT5 := Lib.hid hC; have HTL := Lib.hid hl; have HB5 := Lib.hid (below_step HB4.out hb); have HK5 := Lib.hid (blk_below HK4.out hb); have HS5 := Lib.hid (Kd.C_below HS4.out hb); have HX5 := Lib.hid (Kd.C_below HX4.out hb); have HY5 := Lib.hid (Kd.C_below HY4.out hb); obtain ⟨k0, k1, k2, k3, k4, -⟩ := cells_5 HK5.out; clear hb hl hC))
    | (go_at_call 51; ((with_reducible refine (HCH1.out _ _ _ HX5.out HXL.out).mono ?_); rintro e w6 ⟨Auw, cuw, rfl, hl, hC, hb⟩; have HU6 := Lib.hid (Kd.C_alloc hC (.cells #[.int .i64 un, .slice Auw uw.length cuw] 43)); have HUL := Lib.hid hl; have HB6 := Lib.hid (below_alloc (below_step HB5.out hb) (.cells #[.int .i64 un, .slice Auw uw.length cuw] 43)); have HK6 := Lib.hid (blk_alloc (blk_below HK5.out hb) (.cells #[.int .i64 un, .slice Auw uw.length cuw] 43)); have HS6 := Lib.hid (Kd.C_alloc (Kd.C_below HS5.out hb) (.cells #[.int .i64 un, .slice Auw uw.length cuw] 43)); have HT6 := Lib.hid (Kd.C_alloc (Kd.C_below HT5.out hb) (.cells #[.int .i64 un, .slice Auw uw.length cuw] 43)); have HX6 := Lib.hid (Kd.C_alloc (Kd.C_below HX5.out hb) (.cells #[.int .i64 un, .slice Auw uw.length cuw] 43)); have HY6 := Lib.hid (Kd.C_alloc (Kd.C_below HY5.out hb) (.cells #[.int .i64 un, .slice Auw uw.length cuw] 43)); have HV6 := Lib.hid (heap_alloc_new w6 (.cells #[.int .i64 un, .slice Auw uw.length cuw] 43)); obtain ⟨k0, k1, k2, k3, k4, -⟩ := cells_5 HK6.out; clear hb hl hC))
    | (go_at_call 51; go_loud ((with_reducible refine (HCH2.out _ _ _ HY6.out HYL.out).mono ?_); rintro e w7 ⟨Avw, cvw, rfl, hl, hC, hb⟩; have HBW := Lib.hid hb; have HVC := Lib.hid hC; have HVL := Lib.hid hl; clear hb hl hC)))
  obtain ⟨wa, hwa⟩ : ∃ W : World, W = w7.alloc (.cells #[.int .i64 vn, .slice Avw vw.length cvw] 43) := ⟨_, rfl⟩
  have HBA : Hid (Below w.heap.size w wa) := Lib.hid (by rw [hwa]; exact below_alloc (below_step HB6.out HBW.out) _)
  have KA : Hid (wa.heap[w.heap.size]? = some (.cells #[.int .i64 c0, .int .i64 c1, .int .i64 c2, .int .i64 c3, .int .i64 c4] 23 (0, 0))) := Lib.hid (by rw [hwa]; exact blk_alloc (blk_below HK6.out HBW.out) _)
  have VA : Hid (wa.heap[w6.heap.size]? = some (.cells #[.int .i64 un, .slice Auw uw.length cuw] 43 (0, 0))) := Lib.hid (by rw [hwa]; exact blk_alloc (blk_below HV6.out HBW.out) _)
  have VB : Hid (wa.heap[w7.heap.size]? = some (.cells #[.int .i64 vn, .slice Avw vw.length cvw] 43 (0, 0))) := Lib.hid (by rw [hwa]; exact heap_alloc_new w7 _)
  have SA : Hid (Kd.C (Kd.int .u64) wa As s.length s) := Lib.hid (by rw [hwa]; exact Kd.C_alloc (Kd.C_below HS6.out HBW.out) _)
  have TA : Hid (Kd.C (Kd.int .u64) wa At t.length t) := Lib.hid (by rw [hwa]; exact Kd.C_alloc (Kd.C_below HT6.out HBW.out) _)
  have UA : Hid (Kd.C (Kd.int .u64) wa Auw uw.length uw) := Lib.hid (by rw [hwa]; exact Kd.C_alloc (Kd.C_below HU6.out HBW.out) _)
  have WA : Hid (Kd.C (Kd.int .u64) wa Avw vw.length vw) := Lib.hid (by rw [hwa]; exact Kd.C_alloc HVC.out _)
  have XA : Hid (Kd.C k26 wa Au1 xs.length xs) := Lib.hid (by rw [hwa]; exact Kd.C_alloc (Kd.C_below HX6.out HBW.out) _)
  have YA : Hid (Kd.C k26 wa Au2 ys.length ys) := Lib.hid (by rw [hwa]; exact Kd.C_alloc (Kd.C_below HY6.out HBW.out) _)
  have LA := Lib.hid (Kd.C_below HL3.out HBA.out)
  rw [← hwa]
  clear hwa k0 k1 k2 k3 k4 m0 m1 n0 n1
  obtain ⟨k0, k1, k2, k3, k4, -⟩ := cells_5 KA.out
  obtain ⟨u0, u1, -⟩ := cells_2 VA.out
  obtain ⟨v0, v1, -⟩ := cells_2 VB.out
  have HR0 := Lib.hid (below_drew (Below.refl wa.heap.size wa))
  go_region_held3 (fun W => W.cell? ⟨w.heap.size, 1, none⟩ = some (.int .i64 c1) ∧ W.cell? ⟨w7.heap.size, 0, none⟩ = some (.int .i64 vn) ∧ W.cell? ⟨w7.heap.size, 1, none⟩ = some (.slice Avw vw.length cvw)) (go_keep)
    ((first
      | (go_at_call 45; ((with_reducible refine (HBO2.out _ _ _ (Kd.C_below WA.out HR0.out) HVL.out).mono ?_); rintro e w8 ⟨Ab, cb, rfl, hl, hC, hb⟩; have HR1 := Lib.hid (below_step HR0.out hb); have HBC := Lib.hid hC; have HBL := Lib.hid hl; obtain ⟨p0, p1, p2, p3, p4, -⟩ := cells_5 (blk_below KA.out HR1.out); obtain ⟨p5, p6, -⟩ := cells_2 (blk_below VB.out HR1.out); clear hb hl hC))
      | (go_at_call 49; ((with_reducible refine (HST1.out _ _ _ _ _ _ _ (Kd.C_below SA.out HR1.out) HSL.out HBC.out HBL.out (Kd.C_below LA.out HR1.out) HC3.out).mono ?_); rintro e w9 ⟨Ap, cp, Aq, cq, rfl, hl, hC, hl', hC', hb⟩; have HR2 := Lib.hid (below_step HR1.out hb); have HPC := Lib.hid hC; have HPL := Lib.hid hl; have HQC := Lib.hid hC'; have HQL := Lib.hid hl'; obtain ⟨q0, q1, q2, q3, q4, -⟩ := cells_5 (blk_below KA.out HR2.out); obtain ⟨q5, q6, -⟩ := cells_2 (blk_below VB.out HR2.out); clear hb hl hC hl' hC'))))
  go_wp2_with (fail)
  obtain ⟨u5, u6, -⟩ := cells_2 (blk_below VA.out HR2.out)
  have HR3 := Lib.hid (below_drew HR2.out)
  go_region_held3 (fun W => W.cell? ⟨w.heap.size, 1, none⟩ = some (.int .i64 c1) ∧ W.cell? ⟨w6.heap.size, 0, none⟩ = some (.int .i64 un) ∧ W.cell? ⟨w6.heap.size, 1, none⟩ = some (.slice Auw uw.length cuw)) (go_keep)
    ((first
      | (go_at_call 45; ((with_reducible refine (HBO1.out _ _ _ (Kd.C_below UA.out HR3.out) HUL.out).mono ?_); rintro e w10 ⟨Ab2, cb2, rfl, hl, hC, hb⟩; have HR4 := Lib.hid (below_step HR3.out hb); have HP4 := Lib.hid (Kd.C_below (Kd.C_drew HPC.out) hb); have HQ4 := Lib.hid (Kd.C_below (Kd.C_drew HQC.out) hb); have HBC2 := Lib.hid hC; have HBL2 := Lib.hid hl; obtain ⟨r0, r1, r2, r3, r4, -⟩ := cells_5 (blk_below KA.out HR4.out); obtain ⟨r5, r6, -⟩ := cells_2 (blk_below VA.out HR4.out); clear hb hl hC))
      | (go_at_call 49; ((with_reducible refine (HST2.out _ _ _ _ _ _ _ (Kd.C_below TA.out HR4.out) HTL.out HBC2.out HBL2.out (Kd.C_below LA.out HR4.out) HC3.out).mono ?_); rintro e w11 ⟨Am, cm, Ao, co, rfl, hl, hC, hl', hC', hb⟩; have HR5 := Lib.hid (below_step HR4.out hb); have HP5 := Lib.hid (Kd.C_below HP4.out hb); have HQ5 := Lib.hid (Kd.C_below HQ4.out hb); have HMC := Lib.hid hC; have HML := Lib.hid hl; have HOC := Lib.hid hC'; have HOL := Lib.hid hl'; obtain ⟨s0, s1, s2, s3, s4, -⟩ := cells_5 (blk_below KA.out HR5.out); obtain ⟨s5, s6, -⟩ := cells_2 (blk_below VA.out HR5.out); clear hb hl hC hl' hC'))))
  go_wp2_with (first
    | (go_at_call 46; ((with_reducible refine (HFI1.out _ _ _ _ _ _ _ (Kd.C_below XA.out HR5.out) HXL.out HP5.out HPL.out HOC.out HOL.out).mono ?_); rintro e w12 ⟨Ag, cg, rfl, hl, hC, hb⟩; have HR6 := Lib.hid (below_step HR5.out hb); have HQ6 := Lib.hid (Kd.C_below HQ5.out hb); have HM6 := Lib.hid (Kd.C_below HMC.out hb); have HG6 := Lib.hid hC; obtain ⟨t0, t1, t2, t3, t4, -⟩ := cells_5 (blk_below KA.out HR6.out); clear hb hl hC))
    | (go_at_call 46; go_loud ((with_reducible refine (HFI2.out _ _ _ _ _ _ _ (Kd.C_below YA.out HR6.out) HYL.out HM6.out HML.out HQ6.out HQL.out).mono ?_); rintro e w13 ⟨Ah, ch, rfl, hl, hC, hb⟩; have HR7 := Lib.hid (below_step HR6.out hb); have HG7 := Lib.hid (Kd.C_below HG6.out hb); have HH7 := Lib.hid hC; have HK7 := Lib.hid (blk_below KA.out HR7.out); clear hb hl hC)))
  clear hlg hlh hk1 hk2 hk3
  have HW7 := Lib.hid (below_step HBA.out HR7.out)
  go_loopw [37] (fun v37 wr => ∃ i : Nat, i ≤ kk ∧ v37 = .int .i64 (i : Int) ∧ Hid (Below w13.heap.size w13 wr)) (fun v37 _ => kk - (intOf v37).toNat)
  case atStart => exact ⟨0, by omega, rfl, Lib.hid (Below.refl _ _)⟩
  case round =>
    obtain ⟨wo, rfl⟩ : ∃ wo : World, wo = wr := ⟨_, rfl⟩
    obtain ⟨i, hi, rfl, HBR⟩ := hrel
    by_cases hlt : i < kk
    · have hkk := HKK.out
      have hltI : (i : Int) < (kk : Int) := by omega
      have hi0 : (0 : Int) ≤ (i : Int) := by omega
      have hiw : IntKind.i64.wrap ((i : Int) + 1) = (i : Int) + 1 := IntWalk.i64_in _ ⟨by omega, by omega⟩
      have hig : (i : Int) < (g.length : Int) := by rw [HLG.out]; exact hltI
      have hih : (i : Int) < (h.length : Int) := by rw [HLH.out]; exact hltI
      obtain ⟨ad, G0, e0, G1, e1, G2, e2, rfl, x0, x1, x2, gK⟩ := mcshare_at (Kd.C_below HG7.out HBR.out) i hig
      obtain ⟨ae, I0, f0, I1, f1, I2, f2, rfl, y0, y1, y2, hK⟩ := mcshare_at (Kd.C_below HH7.out HBR.out) i hih
      have HGK := Lib.hid gK
      have HHK := Lib.hid hK
      have HKO := Lib.hid (blk_below HK7.out HBR.out)
      obtain ⟨k0, k1, k2, k3, k4, -⟩ := cells_5 HKO.out
      have HRI := Lib.hid (HZ.out i hlt)
      have HS0 := Lib.hid (below_drew (Below.refl wo.heap.size wo))
      clear hi0 hkk gK hK
      obtain ⟨va, hva⟩ : ∃ va, va = Value.slice G0 (rd_T26 g (i : Int)).f0.length e0 := ⟨_, rfl⟩
      go_wp2_with (fail)
      go_region_held3 (fun W => (W.cell? ⟨w.heap.size, 0, none⟩ = some (.int .i64 c0) ∧ W.cell? ⟨w.heap.size, 1, none⟩ = some (.int .i64 c1) ∧ W.cell? ⟨w.heap.size, 2, none⟩ = some (.int .i64 c2) ∧ W.cell? ⟨w.heap.size, 3, none⟩ = some (.int .i64 c3) ∧ W.cell? ⟨w.heap.size, 4, none⟩ = some (.int .i64 c4)) ∧ (W.cell? (ad.add (i * 3)) = some (.slice G0 (rd_T26 g (i : Int)).f0.length e0) ∧ W.cell? ⟨(ad.add (i * 3)).block, (ad.add (i * 3)).off + 1, none⟩ = some (.slice G1 (rd_T26 g (i : Int)).f1.length e1) ∧ W.cell? ⟨(ad.add (i * 3)).block, (ad.add (i * 3)).off + 2, none⟩ = some (.slice G2 (rd_T26 g (i : Int)).f2.length e2)) ∧ W.cell? (ae.add (i * 3)) = some (.slice I0 (rd_T26 h (i : Int)).f0.length f0) ∧ W.cell? ⟨(ae.add (i * 3)).block, (ae.add (i * 3)).off + 1, none⟩ = some (.slice I1 (rd_T26 h (i : Int)).f1.length f1) ∧ W.cell? ⟨(ae.add (i * 3)).block, (ae.add (i * 3)).off + 2, none⟩ = some (.slice I2 (rd_T26 h (i : Int)).f2.length f2)) (go_keep)
        ((first
          | (go_at_call 20; ((with_reducible refine (HRI.out _ _ _ _ _ _ _ _ _ _ _ _ _ (Kd.K_below _ HS0.out HGK.out) (Kd.K_below _ HS0.out HHK.out)).1.mono ?_); rintro e w14 ⟨rfl, hb⟩; have HS1 := Lib.hid (below_step HS0.out hb); obtain ⟨z0, z1, z2, z3, z4, -⟩ := cells_5 (blk_below HKO.out HS1.out); have a0 := pw_cell_below HS1.out x0; have a1 := pw_cell_below HS1.out x1; have a2 := pw_cell_below HS1.out x2; have b0 := pw_cell_below HS1.out y0; have b1 := pw_cell_below HS1.out y1; have b2 := pw_cell_below HS1.out y2; clear hb))
          | (go_at_call 23; ((with_reducible refine (HRI.out _ _ _ _ _ _ _ _ _ _ _ _ _ (Kd.K_below _ HS1.out HGK.out) (Kd.K_below _ HS1.out HHK.out)).2.1.mono ?_); rintro e w15 ⟨rfl, hb⟩; have HS2 := Lib.hid (below_step HS1.out hb); obtain ⟨z5, z6, z7, z8, z9, -⟩ := cells_5 (blk_below HKO.out HS2.out); have a3 := pw_cell_below HS2.out x0; have a4 := pw_cell_below HS2.out x1; have a5 := pw_cell_below HS2.out x2; have b3 := pw_cell_below HS2.out y0; have b4 := pw_cell_below HS2.out y1; have b5 := pw_cell_below HS2.out y2; clear hb))
          | (go_at_call 50; ((with_reducible refine (HRI.out _ _ _ _ _ _ _ _ _ _ _ _ _ (Kd.K_below _ HS2.out HGK.out) (Kd.K_below _ HS2.out HHK.out)).2.2.mono ?_); rintro e w16 ⟨rfl, hb⟩; have HS3 := Lib.hid (below_step HS2.out hb); obtain ⟨j0, j1, j2, j3, j4, -⟩ := cells_5 (blk_below HKO.out HS3.out); have a6 := pw_cell_below HS3.out x0; have a7 := pw_cell_below HS3.out x1; have a8 := pw_cell_below HS3.out x2; have b6 := pw_cell_below HS3.out y0; have b7 := pw_cell_below HS3.out y1; have b8 := pw_cell_below HS3.out y2; clear hb))))
      go_wp2
      refine ⟨⟨i + 1, Nat.succ_le_of_lt hlt, by go_num, Lib.hid (below_step HBR.out HS3.out)⟩, ?_⟩
      clear hiw
      simp [intOf]
      omega
    · have hie : i = kk := by omega
      subst hie
      have hnlt : ¬ (i : Int) < (i : Int) := by omega
      have HWR := Lib.hid (below_step HW7.out HBR.out)
      go_wp2_with (go_at_call 22; ((with_reducible refine (HA.out _).mono ?_); rintro e w17 ⟨rfl, hb⟩; have HB17 := Lib.hid (below_step HWR.out hb); clear hb))
      go_ret
      exact ⟨rfl, HB17.out⟩
end Go.Proofs.Ytcmaidpoolcelaa.P
namespace Go.Proofs.Ytcmaidpoolcelaa.Lem
open Go.RowKit Go.Proofs.Ytcmaidpoolcelaa.P Go.Proofs.Ytcmaidpoolcelaa.Num Go.Proofs.YtcmaidpoolcelaaW.PrintWords Go.Proofs.YtcmaidpoolcelaaW.PrintMore
set_option linter.unusedVariables false
set_option linter.unusedSectionVars false
theorem okFold_of {l c G : Nat} {xs : List Int} (hl : xs.length = G * (l * c)) (hlo : lows l xs = true) : okFold l c xs = true := by
  unfold okFold
  rw [hlo, hl, Nat.mul_mod_left]
  rfl
theorem spP_low (l : Nat) (noise : List Int) (M : Nat) : lows l (spP l noise M) = true := low_of_lt l _ M (minS_lt l noise)
theorem spQ_low (l n : Nat) (s : List Int) (bs : List Bool) (noise : List Int) (M : Nat) : lows l (spQ l n s bs noise M) = true := low_of_lt l _ M (fun k => subN_lt' l _ _)
theorem spP_u64 (l : Nat) (hl : l ≤ 64) (noise : List Int) (M : Nat) : U64s (spP l noise M) := u64_of_lt _ M (fun k => Nat.lt_of_lt_of_le (minS_lt l noise k) (pow_le_64 hl))
theorem spQ_u64 (l n : Nat) (hl : l ≤ 64) (s : List Int) (bs : List Bool) (noise : List Int) (M : Nat) : U64s (spQ l n s bs noise M) := u64_of_lt _ M (fun k => Nat.lt_of_lt_of_le (subN_lt' l _ _) (pow_le_64 hl))
theorem finP_rd (l r q c : Nat) (xs : List S26) (X Y : List Int) (m z : Nat) (hz : z < m) : rd_T26 (finP l r q c xs X Y m) (z : Int) = shP l r q c xs X Y z := by
  rw [sh_at _ z (by rw [finP_len]; exact hz)]
  simp [finP]
theorem finR_ok {l r q c : Nat} (h0 : 1 ≤ l) (hc0 : 1 ≤ c) {xs : List S26} {sent got : List Int} (ls : sent.length = xs.length * (r * q) * (l * c)) (lg : got.length = xs.length * (r * q) * (l * c)) (hs : lows l sent = true) (hg : lows l got = true) :
    finR 0 l r q c xs sent got = (finP l r q c xs (foldF l sent c (xs.length * (r * q))) (foldF l got c (xs.length * (r * q))) xs.length, 0) := by
  have hpos : 0 < l * c := Nat.mul_pos h0 hc0
  have e : xs.length * (r * q) * c = r * q * c * xs.length := by
    rw [Nat.mul_comm xs.length, Nat.mul_assoc, Nat.mul_comm xs.length, ← Nat.mul_assoc]
  unfold finR
  rw [if_pos rfl, if_pos (okFold_of ls hs), if_pos (okFold_of lg hg), ls, lg, Nat.mul_div_cancel _ hpos, if_pos]
  rw [foldF_len, foldF_len]
  exact ⟨e, e⟩
/-- a share that was drawn, or finished, fits -/
theorem fits_of {c0 c2 c3 c4 : Int} {l r q c : Nat} (hk : chk c0 (l : Int) c2 c3 c4 = 0) (h4 : c0 ≠ 4) (z0 : sz0 c0 c2 c3 = ((r * q : Nat) : Int)) (z1 : sz1 c0 c3 c4 = ((q * c : Nat) : Int)) (z2 : sz2 c0 c2 c4 = ((r * c : Nat) : Int)) {a b d : List Int}
    (la : a.length = r * q) (lb : b.length = q * c) (ld : d.length = r * c) (oa : lows l a = true) (ob : lows l b = true) (od : lows l d = true) : fitsOf c0 (l : Int) c2 c3 c4 a b d = true := by
  unfold fitsOf fit wd0
  rw [if_neg h4, Int.toNat_natCast, z0, z1, z2, la, lb, ld, oa, ob, od, hk]
  simp
section
variable {l r q c : Nat} (h0 : 1 ≤ l) (hl : l ≤ 64) (hr0 : 1 ≤ r) (hr : r ≤ 6) (hq0 : 1 ≤ q) (hq : q ≤ 6) (hc0 : 1 ≤ c) (hc : c ≤ 6) {xs ys : List S26} (hx : Few xs) (hy : Few ys) (hox : xs.all (okSh l r q c) = true) (hoy : ys.all (okSh l r q c) = true) (hlen : ys.length = xs.length) (noise : List Int)
  {c0 c2 c3 c4 : Int} (hk : chk c0 (l : Int) c2 c3 c4 = 0) (h4 : c0 ≠ 4) (z0 : sz0 c0 c2 c3 = ((r * q : Nat) : Int)) (z1 : sz1 c0 c3 c4 = ((q * c : Nat) : Int)) (z2 : sz2 c0 c2 c4 = ((r * c : Nat) : Int)) (hs : trefoilref22_Sides.f c0 (l : Int) c2 c3 c4 = some ((r : Int), (q : Int), (c : Int)))
include h0 hl hr0 hr hq0 hq hc0 hc hx hy hox hoy hlen hk h4 z0 z1 z2 hs
/-- of each place: the document says it is right, and that it fits -/
theorem cm_right (k : Nat) (hkk : 20000 ≤ k) (z : Nat) (hz : z < xs.length) (g h : List S26) (hg : g = finP l r q c xs (cmX l r q c xs noise) (cmY l r q c ys xs noise) xs.length) (hh : h = finP l r q c ys (cmX l r q c ys noise) (cmY l r q c xs ys noise) ys.length) :
    (U64s (rd_T26 g (z : Int)).f0 ∧ U64s (rd_T26 g (z : Int)).f1 ∧ U64s (rd_T26 g (z : Int)).f2 ∧ (rd_T26 g (z : Int)).f0.length ≤ 60 ∧ (rd_T26 g (z : Int)).f1.length ≤ 60 ∧ (rd_T26 g (z : Int)).f2.length ≤ 60)
    ∧ (U64s (rd_T26 h (z : Int)).f0 ∧ U64s (rd_T26 h (z : Int)).f1 ∧ U64s (rd_T26 h (z : Int)).f2 ∧ (rd_T26 h (z : Int)).f0.length ≤ 60 ∧ (rd_T26 h (z : Int)).f1.length ≤ 60 ∧ (rd_T26 h (z : Int)).f2.length ≤ 60)
    ∧ trefoilref22_Right.f (k + 1) c0 (l : Int) c2 c3 c4 c0 (rd_T26 g (z : Int)).f0 (rd_T26 g (z : Int)).f1 (rd_T26 g (z : Int)).f2 (rd_T26 h (z : Int)).f0 (rd_T26 h (z : Int)).f1 (rd_T26 h (z : Int)).f2 = some true
    ∧ trefoilref09_Fits.f (k + 1) c0 (l : Int) c2 c3 c4 (rd_T26 g (z : Int)).f0 (rd_T26 g (z : Int)).f1 (rd_T26 g (z : Int)).f2 = some true := by
  have hzy : z < ys.length := by omega
  have t := triple_z h0 hl hr0 hr hq0 hq hc0 hc hx hy hox hoy hlen noise z hz
  have hsx := sh_mem xs z hz
  have hsy := sh_mem ys z hzy
  obtain ⟨a1, a2, a3, a4⟩ := okSh_iff (List.all_eq_true.1 hox _ hsx)
  obtain ⟨b1, b2, b3, b4⟩ := okSh_iff (List.all_eq_true.1 hoy _ hsy)
  obtain ⟨ux, vx, -⟩ := hx.2 _ hsx
  obtain ⟨uy, vy, -⟩ := hy.2 _ hsy
  rw [hg, hh, finP_rd _ _ _ _ _ _ _ _ _ hz, finP_rd _ _ _ _ _ _ _ _ _ hzy]
  unfold shP
  simp only
  have g3 := rowP_len l q c (rd_T26 xs (z : Int)).f0 (rd_T26 xs (z : Int)).f1 (cmX l r q c xs noise) (cmY l r q c ys xs noise) (z * r * q * c) (r * c)
  have g4 := rowP_low l q c (rd_T26 xs (z : Int)).f0 (rd_T26 xs (z : Int)).f1 (cmX l r q c xs noise) (cmY l r q c ys xs noise) (z * r * q * c) (r * c)
  have g5 := rowP_u64 l q c hl (rd_T26 xs (z : Int)).f0 (rd_T26 xs (z : Int)).f1 (cmX l r q c xs noise) (cmY l r q c ys xs noise) (z * r * q * c) (r * c)
  have i3 := rowP_len l q c (rd_T26 ys (z : Int)).f0 (rd_T26 ys (z : Int)).f1 (cmX l r q c ys noise) (cmY l r q c xs ys noise) (z * r * q * c) (r * c)
  have i4 := rowP_low l q c (rd_T26 ys (z : Int)).f0 (rd_T26 ys (z : Int)).f1 (cmX l r q c ys noise) (cmY l r q c xs ys noise) (z * r * q * c) (r * c)
  have i5 := rowP_u64 l q c hl (rd_T26 ys (z : Int)).f0 (rd_T26 ys (z : Int)).f1 (cmX l r q c ys noise) (cmY l r q c xs ys noise) (z * r * q * c) (r * c)
  have m1 : r * q ≤ 36 := sixes (Nat.le_refl r) hr hq
  have m2 : q * c ≤ 36 := sixes (Nat.le_refl q) hq hc
  have m3 : r * c ≤ 36 := sixes (Nat.le_refl r) hr hc
  generalize (rd_T26 xs (z : Int)).f0 = A at *
  generalize (rd_T26 xs (z : Int)).f1 = B at *
  generalize (rd_T26 ys (z : Int)).f0 = A' at *
  generalize (rd_T26 ys (z : Int)).f1 = B' at *
  generalize rowP l q c A B (cmX l r q c xs noise) (cmY l r q c ys xs noise) (z * r * q * c) (r * c) = C at *
  generalize rowP l q c A' B' (cmX l r q c ys noise) (cmY l r q c xs ys noise) (z * r * q * c) (r * c) = C' at *
  have p1 := fits_of hk h4 z0 z1 z2 a1 a2 g3 a3 a4 g4
  have p2 := fits_of hk h4 z0 z1 z2 b1 b2 i3 b3 b4 i4
  have q1 := shareFits_r (k + 1) (by omega) c0 (l : Int) c2 c3 c4 A B C ux vx g5 (by omega) (by omega) (by omega)
  have q2 := shareFits_r (k + 1) (by omega) c0 (l : Int) c2 c3 c4 A' B' C' uy vy i5 (by omega) (by omega) (by omega)
  rw [p1] at q1
  rw [p2] at q2
  refine ⟨⟨ux, vx, g5, by omega, by omega, by omega⟩, ⟨uy, vy, i5, by omega, by omega, by omega⟩, ?_, q1⟩
  unfold trefoilref22_Right.f
  rw [if_pos rfl, q1, Option.bind_some, if_pos rfl, q2, Option.bind_some]
  have := right_r k l r q c hkk h0 hl hr0 hr hq0 hq hc0 hc A B C A' B' C' ux vx g5 uy vy i5 a1 a2 g3 b1 b2 i3 c0 c2 c3 c4 hs
  rw [t] at this
  exact this
end
/-! what is drawn -/
theorem cutB_u64 (b : Nat) (hb : b ≤ 64) (L : List Int) : U64s (L.map (cutB b)) ∧ lows b (L.map (cutB b)) = true := by
  constructor
  · intro x hx
    obtain ⟨y, -, rfl⟩ := List.mem_map.1 hx
    have := lt64 (n := y.toNat) hb
    unfold cutB
    omega
  · unfold lows
    rw [List.all_eq_true]
    intro x hx
    obtain ⟨y, -, rfl⟩ := List.mem_map.1 hx
    rw [decide_eq_true_eq]
    exact Int.ofNat_lt.2 (Nat.mod_lt _ (Nat.two_pow_pos b))
theorem part_mem {Y : List Int} {i j : Nat} {x : Int} (h : x ∈ (Y.take i).drop j) : x ∈ Y := List.mem_of_mem_take (List.mem_of_mem_drop h)
theorem low_part {b : Nat} {Y : List Int} (h : lows b Y = true) (i j : Nat) : lows b ((Y.take i).drop j) = true := by
  unfold lows at *
  rw [List.all_eq_true] at *
  exact fun x hx => h x (part_mem hx)
theorem drawn_few {l r q c kk : Nat} (hr : r ≤ 6) (hq : q ≤ 6) (hc : c ≤ 6) (hkk : kk ≤ 30) {Y : List Int} (hu : U64s Y) (hlo : lows l Y = true) (hlen : kk * (r * q + q * c) ≤ Y.length) :
    Few (shG Y (r * q) (q * c) kk) ∧ (shG Y (r * q) (q * c) kk).all (okSh l r q c) = true := by
  have m1 : r * q ≤ 36 := sixes (Nat.le_refl r) hr hq
  have m2 : q * c ≤ 36 := sixes (Nat.le_refl q) hq hc
  have key : ∀ s ∈ shG Y (r * q) (q * c) kk, s.f0.length = r * q ∧ s.f1.length = q * c ∧ s.f2 = [] ∧ U64s s.f0 ∧ U64s s.f1 ∧ lows l s.f0 = true ∧ lows l s.f1 = true := by
    intro s hs
    unfold shG at hs
    obtain ⟨i, hi, rfl⟩ := List.mem_map.1 hs
    have hi := List.mem_range.1 hi
    have h1 : (i + 1) * (r * q + q * c) ≤ kk * (r * q + q * c) := Nat.mul_le_mul_right _ hi
    rw [Nat.succ_mul] at h1
    unfold shA
    refine ⟨?_, ?_, rfl, fun x hx => hu x (part_mem hx), fun x hx => hu x (part_mem hx), low_part hlo _ _, low_part hlo _ _⟩
    · rw [List.length_drop, List.length_take]; omega
    · rw [List.length_drop, List.length_take]; omega
  refine ⟨⟨by rw [shG_len]; exact hkk, fun s hs => ?_⟩, ?_⟩
  · obtain ⟨k1, k2, k3, k4, k5, -, -⟩ := key s hs
    exact ⟨k4, k5, by rw [k3]; intro x hx; simp at hx, by omega, by omega, by rw [k3]; simp⟩
  · rw [List.all_eq_true]
    intro s hs
    obtain ⟨k1, k2, k3, k4, k5, k6, k7⟩ := key s hs
    unfold okSh
    rw [k6, k7, k1, k2]
    simp
end Go.Proofs.Ytcmaidpoolcelaa.Lem
namespace Go.Proofs.Ytcmaidpoolcelaa.P
open Go.RowKit Go.Proofs.Ytcmaidpoolcelaa.Lem Go.Proofs.Ytcmaidpoolcelaa.Num Go.Proofs.Ytcmaidpoolcelaa.Pure Go.Proofs.YtcmaidpoolcelaaW.PrintWords Go.Proofs.YtcmaidpoolcelaaW.PrintLast Go.Proofs.YtcmaidpoolcelaaW.PrintMore
set_option linter.unusedVariables false
set_option linter.unusedSectionVars false
theorem mck_eq {w : World} {x : S26} {A0 A1 A2 : Option Addr} {d0 d1 d2 : Nat} (h : k26.K w x [.slice A0 x.f0.length d0, .slice A1 x.f1.length d1, .slice A2 x.f2.length d2]) : (x.f0.length ≤ d0 ∧ (Kd.int .u64).C w A0 x.f0.length x.f0) ∧ (x.f1.length ≤ d1 ∧ (Kd.int .u64).C w A1 x.f1.length x.f1) ∧ (x.f2.length ≤ d2 ∧ (Kd.int .u64).C w A2 x.f2.length x.f2) := by
  obtain ⟨B0, b0, B1, b1, B2, b2, e, l0, g0, l1, g1, l2, g2⟩ := k26_open h
  simp only [List.cons.injEq, Value.slice.injEq, and_true, true_and] at e
  obtain ⟨⟨rfl, rfl⟩, ⟨rfl, rfl⟩, rfl, rfl⟩ := e
  exact ⟨⟨l0, g0⟩, ⟨l1, g1⟩, l2, g2⟩
theorem mcspread_u64 {l r q c : Nat} (hl : l ≤ 64) (xs : List S26) : U64s (spreadAll l (allBlks r q c xs)) := by
  intro x hx
  unfold spreadAll spreadB at hx
  obtain ⟨g, -, hx⟩ := List.mem_flatMap.1 hx
  obtain ⟨j, -, hx⟩ := List.mem_flatMap.1 hx
  exact dbl_u64 l j hl g x hx
section
variable (c0 c1 c2 c3 c4 : Int) (w : World) (kk x y N : Nat) (A : Option Addr) (c : Nat) (l : List Int) (hr : Kd.C (Kd.int .u64) w A l.length l) (hc : l.length ≤ c) (hu : U64s l)
  (m k q : Int) (b : Nat) (hb1 : 1 ≤ b) (hb2 : b ≤ 64) (hc1 : c1 = (b : Int)) (hRk : Reck m k q x y (x + y) N (kk : Int)) (hkk : kk ≤ 3) (hN : N = kk * (x + y)) (hN2 : N ≤ 1000000)
  (HCk : ∀ W, Calls Try.prog 81 #[cV c0 c1 c2 c3 c4, .int .i64 2, .int .i64 (kk : Int)] W fun e w' => e = .returned (.int .i64 0) ∧ Below W.heap.size W w')
  (HSd : ∀ W, Calls Try.prog 48 #[cV c0 c1 c2 c3 c4] W fun e w' => e = .returned (.tuple #[.int .i64 m, .int .i64 k, .int .i64 q]) ∧ Below W.heap.size W w')
include hr hc hu hb1 hb2 hc1 hRk hkk hN hN2 HCk HSd
theorem mcdrawn_ok (hf : N ≤ l.length) : mcDrawn w c0 c1 c2 c3 c4 kk A c l 0 N (shG (((l.take N).drop 0).map (cutB b)) x y kk) := by
  intro W hW
  subst hc1
  have hyl : (((l.take N).drop 0).map (cutB b)).length = N := by rw [List.length_map, List.length_drop, List.length_take]; omega
  have h := rdrawG_ok 2 c0 (b : Int) c2 c3 c4 (kk : Int) A c l 0 W m k q x y (x + y) N hRk HCk HSd ⟨by omega, by omega⟩ rfl (by rw [hN, Int.natCast_mul]) _ hyl (by rw [hyl]; omega) N (fun W' hW' => by
    have := rnums_ok A c l 0 N b W' hb1 hb2 (by omega) (Kd.C_max hr) (by omega) (Kd.C_below (Kd.C_below hr hW) hW') hc hu
    rw [Nat.zero_add] at this
    exact this)
  rw [Int.toNat_natCast] at h
  exact h
theorem mcdrawn_bad (hf : ¬ N ≤ l.length) : mcDrawn w c0 c1 c2 c3 c4 kk A c l 10 0 [] := by
  intro W hW
  subst hc1
  have hE : takeE l 0 (N : Int) = 10 := by unfold takeE; rw [if_neg (by omega), if_pos (by omega)]
  exact (rdrawG_bad 2 c0 (b : Int) c2 c3 c4 (kk : Int) A c l 0 W m k q x y (x + y) N hRk HCk HSd 10 (by decide) (fun W' hW' => by
    have := rnums_bad A c l 0 b (N : Int) W' hb1 hb2 (by omega) (Kd.C_max hr) (by rw [hE]; decide)
    rw [hE] at this
    exact this.mono (fun e w' ⟨u, he, _, hb⟩ => ⟨u, he, hb⟩))).mono (fun e w' ⟨he, hb⟩ => ⟨none, 0, he, Nat.le_refl _, Kd.C_nil _ _, hb⟩)
end
theorem mcdrawn_no (c0 c1 c2 c3 c4 : Int) (w : World) (kk : Nat) (A : Option Addr) (c : Nat) (l : List Int) (E : Int) (hE : E ≠ 0) (HCk : ∀ W, Calls Try.prog 81 #[cV c0 c1 c2 c3 c4, .int .i64 2, .int .i64 (kk : Int)] W fun e w' => e = .returned (.int .i64 E) ∧ Below W.heap.size W w') : mcDrawn w c0 c1 c2 c3 c4 kk A c l E 0 [] :=
  fun W hW => (rdrawG_no 2 c0 c1 c2 c3 c4 (kk : Int) A c l 0 W E hE HCk).mono (fun e w' ⟨he, hb⟩ => ⟨none, 0, he, Nat.le_refl _, Kd.C_nil _ _, hb⟩)
/-! ### the contracts, as the law asks them -/
theorem mcspread_c (K : Nat) (c0 c1 c2 c3 c4 : Int) (xs : List S26) (s : List Int) (es : Int) (h : matrix_Spread.f K c0 c1 c2 c3 c4 xs = some (s, es)) : mcSpreadC (cV c0 c1 c2 c3 c4) xs s es := fun W A c hC hle =>
  (matrix_Spread.calls K c0 c1 c2 c3 c4 A c xs s es W hC hle h).mono fun e w' ⟨v, he, hr, hb⟩ => by
    obtain ⟨A', c', rfl, hl, hC'⟩ := Kd.R_reads hr
    exact ⟨A', c', he, hl, hC', hb⟩
theorem mcchoices_c (K : Nat) (c0 c1 c2 c3 c4 : Int) (xs : List S26) (t : Int × List Int × Int) (h : matrix_Choices.f K c0 c1 c2 c3 c4 xs = some t) : mcChoicesC (cV c0 c1 c2 c3 c4) xs t.1 t.2.1 t.2.2 := fun W A c hC hle =>
  (matrix_Choices.calls K c0 c1 c2 c3 c4 A c xs t.1 t.2.1 t.2.2 W hC hle h).mono fun e w' ⟨v, he, hr, hb⟩ => by
    obtain ⟨A', c', rfl, hl, hC'⟩ := Kd.R_reads hr
    exact ⟨A', c', he, hl, hC', hb⟩
theorem mcbools_c (K : Nat) (un : Int) (uw : List Int) (bu : List Bool) (h : bits_Vec_Bools.f K un uw = some bu) : mcBoolsC un uw bu := fun W A c hC hle =>
  (bits_Vec_Bools.calls K un A c uw bu W hC hle h).mono fun e w' ⟨v, he, hr, hb⟩ => by
    obtain ⟨A', c', rfl, hl, hC'⟩ := Kd.R_reads hr
    exact ⟨A', c', he, hl, hC', hb⟩
theorem mcsplit_c (K : Nat) (c1 sw : Int) (s : List Int) (bv : List Bool) (l p q : List Int) (h : trefoilref22_Split.f K c1 sw s bv l = some (p, q)) : mcSplitC c1 sw s bv l p q := fun W A2 d2 A3 d3 A4 d4 h2 k2 h3 k3 h4 k4 =>
  (trefoilref22_Split.calls K c1 sw A2 d2 s A3 d3 bv A4 d4 l p q W h2 k2 h3 k3 h4 k4 h).mono fun e w' ⟨v0, v1, he, hr, hr', hb⟩ => by
    obtain ⟨A', c', rfl, hl, hC'⟩ := Kd.R_reads hr
    obtain ⟨B', e', rfl, hl2, hC2⟩ := Kd.R_reads hr'
    exact ⟨A', c', B', e', he, hl, hC', hl2, hC2, hb⟩
theorem mcfinish_c (K : Nat) (c0 c1 c2 c3 c4 : Int) (xs : List S26) (p o : List Int) (g : List S26) (h : matrix_Finish.f K c0 c1 c2 c3 c4 xs p o = some (g, 0)) : mcFinishC (cV c0 c1 c2 c3 c4) xs p o g := fun W A1 d1 A2 d2 A3 d3 h1 k1 h2 k2 h3 k3 =>
  (matrix_Finish.calls K c0 c1 c2 c3 c4 A1 d1 xs A2 d2 p A3 d3 o g 0 W h1 k1 h2 k2 h3 k3 h).mono fun e w' ⟨v, he, hr, hb⟩ => by
    obtain ⟨A', c', rfl, hl, hC'⟩ := Kd.R_reads (Kd.S_R hr)
    exact ⟨A', c', he, hl, hC', hb⟩
theorem mcright_c (K : Nat) (c0 c1 c2 c3 c4 : Int) (x y : S26) (h1 : trefoilref22_Right.f K c0 c1 c2 c3 c4 2 x.f0 x.f1 x.f2 y.f0 y.f1 y.f2 = some true) (h2 : matrix_Right.f K c0 c1 c2 c3 c4 x.f0 x.f1 x.f2 y.f0 y.f1 y.f2 = some true) (h3 : trefoilref09_Fits.f K c0 c1 c2 c3 c4 x.f0 x.f1 x.f2 = some true) : mcRightC (cV c0 c1 c2 c3 c4) x y := fun W A0 d0 A1 d1 A2 d2 B0 e0 B1 e1 B2 e2 hx hy => by
  obtain ⟨⟨a0, b0⟩, ⟨a1, b1⟩, a2, b2⟩ := mck_eq hx
  obtain ⟨⟨a3, b3⟩, ⟨a4, b4⟩, a5, b5⟩ := mck_eq hy
  exact ⟨trefoilref22_Right.calls K c0 c1 c2 c3 c4 2 A0 d0 x.f0 A1 d1 x.f1 A2 d2 x.f2 B0 e0 y.f0 B1 e1 y.f1 B2 e2 y.f2 true W b0 a0 b1 a1 b2 a2 b3 a3 b4 a4 b5 a5 h1,
    matrix_Right.calls K c0 c1 c2 c3 c4 A0 d0 x.f0 A1 d1 x.f1 A2 d2 x.f2 B0 e0 y.f0 B1 e1 y.f1 B2 e2 y.f2 true W b0 a0 b1 a1 b2 a2 b3 a3 b4 a4 b5 a5 h2,
    trefoilref09_Fits.calls K c0 c1 c2 c3 c4 _ A0 d0 x.f0 _ A1 d1 x.f1 _ A2 d2 x.f2 true W (Kd.V_mk a0 (Kd.C_F (Kd.heap_int .u64) b0)) (Kd.V_mk a1 (Kd.C_F (Kd.heap_int .u64) b1)) (Kd.V_mk a2 (Kd.C_F (Kd.heap_int .u64) b2)) h3⟩
theorem mcawake_ok (w : World) : Calls Try.prog 22 #[] w fun e w' => e = .returned (.bool true) ∧ Below w.heap.size w w' :=
  (trefoillaw23_awake.calls 300 true w (by kernel_rfl)).mono fun e w' ⟨he, hw⟩ => ⟨he, by first | exact hw | exact hw.below⟩

theorem mchk_few {l r q c kk : Nat} (hk3 : kk ≤ 3) (hl : l ≤ 64) (hr : r ≤ 6) (hq : q ≤ 6) (hchk : chk 2 (l : Int) (r : Int) (q : Int) (c : Int) = 0) (hE : mchk 2 (l : Int) (r : Int) (q : Int) (c : Int) (kk : Int) = 0) : kk * r * q * l ≤ 4096 := by
  have p1 : kk * r ≤ 3 * 6 := Nat.mul_le_mul hk3 hr
  have p2 : kk * r * q ≤ 3 * 6 * 6 := Nat.mul_le_mul p1 hq
  have p3 : kk * r * q * l ≤ 3 * 6 * 6 * 64 := Nat.mul_le_mul p2 hl
  unfold mchk at hE
  rw [if_pos hchk, if_pos rfl] at hE
  by_cases h3 : (kk : Int) < 1
  · rw [if_pos h3] at hE; cases hE
  · rw [if_neg h3] at hE
    by_cases h4 : (kk : Int) > 24
    · rw [if_pos h4] at hE; cases hE
    · rw [if_neg h4, mulw kk r (by omega), mulw (kk * r) q (by omega), mulw (kk * r * q) l (by omega)] at hE
      by_cases h5 : ((kk * r * q * l : Nat) : Int) > 4096
      · rw [if_pos h5] at hE; cases hE
      · omega
theorem mwr (x y : Nat) (h : x * y ≤ 1000000) : IntKind.i64.wrap ((x : Int) * (y : Int)) = ((x * y : Nat) : Int) := by rw [← Int.natCast_mul]; exact wrap_i64 (by omega) (by omega)
theorem mwa (x y : Nat) (h : x + y ≤ 1000000) : IntKind.i64.wrap ((x : Int) + (y : Int)) = ((x + y : Nat) : Int) := by rw [← Int.natCast_add]; exact wrap_i64 (by omega) (by omega)
theorem mcreck {r q c kk : Nat} (hk3 : kk ≤ 3) (hr : r ≤ 6) (hq : q ≤ 6) (hc : c ≤ 6) : Reck (r : Int) (q : Int) (c : Int) (r * q) (q * c) (r * q + q * c) (kk * (r * q + q * c)) (kk : Int) ∧ kk * (r * q + q * c) ≤ 1000000 := by
  have p1 : r * q ≤ 6 * 6 := Nat.mul_le_mul hr hq
  have p2 : q * c ≤ 6 * 6 := Nat.mul_le_mul hq hc
  have p3 : kk * (r * q + q * c) ≤ 3 * 72 := Nat.mul_le_mul hk3 (by omega)
  have t1 : r * q ≤ 1000000 := Nat.le_trans p1 (by decide)
  have t2 : q * c ≤ 1000000 := Nat.le_trans p2 (by decide)
  have t3 : r * q + q * c ≤ 1000000 := Nat.le_trans (Nat.add_le_add p1 p2) (by decide)
  have t4 : kk * (r * q + q * c) ≤ 1000000 := Nat.le_trans p3 (by decide)
  exact ⟨⟨mulw _ _ t1, mwr _ _ t1, mulw _ _ t2, mwr _ _ t2, addw _ _ t3, mwa _ _ t3, mulw _ _ t4, mwr _ _ t4⟩, t4⟩
theorem mcmax {l r q c kk : Nat} (hc : c ≤ 6) (h : kk * r * q * l ≤ 4096) : kk * (r * q) * (l * c) ≤ 30000 := by
  have p4 : kk * r * q * l * c ≤ 4096 * 6 := Nat.mul_le_mul h hc
  have p5 : kk * (r * q) * (l * c) = kk * r * q * l * c := by rw [← Nat.mul_assoc, ← Nat.mul_assoc]
  rw [p5]
  exact Nat.le_trans p4 (by decide)
theorem mcfacts (c0 c1 c2 c3 c4 : Int) (kk : Nat) (hk3 : kk ≤ 3) (hE : mchk c0 c1 c2 c3 c4 (kk : Int) = 0) : ∃ l r q c : Nat, 1 ≤ l ∧ l ≤ 64 ∧ 1 ≤ r ∧ r ≤ 6 ∧ 1 ≤ q ∧ q ≤ 6 ∧ 1 ≤ c ∧ c ≤ 6 ∧ c1 = (l : Int) ∧ trefoilref22_Sides.f c0 c1 c2 c3 c4 = some ((r : Int), (q : Int), (c : Int))
    ∧ (∀ W, Calls Try.prog 48 #[cV c0 c1 c2 c3 c4] W fun e w' => e = .returned (.tuple #[.int .i64 (r : Int), .int .i64 (q : Int), .int .i64 (c : Int)]) ∧ Below W.heap.size W w') ∧ Reck (r : Int) (q : Int) (c : Int) (r * q) (q * c) (r * q + q * c) (kk * (r * q + q * c)) (kk : Int) ∧ kk * (r * q + q * c) ≤ 1000000 ∧ kk * (r * q) * (l * c) ≤ 30000 ∧ chk c0 c1 c2 c3 c4 = 0 ∧ c0 ≠ 4
    ∧ sz0 c0 c2 c3 = ((r * q : Nat) : Int) ∧ sz1 c0 c3 c4 = ((q * c : Nat) : Int) ∧ sz2 c0 c2 c4 = ((r * c : Nat) : Int) ∧ c0 = 2 ∧ (c2 = (r : Int) ∧ c3 = (q : Int) ∧ c4 = (c : Int)) := by
  obtain ⟨hchk, rfl⟩ := mchk_zero hE
  obtain ⟨b1, b2, -, -⟩ := chk_bits hchk
  obtain ⟨s1, s2, s3, s4, s5, s6⟩ := chk_sides hchk rfl
  have hl0 : 0 ≤ c1 := by omega
  obtain ⟨l, rfl⟩ := nat_of hl0
  obtain ⟨r, rfl⟩ := nat_of (Int.le_trans (by decide) s1)
  obtain ⟨q, rfl⟩ := nat_of (Int.le_trans (by decide) s3)
  obtain ⟨c, rfl⟩ := nat_of (Int.le_trans (by decide) s5)
  have H1 := Lib.hid hE
  have H2 := Lib.hid hchk
  clear hE hchk
  have hl : l ≤ 64 := by omega
  have hr : r ≤ 6 := by omega
  have hq : q ≤ 6 := by omega
  have hc : c ≤ 6 := by omega
  have u1 : 1 ≤ l := by omega
  have u2 : 1 ≤ r := by omega
  have u3 : 1 ≤ q := by omega
  have u4 : 1 ≤ c := by omega
  have hs : trefoilref22_Sides.f 2 (l : Int) (r : Int) (q : Int) (c : Int) = some ((r : Int), (q : Int), (c : Int)) := by unfold trefoilref22_Sides.f; rw [if_pos rfl]
  obtain ⟨hR, u5⟩ := mcreck hk3 hr hq hc
  have u6 := mcmax hc (mchk_few hk3 hl hr hq H2.out H1.out)
  have z0 : sz0 2 (r : Int) (q : Int) = ((r * q : Nat) : Int) := (if_pos rfl).trans (Int.natCast_mul r q).symm
  have z1 : sz1 2 (q : Int) (c : Int) = ((q * c : Nat) : Int) := (if_pos rfl).trans (Int.natCast_mul q c).symm
  have z2 : sz2 2 (r : Int) (c : Int) = ((r * c : Nat) : Int) := (if_pos rfl).trans (Int.natCast_mul r c).symm
  exact ⟨l, r, q, c, u1, hl, u2, hr, u3, hq, u4, hc, rfl, hs, fun W => (trefoilref22_Sides.calls 2 (l : Int) (r : Int) (q : Int) (c : Int) _ _ _ W hs).mono fun e w' ⟨he, hw⟩ => ⟨he, by first | exact hw | exact hw.below⟩, hR, u5, u6, H2.out, by decide, z0, z1, z2, rfl, rfl, rfl, rfl⟩
theorem mcplain (K : Nat) (hK : 1000500 ≤ K) (c0 c2 c3 c4 : Int) (l r q c kk : Nat) (hE : mchk c0 (l : Int) c2 c3 c4 (kk : Int) = 0) (hone : c2 = (r : Int) ∧ c3 = (q : Int) ∧ c4 = (c : Int)) (hl : l ≤ 64) (xs ys : List S26) (hx : Few xs) (hy : Few ys) (hox : xs.all (okSh l r q c) = true) (hoy : ys.all (okSh l r q c) = true) (hxl : xs.length = kk) (hyl : ys.length = kk) :
    matrix_Spread.f K c0 (l : Int) c2 c3 c4 xs = some (spreadAll l (allBlks r q c xs), 0) ∧ matrix_Spread.f K c0 (l : Int) c2 c3 c4 ys = some (spreadAll l (allBlks r q c ys), 0) ∧ (∃ t, matrix_Choices.f K c0 (l : Int) c2 c3 c4 xs = some t ∧ Held t (allBits l (fst0 xs)) 0) ∧ (∃ t, matrix_Choices.f K c0 (l : Int) c2 c3 c4 ys = some t ∧ Held t (allBits l (fst0 ys)) 0)
    ∧ ∀ zs, Few zs → zs.all (okSh l r q c) = true → zs.length = kk → ∀ sent got, U64s sent → U64s got → sent.length ≤ 30000 → got.length ≤ 30000 → matrix_Finish.f K c0 (l : Int) c2 c3 c4 zs sent got = some (finR 0 l r q c zs sent got) := by
  obtain ⟨rfl, rfl, rfl⟩ := hone
  have hw : ∀ zs : List S26, zs.all (okSh l r q c) = true → zs.length = kk → mwrong c0 (l : Int) (r : Int) (q : Int) (c : Int) zs = 0 := fun zs ho hz => by
    unfold mwrong wrongOf
    rw [hz, if_pos hE, Int.toNat_natCast, Int.toNat_natCast, Int.toNat_natCast, Int.toNat_natCast, if_pos ho]
  have sp : ∀ zs, Few zs → zs.all (okSh l r q c) = true → zs.length = kk → matrix_Spread.f K c0 (l : Int) (r : Int) (q : Int) (c : Int) zs = some (spreadAll l (allBlks r q c zs), 0) := fun zs hf ho hz => by
    rw [msp_f K (by omega) c0 (l : Int) (r : Int) (q : Int) (c : Int) zs hf, hw zs ho hz, Int.toNat_natCast, Int.toNat_natCast, Int.toNat_natCast, Int.toNat_natCast]
    rfl
  have ch : ∀ zs, Few zs → zs.all (okSh l r q c) = true → zs.length = kk → ∃ t, matrix_Choices.f K c0 (l : Int) (r : Int) (q : Int) (c : Int) zs = some t ∧ Held t (allBits l (fst0 zs)) 0 := fun zs hf ho hz => by
    obtain ⟨t, h1, h2⟩ := mch_f K (by omega) c0 (l : Int) (r : Int) (q : Int) (c : Int) zs hf
    rw [hw zs ho hz, Int.toNat_natCast] at h2
    exact ⟨t, h1, h2⟩
  refine ⟨sp xs hx hox hxl, sp ys hy hoy hyl, ch xs hx hox hxl, ch ys hy hoy hyl, fun zs hf ho hz sent got hs hg ls lg => ?_⟩
  rw [mfin_f K (by omega) c0 (l : Int) (r : Int) (q : Int) (c : Int) zs hf sent got hs hg ls lg, hw zs ho hz, Int.toNat_natCast, Int.toNat_natCast, Int.toNat_natCast, Int.toNat_natCast]

set_option maxHeartbeats 1600000 in
theorem mcComes_ok (c0 c1 c2 c3 c4 n : Int) (hn : 0 ≤ n ∧ n < 256) (A1 : Option Addr) (d1 : Nat) (l1 : List Int) (A2 : Option Addr) (d2 : Nat) (l2 : List Int) (A3 : Option Addr) (d3 : Nat) (l3 : List Int) (w : World)
    (hr1 : Kd.C (Kd.int .u64) w A1 l1.length l1) (hc1 : l1.length ≤ d1) (hr2 : Kd.C (Kd.int .u64) w A2 l2.length l2) (hc2 : l2.length ≤ d2) (hr3 : Kd.C (Kd.int .u64) w A3 l3.length l3) (hc3 : l3.length ≤ d3) (hu1 : U64s l1) (hu2 : U64s l2) (hu3 : U64s l3) :
    Calls Try.prog 13 #[cV c0 c1 c2 c3 c4, .int .u8 n, .slice A1 l1.length d1, .slice A2 l2.length d2, .slice A3 l3.length d3] w fun e w' => e = .returned (.bool true) ∧ Below w.heap.size w w' := by
  obtain ⟨kk, hkk⟩ : ∃ kk : Nat, (kk : Int) = n % 3 + 1 := ⟨(n % 3 + 1).toNat, by omega⟩
  have hn' : 0 ≤ n ∧ n < 256 ∧ (kk : Int) = n % 3 + 1 := ⟨hn.1, hn.2, hkk⟩
  have hk3 : kk ≤ 3 := by omega
  have HCk : ∀ W, Calls Try.prog 81 #[cV c0 c1 c2 c3 c4, .int .i64 2, .int .i64 (kk : Int)] W fun e w' => e = .returned (.int .i64 (mchk c0 c1 c2 c3 c4 (kk : Int))) ∧ Below W.heap.size W w' := fun W => trefoilref22_Check.calls 10 c0 c1 c2 c3 c4 2 (kk : Int) _ W (mchk_r 10 (by omega) c0 c1 c2 c3 c4 (kk : Int))
  by_cases hE : mchk c0 c1 c2 c3 c4 (kk : Int) = 0
  case neg =>
    exact mccomes_no c0 c1 c2 c3 c4 n kk hn' A1 d1 l1 A2 d2 l2 A3 d3 l3 w _ _ 0 0 [] [] (mcdrawn_no c0 c1 c2 c3 c4 w kk A1 d1 l1 _ hE HCk) (mcdrawn_no c0 c1 c2 c3 c4 w kk A2 d2 l2 _ hE HCk) (.inl hE) (fun W => mcawake_ok W)
  rw [hE] at HCk
  obtain ⟨l, r, q, c, h0, hl, hr0, hr, hq0, hq, hc0, hc, e1, hsd, HSd, hRk, hN2, hmax, hchk, h4, z0, z1, z2, e2, hsame⟩ := mcfacts c0 c1 c2 c3 c4 kk hk3 hE
  subst e1
  subst e2
  by_cases f1 : kk * (r * q + q * c) ≤ l1.length
  case neg =>
    by_cases f2 : kk * (r * q + q * c) ≤ l2.length
    · exact mccomes_no 2 (l : Int) c2 c3 c4 n kk hn' A1 d1 l1 A2 d2 l2 A3 d3 l3 w _ _ _ _ _ _ (mcdrawn_bad 2 (l : Int) c2 c3 c4 w kk (r * q) (q * c) _ A1 d1 l1 hr1 hc1 hu1 _ _ _ l h0 hl rfl hRk hk3 rfl hN2 HCk HSd f1) (mcdrawn_ok 2 (l : Int) c2 c3 c4 w kk (r * q) (q * c) _ A2 d2 l2 hr2 hc2 hu2 _ _ _ l h0 hl rfl hRk hk3 rfl hN2 HCk HSd f2) (.inl (by decide)) (fun W => mcawake_ok W)
    · exact mccomes_no 2 (l : Int) c2 c3 c4 n kk hn' A1 d1 l1 A2 d2 l2 A3 d3 l3 w _ _ _ _ _ _ (mcdrawn_bad 2 (l : Int) c2 c3 c4 w kk (r * q) (q * c) _ A1 d1 l1 hr1 hc1 hu1 _ _ _ l h0 hl rfl hRk hk3 rfl hN2 HCk HSd f1) (mcdrawn_bad 2 (l : Int) c2 c3 c4 w kk (r * q) (q * c) _ A2 d2 l2 hr2 hc2 hu2 _ _ _ l h0 hl rfl hRk hk3 rfl hN2 HCk HSd f2) (.inl (by decide)) (fun W => mcawake_ok W)
  by_cases f2 : kk * (r * q + q * c) ≤ l2.length
  case neg =>
    exact mccomes_no 2 (l : Int) c2 c3 c4 n kk hn' A1 d1 l1 A2 d2 l2 A3 d3 l3 w _ _ _ _ _ _ (mcdrawn_ok 2 (l : Int) c2 c3 c4 w kk (r * q) (q * c) _ A1 d1 l1 hr1 hc1 hu1 _ _ _ l h0 hl rfl hRk hk3 rfl hN2 HCk HSd f1) (mcdrawn_bad 2 (l : Int) c2 c3 c4 w kk (r * q) (q * c) _ A2 d2 l2 hr2 hc2 hu2 _ _ _ l h0 hl rfl hRk hk3 rfl hN2 HCk HSd f2) (.inr (.inl (by decide))) (fun W => mcawake_ok W)
  have H1 := mcdrawn_ok 2 (l : Int) c2 c3 c4 w kk (r * q) (q * c) _ A1 d1 l1 hr1 hc1 hu1 _ _ _ l h0 hl rfl hRk hk3 rfl hN2 HCk HSd f1
  have H2 := mcdrawn_ok 2 (l : Int) c2 c3 c4 w kk (r * q) (q * c) _ A2 d2 l2 hr2 hc2 hu2 _ _ _ l h0 hl rfl hRk hk3 rfl hN2 HCk HSd f2
  obtain ⟨hx, hox⟩ := drawn_few (l := l) (kk := kk) hr hq hc (by omega) (cutB_u64 l hl ((l1.take (kk * (r * q + q * c))).drop 0)).1 (cutB_u64 l hl _).2 (by rw [List.length_map, List.length_drop, List.length_take]; omega)
  obtain ⟨hy, hoy⟩ := drawn_few (l := l) (kk := kk) hr hq hc (by omega) (cutB_u64 l hl ((l2.take (kk * (r * q + q * c))).drop 0)).1 (cutB_u64 l hl _).2 (by rw [List.length_map, List.length_drop, List.length_take]; omega)
  have hxl := shG_len ((((l1.take (kk * (r * q + q * c))).drop 0).map (cutB l))) (r * q) (q * c) kk
  have hyl := shG_len ((((l2.take (kk * (r * q + q * c))).drop 0).map (cutB l))) (r * q) (q * c) kk
  generalize shG ((((l1.take (kk * (r * q + q * c))).drop 0).map (cutB l))) (r * q) (q * c) kk = xs at *
  generalize shG ((((l2.take (kk * (r * q + q * c))).drop 0).map (cutB l))) (r * q) (q * c) kk = ys at *
  have hlen : ys.length = xs.length := by omega
  obtain ⟨K, hK⟩ : ∃ K, K = 1000500 := ⟨_, rfl⟩
  obtain ⟨sX, sY, ⟨tX, cX, dX⟩, ⟨tY, cY, dY⟩, fX⟩ := mcplain K (by omega) 2 c2 c3 c4 l r q c kk hE hsame hl xs ys hx hy hox hoy hxl hyl
  have bX : bits_Vec_Bools.f K tX.1 tX.2.1 = some (allBits l (fst0 xs)) := ScalarSidesL.held_bools K (by omega) tX _ 0 dX (by have := allBits_few hx l hl; omega)
  have bY : bits_Vec_Bools.f K tY.1 tY.2.1 = some (allBits l (fst0 ys)) := ScalarSidesL.held_bools K (by omega) tY _ 0 dY (by have := allBits_few hy l hl; omega)
  have lS := spread_len' hox
  have lT := spread_len' hoy
  have hM : xs.length * (r * q) * (l * c) ≤ 30000 := by rw [hxl]; exact Nat.le_trans hmax (by decide)
  have l3m : l3.length ≤ 9223372036854775807 := Kd.C_max hr3
  have eS : (spreadAll l (allBlks r q c xs)).length = kk * (r * q) * (l * c) := by rw [lS, hxl]
  have eT : (spreadAll l (allBlks r q c ys)).length = kk * (r * q) * (l * c) := by rw [lT, hyl]
  have kx := allBits_few hx l hl
  have ky := allBits_few hy l hl
  have pq := split_f hl hc0 (s := spreadAll l (allBlks r q c xs)) (bs := allBits l (fst0 ys)) (mcspread_u64 hl xs) hu3 (by omega) (by omega) l3m K (by omega)
  have mo := split_f hl hc0 (s := spreadAll l (allBlks r q c ys)) (bs := allBits l (fst0 xs)) (mcspread_u64 hl ys) hu3 (by omega) (by omega) l3m K (by omega)
  rw [eS] at pq
  rw [eT] at mo
  have gx : matrix_Finish.f K 2 (l : Int) c2 c3 c4 xs (spP l l3 (kk * (r * q) * (l * c))) (spQ l c (spreadAll l (allBlks r q c ys)) (allBits l (fst0 xs)) l3 (kk * (r * q) * (l * c))) = some (finP l r q c xs (cmX l r q c xs l3) (cmY l r q c ys xs l3) xs.length, 0) := by
    rw [fX xs hx hox hxl _ _ (spP_u64 l hl _ _) (spQ_u64 l c hl _ _ _ _) (by rw [spP_len]; exact hmax) (by rw [spQ_len]; exact hmax), finR_ok h0 hc0 (by rw [spP_len, hxl]) (by rw [spQ_len, hxl]) (spP_low _ _ _) (spQ_low _ _ _ _ _ _)]
    unfold cmX cmY
    rw [hxl, hyl]
  have gy : matrix_Finish.f K 2 (l : Int) c2 c3 c4 ys (spP l l3 (kk * (r * q) * (l * c))) (spQ l c (spreadAll l (allBlks r q c xs)) (allBits l (fst0 ys)) l3 (kk * (r * q) * (l * c))) = some (finP l r q c ys (cmX l r q c ys l3) (cmY l r q c xs ys l3) ys.length, 0) := by
    rw [fX ys hy hoy hyl _ _ (spP_u64 l hl _ _) (spQ_u64 l c hl _ _ _ _) (by rw [spP_len]; exact hmax) (by rw [spQ_len]; exact hmax), finR_ok h0 hc0 (by rw [spP_len, hyl]) (by rw [spQ_len, hyl]) (spP_low _ _ _) (spQ_low _ _ _ _ _ _)]
    unfold cmX cmY
    rw [hxl, hyl]
  exact mccomes_yes 2 (l : Int) c2 c3 c4 n kk hn' A1 d1 l1 A2 d2 l2 A3 d3 l3 w _ xs ys H1 H2 (fun W => mcawake_ok W) hr3 hc3 (r : Int) (q : Int) (c : Int) HSd
    _ _ 0 0 (mcspread_c K _ _ _ _ _ _ _ _ sX) (mcspread_c K _ _ _ _ _ _ _ _ sY) _ _ _ _ _ _ (mcchoices_c K _ _ _ _ _ _ tX cX) (mcchoices_c K _ _ _ _ _ _ tY cY) _ _ (mcbools_c K _ _ _ bX) (mcbools_c K _ _ _ bY)
    _ _ _ _ (mcsplit_c K _ _ _ _ _ _ _ pq) (mcsplit_c K _ _ _ _ _ _ _ mo) _ _ (mcfinish_c K _ _ _ _ _ _ _ _ _ gx) (mcfinish_c K _ _ _ _ _ _ _ _ _ gy) (by rw [finP_len, hxl]) (by rw [finP_len, hyl]) (fun z hz => by
      obtain ⟨⟨a1, a2, a3, a4, a5, a6⟩, ⟨b1, b2, b3, b4, b5, b6⟩, hR, hF⟩ := cm_right h0 hl hr0 hr hq0 hq hc0 hc hx hy hox hoy hlen l3 hchk h4 z0 z1 z2 hsd 1000499 (by omega) z (by omega) _ _ rfl rfl
      obtain ⟨rr, e3, e4⟩ := RightsL.both23 (1000499 + 1) (by omega) 2 (l : Int) c2 c3 c4 _ _ _ _ _ _ a1 a2 a3 b1 b2 b3 (by omega) (by omega) (by omega) (by omega) (by omega) (by omega)
      have e5 := e4.symm.trans hR
      obtain rfl := Option.some.inj e5
      exact mcright_c (1000499 + 1) _ _ _ _ _ _ _ hR e3 hF)
end Go.Proofs.Ytcmaidpoolcelaa.P
