/- The document's ref22.Draw, of any kind and sides. -/
import Derived.Test.YtdgngpcfikgoeaaDoorMdDrw8
import Derived.Test.YtdgngpcfikgoeaaDoorMdDrw7
namespace Go.Proofs.YtdgngpcfikgoeaaDoor.P
open Go.RowKit Go.Extern.Stop Go.Stop Go.Extern Go.Proofs.YtdgngpcfikgoeaaDoorW.PrintWords Go.Proofs.YtdgngpcfikgoeaaDoorW.PrintLast Go.Proofs.YtdgngpcfikgoeaaDoorW.PrintMore
set_option linter.unusedVariables false
set_option linter.unusedSimpArgs false
attribute [local go_sem ↓] Go.wp_at_zero Go.wp_at_succ
/-- the i-th share of a row of numbers, x and y of them -/
def shA (Y : List Int) (x y i : Nat) : S86 := ⟨(Y.take (i * (x + y) + x)).drop (i * (x + y)), (Y.take (i * (x + y) + x + y)).drop (i * (x + y) + x), []⟩
def shG (Y : List Int) (x y n : Nat) : List S86 := (List.range n).map (shA Y x y)
theorem shG_snoc (Y : List Int) (x y i : Nat) : shG Y x y i ++ [shA Y x y i] = shG Y x y (i + 1) := by
  unfold shG
  rw [List.range_succ, List.map_append]
  rfl
theorem shG_len (Y : List Int) (x y n : Nat) : (shG Y x y n).length = n := by simp [shG]
section
variable (kind c0 c1 c2 c3 c4 n : Int) (A : Option Addr) (c : Nat) (l : List Int) (a : Nat) (w : World)
set_option maxHeartbeats 3200000 in
theorem rdrawG_no (E : Int) (hE : E ≠ 0) (HCk : ∀ W, Calls Tryd.prog 47 #[cV c0 c1 c2 c3 c4, .int .i64 kind, .int .i64 n] W fun e w' => e = .returned (.int .i64 E) ∧ Below W.heap.size W w') :
    Calls Tryd.prog 28 #[cV c0 c1 c2 c3 c4, .int .i64 kind, .int .i64 n, rT A l.length c a] w fun e w' => e = .returned (.tuple #[rT A l.length c a, .slice none 0 0, .int .i64 E]) ∧ Below w.heap.size w w' := by
  have HC := Lib.hid HCk
  have hb : (E != 0) = true := by rw [bne_iff_ne]; exact hE
  have HB0 := Lib.hid (begun w c0 c1 c2 c3 c4 A l.length c a)
  have n02 : w.heap.size ≠ w.heap.size + 1 + 1 := by omega
  have n12 : w.heap.size + 1 ≠ w.heap.size + 1 + 1 := by omega
  clear hE HCk
  go_enter Tryd.func28, Tryd.ntmps28
  go_wp2_with (go_at_call 47; (with_reducible refine (HC.out _).mono ?_); rintro e w1 ⟨rfl, hb⟩; have HB1 := Lib.hid (HB0.out.below hb); obtain ⟨k0, k1, k2, k3, k4, -⟩ := cells_5 HB1.out.k3; obtain ⟨m0, m1, -⟩ := cells_2 HB1.out.k5; obtain ⟨z0, z1, zf0, zf1⟩ := cells_2 HB1.out.k6; clear hb)
  go_region_with (go_at_call 47; (with_reducible refine (HC.out _).mono ?_); rintro e w2 ⟨rfl, hb⟩; (first | have HB2 := Lib.hid (HB1.out.drew.below hb) | have HB2 := Lib.hid ((HB1.out.drew.put (.slice A l.length c) (.int .i64 (a : Int))).below hb)); obtain ⟨p0, p1, p2, p3, p4, -⟩ := cells_5 HB2.out.k3; obtain ⟨q0, q1, -⟩ := cells_2 HB2.out.k5; obtain ⟨x0, x1, xf0, xf1⟩ := cells_2 HB2.out.k6; clear hb)
  all_goals go_wp2
  all_goals
    first
      | (refine bodyPost_ret (results_ctt rfl _ _ (w.heap.size + 1 + 1) 54 #[.slice A l.length c, .int .i64 (a : Int)] (0, 0) _ rfl (HB2.out.put _ _).k6 Tryd.underlying54 rfl (by kernel_rfl)) rfl ?_; exact ⟨rfl, (HB2.out.put _ _).bel⟩)
      | (refine bodyPost_ret (results_ctt rfl _ _ (w.heap.size + 1 + 1) 54 #[.slice A l.length c, .int .i64 (a : Int)] (0, 0) _ rfl HB2.out.k6 Tryd.underlying54 rfl (by kernel_rfl)) rfl ?_; exact ⟨rfl, HB2.out.bel⟩)
/-- what the document's Draw reckons with: the sides' products, and how many numbers -/
structure Reck (m k q : Int) (x y s N : Nat) (n : Int) : Prop where
  x1 : wrap64 (m * k) = (x : Int)
  x2 : IntKind.i64.wrap (m * k) = (x : Int)
  y1 : wrap64 (k * q) = (y : Int)
  y2 : IntKind.i64.wrap (k * q) = (y : Int)
  s1 : wrap64 ((x : Int) + (y : Int)) = (s : Int)
  s2 : IntKind.i64.wrap ((x : Int) + (y : Int)) = (s : Int)
  n1 : wrap64 (n * (s : Int)) = (N : Int)
  n2 : IntKind.i64.wrap (n * (s : Int)) = (N : Int)
variable (m k q : Int) (x y s N : Nat) (HRk : Reck m k q x y s N n)
  (HCk : ∀ W, Calls Tryd.prog 47 #[cV c0 c1 c2 c3 c4, .int .i64 kind, .int .i64 n] W fun e w' => e = .returned (.int .i64 0) ∧ Below W.heap.size W w')
  (HSd : ∀ W, Calls Tryd.prog 48 #[cV c0 c1 c2 c3 c4] W fun e w' => e = .returned (.tuple #[.int .i64 m, .int .i64 k, .int .i64 q]) ∧ Below W.heap.size W w')
include HRk HCk HSd
set_option maxHeartbeats 3200000 in
set_option maxRecDepth 100000 in
theorem rdrawG_bad (E : Int) (hE : E ≠ 0) (HNm : ∀ W, Below w.heap.size w W → Calls Tryd.prog 38 #[rT A l.length c a, .int .i64 (N : Int), .int .i64 c1] W fun e w' => ∃ u, e = .returned (.tuple #[rT A l.length c a, u, .int .i64 E]) ∧ Below W.heap.size W w') :
    Calls Tryd.prog 28 #[cV c0 c1 c2 c3 c4, .int .i64 kind, .int .i64 n, rT A l.length c a] w fun e w' => e = .returned (.tuple #[rT A l.length c a, .slice none 0 0, .int .i64 E]) ∧ Below w.heap.size w w' := by
  have HC := Lib.hid HCk
  have HS := Lib.hid HSd
  have HN := Lib.hid HNm
  have hb : (E != 0) = true := by rw [bne_iff_ne]; exact hE
  have HB0 := Lib.hid (begun w c0 c1 c2 c3 c4 A l.length c a)
  obtain ⟨hx1, hx2, hy1, hy2, hs1, hs2, hn1, hn2⟩ := HRk
  have n02 : w.heap.size ≠ w.heap.size + 1 + 1 := by omega
  have n12 : w.heap.size + 1 ≠ w.heap.size + 1 + 1 := by omega
  clear hE HCk HSd HNm
  go_enter Tryd.func28, Tryd.ntmps28
  go_wp2_with (first
    | (go_at_call 47; (with_reducible refine (HC.out _).mono ?_); rintro e w1 ⟨rfl, hb⟩; have HB1 := Lib.hid (HB0.out.below hb); obtain ⟨k0, k1, k2, k3, k4, -⟩ := cells_5 HB1.out.k3; clear hb)
    | (go_at_call 48; (with_reducible refine (HS.out _).mono ?_); rintro e w2 ⟨rfl, hb⟩; have HB2 := Lib.hid (HB1.out.below hb); obtain ⟨p0, p1, p2, p3, p4, -⟩ := cells_5 HB2.out.k3; obtain ⟨m0, m1, -⟩ := cells_2 HB2.out.k5; clear hb)
    | (go_at_call 38; go_loud ((with_reducible refine (HN.out _ HB2.out.bel).mono ?_); rintro e w3 ⟨u, rfl, hb⟩; have HB3 := Lib.hid (HB2.out.below (below_alloc hb (.cells #[.slice A l.length c, .int .i64 (a : Int)] 54))); obtain ⟨q0, q1, -⟩ := cells_2 HB3.out.k5; obtain ⟨x0, x1, xf0, xf1⟩ := cells_2 HB3.out.k6; clear hb)))
  refine bodyPost_ret (results_ctt rfl _ _ (w.heap.size + 1 + 1) 54 #[.slice A l.length c, .int .i64 (a : Int)] (0, 0) _ rfl (HB3.out.put _ _).k6 Tryd.underlying54 rfl (by kernel_rfl)) rfl ?_
  exact ⟨rfl, (HB3.out.put _ _).bel⟩
end
end Go.Proofs.YtdgngpcfikgoeaaDoor.P
