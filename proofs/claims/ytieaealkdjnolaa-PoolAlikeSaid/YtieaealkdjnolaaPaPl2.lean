/- The order of classes: cmp.Compare, cmp.Or, shape.Order, and what a bin is held against. -/
import Derived.Test.YtieaealkdjnolaaPaPl1
namespace Go.Proofs.Ytieaealkdjnolaa.P
open Go.RowKit Go.Maps Go.Proofs.YtieaealkdjnolaaW.PrintWords Go.Proofs.YtieaealkdjnolaaW.PrintLast Go.Proofs.YtieaealkdjnolaaW.PrintMore
set_option linter.unusedVariables false
set_option linter.unusedSimpArgs false
attribute [local go_sem ↓] Go.wp_at_zero Go.wp_at_succ
/-- how two numbers stand -/
def cmpI (x y : Int) : Int := if x < y then -1 else if y < x then 1 else 0
theorem cmpI_self (x : Int) : cmpI x x = 0 := by unfold cmpI; rw [if_neg (by omega), if_neg (by omega)]
theorem nan_ok (x : Int) (w : World) : Calls Try.prog 59 #[.int .i64 x] w fun e w' => e = .returned (.bool false) ∧ w' = w := by
  go_enter Try.func59, Try.ntmps59
  go_wp2
  go_ret
  exact ⟨by simp, rfl⟩
theorem cmp_ok (x y : Int) (w : World) : Calls Try.prog 52 #[.int .i64 x, .int .i64 y] w fun e w' => e = .returned (.int .i64 (cmpI x y)) ∧ w' = w := by
  go_enter Try.func52, Try.ntmps52
  go_wp2_with (go_at_call 59; (with_reducible refine (nan_ok _ _).mono ?_); rintro e w1 ⟨rfl, rfl⟩)
  all_goals
    go_ret
    refine ⟨?_, rfl⟩
    unfold cmpI
    congr 2
    repeat' split
    all_goals first | rfl | omega
/-- the first that is not 0 -/
def firstNZ : List Int → Int
  | [] => 0
  | x :: r => if x = 0 then firstNZ r else x
theorem firstNZ_drop (l : List Int) (i : Nat) (h : ∀ j, j < i → l.getD j 0 = 0) : firstNZ l = firstNZ (l.drop i) := by
  induction i generalizing l with
  | zero => rfl
  | succ i ih =>
    cases l with
    | nil => rfl
    | cons x r =>
      have h0 := h 0 (by omega)
      simp at h0
      rw [firstNZ, if_pos h0, List.drop_succ_cons]
      exact ih r (fun j hj => by have := h (j + 1) (by omega); simpa using this)
theorem or_ok (b : Nat) (l : List Int) (c : Nat) (w : World) (hl : l.length ≤ 1000) (h : ∀ i : Nat, i < l.length → w.cell? ⟨b, i, none⟩ = some (.int .i64 (l.getD i 0))) : Calls Try.prog 51 #[.slice (some ⟨b, 0, none⟩) l.length c] w fun e w' => e = .returned (.int .i64 (firstNZ l)) ∧ w' = w := by
  have HC := Lib.hid h
  clear h
  go_enter Try.func51, Try.ntmps51
  go_wp2
  go_loopw [8] (fun s wr => ∃ i : Nat, i ≤ l.length ∧ s = .int .i64 (i : Int) ∧ wr = w ∧ Go.RowKit.Hid (∀ j, j < i → l.getD j 0 = 0)) (fun s _ => l.length - (intOf s).toNat)
  case atStart => exact ⟨0, by omega, by first | rfl | trivial, by first | rfl | trivial, Lib.hid (fun j hj => by omega)⟩
  case round =>
    obtain ⟨i, hi, rfl, rfl, HZ⟩ := hrel
    by_cases hin : i < l.length
    · have hc := HC.out i hin
      have c1 : (i : Int) < (l.length : Int) := by omega
      by_cases hz : l.getD i 0 = 0
      · have HN := Lib.hid (show ∀ j, j < i + 1 → l.getD j 0 = 0 from fun j hj => by
          rcases Nat.lt_or_ge j i with h | h
          · exact HZ.out j h
          · have : j = i := by omega
            rw [this]; exact hz)
        rw [hz] at hc
        clear hz
        go_wp2
        go_roundw
        case rel => exact ⟨i + 1, by omega, by go_num, by first | rfl | trivial, HN⟩
        case measure => simp [intOf]; omega
      · have hd : firstNZ l = l.getD i 0 := by
          rw [firstNZ_drop l i HZ.out, List.drop_eq_getElem_cons hin, firstNZ]
          rw [List.getD_eq_getElem?_getD, List.getElem?_eq_getElem hin] at hz ⊢
          simp only [Option.getD_some] at hz ⊢
          rw [if_neg hz]
        have HD := Lib.hid hd
        have hb : (l.getD i 0 != 0) = true := by rw [bne_iff_ne]; exact hz
        generalize l.getD i 0 = x at *
        clear hd hz
        go_wp2
        go_ret
        exact ⟨by rw [HD.out]; rfl, rfl⟩
    · have c1 : ¬ (i : Int) < (l.length : Int) := by omega
      have hd : firstNZ l = 0 := by
        rw [firstNZ_drop l i HZ.out, List.drop_eq_nil_of_le (by omega)]; rfl
      have HD := Lib.hid hd
      clear hd
      go_wp2
      go_ret
      exact ⟨by rw [HD.out]; rfl, rfl⟩
/-- how two classes stand -/
def ordC (a b : S26) : Int := firstNZ [cmpI a.f0 b.f0, cmpI a.f1 b.f1, cmpI a.f2 b.f2, cmpI a.f3 b.f3, cmpI a.f4 b.f4]
theorem ordC_self (a : S26) : ordC a a = 0 := by unfold ordC; simp only [cmpI_self]; rfl
/-- two classes lie in the first two new blocks -/
structure Two (w W : World) (a b : S26) : Prop where
  bel : Below w.heap.size w W
  k1 : W.heap[w.heap.size]? = some (.cells (cC a) 26 (0, 0))
  k2 : W.heap[w.heap.size + 1]? = some (.cells (cC b) 26 (0, 0))
theorem Two.below {w W W' : World} {a b : S26} (h : Two w W a b) (hb : Below W.heap.size W W') : Two w W' a b := ⟨below_step h.bel hb, blk_below h.k1 hb, blk_below h.k2 hb⟩
theorem Two.made (w : World) (a b : S26) : Two w ((w.alloc (.cells (cC a) 26)).alloc (.cells (cC b) 26)) a b := by
  have h := heap_alloc_new (w.alloc (.cells (cC a) 26)) (.cells (cC b) 26)
  rw [show (w.alloc (.cells (cC a) 26)).heap.size = w.heap.size + 1 by simp] at h
  exact ⟨below_alloc (below_alloc (Below.refl _ _) _) _, blk_alloc (heap_alloc_new w _) _, h⟩
theorem Two.full {w W : World} {a b : S26} (h : Two w W a b) : Two w W a b ∧ W.cell? ⟨w.heap.size, 0, none⟩ = some (.int .i64 a.f0) ∧ W.cell? ⟨w.heap.size, 1, none⟩ = some (.int .i64 a.f1) ∧ W.cell? ⟨w.heap.size, 2, none⟩ = some (.int .i64 a.f2) ∧ W.cell? ⟨w.heap.size, 3, none⟩ = some (.int .i64 a.f3) ∧ W.cell? ⟨w.heap.size, 4, none⟩ = some (.int .i64 a.f4) ∧ W.cell? ⟨w.heap.size + 1, 0, none⟩ = some (.int .i64 b.f0) ∧ W.cell? ⟨w.heap.size + 1, 1, none⟩ = some (.int .i64 b.f1) ∧ W.cell? ⟨w.heap.size + 1, 2, none⟩ = some (.int .i64 b.f2) ∧ W.cell? ⟨w.heap.size + 1, 3, none⟩ = some (.int .i64 b.f3) ∧ W.cell? ⟨w.heap.size + 1, 4, none⟩ = some (.int .i64 b.f4) := by
  obtain ⟨a0, a1, a2, a3, a4, -⟩ := cells_5 h.k1
  obtain ⟨b0, b1, b2, b3, b4, -⟩ := cells_5 h.k2
  exact ⟨h, a0, a1, a2, a3, a4, b0, b1, b2, b3, b4⟩
theorem five_cells {W : World} {g t : Nat} {x0 x1 x2 x3 x4 : Int} (h : W.heap[g]? = some (.cells #[.int .i64 x0, .int .i64 x1, .int .i64 x2, .int .i64 x3, .int .i64 x4] t (0, 0))) : ∀ i : Nat, i < [x0, x1, x2, x3, x4].length → W.cell? ⟨g, i, none⟩ = some (.int .i64 ([x0, x1, x2, x3, x4].getD i 0)) := by
  obtain ⟨a0, a1, a2, a3, a4, -⟩ := cells_5 h
  intro i hi
  match i, hi with
  | 0, _ => exact a0
  | 1, _ => exact a1
  | 2, _ => exact a2
  | 3, _ => exact a3
  | 4, _ => exact a4
  | n + 5, h => simp at h; omega
theorem or5 {w : World} {b t : Nat} {x0 x1 x2 x3 x4 : Int} (h : w.heap[b]? = some (.cells #[.int .i64 x0, .int .i64 x1, .int .i64 x2, .int .i64 x3, .int .i64 x4] t (0, 0))) : Calls Try.prog 51 #[.slice (some ⟨b, 0, none⟩) 5 5] w fun e w' => e = .returned (.int .i64 (firstNZ [x0, x1, x2, x3, x4])) ∧ w' = w :=
  or_ok b [x0, x1, x2, x3, x4] 5 w (by simp) (five_cells h)
theorem or5W (W : World) (t : Nat) (x0 x1 x2 x3 x4 : Int) : Calls Try.prog 51 #[.slice (some ⟨W.heap.size, 0, none⟩) 5 5] ((W.alloc (.cells #[.int .i64 x0, .int .i64 x1, .int .i64 x2, .int .i64 x3, .int .i64 x4] t)).drew) fun e w' => e = .returned (.int .i64 (firstNZ [x0, x1, x2, x3, x4])) ∧ Below W.heap.size W w' :=
  (or5 (blk_drew (heap_alloc_new W _))).mono fun e w' ⟨he, hw⟩ => ⟨he, by rw [hw]; exact below_drew1 (below_alloc (Below.refl _ _) _)⟩
set_option maxHeartbeats 2000000 in
set_option maxRecDepth 100000 in
theorem order_ok (a b : S26) (w : World) : Calls Try.prog 41 #[.agg (cC a), .agg (cC b)] w fun e w' => e = .returned (.int .i64 (ordC a b)) ∧ Below w.heap.size w w' := by
  have HT := Lib.hid (Two.made w a b)
  obtain ⟨x0, x1, x2, x3, x4⟩ := a
  obtain ⟨y0, y1, y2, y3, y4⟩ := b
  go_enter Try.func41, Try.ntmps41
  go_upto_region 1 with fail
  obtain ⟨W0, hW0⟩ : ∃ W0, W0 = (w.alloc (.cells (cC ⟨x0, x1, x2, x3, x4⟩) 26)).alloc (.cells (cC ⟨y0, y1, y2, y3, y4⟩) 26) := ⟨_, rfl⟩
  rw [← hW0] at HT ⊢
  clear hW0
  have hL := HT.out.full
  go_region_held3 (fun W => Two w W ⟨x0, x1, x2, x3, x4⟩ ⟨y0, y1, y2, y3, y4⟩ ∧ W.cell? ⟨w.heap.size, 0, none⟩ = some (.int .i64 x0) ∧ W.cell? ⟨w.heap.size, 1, none⟩ = some (.int .i64 x1) ∧ W.cell? ⟨w.heap.size, 2, none⟩ = some (.int .i64 x2) ∧ W.cell? ⟨w.heap.size, 3, none⟩ = some (.int .i64 x3) ∧ W.cell? ⟨w.heap.size, 4, none⟩ = some (.int .i64 x4) ∧ W.cell? ⟨w.heap.size + 1, 0, none⟩ = some (.int .i64 y0) ∧ W.cell? ⟨w.heap.size + 1, 1, none⟩ = some (.int .i64 y1) ∧ W.cell? ⟨w.heap.size + 1, 2, none⟩ = some (.int .i64 y2) ∧ W.cell? ⟨w.heap.size + 1, 3, none⟩ = some (.int .i64 y3) ∧ W.cell? ⟨w.heap.size + 1, 4, none⟩ = some (.int .i64 y4))
    ((refine Two.full ?_; first | exact HU.out | exact HT.out | exact Two.below HT.out (below_drew1 (Below.refl _ _)) | exact Two.below HT.out (below_alloc (below_drew1 (Below.refl _ _)) _) | exact Two.below HT.out (below_drew1 (below_alloc (Below.refl _ _) _))))
    (first
      | (go_at_call 52; refine (cmp_ok _ _ _).mono ?_; rintro e w6 ⟨rfl, rfl⟩)
      | (go_at_call 51; go_loud (refine (or5W W0 3 _ _ _ _ _).mono ?_; rintro e w7 ⟨rfl, hb⟩; have HU := Lib.hid (Two.below HT.out hb); clear hb))) 
  go_wp2
  go_ret
  exact ⟨rfl, HU.out.bel⟩
end Go.Proofs.Ytieaealkdjnolaa.P
