/- The pool: a bin is made (slices.Insert, open). -/
import Derived.Test.YtieaealkdjnolaaPaPl4
namespace Go.Proofs.Ytieaealkdjnolaa.P
open Go.RowKit Go.Maps Go.Proofs.YtieaealkdjnolaaW.PrintWords Go.Proofs.YtieaealkdjnolaaW.PrintLast Go.Proofs.YtieaealkdjnolaaW.PrintMore
set_option linter.unusedVariables false
set_option linter.unusedSimpArgs false
attribute [local go_sem ↓] Go.wp_at_zero Go.wp_at_succ
/-- rows of pointers -/
def kPtr : Kd Nat where
  sz := 1
  E := []
  K _ x cs := cs = [.pointer (some ⟨x, 0, none⟩)]
  M _ _ _ x cs := cs = [.pointer (some ⟨x, 0, none⟩)]
  K_len := fun h => by rw [h]; rfl
  K_one := fun h u hu => by rw [h] at hu; obtain rfl := List.mem_singleton.1 hu; rfl
  K_below := fun _ h => h
  K_of_M := fun h => h
  M_mono := fun _ h => h
  M_bound := fun h => h
  M_move := fun _ h => h
  M_lower := fun _ h => h
theorem info_ptr : (Try.prog.info? 67).map (fun i => (i.zero, i.size, i.bytes)) = some (some (.pointer none), 1, 8) := by kernel_rfl
theorem ptr_row1 {w : World} {base : Nat} {ok : Nat → Prop} {v : Value} {p : Nat} (h : kPtr.R 67 w base ok v [p]) : ∃ r c, v = .slice (some ⟨r, 0, none⟩) 1 c ∧ 1 ≤ c ∧ base ≤ r ∧ ∃ cs, w.heap[r]? = some (.cells cs 67 (0, 0)) ∧ cs[0]? = some (.pointer (some ⟨p, 0, none⟩)) := by
  obtain ⟨-, inner, hown, hr⟩ := h
  have h1 := hr.2 0 p rfl
  have hi : inner = [.pointer (some ⟨p, 0, none⟩)] := by
    have hl := hr.1
    have h2 : (inner.drop (0 * 1)).take 1 = [.pointer (some ⟨p, 0, none⟩)] := h1
    have hl2 : inner.length = 1 := by simpa [kPtr] using hl
    match inner, hl2 with
    | [x], _ => simpa using h2
  subst hi
  obtain ⟨-, ⟨-, h0⟩ | ⟨g, cap, cur, hv, hge, hblk, hcap, -, hsz, htake⟩⟩ := hown
  · simp at h0
  · refine ⟨g, cap, hv, hcap, hge, cur, hblk, ?_⟩
    have : (cur.toList.take (1 * 1))[0]? = some (.pointer (some ⟨p, 0, none⟩)) := by
      have e : cur.toList.take (1 * 1) = [.pointer (some ⟨p, 0, none⟩)] := htake
      rw [e]; rfl
    rw [List.getElem?_take_of_lt (by omega)] at this
    simpa using this
theorem ptr_C {w : World} {k p t : Nat} (h : w.heap[k]? = some (.cells #[.pointer (some ⟨p, 0, none⟩)] t (0, 0))) : kPtr.C w (some ⟨k, 0, none⟩) 1 [p] := by
  refine ⟨rfl, by omega, fun _ => ⟨_, rfl, fun j q hj => ?_⟩⟩
  have hj0 : j = 0 := by
    have := (List.getElem?_eq_some_iff.1 hj).1
    simp at this; exact this
  subst hj0
  obtain rfl : p = q := by simpa using hj
  refine ⟨[.pointer (some ⟨p, 0, none⟩)], rfl, rfl, fun i u hu => ?_⟩
  have hi : i = 0 := by
    have := (List.getElem?_eq_some_iff.1 hu).1
    simp at this; exact this
  subst hi
  obtain rfl : Value.pointer (some ⟨p, 0, none⟩) = u := by simpa using hu
  have := (cells_1 h).1
  simpa [add_plain, kPtr] using this
set_option maxRecDepth 100000 in
theorem ins_first (k p : Nat) (w : World) (h : w.heap[k]? = some (.cells #[.pointer (some ⟨p, 0, none⟩)] 67 (0, 0))) : Calls Try.prog 43 #[.slice none 0 0, .int .i64 0, .slice (some ⟨k, 0, none⟩) 1 1] w fun e w' => ∃ r c, e = .returned (.slice (some ⟨r, 0, none⟩) 1 c) ∧ 1 ≤ c ∧ w.heap.size ≤ r ∧ (∃ cs, w'.heap[r]? = some (.cells cs 67 (0, 0)) ∧ cs[0]? = some (.pointer (some ⟨p, 0, none⟩))) ∧ Below w.heap.size w w' := by
  have HC := Lib.hid (ptr_C h)
  clear h
  go_enter Try.func43, Try.ntmps43
  go_wp2_with (at_builtin; go_loud (refine Kd.R_append_rows kPtr (Rr := kPtr.K w) (w0 := w) w.heap.size rfl (.tmp 23) (.tmp 24) 50 67 (.pointer none) 8 rfl Try.underlying50 info_ptr rfl (by decide) (by omega) (.slice none 0 0) [] [p] (some ⟨k, 0, none⟩) 1 1 (fun _ => True) (fun _ => False) rfl rfl ?aO ?aR ?aK (fun _ hk => hk.elim) (fun _ _ => trivial) ?aB ?aS ?aL ?_; (case aO => exact Kd.R_nil _ _ _ _ _); (case aR => exact HC.out); (case aK => exact fun _ _ h => h); (case aB => exact Below.refl _ _); (case aS => simp); (case aL => simp); intro v w1 ho hb hg hat; have HO := Lib.hid (ptr_row1 ho); have HB := Lib.hid hb; clear ho hb hg hat))
  go_ret
  obtain ⟨r, c, rfl, hc, hr, hcs⟩ := HO.out
  exact ⟨r, c, rfl, hc, hr, hcs, HB.out⟩
theorem open_there {w0 w : World} {g : Nat} {c : S26} {b : Bn} (h : BinAt w0 w g c b) : Calls Try.prog 24 #[.pointer (some ⟨g, 0, none⟩), .agg (cC c)] w fun e w' => e = .returned (.tuple #[.pointer (some ⟨b.p, 0, none⟩), .int .i64 0]) ∧ Below w.heap.size w w' := by
  have HB0 := Lib.hid (below_alloc (Below.refl w.heap.size w) (.cells (cC c) 26))
  obtain ⟨a0, a1, a2, a3, a4, -⟩ := cells_5 (heap_alloc_new w (.cells (cC c) 26))
  have HF := Lib.hid (find_one (h.below HB0.out))
  clear h
  go_enter Try.func24, Try.ntmps24
  go_wp2_with (go_at_call 23; go_loud (refine HF.out.mono ?_); rintro e w1 ⟨rfl, hb⟩; have HB1 := Lib.hid (below_step HB0.out hb); clear hb)
  go_ret2
  exact ⟨rfl, HB1.out⟩
/-- a bin that is new -/
abbrev Bn.new (r cap p mb : Nat) (X : Int → S32) : Bn := ⟨r, cap, p, mb, 0, .map [], fun _ => none, X, 0, 0, 0⟩
theorem BinAt.born {w0 w w2 W2 w3 : World} {g r cap : Nat} {c : S26} {X : Int → S32} (hP : w0.heap.size ≤ g) (hw : w0.heap.size ≤ w.heap.size) (hb : Below w.heap.size w w2) (hB2 : Below w2.heap.size w2 W2) (hK2 : W2.heap[w2.heap.size + 1]? = some (.cells (bC c w2.heap.size 0 0 0) 71 (0, 0))) (hO2 : OwnV W2 w2.heap.size 0 (.map [])) (hP2 : W2.heap[g]? = some (.cells #[.slice none 0 0, .bool true] 52 (0, 0)))
    (hc : 1 ≤ cap) (hr : W2.heap.size ≤ r) (hcs : ∃ cs, w3.heap[r]? = some (.cells cs 67 (0, 0)) ∧ cs[0]? = some (.pointer (some ⟨w2.heap.size + 1, 0, none⟩))) (hb3 : Below W2.heap.size W2 w3) :
    w.heap.size ≤ r ∧ w.heap.size ≤ w2.heap.size ∧ BinAt w0 (w3.setCell ⟨g, 0, none⟩ (.slice (some ⟨r, 0, none⟩) 1 cap)) g c (Bn.new r cap (w2.heap.size + 1) w2.heap.size X) ∧ Chg (fun k => k = g) w (w3.setCell ⟨g, 0, none⟩ (.slice (some ⟨r, 0, none⟩) 1 cap)) := by
  obtain ⟨cs, hcs, hcs0⟩ := hcs
  have h1 := hb.size
  have h2 := hB2.size
  have hP3 := blk_below hP2 hb3
  have hK3 := blk_below hK2 hb3
  have hO3 := hO2.below hb3
  refine ⟨by omega, h1, ⟨blk_put hP3 0 _ rfl, ⟨cs, blk_far hcs (blk_ne hcs hP3 (by decide)) _, hcs0⟩, hc, blk_far hK3 (blk_ne hK3 hP3 (by decide)) _, hO3.setCell (fun e => own_neV hO3 hP3 e.symm) _, hasV_empty, isMap_empty, ⟨hP, ?_, ?_, ?_⟩, (fun i v hv => by cases hv), (fun _ _ => rfl), ?_⟩, (Chg.of_below (below_step (below_step hb hB2) hb3) _).set rfl⟩
  · show w0.heap.size ≤ r; omega
  · show w0.heap.size ≤ w2.heap.size + 1; omega
  · show w0.heap.size ≤ w2.heap.size; omega
  · show (0 : Int) ≤ 0 ∧ (0 : Int) ≤ 100000 ∧ (0 : Int) ≤ 0 ∧ (0 : Int) ≤ 1099511627776 ∧ (0 : Int) ≤ 0 ∧ (0 : Int) ≤ 0 ∧ 0 ≤ 100000; omega
set_option maxRecDepth 100000 in
set_option maxHeartbeats 1000000 in
theorem open_new {w0 w : World} {g : Nat} {c : S26} (h : PoolAt w0 w g c none) (X : Int → S32) (hw : w0.heap.size ≤ w.heap.size) : Calls Try.prog 24 #[.pointer (some ⟨g, 0, none⟩), .agg (cC c)] w fun e w' => ∃ r cap p mb, e = .returned (.tuple #[.pointer (some ⟨p, 0, none⟩), .int .i64 0]) ∧ w.heap.size ≤ r ∧ w.heap.size ≤ p ∧ w.heap.size ≤ mb ∧ BinAt w0 w' g c (Bn.new r cap p mb X) ∧ Chg (fun k => k = g) w w' := by
  have HP := Lib.hid h
  have HB0 := Lib.hid (show Pc w (w.alloc (.cells (cC c) 26)) w.heap.size g c (.slice none 0 0) (.bool true) from ⟨below_alloc (Below.refl _ _) _, heap_alloc_new w _, blk_alloc h.1 _⟩)
  have HW := Lib.hid hw
  clear h hw
  obtain ⟨y0, y1, y2, y3, y4⟩ := c
  have HF := Lib.hid (fun W h => find_empty g ⟨y0, y1, y2, y3, y4⟩ W (.bool true) h)
  have HO := Lib.hid (fun W => bs_zerofn2 ⟨y0, y1, y2, y3, y4⟩ W)
  have hL := HB0.out.full
  have hmm := @run_makeMap Try.prog
  go_enter Try.func24, Try.ntmps24
  go_wp2_with (go_at_call 23; go_loud (refine (HF.out _ HB0.out.kp).mono ?_); rintro e w1 ⟨rfl, hb⟩; have HB1 := Lib.hid (HB0.out.below hb); obtain ⟨-, d0, d1, d2, d3, d4, d5⟩ := HB1.out.full; clear hb hL)
  have hL1 := HB1.out.full
  go_region_held3 (fun W => Pc w W w.heap.size g ⟨y0, y1, y2, y3, y4⟩ (.slice none 0 0) (.bool true) ∧ W.cell? ⟨w.heap.size, 0, none⟩ = some (.int .i64 y0) ∧ W.cell? ⟨w.heap.size, 1, none⟩ = some (.int .i64 y1) ∧ W.cell? ⟨w.heap.size, 2, none⟩ = some (.int .i64 y2) ∧ W.cell? ⟨w.heap.size, 3, none⟩ = some (.int .i64 y3) ∧ W.cell? ⟨w.heap.size, 4, none⟩ = some (.int .i64 y4) ∧ W.cell? ⟨g, 0, none⟩ = some (.slice none 0 0))
    ((refine Pc.full ?_; first | exact HU.out | exact HB1.out | exact Pc.below HB1.out (below_drew1 (Below.refl _ _))))
    ((go_at_call 39; go_loud (refine (HO.out _).mono ?_; rintro e w2 ⟨rfl, hb⟩; have HU := Lib.hid (Pc.below HB1.out (below_step (below_drew1 (Below.refl _ _)) hb)); clear hb)))
  clear d0 d1 d2 d3 d4 d5 hL1
  obtain ⟨-, d0, d1, d2, d3, d4, d5⟩ := HU.out.full
  have hs1 : (w2.alloc (.map #[] 0)).heap.size = w2.heap.size + 1 := by simp
  have hgf := blk_frozen HU.out.kp 0
  obtain ⟨W2, hW2⟩ : ∃ W2, W2 = (w2.alloc (.map #[] 0)).alloc (.cells (bC ⟨y0, y1, y2, y3, y4⟩ w2.heap.size 0 0 0) 71) := ⟨_, rfl⟩
  have hB2 : Below w2.heap.size w2 W2 := by rw [hW2]; exact below_alloc (below_alloc (Below.refl _ _) _) _
  have hK2 : W2.heap[w2.heap.size + 1]? = some (.cells (bC ⟨y0, y1, y2, y3, y4⟩ w2.heap.size 0 0 0) 71 (0, 0)) := by
    rw [hW2]
    have h := heap_alloc_new (w2.alloc (.map #[] 0)) (.cells (bC ⟨y0, y1, y2, y3, y4⟩ w2.heap.size 0 0 0) 71)
    rw [hs1] at h
    exact h
  have hO2 : OwnV W2 w2.heap.size 0 (.map []) := by
    rw [hW2]
    exact (World.ownsMap_made w2 Try.prog 3 RV).alloc _
  have hP2 : W2.heap[g]? = some (.cells #[.slice none 0 0, .bool true] 52 (0, 0)) := by rw [hW2]; exact blk_alloc (blk_alloc HU.out.kp _) _
  obtain ⟨p0, -⟩ := cells_2 hP2
  rw [hW2] at p0
  have H2 := Lib.hid (show Below w2.heap.size w2 W2 ∧ W2.heap[w2.heap.size + 1]? = some (.cells (bC ⟨y0, y1, y2, y3, y4⟩ w2.heap.size 0 0 0) 71 (0, 0)) ∧ OwnV W2 w2.heap.size 0 (.map []) ∧ W2.heap[g]? = some (.cells #[.slice none 0 0, .bool true] 52 (0, 0)) from ⟨hB2, hK2, hO2, hP2⟩)
  clear hB2 hK2 hO2 hP2 d5
  have HI : Go.RowKit.Hid (∀ (k : Nat) (hk : k = W2.heap.size) (W3 : World), W3 = W2.alloc (.cells #[.pointer (some ⟨w2.heap.size + 1, 0, none⟩)] 67) → Calls Try.prog 43 #[.slice none 0 0, .int .i64 0, .slice (some ⟨k, 0, none⟩) 1 1] W3 fun e w' => ∃ r c, e = .returned (.slice (some ⟨r, 0, none⟩) 1 c) ∧ 1 ≤ c ∧ W2.heap.size ≤ r ∧ (∃ cs, w'.heap[r]? = some (.cells cs 67 (0, 0)) ∧ cs[0]? = some (.pointer (some ⟨w2.heap.size + 1, 0, none⟩))) ∧ Below W2.heap.size W2 w') := Lib.hid (fun k hk W3 e3 => by
    subst e3
    subst hk
    refine (ins_first W2.heap.size (w2.heap.size + 1) _ (heap_alloc_new W2 _)).mono ?_
    rintro e w' ⟨r, c, he, hc, hr, hcs, hb⟩
    have hsz : (W2.alloc (.cells #[.pointer (some ⟨w2.heap.size + 1, 0, none⟩)] 67)).heap.size = W2.heap.size + 1 := by simp
    exact ⟨r, c, he, hc, by omega, hcs, below_step (below_alloc (Below.refl _ _) _) hb⟩)
  rw [hW2] at HI
  have HW2 := Lib.hid hW2
  rw [hW2] at H2
  clear hW2
  go_wp2_with (go_at_call 43; go_loud (refine (HI.out _ (by simp) _ rfl).mono ?_); rintro e w3 ⟨r, cap, rfl, hc, hr, hcs, hb⟩; have H3 := Lib.hid (And.intro hc (And.intro hr (And.intro hcs hb))); obtain ⟨q0, -, f0, -⟩ := cells_2 (blk_below H2.out.2.2.2 hb); clear hc hr hcs hb)
  go_ret2
  have hsz : ((w2.alloc (.map #[] 0)).alloc (.cells (bC ⟨y0, y1, y2, y3, y4⟩ w2.heap.size 0 0 0) 71)).heap.size = w2.heap.size + 1 + 1 := by simp
  obtain ⟨k1, k2, k3, k4⟩ := BinAt.born (X := X) HP.out.2 HW.out HU.out.bel H2.out.1 H2.out.2.1 H2.out.2.2.1 H2.out.2.2.2 H3.out.1 H3.out.2.1 H3.out.2.2.1 H3.out.2.2.2
  exact ⟨r, cap, w2.heap.size + 1, w2.heap.size, rfl, k1, by omega, k2, k3, k4⟩
end Go.Proofs.Ytieaealkdjnolaa.P
