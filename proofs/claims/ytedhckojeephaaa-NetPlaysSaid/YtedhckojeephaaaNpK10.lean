/- The document's network (package trefoilref12): other bytes at a place. -/
import Derived.Test.YtedhckojeephaaaNpPx0
import Derived.Test.YtedhckojeephaaaNpK0
import Derived.Test.YtedhckojeephaaaNpK2
import Derived.Test.YtedhckojeephaaaNpK9
namespace Go.Proofs.Ytedhckojeephaaa.P
open Go.RowKit Go.Proofs.YtedhckojeephaaaW.PrintWords Go.Proofs.YtedhckojeephaaaW.PrintLast Go.Proofs.YtedhckojeephaaaW.PrintMore
set_option linter.unusedVariables false
set_option linter.unusedSimpArgs false
attribute [local go_sem ↓] Go.wp_at_zero Go.wp_at_succ

/-! ### ref_net_put: functions 46 to 57 -/
/-- the document's two lists, as they are read -/
structure RefIs (w : World) (A0 A1 : Option Addr) (c0 c1 : Nat) (F : Bool → List ByteArray) : Prop where
  l0 : (F false).length ≤ c0
  l1 : (F true).length ≤ c1
  r0 : Kd.C Kd.string w A0 (F false).length (F false)
  r1 : Kd.C Kd.string w A1 (F true).length (F true)
theorem RefIs.pick {w : World} {A0 A1 : Option Addr} {c0 c1 : Nat} {F : Bool → List ByteArray} (h : RefIs w A0 A1 c0 c1 F) (b : Bool) : ∃ A c, pickS b (.slice A0 (F false).length c0) (.slice A1 (F true).length c1) = .slice A (F b).length c ∧ (F b).length ≤ c ∧ Kd.C Kd.string w A (F b).length (F b) := by
  cases b
  · exact ⟨A0, c0, rfl, h.l0, h.r0⟩
  · exact ⟨A1, c1, rfl, h.l1, h.r1⟩
theorem RefIs.below {w w1 : World} {A0 A1 : Option Addr} {c0 c1 : Nat} {F : Bool → List ByteArray} (h : RefIs w A0 A1 c0 c1 F) (hb : Below w.heap.size w w1) : RefIs w1 A0 A1 c0 c1 F := ⟨h.l0, h.l1, Kd.C_below h.r0 hb, Kd.C_below h.r1 hb⟩
/-- a list made anew by the call -/
abbrev NewRow (w w' : World) (v : Value) (L : List ByteArray) : Prop := Kd.R Kd.string 9 w' w.heap.size (fun _ => True) v L
def PutAns (w : World) (b : Bool) (v0 v1 : Value) (L : List ByteArray) (e : Ending) (w' : World) : Prop := ∃ A c, e = .returned (putS b v0 v1 (.slice A L.length c)) ∧ NewRow w w' (.slice A L.length c) L ∧ Below w.heap.size w w'
theorem blk_at {W : World} {g : Nat} {o : Obj} (h : g = W.heap.size) : (W.alloc o).heap[g]? = some o := by
  rw [h]; exact heap_alloc_new W o
theorem R_empty_at {W : World} {g base : Nat} (hg : W.heap[g]? = some (.cells #[] 9 (0, 0))) (hbase : base ≤ g) : Kd.R Kd.string 9 W base (fun _ => True) (.slice (some ⟨g, 0, none⟩) 0 0) ([] : List ByteArray) :=
  ⟨fun k hk => trivial, [], ⟨by simp, .inr ⟨g, 0, #[], rfl, hbase, hg, Nat.le_refl _, by unfold maxLen; omega, by simp, by simp⟩⟩, Reps.none _ _⟩
theorem putS_pair (b : Bool) (A0 A1 A : Option Addr) (n0 n1 n c0 c1 c : Nat) : ∃ B0 m0 d0 B1 m1 d1, putS b (.slice A0 n0 c0) (.slice A1 n1 c1) (.slice A n c) = .agg #[.slice B0 m0 d0, .slice B1 m1 d1] := by cases b <;> exact ⟨_, _, _, _, _, _, rfl⟩
set_option maxHeartbeats 1600000 in
set_option maxRecDepth 100000 in
theorem r_put (A0 A1 : Option Addr) (c0 c1 : Nat) (F : Bool → List ByteArray) (t : Int) (b : Bool) (ht : t = toOf b) (i : Nat) (s : ByteArray) (hi : i < (F b).length) (w : World) (hR : RefIs w A0 A1 c0 c1 F) (hs : (F b).length * 16 ≤ 140737488355328) :
    Calls Try.prog 57 #[.agg #[.slice A0 (F false).length c0, .slice A1 (F true).length c1], .int .i64 t, .int .i64 (i : Int), .string s] w (PutAns w b (.slice A0 (F false).length c0) (.slice A1 (F true).length c1) ((F b).set i s)) := by
  obtain ⟨A, c, hp, hl, hr⟩ := hR.pick b
  have HP := Lib.hid hp
  have HT := Lib.hid ht
  have HR := Aside0.mk hr
  have hi0 : (0 : Int) ≤ (i : Int) := by omega
  have hi1 : (i : Int) < ((F b).length : Int) := by omega
  have HS := Aside0.mk hs
  have hk0 := Aside0.mk (blk_alloc (heap_alloc_new w (.cells #[.slice A0 (F false).length c0, .slice A1 (F true).length c1] 77)) (.cells #[.slice none 0 0, .slice none 0 0] 77))
  have hk1 := Aside0.mk (blk_snd w (.cells #[.slice A0 (F false).length c0, .slice A1 (F true).length c1] 77) (.slice none 0 0) (.slice none 0 0))
  have hb0 := Aside0.mk (below_alloc (below_alloc (Below.refl w.heap.size w) (.cells #[.slice A0 (F false).length c0, .slice A1 (F true).length c1] 77)) (.cells #[.slice none 0 0, .slice none 0 0] 77))
  clear hp ht hr hR hs
  go_enter Try.func57, Try.ntmps57
  go_wp2_with (first
    | (go_at_call 55; refine (r_to A0 A1 _ _ c0 c1 t b HT.out _).mono ?_; rintro e w1 ⟨rfl, hb⟩; rw [HP.out]; have HB1 := Aside0.mk hb; clear hb)
    | (at_builtin; refine Kd.R_append_rows Kd.string (Rr := Kd.string.K w) (w0 := w) w.heap.size rfl (.tmp 10) (.tmp 13) 27 9 (.string ⟨#[]⟩) 16 rfl Try.underlying27 info9 rfl (by decide) (by omega) (.slice (some ⟨w.heap.size + 2, 0, none⟩) 0 0) [] (F b) A (F b).length c (fun _ => True) (fun _ => False) rfl rfl ?aO ?aR ?aK (fun _ hk => hk.elim) (fun _ _ => trivial) ?aB ?aS ?aL ?_; (case aO => exact R_empty_at (blk_below (blk_at (by simp)) HB1.out) (by omega)); (case aR => exact Kd.C_below HR.out (below_step (below_alloc hb0.out _) HB1.out)); (case aK => exact fun _ _ h => h); (case aB => exact below_step (below_alloc hb0.out _) HB1.out); (case aS => exact (below_step (below_alloc hb0.out (.cells #[] 9)) HB1.out).size); (case aL => simpa using HS.out); intro v w2 ho hb hg hat; have HO := Aside0.mk ho; have HB2 := Aside0.mk hb; have HG := Aside0.mk hg; clear ho hb hg; rw [List.nil_append] at HO; obtain ⟨gv, cv, rfl, gvb, gvl, -⟩ := Kd.R_form HO.out (by omega); have hk2 := blk_grown (blk_below (blk_alloc hk0.out (.cells #[] 9)) HB1.out) HG.out (by simp [Value.ownBlock]); have hk3 := blk_grown (blk_below (blk_alloc hk1.out (.cells #[] 9)) HB1.out) HG.out (by simp [Value.ownBlock]); have HK2 := Aside0.mk hk2; have HK3 := Aside0.mk hk3; have gv0 : gv ≠ w.heap.size := fun e => Kd.R_ne HO.out hk2 (by decide) (by rw [e]; rfl); have gv1 : gv ≠ w.heap.size + 1 := fun e => Kd.R_ne HO.out hk3 (by decide) (by rw [e]; rfl); have gv0' : w.heap.size ≠ gv := gv0.symm; have gv1' : w.heap.size + 1 ≠ gv := gv1.symm; obtain ⟨hx, fx⟩ := Kd.R_celln ByteArray.empty HO.out (i : Int) hi0 hi1; rw [Int.toNat_natCast] at hx fx; obtain ⟨d0, d1, -⟩ := cells_2 hk2; obtain ⟨z0, z1, zf0, zf1⟩ := cells_2 hk3; clear hk2 hk3 hat)
    | (go_at_call 52; refine (r_with A0 A1 (some ⟨gv, 0, none⟩) _ _ (F b).length c0 c1 cv t b HT.out _).mono ?_; rintro e w3 ⟨rfl, hb⟩; obtain ⟨B0, m0, e0, B1, m1, e1, hpq⟩ := putS_pair b A0 A1 (some ⟨gv, 0, none⟩) (F false).length (F true).length (F b).length c0 c1 cv; rw [hpq]; have HPQ := Lib.hid hpq; have hkk := blk_below (blk_far HK3.out gv1' (.string s) (p := ⟨gv, i, none⟩)) hb; have HKK := Aside0.mk hkk; obtain ⟨y0, y1, yf0, yf1⟩ := cells_2 hkk; have HB3 := Aside0.mk hb; clear hb hkk hpq))
  obtain ⟨hput, hgput⟩ := Kd.R_putg HO.out (i : Int) s
  rw [Int.toNat_natCast] at hput
  have hlen : ((F b).set i s).length = (F b).length := List.length_set
  refine bodyPost_ret (results_cell_row rfl _ _ (w.heap.size + 1) 77 _ (0, 0) _ rfl (by simpa using blk_set (blk_set HKK.out 0 (.slice B0 m0 e0)) 1 (.slice B1 m1 e1)) Try.underlying77 rfl (by kernel_rfl)) rfl ?_
  refine ⟨some ⟨gv, 0, none⟩, cv, ?_, ?_, ?_⟩
  · rw [hlen, HPQ.out]
  · rw [hlen]
    have h1 := Kd.R_below hput HB3.out
    have h2 := Kd.R_set h1 HKK.out (by decide) 0 (.slice B0 m0 e0)
    exact Kd.R_set h2 (blk_set HKK.out 0 (.slice B0 m0 e0)) (by decide) 1 (.slice B1 m1 e1)
  · exact below_set (below_set (below_step (below_set HB2.out gvb) HB3.out) (by omega)) (by omega)
end Go.Proofs.Ytedhckojeephaaa.P
