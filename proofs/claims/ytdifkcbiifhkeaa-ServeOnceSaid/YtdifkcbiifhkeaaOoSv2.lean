/- The table of tickets: New, ready, slot. -/
import Derived.Test.YtdifkcbiifhkeaaOoSv1
import Derived.Test.YtdifkcbiifhkeaaOoLemShape
namespace Go.Proofs.Ytdifkcbiifhkeaa.P
open Go.RowKit Go.Maps Go.Proofs.YtdifkcbiifhkeaaW.PrintWords Go.Proofs.YtdifkcbiifhkeaaW.PrintLast Go.Proofs.YtdifkcbiifhkeaaW.PrintMore
set_option linter.unusedVariables false
set_option linter.unusedSimpArgs false
attribute [local go_sem ↓] Go.wp_at_zero Go.wp_at_succ
/-- what is wrong with a ticket -/
def tchk (t : Tk) : Int := if Lem.chk t.k t.b t.m t.q t.n = 0 then (if t.id < 0 then 1 else (if t.id > 4294967295 then 1 else (if t.c < 1 then 1 else (if t.c > 64 then 1 else 0)))) else Lem.chk t.k t.b t.m t.q t.n
theorem tchk_f (k : Nat) (hk : 10 ≤ k) (t : Tk) : serve_Check.f k t.id t.k t.b t.m t.q t.n t.c = some (tchk t) := by
  unfold serve_Check.f tchk
  rw [Lem.check_f k hk, Option.bind_some]
  repeat' split
  all_goals rfl
theorem scheck_ok (t : Tk) (w : World) : Calls Try.prog 20 #[.agg t.C] w fun e w' => e = .returned (.int .i64 (tchk t)) ∧ Below w.heap.size w w' :=
  (serve_Check.calls 10 t.id t.k t.b t.m t.q t.n t.c _ w (tchk_f 10 (by omega) t)).mono fun e w' ⟨he, hb⟩ => ⟨he, by first | exact hb | exact hb.below⟩
theorem ready_ok (g : Nat) (t : Tk) (w : World) (mv cv : Value) (h : w.heap[g]? = some (.cells #[mv, cv, .bool true] 46 (0, 0))) : Calls Try.prog 12 #[.pointer (some ⟨g, 0, none⟩), .agg t.C] w fun e w' => e = .returned (.int .i64 (tchk t)) ∧ Below w.heap.size w w' := by
  have HC := Lib.hid (fun W => scheck_ok t W)
  obtain ⟨-, -, c2, -⟩ := cells_3 (blk_alloc h (.cells t.C 30))
  go_enter Try.func12, Try.ntmps12
  go_wp2_with (go_at_call 20; (with_reducible refine (HC.out _).mono ?_); rintro e w1 ⟨rfl, hb⟩)
  go_ret
  exact ⟨rfl, below_step (below_alloc (Below.refl _ _) _) hb⟩
theorem new_ok (w : World) : Calls Try.prog 4 #[] w fun e w' => ∃ g mb, e = .returned (.pointer (some ⟨g, 0, none⟩)) ∧ TabAt w w' g mb 0 (.map []) (fun _ => none) (fun _ => Sl.new 0) 0 ∧ Below w.heap.size w w' := by
  have hmm := @run_makeMap Try.prog
  go_enter Try.func4, Try.ntmps4
  go_wp2
  go_ret
  have h1 := heap_alloc_new (w.alloc (.map #[] 0)) (.cells #[.map (some w.heap.size), .int .i64 0, .bool true] 46)
  have hs : (w.alloc (.map #[] 0)).heap.size = w.heap.size + 1 := by simp
  have h2 := World.ownsMap_made (H := Unit) w Try.prog 3 PR
  have hB := below_alloc (below_alloc (Below.refl w.heap.size w) (.map #[] 0)) (.cells #[.map (some w.heap.size), .int .i64 0, .bool true] 46)
  rw [hs] at h1
  refine ⟨w.heap.size + 1, w.heap.size, rfl, ⟨h1, OwnP.below h2 (below_alloc (Below.refl _ _) _), hasP_empty, isMap_empty, ⟨by omega, Nat.le_refl _⟩, (fun k b hk => by cases hk), (fun k k' b hk => by cases hk)⟩, hB⟩
theorem chg_grown {S : Nat → Prop} {w w1 : World} {mb : Nat} (h : w.grownBy w1 (some mb)) (hS : S mb) : Chg S w w1 := (Chg.refl S w).grown h (fun k e => .inl (by injection e with e; rw [← e]; exact hS))
theorem TabAt.begun {w0 w w1 : World} {g mb n : Nat} {D : DU} {M : Sm} {F : Ss} {count id : Int} (h : TabAt w0 w g mb n D M F count) (hm : M id = none)
    (hO : OwnP w1 mb (n + 1) (D.put (.int .i64 id) (.lit (.int .i64 (w.heap.size : Int))))) (hG : ((w.setCell ⟨g, 1, none⟩ (.int .i64 (count + 1))).alloc (.cells (Sl.new (count + 1)).C 50)).grownBy w1 (some mb)) :
    TabAt w0 w1 g mb (n + 1) (D.put (.int .i64 id) (.lit (.int .i64 (w.heap.size : Int)))) (putP M id w.heap.size) (fun x => if x = w.heap.size then Sl.new (count + 1) else F x) (count + 1) ∧ Chg (fun k => k = g ∨ k = mb) w w1 := by
  have hgm : g ≠ mb := own_neP h.own h.blk
  have hge := h.ge
  have hlt := blk_lt h.blk
  have hml := h.own.lt
  have hsz : (w.setCell ⟨g, 1, none⟩ (.int .i64 (count + 1))).heap.size = w.heap.size := by simp
  have hnew := heap_alloc_new (w.setCell ⟨g, 1, none⟩ (.int .i64 (count + 1))) (.cells (Sl.new (count + 1)).C 50)
  rw [hsz] at hnew
  have hb1 := blk_grown (blk_alloc (blk_put h.blk 1 (.int .i64 (count + 1)) rfl) (.cells (Sl.new (count + 1)).C 50)) hG (fun e => hgm (by injection e))
  refine ⟨⟨hb1, hO, h.has.put h.ismap id w.heap.size, IsMap.put h.ismap _ _, h.ge, ?_, ?_⟩, (((Chg.refl _ w).set (.inl rfl)).alloc _).trans (chg_grown hG (.inr rfl))⟩
  · intro k b hk
    unfold putP at hk
    by_cases e : k = id
    · rw [if_pos e] at hk
      obtain rfl := Option.some.inj hk
      rw [if_pos rfl]
      exact ⟨blk_grown hnew hG (fun e => by injection e with e; omega), by omega⟩
    · rw [if_neg e] at hk
      obtain ⟨h1, h2⟩ := h.slots k b hk
      have hbl := blk_lt h1
      rw [if_neg (by omega)]
      exact ⟨blk_grown (blk_alloc (blk_far h1 (p := ⟨g, 1, none⟩) (blk_ne h1 h.blk (by decide)) (.int .i64 (count + 1))) _) hG (fun e => own_neP h.own h1 (by injection e)), h2⟩
  · intro k k' b hk hk'
    unfold putP at hk hk'
    by_cases e : k = id
    · by_cases e' : k' = id
      · rw [e, e']
      · rw [if_pos e] at hk
        rw [if_neg e'] at hk'
        obtain rfl := Option.some.inj hk
        exact absurd (blk_lt (h.slots k' _ hk').1) (Nat.lt_irrefl _)
    · by_cases e' : k' = id
      · rw [if_neg e] at hk
        rw [if_pos e'] at hk'
        obtain rfl := Option.some.inj hk'
        exact absurd (blk_lt (h.slots k _ hk).1) (Nat.lt_irrefl _)
      · rw [if_neg e] at hk
        rw [if_neg e'] at hk'
        exact h.one k k' b hk hk'
theorem slot_there (w0 w : World) (g mb n : Nat) (D : DU) (M : Sm) (F : Ss) (count id : Int) (b : Nat) (h : TabAt w0 w g mb n D M F count) (hk : (Lit.int .i64 id).wf = true) (hm : M id = some b) : Calls Try.prog 13 #[.pointer (some ⟨g, 0, none⟩), .int .i64 id] w fun e w' => e = .returned (.tuple #[.pointer (some ⟨b, 0, none⟩), .int .i64 0]) ∧ Below w.heap.size w w' := by
  obtain ⟨c0, c1, c2, f0, f1, f2⟩ := cells_3 h.blk
  have hl := lookP_run h.own h.has hk
  rw [hm] at hl
  simp only [lookP] at hl
  go_enter Try.func13, Try.ntmps13
  go_wp2
  go_ret2
  exact ⟨rfl, Below.refl _ _⟩
set_option maxRecDepth 100000 in
theorem slot_new (w0 w : World) (g mb n : Nat) (D : DU) (M : Sm) (F : Ss) (count id : Int) (h : TabAt w0 w g mb n D M F count) (hk : (Lit.int .i64 id).wf = true) (hm : M id = none) (hs : Maps.size D < 64) (hn : n < maxLen) (hc : 0 ≤ count ∧ count < 1000000) : Calls Try.prog 13 #[.pointer (some ⟨g, 0, none⟩), .int .i64 id] w fun e w' => ∃ b D', e = .returned (.tuple #[.pointer (some ⟨b, 0, none⟩), .int .i64 0]) ∧ w.heap.size ≤ b ∧ TabAt w0 w' g mb (n + 1) D' (putP M id b) (fun x => if x = b then Sl.new (count + 1) else F x) (count + 1) ∧ D' = D.put (.int .i64 id) (.lit (.int .i64 (b : Int))) ∧ Chg (fun k => k = g ∨ k = mb) w w' := by
  obtain ⟨c0, c1, c2, f0, f1, f2⟩ := cells_3 h.blk
  have hl := lookP_run h.own h.has hk
  rw [hm] at hl
  simp only [lookP] at hl
  have hlen := h.own.len Try.underlying44 3
  have hcc : IntKind.i64.wrap (count + 1) = count + 1 := by rw [IntKind.wrap_i64]; omega
  have HO := Lib.hid ((h.own.setCell (a := ⟨g, 1, none⟩) (fun e => own_neP h.own h.blk e.symm) (.int .i64 (count + 1))).alloc (.cells (Sl.new (count + 1)).C 50))
  obtain ⟨p0, -⟩ := cells_3 (blk_alloc (blk_put h.blk 1 (.int .i64 (count + 1)) rfl) (.cells (Sl.new (count + 1)).C 50))
  have hd : ¬ (64 : Int) ≤ (Maps.size D : Int) := by omega
  have HK := Lib.hid hk
  clear hk
  go_enter Try.func13, Try.ntmps13
  go_wp2_with (at_mapUpdate; go_loud (refine wpList_mapUpdate_own _ rfl _ _ _ 44 rfl 3 47 lawI Try.underlying44 _ mb n D rfl HO.out hn _ _ _ rfl rfl (keyOf_int_mk Try.underlying3 HK.out) (.lit (.int .i64 (w.heap.size : Int))) [] rfl ?_); intro w1 hown1 hgrow1; have HO1 := Lib.hid hown1; have HG1 := Lib.hid hgrow1; clear hown1 hgrow1)
  obtain ⟨hT, hC⟩ := h.begun hm HO1.out HG1.out
  go_ret2
  exact ⟨w.heap.size, rfl, Nat.le_refl _, _, hT, rfl, hC⟩
theorem slot_full (w0 w : World) (g mb n : Nat) (D : DU) (M : Sm) (F : Ss) (count id : Int) (h : TabAt w0 w g mb n D M F count) (hk : (Lit.int .i64 id).wf = true) (hm : M id = none) (hs : 64 ≤ Maps.size D) : Calls Try.prog 13 #[.pointer (some ⟨g, 0, none⟩), .int .i64 id] w fun e w' => e = .returned (.tuple #[.pointer none, .int .i64 16]) ∧ Below w.heap.size w w' := by
  obtain ⟨c0, c1, c2, f0, f1, f2⟩ := cells_3 h.blk
  have hl := lookP_run h.own h.has hk
  rw [hm] at hl
  simp only [lookP] at hl
  have hlen := h.own.len Try.underlying44 3
  have hd : (64 : Int) ≤ (Maps.size D : Int) := by omega
  go_enter Try.func13, Try.ntmps13
  go_wp2
  go_ret2
  exact ⟨rfl, Below.refl _ _⟩
end Go.Proofs.Ytdifkcbiifhkeaa.P
