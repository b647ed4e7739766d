/- The table of tickets: a ticket that was asked for stays as it is, whatever is asked and heard. -/
import Derived.Test.YtdifkcbiifhkeaaOoSw2
namespace Go.Proofs.Ytdifkcbiifhkeaa.P
open Go.RowKit Go.Maps Go.Proofs.YtdifkcbiifhkeaaW.PrintWords Go.Proofs.YtdifkcbiifhkeaaW.PrintLast Go.Proofs.YtdifkcbiifhkeaaW.PrintMore
set_option linter.unusedVariables false
set_option linter.unusedSimpArgs false
/-- what the own consumer knows of a slot is alike -/
def Stays (s s' : Sl) : Prop := s'.own = s.own ∧ s'.asked = s.asked ∧ s'.state = s.state ∧ s'.code = s.code ∧ s'.ep = s.ep ∧ s'.fi = s.fi ∧ s'.co = s.co
theorem Stays.refl (s : Sl) : Stays s s := ⟨rfl, rfl, rfl, rfl, rfl, rfl, rfl⟩
theorem Stays.hear (s : Sl) (t : Tk) : Stays s (s.hear t) := ⟨rfl, rfl, rfl, rfl, rfl, rfl, rfl⟩
theorem Stays.trans {a b c : Sl} (h : Stays a b) (k : Stays b c) : Stays a c := by
  obtain ⟨h1, h2, h3, h4, h5, h6, h7⟩ := h
  obtain ⟨k1, k2, k3, k4, k5, k6, k7⟩ := k
  exact ⟨k1.trans h1, k2.trans h2, k3.trans h3, k4.trans h4, k5.trans h5, k6.trans h6, k7.trans h7⟩
/-- the blocks that are a table's -/
def TabOf (g mb : Nat) (M : Sm) (k : Nat) : Prop := k = g ∨ k = mb ∨ ∃ j, M j = some k
/-- a table in which the slot of one ticket is settled as s -/
structure Sets (w0 w : World) (g mb n : Nat) (D : DU) (M : Sm) (F : Ss) (count id : Int) (p : Nat) (s : Sl) : Prop where
  tab : TabAt w0 w g mb n D M F count
  hm : M id = some p
  ha : (F p).asked = true
  st : Stays s (F p)
  bn : n ≤ 1000 ∧ 0 ≤ count ∧ count ≤ 1000
theorem ask_any (w0 w : World) (g mb n : Nat) (D : DU) (M : Sm) (F : Ss) (count id : Int) (p : Nat) (s : Sl) (t : Tk) (hS : Sets w0 w g mb n D M F count id p s) (hn : n < 1000 ∧ count < 1000) (hk : (Lit.int .i64 t.id).wf = true) :
    Calls Try.prog 5 #[.pointer (some ⟨g, 0, none⟩), .agg t.C] w fun e w' => ∃ v n' D' M' F' count', e = .returned (.int .i64 v) ∧ Sets w0 w' g mb n' D' M' F' count' id p s ∧ n' ≤ n + 1 ∧ count' ≤ count + 1 ∧ Chg (TabOf g mb M) w w' := by
  have same : ∀ (v : Int) (e : Ending) (w' : World), e = .returned (.int .i64 v) → Below w.heap.size w w' → ∃ v n' D' M' F' count', e = .returned (.int .i64 v) ∧ Sets w0 w' g mb n' D' M' F' count' id p s ∧ n' ≤ n + 1 ∧ count' ≤ count + 1 ∧ Chg (TabOf g mb M) w w' := fun v e w' he hb =>
    ⟨v, n, D, M, F, count, he, ⟨hS.tab.below hb, hS.hm, hS.ha, hS.st, hS.bn⟩, by omega, by omega, Chg.of_below hb _⟩
  by_cases hc : tchk t = 0
  · cases hm' : M t.id with
    | none =>
      by_cases hs : Maps.size D < 64
      · refine (ask_new w0 w g mb n D M F count t hS.tab hc hk hm' hs (by unfold maxLen; omega) ⟨hS.bn.2.1, by omega⟩).mono ?_
        rintro e w' ⟨he, b, hb, hT, hC⟩
        have hpl := blk_lt (hS.tab.slots id p hS.hm).1
        have hpb : p ≠ b := by omega
        have hid : id ≠ t.id := fun e => by have := hS.hm; rw [e, hm'] at this; cases this
        refine ⟨0, n + 1, _, _, _, count + 1, he, ⟨hT, ?_, ?_, ?_, by have := hS.bn; omega⟩, by omega, by omega, hC.mono (fun k _ hk => by rcases hk with hk | hk; exact .inl hk; exact .inr (.inl hk))⟩
        · unfold putP; rw [if_neg hid]; exact hS.hm
        · show (if p = b then _ else F p).asked = true
          rw [if_neg hpb]; exact hS.ha
        · show Stays s (if p = b then _ else F p)
          rw [if_neg hpb]; exact hS.st
      · exact (ask_full w0 w g mb n D M F count t hS.tab hc hk hm' (by omega)).mono fun e w' ⟨he, hb⟩ => same _ e w' he hb
    | some b =>
      cases ha' : (F b).asked with
      | true => exact (ask_dup w0 w g mb n D M F count b t hS.tab hc hk hm' ha').mono fun e w' ⟨he, hb⟩ => same _ e w' he hb
      | false =>
        refine (ask_there w0 w g mb n D M F count b t hS.tab hc hk hm' ha').mono ?_
        rintro e w' ⟨he, hT, hC⟩
        have hbp : p ≠ b := fun e => by rw [e] at hS; have := hS.ha; rw [ha'] at this; cases this
        refine ⟨0, n, D, M, _, count, he, ⟨hT, hS.hm, ?_, ?_, by have := hS.bn; omega⟩, by omega, by omega, hC.mono (fun k _ hk => .inr (.inr ⟨t.id, by rw [hk]; exact hm'⟩))⟩
        · show (if p = b then _ else F p).asked = true
          rw [if_neg hbp]; exact hS.ha
        · show Stays s (if p = b then _ else F p)
          rw [if_neg hbp]; exact hS.st
  · exact (ask_no g t w _ _ hS.tab.blk hc).mono fun e w' ⟨he, hb⟩ => same _ e w' he hb
theorem hear_any (w0 w : World) (g mb n : Nat) (D : DU) (M : Sm) (F : Ss) (count id : Int) (p : Nat) (s : Sl) (t : Tk) (hS : Sets w0 w g mb n D M F count id p s) (hn : n < 1000 ∧ count < 1000) (hk : (Lit.int .i64 t.id).wf = true) :
    Calls Try.prog 11 #[.pointer (some ⟨g, 0, none⟩), .agg t.C] w fun e w' => ∃ v n' D' M' F' count', e = .returned (.int .i64 v) ∧ Sets w0 w' g mb n' D' M' F' count' id p s ∧ n' ≤ n + 1 ∧ count' ≤ count + 1 ∧ Chg (TabOf g mb M) w w' := by
  have same : ∀ (v : Int) (e : Ending) (w' : World), e = .returned (.int .i64 v) → Below w.heap.size w w' → ∃ v n' D' M' F' count', e = .returned (.int .i64 v) ∧ Sets w0 w' g mb n' D' M' F' count' id p s ∧ n' ≤ n + 1 ∧ count' ≤ count + 1 ∧ Chg (TabOf g mb M) w w' := fun v e w' he hb =>
    ⟨v, n, D, M, F, count, he, ⟨hS.tab.below hb, hS.hm, hS.ha, hS.st, hS.bn⟩, by omega, by omega, Chg.of_below hb _⟩
  by_cases hc : tchk t = 0
  · cases hm' : M t.id with
    | none =>
      by_cases hs : Maps.size D < 64
      · refine (hear_new w0 w g mb n D M F count t hS.tab hc hk hm' hs (by unfold maxLen; omega) ⟨hS.bn.2.1, by omega⟩).mono ?_
        rintro e w' ⟨he, b, hb, hT, hC⟩
        have hpl := blk_lt (hS.tab.slots id p hS.hm).1
        have hpb : p ≠ b := by omega
        have hid : id ≠ t.id := fun e => by have := hS.hm; rw [e, hm'] at this; cases this
        refine ⟨0, n + 1, _, _, _, count + 1, he, ⟨hT, ?_, ?_, ?_, by have := hS.bn; omega⟩, by omega, by omega, hC.mono (fun k _ hk => by rcases hk with hk | hk; exact .inl hk; exact .inr (.inl hk))⟩
        · unfold putP; rw [if_neg hid]; exact hS.hm
        · show (if p = b then _ else F p).asked = true
          rw [if_neg hpb]; exact hS.ha
        · show Stays s (if p = b then _ else F p)
          rw [if_neg hpb]; exact hS.st
      · exact (hear_full w0 w g mb n D M F count t hS.tab hc hk hm' (by omega)).mono fun e w' ⟨he, hb⟩ => same _ e w' he hb
    | some b =>
      cases ha' : (F b).heard with
      | true => exact (hear_dup w0 w g mb n D M F count b t hS.tab hc hk hm' ha').mono fun e w' ⟨he, hb⟩ => same _ e w' he hb
      | false =>
        refine (hear_there w0 w g mb n D M F count b t hS.tab hc hk hm' ha').mono ?_
        rintro e w' ⟨he, hT, hC⟩
        refine ⟨0, n, D, M, _, count, he, ⟨hT, hS.hm, ?_, ?_, by have := hS.bn; omega⟩, by omega, by omega, hC.mono (fun k _ hk => .inr (.inr ⟨t.id, by rw [hk]; exact hm'⟩))⟩
        · show (if p = b then (F b).hear t else F p).asked = true
          by_cases e : p = b
          · subst e; rw [if_pos rfl]; exact hS.ha
          · rw [if_neg e]; exact hS.ha
        · show Stays s (if p = b then (F b).hear t else F p)
          by_cases e : p = b
          · subst e; rw [if_pos rfl]; exact hS.st.trans (Stays.hear _ t)
          · rw [if_neg e]; exact hS.st
  · exact (hear_no g t w _ _ hS.tab.blk hc).mono fun e w' ⟨he, hb⟩ => same _ e w' he hb
end Go.Proofs.Ytdifkcbiifhkeaa.P
