/- NetTrue: the law's text, walked. -/
import Derived.Deep.AppendLies
import Derived.Deep.DeepCutAuto
import Derived.Test.YtedhckojeephaaaNtPx0
import Derived.Test.YtedhckojeephaaaNtK1
import Derived.Test.YtedhckojeephaaaNtK2
import Derived.Test.YtedhckojeephaaaNtK3
import Derived.Test.YtedhckojeephaaaNtK4
import Derived.Test.YtedhckojeephaaaNtK5
import Derived.Test.YtedhckojeephaaaNtK6
import Derived.Test.YtedhckojeephaaaNtK7
namespace Go.Proofs.Ytedhckojeephaaa.P
open Go.RowKit Go.Proofs.YtedhckojeephaaaW.PrintWords Go.Proofs.YtedhckojeephaaaW.PrintLast Go.Proofs.YtedhckojeephaaaW.PrintMore
set_option linter.unusedVariables false
set_option linter.unusedSimpArgs false
attribute [local go_sem ↓] Go.wp_at_zero Go.wp_at_succ

/-! ### net_true: the law's state -/
structure SentAt (w0 w : World) (gs : Nat) (ua ub : Value) (A B : List ByteArray) : Prop where
  blk : w.heap[gs]? = some (.cells #[ua, ub] 65 (0, 0))
  ge : w0.heap.size ≤ gs
  ra : RS w0 w ua A
  rb : RS w0 w ub B
  ne : ∀ k, ua.ownBlock = some k → ub.ownBlock ≠ some k
/-- a block that is none of the law's own list -/
def okS (gs : Nat) (ua ub : Value) : Nat → Prop := fun k => k ≠ gs ∧ ua.ownBlock ≠ some k ∧ ub.ownBlock ≠ some k
def TrueAt (w0 w : World) (g gs : Nat) (F S : Bool → List ByteArray) : Prop := ∃ ua ub, SentAt w0 w gs ua ub (S false) (S true) ∧ NetIs (okS gs ua ub) w0 w g F ∧ g ≠ gs ∧ Below w0.heap.size w0 w
theorem RS.lt {w0 w : World} {v : Value} {L : List ByteArray} (h : RS w0 w v L) : ∀ k, v.ownBlock = some k → k < w.heap.size := by
  obtain ⟨inner, ho⟩ := Kd.R_own h
  exact own_lt ho
/-- a call of the network leaves the law's list alone -/
theorem TrueAt.call {w0 w w' : World} {g gs : Nat} {F F' S : Bool → List ByteArray} (h : TrueAt w0 w g gs F S) (hn : ∀ ok, NetIs ok w0 w g F → NetTo ok w0 w w' g F') : TrueAt w0 w' g gs F' S := by
  obtain ⟨ua, ub, hs, hi, hg, hb⟩ := h
  obtain ⟨h1, h2, h3⟩ := hn _ hi
  have la := hs.ra.lt
  have lb := hs.rb.lt
  have lg := blk_lt hs.blk
  have sa : ∀ k, ua.ownBlock = some k → k ≠ gs := fun k hk e => Kd.R_ne hs.ra hs.blk (by decide) (by rw [hk, e])
  obtain ⟨va, vb, hv⟩ := hi
  have ga : ∀ k, ua.ownBlock = some k → k ≠ g := fun k hk e => Kd.R_ne hs.ra hv.blk (by decide) (by rw [hk, e])
  have gb : ∀ k, ub.ownBlock = some k → k ≠ g := fun k hk e => Kd.R_ne hs.rb hv.blk (by decide) (by rw [hk, e])
  refine ⟨ua, ub, ⟨(h3 gs lg (fun e => hg e.symm) (fun e => e.1 rfl)).trans hs.blk, hs.ge, hs.ra.move (fun k hk => h3 k (la k hk) (ga k hk) (fun e => e.2.1 hk)), hs.rb.move (fun k hk => h3 k (lb k hk) (gb k hk) (fun e => e.2.2 hk)), hs.ne⟩, h1.mono (fun k hk => ?_), hg, h2⟩
  rcases hk with hk | hk
  · exact hk
  · exact ⟨fun e => by omega, fun e => by have := la k e; omega, fun e => by have := lb k e; omega⟩
/-- .. and any block of another kind -/
theorem TrueAt.call_blk {w0 w w' : World} {g gs ga t : Nat} {cs : Array Value} {F F' S : Bool → List ByteArray} (h : TrueAt w0 w g gs F S) (hn : ∀ ok, NetIs ok w0 w g F → NetTo ok w0 w w' g F') (hb : w.heap[ga]? = some (.cells cs t (0, 0))) (ht : 9 ≠ t) (hga : ga ≠ g) : w'.heap[ga]? = some (.cells cs t (0, 0)) := by
  obtain ⟨ua, ub, hs, ⟨va, vb, hv⟩, hg, hB⟩ := h
  have na : ∀ k, va.ownBlock = some k → k ≠ ga := fun k hk e => Kd.R_ne hv.ra hb ht (by rw [hk, e])
  have nb : ∀ k, vb.ownBlock = some k → k ≠ ga := fun k hk e => Kd.R_ne hv.rb hb ht (by rw [hk, e])
  obtain ⟨_, _, h3⟩ := hn (fun k => k ≠ ga) ⟨va, vb, hv.blk, hv.ge, hv.ra, hv.rb, hv.ne, na, nb⟩
  exact (h3 ga (blk_lt hb) hga (fun e => e rfl)).trans hb
theorem TrueAt.below {w0 w w' : World} {g gs : Nat} {F S : Bool → List ByteArray} (h : TrueAt w0 w g gs F S) (hb : Below w.heap.size w w') : TrueAt w0 w' g gs F S := by
  obtain ⟨ua, ub, hs, hi, hg, hB⟩ := h
  exact ⟨ua, ub, ⟨blk_below hs.blk hb, hs.ge, Kd.R_below hs.ra hb, Kd.R_below hs.rb hb, hs.ne⟩, hi.below hb, hg, below_step hB hb⟩
theorem NetIs.stay {ok ok' : Nat → Prop} {w0 w w1 : World} {g : Nat} {F : Bool → List ByteArray} (h : NetIs ok w0 w g F) (hg : w1.heap[g]? = w.heap[g]?) (hk : ∀ k, k < w.heap.size → ok k → w1.heap[k]? = w.heap[k]?) (hok : ∀ k, k < w.heap.size → ok k → ok' k) : NetIs ok' w0 w1 g F := by
  obtain ⟨va, vb, h⟩ := h
  have la := h.ra.lt
  have lb := h.rb.lt
  exact ⟨va, vb, hg.trans h.blk, h.ge, h.ra.move (fun k e => hk k (la k e) (h.oka k e)), h.rb.move (fun k e => hk k (lb k e) (h.okb k e)), h.ne, fun k e => hok k (la k e) (h.oka k e), fun k e => hok k (lb k e) (h.okb k e)⟩
/-- one more is laid into the law's own list, at the first or the second place -/
theorem TrueAt.push0 {w0 w w1 : World} {g gs : Nat} {F S : Bool → List ByteArray} {ua ub u : Value} {L : List ByteArray} (hs : SentAt w0 w gs ua ub (S false) (S true)) (hi : NetIs (okS gs ua ub) w0 w g F) (hne : g ≠ gs) (hB : Below w0.heap.size w0 w1) (hg : w.grownBy w1 ua.ownBlock) (hu : RS w0 w1 u L) (hn : ∀ k, u.ownBlock = some k → ua.ownBlock = some k ∨ w.heap.size ≤ k) :
    TrueAt w0 (w1.setCell ⟨gs, 0, none⟩ u) g gs F (upd S false L) := by
  have sa : ∀ k, ua.ownBlock = some k → k ≠ gs := fun k hk e => Kd.R_ne hs.ra hs.blk (by decide) (by rw [hk, e])
  have hblk := blk_grown hs.blk hg (fun e => sa gs e.symm rfl)
  have hub : RS w0 w1 ub (S true) := hs.rb.grown hg (fun k hk e => hs.ne k e hk)
  have su : ∀ k, u.ownBlock = some k → k ≠ gs := fun k hk e => Kd.R_ne hu hblk (by decide) (by rw [hk, e])
  have sb : ∀ k, ub.ownBlock = some k → k ≠ gs := fun k hk e => Kd.R_ne hub hblk (by decide) (by rw [hk, e])
  have lb := hs.rb.lt
  have lg := blk_lt hs.blk
  obtain ⟨va, vb, hv⟩ := hi
  have ga : ∀ k, ua.ownBlock = some k → k ≠ g := fun k hk e => Kd.R_ne hs.ra hv.blk (by decide) (by rw [hk, e])
  have lgg := blk_lt hv.blk
  refine ⟨u, ub, ⟨by simpa using blk_set hblk 0 u, hs.ge, hu.move (fun k hk => Below.heap_setCell _ _ _ _ (su k hk)), hub.move (fun k hk => Below.heap_setCell _ _ _ _ (sb k hk)), fun k hk hk2 => ?_⟩, NetIs.stay ⟨va, vb, hv⟩ ((Below.heap_setCell _ _ _ _ hne).trans (hg.block g lgg (fun e => ga g e.symm rfl))) (fun k hk ho => (Below.heap_setCell _ _ _ _ ho.1).trans (hg.block k hk (fun e => ho.2.1 e.symm))) (fun k hk ho => ⟨ho.1, fun e => ?_, ho.2.2⟩), hne, below_set hB hs.ge⟩
  · rcases hn k hk with h1 | h1
    · exact hs.ne k h1 hk2
    · have := lb k hk2; omega
  · rcases hn k e with h1 | h1
    · exact ho.2.1 h1
    · omega
theorem TrueAt.push1 {w0 w w1 : World} {g gs : Nat} {F S : Bool → List ByteArray} {ua ub u : Value} {L : List ByteArray} (hs : SentAt w0 w gs ua ub (S false) (S true)) (hi : NetIs (okS gs ua ub) w0 w g F) (hne : g ≠ gs) (hB : Below w0.heap.size w0 w1) (hg : w.grownBy w1 ub.ownBlock) (hu : RS w0 w1 u L) (hn : ∀ k, u.ownBlock = some k → ub.ownBlock = some k ∨ w.heap.size ≤ k) :
    TrueAt w0 (w1.setCell ⟨gs, 1, none⟩ u) g gs F (upd S true L) := by
  have sb : ∀ k, ub.ownBlock = some k → k ≠ gs := fun k hk e => Kd.R_ne hs.rb hs.blk (by decide) (by rw [hk, e])
  have hblk := blk_grown hs.blk hg (fun e => sb gs e.symm rfl)
  have hua : RS w0 w1 ua (S false) := hs.ra.grown hg (fun k hk e => hs.ne k hk e)
  have su : ∀ k, u.ownBlock = some k → k ≠ gs := fun k hk e => Kd.R_ne hu hblk (by decide) (by rw [hk, e])
  have sa : ∀ k, ua.ownBlock = some k → k ≠ gs := fun k hk e => Kd.R_ne hua hblk (by decide) (by rw [hk, e])
  have la := hs.ra.lt
  have lg := blk_lt hs.blk
  obtain ⟨va, vb, hv⟩ := hi
  have ga : ∀ k, ub.ownBlock = some k → k ≠ g := fun k hk e => Kd.R_ne hs.rb hv.blk (by decide) (by rw [hk, e])
  have lgg := blk_lt hv.blk
  refine ⟨ua, u, ⟨by simpa using blk_set hblk 1 u, hs.ge, hua.move (fun k hk => Below.heap_setCell _ _ _ _ (sa k hk)), hu.move (fun k hk => Below.heap_setCell _ _ _ _ (su k hk)), fun k hk hk2 => ?_⟩, NetIs.stay ⟨va, vb, hv⟩ ((Below.heap_setCell _ _ _ _ hne).trans (hg.block g lgg (fun e => ga g e.symm rfl))) (fun k hk ho => (Below.heap_setCell _ _ _ _ ho.1).trans (hg.block k hk (fun e => ho.2.2 e.symm))) (fun k hk ho => ⟨ho.1, ho.2.1, fun e => ?_⟩), hne, below_set hB hs.ge⟩
  · rcases hn k hk2 with h1 | h1
    · exact hs.ne k hk h1
    · have := la k hk; omega
  · rcases hn k e with h1 | h1
    · exact ho.2.2 h1
    · omega
theorem TrueAt.sent {w0 w : World} {g gs : Nat} {F S : Bool → List ByteArray} (h : TrueAt w0 w g gs F S) (b : Bool) : ∃ A c, w.cell? ⟨gs, (toOf b).toNat, none⟩ = some (.slice A (S b).length c) ∧ (S b).length ≤ c ∧ Kd.C Kd.string w A (S b).length (S b) := by
  obtain ⟨ua, ub, h, -⟩ := h
  obtain ⟨c0, c1, _⟩ := cells_2 h.blk
  cases b with
  | false => obtain ⟨A, c, e, l, r⟩ := h.ra.form; exact ⟨A, c, by rw [← e]; exact c0, l, r⟩
  | true => obtain ⟨A, c, e, l, r⟩ := h.rb.form; exact ⟨A, c, by rw [← e]; exact c1, l, r⟩

/-! #### what the lists are -/
def Good (F S : Bool → List ByteArray) (n : Nat) : Prop := ∀ b, (∀ x ∈ F b, x ∈ S b) ∧ (F b).length ≤ 64 ∧ (S b).length ≤ n
theorem good_upd {F S : Bool → List ByteArray} {n m : Nat} (h : Good F S n) (b : Bool) (L M : List ByteArray) (h1 : ∀ x ∈ L, x ∈ M) (h2 : L.length ≤ 64) (h3 : M.length ≤ m) (hnm : n ≤ m) : Good (upd F b L) (upd S b M) m := by
  intro c
  by_cases e : c = b
  · subst e; rw [upd_at, upd_at]; exact ⟨h1, h2, h3⟩
  · rw [upd_ne F b c L e, upd_ne S b c M e]; exact ⟨(h c).1, (h c).2.1, Nat.le_trans (h c).2.2 hnm⟩
theorem good_same {F S : Bool → List ByteArray} {n m : Nat} (h : Good F S n) (b : Bool) (L : List ByteArray) (h1 : ∀ x ∈ L, x ∈ S b) (h2 : L.length ≤ 64) (hnm : n ≤ m) : Good (upd F b L) S m := by
  have := good_upd h b L (S b) h1 h2 (Nat.le_trans (h b).2.2 hnm) hnm
  rw [upd_self] at this
  exact this
theorem send_len (L : List ByteArray) (s : ByteArray) (h : L.length ≤ 64) : (sendL L s).length ≤ 64 := by
  unfold sendL
  split
  · exact h
  · split
    · exact h
    · rw [List.length_append, List.length_singleton]; omega
theorem send_mem (L : List ByteArray) (s : ByteArray) : ∀ x ∈ sendL L s, x ∈ L ∨ x = s := by
  intro x hx
  unfold sendL at hx
  split at hx
  · exact .inl hx
  · split at hx
    · exact .inl hx
    · rcases List.mem_append.1 hx with hx | hx
      · exact .inl hx
      · exact .inr (List.mem_singleton.1 hx)
theorem sx_mem (L : List ByteArray) (i : Nat) (h : i < L.length) : sx L i ∈ L := by rw [sx_at L i h]; exact List.getElem_mem _
theorem take_mem (L : List ByteArray) (i : Int) : (∀ x ∈ takeL L i, x ∈ L) ∧ (takeL L i).length ≤ L.length := by
  unfold takeL
  split
  · exact ⟨fun x hx => List.mem_of_mem_eraseIdx hx, List.length_eraseIdx_le ..⟩
  · exact ⟨fun x hx => hx, Nat.le_refl _⟩
theorem dbl_mem (L : List ByteArray) (i : Int) (h : L.length ≤ 64) : (∀ x ∈ dblL L i, x ∈ L) ∧ (dblL L i).length ≤ 64 := by
  unfold dblL
  split
  · rename_i hi
    refine ⟨fun x hx => ?_, send_len _ _ h⟩
    rcases send_mem _ _ x hx with hx | hx
    · exact hx
    · rw [hx]; unfold inIt at hi; exact sx_mem _ _ (by omega)
  · exact ⟨fun x hx => hx, h⟩
theorem swap_mem (L : List ByteArray) (i k : Int) : (∀ x ∈ swapL L i k, x ∈ L) ∧ (swapL L i k).length = L.length := by
  unfold swapL
  split
  · rename_i hi
    split
    · rename_i hk
      unfold inIt at hi hk
      refine ⟨fun x hx => ?_, by simp⟩
      rcases List.mem_or_eq_of_mem_set hx with hx | hx
      · rcases List.mem_or_eq_of_mem_set hx with hx | hx
        · exact hx
        · rw [hx]; exact sx_mem _ _ (by omega)
      · rw [hx]; exact sx_mem _ _ (by omega)
    · exact ⟨fun x hx => hx, rfl⟩
  · exact ⟨fun x hx => hx, rfl⟩
theorem has_loop (L : List ByteArray) (hL : L.length ≤ 100000) (x : ByteArray) (d : Nat) : ∀ (k i : Nat), i + d = L.length → d < k → x ∈ L.drop i → trefoillaw12_has.l0 k L x (i : Int) = some true := by
  induction d with
  | zero =>
    intro k i hi hk hx
    rw [List.drop_eq_nil_of_le (by omega)] at hx
    cases hx
  | succ d ih =>
    intro k i hi hk hx
    obtain ⟨k, rfl⟩ : ∃ q, k = q + 1 := ⟨k - 1, by omega⟩
    have hil : i < L.length := by omega
    have t1 : (i : Int) < (L.length : Int) := by omega
    have t2 : (0 : Int) ≤ (i : Int) := by omega
    have e5 : wrap64 ((i : Int) + 1) = ((i + 1 : Nat) : Int) := by unfold wrap64; omega
    simp only [trefoillaw12_has.l0]
    rw [if_pos t1, if_pos t2, show rdOf ByteArray.empty L (i : Int) = sx L i by rfl, sx_at L i hil]
    by_cases e : L[i].toList = x.toList
    · rw [if_pos e]
    · rw [if_neg e, e5]
      rw [List.drop_eq_getElem_cons hil] at hx
      rcases List.mem_cons.1 hx with hx | hx
      · exact absurd (by rw [hx]) e
      · exact ih k (i + 1) (by omega) (by omega) hx
theorem has_f (L : List ByteArray) (hL : L.length ≤ 100000) (x : ByteArray) (hx : x ∈ L) : trefoillaw12_has.f 100001 L x = some true := by
  unfold trefoillaw12_has.f
  exact has_loop L hL x L.length 100001 0 (by omega) (by omega) (by simpa using hx)
/-! ### net_ask: functions -/
/-- a call of the network may be asked: it leaves the law's list alone, and any block of another kind -/
theorem TrueAt.ask {w0 w : World} {g gs ga t : Nat} {cs : Array Value} {F S : Bool → List ByteArray} (h : TrueAt w0 w g gs F S) (hb : w.heap[ga]? = some (.cells cs t (0, 0))) (ht : 9 ≠ t) (hga : ga ≠ g) :
    ∃ ok, NetIs ok w0 w g F ∧ ∀ w' F', NetTo ok w0 w w' g F' → TrueAt w0 w' g gs F' S ∧ w'.heap[ga]? = some (.cells cs t (0, 0)) := by
  obtain ⟨ua, ub, hs, ⟨va, vb, hv⟩, hg, hB⟩ := h
  have na : ∀ k, va.ownBlock = some k → k ≠ ga := fun k hk e => Kd.R_ne hv.ra hb ht (by rw [hk, e])
  have nb : ∀ k, vb.ownBlock = some k → k ≠ ga := fun k hk e => Kd.R_ne hv.rb hb ht (by rw [hk, e])
  have hi : NetIs (fun k => okS gs ua ub k ∧ k ≠ ga) w0 w g F := ⟨va, vb, hv.blk, hv.ge, hv.ra, hv.rb, hv.ne, fun k e => ⟨hv.oka k e, na k e⟩, fun k e => ⟨hv.okb k e, nb k e⟩⟩
  refine ⟨_, hi, fun w' F' hn => ?_⟩
  obtain ⟨h1, h2, h3⟩ := hn
  have la := hs.ra.lt
  have lb := hs.rb.lt
  have lg := blk_lt hs.blk
  have ga' : ∀ k, ua.ownBlock = some k → k ≠ g := fun k hk e => Kd.R_ne hs.ra hv.blk (by decide) (by rw [hk, e])
  have gb' : ∀ k, ub.ownBlock = some k → k ≠ g := fun k hk e => Kd.R_ne hs.rb hv.blk (by decide) (by rw [hk, e])
  refine ⟨⟨ua, ub, ⟨(h3 gs lg (fun e => hg e.symm) (fun e => e.1.1 rfl)).trans hs.blk, hs.ge, hs.ra.move (fun k hk => h3 k (la k hk) (ga' k hk) (fun e => e.1.2.1 hk)), hs.rb.move (fun k hk => h3 k (lb k hk) (gb' k hk) (fun e => e.1.2.2 hk)), hs.ne⟩, h1.mono (fun k hk => ?_), hg, h2⟩, (h3 ga (blk_lt hb) hga (fun e => e.2 rfl)).trans hb⟩
  rcases hk with hk | hk
  · exact hk.1
  · exact ⟨fun e => by omega, fun e => by have := la k e; omega, fun e => by have := lb k e; omega⟩
theorem good_mono {F S : Bool → List ByteArray} {n m : Nat} (h : Good F S n) (hnm : n ≤ m) : Good F S m := fun b => ⟨(h b).1, (h b).2.1, Nat.le_trans (h b).2.2 hnm⟩
theorem TrueAt.bel {w0 w : World} {g gs : Nat} {F S : Bool → List ByteArray} (h : TrueAt w0 w g gs F S) : Below w0.heap.size w0 w := by obtain ⟨_, _, _, _, _, hb⟩ := h; exact hb
theorem TrueAt.ne_new {w0 w : World} {g gs : Nat} {F S : Bool → List ByteArray} (h : TrueAt w0 w g gs F S) : w.heap.size ≠ g ∧ w.heap.size ≠ gs := by
  obtain ⟨_, _, hs, ⟨_, _, hv⟩, _, _⟩ := h
  have := blk_lt hs.blk
  have := blk_lt hv.blk
  omega
theorem cell_apart {w : World} {g g' a b : Nat} {u v : Value} (h : g' ≠ g) (hc : w.cell? ⟨g', a, none⟩ = some u) : (w.setCell ⟨g, b, none⟩ v).cell? ⟨g', a, none⟩ = some u :=
  (World.cell?_of_block (Below.heap_setCell w ⟨g, b, none⟩ v g' h)).trans hc
theorem send_sub {L M : List ByteArray} (s : ByteArray) (h : ∀ x ∈ L, x ∈ M) : ∀ x ∈ sendL L s, x ∈ M ++ [s] := fun x hx => by
  rcases send_mem L s x hx with h1 | h1
  · exact List.mem_append_left _ (h x h1)
  · rw [h1]; exact List.mem_append_right _ (List.mem_singleton.2 rfl)
theorem grown_below {w0 w w2 : World} (hB : Below w0.heap.size w0 w) {u : Value} {L : List ByteArray} (hu : RS w0 w u L) {o : Obj} (hgrow : ((w.alloc o).drew).grownBy w2 u.ownBlock) : Below w0.heap.size w0 w2 :=
  pw_below_grown (below_drew (below_alloc hB o)) u.ownBlock (below_drew (below_alloc hB o)).size hgrow (fun k hk => Kd.R_base hu k hk)
/-! ### trefoillaw12_NetTrue: function 5 -/
def trefoillaw12_NetTrue.f (l0 : List S67) : Option Bool := some true
def HeadOf (w wr : World) (g gs : Nat) (n : Nat) : Prop := ∃ F S, TrueAt w wr g gs F S ∧ Good F S n
set_option maxHeartbeats 8000000 in
set_option maxRecDepth 100000 in
theorem trefoillaw12_NetTrue.calls (A0 : Option Addr) (c0 : Nat) (l0 : List S67) (r : Bool) (w : World) (hr0 : Kd.C k67 w A0 l0.length l0) (hc0 : l0.length ≤ c0) (h : trefoillaw12_NetTrue.f l0 = some r) :
    Calls Try.prog 5 #[.slice A0 l0.length c0] w fun e w' => e = .returned (.bool r) ∧ Below w.heap.size w w' := by
  obtain rfl : true = r := Option.some.inj h
  clear h
  have hm := Kd.C_max hr0
  have HR := Aside0.mk hr0
  clear hr0
  go_enter Try.func5, Try.ntmps5
  go_wp2_with (go_at_call 26; refine (new_net (fun _ => False) w w (Below.refl _ _)).mono ?_; rintro e w1 ⟨rfl, hi1, hb1⟩; have HI := Aside0.mk hi1; have HB := Aside0.mk hb1; clear hi1 hb1)
  have HS : Aside0 (HeadOf w (w1.alloc (.cells #[.slice none 0 0, .slice none 0 0] 65)) w.heap.size w1.heap.size 0) := by
    have hb := HB.out
    have hg : w.heap.size ≠ w1.heap.size := by obtain ⟨va, vb, hv⟩ := HI.out; have := blk_lt hv.blk; omega
    have hz : ∀ k, (Value.slice none 0 0).ownBlock = some k → False := fun k hk => by simp [Value.ownBlock] at hk
    exact ⟨fun _ => [], fun _ => [], ⟨.slice none 0 0, .slice none 0 0, ⟨heap_alloc_new w1 _, hb.size, Kd.R_nil _ _ _ _ _, Kd.R_nil _ _ _ _ _, fun k hk => (hz k hk).elim⟩, (HI.out.below (below_alloc (Below.refl _ _) _)).mono (fun _ h => h.elim), hg, below_alloc hb _⟩, fun b => ⟨fun x hx => hx, by simp, by simp⟩⟩
  go_loopw [5] (fun s5 wr => ∃ i : Nat, i ≤ l0.length ∧ i ≤ 100 ∧ s5 = .int .i64 i ∧ Aside0 (HeadOf w wr w.heap.size w1.heap.size i)) (fun s5 _ => l0.length - (intOf s5).toNat)
  case atStart => exact ⟨0, by omega, by omega, rfl, HS⟩
  case round =>
    clear HS HI HB
    obtain ⟨wo, rfl⟩ : ∃ wo : World, wo = wr := ⟨_, rfl⟩
    obtain ⟨i, hi, hi100, rfl, HT⟩ := hrel
    by_cases hlt : i < l0.length
    · by_cases h100 : (i : Int) < 100
      · obtain ⟨F, S, hT, hG⟩ := HT.out
        have hTb : Below w.heap.size w wo := by obtain ⟨_, _, _, _, _, hb⟩ := hT; exact hb
        obtain ⟨ad, rfl, q0, q1, q2, q3, q4, q5⟩ := at_T67 (Kd.C_below HR.out hTb) (i : Int) (by omega) (by omega)
        rw [Int.toNat_natCast] at q0 q1 q2 q3 q4 q5
        obtain ⟨x, hx⟩ : ∃ x, x = rd_T67 l0 (i : Int) := ⟨_, rfl⟩
        rw [← hx] at q0 q1 q2 q3 q4 q5
        clear hx
        have HTT := Aside0.mk hT
        have HG := Aside0.mk hG
        clear hT hG hTb
        have hfin : Aside0 (HeadOf w (wo.alloc (.cells #[.int .i64 x.f0, .int .i64 x.f1, .int .i64 x.f2, .int .i64 x.f3, .string x.f4, .int .u8 x.f5] 67)) w.heap.size w1.heap.size (i + 1)) := ⟨⟨F, S, HTT.out.below (below_alloc (Below.refl _ _) _), good_mono HG.out (by omega)⟩⟩
        by_cases hskip : x.f0 = 5 ∨ x.f0 = 6 ∨ (x.f4.size : Int) > 200 ∨ x.f1 < 0 ∨ x.f1 > 1
        · as_aux_lemma =>
          by_cases e5 : x.f0 = 5
          · have n5 : (x.f0 == 5) = true := by rw [beq_iff_eq]; exact e5
            clear hskip e5
            go_wp2
            all_goals
              go_roundw
              all_goals first
                | (case rel => exact ⟨i + 1, by omega, by omega, by go_num, hfin⟩)
                | (case measure => simp [intOf]; omega)
          · by_cases e6 : x.f0 = 6
            · have n6 : (x.f0 == 6) = true := by rw [beq_iff_eq]; exact e6
              have n5 : (x.f0 == 5) = false := by rw [beq_eq_false_iff_ne]; omega
              clear hskip e5 e6
              go_wp2
              all_goals
                go_roundw
                all_goals first
                  | (case rel => exact ⟨i + 1, by omega, by omega, by go_num, hfin⟩)
                  | (case measure => simp [intOf]; omega)
            · have n5 : (x.f0 == 5) = false := by rw [beq_eq_false_iff_ne]; omega
              have n6 : (x.f0 == 6) = false := by rw [beq_eq_false_iff_ne]; omega
              have hs : (x.f4.size : Int) > 200 ∨ x.f1 < 0 ∨ x.f1 > 1 := by omega
              clear hskip e5 e6
              rcases hs with hs | hs | hs
              all_goals
                go_wp2
                all_goals
                  go_roundw
                  all_goals first
                    | (case rel => exact ⟨i + 1, by omega, by omega, by go_num, hfin⟩)
                    | (case measure => simp [intOf]; omega)
        · clear hfin
          have n5 : (x.f0 == 5) = false := by rw [beq_eq_false_iff_ne]; omega
          have n6 : (x.f0 == 6) = false := by rw [beq_eq_false_iff_ne]; omega
          have n200 : (x.f4.size : Int) ≤ 200 := by omega
          have p0 : 0 ≤ x.f1 := by omega
          have p1 : x.f1 ≤ 1 := by omega
          clear hskip
          go_upto_block 2 with (fail)
          go_cut [] (fun wc => HeadOf w wc w.heap.size w1.heap.size (i + 1) ∧ Aside0 (wc.heap[wo.heap.size]? = some (.cells #[.int .i64 x.f0, .int .i64 x.f1, .int .i64 x.f2, .int .i64 x.f3, .string x.f4, .int .u8 x.f5] 67 (0, 0))))
          case first =>
            have hT := HTT.out.below (below_alloc (Below.refl _ _) (.cells #[.int .i64 x.f0, .int .i64 x.f1, .int .i64 x.f2, .int .i64 x.f3, .string x.f4, .int .u8 x.f5] 67))
            have hblk := heap_alloc_new wo (.cells #[.int .i64 x.f0, .int .i64 x.f1, .int .i64 x.f2, .int .i64 x.f3, .string x.f4, .int .u8 x.f5] 67)
            obtain ⟨b, hb⟩ : ∃ b, x.f1 = toOf b := by
              by_cases h : x.f1 = 0
              · exact ⟨false, h⟩
              · exact ⟨true, by show x.f1 = 1; omega⟩
            obtain ⟨nga, ngs⟩ := HTT.out.ne_new
            obtain ⟨ok, hIn, hst⟩ := hT.ask hblk (by decide) nga
            have HIN := Aside0.mk hIn
            have HST := Lib.hid hst
            have HBT := Aside0.mk hT.bel
            have HBb := Lib.hid hb
            have HTW := Aside0.mk hT
            have HBK := Aside0.mk hblk
            have g64 := (HG.out b).2.1
            have gsn := (HG.out b).2.2
            have GM := Aside0.mk (HG.out b).1
            clear hT hblk hIn hst hb
            have hk : x.f0 = 0 ∨ x.f0 = 1 ∨ x.f0 = 2 ∨ x.f0 = 3 ∨ x.f0 = 4 ∨ (x.f0 ≠ 0 ∧ x.f0 ≠ 1 ∧ x.f0 ≠ 2 ∧ x.f0 ≠ 3 ∧ x.f0 ≠ 4) := by omega
            rcases hk with hk | hk | hk | hk | hk | hk
            · skip
              have t0 : (x.f0 == 0) = true := by rw [beq_iff_eq]; omega
              clear hk
              obtain ⟨i0, hi0, hz0, hz1, hz2⟩ := info_parts info9
              have p2 : x.f1 < 2 := by omega
              go_wp2_with (go_at_call 27; (with_reducible refine (send_any ok w _ w.heap.size F x.f1 b HBb.out x.f4 HIN.out HBT.out).mono ?_); rintro e w2 ⟨rfl, hn⟩; obtain ⟨a1, a2⟩ := HST.out _ _ hn; have H1 := Aside0.mk a1; have H2 := Aside0.mk a2; clear hn a1 a2)
              have a2 := H2.out
              obtain ⟨d0, d1, d2, d3, d4, d5, -⟩ := cells_6 a2
              obtain ⟨ua, ub, hs, hi2, hne2, hB2⟩ := H1.out
              cases b
              · as_aux_lemma =>
                obtain ⟨A, c, rfl, la, -⟩ := hs.ra.form
                obtain ⟨s0, s1, z0, z1⟩ := cells_2 hs.blk
                have e01 : x.f1.toNat = 0 := by rw [HBb.out]; rfl
                have hsc : w2.cell? ⟨w1.heap.size, x.f1.toNat, none⟩ = some (.slice A (S false).length c) := by rw [e01]; exact s0
                have hsz : w2.frozen? ⟨w1.heap.size, x.f1.toNat, none⟩ = false := by rw [e01]; exact z0
                have hlen : (S false).length ≤ 100 := by omega
                have hst0 : ∀ k, (Value.slice A (S false).length c).ownBlock = some k → k ≠ wo.heap.size := fun k hk e => Kd.R_ne hs.ra a2 (by decide) (by rw [hk, e])
                have hst1 : ∀ k, (Value.slice A (S false).length c).ownBlock = some k → k ≠ w1.heap.size := fun k hk e => Kd.R_ne hs.ra hs.blk (by decide) (by rw [hk, e])
                have lgs := blk_lt hs.blk
                have lga := blk_lt a2
                have hsc3 := pw_cell_below (below_alloc (Below.refl w2.heap.size w2) (.cells #[.string x.f4] 9)) hsc
                have HS := Aside0.mk hs
                have HI2 := Aside0.mk hi2
                have HB2 := Aside0.mk hB2
                have HZ0 := Lib.hid hst0
                have HZ1 := Lib.hid hst1
                have HE01 := Lib.hid e01
                clear hs hi2 hB2 s0 s1 z0 z1 a2 hst0 hst1 e01
                go_region_law ((refine step_append_lies _ (by rfl) (.tmp 65) (.tmp 68) 27 (by rfl) w.heap.size 9 i0 (.string ⟨#[]⟩) 1 16 Try.underlying27 hi0 hz0 hz1 hz2 rfl (by decide) (.slice A (S false).length c) (S false).length (encs Value.string (S false)) (by rfl) (own_ad (Kd.own_of_R HS.out.ra) _) ⟨w2.heap.size, 0, none⟩ 1 1 [.string x.f4] (by rfl) (by rfl) (World.news_of_block (cs := #[.string x.f4]) (t := 9) (fr := (0, 0)) (heap_alloc_new w2 _)) (one_string x.f4) (by decide) (by unfold maxLen; omega) (by omega) (by have := HB2.out.size; simp; omega) (w2.heap.size + 1) (by simp) ?_; intro g2 cap2 w3 hown hgrow hat hlt2; obtain ⟨y0, y1, v0, v1⟩ := cells_2 (blk_grown (blk_ad HS.out.blk _) hgrow (fun e => HZ1.out _ e.symm rfl)); obtain ⟨m0, m1, m2, m3, m4, m5, -⟩ := cells_6 (blk_grown (blk_ad H2.out _) hgrow (fun e => HZ0.out _ e.symm rfl)); have hyc := (congrArg (fun q => w3.cell? ⟨w1.heap.size, q, none⟩) HE01.out).trans y0; have hyf := (congrArg (fun q => w3.frozen? ⟨w1.heap.size, q, none⟩) HE01.out).trans v0; have HO := Aside0.mk hown; have HG2 := Aside0.mk hgrow; have HT2 := Aside0.mk hat; clear hown hgrow hat))
                all_goals
                  go_wp2
                  go_meet
                  case rel =>
                    have hp := TrueAt.push0 HS.out HI2.out hne2 (grown_below HB2.out HS.out.ra HG2.out) (grown_ad HG2.out) (RS_snoc HO.out) (fresh_of HT2.out)
                    refine ⟨⟨_, _, ?_, good_upd HG.out false _ _ (send_sub x.f4 GM.out) (send_len _ x.f4 g64) (by rw [List.length_append, List.length_singleton]; omega) (by omega)⟩, ⟨blk_far (blk_grown (blk_ad H2.out _) HG2.out (fun e => HZ0.out _ e.symm rfl)) ngs _⟩⟩
                    rw [show x.f1.toNat = 0 from HE01.out]
                    exact hp
              · as_aux_lemma =>
                obtain ⟨A, c, rfl, la, -⟩ := hs.rb.form
                obtain ⟨s0, s1, z0, z1⟩ := cells_2 hs.blk
                have e01 : x.f1.toNat = 1 := by rw [HBb.out]; rfl
                have hsc : w2.cell? ⟨w1.heap.size, x.f1.toNat, none⟩ = some (.slice A (S true).length c) := by rw [e01]; exact s1
                have hsz : w2.frozen? ⟨w1.heap.size, x.f1.toNat, none⟩ = false := by rw [e01]; exact z1
                have hlen : (S true).length ≤ 100 := by omega
                have hst0 : ∀ k, (Value.slice A (S true).length c).ownBlock = some k → k ≠ wo.heap.size := fun k hk e => Kd.R_ne hs.rb a2 (by decide) (by rw [hk, e])
                have hst1 : ∀ k, (Value.slice A (S true).length c).ownBlock = some k → k ≠ w1.heap.size := fun k hk e => Kd.R_ne hs.rb hs.blk (by decide) (by rw [hk, e])
                have lgs := blk_lt hs.blk
                have lga := blk_lt a2
                have hsc3 := pw_cell_below (below_alloc (Below.refl w2.heap.size w2) (.cells #[.string x.f4] 9)) hsc
                have HS := Aside0.mk hs
                have HI2 := Aside0.mk hi2
                have HB2 := Aside0.mk hB2
                have HZ0 := Lib.hid hst0
                have HZ1 := Lib.hid hst1
                have HE01 := Lib.hid e01
                clear hs hi2 hB2 s0 s1 z0 z1 a2 hst0 hst1 e01
                go_region_law ((refine step_append_lies _ (by rfl) (.tmp 65) (.tmp 68) 27 (by rfl) w.heap.size 9 i0 (.string ⟨#[]⟩) 1 16 Try.underlying27 hi0 hz0 hz1 hz2 rfl (by decide) (.slice A (S true).length c) (S true).length (encs Value.string (S true)) (by rfl) (own_ad (Kd.own_of_R HS.out.rb) _) ⟨w2.heap.size, 0, none⟩ 1 1 [.string x.f4] (by rfl) (by rfl) (World.news_of_block (cs := #[.string x.f4]) (t := 9) (fr := (0, 0)) (heap_alloc_new w2 _)) (one_string x.f4) (by decide) (by unfold maxLen; omega) (by omega) (by have := HB2.out.size; simp; omega) (w2.heap.size + 1) (by simp) ?_; intro g2 cap2 w3 hown hgrow hat hlt2; obtain ⟨y0, y1, v0, v1⟩ := cells_2 (blk_grown (blk_ad HS.out.blk _) hgrow (fun e => HZ1.out _ e.symm rfl)); obtain ⟨m0, m1, m2, m3, m4, m5, -⟩ := cells_6 (blk_grown (blk_ad H2.out _) hgrow (fun e => HZ0.out _ e.symm rfl)); have hyc := (congrArg (fun q => w3.cell? ⟨w1.heap.size, q, none⟩) HE01.out).trans y1; have hyf := (congrArg (fun q => w3.frozen? ⟨w1.heap.size, q, none⟩) HE01.out).trans v1; have HO := Aside0.mk hown; have HG2 := Aside0.mk hgrow; have HT2 := Aside0.mk hat; clear hown hgrow hat))
                all_goals
                  go_wp2
                  go_meet
                  case rel =>
                    have hp := TrueAt.push1 HS.out HI2.out hne2 (grown_below HB2.out HS.out.rb HG2.out) (grown_ad HG2.out) (RS_snoc HO.out) (fresh_of HT2.out)
                    refine ⟨⟨_, _, ?_, good_upd HG.out true _ _ (send_sub x.f4 GM.out) (send_len _ x.f4 g64) (by rw [List.length_append, List.length_singleton]; omega) (by omega)⟩, ⟨blk_far (blk_grown (blk_ad H2.out _) HG2.out (fun e => HZ0.out _ e.symm rfl)) ngs _⟩⟩
                    rw [show x.f1.toNat = 1 from HE01.out]
                    exact hp
            · as_aux_lemma =>
              have t0 : (x.f0 == 0) = false := by rw [beq_eq_false_iff_ne]; omega
              have t1 : (x.f0 == 1) = true := by rw [beq_iff_eq]; omega
              clear hk
              have p2 : x.f1 < 2 := by omega
              by_cases hin : inIt (F b) x.f2
              · have eE : takeE (F b) x.f2 = 0 := if_pos hin
                have eS : takeS (F b) x.f2 = sx (F b) x.f2.toNat := if_pos hin
                have hms : sx (F b) x.f2.toNat ∈ S b := GM.out _ (sx_mem _ _ (by unfold inIt at hin; omega))
                have EE := Lib.hid eE
                have ES := Lib.hid eS
                have HHF := Aside0.mk (has_f (S b) (by omega) _ hms)
                clear eE eS hms hin
                go_wp2_with (first
                  | (go_at_call 28; (with_reducible refine (take_any ok w _ w.heap.size F x.f1 b HBb.out x.f2 HIN.out HBT.out).mono ?_); rintro e w2 ⟨he, hn⟩; rw [EE.out, ES.out] at he; subst he; obtain ⟨a1, a2⟩ := HST.out _ _ hn; have H1 := Aside0.mk a1; have H2 := Aside0.mk a2; obtain ⟨uA, uc, hsc, hsl, hsr⟩ := a1.sent b; rw [← HBb.out] at hsc; have hxc := (cells_6 a2).2.1; have HSR := Aside0.mk hsr; clear hn a1 a2 hsr)
                  | (go_at_call 29; (with_reducible refine (trefoillaw12_has.calls 100001 _ _ _ _ true _ HSR.out hsl HHF.out).mono ?_); rintro e w3 ⟨rfl, hd⟩; have HD := Aside0.mk hd.below; clear hd))
                go_meet
                case rel => exact ⟨⟨_, S, H1.out.below HD.out, good_same HG.out b _ (fun y hy => GM.out y ((take_mem _ _).1 y hy)) (Nat.le_trans (take_mem _ _).2 g64) (by omega)⟩, ⟨blk_below H2.out HD.out⟩⟩
              · have eE : takeE (F b) x.f2 = 6 := if_neg hin
                have EE := Lib.hid eE
                clear eE hin
                go_wp2_with (go_at_call 28; (with_reducible refine (take_any ok w _ w.heap.size F x.f1 b HBb.out x.f2 HIN.out HBT.out).mono ?_); rintro e w2 ⟨he, hn⟩; rw [EE.out] at he; subst he; obtain ⟨a1, a2⟩ := HST.out _ _ hn; have H1 := Aside0.mk a1; have H2 := Aside0.mk a2; clear hn a1 a2)
                go_meet
                case rel => exact ⟨⟨_, S, H1.out, good_same HG.out b _ (fun y hy => GM.out y ((take_mem _ _).1 y hy)) (Nat.le_trans (take_mem _ _).2 g64) (by omega)⟩, H2⟩
            · as_aux_lemma =>
              have t0 : (x.f0 == 0) = false := by rw [beq_eq_false_iff_ne]; omega
              have t1 : (x.f0 == 1) = false := by rw [beq_eq_false_iff_ne]; omega
              have t2 : (x.f0 == 2) = true := by rw [beq_iff_eq]; omega
              clear hk
              go_wp2_with (go_at_call 30; (with_reducible refine (drop_any ok w _ w.heap.size F x.f1 b HBb.out x.f2 HIN.out HBT.out).mono ?_); rintro e w2 ⟨rfl, hn⟩; obtain ⟨a1, a2⟩ := HST.out _ _ hn; have H1 := Aside0.mk a1; have H2 := Aside0.mk a2; clear hn a1 a2)
              go_meet
              case rel => exact ⟨⟨_, S, H1.out, good_same HG.out b _ (fun y hy => GM.out y ((take_mem _ _).1 y hy)) (Nat.le_trans (take_mem _ _).2 g64) (by omega)⟩, H2⟩
            · as_aux_lemma =>
              have t0 : (x.f0 == 0) = false := by rw [beq_eq_false_iff_ne]; omega
              have t1 : (x.f0 == 1) = false := by rw [beq_eq_false_iff_ne]; omega
              have t2 : (x.f0 == 2) = false := by rw [beq_eq_false_iff_ne]; omega
              have t3 : (x.f0 == 3) = true := by rw [beq_iff_eq]; omega
              clear hk
              go_wp2_with (go_at_call 31; (with_reducible refine (double_any ok w _ w.heap.size F x.f1 b HBb.out x.f2 HIN.out HBT.out).mono ?_); rintro e w2 ⟨rfl, hn⟩; obtain ⟨a1, a2⟩ := HST.out _ _ hn; have H1 := Aside0.mk a1; have H2 := Aside0.mk a2; clear hn a1 a2)
              go_meet
              case rel => exact ⟨⟨_, S, H1.out, good_same HG.out b _ (fun y hy => GM.out y ((dbl_mem _ _ g64).1 y hy)) (dbl_mem _ _ g64).2 (by omega)⟩, H2⟩
            · as_aux_lemma =>
              have t0 : (x.f0 == 0) = false := by rw [beq_eq_false_iff_ne]; omega
              have t1 : (x.f0 == 1) = false := by rw [beq_eq_false_iff_ne]; omega
              have t2 : (x.f0 == 2) = false := by rw [beq_eq_false_iff_ne]; omega
              have t3 : (x.f0 == 3) = false := by rw [beq_eq_false_iff_ne]; omega
              have t4 : (x.f0 == 4) = true := by rw [beq_iff_eq]; omega
              clear hk
              go_wp2_with (go_at_call 32; (with_reducible refine (swap_any ok w _ w.heap.size F x.f1 b HBb.out x.f2 x.f3 HIN.out HBT.out).mono ?_); rintro e w2 ⟨rfl, hn⟩; obtain ⟨a1, a2⟩ := HST.out _ _ hn; have H1 := Aside0.mk a1; have H2 := Aside0.mk a2; clear hn a1 a2)
              go_meet
              case rel => exact ⟨⟨_, S, H1.out, good_same HG.out b _ (fun y hy => GM.out y ((swap_mem _ _ _).1 y hy)) (by rw [(swap_mem _ _ _).2]; exact g64) (by omega)⟩, H2⟩
            · as_aux_lemma =>
              have t0 : (x.f0 == 0) = false := by rw [beq_eq_false_iff_ne]; omega
              have t1 : (x.f0 == 1) = false := by rw [beq_eq_false_iff_ne]; omega
              have t2 : (x.f0 == 2) = false := by rw [beq_eq_false_iff_ne]; omega
              have t3 : (x.f0 == 3) = false := by rw [beq_eq_false_iff_ne]; omega
              have t4 : (x.f0 == 4) = false := by rw [beq_eq_false_iff_ne]; omega
              clear hk
              go_wp2
              go_meet
              case rel => exact ⟨⟨F, S, HTW.out, good_mono HG.out (by omega)⟩, HBK⟩
          case rest =>
            as_aux_lemma =>
            obtain ⟨hH, HX⟩ := hcut
            clear HTT HG HT
            obtain ⟨F, S, hT, hG⟩ := hH
            have HTT := Aside0.mk hT
            have HG := Aside0.mk hG
            obtain ⟨b, hb⟩ : ∃ b, x.f1 = toOf b := by
              by_cases h : x.f1 = 0
              · exact ⟨false, h⟩
              · exact ⟨true, by show x.f1 = 1; omega⟩
            obtain ⟨uA, uc, hsc, hsl, hsr⟩ := hT.sent b
            rw [← hb] at hsc
            have hxc := (cells_6 HX.out).2.1
            have hL64 := (hG b).2.1
            have hSn := (hG b).2.2
            have hmem := Aside0.mk (hG b).1
            obtain ⟨ok, hIn⟩ : ∃ ok, NetIs ok w wc w.heap.size F := by obtain ⟨ua, ub, _, hi, _⟩ := hT; exact ⟨_, hi⟩
            have HIN := Aside0.mk hIn
            have HSR := Aside0.mk hsr
            clear hT hG hIn hsr
            have h64 : ((F b).length : Int) ≤ 64 := by omega
            have HBb := Lib.hid hb
            clear hb
            go_wp2_with (go_at_call 33; refine (all_ok ok w wc w.heap.size F x.f1 b HBb.out HIN.out (by omega)).mono ?_; rintro e w2 ⟨lA, lc, rfl, hlc, hlr, hb2⟩; have HLR := Aside0.mk hlr; have HB2 := Aside0.mk hb2; clear hlr hb2)
            have HSR2 := Aside0.mk (Kd.C_below HSR.out HB2.out)
            replace hsc := pw_cell_below HB2.out hsc
            replace hxc := pw_cell_below HB2.out hxc
            have bnd : ((F b).length : Int) ≤ 9223372036854775807 := by omega
            go_loopw [10] (fun s10 wx => ∃ k : Nat, k ≤ (F b).length ∧ s10 = .int .i64 k ∧ Aside0 (Below w2.heap.size w2 wx)) (fun s10 _ => (F b).length - (intOf s10).toNat)
            case atStart => exact ⟨0, by omega, rfl, ⟨Below.refl _ _⟩⟩
            case round =>
              obtain ⟨k, hk, rfl, HBX⟩ := hrel
              by_cases hkl : k < (F b).length
              · obtain ⟨ad2, rfl, hxk⟩ := str_cell HLR.out k hkl
                replace hxk := pw_cell_below HBX.out hxk
                have hsc2 := pw_cell_below HBX.out hsc
                have hxc2 := pw_cell_below HBX.out hxc
                have HS3 := Aside0.mk (Kd.C_below (Kd.C_below HSR2.out HBX.out) (below_drew (Below.refl _ _)))
                have HHF := Aside0.mk (has_f (S b) (by omega) (sx (F b) k) (hmem.out _ (sx_mem _ _ hkl)))
                have k0 : (0 : Int) ≤ (k : Int) := by omega
                have k1 : (k : Int) < ((F b).length : Int) := by omega
                have p2 : x.f1 < 2 := by omega
                clear hsc hxc
                go_wp2_with fail
                go_region_held3 (fun w' => w'.cell? ⟨wo.heap.size, 1, none⟩ = some (.int .i64 x.f1) ∧ w'.cell? ⟨w1.heap.size, x.f1.toNat, none⟩ = some (.slice uA (S b).length uc) ∧ w'.cell? (ad2.add k) = some (.string (sx (F b) k))) (go_keep)
                  ((go_at_call 29; (with_reducible refine (trefoillaw12_has.calls 100001 _ _ _ _ true _ HS3.out hsl HHF.out).mono ?_); rintro e w3 ⟨rfl, ⟨n, rfl⟩⟩))
                all_goals
                  go_wp2
                  go_roundw
                  all_goals first
                    | (case rel => exact ⟨k + 1, by omega, by go_num, ⟨by repeat (first | exact HBX.out | apply below_drew | apply pw_below_drewN)⟩⟩)
                    | (case measure => simp [intOf]; omega)
              · go_wp2
                go_roundw
                case rel => exact ⟨i + 1, by omega, by omega, by go_num, ⟨⟨F, S, (HTT.out.below HB2.out).below HBX.out, HG.out⟩⟩⟩
                case measure => simp [intOf]; omega
      · have hTb : Aside0 (Below w.heap.size w wo) := by obtain ⟨F, S, hT, hG⟩ := HT.out; exact ⟨hT.bel⟩
        go_wp2_with (go_at_call 34; refine (awake12.calls _).mono ?_; rintro e w2 ⟨rfl, hb⟩; replace hTb := Aside0.mk (below_step hTb.out hb); clear hb)
        go_ret
        exact ⟨rfl, hTb.out⟩
    · have hTb : Aside0 (Below w.heap.size w wo) := by obtain ⟨F, S, hT, hG⟩ := HT.out; exact ⟨hT.bel⟩
      go_wp2_with (go_at_call 34; refine (awake12.calls _).mono ?_; rintro e w2 ⟨rfl, hb⟩; replace hTb := Aside0.mk (below_step hTb.out hb); clear hb)
      go_ret
      exact ⟨rfl, hTb.out⟩
end Go.Proofs.Ytedhckojeephaaa.P
