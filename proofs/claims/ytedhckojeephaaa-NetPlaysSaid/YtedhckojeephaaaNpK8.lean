/- NetTrue: the law's text, walked. -/
import Derived.Deep.DeepCutAuto
import Derived.Test.YtedhckojeephaaaNpPx0
import Derived.Test.YtedhckojeephaaaNpK0
import Derived.Test.YtedhckojeephaaaNpK1
import Derived.Test.YtedhckojeephaaaNpK2
import Derived.Test.YtedhckojeephaaaNpK4
import Derived.Test.YtedhckojeephaaaNpK5
import Derived.Test.YtedhckojeephaaaNpK6
namespace Go.Proofs.Ytedhckojeephaaa.P
open Go.RowKit Go.Proofs.YtedhckojeephaaaW.PrintWords Go.Proofs.YtedhckojeephaaaW.PrintLast Go.Proofs.YtedhckojeephaaaW.PrintMore
set_option linter.unusedVariables false
set_option linter.unusedSimpArgs false
attribute [local go_sem ↓] Go.wp_at_zero Go.wp_at_succ

/-! ### net_true: the law's state -/
structure SentAt (w0 w : World) (gs : Nat) (ua ub : Value) (A B : List ByteArray) : Prop where
  blk : w.heap[gs]? = some (.cells #[ua, ub] 65 (0, 0))
  ge : w0.heap.size ≤ gs
  ra : RS w0 w ua A
  rb : RS w0 w ub B
  ne : ∀ k, ua.ownBlock = some k → ub.ownBlock ≠ some k
/-- a block that is none of the law's own list -/
def okS (gs : Nat) (ua ub : Value) : Nat → Prop := fun k => k ≠ gs ∧ ua.ownBlock ≠ some k ∧ ub.ownBlock ≠ some k
def TrueAt (w0 w : World) (g gs : Nat) (F S : Bool → List ByteArray) : Prop := ∃ ua ub, SentAt w0 w gs ua ub (S false) (S true) ∧ NetIs (okS gs ua ub) w0 w g F ∧ g ≠ gs ∧ Below w0.heap.size w0 w
theorem RS.lt {w0 w : World} {v : Value} {L : List ByteArray} (h : RS w0 w v L) : ∀ k, v.ownBlock = some k → k < w.heap.size := by
  obtain ⟨inner, ho⟩ := Kd.R_own h
  exact own_lt ho
/-- a call of the network leaves the law's list alone -/
theorem TrueAt.call {w0 w w' : World} {g gs : Nat} {F F' S : Bool → List ByteArray} (h : TrueAt w0 w g gs F S) (hn : ∀ ok, NetIs ok w0 w g F → NetTo ok w0 w w' g F') : TrueAt w0 w' g gs F' S := by
  obtain ⟨ua, ub, hs, hi, hg, hb⟩ := h
  obtain ⟨h1, h2, h3⟩ := hn _ hi
  have la := hs.ra.lt
  have lb := hs.rb.lt
  have lg := blk_lt hs.blk
  have sa : ∀ k, ua.ownBlock = some k → k ≠ gs := fun k hk e => Kd.R_ne hs.ra hs.blk (by decide) (by rw [hk, e])
  obtain ⟨va, vb, hv⟩ := hi
  have ga : ∀ k, ua.ownBlock = some k → k ≠ g := fun k hk e => Kd.R_ne hs.ra hv.blk (by decide) (by rw [hk, e])
  have gb : ∀ k, ub.ownBlock = some k → k ≠ g := fun k hk e => Kd.R_ne hs.rb hv.blk (by decide) (by rw [hk, e])
  refine ⟨ua, ub, ⟨(h3 gs lg (fun e => hg e.symm) (fun e => e.1 rfl)).trans hs.blk, hs.ge, hs.ra.move (fun k hk => h3 k (la k hk) (ga k hk) (fun e => e.2.1 hk)), hs.rb.move (fun k hk => h3 k (lb k hk) (gb k hk) (fun e => e.2.2 hk)), hs.ne⟩, h1.mono (fun k hk => ?_), hg, h2⟩
  rcases hk with hk | hk
  · exact hk
  · exact ⟨fun e => by omega, fun e => by have := la k e; omega, fun e => by have := lb k e; omega⟩
/-- .. and any block of another kind -/
theorem TrueAt.call_blk {w0 w w' : World} {g gs ga t : Nat} {cs : Array Value} {F F' S : Bool → List ByteArray} (h : TrueAt w0 w g gs F S) (hn : ∀ ok, NetIs ok w0 w g F → NetTo ok w0 w w' g F') (hb : w.heap[ga]? = some (.cells cs t (0, 0))) (ht : 9 ≠ t) (hga : ga ≠ g) : w'.heap[ga]? = some (.cells cs t (0, 0)) := by
  obtain ⟨ua, ub, hs, ⟨va, vb, hv⟩, hg, hB⟩ := h
  have na : ∀ k, va.ownBlock = some k → k ≠ ga := fun k hk e => Kd.R_ne hv.ra hb ht (by rw [hk, e])
  have nb : ∀ k, vb.ownBlock = some k → k ≠ ga := fun k hk e => Kd.R_ne hv.rb hb ht (by rw [hk, e])
  obtain ⟨_, _, h3⟩ := hn (fun k => k ≠ ga) ⟨va, vb, hv.blk, hv.ge, hv.ra, hv.rb, hv.ne, na, nb⟩
  exact (h3 ga (blk_lt hb) hga (fun e => e rfl)).trans hb
theorem TrueAt.below {w0 w w' : World} {g gs : Nat} {F S : Bool → List ByteArray} (h : TrueAt w0 w g gs F S) (hb : Below w.heap.size w w') : TrueAt w0 w' g gs F S := by
  obtain ⟨ua, ub, hs, hi, hg, hB⟩ := h
  exact ⟨ua, ub, ⟨blk_below hs.blk hb, hs.ge, Kd.R_below hs.ra hb, Kd.R_below hs.rb hb, hs.ne⟩, hi.below hb, hg, below_step hB hb⟩
theorem NetIs.stay {ok ok' : Nat → Prop} {w0 w w1 : World} {g : Nat} {F : Bool → List ByteArray} (h : NetIs ok w0 w g F) (hg : w1.heap[g]? = w.heap[g]?) (hk : ∀ k, k < w.heap.size → ok k → w1.heap[k]? = w.heap[k]?) (hok : ∀ k, k < w.heap.size → ok k → ok' k) : NetIs ok' w0 w1 g F := by
  obtain ⟨va, vb, h⟩ := h
  have la := h.ra.lt
  have lb := h.rb.lt
  exact ⟨va, vb, hg.trans h.blk, h.ge, h.ra.move (fun k e => hk k (la k e) (h.oka k e)), h.rb.move (fun k e => hk k (lb k e) (h.okb k e)), h.ne, fun k e => hok k (la k e) (h.oka k e), fun k e => hok k (lb k e) (h.okb k e)⟩
/-- one more is laid into the law's own list, at the first or the second place -/
theorem TrueAt.push0 {w0 w w1 : World} {g gs : Nat} {F S : Bool → List ByteArray} {ua ub u : Value} {L : List ByteArray} (hs : SentAt w0 w gs ua ub (S false) (S true)) (hi : NetIs (okS gs ua ub) w0 w g F) (hne : g ≠ gs) (hB : Below w0.heap.size w0 w1) (hg : w.grownBy w1 ua.ownBlock) (hu : RS w0 w1 u L) (hn : ∀ k, u.ownBlock = some k → ua.ownBlock = some k ∨ w.heap.size ≤ k) :
    TrueAt w0 (w1.setCell ⟨gs, 0, none⟩ u) g gs F (upd S false L) := by
  have sa : ∀ k, ua.ownBlock = some k → k ≠ gs := fun k hk e => Kd.R_ne hs.ra hs.blk (by decide) (by rw [hk, e])
  have hblk := blk_grown hs.blk hg (fun e => sa gs e.symm rfl)
  have hub : RS w0 w1 ub (S true) := hs.rb.grown hg (fun k hk e => hs.ne k e hk)
  have su : ∀ k, u.ownBlock = some k → k ≠ gs := fun k hk e => Kd.R_ne hu hblk (by decide) (by rw [hk, e])
  have sb : ∀ k, ub.ownBlock = some k → k ≠ gs := fun k hk e => Kd.R_ne hub hblk (by decide) (by rw [hk, e])
  have lb := hs.rb.lt
  have lg := blk_lt hs.blk
  obtain ⟨va, vb, hv⟩ := hi
  have ga : ∀ k, ua.ownBlock = some k → k ≠ g := fun k hk e => Kd.R_ne hs.ra hv.blk (by decide) (by rw [hk, e])
  have lgg := blk_lt hv.blk
  refine ⟨u, ub, ⟨by simpa using blk_set hblk 0 u, hs.ge, hu.move (fun k hk => Below.heap_setCell _ _ _ _ (su k hk)), hub.move (fun k hk => Below.heap_setCell _ _ _ _ (sb k hk)), fun k hk hk2 => ?_⟩, NetIs.stay ⟨va, vb, hv⟩ ((Below.heap_setCell _ _ _ _ hne).trans (hg.block g lgg (fun e => ga g e.symm rfl))) (fun k hk ho => (Below.heap_setCell _ _ _ _ ho.1).trans (hg.block k hk (fun e => ho.2.1 e.symm))) (fun k hk ho => ⟨ho.1, fun e => ?_, ho.2.2⟩), hne, below_set hB hs.ge⟩
  · rcases hn k hk with h1 | h1
    · exact hs.ne k h1 hk2
    · have := lb k hk2; omega
  · rcases hn k e with h1 | h1
    · exact ho.2.1 h1
    · omega
theorem TrueAt.push1 {w0 w w1 : World} {g gs : Nat} {F S : Bool → List ByteArray} {ua ub u : Value} {L : List ByteArray} (hs : SentAt w0 w gs ua ub (S false) (S true)) (hi : NetIs (okS gs ua ub) w0 w g F) (hne : g ≠ gs) (hB : Below w0.heap.size w0 w1) (hg : w.grownBy w1 ub.ownBlock) (hu : RS w0 w1 u L) (hn : ∀ k, u.ownBlock = some k → ub.ownBlock = some k ∨ w.heap.size ≤ k) :
    TrueAt w0 (w1.setCell ⟨gs, 1, none⟩ u) g gs F (upd S true L) := by
  have sb : ∀ k, ub.ownBlock = some k → k ≠ gs := fun k hk e => Kd.R_ne hs.rb hs.blk (by decide) (by rw [hk, e])
  have hblk := blk_grown hs.blk hg (fun e => sb gs e.symm rfl)
  have hua : RS w0 w1 ua (S false) := hs.ra.grown hg (fun k hk e => hs.ne k hk e)
  have su : ∀ k, u.ownBlock = some k → k ≠ gs := fun k hk e => Kd.R_ne hu hblk (by decide) (by rw [hk, e])
  have sa : ∀ k, ua.ownBlock = some k → k ≠ gs := fun k hk e => Kd.R_ne hua hblk (by decide) (by rw [hk, e])
  have la := hs.ra.lt
  have lg := blk_lt hs.blk
  obtain ⟨va, vb, hv⟩ := hi
  have ga : ∀ k, ub.ownBlock = some k → k ≠ g := fun k hk e => Kd.R_ne hs.rb hv.blk (by decide) (by rw [hk, e])
  have lgg := blk_lt hv.blk
  refine ⟨ua, u, ⟨by simpa using blk_set hblk 1 u, hs.ge, hua.move (fun k hk => Below.heap_setCell _ _ _ _ (sa k hk)), hu.move (fun k hk => Below.heap_setCell _ _ _ _ (su k hk)), fun k hk hk2 => ?_⟩, NetIs.stay ⟨va, vb, hv⟩ ((Below.heap_setCell _ _ _ _ hne).trans (hg.block g lgg (fun e => ga g e.symm rfl))) (fun k hk ho => (Below.heap_setCell _ _ _ _ ho.1).trans (hg.block k hk (fun e => ho.2.2 e.symm))) (fun k hk ho => ⟨ho.1, ho.2.1, fun e => ?_⟩), hne, below_set hB hs.ge⟩
  · rcases hn k hk2 with h1 | h1
    · exact hs.ne k hk h1
    · have := la k hk; omega
  · rcases hn k e with h1 | h1
    · exact ho.2.2 h1
    · omega
theorem TrueAt.sent {w0 w : World} {g gs : Nat} {F S : Bool → List ByteArray} (h : TrueAt w0 w g gs F S) (b : Bool) : ∃ A c, w.cell? ⟨gs, (toOf b).toNat, none⟩ = some (.slice A (S b).length c) ∧ (S b).length ≤ c ∧ Kd.C Kd.string w A (S b).length (S b) := by
  obtain ⟨ua, ub, h, -⟩ := h
  obtain ⟨c0, c1, _⟩ := cells_2 h.blk
  cases b with
  | false => obtain ⟨A, c, e, l, r⟩ := h.ra.form; exact ⟨A, c, by rw [← e]; exact c0, l, r⟩
  | true => obtain ⟨A, c, e, l, r⟩ := h.rb.form; exact ⟨A, c, by rw [← e]; exact c1, l, r⟩

/-! #### what the lists are -/
def Good (F S : Bool → List ByteArray) (n : Nat) : Prop := ∀ b, (∀ x ∈ F b, x ∈ S b) ∧ (F b).length ≤ 64 ∧ (S b).length ≤ n
theorem good_upd {F S : Bool → List ByteArray} {n m : Nat} (h : Good F S n) (b : Bool) (L M : List ByteArray) (h1 : ∀ x ∈ L, x ∈ M) (h2 : L.length ≤ 64) (h3 : M.length ≤ m) (hnm : n ≤ m) : Good (upd F b L) (upd S b M) m := by
  intro c
  by_cases e : c = b
  · subst e; rw [upd_at, upd_at]; exact ⟨h1, h2, h3⟩
  · rw [upd_ne F b c L e, upd_ne S b c M e]; exact ⟨(h c).1, (h c).2.1, Nat.le_trans (h c).2.2 hnm⟩
theorem good_same {F S : Bool → List ByteArray} {n m : Nat} (h : Good F S n) (b : Bool) (L : List ByteArray) (h1 : ∀ x ∈ L, x ∈ S b) (h2 : L.length ≤ 64) (hnm : n ≤ m) : Good (upd F b L) S m := by
  have := good_upd h b L (S b) h1 h2 (Nat.le_trans (h b).2.2 hnm) hnm
  rw [upd_self] at this
  exact this
theorem send_len (L : List ByteArray) (s : ByteArray) (h : L.length ≤ 64) : (sendL L s).length ≤ 64 := by
  unfold sendL
  split
  · exact h
  · split
    · exact h
    · rw [List.length_append, List.length_singleton]; omega
theorem send_mem (L : List ByteArray) (s : ByteArray) : ∀ x ∈ sendL L s, x ∈ L ∨ x = s := by
  intro x hx
  unfold sendL at hx
  split at hx
  · exact .inl hx
  · split at hx
    · exact .inl hx
    · rcases List.mem_append.1 hx with hx | hx
      · exact .inl hx
      · exact .inr (List.mem_singleton.1 hx)
theorem sx_mem (L : List ByteArray) (i : Nat) (h : i < L.length) : sx L i ∈ L := by rw [sx_at L i h]; exact List.getElem_mem _
theorem take_mem (L : List ByteArray) (i : Int) : (∀ x ∈ takeL L i, x ∈ L) ∧ (takeL L i).length ≤ L.length := by
  unfold takeL
  split
  · exact ⟨fun x hx => List.mem_of_mem_eraseIdx hx, List.length_eraseIdx_le ..⟩
  · exact ⟨fun x hx => hx, Nat.le_refl _⟩
theorem dbl_mem (L : List ByteArray) (i : Int) (h : L.length ≤ 64) : (∀ x ∈ dblL L i, x ∈ L) ∧ (dblL L i).length ≤ 64 := by
  unfold dblL
  split
  · rename_i hi
    refine ⟨fun x hx => ?_, send_len _ _ h⟩
    rcases send_mem _ _ x hx with hx | hx
    · exact hx
    · rw [hx]; unfold inIt at hi; exact sx_mem _ _ (by omega)
  · exact ⟨fun x hx => hx, h⟩
theorem swap_mem (L : List ByteArray) (i k : Int) : (∀ x ∈ swapL L i k, x ∈ L) ∧ (swapL L i k).length = L.length := by
  unfold swapL
  split
  · rename_i hi
    split
    · rename_i hk
      unfold inIt at hi hk
      refine ⟨fun x hx => ?_, by simp⟩
      rcases List.mem_or_eq_of_mem_set hx with hx | hx
      · rcases List.mem_or_eq_of_mem_set hx with hx | hx
        · exact hx
        · rw [hx]; exact sx_mem _ _ (by omega)
      · rw [hx]; exact sx_mem _ _ (by omega)
    · exact ⟨fun x hx => hx, rfl⟩
  · exact ⟨fun x hx => hx, rfl⟩
theorem has_loop (L : List ByteArray) (hL : L.length ≤ 100000) (x : ByteArray) (d : Nat) : ∀ (k i : Nat), i + d = L.length → d < k → x ∈ L.drop i → trefoillaw12_has.l0 k L x (i : Int) = some true := by
  induction d with
  | zero =>
    intro k i hi hk hx
    rw [List.drop_eq_nil_of_le (by omega)] at hx
    cases hx
  | succ d ih =>
    intro k i hi hk hx
    obtain ⟨k, rfl⟩ : ∃ q, k = q + 1 := ⟨k - 1, by omega⟩
    have hil : i < L.length := by omega
    have t1 : (i : Int) < (L.length : Int) := by omega
    have t2 : (0 : Int) ≤ (i : Int) := by omega
    have e5 : wrap64 ((i : Int) + 1) = ((i + 1 : Nat) : Int) := by unfold wrap64; omega
    simp only [trefoillaw12_has.l0]
    rw [if_pos t1, if_pos t2, show rdOf ByteArray.empty L (i : Int) = sx L i by rfl, sx_at L i hil]
    by_cases e : L[i].toList = x.toList
    · rw [if_pos e]
    · rw [if_neg e, e5]
      rw [List.drop_eq_getElem_cons hil] at hx
      rcases List.mem_cons.1 hx with hx | hx
      · exact absurd (by rw [hx]) e
      · exact ih k (i + 1) (by omega) (by omega) hx
theorem has_f (L : List ByteArray) (hL : L.length ≤ 100000) (x : ByteArray) (hx : x ∈ L) : trefoillaw12_has.f 100001 L x = some true := by
  unfold trefoillaw12_has.f
  exact has_loop L hL x L.length 100001 0 (by omega) (by omega) (by simpa using hx)
end Go.Proofs.Ytedhckojeephaaa.P
