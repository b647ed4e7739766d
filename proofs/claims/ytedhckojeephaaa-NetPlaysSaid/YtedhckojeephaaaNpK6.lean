/- A network between two: all that is on its way, and the chapter's example. -/
import Derived.Test.YtedhckojeephaaaNpPx0
import Derived.Test.YtedhckojeephaaaNpK0
import Derived.Test.YtedhckojeephaaaNpK2
import Derived.Test.YtedhckojeephaaaNpK3
import Derived.Test.YtedhckojeephaaaNpK5
namespace Go.Proofs.Ytedhckojeephaaa.P
open Go.RowKit Go.Proofs.YtedhckojeephaaaW.PrintWords Go.Proofs.YtedhckojeephaaaW.PrintLast Go.Proofs.YtedhckojeephaaaW.PrintMore
set_option linter.unusedVariables false
set_option linter.unusedSimpArgs false
attribute [local go_sem ↓] Go.wp_at_zero Go.wp_at_succ

theorem R_empty {α : Type} (d : Kd α) (W : World) (base e : Nat) {ok : Nat → Prop} (hok : ok W.heap.size) (hbase : base ≤ W.heap.size) :
    d.R e (W.alloc (.cells #[] e)) base ok (.slice (some ⟨W.heap.size, 0, none⟩) 0 0) ([] : List α) := by
  refine ⟨fun k hk => ?_, [], ⟨by simp, .inr ⟨W.heap.size, 0, #[], rfl, hbase, heap_alloc_new W _, Nat.le_refl _, by unfold maxLen; omega, by simp, by simp⟩⟩, Reps.none _ _⟩
  have : W.heap.size = k := by simpa [Value.ownBlock] using hk
  subst this
  exact hok
theorem C_none {α : Type} {d : Kd α} {w : World} {n : Nat} {xs : List α} (h : d.C w none n xs) : xs = [] := by
  have h0 := h.1
  rcases Nat.eq_zero_or_pos n with h1 | h1
  · exact List.eq_nil_of_length_eq_zero (by omega)
  · obtain ⟨ad, he, _⟩ := h.2.2 h1
    cases he
set_option maxHeartbeats 400000 in
theorem clone_str.calls (A : Option Addr) (c : Nat) (l : List ByteArray) (w : World) (hr : Kd.C Kd.string w A l.length l) (hs : l.length * 16 ≤ 140737488355328) :
    Calls Try.prog 42 #[.slice A l.length c] w fun e w' => ∃ v, e = .returned v ∧ Kd.R Kd.string 9 w' w.heap.size (fun _ => True) v l ∧ Below w.heap.size w w' := by
  have q : ∀ (w : World) (a : Option Addr) (n c n' c' : Nat), (binOp .eql 27 (.slice a n c) (.slice none n' c')).run Try.prog w = .ok (.bool a.isNone) w := fun w a n c n' c' => Lib.run_eql_slice_nil w _ _ a n c n' c' Try.underlying27
  have HR := Aside0.mk hr
  clear hr
  cases A with
  | none =>
    have HL := Aside0.mk (C_none HR.out)
    go_enter Try.func42, Try.ntmps42
    go_wp2
    go_ret
    refine ⟨_, rfl, ?_, Below.refl _ _⟩
    rw [HL.out]
    exact Kd.R_nil _ _ _ _ _
  | some ad =>
    go_enter Try.func42, Try.ntmps42
    go_wp2_with (at_builtin; refine Kd.R_append_rows Kd.string (Rr := Kd.string.K w) (w0 := w) w.heap.size rfl (.tmp 5) (.tmp 6) 27 9 (.string ⟨#[]⟩) 16 rfl Try.underlying27 info9 rfl (by decide) (by omega) (.slice (some ⟨w.heap.size, 0, none⟩) 0 0) [] l (some ad) l.length c (fun _ => True) (fun _ => False) rfl rfl ?aO ?aR ?aK (fun _ hk => hk.elim) (fun _ _ => trivial) ?aB ?aS ?aL ?_; (case aO => exact R_empty _ _ _ _ trivial (Nat.le_refl _)); (case aR => exact Kd.C_alloc HR.out _); (case aK => exact fun _ _ h => h); (case aB => exact below_alloc (Below.refl _ _) _); (case aS => simp); (case aL => simpa using hs); intro v w1 ho hb hg hat)
    go_ret
    exact ⟨v, rfl, ho, hb⟩

def AllAns (w : World) (L : List ByteArray) (e : Ending) (w' : World) : Prop := ∃ A c, e = .returned (.slice A L.length c) ∧ L.length ≤ c ∧ Kd.C Kd.string w' A L.length L ∧ Below w.heap.size w w'
theorem all_ok (ok : Nat → Prop) (w0 w : World) (g : Nat) (F : Bool → List ByteArray) (t : Int) (b : Bool) (ht : t = toOf b) (hI : NetIs ok w0 w g F) (hL : (F b).length * 16 ≤ 140737488355328) : Calls Try.prog 33 #[.pointer (some ⟨g, 0, none⟩), .int .i64 t] w (AllAns w (F b)) := by
  have hm := hI.made
  obtain ⟨A, c, hc, -, hr⟩ := hI.way b
  have HR := Aside0.mk hr
  subst ht
  clear hI hr
  cases b
  all_goals
    simp only [toOf, Int.toNat_zero, Int.toNat_one] at hc ⊢
    go_enter Try.func33, Try.ntmps33
    go_wp2_with (first
      | (go_at_call 43; refine (ready_ok g _ _ hm (by first | exact .inl rfl | exact .inr rfl)).mono ?_; rintro e w1 ⟨rfl, rfl⟩)
      | (go_at_call 42; refine (clone_str.calls A c _ w HR.out hL).mono ?_; rintro e w1 ⟨v, rfl, ho, hb⟩; have HO := Aside0.mk ho; have HB := Aside0.mk hb; clear ho hb))
    go_ret
    obtain ⟨A1, c1, rfl, h1, h2⟩ := Kd.R_reads HO.out
    exact ⟨A1, c1, rfl, h1, h2, HB.out⟩
theorem all_bad (ok : Nat → Prop) (w0 w : World) (g : Nat) (F : Bool → List ByteArray) (t : Int) (ht : t < 0 ∨ t > 1) (hI : NetIs ok w0 w g F) : Calls Try.prog 33 #[.pointer (some ⟨g, 0, none⟩), .int .i64 t] w fun e w' => e = .returned (.slice none 0 0) ∧ w = w' := by
  have hm := hI.made
  clear hI
  go_enter Try.func33, Try.ntmps33
  go_wp2_with (go_at_call 43; refine (ready_bad g _ _ hm ht).mono ?_; rintro e w1 ⟨rfl, rfl⟩)
  go_ret
  exact ⟨rfl, rfl⟩

/-! #### the example -/
abbrev sa : ByteArray := ⟨#[97]⟩
abbrev sb : ByteArray := ⟨#[98]⟩
abbrev sc : ByteArray := ⟨#[99]⟩
def ex (L : List ByteArray) : Bool → List ByteArray := fun c => if c = true then L else []
theorem ex_upd (L M : List ByteArray) : upd (ex L) true M = ex M := by
  funext c
  unfold upd ex
  by_cases h : c = true
  · rw [if_pos h, if_pos h]
  · rw [if_neg h, if_neg h, if_neg h]
theorem ex_at (L : List ByteArray) : ex L true = L := rfl
theorem ex_nil : (fun _ => [] : Bool → List ByteArray) = ex [] := by funext c; unfold ex; split <;> rfl
abbrev okA : Nat → Prop := fun _ => True
def ExAns (w0 : World) (g : Nat) (v : Value) (L : List ByteArray) (e : Ending) (w' : World) : Prop := e = .returned v ∧ NetIs okA w0 w' g (ex L) ∧ Below w0.heap.size w0 w'
theorem ex_send (w0 w : World) (g : Nat) (L : List ByteArray) (s : ByteArray) (hs : (s.size : Int) ≤ 131072) (hl : L.length < 64) (hI : NetIs okA w0 w g (ex L)) (hB : Below w0.heap.size w0 w) : Calls Try.prog 27 #[.pointer (some ⟨g, 0, none⟩), .int .i64 1, .string s] w (ExAns w0 g (.int .i64 0) (L ++ [s])) :=
  (send_ok okA w0 w g (ex L) 1 true rfl s hI hB hs hl).mono fun e w' h => ⟨h.1, by have := h.2.1; rw [ex_upd] at this; exact this.mono (fun _ _ => trivial), h.2.2.1⟩
theorem ex_drop (w0 w : World) (g : Nat) (hI : NetIs okA w0 w g (ex [sa, sb, sc])) (hB : Below w0.heap.size w0 w) : Calls Try.prog 30 #[.pointer (some ⟨g, 0, none⟩), .int .i64 1, .int .i64 0] w (ExAns w0 g (.int .i64 0) [sb, sc]) :=
  (drop_any okA w0 w g (ex [sa, sb, sc]) 1 true rfl 0 hI hB).mono fun e w' h => ⟨h.1.trans rfl, by have := h.2.1; rw [ex_upd] at this; exact this.mono (fun _ _ => trivial), h.2.2.1⟩
theorem ex_double (w0 w : World) (g : Nat) (hI : NetIs okA w0 w g (ex [sb, sc])) (hB : Below w0.heap.size w0 w) : Calls Try.prog 31 #[.pointer (some ⟨g, 0, none⟩), .int .i64 1, .int .i64 0] w (ExAns w0 g (.int .i64 0) [sb, sc, sb]) :=
  (double_any okA w0 w g (ex [sb, sc]) 1 true rfl 0 hI hB).mono fun e w' h => ⟨h.1.trans rfl, by have := h.2.1; rw [ex_upd] at this; exact this.mono (fun _ _ => trivial), h.2.2.1⟩
theorem ex_all (w0 w : World) (g : Nat) (hI : NetIs okA w0 w g (ex [sb, sc, sb])) : Calls Try.prog 33 #[.pointer (some ⟨g, 0, none⟩), .int .i64 1] w (AllAns w [sb, sc, sb]) := all_ok okA w0 w g (ex [sb, sc, sb]) 1 true rfl hI (by decide)
theorem ex_len (w0 w : World) (g : Nat) (hI : NetIs okA w0 w g (ex [sb, sc, sb])) : Calls Try.prog 36 #[.pointer (some ⟨g, 0, none⟩), .int .i64 0] w fun e w' => e = .returned (.int .i64 0) ∧ w = w' := len_ok okA w0 w g (ex [sb, sc, sb]) 0 false rfl hI
theorem lit3 (W : World) (x y z : ByteArray) : Kd.C Kd.string (W.alloc (.cells #[.string x, .string y, .string z] 9)) (some ⟨W.heap.size, 0, none⟩) [x, y, z].length [x, y, z] := by
  refine ⟨rfl, by simp, fun _ => ⟨_, rfl, fun j p hj => ⟨[.string p], rfl, rfl, fun i u hu => ?_⟩⟩⟩
  rw [add_plain, blk_cell (heap_alloc_new W _)]
  match i, hu with
  | 0, hu =>
    obtain rfl := Option.some.inj hu
    match j, hj with
    | 0, hj => obtain rfl := Option.some.inj hj; rfl
    | 1, hj => obtain rfl := Option.some.inj hj; rfl
    | 2, hj => obtain rfl := Option.some.inj hj; rfl
set_option maxHeartbeats 1600000 in
set_option maxRecDepth 100000 in
theorem awake12.calls (w : World) : Calls Try.prog 34 #[] w fun e w' => e = .returned (.bool true) ∧ Below w.heap.size w w' := by
  have ht : trefoilref01_Texts.f 10 [sb, sc, sb] [sb, sc, sb] = some true := by kernel_rfl
  have HT := Aside0.mk ht
  clear ht
  go_enter Try.func34, Try.ntmps34
  go_wp2_with (first
    | (go_at_call 26; refine (new_net okA w w (Below.refl _ _)).mono ?_; rintro e w1 ⟨rfl, hi1, hb1⟩; rw [ex_nil] at hi1; have HI := Aside0.mk hi1; have HB := Aside0.mk hb1; clear hi1 hb1)
    | (go_at_call 27; (with_reducible refine (ex_send w _ w.heap.size [] sa (by decide) (by decide) HI.out HB.out).mono ?_); rintro e w2 ⟨rfl, hi1, hb1⟩; replace HI := Aside0.mk hi1; replace HB := Aside0.mk hb1; clear hi1 hb1)
    | (go_at_call 27; (with_reducible refine (ex_send w _ w.heap.size [sa] sb (by decide) (by decide) HI.out HB.out).mono ?_); rintro e w3 ⟨rfl, hi1, hb1⟩; replace HI := Aside0.mk hi1; replace HB := Aside0.mk hb1; clear hi1 hb1)
    | (go_at_call 27; (with_reducible refine (ex_send w _ w.heap.size [sa, sb] sc (by decide) (by decide) HI.out HB.out).mono ?_); rintro e w4 ⟨rfl, hi1, hb1⟩; replace HI := Aside0.mk hi1; replace HB := Aside0.mk hb1; clear hi1 hb1)
    | (go_at_call 30; (with_reducible refine (ex_drop w _ w.heap.size HI.out HB.out).mono ?_); rintro e w5 ⟨rfl, hi1, hb1⟩; replace HI := Aside0.mk hi1; replace HB := Aside0.mk hb1; clear hi1 hb1)
    | (go_at_call 31; (with_reducible refine (ex_double w _ w.heap.size HI.out HB.out).mono ?_); rintro e w6 ⟨rfl, hi1, hb1⟩; replace HI := Aside0.mk hi1; replace HB := Aside0.mk hb1; clear hi1 hb1)
    | (go_at_call 33; (with_reducible refine (ex_all w _ w.heap.size HI.out).mono ?_); rintro e w7 ⟨A, c, rfl, hl, hc, hb⟩; replace HI := Aside0.mk (HI.out.below hb); replace HB := Aside0.mk (below_step HB.out hb); have HC := Aside0.mk hc; clear hb hc)
    | (go_at_call 25; refine (trefoilref01_Texts.calls 10 _ _ [sb, sc, sb] (some ⟨w7.heap.size, 0, none⟩) 3 [sb, sc, sb] true _ (Kd.C_alloc HC.out _) hl (lit3 w7 sb sc sb) (by decide) HT.out).mono ?_; rintro e w8 ⟨rfl, hd⟩; replace HI := Aside0.mk ((HI.out.below (below_alloc (Below.refl _ _) _)).below hd.below); replace HB := Aside0.mk (below_step (below_alloc HB.out _) hd.below); clear hd)
    | (go_at_call 36; (with_reducible refine (ex_len w _ w.heap.size HI.out).mono ?_); rintro e w9 ⟨rfl, rfl⟩))
  go_ret
  exact ⟨rfl, HB.out⟩
end Go.Proofs.Ytedhckojeephaaa.P
