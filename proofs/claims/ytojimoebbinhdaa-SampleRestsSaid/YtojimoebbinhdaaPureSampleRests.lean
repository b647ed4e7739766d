/- SampleRests, the plain part: the program's Rest and the document's Rest tell the same, for every number and every list of at most 60. -/
import Derived.Test.YtojimoebbinhdaaPSampleRestsx2
import Derived.IntWalk
import Derived.OpenShut
namespace Go.Proofs.Ytojimoebbinhdaa.Pure
open Go.RowKit Go.Proofs.Ytojimoebbinhdaa.PSampleRests Go.Proofs.YtojimoebbinhdaaW.PrintWords Go.Proofs.YtojimoebbinhdaaW.PrintLast
namespace SampleRestsL

theorem w64 {n : Int} (h0 : -1000 ≤ n) (h1 : n ≤ 1000000) : wrap64 n = n := by unfold wrap64; omega

/-- what the program's loop comes to: how many were found, and the others -/
def go (l : List Int) : Nat → Int → Nat → List Int → Nat × List Int
  | 0, _, a, out => (a, out)
  | d + 1, i, a, out => if a < l.length then (if l.getD a 0 = i then go l d (i + 1) (a + 1) out else go l d (i + 1) a (out ++ [i])) else go l d (i + 1) a (out ++ [i])

/-- its end -/
def fin (r : Nat × List Int) (m : Nat) : List Int × Int := if r.1 < m then ([], 1) else (r.2, 0)

theorem rd_nat (l : List Int) (j : Nat) : rd l (j : Int) = l.getD j 0 := by simp [rd]

theorem rest_loop (l : List Int) (n : Int) (hl : l.length ≤ 60) (hn : n ≤ 24) (d : Nat) : ∀ (k a : Nat) (out : List Int) (i : Int), i + d = n → 0 ≤ i → out.length ≤ i.toNat → d < k →
    sample_Rest.l0 k l a out n i = some (fin (go l d i a out) l.length) := by
  induction d with
  | zero =>
    intro k a out i hi h0 ho hk
    obtain ⟨k, rfl⟩ : ∃ q, k = q + 1 := ⟨k - 1, by omega⟩
    simp only [sample_Rest.l0, go]
    rw [if_neg (by omega)]
    by_cases h : a < l.length
    · rw [if_pos (by omega), fin, if_pos h]
    · rw [if_neg (by omega), fin, if_neg h]
  | succ d ih =>
    intro k a out i hi h0 ho hk
    obtain ⟨k, rfl⟩ : ∃ q, k = q + 1 := ⟨k - 1, by omega⟩
    have e1 : wrap64 (i + 1) = i + 1 := w64 (by omega) (by omega)
    simp only [sample_Rest.l0, go]
    rw [if_pos (by omega), e1]
    by_cases h : a < l.length
    · have e2 : wrap64 ((a : Int) + 1) = ((a + 1 : Nat) : Int) := by rw [w64 (by omega) (by omega)]; omega
      rw [if_pos (by omega), if_pos (by omega), if_pos h, rd_nat, e2]
      by_cases hc : l.getD a 0 = i
      · rw [if_pos hc, if_pos hc]
        exact ih k (a + 1) out (i + 1) (by omega) (by omega) (by omega) (by omega)
      · rw [if_neg hc, if_neg hc, if_pos (by omega)]
        exact ih k a (out ++ [i]) (i + 1) (by omega) (by omega) (by rw [List.length_append, List.length_singleton]; omega) (by omega)
    · rw [if_neg (by omega), if_neg h, if_pos (by omega)]
      exact ih k a (out ++ [i]) (i + 1) (by omega) (by omega) (by rw [List.length_append, List.length_singleton]; omega) (by omega)

theorem rest_f (l : List Int) (n : Int) (k : Nat) (hl : l.length ≤ 60) (hk : 30 ≤ k) :
    sample_Rest.f k n l = some (if n < 0 ∨ 24 < n then ([], 2) else fin (go l n.toNat 0 0 []) l.length) := by
  obtain ⟨k, rfl⟩ : ∃ q, k = q + 1 := ⟨k - 1, by omega⟩
  unfold sample_Rest.f
  by_cases h1 : n < 0
  · rw [if_pos h1]; simp only [sample_Rest.j0]; rw [if_pos trivial, if_pos (.inl h1)]
  · rw [if_neg h1]; simp only [sample_Rest.j0]
    by_cases h2 : n > 24
    · rw [if_pos (by simpa using h2), if_pos (.inr h2)]
    · rw [if_neg (by simpa using h2), if_neg (show ¬ (n < 0 ∨ 24 < n) by omega)]
      exact rest_loop l n hl (by omega) n.toNat k 0 [] 0 (by omega) (by omega) (by simp) (by omega)

/-- numbers below n, rising, from place 0 up to place m -/
def Rising (l : List Int) (n : Int) (m : Nat) : Prop := ∀ j, j < m → 0 ≤ l.getD j 0 ∧ l.getD j 0 < n ∧ (0 < j → l.getD (j - 1) 0 < l.getD j 0)

theorem rising_lt {l : List Int} {n : Int} {m : Nat} (h : Rising l n m) {a j : Nat} (ha : a < j) (hj : j < m) : l.getD a 0 < l.getD j 0 := by
  induction j with
  | zero => omega
  | succ j ih =>
    have h1 := (h (j + 1) hj).2.2 (by omega)
    rw [Nat.add_sub_cancel] at h1
    by_cases e : a = j
    · subst e; exact h1
    · have := ih (by omega) (by omega); omega

/-- what was found is rising -/
theorem go_rising (l : List Int) (d : Nat) : ∀ (i : Int) (a : Nat) (out : List Int), Rising l i a → 0 ≤ i → a ≤ l.length →
    Rising l (i + d) (go l d i a out).1 ∧ (go l d i a out).1 ≤ l.length := by
  induction d with
  | zero => intro i a out h h0 ha; simpa [go] using ⟨h, ha⟩
  | succ d ih =>
    intro i a out h h0 ha
    have up : Rising l (i + 1) a := fun j hj => ⟨(h j hj).1, by have := (h j hj).2.1; omega, (h j hj).2.2⟩
    have e : i + ((d + 1 : Nat) : Int) = i + 1 + d := by omega
    rw [e]
    simp only [go]
    by_cases hl : a < l.length
    · rw [if_pos hl]
      by_cases hc : l.getD a 0 = i
      · rw [if_pos hc]
        refine ih (i + 1) (a + 1) out ?_ (by omega) (by omega)
        intro j hj
        by_cases ej : j = a
        · subst ej
          exact ⟨by omega, by omega, fun hp => by have := (h (j - 1) (by omega)).2.1; omega⟩
        · exact up j (by omega)
      · rw [if_neg hc]; exact ih (i + 1) a _ up (by omega) ha
    · rw [if_neg hl]; exact ih (i + 1) a _ up (by omega) ha

/-- the numbers from i on that are not in the list -/
def outs (l : List Int) : Nat → Int → List Int
  | 0, _ => []
  | d + 1, i => if i ∈ l then outs l d (i + 1) else i :: outs l d (i + 1)

theorem getD_mem (l : List Int) (i : Int) : i ∈ l ↔ ∃ j, j < l.length ∧ l.getD j 0 = i := by
  constructor
  · intro h
    obtain ⟨j, hj, e⟩ := List.getElem_of_mem h
    exact ⟨j, hj, by simp [hj, e]⟩
  · rintro ⟨j, hj, e⟩
    rw [List.getD_eq_getElem?_getD, List.getElem?_eq_getElem hj] at e
    simp only [Option.getD_some] at e
    exact e ▸ List.getElem_mem hj

theorem go_outs (l : List Int) (n : Int) (hr : Rising l n l.length) (d : Nat) : ∀ (i : Int) (a : Nat) (out : List Int), 0 ≤ i → i + d = n → a ≤ l.length →
    (∀ j, j < a → l.getD j 0 < i) → (∀ j, a ≤ j → j < l.length → i ≤ l.getD j 0) → go l d i a out = (l.length, out ++ outs l d i) := by
  induction d with
  | zero =>
    intro i a out h0 hi ha hlo hhi
    simp only [go, outs, List.append_nil]
    have : a = l.length := by
      by_cases e : a < l.length
      · have := hhi a (Nat.le_refl _) e; have := (hr a e).2.1; omega
      · omega
    rw [this]
  | succ d ih =>
    intro i a out h0 hi ha hlo hhi
    have key : i ∈ l ↔ a < l.length ∧ l.getD a 0 = i := by
      rw [getD_mem]
      constructor
      · rintro ⟨j, hj, e⟩
        have h1 : a ≤ j := by
          by_cases h : a ≤ j
          · exact h
          · have := hlo j (by omega); omega
        by_cases e2 : a = j
        · subst e2; exact ⟨hj, e⟩
        · have := rising_lt hr (show a < j by omega) hj
          have := hhi a (Nat.le_refl _) (by omega)
          omega
      · rintro ⟨h1, h2⟩; exact ⟨a, h1, h2⟩
    simp only [go, outs]
    by_cases hl : a < l.length
    · rw [if_pos hl]
      by_cases hc : l.getD a 0 = i
      · rw [if_pos hc, if_pos (key.2 ⟨hl, hc⟩)]
        refine ih (i + 1) (a + 1) out (by omega) (by omega) (by omega) ?_ ?_
        · intro j hj
          by_cases e : j = a
          · subst e; omega
          · have := hlo j (by omega); omega
        · intro j hj1 hj2
          have := rising_lt hr (show a < j by omega) hj2
          omega
      · rw [if_neg hc, if_neg (fun h => hc (key.1 h).2)]
        rw [ih (i + 1) a (out ++ [i]) (by omega) (by omega) ha (fun j hj => by have := hlo j hj; omega) ?_]
        · simp
        · intro j hj1 hj2
          have h1 := hhi j hj1 hj2
          by_cases e : l.getD j 0 = i
          · exact absurd ((getD_mem l i).2 ⟨j, hj2, e⟩) (fun h => hc (key.1 h).2)
          · omega
    · rw [if_neg hl, if_neg (fun h => hl (key.1 h).1)]
      rw [ih (i + 1) a (out ++ [i]) (by omega) (by omega) ha (fun j hj => by have := hlo j hj; omega) (fun j h1 h2 => by omega)]
      simp

open Classical in
/-- the document's inner loop -/
theorem ref_l2 (n : Int) (l out : List Int) (i : Int) (hl : l.length ≤ 60) (ho : out.length ≤ 100) (d : Nat) : ∀ (k : Nat) (th : Bool) (j : Nat), j + d = l.length →
    trefoilref29_Rest.l2 (k + d + 1) n l out i th j = if th = true ∨ (∃ q, j ≤ q ∧ q < l.length ∧ l.getD q 0 = i) then trefoilref29_Rest.l1 k n l out (wrap64 (i + 1)) else trefoilref29_Rest.l1 k n l (out ++ [i]) (wrap64 (i + 1)) := by
  induction d with
  | zero =>
    intro k th j hj
    simp only [trefoilref29_Rest.l2]
    rw [if_neg (by omega)]
    by_cases h : th = true
    · rw [if_pos h, if_pos (.inl h)]
    · rw [if_neg h, if_pos (by omega), if_neg (show ¬ (th = true ∨ ∃ q, j ≤ q ∧ q < l.length ∧ l.getD q 0 = i) from fun hh => by
        rcases hh with h' | ⟨q, h1, h2, _⟩
        · exact h h'
        · omega)]
  | succ d ih =>
    intro k th j hj
    have ih1 := ih k
    rw [show k + (d + 1) + 1 = (k + d + 1) + 1 from by omega]
    generalize k + d + 1 = K at ih1 ⊢
    simp only [trefoilref29_Rest.l2]
    have e1 : wrap64 ((j : Int) + 1) = ((j + 1 : Nat) : Int) := by rw [w64 (by omega) (by omega)]; omega
    rw [if_pos (by omega), e1]
    by_cases h : th = true
    · rw [if_pos h, ih1 true (j + 1) (by omega), if_pos (.inl rfl), if_pos (.inl h)]
    · rw [if_neg h, if_pos (by omega), rd_nat, ih1 _ (j + 1) (by omega)]
      by_cases hc : l.getD j 0 = i
      · rw [if_pos (.inl (by simpa using hc)), if_pos (.inr ⟨j, by omega, by omega, hc⟩)]
      · have : ((l.getD j 0 == i) = true ∨ ∃ q, j + 1 ≤ q ∧ q < l.length ∧ l.getD q 0 = i) ↔ (th = true ∨ ∃ q, j ≤ q ∧ q < l.length ∧ l.getD q 0 = i) := by
          constructor
          · rintro (h' | ⟨q, h1, h2, h3⟩)
            · exact absurd (by simpa using h') hc
            · exact .inr ⟨q, by omega, h2, h3⟩
          · rintro (h' | ⟨q, h1, h2, h3⟩)
            · exact absurd h' h
            · refine .inr ⟨q, ?_, h2, h3⟩
              by_cases e : q = j
              · subst e; exact absurd h3 hc
              · omega
        by_cases hh : th = true ∨ ∃ q, j ≤ q ∧ q < l.length ∧ l.getD q 0 = i
        · rw [if_pos hh, if_pos (this.2 hh)]
        · rw [if_neg hh, if_neg (fun x => hh (this.1 x))]

theorem ref_l1 (n : Int) (l : List Int) (hl : l.length ≤ 60) (hn : n ≤ 24) (d : Nat) : ∀ (k : Nat) (out : List Int) (i : Int), i + d = n → 0 ≤ i → out.length ≤ i.toNat → 62 * d < k →
    trefoilref29_Rest.l1 k n l out i = some (out ++ outs l d i, 0) := by
  induction d with
  | zero =>
    intro k out i hi h0 ho hk
    obtain ⟨k, rfl⟩ : ∃ q, k = q + 1 := ⟨k - 1, by omega⟩
    simp only [trefoilref29_Rest.l1, outs, List.append_nil]
    rw [if_neg (by omega)]
  | succ d ih =>
    intro k out i hi h0 ho hk
    obtain ⟨k, rfl⟩ : ∃ q, k = q + l.length + 1 + 1 := ⟨k - l.length - 2, by omega⟩
    simp only [trefoilref29_Rest.l1]
    have e := ref_l2 n l out i hl (by omega) l.length k false 0 (by omega)
    rw [if_pos (by omega)]
    refine e.trans ?_
    rw [w64 (n := i + 1) (by omega) (by omega)]
    simp only [outs]
    by_cases h : i ∈ l
    · rw [if_pos h, if_pos]
      · exact ih k out (i + 1) (by omega) (by omega) (by omega) (by omega)
      · obtain ⟨j, h1, h2⟩ := (getD_mem l i).1 h
        exact .inr ⟨j, by omega, h1, h2⟩
    · rw [if_neg h, if_neg]
      · rw [ih k (out ++ [i]) (i + 1) (by omega) (by omega) (by rw [List.length_append, List.length_singleton]; omega) (by omega)]
        simp
      · rintro (h' | ⟨q, _, h2, h3⟩)
        · cases h'
        · exact h ((getD_mem l i).2 ⟨q, h2, h3⟩)

open Classical in
theorem ref_l0 (n : Int) (l : List Int) (hl : l.length ≤ 60) (hn : n ≤ 24) (h0n : 0 ≤ n) (d : Nat) : ∀ (k : Nat) (j : Nat), j + d = l.length → Rising l n j → d + 1600 < k →
    trefoilref29_Rest.l0 k n l j = some (if Rising l n l.length then (outs l n.toNat 0, 0) else ([], 1)) := by
  induction d with
  | zero =>
    intro k j hj hr hk
    obtain ⟨k, rfl⟩ : ∃ q, k = q + 1 := ⟨k - 1, by omega⟩
    simp only [trefoilref29_Rest.l0]
    obtain rfl : j = l.length := by omega
    rw [if_neg (by omega), if_pos hr]
    have := ref_l1 n l hl hn n.toNat k [] 0 (by omega) (by omega) (by simp) (by omega)
    simpa using this
  | succ d ih =>
    intro k j hj hr hk
    obtain ⟨k, rfl⟩ : ∃ q, k = q + 1 := ⟨k - 1, by omega⟩
    simp only [trefoilref29_Rest.l0]
    rw [if_pos (by omega), if_pos (by omega), rd_nat]
    by_cases c1 : l.getD j 0 < 0
    · rw [if_pos c1, if_neg (fun h => by have := (h j (by omega)).1; omega)]
    · rw [if_neg c1]
      by_cases c2 : l.getD j 0 ≥ n
      · rw [if_pos c2, if_neg (fun h => by have := (h j (by omega)).2.1; omega)]
      · rw [if_neg c2]
        have e1 : wrap64 ((j : Int) + 1) = ((j + 1 : Nat) : Int) := by rw [w64 (by omega) (by omega)]; omega
        rw [e1]
        by_cases c3 : (j : Int) > 0
        · have e2 : wrap64 ((j : Int) - 1) = ((j - 1 : Nat) : Int) := by rw [w64 (by omega) (by omega)]; omega
          rw [if_pos c3, e2, if_pos (by omega), if_pos (by omega), rd_nat]
          by_cases c4 : l.getD j 0 ≤ l.getD (j - 1) 0
          · rw [if_pos c4, if_neg (fun h => by have := (h j (by omega)).2.2 (by omega); omega)]
          · rw [if_neg c4]
            refine ih k (j + 1) (by omega) ?_ (by omega)
            intro q hq
            by_cases e : q = j
            · subst e; exact ⟨by omega, by omega, fun _ => by omega⟩
            · exact hr q (by omega)
        · rw [if_neg c3]
          refine ih k (j + 1) (by omega) ?_ (by omega)
          intro q hq
          by_cases e : q = j
          · subst e; exact ⟨by omega, by omega, fun _ => by omega⟩
          · exact hr q (by omega)

open Classical in
theorem ref_f (l : List Int) (n : Int) (k : Nat) (hl : l.length ≤ 60) (hk : 2000 ≤ k) :
    trefoilref29_Rest.f k n l = some (if n < 0 ∨ 24 < n then ([], 2) else if Rising l n l.length then (outs l n.toNat 0, 0) else ([], 1)) := by
  obtain ⟨k, rfl⟩ : ∃ q, k = q + 1 := ⟨k - 1, by omega⟩
  unfold trefoilref29_Rest.f
  by_cases h1 : n < 0
  · rw [if_pos h1]; simp only [trefoilref29_Rest.j0]; rw [if_pos trivial, if_pos (.inl h1)]
  · rw [if_neg h1]; simp only [trefoilref29_Rest.j0]
    by_cases h2 : n > 24
    · rw [if_pos (by simpa using h2), if_pos (.inr h2)]
    · rw [if_neg (by simpa using h2), if_neg (show ¬ (n < 0 ∨ 24 < n) by omega)]
      exact ref_l0 n l hl (by omega) (by omega) l.length k 0 (by omega) (fun j hj => by omega) (by omega)

theorem ints_loop (a : List Int) (hm : a.length ≤ 1000) (d : Nat) : ∀ (k : Nat) (i : Nat), i + d = a.length → d < k → trefoilref01_Ints.l0 k a a i = some true := by
  induction d with
  | zero =>
    intro k i hi hk
    obtain ⟨k, rfl⟩ : ∃ q, k = q + 1 := ⟨k - 1, by omega⟩
    simp only [trefoilref01_Ints.l0]; rw [if_neg (by omega)]
  | succ d ih =>
    intro k i hi hk
    obtain ⟨k, rfl⟩ : ∃ q, k = q + 1 := ⟨k - 1, by omega⟩
    simp only [trefoilref01_Ints.l0]
    rw [if_pos (by omega), if_pos (by omega), if_pos (by omega), if_pos trivial]
    have : wrap64 ((i : Int) + 1) = ((i + 1 : Nat) : Int) := by unfold wrap64; omega
    rw [this]
    exact ih k (i + 1) (by omega) (by omega)

theorem ints_f (a : List Int) (k : Nat) (hm : a.length ≤ 1000) (hk : 1001 < k) : trefoilref01_Ints.f k a a = some true := by
  unfold trefoilref01_Ints.f
  rw [if_pos rfl]
  exact ints_loop a hm a.length k 0 (by omega) (by omega)

theorem awake_f (k : Nat) (hk : 2000 ≤ k) : trefoillaw29_awake.f k = some true := by
  unfold trefoillaw29_awake.f
  rw [rest_f [1, 3] 4 k (by simp) (by omega)]
  have e : go [1, 3] (4 : Int).toNat 0 0 [] = (2, [0, 2]) := by decide
  rw [if_neg (by omega), e]
  simp only [fin]
  rw [if_neg (by simp)]
  simp only [Option.bind_some, if_true]
  rw [ints_f [0, 2] k (by simp) (by omega)]; rfl

theorem outs_len (l : List Int) (d : Nat) : ∀ i, (outs l d i).length ≤ d := by
  induction d with
  | zero => intro i; simp [outs]
  | succ d ih =>
    intro i
    simp only [outs]
    have := ih (i + 1)
    split
    · omega
    · rw [List.length_cons]; omega

/-- both tell the same -/
theorem agree (l : List Int) (n : Int) (h0 : 0 ≤ n) (hr : Rising l n l.length) : go l n.toNat 0 0 [] = (l.length, outs l n.toNat 0) := by
  have := go_outs l n hr n.toNat 0 0 [] (by omega) (by omega) (by omega) (fun j hj => by omega) (fun j _ hj => (hr j hj).1)
  simpa using this

theorem astray (l : List Int) (n : Int) (h0 : 0 ≤ n) (hr : ¬ Rising l n l.length) : (go l n.toNat 0 0 []).1 < l.length := by
  obtain ⟨h1, h2⟩ := go_rising l n.toNat 0 0 [] (fun j hj => by omega) (by omega) (by omega)
  by_cases e : (go l n.toNat 0 0 []).1 = l.length
  · rw [e] at h1
    exact absurd (by have e2 : (0 : Int) + (n.toNat : Int) = n := by omega
                     rw [e2] at h1; exact h1) hr
  · omega

end SampleRestsL
open SampleRestsL

open Classical in
/-- The plain statement of SampleRests. -/
theorem SampleRests : trefoillaw29_SampleRests.Pure := by
  intro n l hn hlen hsz hwf
  refine ⟨2000, ?_⟩
  unfold trefoillaw29_SampleRests.f
  by_cases h : (l.length : Int) > 60
  · rw [if_pos h, awake_f 2000 (by omega)]; rfl
  · rw [if_neg h, rest_f l n 2000 (by omega) (by omega), ref_f l n 2000 (by omega) (by omega)]
    simp only [Option.bind_some]
    have both : (if n < 0 ∨ 24 < n then (([] : List Int), (2 : Int)) else fin (go l n.toNat 0 0 []) l.length) = (if n < 0 ∨ 24 < n then ([], 2) else if Rising l n l.length then (outs l n.toNat 0, 0) else ([], 1)) := by
      by_cases c : n < 0 ∨ 24 < n
      · rw [if_pos c, if_pos c]
      · rw [if_neg c, if_neg c]
        by_cases hr : Rising l n l.length
        · rw [if_pos hr, agree l n (by omega) hr]; simp [fin]
        · rw [if_neg hr, fin, if_pos (astray l n (by omega) hr)]
    rw [both]
    have hsmall : (if n < 0 ∨ 24 < n then (([] : List Int), (2 : Int)) else if Rising l n l.length then (outs l n.toNat 0, 0) else ([], 1)).1.length ≤ 1000 := by
      by_cases c : n < 0 ∨ 24 < n
      · rw [if_pos c]; simp
      · rw [if_neg c]
        by_cases hr : Rising l n l.length
        · rw [if_pos hr]; have := outs_len l n.toNat 0; simp only; omega
        · rw [if_neg hr]; simp
    rw [ints_f _ 2000 hsmall (by omega)]
    simp only [Option.bind_some, if_true]
    rw [awake_f 2000 (by omega)]; rfl

end Go.Proofs.Ytojimoebbinhdaa.Pure
