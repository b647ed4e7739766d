/- Shares of products: what is spread, in the document and in the program. -/
import Derived.Test.YtcmaidpoolcelaaMsPx0
import Derived.Test.YtcmaidpoolcelaaMsK7
import Derived.Test.YtcmaidpoolcelaaMsLemSides
namespace Go.Proofs.Ytcmaidpoolcelaa.Lem
open Go.RowKit Go.Proofs.Ytcmaidpoolcelaa.P Go.Proofs.Ytcmaidpoolcelaa.Num Go.Proofs.YtcmaidpoolcelaaW.PrintWords Go.Proofs.YtcmaidpoolcelaaW.PrintMore
set_option linter.unusedVariables false

theorem add_w (a b : Nat) (h : a + b ≤ 100000) : wrap64 ((a : Int) + (b : Int)) = ((a + b : Nat) : Int) := by
  rw [w64 (by omega) (by omega)]; omega
theorem spreadAll_append (l : Nat) (a b : List (List Int)) : spreadAll l (a ++ b) = spreadAll l a ++ spreadAll l b := by unfold spreadAll; rw [List.flatMap_append]
theorem spreadAll_one (l : Nat) (g : List Int) : spreadAll l [g] = spreadB l g := by unfold spreadAll; rw [List.flatMap_cons, List.flatMap_nil, List.append_nil]

theorem rs_in (l r q c : Nat) (h0 : 1 ≤ l) (hl : l ≤ 64) (hr : r ≤ 6) (hq0 : 1 ≤ q) (hq : q ≤ 6) (hc0 : 1 ≤ c) (hc : c ≤ 6) (c0 c2 c3 c4 : Int) (xs : List S26) (i : Nat) (hi : i < xs.length) (hi5 : i ≤ 100000)
    (s : S26) (es : rd_T26 xs (i : Int) = s) (hf : s.f1.length = q * c) (hu : U64s s.f1) (hlo : lows l s.f1 = true) (pre : List (List Int)) (hp : ∀ g ∈ pre, g.length = c) (hpl : pre.length ≤ 2000) (d : Nat) : ∀ (k x : Nat), x + d = r * q → d + 12000 < k →
    ∃ q', k ≤ q' + d + 1 ∧ trefoilref22_Spread.l1 k xs (r : Int) (q : Int) (c : Int) (spreadAll l (pre ++ (blks r q c s).take x)) (i : Int) (x : Int) c0 (l : Int) c2 c3 c4 = trefoilref22_Spread.l0 q' xs (r : Int) (q : Int) (c : Int) (spreadAll l (pre ++ blks r q c s)) ((i + 1 : Nat) : Int) c0 (l : Int) c2 c3 c4 := by
  have hrq : r * q ≤ 6 * 6 := Nat.mul_le_mul hr hq
  have hok := blks_ok l r q c s hf hu hlo
  have hbl := blks_len r q c s
  induction d with
  | zero =>
    intro k x hx hk
    obtain ⟨k, rfl⟩ : ∃ q, k = q + 1 := ⟨k - 1, by omega⟩
    refine ⟨k, by omega, ?_⟩
    have t1 : ¬ ((x : Int) < ((r * q : Nat) : Int)) := by omega
    simp only [trefoilref22_Spread.l1]
    rw [mul_w r q hrq, if_neg t1, List.take_of_length_le (by omega), w_succ i hi5]
  | succ d ih =>
    intro k x hx hk
    obtain ⟨k, rfl⟩ : ∃ q, k = q + 1 := ⟨k - 1, by omega⟩
    obtain ⟨q', hq', nx⟩ := ih k (x + 1) (by omega) (by omega)
    refine ⟨q', by omega, ?_⟩
    have hxr : x < r * q := by omega
    have t1 : (x : Int) < ((r * q : Nat) : Int) := by omega
    have t2 : (0 : Int) ≤ (i : Int) := by omega
    have t3 : (i : Int) < (xs.length : Int) := by omega
    have t4 : ¬ (q : Int) = 0 := by omega
    have hb : x % q < q := Nat.mod_lt _ hq0
    have hbc : (x % q + 1) * c ≤ q * c := Nat.mul_le_mul_right c hb
    rw [Nat.succ_mul] at hbc
    have hqc : q * c ≤ 6 * 6 := Nat.mul_le_mul hq hc
    have hbc2 : x % q * c ≤ 6 * 6 := by omega
    have hbc3 : x % q * c + c ≤ 100000 := by omega
    have t5 : (0 : Int) ≤ ((x % q * c : Nat) : Int) := by omega
    have t6 : ((x % q * c : Nat) : Int) ≤ ((x % q * c + c : Nat) : Int) := by omega
    have t7 : ((x % q * c + c : Nat) : Int) ≤ (s.f1.length : Int) := by omega
    have hk2 : 11000 ≤ k := by omega
    have hat := blks_at r q c s x hxr hq0
    have hxb : x < (blks r q c s).length := by omega
    have hget : (blks r q c s)[x] = (s.f1.drop (x % q * c)).take c := by
      rw [List.getElem?_eq_getElem hxb] at hat; exact Option.some.inj hat
    have hmem : (s.f1.drop (x % q * c)).take c ∈ blks r q c s := by rw [← hget]; exact List.getElem_mem hxb
    obtain ⟨g1, g2, g3⟩ := hok _ hmem
    have hcut : (s.f1.take (x % q * c + c)).drop (x % q * c) = (s.f1.drop (x % q * c)).take c := by rw [List.drop_take, Nat.add_sub_cancel_left]
    have hsp := rsp_f k l h0 hl _ g2 g3 (by rw [g1]; exact hc0) (by rw [g1]; exact hc) hk2
    rw [g1] at hsp
    have hsn : (blks r q c s).take x ++ [(s.f1.drop (x % q * c)).take c] = (blks r q c s).take (x + 1) := by rw [List.take_succ_eq_append_getElem hxb, hget]
    have hpl2 : (pre ++ (blks r q c s).take x).length ≤ 2036 := by rw [List.length_append, List.length_take]; omega
    have hsl := spreadAll_len l c (pre ++ (blks r q c s).take x) (fun g hg => by
      rcases List.mem_append.1 hg with h | h
      · exact hp g h
      · exact (hok g (List.mem_of_mem_take h)).1)
    have hlc : l * c ≤ 64 * 6 := Nat.mul_le_mul hl hc
    have hsl2 : (spreadAll l (pre ++ (blks r q c s).take x)).length ≤ 2036 * (64 * 6) := by rw [hsl]; exact Nat.mul_le_mul hpl2 hlc
    have hsb : (spreadB l ((s.f1.drop (x % q * c)).take c)).length ≤ 64 * 6 := by rw [spreadB_len, g1]; exact hlc
    have hlen : (spreadAll l (pre ++ (blks r q c s).take x)).length + (spreadB l ((s.f1.drop (x % q * c)).take c)).length < 17592186044416 := by omega
    have hx5 : x ≤ 100000 := by omega
    simp only [trefoilref22_Spread.l1]
    rw [mul_w r q hrq, if_pos t1, if_pos t2, if_pos t3, if_neg t4, tmod_nat, mul_w (x % q) c hbc2, add_w _ c hbc3, if_pos t5, if_pos t6, es, if_pos t7, Int.toNat_natCast, Int.toNat_natCast, hcut, hsp, Option.bind_some, if_pos hlen, ← spreadAll_one, ← spreadAll_append, List.append_assoc, hsn, w_succ x hx5]
    exact nx

theorem allBlks_snoc (r q c : Nat) (xs : List S26) (i : Nat) (h : i < xs.length) : allBlks r q c (xs.take i) ++ blks r q c (rd_T26 xs (i : Int)) = allBlks r q c (xs.take (i + 1)) := sh_snoc (blks r q c) xs i h
theorem allBlks_len (r q c : Nat) (xs : List S26) (hrq : r * q ≤ 6 * 6) (hx : xs.length ≤ 30) : (allBlks r q c xs).length ≤ 1080 := by
  have := flat_len (blks r q c) 36 xs (fun s _ => by rw [blks_len]; exact hrq)
  unfold allBlks
  omega
theorem allBlks_ok (l r q c : Nat) (xs : List S26) (hx : Few xs) (ho : xs.all (okSh l r q c) = true) : ∀ g ∈ allBlks r q c xs, g.length = c ∧ U64s g ∧ lows l g = true := by
  intro g hg
  unfold allBlks at hg
  rw [List.mem_flatMap] at hg
  obtain ⟨s, hs, hg⟩ := hg
  obtain ⟨_, b, _, e⟩ := okSh_iff (List.all_eq_true.1 ho s hs)
  exact blks_ok l r q c s b (hx.2 s hs).2.1 e g hg

theorem rs_loop (l r q c : Nat) (h0 : 1 ≤ l) (hl : l ≤ 64) (hr : r ≤ 6) (hq0 : 1 ≤ q) (hq : q ≤ 6) (hc0 : 1 ≤ c) (hc : c ≤ 6) (c0 c2 c3 c4 : Int) (xs : List S26) (hx : Few xs) (ho : xs.all (okSh l r q c) = true) (d : Nat) : ∀ (k i : Nat), i + d = xs.length → d * 40 + 12100 < k →
    trefoilref22_Spread.l0 k xs (r : Int) (q : Int) (c : Int) (spreadAll l (allBlks r q c (xs.take i))) (i : Int) c0 (l : Int) c2 c3 c4 = some (spreadAll l (allBlks r q c xs), 0) := by
  have hrq : r * q ≤ 6 * 6 := Nat.mul_le_mul hr hq
  induction d with
  | zero =>
    intro k i hi hk
    obtain ⟨k, rfl⟩ : ∃ q, k = q + 1 := ⟨k - 1, by omega⟩
    have t1 : ¬ ((i : Int) < (xs.length : Int)) := by omega
    simp only [trefoilref22_Spread.l0]
    rw [if_neg t1, List.take_of_length_le (by omega)]
  | succ d ih =>
    intro k i hi hk
    obtain ⟨k, rfl⟩ : ∃ q, k = q + 1 := ⟨k - 1, by omega⟩
    have hil : i < xs.length := by omega
    have hx0 := hx.1
    have t1 : (i : Int) < (xs.length : Int) := by omega
    have hm := sh_mem xs i hil
    obtain ⟨_, b, _, e⟩ := okSh_iff (List.all_eq_true.1 ho _ hm)
    obtain ⟨q', hq', st⟩ := rs_in l r q c h0 hl hr hq0 hq hc0 hc c0 c2 c3 c4 xs i hil (by omega) _ rfl b (hx.2 _ hm).2.1 e (allBlks r q c (xs.take i))
      (fun g hg => (allBlks_ok l r q c (xs.take i) (few_take hx i) (by rw [List.all_eq_true] at ho ⊢; exact fun s hs => ho s (List.mem_of_mem_take hs)) g hg).1)
      (by have := allBlks_len r q c (xs.take i) hrq (by rw [List.length_take]; omega); omega) (r * q) k 0 (by omega) (by omega)
    rw [List.take_zero, List.append_nil, allBlks_snoc r q c xs i hil] at st
    have nx := ih q' (i + 1) (by omega) (by omega)
    simp only [trefoilref22_Spread.l0]
    rw [if_pos t1]
    exact (show trefoilref22_Spread.l1 k xs _ _ _ _ (i : Int) 0 _ _ _ _ _ = _ from st).trans nx

theorem allBlks_flat (l r q c : Nat) (xs : List S26) (ho : xs.all (okSh l r q c) = true) : (allBlks r q c xs).flatten = xs.flatMap fun s => (List.replicate r s.f1).flatten := by
  induction xs with
  | nil => rfl
  | cons x xs ih =>
    rw [List.all_cons, Bool.and_eq_true] at ho
    have e : allBlks r q c (x :: xs) = blks r q c x ++ allBlks r q c xs := by unfold allBlks; rw [List.flatMap_cons]
    rw [e, List.flatten_append, ih ho.2, blks_flat r q c x (okSh_iff ho.1).2.1, List.flatMap_cons]

theorem wrong_all {ck : Int} {l r q c : Nat} {xs : List S26} (h : wrongOf ck l r q c xs = 0) : ck = 0 ∧ xs.all (okSh l r q c) = true := by
  unfold wrongOf at h
  by_cases h1 : ck = 0
  · rw [if_pos h1] at h
    by_cases h2 : xs.all (okSh l r q c) = true
    · exact ⟨h1, h2⟩
    · rw [if_neg h2] at h; omega
  · rw [if_neg h1] at h; exact absurd h h1

/-- what both choose: the bits, and the code -/
def chB (w : Int) (l : Nat) (xs : List S26) : List Bool := if w = 0 then allBits l (fst0 xs) else []
def spB (w : Int) (l r q c : Nat) (xs : List S26) : List Int := if w = 0 then spreadAll l (allBlks r q c xs) else []
def Held (t : Int × List Int × Int) (L : List Bool) (w : Int) : Prop := t.1 = (L.length : Int) ∧ t.2.2 = w ∧ Words64 t.2.1 ∧ t.2.1.length = wordsOf L.length ∧ ∀ j, bitAt t.2.1 j = L.getD j false
theorem held_none (w : Int) : Held (0, [], w) [] w := ⟨rfl, rfl, fun x hx => by simp at hx, by simp [wordsOf], by intro j; simp [bitAt, rd]⟩

end Go.Proofs.Ytcmaidpoolcelaa.Lem
