/- NetPlays: a call of both, whatever call it is. -/
import Derived.Test.YtedhckojeephaaaNpPx0
import Derived.Test.YtedhckojeephaaaNpK0
import Derived.Test.YtedhckojeephaaaNpK1
import Derived.Test.YtedhckojeephaaaNpK2
import Derived.Test.YtedhckojeephaaaNpK4
import Derived.Test.YtedhckojeephaaaNpK5
import Derived.Test.YtedhckojeephaaaNpK7
import Derived.Test.YtedhckojeephaaaNpK8
import Derived.Test.YtedhckojeephaaaNpK10
import Derived.Test.YtedhckojeephaaaNpK11
import Derived.Test.YtedhckojeephaaaNpK12
import Derived.Test.YtedhckojeephaaaNpK13
import Derived.Test.YtedhckojeephaaaNpK14
import Derived.Test.YtedhckojeephaaaNpK15
import Derived.Test.YtedhckojeephaaaNpK16
import Derived.Test.YtedhckojeephaaaNpK17
import Derived.Test.YtedhckojeephaaaNpK18
import Derived.Test.YtedhckojeephaaaNpK19
import Derived.Test.YtedhckojeephaaaNpK20
import Derived.Test.YtedhckojeephaaaNpK21
import Derived.Test.YtedhckojeephaaaNpK22
namespace Go.Proofs.Ytedhckojeephaaa.P
open Go.RowKit Go.Proofs.YtedhckojeephaaaW.PrintWords Go.Proofs.YtedhckojeephaaaW.PrintLast Go.Proofs.YtedhckojeephaaaW.PrintMore
set_option linter.unusedVariables false
set_option linter.unusedSimpArgs false

/-! ### net_does_any -/
def Bnd (F : Bool → List ByteArray) : Prop := ∀ b, (F b).length ≤ 64 ∧ ∀ s ∈ F b, s.size ≤ 1000
theorem Bnd.upd {F : Bool → List ByteArray} (h : Bnd F) (b : Bool) (L : List ByteArray) (h1 : L.length ≤ 64) (h2 : ∀ s ∈ L, s.size ≤ 1000) : Bnd (upd F b L) := by
  intro c
  by_cases e : c = b
  · subst e; rw [upd_at]; exact ⟨h1, h2⟩
  · rw [upd_ne F b c L e]; exact h c
theorem not_in {L : List ByteArray} {i : Int} (h : ¬ inIt L i) : i < 0 ∨ i ≥ (L.length : Int) := by unfold inIt at h; omega
theorem net_stays {ok : Nat → Prop} {w0 w w' : World} {g : Nat} {F : Bool → List ByteArray} (hI : NetIs ok w0 w g F) (hB : Below w0.heap.size w0 w) (hb : Below w.heap.size w w') : NetTo ok w0 w w' g F := ⟨(hI.below hb).mono (fun _ h => .inl h), below_step hB hb, fun k hk _ _ => hb.block k hk⟩
section
variable (A0 A1 : Option Addr) (c0 c1 : Nat) (F : Bool → List ByteArray) (t : Int) (b : Bool) (ht : t = toOf b) (W : World)
abbrev sv0 (A0 : Option Addr) (c0 : Nat) (F : Bool → List ByteArray) : Value := .slice A0 (F false).length c0
abbrev sv1 (A1 : Option Addr) (c1 : Nat) (F : Bool → List ByteArray) : Value := .slice A1 (F true).length c1
include ht
theorem r_take_any (i : Int) (hR : RefIs W A0 A1 c0 c1 F) (hs : (F b).length ≤ 64) : Calls Try.prog 47 #[.agg #[sv0 A0 c0 F, sv1 A1 c1 F], .int .i64 t, .int .i64 i] W (RefAns W (sv0 A0 c0 F) (sv1 A1 c1 F) b F (takeL (F b) i) (withSE (takeS (F b) i) (takeE (F b) i))) := by
  unfold takeL takeS takeE
  by_cases hi : inIt (F b) i
  · rw [if_pos hi, if_pos hi, if_pos hi]
    obtain ⟨h0, h1⟩ := hi
    obtain ⟨k, rfl⟩ := Int.eq_ofNat_of_zero_le h0
    rw [Int.toNat_natCast]
    exact r_take_ok A0 A1 c0 c1 F t b ht k (by omega) W hR (by omega)
  · rw [if_neg hi, if_neg hi, if_neg hi]
    exact (r_take_err A0 A1 _ _ c0 c1 t i 6 W (wrong_out A0 A1 c0 c1 F t i b ht hi) rfl).mono fun e w' h => h.ans b F
theorem r_double_any (i : Int) (hR : RefIs W A0 A1 c0 c1 F) : Calls Try.prog 48 #[.agg #[sv0 A0 c0 F, sv1 A1 c1 F], .int .i64 t, .int .i64 i] W (RefAns W (sv0 A0 c0 F) (sv1 A1 c1 F) b F (dblL (F b) i) (withE (dblE (F b) i))) := by
  unfold dblL dblE
  by_cases hi : inIt (F b) i
  · rw [if_pos hi, if_pos hi]
    obtain ⟨h0, h1⟩ := hi
    obtain ⟨k, rfl⟩ := Int.eq_ofNat_of_zero_le h0
    rw [Int.toNat_natCast]
    exact r_double_ok A0 A1 c0 c1 F t b ht k (by omega) W hR
  · rw [if_neg hi, if_neg hi]
    exact (r_double_err A0 A1 _ _ c0 c1 t i 6 W (wrong_out A0 A1 c0 c1 F t i b ht hi) rfl).mono fun e w' h => h.ans b F
theorem r_swap_any (i k : Int) (hR : RefIs W A0 A1 c0 c1 F) (hs : (F b).length ≤ 64) : Calls Try.prog 49 #[.agg #[sv0 A0 c0 F, sv1 A1 c1 F], .int .i64 t, .int .i64 i, .int .i64 k] W (RefAns W (sv0 A0 c0 F) (sv1 A1 c1 F) b F (swapL (F b) i k) (withE (swapE (F b) i k))) := by
  unfold swapL swapE
  by_cases hi : inIt (F b) i
  · rw [if_pos hi, if_pos hi]
    by_cases hk : inIt (F b) k
    · rw [if_pos hk, if_pos hk]
      obtain ⟨h0, h1⟩ := hi
      obtain ⟨h2, h3⟩ := hk
      obtain ⟨i, rfl⟩ := Int.eq_ofNat_of_zero_le h0
      obtain ⟨k, rfl⟩ := Int.eq_ofNat_of_zero_le h2
      rw [Int.toNat_natCast, Int.toNat_natCast]
      exact r_swap_ok A0 A1 c0 c1 F t b ht i k (by omega) (by omega) W hR (by omega)
    · rw [if_neg hk, if_neg hk]
      exact (r_swap_err2 A0 A1 _ _ c0 c1 t i k 6 W (wrong_in A0 A1 c0 c1 F t i b ht hi) (wrong_out A0 A1 c0 c1 F t k b ht hk) rfl).mono fun e w' h => h.ans b F
  · rw [if_neg hi, if_neg hi]
    exact (r_swap_err A0 A1 _ _ c0 c1 t i 6 k W (wrong_out A0 A1 c0 c1 F t i b ht hi) rfl).mono fun e w' h => h.ans b F
theorem r_forge_any (i : Int) (s : ByteArray) (hR : RefIs W A0 A1 c0 c1 F) (hs : (F b).length ≤ 64) : Calls Try.prog 50 #[.agg #[sv0 A0 c0 F, sv1 A1 c1 F], .int .i64 t, .int .i64 i, .string s] W (RefAns W (sv0 A0 c0 F) (sv1 A1 c1 F) b F (forgeL (F b) i s) (withE (forgeE (F b) i s))) := by
  unfold forgeL forgeE
  by_cases hi : inIt (F b) i
  · rw [if_pos hi, if_pos hi]
    by_cases hk : (s.size : Int) > 131072
    · rw [if_pos hk, if_pos hk]
      exact (r_forge_lim A0 A1 _ _ c0 c1 t i s W (wrong_in A0 A1 c0 c1 F t i b ht hi) hk).mono fun e w' h => h.ans b F
    · rw [if_neg hk, if_neg hk]
      obtain ⟨h0, h1⟩ := hi
      obtain ⟨i, rfl⟩ := Int.eq_ofNat_of_zero_le h0
      rw [Int.toNat_natCast]
      exact r_forge_ok A0 A1 c0 c1 F t b ht i s (by omega) W hR (by omega) (by omega)
  · rw [if_neg hi, if_neg hi]
    exact (r_forge_err A0 A1 _ _ c0 c1 t i 6 s W (wrong_out A0 A1 c0 c1 F t i b ht hi) rfl).mono fun e w' h => h.ans b F
def turnE (L : List ByteArray) (i p : Int) : Int := if inIt L i then (if 0 ≤ p ∧ p < ((sx L i.toNat).size : Int) then 0 else 6) else 6
def turnL (L : List ByteArray) (i p bits : Int) : List ByteArray := if inIt L i then (if 0 ≤ p ∧ p < ((sx L i.toNat).size : Int) then L.set i.toNat (turnS (sx L i.toNat) p.toNat bits) else L) else L
theorem r_turn_any (i p bits : Int) (hR : RefIs W A0 A1 c0 c1 F) (hs : (F b).length ≤ 64) (hz : ∀ s ∈ F b, s.size ≤ 1000) : Calls Try.prog 51 #[.agg #[sv0 A0 c0 F, sv1 A1 c1 F], .int .i64 t, .int .i64 i, .int .i64 p, .int .u8 bits] W (RefAns W (sv0 A0 c0 F) (sv1 A1 c1 F) b F (turnL (F b) i p bits) (withE (turnE (F b) i p))) := by
  unfold turnL turnE
  by_cases hi : inIt (F b) i
  · rw [if_pos hi, if_pos hi]
    obtain ⟨h0, h1⟩ := hi
    obtain ⟨i, rfl⟩ := Int.eq_ofNat_of_zero_le h0
    rw [Int.toNat_natCast]
    by_cases hp : 0 ≤ p ∧ p < ((sx (F b) i).size : Int)
    · rw [if_pos hp, if_pos hp]
      obtain ⟨h2, h3⟩ := hp
      obtain ⟨p, rfl⟩ := Int.eq_ofNat_of_zero_le h2
      rw [Int.toNat_natCast]
      have := hz _ (sx_mem (F b) i (by omega))
      exact r_turn_ok A0 A1 c0 c1 F t b ht i (by omega) p bits h3 (by omega) W hR (by omega)
    · rw [if_neg hp, if_neg hp]
      exact (r_turn_gap A0 A1 c0 c1 F t b ht i (by omega) p bits (by omega) W hR).mono fun e w' h => h.ans b F
  · rw [if_neg hi, if_neg hi]
    exact (r_turn_err A0 A1 _ _ c0 c1 t i 6 p bits W (wrong_out A0 A1 c0 c1 F t i b ht hi) rfl).mono fun e w' h => h.ans b F
theorem forge_any (ok : Nat → Prop) (w0 : World) (g : Nat) (i : Int) (s : ByteArray) (hI : NetIs ok w0 W g F) (hB : Below w0.heap.size w0 W) : Calls Try.prog 37 #[.pointer (some ⟨g, 0, none⟩), .int .i64 t, .int .i64 i, .string s] W (NetAns ok w0 W g F b (.int .i64 (forgeE (F b) i s)) (forgeL (F b) i s)) := by
  unfold forgeL forgeE
  by_cases hi : inIt (F b) i
  · rw [if_pos hi, if_pos hi]
    obtain ⟨h0, h1⟩ := hi
    obtain ⟨i, rfl⟩ := Int.eq_ofNat_of_zero_le h0
    by_cases hk : (s.size : Int) > 131072
    · rw [if_pos hk, if_pos hk]
      exact (forge_lim ok w0 W g F t b ht i s (by omega) hk hI).mono fun e w' h => net_same h.1 hI hB h.2
    · rw [if_neg hk, if_neg hk, Int.toNat_natCast]
      exact forge_ok ok w0 W g F t b ht i s (by omega) (by omega) hI hB
  · rw [if_neg hi, if_neg hi]
    exact (forge_out ok w0 W g F t b ht i s (not_in hi) hI).mono fun e w' h => net_same h.1 hI hB h.2
theorem turn_any (ok : Nat → Prop) (w0 : World) (g : Nat) (i p bits : Int) (hI : NetIs ok w0 W g F) (hB : Below w0.heap.size w0 W) (hz : ∀ s ∈ F b, s.size ≤ 1000) : Calls Try.prog 38 #[.pointer (some ⟨g, 0, none⟩), .int .i64 t, .int .i64 i, .int .i64 p, .int .u8 bits] W (NetAns ok w0 W g F b (.int .i64 (turnE (F b) i p)) (turnL (F b) i p bits)) := by
  unfold turnL turnE
  by_cases hi : inIt (F b) i
  · rw [if_pos hi, if_pos hi]
    obtain ⟨h0, h1⟩ := hi
    obtain ⟨i, rfl⟩ := Int.eq_ofNat_of_zero_le h0
    rw [Int.toNat_natCast]
    by_cases hp : 0 ≤ p ∧ p < ((sx (F b) i).size : Int)
    · rw [if_pos hp, if_pos hp]
      obtain ⟨h2, h3⟩ := hp
      obtain ⟨p, rfl⟩ := Int.eq_ofNat_of_zero_le h2
      rw [Int.toNat_natCast]
      have := hz _ (sx_mem (F b) i (by omega))
      exact turn_ok ok w0 W g F t b ht i p bits (by omega) (by omega) (by omega) hI hB
    · rw [if_neg hp, if_neg hp]
      exact (turn_gap ok w0 W g F t b ht i p bits (by omega) (by omega) hI hB).mono fun e w' h => ⟨h.1, by rw [upd_self]; exact net_stays hI hB h.2⟩
  · rw [if_neg hi, if_neg hi]
    exact (turn_out ok w0 W g F t b ht i p bits (not_in hi) hI).mono fun e w' h => net_same h.1 hI hB h.2
end
theorem sendL_bnd {L : List ByteArray} (s : ByteArray) (h1 : L.length ≤ 64) (h2 : ∀ x ∈ L, x.size ≤ 1000) (hs : s.size ≤ 1000) : (sendL L s).length ≤ 64 ∧ ∀ x ∈ sendL L s, x.size ≤ 1000 :=
  ⟨send_len L s h1, fun x hx => (send_mem L s x hx).elim (h2 x) (fun e => by rw [e]; exact hs)⟩
theorem set_bnd {L : List ByteArray} (i : Nat) (s : ByteArray) (h1 : L.length ≤ 64) (h2 : ∀ x ∈ L, x.size ≤ 1000) (hs : s.size ≤ 1000) : (L.set i s).length ≤ 64 ∧ ∀ x ∈ L.set i s, x.size ≤ 1000 :=
  ⟨by rw [List.length_set]; exact h1, fun x hx => (List.mem_or_eq_of_mem_set hx).elim (h2 x) (fun e => by rw [e]; exact hs)⟩
def DoesAny (w0 : World) (g gr : Nat) (e : Ending) (w' : World) : Prop := e = .returned (.bool true) ∧ ∃ F', PlayIs w0 w' g gr F' ∧ Bnd F'
theorem does_any (w0 w : World) (g gr : Nat) (F : Bool → List ByteArray) (x : S67) (hP : PlayIs w0 w g gr F) (hF : Bnd F) (hx : x.f4.size ≤ 1000) :
    Calls Try.prog 35 #[.pointer (some ⟨g, 0, none⟩), .pointer (some ⟨gr, 0, none⟩), .agg #[.int .i64 x.f0, .int .i64 x.f1, .int .i64 x.f2, .int .i64 x.f3, .string x.f4, .int .u8 x.f5]] w (DoesAny w0 g gr) := by
  have fin : ∀ (b : Bool) (L : List ByteArray), (L.length ≤ 64 ∧ ∀ s ∈ L, s.size ≤ 1000) → ∀ e w', DoesAns w0 g gr (upd F b L) e w' → DoesAny w0 g gr e w' := fun b L hL e w' h => ⟨h.1, _, h.2, hF.upd b L hL.1 hL.2⟩
  have mk : ∀ j : Int, x.f0 ≠ j → (x.f0 == j) = false := fun j h => by rw [beq_eq_false_iff_ne]; exact h
  have my : ∀ j : Int, x.f0 = j → (x.f0 == j) = true := fun j h => by rw [beq_iff_eq]; exact h
  by_cases ht : x.f1 < 0 ∨ x.f1 > 1
  · have same : ∀ (f : Value → Value) (fn : Nat) (args : Array Value) (W : World) (s0 s1 : Value), Calls Try.prog fn args W (RefSame W s0 s1 f) → Calls Try.prog fn args W (RefAns W s0 s1 false F (F false) f) := fun f fn args W s0 s1 h => h.mono fun e w' h => h.ans false F
    have stay : ∀ (ok : Nat → Prop) (W : World) (fn : Nat) (args : Array Value) (v : Value), NetIs ok w0 W g F → Below w0.heap.size w0 W → Calls Try.prog fn args W (fun e w' => e = .returned v ∧ W = w') → Calls Try.prog fn args W (NetAns ok w0 W g F false v (F false)) := fun ok W fn args v hI hB h => h.mono fun e w' h => net_same h.1 hI hB h.2
    by_cases k0 : x.f0 = 0
    · exact (does_send w0 w g gr F x false (F false) 1 (my 0 k0) hP (fun W A0 A1 c0 c1 hR => same _ _ _ _ _ _ (r_send_bad A0 A1 _ _ c0 c1 x.f1 x.f4 W ht)) (fun ok W hI hB => stay ok W _ _ _ hI hB (send_bad g x.f1 x.f4 W hI.made ht))).mono (fin false _ (hF false))
    · by_cases k1 : x.f0 = 1
      · exact (does_take w0 w g gr F x false (F false) 1 ⟨#[]⟩ (mk 0 k0) (my 1 k1) hP (fun W A0 A1 c0 c1 hR => same _ _ _ _ _ _ (r_take_err A0 A1 _ _ c0 c1 x.f1 x.f2 1 W (wrong_bad A0 A1 _ _ c0 c1 x.f1 x.f2 ht) rfl)) (fun ok W hI hB => stay ok W _ _ _ hI hB (take_bad g x.f1 x.f2 W hI.made ht))).mono (fin false _ (hF false))
      · by_cases k2 : x.f0 = 2
        · exact (does_drop w0 w g gr F x false (F false) 1 ⟨#[]⟩ (mk 0 k0) (mk 1 k1) (my 2 k2) hP (fun W A0 A1 c0 c1 hR => same _ _ _ _ _ _ (r_take_err A0 A1 _ _ c0 c1 x.f1 x.f2 1 W (wrong_bad A0 A1 _ _ c0 c1 x.f1 x.f2 ht) rfl)) (fun ok W hI hB => stay ok W _ _ _ hI hB (drop_bad g x.f1 x.f2 W hI.made ht))).mono (fin false _ (hF false))
        · by_cases k3 : x.f0 = 3
          · exact (does_double w0 w g gr F x false (F false) 1 (mk 0 k0) (mk 1 k1) (mk 2 k2) (my 3 k3) hP (fun W A0 A1 c0 c1 hR => same _ _ _ _ _ _ (r_double_err A0 A1 _ _ c0 c1 x.f1 x.f2 1 W (wrong_bad A0 A1 _ _ c0 c1 x.f1 x.f2 ht) rfl)) (fun ok W hI hB => stay ok W _ _ _ hI hB (double_bad g x.f1 x.f2 W hI.made ht))).mono (fin false _ (hF false))
          · by_cases k4 : x.f0 = 4
            · exact (does_swap w0 w g gr F x false (F false) 1 (mk 0 k0) (mk 1 k1) (mk 2 k2) (mk 3 k3) (my 4 k4) hP (fun W A0 A1 c0 c1 hR => same _ _ _ _ _ _ (r_swap_err A0 A1 _ _ c0 c1 x.f1 x.f2 1 x.f3 W (wrong_bad A0 A1 _ _ c0 c1 x.f1 x.f2 ht) rfl)) (fun ok W hI hB => stay ok W _ _ _ hI hB (swap_bad g x.f1 x.f2 x.f3 W hI.made ht))).mono (fin false _ (hF false))
            · by_cases k5 : x.f0 = 5
              · exact (does_forge w0 w g gr F x false (F false) 1 (mk 0 k0) (mk 1 k1) (mk 2 k2) (mk 3 k3) (mk 4 k4) (my 5 k5) hP (fun W A0 A1 c0 c1 hR => same _ _ _ _ _ _ (r_forge_err A0 A1 _ _ c0 c1 x.f1 x.f2 1 x.f4 W (wrong_bad A0 A1 _ _ c0 c1 x.f1 x.f2 ht) rfl)) (fun ok W hI hB => stay ok W _ _ _ hI hB (forge_bad g x.f1 x.f2 x.f4 W hI.made ht))).mono (fin false _ (hF false))
              · by_cases k6 : x.f0 = 6
                · exact (does_turn w0 w g gr F x false (F false) 1 (mk 0 k0) (mk 1 k1) (mk 2 k2) (mk 3 k3) (mk 4 k4) (mk 5 k5) (my 6 k6) hP (fun W A0 A1 c0 c1 hR => same _ _ _ _ _ _ (r_turn_err A0 A1 _ _ c0 c1 x.f1 x.f2 1 x.f3 x.f5 W (wrong_bad A0 A1 _ _ c0 c1 x.f1 x.f2 ht) rfl)) (fun ok W hI hB => stay ok W _ _ _ hI hB (turn_bad g x.f1 x.f2 x.f3 x.f5 W hI.made ht))).mono (fin false _ (hF false))
                · exact (does_clear_bad w0 w g gr F x (mk 0 k0) (mk 1 k1) (mk 2 k2) (mk 3 k3) (mk 4 k4) (mk 5 k5) (mk 6 k6) ht hP).mono fun e w' h => ⟨h.1, _, h.2, hF⟩
  · obtain ⟨b, hb⟩ : ∃ b, x.f1 = toOf b := by
      by_cases h : x.f1 = 0
      · exact ⟨false, h⟩
      · exact ⟨true, by show x.f1 = 1; omega⟩
    have h64 := (hF b).1
    have hz := (hF b).2
    by_cases k0 : x.f0 = 0
    · exact (does_send w0 w g gr F x b _ _ (my 0 k0) hP (fun W A0 A1 c0 c1 hR => r_send_any A0 A1 c0 c1 F x.f1 b hb x.f4 W hR) (fun ok W hI hB => send_any ok w0 W g F x.f1 b hb x.f4 hI hB)).mono (fin b _ (sendL_bnd x.f4 h64 hz hx))
    · by_cases k1 : x.f0 = 1
      · exact (does_take w0 w g gr F x b _ _ _ (mk 0 k0) (my 1 k1) hP (fun W A0 A1 c0 c1 hR => r_take_any A0 A1 c0 c1 F x.f1 b hb W x.f2 hR h64) (fun ok W hI hB => take_any ok w0 W g F x.f1 b hb x.f2 hI hB)).mono (fin b _ ⟨Nat.le_trans (take_mem _ _).2 h64, fun s hs => hz s ((take_mem _ _).1 s hs)⟩)
      · by_cases k2 : x.f0 = 2
        · exact (does_drop w0 w g gr F x b _ _ _ (mk 0 k0) (mk 1 k1) (my 2 k2) hP (fun W A0 A1 c0 c1 hR => r_take_any A0 A1 c0 c1 F x.f1 b hb W x.f2 hR h64) (fun ok W hI hB => drop_any ok w0 W g F x.f1 b hb x.f2 hI hB)).mono (fin b _ ⟨Nat.le_trans (take_mem _ _).2 h64, fun s hs => hz s ((take_mem _ _).1 s hs)⟩)
        · by_cases k3 : x.f0 = 3
          · exact (does_double w0 w g gr F x b _ _ (mk 0 k0) (mk 1 k1) (mk 2 k2) (my 3 k3) hP (fun W A0 A1 c0 c1 hR => r_double_any A0 A1 c0 c1 F x.f1 b hb W x.f2 hR) (fun ok W hI hB => double_any ok w0 W g F x.f1 b hb x.f2 hI hB)).mono (fin b _ ⟨(dbl_mem _ _ h64).2, fun s hs => hz s ((dbl_mem _ _ h64).1 s hs)⟩)
          · by_cases k4 : x.f0 = 4
            · exact (does_swap w0 w g gr F x b _ _ (mk 0 k0) (mk 1 k1) (mk 2 k2) (mk 3 k3) (my 4 k4) hP (fun W A0 A1 c0 c1 hR => r_swap_any A0 A1 c0 c1 F x.f1 b hb W x.f2 x.f3 hR h64) (fun ok W hI hB => swap_any ok w0 W g F x.f1 b hb x.f2 x.f3 hI hB)).mono (fin b _ ⟨by rw [(swap_mem _ _ _).2]; exact h64, fun s hs => hz s ((swap_mem _ _ _).1 s hs)⟩)
            · by_cases k5 : x.f0 = 5
              · refine (does_forge w0 w g gr F x b _ _ (mk 0 k0) (mk 1 k1) (mk 2 k2) (mk 3 k3) (mk 4 k4) (my 5 k5) hP (fun W A0 A1 c0 c1 hR => r_forge_any A0 A1 c0 c1 F x.f1 b hb W x.f2 x.f4 hR h64) (fun ok W hI hB => forge_any F x.f1 b hb W ok w0 g x.f2 x.f4 hI hB)).mono (fin b _ ?_)
                unfold forgeL
                split
                · split
                  · exact ⟨h64, hz⟩
                  · exact set_bnd _ _ h64 hz hx
                · exact ⟨h64, hz⟩
              · by_cases k6 : x.f0 = 6
                · refine (does_turn w0 w g gr F x b _ _ (mk 0 k0) (mk 1 k1) (mk 2 k2) (mk 3 k3) (mk 4 k4) (mk 5 k5) (my 6 k6) hP (fun W A0 A1 c0 c1 hR => r_turn_any A0 A1 c0 c1 F x.f1 b hb W x.f2 x.f3 x.f5 hR h64 hz) (fun ok W hI hB => turn_any F x.f1 b hb W ok w0 g x.f2 x.f3 x.f5 hI hB hz)).mono (fin b _ ?_)
                  unfold turnL
                  split
                  · rename_i hi
                    split
                    · exact set_bnd _ _ h64 hz (by rw [turnS_size]; exact hz _ (sx_mem _ _ (by unfold inIt at hi; omega)))
                    · exact ⟨h64, hz⟩
                  · exact ⟨h64, hz⟩
                · exact (does_clear_ok w0 w g gr F x b (mk 0 k0) (mk 1 k1) (mk 2 k2) (mk 3 k3) (mk 4 k4) (mk 5 k5) (mk 6 k6) hb hP).mono (fin b _ ⟨by simp, by simp⟩)
end Go.Proofs.Ytedhckojeephaaa.P
