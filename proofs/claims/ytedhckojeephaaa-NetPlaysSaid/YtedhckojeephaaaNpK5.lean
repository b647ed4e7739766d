/- A network between two: every call whole. -/
import Derived.Test.YtedhckojeephaaaNpPx0
import Derived.Test.YtedhckojeephaaaNpK0
import Derived.Test.YtedhckojeephaaaNpK2
import Derived.Test.YtedhckojeephaaaNpK3
import Derived.Test.YtedhckojeephaaaNpK4
namespace Go.Proofs.Ytedhckojeephaaa.P
open Go.RowKit Go.Proofs.YtedhckojeephaaaW.PrintWords Go.Proofs.YtedhckojeephaaaW.PrintLast Go.Proofs.YtedhckojeephaaaW.PrintMore
set_option linter.unusedVariables false
set_option linter.unusedSimpArgs false
attribute [local go_sem ↓] Go.wp_at_zero Go.wp_at_succ

theorem upd_self (F : Bool → List ByteArray) (b : Bool) : upd F b (F b) = F := by
  funext c
  unfold upd
  by_cases h : c = b
  · rw [if_pos h, h]
  · rw [if_neg h]
theorem upd_at (F : Bool → List ByteArray) (b : Bool) (L : List ByteArray) : upd F b L b = L := by unfold upd; rw [if_pos rfl]
theorem upd_ne (F : Bool → List ByteArray) (b c : Bool) (L : List ByteArray) (h : c ≠ b) : upd F b L c = F c := by unfold upd; rw [if_neg h]
/-- is there something at a place -/
def inIt (L : List ByteArray) (i : Int) : Prop := 0 ≤ i ∧ i < (L.length : Int)
instance (L : List ByteArray) (i : Int) : Decidable (inIt L i) := inferInstanceAs (Decidable (_ ∧ _))
def sendE (L : List ByteArray) (s : ByteArray) : Int := if (s.size : Int) > 131072 then 2 else if L.length ≥ 64 then 16 else 0
def sendL (L : List ByteArray) (s : ByteArray) : List ByteArray := if (s.size : Int) > 131072 then L else if L.length ≥ 64 then L else L ++ [s]
def takeE (L : List ByteArray) (i : Int) : Int := if inIt L i then 0 else 6
def takeS (L : List ByteArray) (i : Int) : ByteArray := if inIt L i then sx L i.toNat else ⟨#[]⟩
def takeL (L : List ByteArray) (i : Int) : List ByteArray := if inIt L i then L.eraseIdx i.toNat else L
def dblE (L : List ByteArray) (i : Int) : Int := if inIt L i then sendE L (sx L i.toNat) else 6
def dblL (L : List ByteArray) (i : Int) : List ByteArray := if inIt L i then sendL L (sx L i.toNat) else L
def swapE (L : List ByteArray) (i k : Int) : Int := if inIt L i then (if inIt L k then 0 else 6) else 6
def swapL (L : List ByteArray) (i k : Int) : List ByteArray := if inIt L i then (if inIt L k then (L.set i.toNat (sx L k.toNat)).set k.toNat (sx L i.toNat) else L) else L
def forgeE (L : List ByteArray) (i : Int) (s : ByteArray) : Int := if inIt L i then (if (s.size : Int) > 131072 then 2 else 0) else 6
def forgeL (L : List ByteArray) (i : Int) (s : ByteArray) : List ByteArray := if inIt L i then (if (s.size : Int) > 131072 then L else L.set i.toNat s) else L

def NetAns (ok : Nat → Prop) (w0 w : World) (g : Nat) (F : Bool → List ByteArray) (b : Bool) (v : Value) (L : List ByteArray) (e : Ending) (w' : World) : Prop := e = .returned v ∧ NetTo ok w0 w w' g (upd F b L)
theorem net_same {ok : Nat → Prop} {w0 w w' : World} {g : Nat} {F : Bool → List ByteArray} {b : Bool} {v : Value} {e : Ending} (he : e = .returned v) (hI : NetIs ok w0 w g F) (hB : Below w0.heap.size w0 w) (hw : w = w') : NetAns ok w0 w g F b v (F b) e w' := by
  subst hw
  exact ⟨he, by rw [upd_self]; exact net_stay hI hB⟩

theorem send_any (ok : Nat → Prop) (w0 w : World) (g : Nat) (F : Bool → List ByteArray) (t : Int) (b : Bool) (ht : t = toOf b) (s : ByteArray) (hI : NetIs ok w0 w g F) (hB : Below w0.heap.size w0 w) : Calls Try.prog 27 #[.pointer (some ⟨g, 0, none⟩), .int .i64 t, .string s] w (NetAns ok w0 w g F b (.int .i64 (sendE (F b) s)) (sendL (F b) s)) := by
  unfold sendE sendL
  by_cases hs : (s.size : Int) > 131072
  · rw [if_pos hs, if_pos hs]
    exact (send_lim ok w0 w g F t b ht s hI hs).mono fun e w' h => net_same h.1 hI hB h.2
  · rw [if_neg hs, if_neg hs]
    by_cases hl : (F b).length ≥ 64
    · rw [if_pos hl, if_pos hl]
      exact (send_full ok w0 w g F t b ht s hI (by omega) hl).mono fun e w' h => net_same h.1 hI hB h.2
    · rw [if_neg hl, if_neg hl]
      exact send_ok ok w0 w g F t b ht s hI hB (by omega) (by omega)
theorem take_out (ok : Nat → Prop) (w0 w : World) (g : Nat) (F : Bool → List ByteArray) (t : Int) (b : Bool) (ht : t = toOf b) (i : Int) (hi : i < 0 ∨ i ≥ ((F b).length : Int)) (hI : NetIs ok w0 w g F) : Calls Try.prog 28 #[.pointer (some ⟨g, 0, none⟩), .int .i64 t, .int .i64 i] w fun e w' => e = .returned (.tuple #[.string ⟨#[]⟩, .int .i64 6]) ∧ w = w' := by
  have hm := hI.made
  obtain ⟨A, c, hc, -, -⟩ := hI.way b
  have h01 := toOf_01 b
  rw [← ht] at hc h01
  clear hI ht
  go_enter Try.func28, Try.ntmps28
  go_wp2_with (go_at_call 44; refine (at_out g t i _ _ _ _ hm h01 hc hi).mono ?_; rintro e w1 ⟨rfl, rfl⟩)
  go_ret2
  exact ⟨rfl, rfl⟩
theorem take_any (ok : Nat → Prop) (w0 w : World) (g : Nat) (F : Bool → List ByteArray) (t : Int) (b : Bool) (ht : t = toOf b) (i : Int) (hI : NetIs ok w0 w g F) (hB : Below w0.heap.size w0 w) : Calls Try.prog 28 #[.pointer (some ⟨g, 0, none⟩), .int .i64 t, .int .i64 i] w (NetAns ok w0 w g F b (.tuple #[.string (takeS (F b) i), .int .i64 (takeE (F b) i)]) (takeL (F b) i)) := by
  unfold takeE takeS takeL
  by_cases hi : inIt (F b) i
  · rw [if_pos hi, if_pos hi, if_pos hi]
    obtain ⟨h0, h1⟩ := hi
    obtain ⟨k, rfl⟩ := Int.eq_ofNat_of_zero_le h0
    rw [Int.toNat_natCast]
    exact take_ok ok w0 w g F t b ht k (by omega) hI hB
  · rw [if_neg hi, if_neg hi, if_neg hi]
    refine (take_out ok w0 w g F t b ht i ?_ hI).mono fun e w' h => net_same h.1 hI hB h.2
    unfold inIt at hi
    omega
theorem drop_any (ok : Nat → Prop) (w0 w : World) (g : Nat) (F : Bool → List ByteArray) (t : Int) (b : Bool) (ht : t = toOf b) (i : Int) (hI : NetIs ok w0 w g F) (hB : Below w0.heap.size w0 w) : Calls Try.prog 30 #[.pointer (some ⟨g, 0, none⟩), .int .i64 t, .int .i64 i] w (NetAns ok w0 w g F b (.int .i64 (takeE (F b) i)) (takeL (F b) i)) := by
  have HI := Aside0.mk hI
  have HB := Aside0.mk hB
  have HT := Aside0.mk ht
  clear hI hB ht
  go_enter Try.func30, Try.ntmps30
  go_wp2_with (go_at_call 28; refine (take_any ok w0 w g F t b HT.out i HI.out HB.out).mono ?_; rintro e w1 ⟨rfl, hi1⟩; have H1 := Aside0.mk hi1; clear hi1)
  go_ret
  exact ⟨rfl, H1.out⟩
theorem double_out (ok : Nat → Prop) (w0 w : World) (g : Nat) (F : Bool → List ByteArray) (t : Int) (b : Bool) (ht : t = toOf b) (i : Int) (hi : i < 0 ∨ i ≥ ((F b).length : Int)) (hI : NetIs ok w0 w g F) : Calls Try.prog 31 #[.pointer (some ⟨g, 0, none⟩), .int .i64 t, .int .i64 i] w fun e w' => e = .returned (.int .i64 6) ∧ w = w' := by
  have hm := hI.made
  obtain ⟨A, c, hc, -, -⟩ := hI.way b
  have h01 := toOf_01 b
  rw [← ht] at hc h01
  clear hI ht
  go_enter Try.func31, Try.ntmps31
  go_wp2_with (go_at_call 44; refine (at_out g t i _ _ _ _ hm h01 hc hi).mono ?_; rintro e w1 ⟨rfl, rfl⟩)
  go_ret
  exact ⟨rfl, rfl⟩
theorem str_cell {w : World} {A : Option Addr} {n : Nat} {L : List ByteArray} (h : Kd.C Kd.string w A n L) (i : Nat) (hi : i < n) : ∃ ad, A = some ad ∧ w.cell? (ad.add i) = some (.string (sx L i)) := by
  obtain ⟨ad, c, e, hl, hk, hc⟩ := Kd.C_get h ByteArray.empty (i : Int) (by omega) (by omega)
  refine ⟨ad, e, ?_⟩
  have hk' : c = [.string (L.getD (i : Int).toNat ByteArray.empty)] := hk
  have := hc 0 (.string (L.getD (i : Int).toNat ByteArray.empty)) (by rw [hk']; rfl)
  rw [Int.toNat_natCast] at this
  simpa [Kd.string, Kd.scalar, sx, rdOf] using this
set_option maxHeartbeats 1600000 in
set_option maxRecDepth 100000 in
theorem double_in (ok : Nat → Prop) (w0 w : World) (g : Nat) (F : Bool → List ByteArray) (t : Int) (b : Bool) (ht : t = toOf b) (i : Nat) (hi : i < (F b).length) (hI : NetIs ok w0 w g F) (hB : Below w0.heap.size w0 w) : Calls Try.prog 31 #[.pointer (some ⟨g, 0, none⟩), .int .i64 t, .int .i64 (i : Int)] w (NetAns ok w0 w g F b (.int .i64 (sendE (F b) (sx (F b) i))) (sendL (F b) (sx (F b) i))) := by
  have hm := hI.made
  obtain ⟨A, c, hc, -, hr⟩ := hI.way b
  obtain ⟨ad, rfl, hcell⟩ := str_cell hr i hi
  have hi0 : (0 : Int) ≤ (i : Int) := by omega
  have hi1 : (i : Int) < ((F b).length : Int) := by omega
  have HI := Aside0.mk hI
  have HB := Aside0.mk hB
  clear hI hB hr
  subst ht
  cases b
  all_goals
    simp only [toOf, Int.toNat_zero, Int.toNat_one] at hc ⊢
    go_enter Try.func31, Try.ntmps31
    go_wp2_with (first
      | (go_at_call 44; refine (at_ok g _ _ _ _ _ _ hm (by first | exact .inl rfl | exact .inr rfl) (by exact hc) hi0 hi1).mono ?_; rintro e w1 ⟨rfl, rfl⟩)
      | (go_at_call 27; (first | (with_reducible refine (send_any ok w0 w g F 0 false rfl _ HI.out HB.out).mono ?_) | (with_reducible refine (send_any ok w0 w g F 1 true rfl _ HI.out HB.out).mono ?_)); rintro e w1 ⟨rfl, hi1⟩; have H1 := Aside0.mk hi1; clear hi1))
    go_ret
    exact ⟨rfl, H1.out⟩
theorem double_any (ok : Nat → Prop) (w0 w : World) (g : Nat) (F : Bool → List ByteArray) (t : Int) (b : Bool) (ht : t = toOf b) (i : Int) (hI : NetIs ok w0 w g F) (hB : Below w0.heap.size w0 w) : Calls Try.prog 31 #[.pointer (some ⟨g, 0, none⟩), .int .i64 t, .int .i64 i] w (NetAns ok w0 w g F b (.int .i64 (dblE (F b) i)) (dblL (F b) i)) := by
  unfold dblE dblL
  by_cases hi : inIt (F b) i
  · rw [if_pos hi, if_pos hi]
    obtain ⟨h0, h1⟩ := hi
    obtain ⟨k, rfl⟩ := Int.eq_ofNat_of_zero_le h0
    rw [Int.toNat_natCast]
    exact double_in ok w0 w g F t b ht k (by omega) hI hB
  · rw [if_neg hi, if_neg hi]
    refine (double_out ok w0 w g F t b ht i ?_ hI).mono fun e w' h => net_same h.1 hI hB h.2
    unfold inIt at hi
    omega
end Go.Proofs.Ytedhckojeephaaa.P
