/- A counter gives numbers, each once: the law's text, walked. -/
import Derived.IntWalk
import Derived.Lib.Hide
import Derived.Test.YtojimoebbinhdaaScK0
import Derived.Test.YtojimoebbinhdaaScK1
namespace Go.Proofs.Ytojimoebbinhdaa.P
open Go.RowKit Go.Proofs.YtojimoebbinhdaaW.PrintWords Go.Proofs.YtojimoebbinhdaaW.PrintLast Go.Proofs.YtojimoebbinhdaaW.PrintMore
set_option linter.unusedVariables false
set_option linter.unusedSimpArgs false

/-! ### trefoillaw20_StreamCounts: function 5 -/
theorem reserve_nil (n : Int) (w : World) : Calls Try.prog 19 #[.pointer none, .int .i64 n] w fun e w' => e = .returned (.tuple #[.int .u64 0, .int .i64 3]) ∧ w = w' := by
  go_enter Try.func19, Try.ntmps19
  go_wp2
  go_ret2
  exact ⟨rfl, rfl⟩
theorem next_nil (w : World) : Calls Try.prog 20 #[.pointer none] w fun e w' => e = .returned (.int .u64 0) ∧ w = w' := by
  go_enter Try.func20, Try.ntmps20
  go_wp2
  go_ret
  exact ⟨rfl, rfl⟩

theorem wu (n : Int) (h0 : 0 ≤ n) (h1 : n ≤ 1000000000) : IntKind.u64.wrap n = n := IntWalk.u64_in n ⟨h0, by omega⟩
theorem reserve_f (k : Nat) (nx x : Int) (h0 : 0 ≤ nx) (h1 : nx ≤ 67108864) : stream_Counter_Reserve.f (k + 1) nx x =
    if x < 0 ∨ x > 4096 then some (0, 2, nx) else if nx + x > 67108864 then some (0, 24, nx) else some (nx, 0, nx + x) := by
  unfold stream_Counter_Reserve.f
  simp only [stream_Counter_Reserve.j0]
  by_cases c : x < 0
  · rw [if_pos c, if_pos trivial, if_pos (.inl c)]
  by_cases d : x > 4096
  · rw [if_neg c, if_pos (decide_eq_true d), if_pos (.inr d)]
  have e1 := wu x (by omega) (by omega)
  have e2 := wu (67108864 - x) (by omega) (by omega)
  have o1 : ¬ (x < 0 ∨ x > 4096) := by omega
  rw [if_neg c, e1, e2, if_neg (by simpa using d), if_neg o1]
  by_cases f : nx > 67108864 - x
  · rw [if_pos f, if_pos (by omega)]
  · rw [if_neg f, if_neg (by omega), wu (nx + x) (by omega) (by omega)]

def ResAns (w0 w : World) (g : Nat) (a b c : Int) (e : Ending) (w' : World) : Prop := e = .returned (.tuple #[.int .u64 a, .int .i64 b]) ∧ IsS43 w0 w' g c ∧ Below w0.heap.size w0 w' ∧ KeepBut w w' g none
theorem reserve_bad (g : Nat) (nx x : Int) (w0 w : World) (hI : IsS43 w0 w g nx) (hB : Below w0.heap.size w0 w) (h0 : 0 ≤ nx) (h1 : nx ≤ 67108864) (hx : x < 0 ∨ x > 4096) :
    Calls Try.prog 19 #[.pointer (some ⟨g, 0, none⟩), .int .i64 x] w (ResAns w0 w g 0 2 nx) :=
  stream_Counter_Reserve.calls 1 g nx x 0 2 nx w0 w hI hB (by rw [reserve_f 0 nx x h0 h1, if_pos hx])
theorem reserve_full (g : Nat) (nx x : Int) (w0 w : World) (hI : IsS43 w0 w g nx) (hB : Below w0.heap.size w0 w) (h0 : 0 ≤ nx) (h1 : nx ≤ 67108864) (hx : ¬ (x < 0 ∨ x > 4096)) (hf : nx + x > 67108864) :
    Calls Try.prog 19 #[.pointer (some ⟨g, 0, none⟩), .int .i64 x] w (ResAns w0 w g 0 24 nx) :=
  stream_Counter_Reserve.calls 1 g nx x 0 24 nx w0 w hI hB (by rw [reserve_f 0 nx x h0 h1, if_neg hx, if_pos hf])
theorem reserve_ok (g : Nat) (nx x : Int) (w0 w : World) (hI : IsS43 w0 w g nx) (hB : Below w0.heap.size w0 w) (h0 : 0 ≤ nx) (h1 : nx ≤ 67108864) (hx : ¬ (x < 0 ∨ x > 4096)) (hf : ¬ nx + x > 67108864) :
    Calls Try.prog 19 #[.pointer (some ⟨g, 0, none⟩), .int .i64 x] w (ResAns w0 w g nx 0 (nx + x)) :=
  stream_Counter_Reserve.calls 1 g nx x nx 0 (nx + x) w0 w hI hB (by rw [reserve_f 0 nx x h0 h1, if_neg hx, if_neg hf])

def trefoillaw20_StreamCounts.f (k : Nat) (l0 : List Int) : Option Bool := (trefoillaw20_awake.f k).bind fun t => if t = true then some true else none

set_option maxHeartbeats 4000000 in
set_option maxRecDepth 100000 in
theorem trefoillaw20_StreamCounts.calls (k : Nat) (A0 : Option Addr) (c0 : Nat) (l0 : List Int) (r : Bool) (w : World) (hr0 : Kd.C (Kd.int .i64) w A0 l0.length l0) (hc0 : l0.length ≤ c0) (h : trefoillaw20_StreamCounts.f k l0 = some r) :
    Calls Try.prog 5 #[.slice A0 l0.length c0] w fun e w' => e = .returned (.bool r) ∧ Below w.heap.size w w' := by
  have hm := Kd.C_max hr0
  obtain ⟨t, ht, hx⟩ := Option.bind_eq_some_iff.mp h
  clear h
  by_cases htt : ¬ t = true
  · rw [if_neg htt] at hx; cases hx
  replace htt := Decidable.not_not.mp htt
  subst htt
  rw [if_pos rfl] at hx
  obtain rfl := Option.some.inj hx
  have HA := Aside0.mk ht
  clear hx ht
  obtain ⟨g, hg⟩ : ∃ g, g = w.heap.size := ⟨_, rfl⟩
  have HG := Lib.hid hg
  have HR := Aside0.mk hr0
  clear hg hr0
  go_enter Try.func5, Try.ntmps5
  go_wp2
  go_loopw [4, 5] (fun s4 s5 wr => ∃ (nx : Int) (i : Nat), 0 ≤ nx ∧ nx ≤ 67108864 ∧ i ≤ l0.length ∧ s4 = .int .i64 nx ∧ s5 = .int .i64 i ∧ Aside0 (IsS43 w wr w.heap.size nx) ∧ Aside0 (Below w.heap.size w wr)) (fun _ s5 _ => l0.length - (intOf s5).toNat)
  case atStart => exact ⟨0, 0, by omega, by omega, by omega, rfl, rfl, ⟨IsS43.new w w 0 (Below.refl _ _)⟩, ⟨below_alloc (Below.refl _ _) _⟩⟩
  case round =>
    obtain ⟨nx, i, hn0, hn1, hi, rfl, rfl, HI, HB⟩ := hrel
    by_cases hlt : i < l0.length
    · by_cases h200 : (i : Int) < 200
      · obtain ⟨ad, rfl, hcell⟩ := Kd.at_int HR.out (i : Int) (by omega) (by omega)
        rw [Int.toNat_natCast] at hcell
        obtain ⟨x, hx⟩ : ∃ x, x = rd l0 i := ⟨_, rfl⟩
        rw [← hx] at hcell
        clear hx
        have HC := Aside0.mk hcell
        have hc1 := pw_cell_below HB.out hcell
        clear hcell
        by_cases hb : x < 0 ∨ x > 4096
        · rcases hb with hb | hb
          all_goals
            go_wp2_with (first
              | (go_at_call 19; refine ((reserve_bad w.heap.size nx x w wr HI.out HB.out hn0 hn1 (by omega)).mono ?_); rintro e w1 ⟨rfl, hI1, hB1, -⟩; have hc2 := pw_cell_below hB1 HC.out; replace HI := Aside0.mk hI1; replace HB := Aside0.mk hB1; clear hI1 hB1)
              | (go_at_call 20; refine (stream_Counter_Next.calls w.heap.size (nx) (nx) (nx) w w1 HI.out HB.out rfl).mono ?_; rintro e w2 ⟨rfl, hI2, hB2, -⟩; replace HI := Aside0.mk hI2; replace HB := Aside0.mk hB2; clear hI2 hB2))
            go_roundw
            case rel => exact ⟨nx, i + 1, by omega, by omega, by omega, rfl, by go_num, HI, HB⟩
            case measure => simp [intOf]; omega
        · have hx0 : ¬ x < 0 := by omega
          have hx1 : ¬ x > 4096 := by omega
          have hx2 : 0 ≤ x := by omega
          have hx3 : x ≤ 4096 := by omega
          by_cases hf : nx + x > 67108864
          · go_wp2_with (first
              | (go_at_call 19; refine ((reserve_full w.heap.size nx x w wr HI.out HB.out hn0 hn1 (by omega) hf).mono ?_); rintro e w1 ⟨rfl, hI1, hB1, -⟩; have hc2 := pw_cell_below hB1 HC.out; replace HI := Aside0.mk hI1; replace HB := Aside0.mk hB1; clear hI1 hB1)
              | (go_at_call 20; refine (stream_Counter_Next.calls w.heap.size (nx) (nx) (nx) w w1 HI.out HB.out rfl).mono ?_; rintro e w2 ⟨rfl, hI2, hB2, -⟩; replace HI := Aside0.mk hI2; replace HB := Aside0.mk hB2; clear hI2 hB2))
            go_roundw
            case rel => exact ⟨nx, i + 1, by omega, by omega, by omega, rfl, by go_num, HI, HB⟩
            case measure => simp [intOf]; omega
          · go_wp2_with (first
              | (go_at_call 19; refine ((reserve_ok w.heap.size nx x w wr HI.out HB.out hn0 hn1 (by omega) hf).mono ?_); rintro e w1 ⟨rfl, hI1, hB1, -⟩; have hc2 := pw_cell_below hB1 HC.out; replace HI := Aside0.mk hI1; replace HB := Aside0.mk hB1; clear hI1 hB1)
              | (go_at_call 20; refine (stream_Counter_Next.calls w.heap.size (nx + x) (nx + x) (nx + x) w w1 HI.out HB.out rfl).mono ?_; rintro e w2 ⟨rfl, hI2, hB2, -⟩; replace HI := Aside0.mk hI2; replace HB := Aside0.mk hB2; clear hI2 hB2))
            go_roundw
            case rel => exact ⟨(nx + x), i + 1, by omega, by omega, by omega, rfl, by go_num, HI, HB⟩
            case measure => simp [intOf]; omega
      · go_wp2_with (first
          | (go_at_call 19; refine (reserve_nil 1 wr).mono ?_; rintro e w1 ⟨rfl, rfl⟩)
          | (go_at_call 20; refine (next_nil wr).mono ?_; rintro e w1 ⟨rfl, rfl⟩)
          | (go_at_call 14; refine (trefoillaw20_awake.calls k true wr HA.out).mono ?_; rintro e w1 ⟨rfl, hb1⟩; replace HB := Aside0.mk (below_step HB.out hb1); clear hb1))
        go_ret
        exact ⟨rfl, HB.out⟩
    · go_wp2_with (first
        | (go_at_call 19; refine (reserve_nil 1 wr).mono ?_; rintro e w1 ⟨rfl, rfl⟩)
        | (go_at_call 20; refine (next_nil wr).mono ?_; rintro e w1 ⟨rfl, rfl⟩)
        | (go_at_call 14; refine (trefoillaw20_awake.calls k true wr HA.out).mono ?_; rintro e w1 ⟨rfl, hb1⟩; replace HB := Aside0.mk (below_step HB.out hb1); clear hb1))
      go_ret
      exact ⟨rfl, HB.out⟩
end Go.Proofs.Ytojimoebbinhdaa.P
