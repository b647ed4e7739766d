/- The table of tickets: the open tickets that both asked for (open), of no slot and of two. -/
import Derived.Test.YtdifkcbiifhkeaaOoSv5
namespace Go.Proofs.Ytdifkcbiifhkeaa.P
open Go.RowKit Go.Maps Go.Proofs.YtdifkcbiifhkeaaW.PrintWords Go.Proofs.YtdifkcbiifhkeaaW.PrintLast Go.Proofs.YtdifkcbiifhkeaaW.PrintMore
set_option linter.unusedVariables false
set_option linter.unusedSimpArgs false
attribute [local go_sem ↓] Go.wp_at_zero Go.wp_at_succ
/-- rows of pointers to slots -/
def kPtr : Kd Nat where
  sz := 1
  E := []
  K _ x cs := cs = [.pointer (some ⟨x, 0, none⟩)]
  M _ _ _ x cs := cs = [.pointer (some ⟨x, 0, none⟩)]
  K_len := fun h => by rw [h]; rfl
  K_one := fun h u hu => by rw [h] at hu; obtain rfl := List.mem_singleton.1 hu; rfl
  K_below := fun _ h => h
  K_of_M := fun h => h
  M_mono := fun _ h => h
  M_bound := fun h => h
  M_move := fun _ h => h
  M_lower := fun _ h => h
theorem info_ptr : (Try.prog.info? 47).map (fun i => (i.zero, i.size, i.bytes)) = some (some (.pointer none), 1, 8) := by kernel_rfl
theorem lookP1_run {w : World} {b n : Nat} {D : DU} {M : Sm} (h : OwnP w b n D) (hM : HasP D M) {k : Int} {p : Nat} (hp : M k = some p) (hk : (Lit.int .i64 k).wf = true) : (Instr.lookup 44 (.map (some b)) (.int .i64 k) false).run Try.prog w = .ok (.pointer (some ⟨p, 0, none⟩)) w := by
  obtain ⟨v, ps, hrun, hv⟩ := h.lookup lawI Try.underlying44 (zeroP w) (show PR (.pointer none) = some (.lit (.int .i64 (-1)), []) from rfl) (keyOf_int_mk Try.underlying3 hk)
  rw [hrun]
  rw [(hM k).2 p hp] at hv
  rw [PR_inv hv]
theorem row56 {w2 : World} {base : Nat} {v : Value} {ss : List Int} {D : DU} (hperm : ss.Perm (intKeys D)) (hks : intKeys D = [5, 6]) (hrow : w2.ownsRow base 3 1 v ss.length ((ss.mergeSort (fun x y => decide (x ≤ y))).map encZ)) :
    ∃ r c, v = .slice (some ⟨r, 0, none⟩) 2 c ∧ r < w2.heap.size ∧ w2.cell? ⟨r, 0, none⟩ = some (.int .i64 5) ∧ w2.cell? ⟨r, 1, none⟩ = some (.int .i64 6) := by
  rw [hks] at hperm
  have hl : ss.length = 2 := hperm.length_eq
  have hm : ss.mergeSort leI = [5, 6] := (mergeSort_of_perm_i hperm).trans (by first | exact List.mergeSort_of_pairwise (by decide) | exact List.mergeSort_of_sorted (by decide) | decide +kernel)
  have hm2 : ss.mergeSort (fun x y => decide (x ≤ y)) = [5, 6] := hm
  rw [hm2, hl] at hrow
  obtain ⟨-, ⟨-, h0⟩ | ⟨g, cap, cur, hv, -, hblk, hcap, -, hsz, htake⟩⟩ := hrow
  · omega
  · have h0 : cur[0]? = some (.int .i64 5) := by
      have : (cur.toList.take (2 * 1))[0]? = some (encZ 5) := by rw [htake]; rfl
      rw [List.getElem?_take_of_lt (by omega)] at this
      simpa using this
    have h1 : cur[1]? = some (.int .i64 6) := by
      have : (cur.toList.take (2 * 1))[1]? = some (encZ 6) := by rw [htake]; rfl
      rw [List.getElem?_take_of_lt (by omega)] at this
      simpa using this
    exact ⟨g, cap, hv, blk_lt hblk, (blk_cell hblk 0).trans h0, (blk_cell hblk 1).trans h1⟩
theorem ptr_row {w : World} {base : Nat} {ok : Nat → Prop} {v : Value} {p q : Nat} (h : kPtr.R 47 w base ok v [p, q]) : ∃ r c, v = .slice (some ⟨r, 0, none⟩) 2 c ∧ 2 ≤ c ∧ r < w.heap.size ∧ kPtr.C w (some ⟨r, 0, none⟩) 2 [p, q] ∧ w.cell? ⟨r, 0, none⟩ = some (.pointer (some ⟨p, 0, none⟩)) ∧ w.cell? ⟨r, 1, none⟩ = some (.pointer (some ⟨q, 0, none⟩)) := by
  obtain ⟨A, c, rfl, hc, hC⟩ := Kd.R_reads h
  obtain ⟨-, inner, hown, -⟩ := h
  obtain ⟨-, ⟨h0, -⟩ | ⟨g, cap, cur, hv, -, hblk, -⟩⟩ := hown
  · simp at h0
  · simp only [Value.slice.injEq] at hv
    obtain ⟨rfl, -, rfl⟩ := hv
    have hC2 : kPtr.C w (some ⟨g, 0, none⟩) 2 [p, q] := hC
    obtain ⟨-, -, hx⟩ := hC
    obtain ⟨ad, had, hcell⟩ := hx (by simp)
    obtain rfl := Option.some.inj had
    obtain ⟨u0, -, e0, g0⟩ := hcell 0 p rfl
    obtain ⟨u1, -, e1, g1⟩ := hcell 1 q rfl
    subst e0
    subst e1
    exact ⟨g, c, rfl, hc, blk_lt hblk, hC2, by simpa [add_plain] using g0 0 _ rfl, by simpa [add_plain, kPtr] using g1 0 _ rfl⟩
theorem ptr_in {w : World} {r p q : Nat} {s t : Sl} (hr : r < w.heap.size) (c0 : w.cell? ⟨r, 0, none⟩ = some (.pointer (some ⟨p, 0, none⟩))) (c1 : w.cell? ⟨r, 1, none⟩ = some (.pointer (some ⟨q, 0, none⟩))) (hs : w.heap[p]? = some (.cells s.C 50 (0, 0))) (ht : w.heap[q]? = some (.cells t.C 50 (0, 0))) (h1 : s.order = 1) (h2 : t.order = 2) :
    InRow w r 2 (fun j => if j = 0 then p else q) (fun j => if j = 0 then 1 else 2) := by
  refine ⟨hr, fun j hj => ?_, fun j hj => ?_, fun j hj => ?_, fun j hj => ?_⟩
  · have : j = 0 ∨ j = 1 := by omega
    rcases this with rfl | rfl
    · exact c0
    · exact c1
  · have : j = 0 ∨ j = 1 := by omega
    rcases this with rfl | rfl
    · exact ⟨blk_lt hs, by rw [show (if 0 = 0 then p else q) = p from rfl, blk_cell hs 16, show (if 0 = 0 then (1 : Int) else 2) = 1 from rfl, ← h1]; rfl⟩
    · exact ⟨blk_lt ht, by rw [show (if 1 = 0 then p else q) = q from rfl, blk_cell ht 16, show (if 1 = 0 then (1 : Int) else 2) = 2 from rfl, ← h2]; rfl⟩
  · have : j = 0 := by omega
    subst this
    decide
  · have : j = 0 ∨ j = 1 := by omega
    rcases this with rfl | rfl <;> decide
set_option maxRecDepth 100000 in
set_option maxHeartbeats 1600000 in
theorem open_two (w0 w : World) (g mb n : Nat) (D : DU) (M : Sm) (F : Ss) (count : Int) (p q : Nat) (h : TabAt w0 w g mb n D M F count) (hsz : Maps.size D ≤ 1000000) (hks : intKeys D = [5, 6]) (h5 : M 5 = some p) (h6 : M 6 = some q)
    (hp : (F p).state = 1 ∧ (F p).asked = true ∧ (F p).heard = true ∧ (F p).order = 1) (hq : (F q).state = 1 ∧ (F q).asked = true ∧ (F q).heard = true ∧ (F q).order = 2) :
    Calls Try.prog 22 #[.pointer (some ⟨g, 0, none⟩)] w fun e w' => ∃ r c, e = .returned (.slice (some ⟨r, 0, none⟩) 2 c) ∧ r < w'.heap.size ∧ w'.cell? ⟨r, 0, none⟩ = some (.pointer (some ⟨p, 0, none⟩)) ∧ w'.cell? ⟨r, 1, none⟩ = some (.pointer (some ⟨q, 0, none⟩)) ∧ Below w.heap.size w w' := by
  obtain ⟨c0, c1, c2, f0, f1, f2⟩ := cells_3 h.blk
  have HT := Lib.hid h
  have HA := Lib.hid (heap_alloc_new w (.cells #[.map (some mb)] 44))
  have HB0 := Lib.hid (below_alloc (Below.refl w.heap.size w) (.cells #[.map (some mb)] 44))
  have HKS := Lib.hid hks
  clear h hks
  go_enter Try.func22, Try.ntmps22
  go_wp2_with (first
    | (go_at_call 25; (with_reducible refine (keys_ok (some mb) _).mono ?_); rintro e w1 ⟨rfl, rfl⟩)
    | (go_at_call 24; (with_reducible refine (sorted_ok w.heap.size mb n D _ (blk_lt HA.out) (cells_1 HA.out).1 (HT.out.own.below HB0.out) hsz).mono ?_); rintro e w2 ⟨v, ss, rfl, hperm, hrow, hnil, hb⟩; have HB2 := Lib.hid (below_step HB0.out hb); obtain ⟨r, c, rfl, hr, r0, r1⟩ := row56 hperm HKS.out hrow; clear hb hperm hrow hnil))
  go_loopw [3, 14] (fun l a wr => ∃ j : Nat, j ≤ 2 ∧ a = .int .i64 (j : Int) ∧ Go.RowKit.Hid (Below w2.heap.size w2 wr) ∧ Go.RowKit.Hid (kPtr.R 47 wr w2.heap.size (fun _ => True) l ([p, q].take j))) (fun l a _ => 3 - (intOf a).toNat)
  case atStart => exact ⟨0, by omega, rfl, Lib.hid (Below.refl _ _), Lib.hid (Kd.R_nil _ _ _ _ _)⟩
  case round =>
    obtain ⟨j, hj, rfl, HBR, HL⟩ := hrel
    have HBW := Lib.hid (below_step HB2.out HBR.out)
    have HTR := Lib.hid (HT.out.below HBW.out)
    obtain ⟨k0, -, -⟩ := cells_3 HTR.out.blk
    have s0 := (HBR.out.cell (p := ⟨r, 0, none⟩) hr).trans r0
    have s1 := (HBR.out.cell (p := ⟨r, 1, none⟩) hr).trans r1
    have HSP := Lib.hid (HTR.out.slots 5 p h5).1
    have HSQ := Lib.hid (HTR.out.slots 6 q h6).1
    have hj2 : j = 0 ∨ j = 1 ∨ j = 2 := by omega
    rcases hj2 with rfl | rfl | rfl
    · have hl := lookP1_run HTR.out.own HTR.out.has h5 (by decide)
      have a14 : wr.cell? ⟨p, 14, none⟩ = some (.bool true) := by rw [blk_cell HSP.out 14, ← hp.2.1]; rfl
      have a15 : wr.cell? ⟨p, 15, none⟩ = some (.bool true) := by rw [blk_cell HSP.out 15, ← hp.2.2.1]; rfl
      have a17 : wr.cell? ⟨p, 17, none⟩ = some (.int .i64 1) := by rw [blk_cell HSP.out 17, ← hp.1]; rfl
      go_wp2_with (at_builtin; go_loud (refine Kd.R_append kPtr (w0 := w2) w2.heap.size rfl (.tmp 41) (.tmp 43) 61 47 (.pointer none) 8 rfl Try.underlying61 info_ptr rfl (by decide) (by omega) _ ([p, q].take 0) p [.pointer (some ⟨p, 0, none⟩)] (fun _ => True) (fun _ => False) rfl (by rfl) rfl (fun _ hk => hk.elim) (fun _ _ => trivial) HL.out HBR.out HBR.out.size (by simp) ?_; intro v1 w3 ho hb hg hat; have HL1 := Lib.hid ho; have HB1 := Lib.hid hb; clear ho hb hg hat))
      go_roundw
      case rel => exact ⟨1, by omega, rfl, HB1, HL1⟩
      case measure => simp [intOf]
    · have hl := lookP1_run HTR.out.own HTR.out.has h6 (by decide)
      have a14 : wr.cell? ⟨q, 14, none⟩ = some (.bool true) := by rw [blk_cell HSQ.out 14, ← hq.2.1]; rfl
      have a15 : wr.cell? ⟨q, 15, none⟩ = some (.bool true) := by rw [blk_cell HSQ.out 15, ← hq.2.2.1]; rfl
      have a17 : wr.cell? ⟨q, 17, none⟩ = some (.int .i64 1) := by rw [blk_cell HSQ.out 17, ← hq.1]; rfl
      go_wp2_with (at_builtin; go_loud (refine Kd.R_append kPtr (w0 := w2) w2.heap.size rfl (.tmp 41) (.tmp 43) 61 47 (.pointer none) 8 rfl Try.underlying61 info_ptr rfl (by decide) (by omega) _ ([p, q].take 1) q [.pointer (some ⟨q, 0, none⟩)] (fun _ => True) (fun _ => False) rfl (by rfl) rfl (fun _ hk => hk.elim) (fun _ _ => trivial) HL.out HBR.out HBR.out.size (by simp) ?_; intro v1 w3 ho hb hg hat; have HL1 := Lib.hid ho; have HB1 := Lib.hid hb; clear ho hb hg hat))
      go_roundw
      case rel => exact ⟨2, by omega, rfl, HB1, HL1⟩
      case measure => simp [intOf]
    · obtain ⟨r2, c3, rfl, hc3, hr2, hC, d0, d1⟩ := ptr_row HL.out
      have HIN := Lib.hid (ins_two r2 c3 _ _ wr (ptr_in hr2 d0 d1 HSP.out HSQ.out hp.2.2.2 hq.2.2.2) hc3)
      have HSO := Lib.hid (sorts_few SO (some ⟨r2, 0, none⟩) 2 c3 wr (by omega) HIN.out)
      have HD := Lib.hid (And.intro hr2 (And.intro d0 d1))
      clear hC d0 d1
      go_wp2_with (go_at_call 26; go_loud ((with_reducible refine HSO.out.mono ?_); rintro e w3 ⟨rfl, hb⟩; have HB3 := Lib.hid (below_step HBW.out hb); have HC3 := Lib.hid (And.intro (Nat.lt_of_lt_of_le HD.out.1 hb.size) (And.intro ((hb.cell (p := ⟨r2, 0, none⟩) HD.out.1).trans HD.out.2.1) ((hb.cell (p := ⟨r2, 1, none⟩) HD.out.1).trans HD.out.2.2))); clear hb))
      go_ret
      exact ⟨r2, c3, rfl, HC3.out.1, HC3.out.2.1, HC3.out.2.2, HB3.out⟩
end Go.Proofs.Ytdifkcbiifhkeaa.P
