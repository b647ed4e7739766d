/- A network between two: what arrives, is lost, doubled and turned about. -/
import Derived.Test.YtedhckojeephaaaNpPx0
import Derived.Test.YtedhckojeephaaaNpK0
import Derived.Test.YtedhckojeephaaaNpK2
namespace Go.Proofs.Ytedhckojeephaaa.P
open Go.RowKit Go.Proofs.YtedhckojeephaaaW.PrintWords Go.Proofs.YtedhckojeephaaaW.PrintLast Go.Proofs.YtedhckojeephaaaW.PrintMore
set_option linter.unusedVariables false
set_option linter.unusedSimpArgs false
attribute [local go_sem ↓] Go.wp_at_zero Go.wp_at_succ

def sx (L : List ByteArray) : Nat → ByteArray := fun i => rdOf ByteArray.empty L (i : Int)
theorem sx_at (L : List ByteArray) (i : Nat) (h : i < L.length) : sx L i = L[i] := by
  unfold sx rdOf
  rw [Int.toNat_natCast, List.getD_eq_getElem?_getD, List.getElem?_eq_getElem h]; rfl
theorem strs_of (L : List ByteArray) : (Lib.strsOf (sx L) L.length) = L.map fun s => s.data.toList := by
  unfold Lib.strsOf
  apply List.ext_getElem
  · simp
  · intro i h1 h2
    simp only [List.getElem_map, List.getElem_range]
    rw [sx_at L i (by simpa using h1)]
theorem cells_of (L : List ByteArray) (i : Nat) (hi : i < L.length) : ((Lib.strsOf (sx L) L.length).take i ++ (Lib.strsOf (sx L) L.length).drop (i + 1) ++ List.replicate (i + 1 - i) []).map encStr = encs Value.string (L.eraseIdx i) ++ [.string ⟨#[]⟩] := by
  rw [strs_of, show i + 1 - i = 1 by omega, List.eraseIdx_eq_take_drop_succ]
  simp [encs, encStr, Function.comp_def]

/-- slices.Delete of one element, over a row of the law's own -/
theorem delete_own (w0 w : World) (go cap : Nat) (L : List ByteArray) (i : Nat) (hr : RS w0 w (.slice (some ⟨go, 0, none⟩) L.length cap) L) (hi : i < L.length) :
    Calls Try.prog 45 #[.slice (some ⟨go, 0, none⟩) L.length cap, .int .i64 (i : Int), .int .i64 ((i : Int) + 1)] w fun e w' => e = .returned (.slice (some ⟨go, 0, none⟩) (L.length - 1) cap) ∧ RS w0 w' (.slice (some ⟨go, 0, none⟩) (L.length - 1) cap) (L.eraseIdx i) ∧ w.grownBy w' (some go) := by
  have ho := Kd.own_of_R hr
  obtain ⟨hl, h2⟩ := ho
  rcases h2 with ⟨h2, _⟩ | ⟨g, c2, cur, he, hb, hh, hn, hm, hs, ht⟩
  · cases h2
  cases he
  have hc : ∀ j, j < L.length → w.cell? ⟨go, 0 + j, none⟩ = some (.string (sx L j)) := fun j hj => by
    rw [Nat.zero_add]; exact (Kd.R_celln ByteArray.empty hr (j : Int) (by omega) (by omega)).1
  have hf : ∀ j, j < L.length → w.frozen? ⟨go, 0 + j, none⟩ = false := fun j hj => by
    rw [Nat.zero_add]; exact (Kd.R_celln ByteArray.empty hr (j : Int) (by omega) (by omega)).2
  have hmm : cap ≤ 9223372036854775807 := by unfold maxLen at hm; omega
  have := Go.Proofs.Try.slices_Delete_string_cells go 0 L.length cap i (i + 1) (sx L) w hn hmm (by omega) (by omega) hc hf
  refine this.mono ?_
  rintro e w' ⟨rfl, q, rfl⟩
  rw [cells_of L i hi, show L.length - (i + 1 - i) = L.length - 1 by omega]
  have hlen : (encs Value.string (L.eraseIdx i) ++ [Value.string ⟨#[]⟩]).length = L.length := by
    simp [encs, List.length_eraseIdx, hi]; omega
  obtain ⟨cur', h3, h4, h5⟩ := setCells_row (g := go) (e := 9) (encs Value.string (L.eraseIdx i) ++ [.string ⟨#[]⟩]) 0 (w.drewN q) cur hh (by rw [hlen, hs]; omega)
  obtain ⟨s1, s2, s3, s4⟩ := setCells_same go (encs Value.string (L.eraseIdx i) ++ [.string ⟨#[]⟩]) 0 (w.drewN q)
  have hel : (L.eraseIdx i).length = L.length - 1 := by rw [List.length_eraseIdx, if_pos hi]
  refine ⟨rfl, ?_, ⟨s1, s2, s3, by rw [s4]; exact Nat.le_refl _, fun k hk hne => setCells_far _ _ k (fun e => hne (by rw [e]))⟩⟩
  refine Kd.R_of_own ⟨by simp [encs], .inr ⟨go, cap, cur', by rw [hel], hb, h3, by rw [hel]; omega, hm, by rw [h4, hs], ?_⟩⟩ (fun _ _ => trivial)
  rw [h5, List.take_zero, List.nil_append, hel, Nat.mul_one, List.append_assoc, List.take_append_of_le_length (by simp [encs, hel]), List.take_of_length_le (by simp [encs, hel])]

set_option maxHeartbeats 1600000 in
set_option maxRecDepth 100000 in
theorem take_ok (ok : Nat → Prop) (w0 w : World) (g : Nat) (F : Bool → List ByteArray) (t : Int) (b : Bool) (ht : t = toOf b) (i : Nat) (hi : i < (F b).length) (hI : NetIs ok w0 w g F) (hB : Below w0.heap.size w0 w) : Calls Try.prog 28 #[.pointer (some ⟨g, 0, none⟩), .int .i64 t, .int .i64 (i : Int)] w fun e w' => e = .returned (.tuple #[.string (sx (F b) i), .int .i64 0]) ∧ NetTo ok w0 w w' g (upd F b ((F b).eraseIdx i)) := by
  have hm := hI.made
  obtain ⟨va, vb, h⟩ := hI
  obtain ⟨c0, c1, -, f0, f1, -⟩ := cells_3 h.blk
  have H := Aside0.mk h
  have HB := Aside0.mk hB
  have hg := blk_lt h.blk
  subst ht
  cases b
  · obtain ⟨go, cap, rfl, gb, gl, -⟩ := Kd.R_form h.ra (show 0 < (F false).length by omega)
    have hne : ∀ k, k = go → k ≠ g := fun k hk => h.ne_a k (by rw [hk]; rfl)
    clear h hB
    simp only [toOf]
    have hx := (Kd.R_celln ByteArray.empty H.out.ra (i : Int) (by omega) (by omega)).1
    rw [Int.toNat_natCast, show rdOf ByteArray.empty (F false) (i : Int) = sx (F false) i by rfl] at hx
    have hi0 : (0 : Int) ≤ (i : Int) := by omega
    have hil : (i : Int) < ((F false).length : Int) := by omega
    have hmx : (i : Int) + 1 ≤ 9223372036854775807 := by have := Kd.C_max (NetIs.way ⟨_, _, H.out⟩ false).choose_spec.choose_spec.2.2; omega
    have hiw : IntKind.i64.wrap ((i : Int) + 1) = (i : Int) + 1 := IntWalk.i64_in _ ⟨by omega, by omega⟩
    go_enter Try.func28, Try.ntmps28
    go_wp2_with (go_at_call 44; refine (at_ok g _ _ _ _ _ _ hm (by first | exact .inl rfl | exact .inr rfl) (by first | exact c0 | exact c1) hi0 hil).mono ?_; rintro e w1 ⟨rfl, rfl⟩)
    go_region_with (go_at_call 45; refine (delete_own w0 _ go cap (F false) i ?hr hi).mono ?_; (case hr => exact H.out.ra); rintro e w2 ⟨rfl, hu, hgr⟩; have hgr' : w.grownBy w2 (some go) := ⟨hgr.os, hgr.tape, hgr.output, hgr.size, hgr.block⟩; obtain ⟨k0, k1, k2, l0, l1, l2⟩ := cells_3 (blk_grown H.out.blk hgr' (fun e => hne g (Option.some.inj e) rfl)); have HU := Aside0.mk hu; have HG := Aside0.mk hgr'; clear hu hgr hgr')
    all_goals
      go_wp2
      go_ret2
      have hp := H.out.put0 HG.out (fun k hk => by cases hk; rfl) HU.out (fun k hk => .inl (by simpa [Value.ownBlock] using hk))
      exact ⟨rfl, ⟨_, _, hp.1⟩, below_set (pw_below_grown HB.out (some go) HB.out.size HG.out (fun k hk => by cases hk; exact gb)) H.out.ge, hp.2⟩
  · obtain ⟨go, cap, rfl, gb, gl, -⟩ := Kd.R_form h.rb (show 0 < (F true).length by omega)
    have hne : ∀ k, k = go → k ≠ g := fun k hk => h.ne_b k (by rw [hk]; rfl)
    clear h hB
    simp only [toOf]
    have hx := (Kd.R_celln ByteArray.empty H.out.rb (i : Int) (by omega) (by omega)).1
    rw [Int.toNat_natCast, show rdOf ByteArray.empty (F true) (i : Int) = sx (F true) i by rfl] at hx
    have hi0 : (0 : Int) ≤ (i : Int) := by omega
    have hil : (i : Int) < ((F true).length : Int) := by omega
    have hmx : (i : Int) + 1 ≤ 9223372036854775807 := by have := Kd.C_max (NetIs.way ⟨_, _, H.out⟩ true).choose_spec.choose_spec.2.2; omega
    have hiw : IntKind.i64.wrap ((i : Int) + 1) = (i : Int) + 1 := IntWalk.i64_in _ ⟨by omega, by omega⟩
    go_enter Try.func28, Try.ntmps28
    go_wp2_with (go_at_call 44; refine (at_ok g _ _ _ _ _ _ hm (by first | exact .inl rfl | exact .inr rfl) (by first | exact c0 | exact c1) hi0 hil).mono ?_; rintro e w1 ⟨rfl, rfl⟩)
    go_region_with (go_at_call 45; refine (delete_own w0 _ go cap (F true) i ?hr hi).mono ?_; (case hr => exact H.out.rb); rintro e w2 ⟨rfl, hu, hgr⟩; have hgr' : w.grownBy w2 (some go) := ⟨hgr.os, hgr.tape, hgr.output, hgr.size, hgr.block⟩; obtain ⟨k0, k1, k2, l0, l1, l2⟩ := cells_3 (blk_grown H.out.blk hgr' (fun e => hne g (Option.some.inj e) rfl)); have HU := Aside0.mk hu; have HG := Aside0.mk hgr'; clear hu hgr hgr')
    all_goals
      go_wp2
      go_ret2
      have hp := H.out.put1 HG.out (fun k hk => by cases hk; rfl) HU.out (fun k hk => .inl (by simpa [Value.ownBlock] using hk))
      exact ⟨rfl, ⟨_, _, hp.1⟩, below_set (pw_below_grown HB.out (some go) HB.out.size HG.out (fun k hk => by cases hk; exact gb)) H.out.ge, hp.2⟩
end Go.Proofs.Ytedhckojeephaaa.P
