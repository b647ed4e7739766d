/- Bodies that came (window.In): the first body, for which the map is made. -/
import Derived.BigQuiet
import Derived.Deep.AppendLies
import Derived.Deep.DrawnRows
import Derived.Deep.RegionHeld3
import Derived.Deep.RegionLaw
import Derived.IntWalk
import Derived.Lib.Hide
import Derived.Outline
import Derived.Test.YtedhckojeephaaaWxPx0
import Derived.WalkSpells
import Derived.Test.YtedhckojeephaaaWxK4
import Derived.Test.YtedhckojeephaaaWxK9
import Derived.Test.YtedhckojeephaaaWxK10
import Derived.Test.YtedhckojeephaaaWxK11
import Derived.Test.YtedhckojeephaaaWxK12
namespace Go.Proofs.Ytedhckojeephaaa.P
open Go.RowKit Go.Maps Go.Proofs.YtedhckojeephaaaW.PrintWords Go.Proofs.YtedhckojeephaaaW.PrintLast Go.Proofs.YtedhckojeephaaaW.PrintMore
set_option linter.unusedVariables false
set_option linter.unusedSimpArgs false
attribute [local go_sem ↓] Go.wp_at_zero Go.wp_at_succ

/-! ### window_first: function 23 -/
set_option maxHeartbeats 4000000 in
set_option maxRecDepth 100000 in
theorem wtake_first (w : World) (g b n : Nat) (hb : b = w.heap.size) (hn0 : n = 0) (base seq : Int) (s : ByteArray) (hblk : w.heap[g]? = some (.cells #[.int .u32 base, .map none] 55 (0, 0)))
    (h0 : 0 ≤ base) (h1 : base < 1000000) (h2 : base < seq) (h3 : seq ≤ base + 16) (hsz : s.size ≤ maxLen) (M2 : Int → Option ByteArray) (hM2 : M2 = putM (fun _ => none) seq s) :
    Calls Try.prog 23 #[.pointer (some ⟨g, 0, none⟩), .int .u32 seq, .string s] w fun e w' => ∃ v D', e = .returned (.tuple #[v, .int .i64 0]) ∧ Told w w' g b (n + 1) base M2 v D' (runM M2 17 base) := by
  have hd : IntKind.u32.wrap (seq - base) = seq - base := wrap32 (by omega) (by omega)
  have hd16 : seq - base ≤ 16 := by omega
  have hwf := wf32 (k := seq) (by omega) (by omega)
  have hl := look_run_nil w hwf
  obtain ⟨c0, c1, f0, f1⟩ := cells_2 hblk
  have hlt := blk_lt hblk
  have hgb : g ≠ b := by omega
  have HB := Aside0.mk hblk
  have HWF := Lib.hid hwf
  have HM3 := Lib.hid hM2
  have HB0 := Lib.hid hb
  clear hblk hwf hM2 hb
  have hnil : ∀ w, (binOp .eql 53 (.map none) (.map none)).run Try.prog w = .ok (.bool true) w := fun w => run_eql_map_nil w 53 22 9 none Try.underlying53
  have hmm := @run_makeMap Try.prog
  have hmade : Aside0 (Own22 ((w.setCell ⟨g, 1, none⟩ (.map (some w.heap.size))).alloc (.map #[] 0)) w.heap.size 0 (.map [])) := ⟨by
    have h := World.ownsMap_made (H := Unit) (w.setCell ⟨g, 1, none⟩ (.map (some w.heap.size))) Try.prog 22 (plainElem Try.prog 9)
    rw [show (w.setCell ⟨g, 1, none⟩ (.map (some w.heap.size))).heap.size = w.heap.size from by simp] at h
    exact h⟩
  go_enter Try.func23, Try.ntmps23
  go_wp2_with (at_mapUpdate; refine wpList_mapUpdate_own _ rfl _ _ _ 53 rfl 22 9 law22 Try.underlying53 _ w.heap.size 0 _ rfl hmade.out (by unfold maxLen; omega) _ _ _ rfl rfl (keyOf_int_mk Try.underlying22 HWF.out) _ [] (plainElem_string Try.underlying9 hsz) ?_; intro w1 hown1 hgrow1; rw [← HB0.out] at hown1 hgrow1; have HO1 := Aside0.mk hown1; have HG1 := Aside0.mk hgrow1; clear hown1 hgrow1)
  have T0 : Aside0 (Told w w1 g b (n + 1) base M2 (.slice none 0 0) (DataW.put (.map []) (.int .u32 seq) (.lit (.string s.data.toList))) []) := by
    have hb : ∀ k, putM (fun _ => none) seq s k ≠ none → base < k := by
      intro k hk
      by_cases e : k = seq
      · omega
      · unfold putM at hk
        rw [if_neg e] at hk
        exact absurd rfl hk
    have hz : base + (([] : List ByteArray).length : Int) = base := by simp
    rw [HM3.out]
    subst hn0
    refine ⟨⟨?_, hlt, HO1.out, ?_, Kd.R_nil _ _ _ _ _, fun k hk => by simp [Value.ownBlock] at hk, (((Chg.refl _ _).set (.inl rfl)).alloc _).grown HG1.out (fun k e => by injection e with e; exact .inl (.inr e.symm)), ?_, by simp⟩⟩
    · rw [hz]
      have h1 := blk_alloc (blk_set HB.out 1 (.map (some b))) (.map #[] 0)
      have h2 := blk_grown h1 HG1.out (fun e => hgb (by injection e))
      simpa using h2
    · rw [hz, cut_none hb]; exact hasM_empty.put isMap_empty seq s
    · rw [hz]; rfl
  have HM2 : Aside0 (∀ k, M2 k ≠ none → k ≤ base + 16) := ⟨by
      rw [HM3.out]
      intro k hk
      by_cases e : k = seq
      · omega
      · unfold putM at hk
        rw [if_neg e] at hk
        exact absurd rfl hk⟩
  clear HB HO1 HG1 HM3 HWF hl c0 c1 f0 f1 hd hd16 hmade hmm hnil
  go_loopw [10] (fun s10 wr => ∃ (D : DU) (L1 : List ByteArray), Aside0 (Told w wr g b (n + 1) base M2 s10 D L1)) (fun s10 _ => 17 - lenV s10)
  case atStart => exact ⟨_, _, T0⟩
  case round =>
    clear T0
    obtain ⟨D1, L1, HT⟩ := hrel
    obtain ⟨A, c, rfl, hlc, -⟩ := HT.out.row.form
    have hlen := HT.out.len
    obtain ⟨c0, c1, f0, f1⟩ := cells_2 HT.out.blk
    obtain ⟨p, hp⟩ : ∃ p : Int, p = base + L1.length := ⟨_, rfl⟩
    rw [← hp] at c0
    have p0 : 0 ≤ p := by omega
    have p1 : p < 4000000 := by omega
    have HP := Lib.hid hp
    clear hp
    have hw : IntKind.u32.wrap (p + 1) = p + 1 := wrap32 (by omega) (by omega)
    have hwf := wf32 (k := p + 1) (by omega) (by omega)
    have HOW := Aside0.mk HT.out.own
    have hat : cutM M2 (base + L1.length) (p + 1) = M2 (p + 1) := by rw [HP.out]; exact cut_at _ _
    have HLK : Aside0 (∀ w', Own22 w' b (n + 1) D1 → (Instr.lookup 53 (.map (some b)) (.int .u32 (p + 1)) true).run Try.prog w' = .ok (lookV (M2 (p + 1))) w') := ⟨fun w' h => (look_run h HT.out.has hwf).trans (by rw [hat])⟩
    clear hat
    cases hm : M2 (p + 1) with
    | none =>
      rw [hm] at HLK
      simp only [lookV] at HLK
      have HMM := Lib.hid hm
      clear hm
      go_wp2_with fail
      go_region_held3 (fun w' => w'.cell? ⟨g, 0, none⟩ = some (.int .u32 p) ∧ w'.cell? ⟨g, 1, none⟩ = some (.map (some b)) ∧ (Instr.lookup 53 (.map (some b)) (.int .u32 (p + 1)) true).run Try.prog w' = .ok (.tuple #[.string ⟨#[]⟩, .bool false]) w') (refine ⟨?_, ?_, ?_⟩ <;> first | exact c0 | exact c1 | exact HLK.out _ HOW.out | exact HLK.out _ HOW.out.drew | go_keep) (fail)
      go_wp2
      go_ret2
      exact ⟨_, D1, rfl, HT.out.drew.done HP.out HMM.out⟩
    | some t =>
      rw [hm] at HLK
      simp only [lookV] at HLK
      have h15 : L1.length ≤ 15 := by
        have := HM2.out (p + 1) (by rw [hm]; simp)
        have := HP.out
        omega
      have HMM := Lib.hid hm
      have HNE : Aside0 (some g ≠ some b) := ⟨fun e => hgb (by injection e)⟩
      clear hm
      go_wp2_with fail
      go_region_held3 (fun w' => w'.cell? ⟨g, 0, none⟩ = some (.int .u32 p) ∧ w'.cell? ⟨g, 1, none⟩ = some (.map (some b)) ∧ (Instr.lookup 53 (.map (some b)) (.int .u32 (p + 1)) true).run Try.prog w' = .ok (.tuple #[.string t, .bool true]) w') (refine ⟨?_, ?_, ?_⟩ <;> first | exact c0 | exact c1 | exact HLK.out _ HOW.out | exact HLK.out _ HOW.out.drew | go_keep) (fail)
      go_wp2_with fail
      go_region_held3 (fun w' => w'.cell? ⟨g, 0, none⟩ = some (.int .u32 p) ∧ w'.cell? ⟨g, 1, none⟩ = some (.map (some b))) (refine ⟨?_, ?_⟩ <;> first | exact c0 | exact c1 | exact hgrow2.cell c0 HNE.out | exact hgrow2.cell c1 HNE.out | go_keep)
        ((refine step_delete22 (by rfl) (.tmp 75) (.tmp 80) (by rfl) b (n + 1) D1 (by rfl) HOW.out (p + 1) (by rfl) hwf ?_; intro w2 hown2 hgrow2))
      have HMID := Aside0.mk (HT.out.mid (wd := wr.drew.drew) ⟨rfl, rfl, rfl, Nat.le_refl _, fun _ _ _ => rfl⟩ hgrow2 (.int .u32 (p + 1)) hgb)
      obtain ⟨k0, k1, l0, l1⟩ := cells_2 (blk_grown (show wr.drew.drew.heap[g]? = _ from HT.out.blk) hgrow2 HNE.out)
      rw [← HP.out] at k0
      have HO2 := Aside0.mk hown2
      have HG2 := Aside0.mk hgrow2
      have hsz2 : w.heap.size ≤ w2.heap.size := by have := HT.out.keep.size; have := hgrow2.size; simp at this; omega
      have hbig : (L1.length + 1) * 16 ≤ 140737488355328 := by omega
      have hss : (w2.setCell ⟨g, 0, none⟩ (.int .u32 (p + 1))).heap.size = w2.heap.size := by simp
      clear hown2 hgrow2
      go_wp2_with (at_builtin; go_loud (refine Kd.R_append Kd.string (w0 := w2.setCell ⟨g, 0, none⟩ (.int .u32 (p + 1))) w.heap.size rfl (.tmp 88) (.tmp 90) 27 9 (.string ⟨#[]⟩) 16 rfl Try.underlying27 info9 rfl (by decide) (by omega) (.slice A L1.length c) L1 t [.string t] (fun _ => True) (fun _ => False) rfl (by rw [hss]; rfl) rfl (fun _ hk => hk.elim) (fun _ _ => trivial) HMID.out.1 (Below.refl _ _) ?aS hbig ?_; (case aS => simpa using hsz2); intro v1 w3 ho hb hg hat; obtain ⟨A1, c1', rfl, -, -⟩ := RS.form ho; have HR := Aside0.mk ho; have HG := Aside0.mk hg; have HA := Aside0.mk hat; clear ho hb hg hat))
      go_roundw
      case rel => exact ⟨_, L1 ++ [t], ⟨HT.out.next hgb HP.out HMM.out h15 HG2.out HO2.out (by have h := HR.out; rw [List.length_append, List.length_singleton] at h; exact h) HG.out (by have h := HA.out; rw [List.length_append, List.length_singleton] at h; exact h)⟩⟩
      case measure => simp [lenV]; omega
end Go.Proofs.Ytedhckojeephaaa.P
