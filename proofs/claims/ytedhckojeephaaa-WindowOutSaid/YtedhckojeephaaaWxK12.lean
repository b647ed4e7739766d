/- Bodies that came (window.In): a body that is taken in. -/
import Derived.BigQuiet
import Derived.Deep.AppendLies
import Derived.Deep.DrawnRows
import Derived.Deep.RegionHeld3
import Derived.Deep.RegionLaw
import Derived.IntWalk
import Derived.Lib.Hide
import Derived.Outline
import Derived.Test.YtedhckojeephaaaWxPx0
import Derived.WalkSpells
import Derived.Test.YtedhckojeephaaaWxK4
import Derived.Test.YtedhckojeephaaaWxK9
import Derived.Test.YtedhckojeephaaaWxK10
import Derived.Test.YtedhckojeephaaaWxK11
namespace Go.Proofs.Ytedhckojeephaaa.P
open Go.RowKit Go.Maps Go.Proofs.YtedhckojeephaaaW.PrintWords Go.Proofs.YtedhckojeephaaaW.PrintLast Go.Proofs.YtedhckojeephaaaW.PrintMore
set_option linter.unusedVariables false
set_option linter.unusedSimpArgs false
attribute [local go_sem ↓] Go.wp_at_zero Go.wp_at_succ

/-! ### window_taken: function 23 -/
/-- the map in the field ahead of the call: none, or D in block b -/
theorem run_next {M : Int → Option ByteArray} {base : Int} {j : Nat} {s : ByteArray} (hj : j ≤ 15) (hs : M (base + j + 1) = some s) : runM M (17 - j) (base + j) = s :: runM M (17 - (j + 1)) (base + (j + 1 : Nat)) := by
  obtain ⟨k, hk⟩ : ∃ k, 17 - j = k + 1 := ⟨16 - j, by omega⟩
  have e : 17 - (j + 1) = k := by omega
  rw [hk, e]
  simp only [runM, hs]
  congr 2
  omega
theorem run_end {M : Int → Option ByteArray} {base : Int} {j : Nat} (hs : M (base + j + 1) = none) : runM M (17 - j) (base + j) = [] := by
  cases h : 17 - j with
  | zero => rfl
  | succ k => simp only [runM, hs]
theorem Told.drew {w wr : World} {g b n : Nat} {base : Int} {M : Int → Option ByteArray} {v : Value} {D : DU} {L1 : List ByteArray} (T : Told w wr g b n base M v D L1) : Told w wr.drew g b n base M v D L1 :=
  ⟨T.blk, T.lt, T.own.drew, T.has, T.row.move (fun _ _ => rfl), T.far, T.keep.drew, T.all, T.len⟩
theorem Told.done {w wr : World} {g b n : Nat} {base p : Int} {M : Int → Option ByteArray} {v : Value} {D : DU} {L1 : List ByteArray} (T : Told w wr g b n base M v D L1) (hp : p = base + L1.length) (hs : M (p + 1) = none) : Told w wr g b n base M v D (runM M 17 base) := by
  have e := T.all
  rw [run_end (by rw [← hp]; exact hs), List.append_nil] at e
  rw [← e]; exact T
/-- one more is out -/
theorem Told.next {w wr w2 w3 : World} {g b n : Nat} {base p : Int} {M : Int → Option ByteArray} {v v1 : Value} {D : DU} {L1 : List ByteArray} {t : ByteArray} (T : Told w wr g b n base M v D L1) (hne : g ≠ b) (hp : p = base + L1.length) (hs : M (p + 1) = some t) (hl : L1.length ≤ 15)
    (hgrow2 : wr.drew.drew.grownBy w2 (some b)) (own2 : Own22 w2 b n (D.del (.int .u32 (p + 1)))) (ho : RS w w3 v1 (L1 ++ [t])) (hg : (w2.setCell ⟨g, 0, none⟩ (.int .u32 (p + 1))).grownBy w3 v.ownBlock)
    (hat : v1.ownBlock = v.ownBlock ∨ ∃ k, v1.ownBlock = some k ∧ (w2.setCell ⟨g, 0, none⟩ (.int .u32 (p + 1))).heap.size ≤ k) : Told w w3 g b n base M v1 (D.del (.int .u32 (p + 1))) (L1 ++ [t]) := by
  obtain ⟨m1, m2, m3⟩ := T.mid (wd := wr.drew.drew) ⟨rfl, rfl, rfl, Nat.le_refl _, fun _ _ _ => rfl⟩ hgrow2 (.int .u32 (p + 1)) hne
  have own3 := own2.setCell (a := ⟨g, 0, none⟩) (fun e => hne e.symm) (.int .u32 (p + 1))
  have e1 : base + ((L1 ++ [t]).length : Int) = p + 1 := by rw [List.length_append, List.length_singleton]; omega
  have hlt := T.lt
  refine ⟨?_, T.lt, own3.kept hg (fun e => T.far b e.symm rfl), ?_, ho, fun k hk => ?_, m2.grown hg (fun k e => .inr (T.base k e)), ?_, by rw [List.length_append, List.length_singleton]; omega⟩
  · rw [e1]; exact blk_grown m3 hg (fun e => by have := T.base g e.symm; omega)
  · rw [e1]
    have := (T.has).del (p + 1)
    rw [← hp, cut_del] at this
    exact this
  · rcases hat with h | ⟨j, h, hj⟩
    · exact T.far k (by rw [← h]; exact hk)
    · rw [hk] at h
      injection h with h
      have := own3.lt
      omega
  · rw [List.append_assoc, ← T.all]
    congr 1
    have hr := run_next (M := M) (base := base) (j := L1.length) (s := t) hl (by rw [← hp]; exact hs)
    rw [hr, List.length_append, List.length_singleton]
    rfl
def lenV : Value → Nat
  | .slice _ n _ => n
  | _ => 0
def Rel23 (w wr : World) (g b n : Nat) (base : Int) (M : Int → Option ByteArray) (s10 : Value) : Prop := ∃ (D : DU) (L1 : List ByteArray), Told w wr g b n base M s10 D L1
set_option maxHeartbeats 4000000 in
set_option maxRecDepth 100000 in
theorem wtake_own (w : World) (g b n : Nat) (base seq : Int) (D : DU) (M : Int → Option ByteArray) (s : ByteArray) (hblk : w.heap[g]? = some (.cells #[.int .u32 base, .map (some b)] 55 (0, 0))) (hown : Own22 w b n D) (hD : HasM D M)
    (h0 : 0 ≤ base) (h1 : base < 1000000) (h2 : base < seq) (h3 : seq ≤ base + 16) (hs : M seq = none) (hM : ∀ k, M k ≠ none → base < k ∧ k ≤ base + 16) (hn : n < 100000) (hsz : s.size ≤ maxLen) (M2 : Int → Option ByteArray) (hM2 : M2 = putM M seq s) :
    Calls Try.prog 23 #[.pointer (some ⟨g, 0, none⟩), .int .u32 seq, .string s] w fun e w' => ∃ v D', e = .returned (.tuple #[v, .int .i64 0]) ∧ Told w w' g b (n + 1) base M2 v D' (runM M2 17 base) := by
  have hd : IntKind.u32.wrap (seq - base) = seq - base := wrap32 (by omega) (by omega)
  have hd16 : seq - base ≤ 16 := by omega
  have hwf := wf32 (k := seq) (by omega) (by omega)
  have hl := look_run hown hD hwf
  rw [hs] at hl
  simp only [lookV] at hl
  obtain ⟨c0, c1, f0, f1⟩ := cells_2 hblk
  have hgb : g ≠ b := own_ne hown hblk
  have hlt := blk_lt hblk
  have HO := Aside0.mk hown
  have HD := Aside0.mk hD
  have HB := Aside0.mk hblk
  have HM := Lib.hid hM
  have HWF := Lib.hid hwf
  have HM3 := Lib.hid hM2
  clear hown hD hblk hs hM hwf hM2
  have hnil : ∀ w, (binOp .eql 53 (.map (some b)) (.map none)).run Try.prog w = .ok (.bool false) w := fun w => run_eql_map_nil w 53 22 9 (some b) Try.underlying53
  go_enter Try.func23, Try.ntmps23
  go_wp2_with (at_mapUpdate; refine wpList_mapUpdate_own _ rfl _ _ _ 53 rfl 22 9 law22 Try.underlying53 _ b n _ rfl HO.out (by unfold maxLen; omega) _ _ _ rfl rfl (keyOf_int_mk Try.underlying22 HWF.out) _ [] (plainElem_string Try.underlying9 hsz) ?_; intro w1 hown1 hgrow1; have HO1 := Aside0.mk hown1; have HG1 := Aside0.mk hgrow1; clear hown1 hgrow1)
  have T0 : Aside0 (Told w w1 g b (n + 1) base (putM M seq s) (.slice none 0 0) (D.put (.int .u32 seq) (.lit (.string s.data.toList))) []) := by
    have hb : ∀ k, putM M seq s k ≠ none → base < k := by
      intro k hk
      by_cases e : k = seq
      · omega
      · unfold putM at hk
        rw [if_neg e] at hk
        exact (HM.out k hk).1
    have hz : base + (([] : List ByteArray).length : Int) = base := by simp
    refine ⟨⟨?_, hlt, HO1.out, ?_, Kd.R_nil _ _ _ _ _, fun k hk => by simp [Value.ownBlock] at hk, (Chg.refl _ _).grown HG1.out (fun k e => by injection e with e; exact .inl (.inr e.symm)), ?_, by simp⟩⟩
    · rw [hz]; exact blk_grown HB.out HG1.out (fun e => hgb (by injection e))
    · rw [hz, cut_none hb]; exact HD.out.put HO.out.isMap seq s
    · rw [hz]; rfl
  have HM2 : Aside0 (∀ k, putM M seq s k ≠ none → k ≤ base + 16) := ⟨by
      intro k hk
      by_cases e : k = seq
      · omega
      · unfold putM at hk
        rw [if_neg e] at hk
        exact (HM.out k hk).2⟩
  clear HO HD HB HO1 HG1 HM HWF hl c0 c1 f0 f1 hd hd16
  rw [← HM3.out] at T0 HM2
  clear HM3
  go_loopw [10] (fun s10 wr => ∃ (D : DU) (L1 : List ByteArray), Aside0 (Told w wr g b (n + 1) base M2 s10 D L1)) (fun s10 _ => 17 - lenV s10)
  case atStart => exact ⟨_, _, T0⟩
  case round =>
    clear T0
    obtain ⟨D1, L1, HT⟩ := hrel
    obtain ⟨A, c, rfl, hlc, -⟩ := HT.out.row.form
    have hlen := HT.out.len
    obtain ⟨c0, c1, f0, f1⟩ := cells_2 HT.out.blk
    obtain ⟨p, hp⟩ : ∃ p : Int, p = base + L1.length := ⟨_, rfl⟩
    rw [← hp] at c0
    have p0 : 0 ≤ p := by omega
    have p1 : p < 4000000 := by omega
    have HP := Lib.hid hp
    clear hp
    have hw : IntKind.u32.wrap (p + 1) = p + 1 := wrap32 (by omega) (by omega)
    have hwf := wf32 (k := p + 1) (by omega) (by omega)
    have HOW := Aside0.mk HT.out.own
    have hat : cutM M2 (base + L1.length) (p + 1) = M2 (p + 1) := by rw [HP.out]; exact cut_at _ _
    have HLK : Aside0 (∀ w', Own22 w' b (n + 1) D1 → (Instr.lookup 53 (.map (some b)) (.int .u32 (p + 1)) true).run Try.prog w' = .ok (lookV (M2 (p + 1))) w') := ⟨fun w' h => (look_run h HT.out.has hwf).trans (by rw [hat])⟩
    clear hat
    cases hm : M2 (p + 1) with
    | none =>
      rw [hm] at HLK
      simp only [lookV] at HLK
      have HMM := Lib.hid hm
      clear hm
      go_wp2_with fail
      go_region_held3 (fun w' => w'.cell? ⟨g, 0, none⟩ = some (.int .u32 p) ∧ w'.cell? ⟨g, 1, none⟩ = some (.map (some b)) ∧ (Instr.lookup 53 (.map (some b)) (.int .u32 (p + 1)) true).run Try.prog w' = .ok (.tuple #[.string ⟨#[]⟩, .bool false]) w') (refine ⟨?_, ?_, ?_⟩ <;> first | exact c0 | exact c1 | exact HLK.out _ HOW.out | exact HLK.out _ HOW.out.drew | go_keep) (fail)
      go_wp2
      go_ret2
      exact ⟨_, D1, rfl, HT.out.drew.done HP.out HMM.out⟩
    | some t =>
      rw [hm] at HLK
      simp only [lookV] at HLK
      have h15 : L1.length ≤ 15 := by
        have := HM2.out (p + 1) (by rw [hm]; simp)
        have := HP.out
        omega
      have HMM := Lib.hid hm
      have HNE : Aside0 (some g ≠ some b) := ⟨fun e => hgb (by injection e)⟩
      clear hm
      go_wp2_with fail
      go_region_held3 (fun w' => w'.cell? ⟨g, 0, none⟩ = some (.int .u32 p) ∧ w'.cell? ⟨g, 1, none⟩ = some (.map (some b)) ∧ (Instr.lookup 53 (.map (some b)) (.int .u32 (p + 1)) true).run Try.prog w' = .ok (.tuple #[.string t, .bool true]) w') (refine ⟨?_, ?_, ?_⟩ <;> first | exact c0 | exact c1 | exact HLK.out _ HOW.out | exact HLK.out _ HOW.out.drew | go_keep) (fail)
      go_wp2_with fail
      go_region_held3 (fun w' => w'.cell? ⟨g, 0, none⟩ = some (.int .u32 p) ∧ w'.cell? ⟨g, 1, none⟩ = some (.map (some b))) (refine ⟨?_, ?_⟩ <;> first | exact c0 | exact c1 | exact hgrow2.cell c0 HNE.out | exact hgrow2.cell c1 HNE.out | go_keep)
        ((refine step_delete22 (by rfl) (.tmp 75) (.tmp 80) (by rfl) b (n + 1) D1 (by rfl) HOW.out (p + 1) (by rfl) hwf ?_; intro w2 hown2 hgrow2))
      have HMID := Aside0.mk (HT.out.mid (wd := wr.drew.drew) ⟨rfl, rfl, rfl, Nat.le_refl _, fun _ _ _ => rfl⟩ hgrow2 (.int .u32 (p + 1)) hgb)
      obtain ⟨k0, k1, l0, l1⟩ := cells_2 (blk_grown (show wr.drew.drew.heap[g]? = _ from HT.out.blk) hgrow2 HNE.out)
      rw [← HP.out] at k0
      have HO2 := Aside0.mk hown2
      have HG2 := Aside0.mk hgrow2
      have hsz2 : w.heap.size ≤ w2.heap.size := by have := HT.out.keep.size; have := hgrow2.size; simp at this; omega
      have hbig : (L1.length + 1) * 16 ≤ 140737488355328 := by omega
      have hss : (w2.setCell ⟨g, 0, none⟩ (.int .u32 (p + 1))).heap.size = w2.heap.size := by simp
      clear hown2 hgrow2
      go_wp2_with (at_builtin; go_loud (refine Kd.R_append Kd.string (w0 := w2.setCell ⟨g, 0, none⟩ (.int .u32 (p + 1))) w.heap.size rfl (.tmp 88) (.tmp 90) 27 9 (.string ⟨#[]⟩) 16 rfl Try.underlying27 info9 rfl (by decide) (by omega) (.slice A L1.length c) L1 t [.string t] (fun _ => True) (fun _ => False) rfl (by rw [hss]; rfl) rfl (fun _ hk => hk.elim) (fun _ _ => trivial) HMID.out.1 (Below.refl _ _) ?aS hbig ?_; (case aS => simpa using hsz2); intro v1 w3 ho hb hg hat; obtain ⟨A1, c1', rfl, -, -⟩ := RS.form ho; have HR := Aside0.mk ho; have HG := Aside0.mk hg; have HA := Aside0.mk hat; clear ho hb hg hat))
      go_roundw
      case rel => exact ⟨_, L1 ++ [t], ⟨HT.out.next hgb HP.out HMM.out h15 HG2.out HO2.out (by have h := HR.out; rw [List.length_append, List.length_singleton] at h; exact h) HG.out (by have h := HA.out; rw [List.length_append, List.length_singleton] at h; exact h)⟩⟩
      case measure => simp [lenV]; omega
end Go.Proofs.Ytedhckojeephaaa.P
