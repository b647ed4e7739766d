/- The table of tickets: the numbers of its tickets, sorted (slices.Sorted of maps.Keys). -/
import Derived.Test.YtmeafbjnjiadnaaVnSv3
import Derived.Test.YtmeafbjnjiadnaaVnShelf
import Derived.Shelf.SlIterI.Nil
namespace Go.Proofs.Ytmeafbjnjiadnaa.P
open Go.RowKit Go.Maps Go.Sort Go.Shelf Go.Proofs.YtmeafbjnjiadnaaW.PrintWords Go.Proofs.YtmeafbjnjiadnaaW.PrintLast Go.Proofs.YtmeafbjnjiadnaaW.PrintMore
set_option linter.unusedVariables false
set_option linter.unusedSimpArgs false
theorem sortsA (m : Nat) : AnyZI.SortsIn Try.prog Try.sortedA_ren Fence.wide m :=
  ⟨fun blk off cap ss W hH hblk hsz => callsIn_wide.2 (AnyM.slices_Sort_int Try.sortA blk off cap ss W hH hblk hsz),
   fun p cap W => callsIn_wide.2 (AnyM.slices_Sort_int_none Try.sortA p cap W)⟩
theorem keys_ok (mb : Option Nat) (W : World) : Calls Try.prog 28 #[.map mb] W fun e w' => e = .returned (.func (.func 35) #[] #[.pointer (some ⟨W.heap.size, 0, none⟩)]) ∧ w' = W.alloc (.cells #[.map mb] 36) :=
  (callsIn_wide (n := 5)).1 (AnyZI.keys_in Try.keysA Fence.wide 5 trivial rfl mb W)
theorem sorted_ok (k b nn : Nat) (D0 : DU) (W : World) (hk : k < W.heap.size) (hc : W.cell? ⟨k, 0, none⟩ = some (.map (some b))) (hown : OwnP W b nn D0) (hmax : Maps.size D0 ≤ 1000000) :
    Calls Try.prog 27 #[.func (.func 35) #[] #[.pointer (some ⟨k, 0, none⟩)]] W fun e w' => ∃ (v : Value) (ss : List Int), e = .returned v ∧ ss.Perm (intKeys D0) ∧
      w'.ownsRow W.heap.size 3 1 v ss.length ((ss.mergeSort (fun x y => decide (x ≤ y))).map encZ) ∧ (v = .slice none 0 0 ↔ ss = []) ∧ Below W.heap.size W w' := by
  have hseq : SeqGives Fence.wide 2 Try.prog 35 #[.pointer (some ⟨k, 0, none⟩)] encZ (fun ss => ss.Perm (intKeys D0)) (Maps.size D0) W :=
    AnyZI.keys_gives (ρ := Try.keysA_ren) { Try.keysA with } Fence.wide _ trivial rfl (by omega) k b nn D0 _ hk hc hown
  have h1 : Maps.size D0 ≤ maxLen := Nat.le_trans hmax (by decide)
  have cS := AnyZI.sorted_in Try.sortedA Fence.wide 5 trivial trivial trivial trivial rfl (by omega) (sortsA _) (enters_of Try.func34 (by kernel_rfl) rfl) 35 #[.pointer (some ⟨k, 0, none⟩)] trivial (enters_of Try.func35 (by kernel_rfl) rfl) _ _ h1 (by omega) _ hseq
  exact (callsIn_wide (n := 5)).1 cS
theorem sorted_nil (k : Nat) (W : World) (hk : k < W.heap.size) (hc : W.cell? ⟨k, 0, none⟩ = some (.map none)) :
    Calls Try.prog 27 #[.func (.func 35) #[] #[.pointer (some ⟨k, 0, none⟩)]] W fun e w' => e = .returned (.slice none 0 0) ∧ Below W.heap.size W w' := by
  have hseq : SeqGives Fence.wide 2 Try.prog 35 #[.pointer (some ⟨k, 0, none⟩)] encZ (fun ss : List Int => ss = []) 0 W :=
    AnyZI.keys_gives_nil (ρ := Try.keysA_ren) { Try.keysA with } Fence.wide _ trivial rfl k _ hk hc
  have cS := AnyZI.sorted_in Try.sortedA Fence.wide 5 trivial trivial trivial trivial rfl (by omega) (sortsA _) (enters_of Try.func34 (by kernel_rfl) rfl) 35 #[.pointer (some ⟨k, 0, none⟩)] trivial (enters_of Try.func35 (by kernel_rfl) rfl) _ 0 (Nat.zero_le _) (by omega) _ hseq
  exact ((callsIn_wide (n := 5)).1 cS).mono fun e w' ⟨v, ss, he, hs, hrow, hn, hb⟩ => ⟨by rw [he, hn.2 hs], hb⟩
end Go.Proofs.Ytmeafbjnjiadnaa.P
