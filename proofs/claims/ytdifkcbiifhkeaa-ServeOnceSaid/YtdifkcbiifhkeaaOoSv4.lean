/- The table of tickets: the numbers of its tickets, sorted (slices.Sorted of maps.Keys). -/
import Derived.Test.YtdifkcbiifhkeaaOoSv3
import Derived.Test.YtdifkcbiifhkeaaOoShelf
import Derived.Shelf.SlIterI.Nil
namespace Go.Proofs.Ytdifkcbiifhkeaa.P
open Go.RowKit Go.Maps Go.Sort Go.Shelf Go.Proofs.YtdifkcbiifhkeaaW.PrintWords Go.Proofs.YtdifkcbiifhkeaaW.PrintLast Go.Proofs.YtdifkcbiifhkeaaW.PrintMore
set_option linter.unusedVariables false
set_option linter.unusedSimpArgs false
theorem sortsA (m : Nat) : AnyZI.SortsIn Try.prog Try.sortedA_ren Fence.wide m :=
  ⟨fun blk off cap ss W hH hblk hsz => callsIn_wide.2 (AnyM.slices_Sort_int Try.sortA blk off cap ss W hH hblk hsz),
   fun p cap W => callsIn_wide.2 (AnyM.slices_Sort_int_none Try.sortA p cap W)⟩
theorem keys_ok (mb : Option Nat) (W : World) : Calls Try.prog 25 #[.map mb] W fun e w' => e = .returned (.func (.func 31) #[] #[.pointer (some ⟨W.heap.size, 0, none⟩)]) ∧ w' = W.alloc (.cells #[.map mb] 44) :=
  (callsIn_wide (n := 5)).1 (AnyZI.keys_in Try.keysA Fence.wide 5 trivial rfl mb W)
theorem sorted_ok (k b nn : Nat) (D0 : DU) (W : World) (hk : k < W.heap.size) (hc : W.cell? ⟨k, 0, none⟩ = some (.map (some b))) (hown : OwnP W b nn D0) (hmax : Maps.size D0 ≤ 1000000) :
    Calls Try.prog 24 #[.func (.func 31) #[] #[.pointer (some ⟨k, 0, none⟩)]] W fun e w' => ∃ (v : Value) (ss : List Int), e = .returned v ∧ ss.Perm (intKeys D0) ∧
      w'.ownsRow W.heap.size 3 1 v ss.length ((ss.mergeSort (fun x y => decide (x ≤ y))).map encZ) ∧ (v = .slice none 0 0 ↔ ss = []) ∧ Below W.heap.size W w' := by
  have hseq : SeqGives Fence.wide 2 Try.prog 31 #[.pointer (some ⟨k, 0, none⟩)] encZ (fun ss => ss.Perm (intKeys D0)) (Maps.size D0) W :=
    AnyZI.keys_gives (ρ := Try.keysA_ren) { Try.keysA with } Fence.wide _ trivial rfl (by omega) k b nn D0 _ hk hc hown
  have h1 : Maps.size D0 ≤ maxLen := Nat.le_trans hmax (by decide)
  have cS := AnyZI.sorted_in Try.sortedA Fence.wide 5 trivial trivial trivial trivial rfl (by omega) (sortsA _) (enters_of Try.func30 (by kernel_rfl) rfl) 31 #[.pointer (some ⟨k, 0, none⟩)] trivial (enters_of Try.func31 (by kernel_rfl) rfl) _ _ h1 (by omega) _ hseq
  exact (callsIn_wide (n := 5)).1 cS
end Go.Proofs.Ytdifkcbiifhkeaa.P
