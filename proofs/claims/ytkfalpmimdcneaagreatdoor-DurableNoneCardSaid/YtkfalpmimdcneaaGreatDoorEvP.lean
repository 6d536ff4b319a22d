/-
  What the evaluator is told at this program: slices.Sorted of maps.Keys.
-/
import Derived.Test.YtkfalpmimdcneaaGreatDoorEvK
import Derived.Test.YtkfalpmimdcneaaGreatDoorIter
import Derived.Test.YtkfalpmimdcneaaGreatDoorProg
namespace Go.Proofs.YtkfalpmimdcneaaGreatDoor
set_option linter.unusedVariables false
open Go.Shelf Go.RowKit Go.Maps Go.Sort
set_option maxHeartbeats 1000000 in
theorem Tryz.box_79_80 : BoxS Tryz.prog 79 113 9 9 := ⟨Tryz.underlying9, fun bx b nn D0 rdr w hbx hm hown hmax hbytes => by
  have hseq : SeqGives Fence.wide 2 Tryz.prog 113 #[.pointer (some ⟨bx, 0, none⟩)] encStr (fun ss => ss.Perm (strKeys D0)) (Maps.size D0) w :=
    AnyZ.keys_gives (ρ := Tryz.keys80_ren) { Tryz.keys80 with } Fence.wide _ trivial rfl (by omega) bx b nn D0 w hbx hm hown
  exact AnyZ.sorted_in Tryz.sorted79 Fence.wide 5 trivial trivial trivial trivial rfl (by omega) (Tryz.sorts79 _) (enters_of Tryz.func112 (by kernel_rfl) rfl) 113 #[.pointer (some ⟨bx, 0, none⟩)] trivial (enters_of Tryz.func113 (by kernel_rfl) rfl) _ _ hmax hbytes _ hseq⟩

def prims : CallF := primSK [] [(79, 113, 9)]
theorem prims_ok (w0 : World) : SF Tryz.prog w0 prims := primSK_sound (fun x hx => by cases hx) (fun x hx => by
    simp only [List.mem_cons, List.not_mem_nil, or_false] at hx
    rcases hx with rfl
    · exact ⟨_, Tryz.box_79_80⟩
    )
end Go.Proofs.YtkfalpmimdcneaaGreatDoor
