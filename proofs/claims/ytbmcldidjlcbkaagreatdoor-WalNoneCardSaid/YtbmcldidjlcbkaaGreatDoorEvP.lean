/-
  What the evaluator is told at this program: slices.Sorted of maps.Keys.
-/
import Derived.Test.YtbmcldidjlcbkaaGreatDoorEvK
import Derived.Test.YtbmcldidjlcbkaaGreatDoorIter
import Derived.Test.YtbmcldidjlcbkaaGreatDoorProg
namespace Go.Proofs.YtbmcldidjlcbkaaGreatDoor
set_option linter.unusedVariables false
open Go.Shelf Go.RowKit Go.Maps Go.Sort
set_option maxHeartbeats 1000000 in
theorem Tryz.box_61_62 : BoxS Tryz.prog 61 86 9 9 := ⟨Tryz.underlying9, fun bx b nn D0 rdr w hbx hm hown hmax hbytes => by
  have hseq : SeqGives Fence.wide 2 Tryz.prog 86 #[.pointer (some ⟨bx, 0, none⟩)] encStr (fun ss => ss.Perm (strKeys D0)) (Maps.size D0) w :=
    AnyZ.keys_gives (ρ := Tryz.keys62_ren) { Tryz.keys62 with } Fence.wide _ trivial rfl (by omega) bx b nn D0 w hbx hm hown
  exact AnyZ.sorted_in Tryz.sorted61 Fence.wide 5 trivial trivial trivial trivial rfl (by omega) (Tryz.sorts61 _) (enters_of Tryz.func85 (by kernel_rfl) rfl) 86 #[.pointer (some ⟨bx, 0, none⟩)] trivial (enters_of Tryz.func86 (by kernel_rfl) rfl) _ _ hmax hbytes _ hseq⟩

def prims : CallF := primSK [] [(61, 86, 9)]
theorem prims_ok (w0 : World) : SF Tryz.prog w0 prims := primSK_sound (fun x hx => by cases hx) (fun x hx => by
    simp only [List.mem_cons, List.not_mem_nil, or_false] at hx
    rcases hx with rfl
    · exact ⟨_, Tryz.box_61_62⟩
    )
end Go.Proofs.YtbmcldidjlcbkaaGreatDoor
