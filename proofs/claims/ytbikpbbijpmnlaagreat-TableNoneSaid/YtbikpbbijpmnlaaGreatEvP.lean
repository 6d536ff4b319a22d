/-
  What the evaluator is told at this program: slices.Sorted of maps.Keys.
-/
import Derived.Test.YtbikpbbijpmnlaaGreatEvK
import Derived.Test.YtbikpbbijpmnlaaGreatIterI
import Derived.Test.YtbikpbbijpmnlaaGreatIter
import Derived.Test.YtbikpbbijpmnlaaGreatProg
namespace Go.Proofs.YtbikpbbijpmnlaaGreat
set_option linter.unusedVariables false
open Go.Shelf Go.RowKit Go.Maps Go.Sort
set_option maxHeartbeats 1000000 in
theorem Tryz.ibox_86_87 : BoxI Tryz.prog 86 152 3 3 := ⟨Tryz.underlying3, fun bx b nn D0 rdr w hbx hm hown hmax hbytes => by
  have hseq : SeqGives Fence.wide 2 Tryz.prog 152 #[.pointer (some ⟨bx, 0, none⟩)] encZ (fun ss => ss.Perm (intKeys D0)) (Maps.size D0) w :=
    AnyZI.keys_gives (ρ := Tryz.ikeys87_ren) { Tryz.ikeys87 with } Fence.wide _ trivial rfl (by omega) bx b nn D0 w hbx hm hown
  exact AnyZI.sorted_in Tryz.isorted86 Fence.wide 5 trivial trivial trivial trivial rfl (by omega) (Tryz.isorts86 _) (enters_of Tryz.func76 (by kernel_rfl) rfl) 152 #[.pointer (some ⟨bx, 0, none⟩)] trivial (enters_of Tryz.func152 (by kernel_rfl) rfl) _ _ hmax hbytes _ hseq⟩

set_option maxHeartbeats 1000000 in
theorem Tryz.box_100_101 : BoxS Tryz.prog 100 159 9 9 := ⟨Tryz.underlying9, fun bx b nn D0 rdr w hbx hm hown hmax hbytes => by
  have hseq : SeqGives Fence.wide 2 Tryz.prog 159 #[.pointer (some ⟨bx, 0, none⟩)] encStr (fun ss => ss.Perm (strKeys D0)) (Maps.size D0) w :=
    AnyZ.keys_gives (ρ := Tryz.keys101_ren) { Tryz.keys101 with } Fence.wide _ trivial rfl (by omega) bx b nn D0 w hbx hm hown
  exact AnyZ.sorted_in Tryz.sorted100 Fence.wide 5 trivial trivial trivial trivial rfl (by omega) (Tryz.sorts100 _) (enters_of Tryz.func158 (by kernel_rfl) rfl) 159 #[.pointer (some ⟨bx, 0, none⟩)] trivial (enters_of Tryz.func159 (by kernel_rfl) rfl) _ _ hmax hbytes _ hseq⟩

set_option maxHeartbeats 1000000 in
theorem Tryz.box_100_103 : BoxS Tryz.prog 100 160 9 9 := ⟨Tryz.underlying9, fun bx b nn D0 rdr w hbx hm hown hmax hbytes => by
  have hseq : SeqGives Fence.wide 2 Tryz.prog 160 #[.pointer (some ⟨bx, 0, none⟩)] encStr (fun ss => ss.Perm (strKeys D0)) (Maps.size D0) w :=
    AnyZ.keys_gives (ρ := Tryz.keys103_ren) { Tryz.keys103 with } Fence.wide _ trivial rfl (by omega) bx b nn D0 w hbx hm hown
  exact AnyZ.sorted_in Tryz.sorted100 Fence.wide 5 trivial trivial trivial trivial rfl (by omega) (Tryz.sorts100 _) (enters_of Tryz.func158 (by kernel_rfl) rfl) 160 #[.pointer (some ⟨bx, 0, none⟩)] trivial (enters_of Tryz.func160 (by kernel_rfl) rfl) _ _ hmax hbytes _ hseq⟩

def prims : CallF := primSK [(86, 152, 3)] [(100, 159, 9), (100, 160, 9)]
theorem prims_ok (w0 : World) : SF Tryz.prog w0 prims := primSK_sound (fun x hx => by
    simp only [List.mem_cons, List.not_mem_nil, or_false] at hx
    rcases hx with rfl
    · exact ⟨_, Tryz.ibox_86_87⟩
    ) (fun x hx => by
    simp only [List.mem_cons, List.not_mem_nil, or_false] at hx
    rcases hx with rfl | rfl
    · exact ⟨_, Tryz.box_100_101⟩
    · exact ⟨_, Tryz.box_100_103⟩
    )
end Go.Proofs.YtbikpbbijpmnlaaGreat
