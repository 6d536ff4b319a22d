/-
  What the evaluator is told at this program: slices.Sorted of maps.Keys.
-/
import Derived.Test.YtnloocmdjlfbpaaGreatEvK
import Derived.Test.YtnloocmdjlfbpaaGreatIterI
import Derived.Test.YtnloocmdjlfbpaaGreatProg
namespace Go.Proofs.YtnloocmdjlfbpaaGreat
set_option linter.unusedVariables false
open Go.Shelf Go.RowKit Go.Maps Go.Sort
set_option maxHeartbeats 1000000 in
theorem Tryz.ibox_92_93 : BoxI Tryz.prog 92 120 3 3 := ⟨Tryz.underlying3, fun bx b nn D0 rdr w hbx hm hown hmax hbytes => by
  have hseq : SeqGives Fence.wide 2 Tryz.prog 120 #[.pointer (some ⟨bx, 0, none⟩)] encZ (fun ss => ss.Perm (intKeys D0)) (Maps.size D0) w :=
    AnyZI.keys_gives (ρ := Tryz.ikeys93_ren) { Tryz.ikeys93 with } Fence.wide _ trivial rfl (by omega) bx b nn D0 w hbx hm hown
  exact AnyZI.sorted_in Tryz.isorted92 Fence.wide 5 trivial trivial trivial trivial rfl (by omega) (Tryz.isorts92 _) (enters_of Tryz.func119 (by kernel_rfl) rfl) 120 #[.pointer (some ⟨bx, 0, none⟩)] trivial (enters_of Tryz.func120 (by kernel_rfl) rfl) _ _ hmax hbytes _ hseq⟩

def prims : CallF := primSK [(92, 120, 3)] []
theorem prims_ok (w0 : World) : SF Tryz.prog w0 prims := primSK_sound (fun x hx => by
    simp only [List.mem_cons, List.not_mem_nil, or_false] at hx
    rcases hx with rfl
    · exact ⟨_, Tryz.ibox_92_93⟩
    ) (fun x hx => by cases hx)
end Go.Proofs.YtnloocmdjlfbpaaGreat
