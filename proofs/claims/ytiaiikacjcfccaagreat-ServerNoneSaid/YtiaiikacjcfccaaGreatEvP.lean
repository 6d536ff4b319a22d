/-
  What the evaluator is told at this program: slices.Sorted of maps.Keys.
-/
import Derived.Test.YtiaiikacjcfccaaGreatEvK
import Derived.Test.YtiaiikacjcfccaaGreatIterI
import Derived.Test.YtiaiikacjcfccaaGreatIter
import Derived.Test.YtiaiikacjcfccaaGreatProg
namespace Go.Proofs.YtiaiikacjcfccaaGreat
set_option linter.unusedVariables false
open Go.Shelf Go.RowKit Go.Maps Go.Sort
set_option maxHeartbeats 1000000 in
theorem Tryz.ibox_214_215 : BoxI Tryz.prog 214 312 3 3 := ⟨Tryz.underlying3, fun bx b nn D0 rdr w hbx hm hown hmax hbytes => by
  have hseq : SeqGives Fence.wide 2 Tryz.prog 312 #[.pointer (some ⟨bx, 0, none⟩)] encZ (fun ss => ss.Perm (intKeys D0)) (Maps.size D0) w :=
    AnyZI.keys_gives (ρ := Tryz.ikeys215_ren) { Tryz.ikeys215 with } Fence.wide _ trivial rfl (by omega) bx b nn D0 w hbx hm hown
  exact AnyZI.sorted_in Tryz.isorted214 Fence.wide 5 trivial trivial trivial trivial rfl (by omega) (Tryz.isorts214 _) (enters_of Tryz.func110 (by kernel_rfl) rfl) 312 #[.pointer (some ⟨bx, 0, none⟩)] trivial (enters_of Tryz.func312 (by kernel_rfl) rfl) _ _ hmax hbytes _ hseq⟩

set_option maxHeartbeats 1000000 in
theorem Tryz.ibox_214_238 : BoxI Tryz.prog 214 326 3 3 := ⟨Tryz.underlying3, fun bx b nn D0 rdr w hbx hm hown hmax hbytes => by
  have hseq : SeqGives Fence.wide 2 Tryz.prog 326 #[.pointer (some ⟨bx, 0, none⟩)] encZ (fun ss => ss.Perm (intKeys D0)) (Maps.size D0) w :=
    AnyZI.keys_gives (ρ := Tryz.ikeys238_ren) { Tryz.ikeys238 with } Fence.wide _ trivial rfl (by omega) bx b nn D0 w hbx hm hown
  exact AnyZI.sorted_in Tryz.isorted214 Fence.wide 5 trivial trivial trivial trivial rfl (by omega) (Tryz.isorts214 _) (enters_of Tryz.func110 (by kernel_rfl) rfl) 326 #[.pointer (some ⟨bx, 0, none⟩)] trivial (enters_of Tryz.func326 (by kernel_rfl) rfl) _ _ hmax hbytes _ hseq⟩

set_option maxHeartbeats 1000000 in
theorem Tryz.box_276_277 : BoxS Tryz.prog 276 353 9 9 := ⟨Tryz.underlying9, fun bx b nn D0 rdr w hbx hm hown hmax hbytes => by
  have hseq : SeqGives Fence.wide 2 Tryz.prog 353 #[.pointer (some ⟨bx, 0, none⟩)] encStr (fun ss => ss.Perm (strKeys D0)) (Maps.size D0) w :=
    AnyZ.keys_gives (ρ := Tryz.keys277_ren) { Tryz.keys277 with } Fence.wide _ trivial rfl (by omega) bx b nn D0 w hbx hm hown
  exact AnyZ.sorted_in Tryz.sorted276 Fence.wide 5 trivial trivial trivial trivial rfl (by omega) (Tryz.sorts276 _) (enters_of Tryz.func352 (by kernel_rfl) rfl) 353 #[.pointer (some ⟨bx, 0, none⟩)] trivial (enters_of Tryz.func353 (by kernel_rfl) rfl) _ _ hmax hbytes _ hseq⟩

set_option maxHeartbeats 1000000 in
theorem Tryz.box_276_279 : BoxS Tryz.prog 276 354 9 9 := ⟨Tryz.underlying9, fun bx b nn D0 rdr w hbx hm hown hmax hbytes => by
  have hseq : SeqGives Fence.wide 2 Tryz.prog 354 #[.pointer (some ⟨bx, 0, none⟩)] encStr (fun ss => ss.Perm (strKeys D0)) (Maps.size D0) w :=
    AnyZ.keys_gives (ρ := Tryz.keys279_ren) { Tryz.keys279 with } Fence.wide _ trivial rfl (by omega) bx b nn D0 w hbx hm hown
  exact AnyZ.sorted_in Tryz.sorted276 Fence.wide 5 trivial trivial trivial trivial rfl (by omega) (Tryz.sorts276 _) (enters_of Tryz.func352 (by kernel_rfl) rfl) 354 #[.pointer (some ⟨bx, 0, none⟩)] trivial (enters_of Tryz.func354 (by kernel_rfl) rfl) _ _ hmax hbytes _ hseq⟩

def prims : CallF := primSK [(214, 312, 3), (214, 326, 3)] [(276, 353, 9), (276, 354, 9)]
theorem prims_ok (w0 : World) : SF Tryz.prog w0 prims := primSK_sound (fun x hx => by
    simp only [List.mem_cons, List.not_mem_nil, or_false] at hx
    rcases hx with rfl | rfl
    · exact ⟨_, Tryz.ibox_214_215⟩
    · exact ⟨_, Tryz.ibox_214_238⟩
    ) (fun x hx => by
    simp only [List.mem_cons, List.not_mem_nil, or_false] at hx
    rcases hx with rfl | rfl
    · exact ⟨_, Tryz.box_276_277⟩
    · exact ⟨_, Tryz.box_276_279⟩
    )
end Go.Proofs.YtiaiikacjcfccaaGreat
