/-
  DurableNone, whatever its arguments: its body, run by the evaluator.
-/
import Derived.Test.YtkfalpmimdcneaaGreatDoorEvP
import Derived.Test.YtkfalpmimdcneaaGreatDoorEvN
namespace Go.Proofs.YtkfalpmimdcneaaGreatDoor
open Go.RowKit
set_option maxRecDepth 1000000

theorem says_DurableNone : saysTrueG prims Tryz.prog 100 1000000 6 7 [(0, .ifc 231 (.opq 5)), (1, .ifc 231 (.opq 6))] [.arg 0, .agg [.arg 1, .arg 2, .arg 3, .arg 4]] = true := by kernel_rfl

theorem none_DurableNone (w : World) (v0 : Value) (h0 : RdV Tryz.prog w 25 v0) (v1 : Value) (h1 : RdV Tryz.prog w 24 v1) (p0 : Addr) (g0 : w.cell? ⟨0, 0, none⟩ = some (.iface 231 (.pointer (some p0)))) (p1 : Addr) (g1 : w.cell? ⟨1, 0, none⟩ = some (.iface 231 (.pointer (some p1))))  : Calls Tryz.prog 6 #[v0, v1] w fun e w' => e = .returned (.bool true) ∧ St w w' [] := by
  obtain ⟨cs1, rfl, l1, o1⟩ := h1.cells1 (by kernel_rfl)
  have l1_ : cs1.length = 4 := l1.trans (by kernel_rfl)
  obtain ⟨x1_0, r1_0, rfl, l1_0⟩ := cons_of_len l1_
  obtain ⟨x1_1, r1_1, rfl, l1_1⟩ := cons_of_len l1_0
  obtain ⟨x1_2, r1_2, rfl, l1_2⟩ := cons_of_len l1_1
  obtain ⟨x1_3, r1_3, rfl, l1_3⟩ := cons_of_len l1_2
  obtain rfl := List.length_eq_zero_iff.1 l1_3
  exact saysG_calls (by kernel_rfl) prims_ok (xs := [v0, x1_0, x1_1, x1_2, x1_3, Value.pointer (some p0), Value.pointer (some p1)]) rfl (says_DurableNone) (RL.cons (R_argI rfl (h0.cel (by kernel_rfl)) (h0.cel1 (by kernel_rfl) (by kernel_rfl))) (RL.cons (R_aggI (RL.cons (R_argI rfl (o1 0 _ rfl).1 ((o1 0 _ rfl).2.1 (by kernel_rfl))) (RL.cons (R_argI rfl (o1 1 _ rfl).1 ((o1 1 _ rfl).2.1 (by kernel_rfl))) (RL.cons (R_argI rfl (o1 2 _ rfl).1 ((o1 2 _ rfl).2.1 (by kernel_rfl))) (RL.cons (R_argI rfl (o1 3 _ rfl).1 ((o1 3 _ rfl).2.1 (by kernel_rfl))) RL.none))))) RL.none)) w (fun p hp => by
    simp only [List.mem_cons, List.not_mem_nil, or_false] at hp
    rcases hp with rfl | rfl
    · exact ⟨_, g0, R_sent rfl⟩
    · exact ⟨_, g1, R_sent rfl⟩
    )
end Go.Proofs.YtkfalpmimdcneaaGreatDoor
