/-
  TableNone, whatever its arguments: its body, run by the evaluator.
-/
import Derived.Test.YtbikpbbijpmnlaaGreatEvP
import Derived.Test.YtbikpbbijpmnlaaGreatEvN
namespace Go.Proofs.YtbikpbbijpmnlaaGreat
open Go.RowKit
set_option maxRecDepth 1000000

theorem says_TableNone (x0_0 x0_1 x0_2 x0_3 x0_4 : Value) : saysTrue prims Tryz.prog 100 1000000 8 [.agg [.cel x0_0, .cel x0_1, .cel x0_2, .cel x0_3, .cel x0_4]] = true := by kernel_rfl

theorem none_TableNone (w : World) (v0 : Value) (h0 : RdV Tryz.prog w 28 v0) : Calls Tryz.prog 8 #[v0] w fun e w' => e = .returned (.bool true) ∧ St w w' [] := by
  obtain ⟨cs0, rfl, l0, o0⟩ := h0.cels (by kernel_rfl)
  have l0_ : cs0.length = 5 := l0.trans (by kernel_rfl)
  obtain ⟨x0_0, r0_0, rfl, l0_0⟩ := cons_of_len l0_
  obtain ⟨x0_1, r0_1, rfl, l0_1⟩ := cons_of_len l0_0
  obtain ⟨x0_2, r0_2, rfl, l0_2⟩ := cons_of_len l0_1
  obtain ⟨x0_3, r0_3, rfl, l0_3⟩ := cons_of_len l0_2
  obtain ⟨x0_4, r0_4, rfl, l0_4⟩ := cons_of_len l0_3
  obtain rfl := List.length_eq_zero_iff.1 l0_4
  exact says_bare (by kernel_rfl) prims_ok (says_TableNone x0_0 x0_1 x0_2 x0_3 x0_4) (RL.cons (R_cels o0) RL.none) w
end Go.Proofs.YtbikpbbijpmnlaaGreat
