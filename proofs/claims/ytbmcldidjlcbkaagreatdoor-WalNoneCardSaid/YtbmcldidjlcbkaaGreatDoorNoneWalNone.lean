/-
  WalNone, whatever its arguments: its body, run by the evaluator.
-/
import Derived.Test.YtbmcldidjlcbkaaGreatDoorEvP
import Derived.Test.YtbmcldidjlcbkaaGreatDoorEvN
namespace Go.Proofs.YtbmcldidjlcbkaaGreatDoor
open Go.RowKit
set_option maxRecDepth 1000000

theorem says_WalNone : saysTrueN prims Tryz.prog 100 1000000 6 1 [.arg 0] = true := by kernel_rfl

theorem none_WalNone (w : World) (v0 : Value) (h0 : RdV Tryz.prog w 39 v0) : Calls Tryz.prog 6 #[v0] w fun e w' => e = .returned (.bool true) ∧ St w w' [] := by
  exact saysN_calls (by kernel_rfl) prims_ok (xs := [v0]) rfl (says_WalNone) (RL.cons (R_argI rfl (h0.cel (by kernel_rfl)) (h0.cel1 (by kernel_rfl) (by kernel_rfl))) RL.none) w
end Go.Proofs.YtbmcldidjlcbkaaGreatDoor
