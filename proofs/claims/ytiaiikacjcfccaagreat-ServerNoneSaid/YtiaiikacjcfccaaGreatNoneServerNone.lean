/-
  ServerNone, whatever its arguments: its body, run by the evaluator.
-/
import Derived.Test.YtiaiikacjcfccaaGreatEvP
import Derived.Test.YtiaiikacjcfccaaGreatEvN
namespace Go.Proofs.YtiaiikacjcfccaaGreat
open Go.RowKit
set_option maxRecDepth 1000000

theorem says_ServerNone_true : saysTrueN prims Tryz.prog 100 1000000 7 22 [.agg [.lit (.bool true), .arg 1, .arg 2, .arg 3, .arg 4, .arg 5, .arg 6, .arg 7, .arg 8, .arg 9, .arg 10, .arg 11, .arg 12, .arg 13, .arg 14, .arg 15, .arg 16, .arg 17, .arg 18, .arg 19, .arg 20, .arg 21]] = true := by kernel_rfl

theorem says_ServerNone_false : saysTrueN prims Tryz.prog 100 1000000 7 22 [.agg [.lit (.bool false), .arg 1, .arg 2, .arg 3, .arg 4, .arg 5, .arg 6, .arg 7, .arg 8, .arg 9, .arg 10, .arg 11, .arg 12, .arg 13, .arg 14, .arg 15, .arg 16, .arg 17, .arg 18, .arg 19, .arg 20, .arg 21]] = true := by kernel_rfl

theorem says_ServerNone : ∀ (b0_0 : Bool), saysTrueN prims Tryz.prog 100 1000000 7 22 [.agg [.lit (.bool b0_0), .arg 1, .arg 2, .arg 3, .arg 4, .arg 5, .arg 6, .arg 7, .arg 8, .arg 9, .arg 10, .arg 11, .arg 12, .arg 13, .arg 14, .arg 15, .arg 16, .arg 17, .arg 18, .arg 19, .arg 20, .arg 21]] = true
  | true => says_ServerNone_true
  | false => says_ServerNone_false

theorem none_ServerNone (w : World) (v0 : Value) (h0 : RdV Tryz.prog w 63 v0) : Calls Tryz.prog 7 #[v0] w fun e w' => e = .returned (.bool true) ∧ St w w' [] := by
  obtain ⟨cs0, rfl, l0, o0⟩ := h0.cells1 (by kernel_rfl)
  have l0_ : cs0.length = 22 := l0.trans (by kernel_rfl)
  obtain ⟨x0_0, r0_0, rfl, l0_0⟩ := cons_of_len l0_
  obtain ⟨x0_1, r0_1, rfl, l0_1⟩ := cons_of_len l0_0
  obtain ⟨x0_2, r0_2, rfl, l0_2⟩ := cons_of_len l0_1
  obtain ⟨x0_3, r0_3, rfl, l0_3⟩ := cons_of_len l0_2
  obtain ⟨x0_4, r0_4, rfl, l0_4⟩ := cons_of_len l0_3
  obtain ⟨x0_5, r0_5, rfl, l0_5⟩ := cons_of_len l0_4
  obtain ⟨x0_6, r0_6, rfl, l0_6⟩ := cons_of_len l0_5
  obtain ⟨x0_7, r0_7, rfl, l0_7⟩ := cons_of_len l0_6
  obtain ⟨x0_8, r0_8, rfl, l0_8⟩ := cons_of_len l0_7
  obtain ⟨x0_9, r0_9, rfl, l0_9⟩ := cons_of_len l0_8
  obtain ⟨x0_10, r0_10, rfl, l0_10⟩ := cons_of_len l0_9
  obtain ⟨x0_11, r0_11, rfl, l0_11⟩ := cons_of_len l0_10
  obtain ⟨x0_12, r0_12, rfl, l0_12⟩ := cons_of_len l0_11
  obtain ⟨x0_13, r0_13, rfl, l0_13⟩ := cons_of_len l0_12
  obtain ⟨x0_14, r0_14, rfl, l0_14⟩ := cons_of_len l0_13
  obtain ⟨x0_15, r0_15, rfl, l0_15⟩ := cons_of_len l0_14
  obtain ⟨x0_16, r0_16, rfl, l0_16⟩ := cons_of_len l0_15
  obtain ⟨x0_17, r0_17, rfl, l0_17⟩ := cons_of_len l0_16
  obtain ⟨x0_18, r0_18, rfl, l0_18⟩ := cons_of_len l0_17
  obtain ⟨x0_19, r0_19, rfl, l0_19⟩ := cons_of_len l0_18
  obtain ⟨x0_20, r0_20, rfl, l0_20⟩ := cons_of_len l0_19
  obtain ⟨x0_21, r0_21, rfl, l0_21⟩ := cons_of_len l0_20
  obtain rfl := List.length_eq_zero_iff.1 l0_21
  obtain ⟨b0_0, rfl⟩ := (o0 0 _ rfl).2.2 (by kernel_rfl)
  exact saysN_calls (by kernel_rfl) prims_ok (xs := [Value.bool b0_0, x0_1, x0_2, x0_3, x0_4, x0_5, x0_6, x0_7, x0_8, x0_9, x0_10, x0_11, x0_12, x0_13, x0_14, x0_15, x0_16, x0_17, x0_18, x0_19, x0_20, x0_21]) rfl (says_ServerNone b0_0) (RL.cons (R_aggI (RL.cons (by rw [R_lit]) (RL.cons (R_argI rfl (o0 1 _ rfl).1 ((o0 1 _ rfl).2.1 (by kernel_rfl))) (RL.cons (R_argI rfl (o0 2 _ rfl).1 ((o0 2 _ rfl).2.1 (by kernel_rfl))) (RL.cons (R_argI rfl (o0 3 _ rfl).1 ((o0 3 _ rfl).2.1 (by kernel_rfl))) (RL.cons (R_argI rfl (o0 4 _ rfl).1 ((o0 4 _ rfl).2.1 (by kernel_rfl))) (RL.cons (R_argI rfl (o0 5 _ rfl).1 ((o0 5 _ rfl).2.1 (by kernel_rfl))) (RL.cons (R_argI rfl (o0 6 _ rfl).1 ((o0 6 _ rfl).2.1 (by kernel_rfl))) (RL.cons (R_argI rfl (o0 7 _ rfl).1 ((o0 7 _ rfl).2.1 (by kernel_rfl))) (RL.cons (R_argI rfl (o0 8 _ rfl).1 ((o0 8 _ rfl).2.1 (by kernel_rfl))) (RL.cons (R_argI rfl (o0 9 _ rfl).1 ((o0 9 _ rfl).2.1 (by kernel_rfl))) (RL.cons (R_argI rfl (o0 10 _ rfl).1 ((o0 10 _ rfl).2.1 (by kernel_rfl))) (RL.cons (R_argI rfl (o0 11 _ rfl).1 ((o0 11 _ rfl).2.1 (by kernel_rfl))) (RL.cons (R_argI rfl (o0 12 _ rfl).1 ((o0 12 _ rfl).2.1 (by kernel_rfl))) (RL.cons (R_argI rfl (o0 13 _ rfl).1 ((o0 13 _ rfl).2.1 (by kernel_rfl))) (RL.cons (R_argI rfl (o0 14 _ rfl).1 ((o0 14 _ rfl).2.1 (by kernel_rfl))) (RL.cons (R_argI rfl (o0 15 _ rfl).1 ((o0 15 _ rfl).2.1 (by kernel_rfl))) (RL.cons (R_argI rfl (o0 16 _ rfl).1 ((o0 16 _ rfl).2.1 (by kernel_rfl))) (RL.cons (R_argI rfl (o0 17 _ rfl).1 ((o0 17 _ rfl).2.1 (by kernel_rfl))) (RL.cons (R_argI rfl (o0 18 _ rfl).1 ((o0 18 _ rfl).2.1 (by kernel_rfl))) (RL.cons (R_argI rfl (o0 19 _ rfl).1 ((o0 19 _ rfl).2.1 (by kernel_rfl))) (RL.cons (R_argI rfl (o0 20 _ rfl).1 ((o0 20 _ rfl).2.1 (by kernel_rfl))) (RL.cons (R_argI rfl (o0 21 _ rfl).1 ((o0 21 _ rfl).2.1 (by kernel_rfl))) RL.none))))))))))))))))))))))) RL.none) w
end Go.Proofs.YtiaiikacjcfccaaGreat
