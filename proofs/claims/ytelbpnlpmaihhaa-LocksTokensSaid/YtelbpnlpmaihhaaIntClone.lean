/-
  slices.Clone at ints.
-/
import Derived.Test.YtelbpnlpmaihhaaOwnRow
import Derived.Test.YtelbpnlpmaihhaaShelf
namespace Go.Proofs.Ytelbpnlpmaihhaa
set_option linter.unusedVariables false
set_option linter.unusedSimpArgs false
open Go.RowKit
theorem clone_c {w0 w : World} {H : List Hp} (hS : St w0 w H) (i : Nat) {ao : Option Addr} {n cap : Nat} {zs : List Int} (hi : H[i]? = some (.row 3 1 ao n cap (zs.map (Value.int .i64)))) (hl : n * 8 ≤ 140737488355328) :
    Calls Try.prog 35 #[.slice ao n cap] w fun e w' => ∃ ao' cap', e = .returned (.slice ao' n cap') ∧ St w0 w' (.row 3 1 ao' n cap' (zs.map (Value.int .i64)) :: H) := by
  have hn := row_ints (hS.at_ i hi)
  rcases row_head (hS.at_ i hi) with ⟨rfl, rfl, rfl⟩ | ⟨⟨g, rfl⟩, _⟩
  · obtain rfl := List.length_eq_zero_iff.1 hn
    refine (Try.slices_Clone_int_nil 0 0 w).mono ?_
    rintro e w' ⟨rfl, rfl⟩
    exact ⟨none, 0, rfl, hS.nilRow 3 1⟩
  · refine (Try.slices_Clone_int g 0 n cap zs w (by omega) hl (row_int_cell (hS.at_ i hi))).mono ?_
    rintro e w' ⟨v, rfl, hrow, _, hb⟩
    rw [List.take_of_length_le (by omega)] at hrow
    obtain ⟨ao', cap', rfl, h⟩ := hS.newRow hrow hb
    exact ⟨ao', cap', rfl, h⟩
end Go.Proofs.Ytelbpnlpmaihhaa
