/-
  slices.Contains at ints.
-/
import Derived.Test.YtelbpnlpmaihhaaOwnRow
import Derived.Test.YtelbpnlpmaihhaaShelf
namespace Go.Proofs.Ytelbpnlpmaihhaa
set_option linter.unusedVariables false
set_option linter.unusedSimpArgs false
open Go.RowKit
theorem contains_c {w0 w : World} {H : List Hp} (hS : St w0 w H) (i : Nat) {ao : Option Addr} {n cap : Nat} {zs : List Int} (x : Int) (hi : H[i]? = some (.row 3 1 ao n cap (zs.map (Value.int .i64)))) (hl : n ≤ 9223372036854775807) :
    Calls Try.prog 37 #[.slice ao n cap, .int .i64 x] w fun e w' => e = .returned (.bool (zs.contains x)) ∧ w = w' := by
  have hn := row_ints (hS.at_ i hi)
  rcases row_head (hS.at_ i hi) with ⟨rfl, rfl, rfl⟩ | ⟨⟨g, rfl⟩, _⟩
  · obtain rfl := List.length_eq_zero_iff.1 hn
    refine (Try.slices_Contains_int_empty none 0 x w).mono ?_
    rintro e w' ⟨rfl, rfl⟩
    exact ⟨rfl, rfl⟩
  · refine (Try.slices_Contains_int g 0 n cap zs x w (by omega) hl (row_int_cell (hS.at_ i hi))).mono ?_
    rintro e w' ⟨rfl, rfl⟩
    rw [List.take_of_length_le (by omega)]
    exact ⟨rfl, rfl⟩
theorem contains_nil (x : Int) (w : World) : Calls Try.prog 37 #[.slice none 0 0, .int .i64 x] w fun e w' => e = .returned (.bool false) ∧ w = w' := by
  refine (Try.slices_Contains_int_empty none 0 x w).mono ?_
  rintro e w' ⟨rfl, rfl⟩
  exact ⟨rfl, rfl⟩
end Go.Proofs.Ytelbpnlpmaihhaa
