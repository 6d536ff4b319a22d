/-
  slices.BinarySearch at ints, out of the shelf's contract.
-/
import Derived.Test.YtelbpnlpmaihhaaOwnRow
import Derived.Test.YtelbpnlpmaihhaaShelf
namespace Go.Proofs.Ytelbpnlpmaihhaa
set_option linter.unusedVariables false
set_option linter.unusedSimpArgs false
open Go.RowKit

theorem search_c {w0 w : World} {H : List Hp} (hS : St w0 w H) (i : Nat) {ao : Option Addr} {n cap : Nat} {zs : List Int} (x : Int) (hi : H[i]? = some (.row 3 1 ao n cap (zs.map (Value.int .i64)))) (hl : n < 4611686018427387904) (hs : zs.Pairwise (· ≤ ·)) :
    Calls Try.prog 75 #[.slice ao n cap, .int .i64 x] w fun e w' => e = .returned (.tuple #[.int .i64 (zs.countP (· < x) : Nat), .bool (zs.contains x)]) ∧ St w0 w' H := by
  have hn := row_ints (hS.at_ i hi)
  rcases row_head (hS.at_ i hi) with ⟨rfl, rfl, rfl⟩ | ⟨⟨g, rfl⟩, _⟩
  · obtain rfl := List.length_eq_zero_iff.1 hn
    refine (Try.slices_BinarySearch_int_empty none 0 x w).mono ?_
    rintro e w' ⟨rfl, rfl⟩
    exact ⟨rfl, hS⟩
  · refine (Try.slices_BinarySearch_int g 0 n cap zs x w (by omega) hl (row_int_cell (hS.at_ i hi)) (by rw [List.take_of_length_le (by omega)]; exact hs)).mono ?_
    rintro e w' ⟨rfl, q, rfl⟩
    rw [List.take_of_length_le (by omega)]
    exact ⟨rfl, hS.drewN q⟩
end Go.Proofs.Ytelbpnlpmaihhaa
