/-
  slices.Sort at ints.
-/
import Derived.Sort.OwnSortedInts
import Derived.Test.YtodojllclghoiaaOwnRow
import Derived.Test.YtodojllclghoiaaShelf
namespace Go.Proofs.Ytodojllclghoiaa
set_option linter.unusedVariables false
set_option linter.unusedSimpArgs false
open Go.RowKit Go.Sort
def sortI (zs : List Int) : List Int := zs.mergeSort fun x y => decide (x ≤ y)
theorem sortI_length (zs : List Int) : (sortI zs).length = zs.length := List.length_mergeSort _
theorem sort_c {w0 w : World} {H : List Hp} (hS : St w0 w H) (i : Nat) {ao : Option Addr} {n cap : Nat} {zs : List Int} (hi : H[i]? = some (.row 3 1 ao n cap (zs.map (Value.int .i64)))) (hl : n < 4611686018427387904) :
    Calls Try.prog 40 #[.slice ao n cap] w fun e w' => e = .returned (.tuple #[]) ∧ St w0 w' (H.set i (.row 3 1 ao n cap ((sortI zs).map (Value.int .i64)))) := by
  have hn := row_ints (hS.at_ i hi)
  subst hn
  rcases row_cases (hS.at_ i hi) with ⟨rfl, h0, rfl, _⟩ | ⟨g, cur, rfl, hg, h1, h2, h3, h4⟩
  · obtain rfl := List.length_eq_zero_iff.1 h0
    refine (Try.slices_Sort_int_none none 0 w).mono ?_
    rintro e w' ⟨rfl, rfl⟩
    refine ⟨rfl, ?_⟩
    obtain ⟨hlt, e⟩ := List.getElem?_eq_some_iff.1 hi
    have : sortI [] = [] := by simp [sortI]
    rw [this, ← e, List.set_getElem_self]
    exact hS
  · have h4' : cur.toList.take zs.length = zs.map (Value.int .i64) := by simpa using h4
    refine (Try.slices_Sort_int g 0 cap zs w (holds_of_blockI hg h4') (Array.getElem?_eq_some_iff.1 hg).1 hl).mono ?_
    rintro e w' ⟨rfl, n, os, rfl⟩
    refine ⟨rfl, hS.setAt i hi (Turn.of_grown (grownBy_sortedI _)) (by simp [Hp.fp]) (fun b hb => .inl hb) ?_⟩
    exact ownsRow_sortedI (n := n) (os := os) (ss := zs) (ts := sortI zs) (sortI_length zs) (Nat.zero_le g) hg h1 h2 h3
end Go.Proofs.Ytodojllclghoiaa
