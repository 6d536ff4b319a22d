/-
  slices.Sort and slices.BinarySearch at ints, as the disk's Crash asks for them: out of the shelf's contracts.
-/
import Derived.Sort.OwnSortedInts
import Derived.Test.YtbigkonbdnbnpaaDiskCrash
import Derived.Test.YtbigkonbdnbnpaaShelf
namespace Go.Proofs.Ytbigkonbdnbnpaa
set_option linter.unusedVariables false
set_option linter.unusedSimpArgs false
open Go.Sort

theorem sortSaid : SortSaid := by
  intro w0 w ao cap zs R hlen hS
  rcases row_cases (hS.at_ 0 rfl) with ⟨rfl, h0, rfl, _⟩ | ⟨g, cur, rfl, hg, h1, h2, h3, h4⟩
  · have hz : zs = [] := List.length_eq_zero_iff.1 h0
    subst hz
    refine (Try.slices_Sort_int_none none 0 w).mono ?_
    rintro e w' ⟨rfl, rfl⟩
    exact ⟨rfl, [], by simp, rfl, hS⟩
  · have h4' : cur.toList.take zs.length = zs.map (Value.int .i64) := by simpa using h4
    refine (Try.slices_Sort_int g 0 cap zs w (holds_of_blockI hg h4') (Array.getElem?_eq_some_iff.1 hg).1 hlen).mono ?_
    rintro e w' ⟨rfl, n, os, rfl⟩
    refine ⟨rfl, _, rfl, List.length_mergeSort _, ?_⟩
    refine hS.setAt 0 rfl (Turn.of_grown (grownBy_sortedI _)) (by simp [Hp.fp]) (fun b hb => .inl hb) ?_
    have := ownsRow_sortedI (n := n) (os := os) (ss := zs) (ts := zs.mergeSort fun x y => decide (x ≤ y)) (List.length_mergeSort _) (Nat.zero_le g) hg h1 h2 h3
    exact this

theorem searchSaid : SearchSaid := by
  intro w0 w ao cap zs x H hlen hs hS ⟨i, hi⟩
  rcases row_cases (hS.at_ i hi) with ⟨rfl, h0, rfl, _⟩ | ⟨g, cur, rfl, hg, h1, h2, h3, h4⟩
  · have hz : zs = [] := List.length_eq_zero_iff.1 h0
    subst hz
    refine (Try.slices_BinarySearch_int_empty none 0 x w).mono ?_
    rintro e w' ⟨rfl, rfl⟩
    exact ⟨rfl, hS⟩
  · have hc : ∀ j, j < zs.length → w.cell? ⟨g, 0 + j, none⟩ = some (.int .i64 (zs.getD j 0)) := by
      intro j hj
      rw [Nat.zero_add]
      exact row_cell (hS.at_ i hi) j (by simp [List.getD, List.getElem?_eq_getElem hj])
    refine (Try.slices_BinarySearch_int g 0 zs.length cap zs x w (Nat.le_refl _) hlen hc (by simpa using hs)).mono ?_
    rintro e w' ⟨rfl, q, rfl⟩
    exact ⟨by simp, hS.drewN q⟩

end Go.Proofs.Ytbigkonbdnbnpaa
