/-
  slices.Compact at ints.
-/
import Derived.Sort.OwnSortedInts
import Derived.Test.YtcihgcdakooacaaOwnRow
import Derived.Test.YtcihgcdakooacaaShelf
namespace Go.Proofs.Ytcihgcdakooacaa
set_option linter.unusedVariables false
set_option linter.unusedSimpArgs false
open Go.RowKit Go.Sort
theorem compact_le (zs : List Int) : (Lib.compact zs).length ≤ zs.length := by
  first | exact Lib.compact_length_le zs | exact Lib.length_compact_le zs
theorem compact_c {w0 w : World} {H : List Hp} (hS : St w0 w H) (i : Nat) {ao : Option Addr} {n cap : Nat} {zs : List Int} (hi : H[i]? = some (.row 3 1 ao n cap (zs.map (Value.int .i64)))) (hl : n ≤ 9223372036854775807) :
    Calls Try.prog 23 #[.slice ao n cap] w fun e w' => e = .returned (.slice ao (Lib.compact zs).length cap) ∧ St w0 w' (H.set i (.row 3 1 ao (Lib.compact zs).length cap ((Lib.compact zs).map (Value.int .i64)))) := by
  have hn := row_ints (hS.at_ i hi)
  subst hn
  rcases row_cases (hS.at_ i hi) with ⟨rfl, h0, rfl, _⟩ | ⟨g, cur, rfl, hg, h1, h2, h3, h4⟩
  · obtain rfl := List.length_eq_zero_iff.1 h0
    refine (Try.slices_Compact_int_empty none 0 w).mono ?_
    rintro e w' ⟨rfl, rfl⟩
    refine ⟨rfl, ?_⟩
    obtain ⟨hlt, e⟩ := List.getElem?_eq_some_iff.1 hi
    have : Lib.compact ([] : List Int) = [] := rfl
    rw [this, ← e, List.set_getElem_self]
    exact hS
  · have h4' : cur.toList.take zs.length = zs.map (Value.int .i64) := by simpa using h4
    refine (Try.slices_Compact_int g 0 cap zs w (holds_of_blockI hg h4') hl h1).mono ?_
    rintro e w' ⟨rfl, q, rfl⟩
    have hc := compact_le zs
    have hg' : w.grownBy (grow (putRow (Value.int .i64) (Sort.ahead w q) g 0 (Lib.compact zs ++ List.replicate (zs.length - (Lib.compact zs).length) 0).toArray) #[]) (some g) := grownBy_sortedI _
    rw [grow_empty] at hg'
    refine ⟨rfl, hS.setAt i hi (Turn.of_grown hg') (by simp [Hp.fp]) (fun b hb => .inl hb) ?_⟩
    have hlen : (Lib.compact zs ++ List.replicate (zs.length - (Lib.compact zs).length) 0).length = zs.length := by simp; omega
    have hrow := ownsRow_sortedI (n := q) (os := #[]) (ss := zs) (ts := Lib.compact zs ++ List.replicate (zs.length - (Lib.compact zs).length) 0) hlen (Nat.zero_le g) hg h1 h2 h3
    rw [grow_empty] at hrow
    have := row_short (k := (Lib.compact zs).length) hrow hc
    simpa using this
end Go.Proofs.Ytcihgcdakooacaa
