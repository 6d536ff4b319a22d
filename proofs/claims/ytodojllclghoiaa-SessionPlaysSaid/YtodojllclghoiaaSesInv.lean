/-
  What plain deeds keep (plain law).
-/
import Derived.Test.YtodojllclghoiaaSesAl
namespace Go.Proofs.Ytodojllclghoiaa
set_option linter.unusedVariables false
set_option linter.unusedSimpArgs false
open Go.RowKit

structure SesI (σ : SesS) : Prop where
  c : σ.c = cOf σ.l
  w : WfL σ.l
  a : (allS σ).length ≤ 256
theorem SesI.new : SesI ⟨[], []⟩ := ⟨rfl, fun k x h => by simp at h, by decide⟩
theorem allS_snoc (l : List OneS) (x : OneS) (c c' : List (Int × (Int × Int))) : (allS ⟨l ++ [x], c⟩).length ≤ (allS ⟨l, c'⟩).length + 1 := by
  unfold allS
  simp only [List.mapIdx_append, List.filter_append, List.map_append, List.length_append, List.length_map]
  have : ((List.mapIdx (fun i x => (i + l.length, x)) [x]).filter fun y => y.2.isOpen).length ≤ 1 := Nat.le_trans (List.length_filter_le _ _) (by simp)
  omega
theorem WfL.snoc {l : List OneS} {x : OneS} (h : WfL l) (hx : x.wf l.length) (hl : ((aget (cOf l) x.client).getD (0, 0)).1 < x.life) : WfL (l ++ [x]) := by
  intro k y hy
  by_cases hk : k < l.length
  · rw [List.getElem?_append_left hk] at hy
    rw [List.take_append_of_le_length (by omega)]
    exact h k y hy
  · have : k = l.length := by
      have := (List.getElem?_eq_some_iff.1 hy).1
      simp at this; omega
    subst this
    rw [List.getElem?_append_right (Nat.le_refl _), Nat.sub_self] at hy
    simp at hy
    subst hy
    rw [List.take_left]
    exact ⟨hx, hl⟩
theorem rep0_ok : rep0.ok := ⟨by unfold I64; decide, by decide, by unfold I64; decide⟩
theorem SesI.open {σ : SesS} (h : SesI σ) (c l : Int) : SesI (openS σ c l).2 := by
  unfold openS
  split
  · exact h
  split
  · exact h
  split
  · exact h
  split
  · exact h
  · rename_i h1 h2 h3 h4
    refine ⟨?_, h.w.snoc ⟨by simp only; omega, by simp only; omega, by simp only; omega, (fun h => by cases h), ⟨by unfold I64; simp only; omega, by unfold I64; simp only; omega, by unfold I64; simp only; omega, rep0_ok⟩⟩ ?_, ?_⟩
    · show aput σ.c c _ = _
      rw [cOf_snoc, h.c]
    · rw [← h.c]
      show (latS σ c).1 < l
      omega
    · have := allS_snoc σ.l ⟨c, l, true, 0, false, rep0⟩ (aput σ.c c (l, (σ.l.length : Int) + 1)) σ.c
      have e : allS ⟨σ.l, σ.c⟩ = allS σ := rfl
      rw [e] at this
      exact Nat.le_trans this (by omega)

theorem cOf_set {l : List OneS} {k : Nat} {x y : OneS} (hx : l[k]? = some x) (h : y.client = x.client ∧ y.life = x.life) : cOf (l.set k y) = cOf l := by
  unfold cOf
  congr 1
  apply List.ext_getElem?
  intro i
  rw [List.getElem?_mapIdx, List.getElem?_mapIdx]
  by_cases hi : k = i
  · subst hi
    rw [List.getElem?_set_self (List.getElem?_eq_some_iff.1 hx).1, hx]
    simp [h.1, h.2]
  · rw [List.getElem?_set_ne hi]
theorem WfL.set {l : List OneS} {k : Nat} {x y : OneS} (hw : WfL l) (hx : l[k]? = some x) (h : y.client = x.client ∧ y.life = x.life) (hy : y.wf k) : WfL (l.set k y) := by
  intro i z hz
  have ht : cOf ((l.set k y).take i) = cOf (l.take i) := by
    by_cases hki : k < i
    · rw [List.take_set]
      exact cOf_set (by rw [List.getElem?_take_of_lt hki]; exact hx) h
    · rw [List.take_set_of_le (by omega)]
  rw [ht]
  by_cases hi : k = i
  · subst hi
    rw [List.getElem?_set_self (List.getElem?_eq_some_iff.1 hx).1] at hz
    cases hz
    rw [h.1, h.2]
    exact ⟨hy, (hw k x hx).2⟩
  · rw [List.getElem?_set_ne hi] at hz
    exact hw i z hz
end Go.Proofs.Ytodojllclghoiaa
