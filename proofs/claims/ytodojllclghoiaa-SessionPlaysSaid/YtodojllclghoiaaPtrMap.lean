/-
  Lists of things that each own heaplets: one taken out, changed, put back, added, struck.
-/
import Derived.Test.YtodojllclghoiaaAssoc
namespace Go.Proofs.Ytodojllclghoiaa
set_option linter.unusedVariables false
set_option linter.unusedSimpArgs false

section
variable {γ β : Type} {f : γ → List Hp}

theorem swapL (A B C : List Hp) : (A ++ (B ++ C)).Perm (B ++ (A ++ C)) := by
  rw [← List.append_assoc, ← List.append_assoc]; exact List.perm_append_comm.append_right C

theorem flat_out {Z : List γ} {i : Nat} {z : γ} (h : Z[i]? = some z) : (Z.flatMap f).Perm (f z ++ (Z.eraseIdx i).flatMap f) := by
  have := (perm_front Z i z h).symm.flatMap_right f
  simpa [List.flatMap_cons] using this

theorem flat_in {Z : List γ} {i : Nat} {z z' : γ} (h : Z[i]? = some z) : (f z' ++ (Z.eraseIdx i).flatMap f).Perm ((Z.set i z').flatMap f) := by
  have := (perm_set Z i z z' h).flatMap_right f
  simpa [List.flatMap_cons] using this

theorem map_set_same {g : γ → β} {Z : List γ} {i : Nat} {z z' : γ} (h : Z[i]? = some z) (hg : g z' = g z) : (Z.set i z').map g = Z.map g := by
  apply List.ext_getElem?
  intro j
  rw [List.getElem?_map, List.getElem?_map]
  by_cases hj : i = j
  · subst hj
    rw [List.getElem?_set_self (List.getElem?_eq_some_iff.1 h).1, h]
    simp [hg]
  · rw [List.getElem?_set_ne hj]

/-- One out of the others: it comes to the front. -/
theorem St.takeOut {w0 w : World} {A R : List Hp} {Z : List γ} {i : Nat} {z : γ} (h : Z[i]? = some z) (hS : St w0 w (A ++ (Z.flatMap f ++ R))) : St w0 w (A ++ (f z ++ ((Z.eraseIdx i).flatMap f ++ R))) :=
  hS.perm (.append_left A (((flat_out h).append_right R).trans (by rw [List.append_assoc])))

theorem St.putIn {w0 w : World} {A R : List Hp} {Z : List γ} {i : Nat} {z z' : γ} (h : Z[i]? = some z) (hS : St w0 w (A ++ (f z' ++ ((Z.eraseIdx i).flatMap f ++ R)))) : St w0 w (A ++ ((Z.set i z').flatMap f ++ R)) :=
  hS.perm (.append_left A (.trans (by rw [← List.append_assoc]) ((flat_in h).append_right R)))

theorem St.addOne {w0 w : World} {A R : List Hp} {Z : List γ} {z : γ} (hS : St w0 w (A ++ (f z ++ (Z.flatMap f ++ R)))) : St w0 w (A ++ ((Z ++ [z]).flatMap f ++ R)) := by
  refine hS.perm (.append_left A ?_)
  rw [List.flatMap_append, List.flatMap_cons, List.flatMap_nil, List.append_nil, List.append_assoc]
  exact swapL _ _ _
end
end Go.Proofs.Ytodojllclghoiaa
