/-
  A row seen as a block of cells that is known whole, and back; clear, copy at such a block.
-/
import Derived.Test.YtodojllclghoiaaReg
import Derived.Test.YtodojllclghoiaaCells2
import Derived.Test.YtodojllclghoiaaPtrMap
import Derived.Laws.CopyRow
import Derived.Lib.SliceRun
namespace Go.Proofs.Ytodojllclghoiaa
set_option linter.unusedVariables false
set_option linter.unusedSimpArgs false

theorem St.rowCells {w0 w : World} {H : List Hp} (hS : St w0 w H) (i : Nat) {e : TypeId} {size g n cap : Nat} {xs : List Value} (hi : H[i]? = some (.row e size (some ⟨g, 0, none⟩) n cap xs)) :
    ∃ cur : List Value, cur.length = cap * size ∧ cur.take (n * size) = xs ∧ n ≤ cap ∧ cap ≤ maxLen ∧ St w0 w (H.set i (.cells g cur e)) := by
  rcases row_cases (hS.at_ i hi) with ⟨h1, _⟩ | ⟨g', cur, h1, hg, h2, h3, h4, h5⟩
  · cases h1
  · injection h1 with h1; injection h1 with h1; subst h1
    refine ⟨cur.toList, by simpa using h4, h5, h2, h3, hS.setAt i hi (Turn.refl _ _) (by simp [Hp.fp]) (fun b hb => .inl (by simpa [Hp.fp] using hb)) ?_⟩
    exact hg

theorem St.cellsRow {w0 w : World} {H : List Hp} (hS : St w0 w H) (i : Nat) {e : TypeId} {size g n cap : Nat} {cur xs : List Value} (hi : H[i]? = some (.cells g cur e)) (hl : cur.length = cap * size) (hx : cur.take (n * size) = xs) (hn : n ≤ cap) (hm : cap ≤ maxLen) :
    St w0 w (H.set i (.row e size (some ⟨g, 0, none⟩) n cap xs)) := by
  have hb : w.heap[g]? = some (.cells cur.toArray e (0, 0)) := hS.at_ i hi
  refine hS.setAt i hi (Turn.refl _ _) row_fp_nodup (fun b hb => .inl (by simpa [Hp.fp] using hb)) (row_mk hb hn hm (by simpa using hl) (by simpa using hx))

section
variable {P : Program} {ops : Array Oper} {rest : List Oper} {Q : Exit → Act → World → Prop} {dst : Option Tmp} {ty : TypeId} {pos : String} {after : Array Edge} {gd : Option (Nat × Bool)} {a : Act} {w0 w : World} {H : List Hp} {K : Act → World → Prop}

theorem opA_clear {t e : TypeId} {x : Operand} (hS : St w0 w H) (i : Nat) {g j m c : Nat} {cur : List Value} {z : Value} {tt : TypeId} (hx : a.eval x = .slice (some ⟨g, j, none⟩) m c) (hi : H[i]? = some (.cells g cur tt)) (ht : P.underlying t = some (.slice e))
    (hz : (P.info? e).bind (·.zero) = some z) (hz1 : (z.cells.all Value.oneCell') = true) (hfit : j + z.cells.size * m ≤ cur.length)
    (hK : ∀ w' cs, cs.length = z.cells.size * m → St w0 w' (H.set i (.cells g (cur.take j ++ cs ++ cur.drop (j + cs.length)) tt)) → K (a.put dst (.tuple #[])) w') : Oper.wp P ⟨dst, .call { callee := .builtin .clear, args := #[x], argTypes := #[t] }, ty, pos, after, gd⟩ a w K Q := by
  have hb : w.heap[g]? = some (.cells cur.toArray tt (0, 0)) := hS.at_ i hi
  have hzr : (zeroValue e).run P w = .ok z w := by
    cases hq : P.info? e with
    | none => simp [hq] at hz
    | some q =>
      have : q.zero = some z := by simpa [hq] using hz
      simp [zeroValue, typeInfo, hq, this]
  unfold Oper.wp
  by_cases hm : m = 0
  · subst hm
    have h1 := hK w [] (by simp) (by
      have : H.set i (.cells g (cur.take j ++ [] ++ cur.drop (j + ([] : List Value).length)) tt) = H := by
        simp only [List.append_nil, List.length_nil, Nat.add_zero, List.take_append_drop]
        apply List.ext_getElem?
        intro q
        by_cases hq : i = q
        · subst hq; rw [List.getElem?_set_self (List.getElem?_eq_some_iff.1 hi).1, hi]
        · rw [List.getElem?_set_ne hq]
      rw [this]; exact hS)
    simp [execOp, resolve, invoke, builtin, hx, Builtin.clear_, run_underlying ht, Result.andThen]
    exact h1
  · let cs := (Builtin.zeroCells z.cells m).toList
    have hcs : cs = (Builtin.zeroCells z.cells m).toList := rfl
    have hl : cs.length = z.cells.size * m := by
      rw [hcs]; simp [Builtin.zeroCells, Nat.mul_comm]
    have h1c : ∀ v ∈ cs, v.oneCell' = true := by
      intro v hv
      rw [hcs] at hv
      simp only [Builtin.zeroCells, Array.mem_toList_iff, Array.mem_map, Array.mem_range] at hv
      obtain ⟨q, hq, rfl⟩ := hv
      have h0 : 0 < z.cells.size := Nat.pos_of_ne_zero (fun h => by rw [h] at hq; simp at hq)
      have := Array.all_eq_true.1 hz1 (q % z.cells.size) (Nat.mod_lt _ h0)
      rw [getElem!_pos z.cells (q % z.cells.size) (Nat.mod_lt _ h0)]
      exact this
    have hst := run_storeCells_at P g j tt cs 0 cur.toArray w hb (by simp [hl]; omega) h1c
    simp only [Nat.add_zero] at hst
    have hS' := hS.setRow i hi (cur.take j ++ cs ++ cur.drop (j + cs.length))
    obtain ⟨m', rfl⟩ : ∃ m', m = m' + 1 := ⟨m - 1, by omega⟩
    rw [hcs] at hst
    simp [execOp, resolve, invoke, builtin, hx, Builtin.clear_, run_underlying ht, hzr, hst, Result.andThen]
    have h2 := hK _ cs hl hS'
    simp [hcs] at h2
    exact h2
end
end Go.Proofs.Ytodojllclghoiaa
