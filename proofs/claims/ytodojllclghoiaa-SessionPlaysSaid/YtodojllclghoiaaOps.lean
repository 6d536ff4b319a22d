/-
  The walk's laws at single operations, over the heaplets of Lib: what each operation does to 'St'.
-/
import Derived.Test.YtodojllclghoiaaLib
namespace Go.Proofs.Ytodojllclghoiaa
set_option linter.unusedVariables false
set_option linter.unusedSimpArgs false

section
variable {P : Program} {K : Act → World → Prop} {o : Oper} {a : Act} {Q : Exit → Act → World → Prop} {w0 w : World} {H : List Hp}

/-- What a type is not: a struct, an array. -/
abbrev plainDesc : TypeDesc → Bool
  | .struct _ | .array _ _ => false
  | _ => true

theorem run_loadVar_plain {t : TypeId} {d : TypeDesc} (hu : P.underlying t = some d) (hd : plainDesc d = true) {p : Addr} {v : Value} (hc : w.cell? p = some v) :
    (loadVar t p).run P w = .ok v w := by
  have hagg : (isAgg t).run P w = .ok false w := by
    unfold isAgg
    rw [Sem.run_bind, run_underlying hu w]
    cases d <;> simp_all
  simp [loadVar, Sem.run_bind, hagg, run_load, hc]

/-- A load of one cell. -/
theorem opS_load (t : TypeId) (x : Operand) (hop : o.op = .load t x) (hS : St w0 w H) (i : Nat) {g : Nat} {vs : List Value} {tt : TypeId} {j : Nat} {v : Value} {d : TypeDesc}
    (hx : a.eval x = .pointer (some ⟨g, j, none⟩)) (hi : H[i]? = some (.cells g vs tt)) (hj : vs[j]? = some v) (hu : P.underlying t = some d) (hd : plainDesc d = true)
    (hK : K (a.put o.dst v) w) : o.wp P a w K Q := by
  unfold Oper.wp
  simp [execOp, hop, hx, Instr.loadAt, Instr.sureAddr, run_loadVar_plain hu hd (hS.cell i hi j hj), Result.andThen]
  exact hK

theorem Hp.range {g : Nat} {vs : List Value} {tt : TypeId} (hS : St w0 w H) (i : Nat) (hi : H[i]? = some (.cells g vs tt)) (j n : Nat) : w.rangeAt g j ((vs.drop j).take n) := by
  intro k v hk
  rw [List.getElem?_take] at hk
  split at hk
  · rw [List.getElem?_drop] at hk
    exact hS.cell i hi (j + k) hk
  · cases hk

/-- A load of a struct or an array. -/
theorem opS_loadN (t : TypeId) (x : Operand) (hop : o.op = .load t x) (hS : St w0 w H) (i : Nat) {g : Nat} {vs : List Value} {tt : TypeId} {j n : Nat} {cs : List Value} {d : TypeDesc}
    (hx : a.eval x = .pointer (some ⟨g, j, none⟩)) (hi : H[i]? = some (.cells g vs tt)) (hu : P.underlying t = some d) (hd : d.isRow = true) (hn : (P.info? t).map (·.size) = some n) (hcs : (vs.drop j).take n = cs) (hl : cs.length = n)
    (hK : K (a.put o.dst (.agg cs.toArray)) w) : o.wp P a w K Q := by
  have hr := Hp.range hS i hi j n
  rw [hcs] at hr
  have := run_loadAt_mid (P := P) w g j t cs d hr hu hd (by rw [hn, hl])
  unfold Oper.wp
  simp [execOp, hop, hx, this, Result.andThen]
  exact hK

theorem run_storeVar_st (hS : St w0 w H) (i : Nat) {g : Nat} {vs : List Value} {tt : TypeId} {j : Nat} {v : Value} {cs : List Value} {t : TypeId}
    (hi : H[i]? = some (.cells g vs tt)) (hv : v.cells.toList = cs) (hn : (P.info? t).map (·.size) = some cs.length) (h1 : ∀ u ∈ cs, u.oneCell' = true) (hfit : j + cs.length ≤ vs.length) :
    (storeVar t ⟨g, j, none⟩ v).run P w = .ok () (w.setRow g (vs.take j ++ cs ++ vs.drop (j + cs.length)).toArray) := by
  have hb : w.heap[g]? = some (.cells vs.toArray tt (0, 0)) := hS.at_ i hi
  have hst := run_storeCells_at P g j tt cs 0 vs.toArray w hb (by simpa using hfit) h1
  simp only [Nat.add_zero] at hst
  have hvs : v.cells.size = cs.length := by rw [← hv]; simp
  cases hq : P.info? t with
  | none => simp [hq] at hn
  | some k =>
    have hs : k.size = cs.length := by simpa [hq] using hn
    simp [storeVar, sizeOf, typeInfo, hq, hs, hvs, hv, hst, Result.andThen]

/-- A store of one value of one cell or more. -/
theorem opS_store (t : TypeId) (x y : Operand) (hop : o.op = .store t x y) (hS : St w0 w H) (i : Nat) {g : Nat} {vs : List Value} {tt : TypeId} {j : Nat} {v : Value} {cs : List Value}
    (hx : a.eval x = .pointer (some ⟨g, j, none⟩)) (hy : a.eval y = v) (hi : H[i]? = some (.cells g vs tt)) (hv : v.cells.toList = cs) (hn : (P.info? t).map (·.size) = some cs.length) (h1 : cs.all Value.oneCell' = true) (hfit : j + cs.length ≤ vs.length)
    (hK : ∀ w', St w0 w' (H.set i (.cells g (vs.take j ++ cs ++ vs.drop (j + cs.length)) tt)) → K (a.put o.dst undef) w') : o.wp P a w K Q := by
  have hr := run_storeVar_st (P := P) hS i hi hv hn (fun u hu => List.all_eq_true.1 h1 u hu) hfit (t := t)
  have hS' := hS.setRow i hi (vs.take j ++ cs ++ vs.drop (j + cs.length))
  unfold Oper.wp
  simp only [execOp, hop, hx, hy, Instr.storeAt, Instr.sureAddr, Sem.run_bind, Sem.run_pure, Result.andThen_ok, hr]
  exact (hK _ hS')

/-- A store of one cell. -/
theorem opS_store1 (t : TypeId) (x y : Operand) (hop : o.op = .store t x y) (hS : St w0 w H) (i : Nat) {g : Nat} {vs : List Value} {tt : TypeId} {j : Nat} {v : Value}
    (hx : a.eval x = .pointer (some ⟨g, j, none⟩)) (hy : a.eval y = v) (hi : H[i]? = some (.cells g vs tt)) (hv : v.cells = #[v]) (h1 : v.oneCell' = true) (hn : (P.info? t).map (·.size) = some 1) (hfit : (vs[j]?).isSome = true)
    (hK : ∀ w', St w0 w' (H.set i (.cells g (vs.set j v) tt)) → K (a.put o.dst undef) w') : o.wp P a w K Q := by
  have hj : j < vs.length := by
    rcases Nat.lt_or_ge j vs.length with h | h
    · exact h
    · rw [List.getElem?_eq_none h] at hfit; cases hfit
  have e : vs.take j ++ [v] ++ vs.drop (j + [v].length) = vs.set j v := by
    rw [List.set_eq_take_append_cons_drop, if_pos hj]; simp
  exact opS_store t x y hop hS i hx hy hi (cs := [v]) (by rw [hv]) hn (by simp [h1]) (by simp; omega) (by rw [e]; exact hK)

/-- A new variable with a value ('&T{..}', a struct parameter, a captured variable). -/
theorem opS_box (t : TypeId) (x : Operand) (hop : o.op = .box t x) (hS : St w0 w H) {v : Value} {cs : List Value} (hx : a.eval x = v) (hv : v.cells.toList = cs)
    (hK : ∀ g w', St w0 w' (.cells g cs t :: H) → K (a.put o.dst (.pointer (some ⟨g, 0, none⟩))) w') : o.wp P a w K Q := by
  have hS' := hS.alloc cs t
  unfold Oper.wp
  have e : v.cells = cs.toArray := by rw [← hv]
  simp [execOp, hop, hx, Instr.box, newVar, newRow, newObj, Sem.run, Result.andThen, e]
  exact (hK _ _ hS')

/-- A new variable, zero. -/
theorem opS_alloc (t : TypeId) (hop : o.op = .alloc t) (hS : St w0 w H) {v : Value} {cs : List Value} (hz : (P.info? t).bind (·.zero) = some v) (hv : v.cells.toList = cs)
    (hK : ∀ g w', St w0 w' (.cells g cs t :: H) → K (a.put o.dst (.pointer (some ⟨g, 0, none⟩))) w') : o.wp P a w K Q := by
  have hS' := hS.alloc cs t
  unfold Oper.wp
  have e : v.cells = cs.toArray := by rw [← hv]
  cases hq : P.info? t with
  | none => simp [hq] at hz
  | some k =>
    have hk : k.zero = some v := by simpa [hq] using hz
    simp [execOp, hop, Instr.alloc, zeroValue, typeInfo, hq, hk, newVar, newRow, newObj, Sem.run, Result.andThen, e]
    exact (hK _ _ hS')

/-- 'make(map[K]V)', 'map[K]V{}'. -/
theorem opS_makeMap (t : TypeId) (hop : o.op = .makeMap t none) (hS : St w0 w H)
    (d : TypeDesc) (hK : ∀ g w', St w0 w' (.mp g d [] :: H) → K (a.put o.dst (.map (some g))) w') : o.wp P a w K Q := by
  have hS' := hS.allocMap d
  unfold Oper.wp
  simp only [execOp, hop, Option.map_none, Sem.run_bind, RowKit.run_makeMap]
  exact (hK _ _ hS')

end
end Go.Proofs.Ytodojllclghoiaa
