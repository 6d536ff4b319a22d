/-
  A slice literal of nothing; a slice from the k-th element on; elements of a row as cells.
-/
import Derived.Test.YtodojllclghoiaaRowCells
namespace Go.Proofs.Ytodojllclghoiaa
set_option linter.unusedVariables false
set_option linter.unusedSimpArgs false

section
variable {P : Program} {ops : Array Oper} {rest : List Oper} {Q : Exit → Act → World → Prop} {dst : Option Tmp} {ty : TypeId} {pos : String} {after : Array Edge} {gd : Option (Nat × Bool)} {a : Act} {w0 w : World} {H : List Hp} {K : Act → World → Prop}

theorem opA_build0 {t e : TypeId} (size : Nat) (hS : St w0 w H) (ht : P.underlying t = some (.slice e)) (hn : sizeIs P e size = true)
    (hK : ∀ g w', St w0 w' (.row e size (some ⟨g, 0, none⟩) 0 0 [] :: H) → K (a.put dst (.slice (some ⟨g, 0, none⟩) 0 0)) w') : Oper.wp P ⟨dst, .buildSlice t 0 #[], ty, pos, after, gd⟩ a w K Q := by
  have hn' := sizeIs_out hn
  have hS1 := hS.alloc [] e
  have hS2 := hS1.cellsRow 0 rfl (size := size) (n := 0) (cap := 0) (xs := []) (by simp) (by simp) (Nat.le_refl _) (by simp [maxLen])
  cases hq : P.info? e with
  | none => simp [hq] at hn'
  | some q =>
    unfold Oper.wp
    simp [execOp, Instr.buildSlice, run_underlying ht, sizeOf, typeInfo, hq, Instr.fill, newRow, newObj, Sem.run, Result.andThen, show Array.range 0 = #[] from rfl]
    exact hK _ _ hS2

theorem wpA_build0 {t e : TypeId} (size : Nat) (hS : St w0 w H) (ht : P.underlying t = some (.slice e)) (hn : sizeIs P e size = true)
    (hK : ∀ g w', St w0 w' (.row e size (some ⟨g, 0, none⟩) 0 0 [] :: H) → wpList P ops Q rest (a.put dst (.slice (some ⟨g, 0, none⟩) 0 0)) w') : wpList P ops Q (⟨dst, .buildSlice t 0 #[], ty, pos, after, none⟩ :: rest) a w :=
  wpList_plain rfl fun _ h => opA_build0 size hS ht hn (fun g w' h_ => h _ _ (hK g w' h_))

theorem wpA_clear {t e : TypeId} {x : Operand} (hS : St w0 w H) (i : Nat) {g j m c : Nat} {cur : List Value} {z : Value} {tt : TypeId} (hx : a.eval x = .slice (some ⟨g, j, none⟩) m c) (hi : H[i]? = some (.cells g cur tt)) (ht : P.underlying t = some (.slice e))
    (hz : (P.info? e).bind (·.zero) = some z) (hz1 : (z.cells.all Value.oneCell') = true) (hfit : j + z.cells.size * m ≤ cur.length)
    (hK : ∀ w' cs, cs.length = z.cells.size * m → St w0 w' (H.set i (.cells g (cur.take j ++ cs ++ cur.drop (j + cs.length)) tt)) → wpList P ops Q rest (a.put dst (.tuple #[])) w') : wpList P ops Q (⟨dst, .call { callee := .builtin .clear, args := #[x], argTypes := #[t] }, ty, pos, after, none⟩ :: rest) a w :=
  wpList_plain rfl fun _ h => opA_clear hS i hx hi ht hz hz1 hfit (fun w' cs h1 h_ => h _ _ (hK w' cs h1 h_))

theorem opA_clearNil {t e : TypeId} {x : Operand} {c : Nat} (hx : a.eval x = .slice none 0 c) (ht : P.underlying t = some (.slice e)) (hz : ((P.info? e).bind (·.zero)).isSome = true)
    (hK : K (a.put dst (.tuple #[])) w) : Oper.wp P ⟨dst, .call { callee := .builtin .clear, args := #[x], argTypes := #[t] }, ty, pos, after, gd⟩ a w K Q := by
  obtain ⟨z, hz⟩ := Option.isSome_iff_exists.1 hz
  have hzr : (zeroValue e).run P w = .ok z w := by
    cases hq : P.info? e with
    | none => simp [hq] at hz
    | some q =>
      have : q.zero = some z := by simpa [hq] using hz
      simp [zeroValue, typeInfo, hq, this]
  unfold Oper.wp
  simp [execOp, resolve, invoke, builtin, hx, Builtin.clear_, run_underlying ht, Result.andThen]
  exact hK
theorem wpA_clearNil {t e : TypeId} {x : Operand} {c : Nat} (hx : a.eval x = .slice none 0 c) (ht : P.underlying t = some (.slice e)) (hz : ((P.info? e).bind (·.zero)).isSome = true)
    (hK : wpList P ops Q rest (a.put dst (.tuple #[])) w) : wpList P ops Q (⟨dst, .call { callee := .builtin .clear, args := #[x], argTypes := #[t] }, ty, pos, after, none⟩ :: rest) a w :=
  wpList_plain rfl fun _ h => opA_clearNil hx ht hz (h _ _ hK)
end

theorem St.litRow {w0 w : World} {H : List Hp} (h : St w0 w H) (i : Nat) {g : Nat} {vs : List Value} {e : TypeId} (hi : H[i]? = some (.cells g vs e)) (n size : Nat) (hl : vs.length = n * size) (hm : n ≤ maxLen) :
    St w0 w (H.set i (.row e size (some ⟨g, 0, none⟩) n n vs)) :=
  h.cellsRow i hi hl (List.take_of_length_le (by omega)) (Nat.le_refl _) hm

/-- A result that lies in memory. -/
theorem run_loadVar_row {P : Program} {w : World} {t : TypeId} {g j : Nat} {cs : List Value} (hc : w.rangeAt g j cs) (hu : rowB P t = true) (hn : sizeIs P t cs.length = true) : (loadVar t ⟨g, j, none⟩).run P w = .ok (.agg cs.toArray) w := by
  obtain ⟨d, h1, h2⟩ := rowB_out hu
  have := run_loadAt_mid (P := P) w g j t cs d hc h1 h2 (sizeIs_out hn)
  simpa [Instr.loadAt, Instr.sureAddr] using this

theorem results_cell {P : Program} {w : World} {fn : Func} {a : Tmp} {t : TypeId} {tmps : Array Value} {g j : Nat} {cs : List Value} (h : fn.results = #[.cell a t]) (ha : tmps.getD a undef = .pointer (some ⟨g, j, none⟩)) (hc : w.rangeAt g j cs) (hu : rowB P t = true) (hn : sizeIs P t cs.length = true) :
    (results fn tmps).run P w = .ok (.agg cs.toArray) w := by
  have hr := run_loadVar_row (P := P) hc hu hn
  have ha' : tmps[a]?.getD undef = .pointer (some ⟨g, j, none⟩) := by simpa using ha
  simp [results, h, ha', asAddr, hr]

theorem results_cell_tmp {P : Program} {w : World} {fn : Func} {a u : Tmp} {t : TypeId} {tmps : Array Value} {g j : Nat} {cs : List Value} (h : fn.results = #[.cell a t, .tmp u]) (ha : tmps.getD a undef = .pointer (some ⟨g, j, none⟩)) (hc : w.rangeAt g j cs) (hu : rowB P t = true) (hn : sizeIs P t cs.length = true) :
    (results fn tmps).run P w = .ok (.tuple #[.agg cs.toArray, tmps.getD u undef]) w := by
  have hr := run_loadVar_row (P := P) hc hu hn
  have ha' : tmps[a]?.getD undef = .pointer (some ⟨g, j, none⟩) := by simpa using ha
  simp [results, h, ha', asAddr, hr]

/-- What lies from the k-th element on, as a source. -/
theorem Src.from_ {P : Program} {w : World} {e : TypeId} {size g n cap k m c : Nat} {xs : List Value} {ad : Addr} (h : Hp.on w (.row e size (some ⟨g, 0, none⟩) n cap xs)) (hk : k + m = n) (had : m = 0 ∨ ad = ⟨g, k * size, none⟩) (h1 : ∀ u ∈ xs, u.oneCell' = true) :
    Src P w size (.slice (some ad) m c) m (xs.drop (k * size)) := by
  have hl := row_length h
  rcases had with rfl | rfl
  · have e : xs.drop (k * size) = [] := List.drop_eq_nil_of_le (by rw [hl, ← hk]; simp)
    rw [e]
    exact Src.slice (by simp) (by simp) (by simp)
  · refine Src.slice (by rw [List.length_drop, hl, ← hk, Nat.add_mul]; omega) (fun j u hj => ?_) (fun u hu => h1 u (List.mem_of_mem_drop hu))
    rw [Addr.add_lit]
    exact row_cell h _ (by rw [List.getElem?_drop] at hj; exact hj)

def idxD {α : Type} (p : α → Bool) (zs : List α) : Int := match zs.findIdx? p with
  | none => -1
  | some i => i

/-- DeleteFunc's row, halfway: what is kept of the first j, then what was there. -/
theorem flat_len {α : Type} {f : α → List Value} {size : Nat} (hf : ∀ x, (f x).length = size) (l : List α) : (l.flatMap f).length = l.length * size := by
  induction l with
  | nil => simp
  | cons x r ih => rw [List.flatMap_cons, List.length_append, ih, hf, List.length_cons, Nat.add_mul]; omega

theorem set_splice {q : Nat} {v : Value} (cur : List Value) (h : q < cur.length) : cur.set q v = cur.take (q * 1) ++ [v] ++ cur.drop (q * 1 + [v].length) := by
  rw [List.set_eq_take_append_cons_drop, if_pos h]; simp

section
variable {α : Type}
theorem idxD_none {p : α → Bool} {zs : List α} (h : ∀ x ∈ zs, p x = false) : idxD p zs = -1 := by
  unfold idxD
  have : zs.findIdx? p = none := by rw [List.findIdx?_eq_none_iff]; intro x hx; rw [h x hx]
  rw [this]
theorem idxD_some {p : α → Bool} {zs : List α} {j : Nat} {x : α} (hx : zs[j]? = some x) (hp : p x = true) (h : ∀ q y, q < j → zs[q]? = some y → p y = false) : idxD p zs = (j : Int) := by
  unfold idxD
  have hj := (List.getElem?_eq_some_iff.1 hx)
  have : zs.findIdx? p = some j := by
    rw [List.findIdx?_eq_some_iff_getElem]
    refine ⟨hj.1, by rw [hj.2]; exact hp, fun q hq => ?_⟩
    have := h q (zs[q]'(by have := hj.1; omega)) hq (List.getElem?_eq_getElem _)
    simp [this]
  rw [this]
theorem idxD_cases (p : α → Bool) (zs : List α) : (idxD p zs = -1 ∧ ∀ x ∈ zs, p x = false) ∨ ∃ (j : Nat) (x : α), idxD p zs = (j : Int) ∧ zs[j]? = some x ∧ p x = true ∧ ∀ q y, q < j → zs[q]? = some y → p y = false := by
  unfold idxD
  cases h : zs.findIdx? p with
  | none => exact .inl ⟨rfl, fun x hx => by have := List.findIdx?_eq_none_iff.1 h x hx; simpa using this⟩
  | some j =>
    obtain ⟨hl, h1, h2⟩ := List.findIdx?_eq_some_iff_getElem.1 h
    refine .inr ⟨j, zs[j], rfl, List.getElem?_eq_getElem hl, h1, fun q y hq hy => ?_⟩
    obtain ⟨hql, rfl⟩ := List.getElem?_eq_some_iff.1 hy
    have := h2 q hq
    simpa using this

/-- DeleteFunc's block, halfway. -/
structure DelI (k : Nat) (cs : α → List Value) (p : α → Bool) (zs : List α) (cap j m : Nat) (cur : List Value) : Prop where
  len : cur.length = cap * k
  num : m = ((zs.take j).filter fun x => !p x).length
  kept : cur.take (m * k) = ((zs.take j).filter fun x => !p x).flatMap cs
  lt : m < j
  rest : ∀ q x, j ≤ q → zs[q]? = some x → ∀ r v, (cs x)[r]? = some v → cur[q * k + r]? = some v

theorem filter_all {p : α → Bool} {zs : List α} {j : Nat} (h : ∀ q y, q < j → zs[q]? = some y → p y = false) : (zs.take j).filter (fun x => !p x) = zs.take j := by
  rw [List.filter_eq_self]
  intro x hx
  obtain ⟨q, hq⟩ := List.getElem?_of_mem hx
  rw [List.getElem?_take] at hq
  split at hq
  · rw [h q x (by assumption) hq]; rfl
  · cases hq

theorem flat_take {cs : α → List Value} {k : Nat} (hcs : ∀ x, (cs x).length = k) (zs : List α) (j : Nat) : (zs.flatMap cs).take (j * k) = (zs.take j).flatMap cs := by
  induction zs generalizing j with
  | nil => simp
  | cons x r ih =>
    cases j with
    | zero => simp
    | succ j =>
      rw [List.take_succ_cons, List.flatMap_cons, List.flatMap_cons, List.take_append, hcs, ← ih j]
      rw [List.take_of_length_le (by rw [hcs, Nat.add_mul]; omega), show (j + 1) * k - k = j * k by rw [Nat.add_mul]; omega]

theorem DelI.init {k : Nat} {cs : α → List Value} {p : α → Bool} {zs : List α} {cap n j : Nat} {x : α} {cur : List Value} (hcs : ∀ x, (cs x).length = k) (hl : cur.length = cap * k) (hk : cur.take (n * k) = zs.flatMap cs) (hn : zs.length = n)
    (hx : zs[j]? = some x) (hp : p x = true) (h : ∀ q y, q < j → zs[q]? = some y → p y = false) : DelI k cs p zs cap (j + 1) j cur := by
  have hj := (List.getElem?_eq_some_iff.1 hx).1
  have e : (zs.take (j + 1)).filter (fun x => !p x) = zs.take j := by
    rw [List.take_add_one, hx, List.filter_append, filter_all h]
    simp [hp]
  refine ⟨hl, ?_, ?_, by omega, fun q y hq hy r v hv => ?_⟩
  · rw [e, List.length_take]; omega
  · rw [e, ← flat_take hcs, ← hk, List.take_take, Nat.min_eq_left (Nat.mul_le_mul_right _ (by omega))]
  · have h1 := flat_get hcs hy r v hv
    rw [← hk, List.getElem?_take] at h1
    split at h1
    · exact h1
    · cases h1

theorem DelI.skip {k : Nat} {cs : α → List Value} {p : α → Bool} {zs : List α} {cap j m : Nat} {x : α} {cur : List Value} (h : DelI k cs p zs cap j m cur) (hx : zs[j]? = some x) (hp : p x = true) : DelI k cs p zs cap (j + 1) m cur := by
  have e : (zs.take (j + 1)).filter (fun x => !p x) = (zs.take j).filter (fun x => !p x) := by
    rw [List.take_add_one, hx, List.filter_append]; simp [hp]
  exact ⟨h.len, by rw [e]; exact h.num, by rw [e]; exact h.kept, by have := h.lt; omega, fun q y hq hy => h.rest q y (by omega) hy⟩

theorem DelI.keep {k : Nat} {cs : α → List Value} {p : α → Bool} {zs : List α} {cap j m : Nat} {x : α} {cur : List Value} (h : DelI k cs p zs cap j m cur) (hcs : ∀ x, (cs x).length = k) (hx : zs[j]? = some x) (hp : p x = false) (hc : zs.length ≤ cap) :
    DelI k cs p zs cap (j + 1) (m + 1) (cur.take (m * k) ++ cs x ++ cur.drop (m * k + (cs x).length)) := by
  have e : (zs.take (j + 1)).filter (fun x => !p x) = (zs.take j).filter (fun x => !p x) ++ [x] := by
    rw [List.take_add_one, hx, List.filter_append]; simp [hp]
  have hj := (List.getElem?_eq_some_iff.1 hx).1
  have hlt := h.lt
  have hmk : m * k + k ≤ cur.length := by rw [h.len, ← Nat.succ_mul]; exact Nat.mul_le_mul_right _ (by omega)
  have ht : (cur.take (m * k)).length = m * k := by rw [List.length_take]; omega
  refine ⟨?_, ?_, ?_, by omega, fun q y hq hy r v hv => ?_⟩
  · have := h.len
    simp only [List.length_append, ht, hcs, List.length_drop]
    omega
  · rw [e, List.length_append, ← h.num]; rfl
  · rw [e, List.flatMap_append, ← h.kept, Nat.add_mul, Nat.one_mul, List.flatMap_cons, List.flatMap_nil, List.append_nil]
    rw [List.take_append_of_le_length (by simp only [List.length_append, ht, hcs]; omega), List.take_of_length_le (by simp only [List.length_append, ht, hcs]; omega)]
  · have hqk : (m + 1) * k ≤ q * k := Nat.mul_le_mul_right _ (by omega)
    rw [Nat.add_mul, Nat.one_mul] at hqk
    rw [List.getElem?_append_right (by simp only [List.length_append, ht, hcs]; omega), List.getElem?_drop]
    simp only [List.length_append, ht, hcs]
    rw [show m * k + k + (q * k + r - (m * k + k)) = q * k + r by omega]
    exact h.rest q y (by omega) hy r v hv

theorem DelI.done {k : Nat} {cs : α → List Value} {p : α → Bool} {zs : List α} {cap m : Nat} {cur : List Value} (h : DelI k cs p zs cap zs.length m cur) {ws : List Value} (hl : m * k + ws.length ≤ cap * k) :
    (cur.take (m * k) ++ ws ++ cur.drop (m * k + ws.length)).take (m * k) = (zs.filter fun x => !p x).flatMap cs ∧ m = (zs.filter fun x => !p x).length ∧ (cur.take (m * k) ++ ws ++ cur.drop (m * k + ws.length)).length = cap * k := by
  have h1 := h.kept
  have h2 := h.num
  rw [List.take_length] at h1 h2
  have := h.len
  have ht : (cur.take (m * k)).length = m * k := by rw [List.length_take]; omega
  refine ⟨?_, h2, ?_⟩
  · rw [List.append_assoc, List.take_append_of_le_length (by omega), List.take_of_length_le (by omega), h1]
  · simp only [List.length_append, ht, List.length_drop]; omega
end
end Go.Proofs.Ytodojllclghoiaa
