/-
  Maps as lists of pairs: reading, putting, taking out, at the operation; elements of several cells in rows.
-/
import Derived.Test.YtodojllclghoiaaSlMake
namespace Go.Proofs.Ytodojllclghoiaa
set_option linter.unusedVariables false
set_option linter.unusedSimpArgs false

section
variable {κ α : Type} [DecidableEq κ]

def akv (ek : κ → Value) (ev : α → Value) (x : κ × α) : Value × Value := (ek x.1, ev x.2)
def aidx (l : List (κ × α)) (k : κ) : Option Nat := l.findIdx? (fun x => decide (x.1 = k))
def aget (l : List (κ × α)) (k : κ) : Option α := (aidx l k).bind fun i => (l[i]?).map (·.2)
def aput (l : List (κ × α)) (k : κ) (v : α) : List (κ × α) := match aidx l k with
  | none => l ++ [(k, v)]
  | some i => l.set i (k, v)
def adel (l : List (κ × α)) (k : κ) : List (κ × α) := match aidx l k with
  | none => l
  | some i => l.eraseIdx i

theorem aidx_none {l : List (κ × α)} {k : κ} (h : aidx l k = none) : ∀ x ∈ l, x.1 ≠ k := by
  intro x hx
  have := List.findIdx?_eq_none_iff.1 h x hx
  simpa using this
theorem aidx_some {l : List (κ × α)} {k : κ} {i : Nat} (h : aidx l k = some i) : ∃ v, l[i]? = some (k, v) := by
  obtain ⟨hl, h1, _⟩ := List.findIdx?_eq_some_iff_getElem.1 h
  refine ⟨l[i].2, ?_⟩
  rw [List.getElem?_eq_getElem hl]
  have : l[i].1 = k := by simpa using h1
  rw [← this]
theorem aidx_of_not_mem {l : List (κ × α)} {k : κ} (h : ∀ x ∈ l, x.1 ≠ k) : aidx l k = none := by
  unfold aidx
  rw [List.findIdx?_eq_none_iff]
  intro x hx
  simpa using h x hx
theorem aget_idx {l : List (κ × α)} {k : κ} {v : α} (h : aget l k = some v) : ∃ i, aidx l k = some i ∧ l[i]? = some (k, v) := by
  unfold aget at h
  cases hi : aidx l k with
  | none => rw [hi] at h; simp at h
  | some i =>
    obtain ⟨v', h1⟩ := aidx_some hi
    rw [hi] at h
    simp only [Option.bind_some, h1, Option.map_some, Option.some.injEq] at h
    subst h
    exact ⟨i, rfl, h1⟩
theorem aget_none_idx {l : List (κ × α)} {k : κ} (h : aget l k = none) : aidx l k = none := by
  cases hi : aidx l k with
  | none => rfl
  | some i =>
    obtain ⟨v', h1⟩ := aidx_some hi
    unfold aget at h
    rw [hi] at h
    simp [h1] at h
theorem aget_mem {l : List (κ × α)} {k : κ} {v : α} (h : aget l k = some v) : (k, v) ∈ l := by
  obtain ⟨i, _, h1⟩ := aget_idx h
  exact List.mem_of_getElem? h1

variable {ek : κ → Value} {ev : α → Value}
theorem aget_none {l : List (κ × α)} {k : κ} (hinj : ∀ a b, ek a = ek b → a = b) (h : aget l k = none) : ∀ p ∈ l.map (akv ek ev), p.1 ≠ ek k := by
  intro p hp e
  obtain ⟨x, hx, rfl⟩ := List.mem_map.1 hp
  exact aidx_none (aget_none_idx h) x hx (hinj _ _ e)
theorem aget_some {l : List (κ × α)} {k : κ} {v : α} (h : aget l k = some v) : ∃ j : Nat, (l.map (akv ek ev))[j]? = some (ek k, ev v) := by
  obtain ⟨i, _, h1⟩ := aget_idx h
  exact ⟨i, by rw [List.getElem?_map, h1]; rfl⟩

theorem aget_put_same (l : List (κ × α)) (k : κ) (v : α) : aget (aput l k v) k = some v := by
  unfold aput
  cases hi : aidx l k with
  | none =>
    have h := aidx_none hi
    have e : aidx (l ++ [(k, v)]) k = some l.length := by
      unfold aidx at hi ⊢
      rw [List.findIdx?_append, hi]
      simp [List.findIdx?_cons]
    simp [aget, e]
  | some i =>
    obtain ⟨v', h1⟩ := aidx_some hi
    have hl : i < l.length := (List.getElem?_eq_some_iff.1 h1).1
    have e : aidx (l.set i (k, v)) k = some i := by
      unfold aidx at hi ⊢
      obtain ⟨hl', h2, h3⟩ := List.findIdx?_eq_some_iff_getElem.1 hi
      refine List.findIdx?_eq_some_iff_getElem.2 ⟨by simpa using hl', by simp, fun j hj => ?_⟩
      rw [List.getElem_set_ne (by omega)]
      exact h3 j hj
    simp [aget, e, List.getElem?_set_self hl]

theorem aget_eq_find {l : List (κ × α)} {k : κ} : aget l k = (l.find? (fun x => decide (x.1 = k))).map (·.2) := by
  induction l with
  | nil => rfl
  | cons x r ih =>
    unfold aget aidx at *
    rw [List.findIdx?_cons, List.find?_cons]
    by_cases h : x.1 = k
    · simp [h]
    · simp only [h, decide_false, Bool.false_eq_true, if_false] at *
      rw [← ih]
      cases List.findIdx? (fun x => decide (x.1 = k)) r <;> simp

theorem aget_put_other (l : List (κ × α)) {k k' : κ} (v : α) (h : k' ≠ k) : aget (aput l k v) k' = aget l k' := by
  rw [aget_eq_find, aget_eq_find]
  congr 1
  unfold aput
  cases hi : aidx l k with
  | none => simp only [List.find?_append, List.find?_cons, List.find?_nil, show ¬ k = k' from fun e => h e.symm, decide_false, Option.or_none]
  | some i =>
    obtain ⟨v', h1⟩ := aidx_some hi
    clear hi
    induction l generalizing i with
    | nil => simp at h1
    | cons x r ih =>
      cases i with
      | zero =>
        simp at h1; subst h1
        simp [List.find?_cons, show ¬ k = k' from fun e => h e.symm]
      | succ i =>
        simp only [List.getElem?_cons_succ] at h1
        simp only [List.set_cons_succ, List.find?_cons]
        rw [ih i h1]

theorem aput_keys (l : List (κ × α)) (k : κ) (v : α) : (aput l k v).map (·.1) = if (aget l k).isSome then l.map (·.1) else l.map (·.1) ++ [k] := by
  unfold aput
  cases hi : aidx l k with
  | none => simp [aget, hi]
  | some i =>
    obtain ⟨v', h1⟩ := aidx_some hi
    simp only [aget, hi, Option.bind_some, h1, Option.map_some, Option.isSome_some, if_true]
    rw [List.map_set]
    apply List.ext_getElem?
    intro j
    by_cases h : i = j
    · subst h
      have hl : i < (l.map (·.1)).length := by simpa using (List.getElem?_eq_some_iff.1 h1).1
      rw [List.getElem?_set_self hl, List.getElem?_map, h1]; rfl
    · rw [List.getElem?_set_ne h]
end

section
variable {P : Program} {ops : Array Oper} {rest : List Oper} {Q : Exit → Act → World → Prop} {dst : Option Tmp} {ty : TypeId} {pos : String} {after : Array Edge} {gd : Option (Nat × Bool)} {a : Act} {w0 w : World} {H : List Hp} {K : Act → World → Prop}
variable {κ α : Type} [DecidableEq κ] {ek : κ → Value} {ev : α → Value}

theorem opA_put {t k e : TypeId} {m x y : Operand} {b : Nat} {d : TypeDesc} {l : List (κ × α)} {key : κ} {v : α} (hS : St w0 w H) (i : Nat) (hm : a.eval m = .map (some b)) (hi : H[i]? = some (.mp b d (l.map (akv ek ev)))) (hx : a.eval x = ek key) (hy : a.eval y = ev v)
    (ht : P.underlying t = some (.map k e)) (hd : P.underlying k = some d) (hk : MapKept.IsKey d (ek key)) (hinj : ∀ a b, ek a = ek b → a = b)
    (hK : ∀ w', St w0 w' (H.set i (.mp b d ((aput l key v).map (akv ek ev)))) → K (a.put dst undef) w') : Oper.wp P ⟨dst, .mapUpdate t m x y, ty, pos, after, gd⟩ a w K Q := by
  cases hq : aidx l key with
  | none =>
    refine opA_update_new hS i hm hi hx hy ht hd hk ?_ (fun w' h => hK w' ?_)
    · intro p hp e
      obtain ⟨z, hz, rfl⟩ := List.mem_map.1 hp
      exact aidx_none hq z hz (hinj _ _ e)
    · rw [aput, hq]
      simpa [akv] using h
  | some j =>
    obtain ⟨v0, h1⟩ := aidx_some hq
    refine opA_update_old hS i hm hi hx hy ht hd hk (j := j) (v0 := ev v0) (by rw [List.getElem?_map, h1]; rfl) (fun w' h => hK w' ?_)
    rw [aput, hq]
    simpa [akv, List.map_set] using h

theorem wpA_put {t k e : TypeId} {m x y : Operand} {b : Nat} {d : TypeDesc} {l : List (κ × α)} {key : κ} {v : α} (hS : St w0 w H) (i : Nat) (hm : a.eval m = .map (some b)) (hi : H[i]? = some (.mp b d (l.map (akv ek ev)))) (hx : a.eval x = ek key) (hy : a.eval y = ev v)
    (ht : P.underlying t = some (.map k e)) (hd : P.underlying k = some d) (hk : MapKept.IsKey d (ek key)) (hinj : ∀ a b, ek a = ek b → a = b)
    (hK : ∀ w', St w0 w' (H.set i (.mp b d ((aput l key v).map (akv ek ev)))) → wpList P ops Q rest (a.put dst undef) w') :
    wpList P ops Q (⟨dst, .mapUpdate t m x y, ty, pos, after, none⟩ :: rest) a w :=
  wpList_plain rfl fun _ h => opA_put hS i hm hi hx hy ht hd hk hinj (fun w' h_ => h _ _ (hK w' h_))

theorem opA_del {t k : TypeId} {e : TypeId} {m x : Operand} {b : Nat} {d : TypeDesc} {l : List (κ × α)} {key : κ} (hS : St w0 w H) (i : Nat) (hm : a.eval m = .map (some b)) (hi : H[i]? = some (.mp b d (l.map (akv ek ev)))) (hx : a.eval x = ek key)
    (ht : P.underlying t = some (.map k e)) (hd : P.underlying k = some d) (hk : MapKept.IsKey d (ek key)) (hinj : ∀ a b, ek a = ek b → a = b)
    (hK : ∀ w', St w0 w' (H.set i (.mp b d ((adel l key).map (akv ek ev)))) → K (a.put dst (.tuple #[])) w') : Oper.wp P ⟨dst, .call { callee := .builtin .delete, args := #[m, x], argTypes := #[t, k] }, ty, pos, after, gd⟩ a w K Q := by
  refine opA_delete hS i hm hi hx ht hd hk (kvs' := (adel l key).map (akv ek ev)) ?_ hK
  cases hq : aidx l key with
  | none =>
    refine .inl ⟨?_, by rw [adel, hq]⟩
    intro p hp e
    obtain ⟨z, hz, rfl⟩ := List.mem_map.1 hp
    exact aidx_none hq z hz (hinj _ _ e)
  | some j =>
    obtain ⟨v0, h1⟩ := aidx_some hq
    refine .inr ⟨j, ev v0, by rw [List.getElem?_map, h1]; rfl, ?_⟩
    rw [adel, hq]
    apply List.ext_getElem?
    intro q
    simp [List.getElem?_eraseIdx]
    split <;> rfl

theorem wpA_del {t k : TypeId} {e : TypeId} {m x : Operand} {b : Nat} {d : TypeDesc} {l : List (κ × α)} {key : κ} (hS : St w0 w H) (i : Nat) (hm : a.eval m = .map (some b)) (hi : H[i]? = some (.mp b d (l.map (akv ek ev)))) (hx : a.eval x = ek key)
    (ht : P.underlying t = some (.map k e)) (hd : P.underlying k = some d) (hk : MapKept.IsKey d (ek key)) (hinj : ∀ a b, ek a = ek b → a = b)
    (hK : ∀ w', St w0 w' (H.set i (.mp b d ((adel l key).map (akv ek ev)))) → wpList P ops Q rest (a.put dst (.tuple #[])) w') :
    wpList P ops Q (⟨dst, .call { callee := .builtin .delete, args := #[m, x], argTypes := #[t, k] }, ty, pos, after, none⟩ :: rest) a w :=
  wpList_plain rfl fun _ h => opA_del hS i hm hi hx ht hd hk hinj (fun w' h_ => h _ _ (hK w' h_))

theorem fold_fill : ∀ (cs : List Value) (k : Nat) (A : Array Value), A.size = k + cs.length → List.foldl (fun (a : Array Value) x => a.setIfInBounds x.2 x.1) A (cs.zipIdx k) = (A.toList.take k ++ cs).toArray
  | [], k, A, h => by
    rw [List.zipIdx_nil, List.foldl_nil, List.append_nil, List.take_of_length_le (by simp at h ⊢; omega)]
  | c :: cs, k, A, h => by
    rw [List.zipIdx_cons, List.foldl_cons, fold_fill cs (k + 1) _ (by simp at h ⊢; omega)]
    congr 1
    have hk : k < A.toList.length := by simp at h ⊢; omega
    rw [Array.toList_setIfInBounds, List.set_eq_take_append_cons_drop, if_pos hk, List.take_append, List.length_take, Nat.min_eq_left (by omega), show k + 1 - k = 1 by omega, List.take_take, Nat.min_eq_right (by omega)]
    simp

/-- A slice literal of one element of several cells. -/
theorem opA_oneN {t e : TypeId} {x : Operand} (hS : St w0 w H) {z v : Value} {bytes size : Nat} {cs : List Value} (ht : P.underlying t = some (.slice e)) (hinfo : (P.info? e).map (fun i => (i.zero, i.size, i.bytes)) = some (some z, size, bytes)) (hx : a.eval x = v) (hv : v.cells.toList = cs)
    (hl : cs.length = size) (h0 : 0 < size) (h24 : size ≤ 2 ^ 24)
    (hK : ∀ g w', St w0 w' (.cells g cs e :: H) → K (a.put dst (.slice (some ⟨g, 0, none⟩) 1 1)) w') : Oper.wp P ⟨dst, .buildSlice t 1 #[(0, x)], ty, pos, after, gd⟩ a w K Q := by
  refine opS_buildSlice t 1 #[(0, x)] rfl hS ht hinfo (by omega) (by omega) (cs := cs) ?_ hK
  have e1 : v.cells = cs.toArray := by rw [← hv]
  simp [Instr.fill, hx, e1, hl]
  rw [fold_fill cs 0 _ (by simp [hl])]
  simp

theorem wpA_oneN {t e : TypeId} {x : Operand} (hS : St w0 w H) {z v : Value} {bytes size : Nat} {cs : List Value} (ht : P.underlying t = some (.slice e)) (hinfo : (P.info? e).map (fun i => (i.zero, i.size, i.bytes)) = some (some z, size, bytes)) (hx : a.eval x = v) (hv : v.cells.toList = cs)
    (hl : cs.length = size) (h0 : 0 < size) (h24 : size ≤ 2 ^ 24)
    (hK : ∀ g w', St w0 w' (.cells g cs e :: H) → wpList P ops Q rest (a.put dst (.slice (some ⟨g, 0, none⟩) 1 1)) w') : wpList P ops Q (⟨dst, .buildSlice t 1 #[(0, x)], ty, pos, after, none⟩ :: rest) a w :=
  wpList_plain rfl fun _ h => opA_oneN hS ht hinfo hx hv hl h0 h24 (fun g w' h_ => h _ _ (hK g w' h_))

/- The place found by search. -/
theorem opA_putI {t k e : TypeId} {m x y : Operand} {b : Nat} {d : TypeDesc} {l : List (κ × α)} {key : κ} {v : α} (hS : St w0 w H) {i : Nat} (hm : a.eval m = .map (some b)) (hi : AtM H b i d (l.map (akv ek ev))) (hx : a.eval x = ek key) (hy : a.eval y = ev v)
    (ht : P.underlying t = some (.map k e)) (hd : P.underlying k = some d) (hk : MapKept.IsKey d (ek key)) (hinj : ∀ a b, ek a = ek b → a = b)
    (hK : ∀ w', St w0 w' (H.set i (.mp b d ((aput l key v).map (akv ek ev)))) → K (a.put dst undef) w') : Oper.wp P ⟨dst, .mapUpdate t m x y, ty, pos, after, gd⟩ a w K Q :=
  opA_put hS i hm hi.get hx hy ht hd hk hinj hK
theorem wpA_putI {t k e : TypeId} {m x y : Operand} {b : Nat} {d : TypeDesc} {l : List (κ × α)} {key : κ} {v : α} (hS : St w0 w H) {i : Nat} (hm : a.eval m = .map (some b)) (hi : AtM H b i d (l.map (akv ek ev))) (hx : a.eval x = ek key) (hy : a.eval y = ev v)
    (ht : P.underlying t = some (.map k e)) (hd : P.underlying k = some d) (hk : MapKept.IsKey d (ek key)) (hinj : ∀ a b, ek a = ek b → a = b)
    (hK : ∀ w', St w0 w' (H.set i (.mp b d ((aput l key v).map (akv ek ev)))) → wpList P ops Q rest (a.put dst undef) w') :
    wpList P ops Q (⟨dst, .mapUpdate t m x y, ty, pos, after, none⟩ :: rest) a w  :=
  wpA_put hS i hm hi.get hx hy ht hd hk hinj hK
theorem opA_delI {t k : TypeId} {e : TypeId} {m x : Operand} {b : Nat} {d : TypeDesc} {l : List (κ × α)} {key : κ} (hS : St w0 w H) {i : Nat} (hm : a.eval m = .map (some b)) (hi : AtM H b i d (l.map (akv ek ev))) (hx : a.eval x = ek key)
    (ht : P.underlying t = some (.map k e)) (hd : P.underlying k = some d) (hk : MapKept.IsKey d (ek key)) (hinj : ∀ a b, ek a = ek b → a = b)
    (hK : ∀ w', St w0 w' (H.set i (.mp b d ((adel l key).map (akv ek ev)))) → K (a.put dst (.tuple #[])) w') : Oper.wp P ⟨dst, .call { callee := .builtin .delete, args := #[m, x], argTypes := #[t, k] }, ty, pos, after, gd⟩ a w K Q :=
  opA_del hS i hm hi.get hx ht hd hk hinj hK
theorem wpA_delI {t k : TypeId} {e : TypeId} {m x : Operand} {b : Nat} {d : TypeDesc} {l : List (κ × α)} {key : κ} (hS : St w0 w H) {i : Nat} (hm : a.eval m = .map (some b)) (hi : AtM H b i d (l.map (akv ek ev))) (hx : a.eval x = ek key)
    (ht : P.underlying t = some (.map k e)) (hd : P.underlying k = some d) (hk : MapKept.IsKey d (ek key)) (hinj : ∀ a b, ek a = ek b → a = b)
    (hK : ∀ w', St w0 w' (H.set i (.mp b d ((adel l key).map (akv ek ev)))) → wpList P ops Q rest (a.put dst (.tuple #[])) w') :
    wpList P ops Q (⟨dst, .call { callee := .builtin .delete, args := #[m, x], argTypes := #[t, k] }, ty, pos, after, none⟩ :: rest) a w  :=
  wpA_del hS i hm hi.get hx ht hd hk hinj hK
end

/-- Cells of an element of a row. -/
theorem row_range {w : World} {e : TypeId} {size : Nat} {g n cap : Nat} {xs : List Value} (h : Hp.on w (.row e size (some ⟨g, 0, none⟩) n cap xs)) {j : Nat} {cs : List Value} (hc : ∀ i v, cs[i]? = some v → xs[j + i]? = some v) : w.rangeAt g j cs :=
  fun i v hi => row_cell h (j + i) (hc i v hi)

theorem flat_get {α : Type} {f : α → List Value} {size : Nat} (hf : ∀ x, (f x).length = size) : ∀ {l : List α} {k : Nat} {x : α}, l[k]? = some x → ∀ i v, (f x)[i]? = some v → (l.flatMap f)[k * size + i]? = some v
  | [], k, x, h, _, _, _ => by simp at h
  | y :: r, 0, x, h, i, v, hv => by
    simp at h; subst h
    rw [List.flatMap_cons, Nat.zero_mul, Nat.zero_add, List.getElem?_append_left (List.getElem?_eq_some_iff.1 hv).1]
    exact hv
  | y :: r, k + 1, x, h, i, v, hv => by
    simp only [List.getElem?_cons_succ] at h
    rw [List.flatMap_cons, List.getElem?_append_right (by rw [hf, Nat.add_mul]; omega), hf]
    have := flat_get hf h i v hv
    rwa [show (k + 1) * size + i - size = k * size + i by rw [Nat.add_mul]; omega]

theorem row_elem {w : World} {e : TypeId} {size : Nat} {g n cap : Nat} {α : Type} {f : α → List Value} {l : List α} (hf : ∀ x, (f x).length = size) (h : Hp.on w (.row e size (some ⟨g, 0, none⟩) n cap (l.flatMap f))) {k : Nat} {x : α} (hk : l[k]? = some x) : w.rangeAt g (k * size) (f x) :=
  row_range h (fun i v hv => flat_get hf hk i v hv)

theorem int_inj : ∀ a b : Int, Value.int .i64 a = Value.int .i64 b → a = b := fun a b h => by injection h
theorem str_inj : ∀ a b : ByteArray, Value.string a = Value.string b → a = b := fun a b h => by injection h
end Go.Proofs.Ytodojllclghoiaa
