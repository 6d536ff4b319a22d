/-
  The walk's laws on maps, over the heaplet 'mp': its entries as a list in the order of their births.
-/
import Derived.Test.YtodojllclghoiaaOps
namespace Go.Proofs.Ytodojllclghoiaa
set_option linter.unusedVariables false
set_option linter.unusedSimpArgs false
open Go.MapKept

theorem keys_apart {es : Array MapEntry} {clock : Nat} (h : Stamped es clock) {i j : Nat} {x y : MapEntry} (hi : es.toList[i]? = some x) (hj : es.toList[j]? = some y) (e : x.key = y.key) : i = j := by
  have h3 := h.2.2
  have hi' : (es.toList.map (·.key))[i]? = some x.key := by simp [hi]
  have hj' : (es.toList.map (·.key))[j]? = some x.key := by simp [hj, e]
  obtain ⟨li, ei⟩ := List.getElem?_eq_some_iff.1 hi'
  obtain ⟨lj, ej⟩ := List.getElem?_eq_some_iff.1 hj'
  exact (List.getElem_inj h3).1 (ei.trans ej.symm)

section
variable {P : Program} {w : World} {b : Nat} {d : TypeDesc} {kvs : List (Value × Value)} {key : Value} {t k e : TypeId}

/-- The search in the entries, where no entry bears the key. -/
theorem find_none {es : Array MapEntry} (hkv : es.toList.map (fun x => (x.key, x.val)) = kvs) (hk : IsKey d key) (hks : ∀ p ∈ kvs, IsKey d p.1) (hn : ∀ p ∈ kvs, p.1 ≠ key) :
    Instr.findNow d key es.toList 0 = some none := by
  have hks' : ∀ x ∈ es.toList, IsKey d x.key := fun x hx => hks (x.key, x.val) (by rw [← hkv]; exact List.mem_map.2 ⟨x, hx, rfl⟩)
  rcases findNow_spec hk es.toList 0 hks' with ⟨h, _⟩ | ⟨j, x, _, hx, hxk⟩
  · exact h
  · exact absurd hxk (hn (x.key, x.val) (by rw [← hkv]; exact List.mem_map.2 ⟨x, List.mem_of_getElem? hx, rfl⟩))

/-- .. where the entry at i bears it. -/
theorem find_some {es : Array MapEntry} {clock : Nat} (hst : Stamped es clock) (hkv : es.toList.map (fun x => (x.key, x.val)) = kvs) (hk : IsKey d key) (hks : ∀ p ∈ kvs, IsKey d p.1) {i : Nat} {v : Value} (hi : kvs[i]? = some (key, v)) :
    ∃ x, Instr.findNow d key es.toList 0 = some (some (i, x.val)) ∧ es.toList[i]? = some x ∧ x.key = key ∧ x.val = v := by
  have hks' : ∀ x ∈ es.toList, IsKey d x.key := fun x hx => hks (x.key, x.val) (by rw [← hkv]; exact List.mem_map.2 ⟨x, hx, rfl⟩)
  have hi' : ∃ y, es.toList[i]? = some y ∧ y.key = key ∧ y.val = v := by
    rw [← hkv, List.getElem?_map, Option.map_eq_some_iff] at hi
    obtain ⟨y, hy, e⟩ := hi
    simp only [Prod.mk.injEq] at e
    exact ⟨y, hy, e.1, e.2⟩
  obtain ⟨y, hy, yk, yv⟩ := hi'
  rcases findNow_spec hk es.toList 0 hks' with ⟨_, h⟩ | ⟨j, x, h, hx, hxk⟩
  · exact absurd yk (h y (List.mem_of_getElem? hy))
  · have := keys_apart hst hx hy (hxk.trans yk.symm)
    subst this
    rw [hx] at hy
    obtain rfl := Option.some.inj hy
    exact ⟨x, by simpa using h, hx, yk, yv⟩

theorem run_lookup_none (ht : P.underlying t = some (.map k e)) (hd : P.underlying k = some d) (h : Hp.on w (.mp b d kvs)) (hk : IsKey d key) {z : Value} (hz : (P.info? e).bind (·.zero) = some z) (hn : ∀ p ∈ kvs, p.1 ≠ key) (c : Bool) :
    (Instr.lookup t (.map (some b)) key c).run P w = .ok (if c then .tuple #[z, .bool false] else z) w := by
  obtain ⟨es, clock, hb, hst, hkv, hks⟩ := h
  have hf := run_findKey (P := P) (w := w) hd (find_none hkv hk hks hn)
  have hzr : (zeroValue e).run P w = .ok z w := by
    cases hq : P.info? e with
    | none => simp [hq] at hz
    | some q =>
      have : q.zero = some z := by simpa [hq] using hz
      simp [zeroValue, typeInfo, hq, this]
  simp [Instr.lookup, run_underlying ht, MapKept.run_getObj_map hb, run_checkKey hd hk, hf, hzr, Result.andThen]

theorem run_lookup_some (ht : P.underlying t = some (.map k e)) (hd : P.underlying k = some d) (h : Hp.on w (.mp b d kvs)) (hk : IsKey d key) {i : Nat} {v : Value} (hi : kvs[i]? = some (key, v)) (c : Bool) :
    (Instr.lookup t (.map (some b)) key c).run P w = .ok (if c then .tuple #[v, .bool true] else v) w := by
  obtain ⟨es, clock, hb, hst, hkv, hks⟩ := h
  obtain ⟨x, hx, _, _, rfl⟩ := find_some (kvs := kvs) hst hkv hk hks hi
  have hf := run_findKey (P := P) (w := w) hd hx
  simp [Instr.lookup, run_underlying ht, MapKept.run_getObj_map hb, run_checkKey hd hk, hf, Result.andThen]

theorem setObj_eq (o : Obj) {o' : Obj} (hb : w.heap[b]? = some o') : ({ w with heap := w.heap.setIfInBounds b o } : World).heap[b]? = some o := (heap_set hb).1

theorem turn_setObj (o : Obj) : Turn w ({ w with heap := w.heap.setIfInBounds b o } : World) [b] :=
  ⟨rfl, rfl, rfl, by simp, fun i _ hi => by simp at hi; simp [Array.getElem?_setIfInBounds, Ne.symm hi]⟩

theorem run_update_new (ht : P.underlying t = some (.map k e)) (hd : P.underlying k = some d) (h : Hp.on w (.mp b d kvs)) (hk : IsKey d key) (hn : ∀ p ∈ kvs, p.1 ≠ key) (v : Value) :
    ∃ w', (Instr.mapUpdate t (.map (some b)) key v).run P w = .ok () w' ∧ Hp.on w' (.mp b d (kvs ++ [(key, v)])) ∧ Turn w w' [b] := by
  obtain ⟨es, clock, hb, hst, hkv, hks⟩ := h
  have hf := run_findKey (P := P) (w := w) hd (find_none hkv hk hks hn)
  refine ⟨{ w with heap := w.heap.setIfInBounds b (.map (es.push { key, val := v, born := clock }) (clock + 1)) }, ?_, ⟨_, _, setObj_eq _ hb, stamped_push hst (fun x hx => hn (x.key, x.val) (by rw [← hkv]; exact List.mem_map.2 ⟨x, hx, rfl⟩)), by simp [hkv], ?_⟩, turn_setObj _⟩
  · simp [Instr.mapUpdate, run_underlying ht, MapKept.run_getObj_map hb, run_checkKey hd hk, hf, MapKept.run_setObj_map _ hb, Result.andThen]
  · intro p hp
    rcases List.mem_append.1 hp with hp | hp
    · exact hks p hp
    · simp at hp; subst hp; exact hk

theorem run_update_old (ht : P.underlying t = some (.map k e)) (hd : P.underlying k = some d) (h : Hp.on w (.mp b d kvs)) (hk : IsKey d key) {i : Nat} {v0 : Value} (hi : kvs[i]? = some (key, v0)) (v : Value) :
    ∃ w', (Instr.mapUpdate t (.map (some b)) key v).run P w = .ok () w' ∧ Hp.on w' (.mp b d (kvs.set i (key, v))) ∧ Turn w w' [b] := by
  obtain ⟨es, clock, hb, hst, hkv, hks⟩ := h
  obtain ⟨x, hx, hxi, hxk, _⟩ := find_some (kvs := kvs) hst hkv hk hks hi
  have hf := run_findKey (P := P) (w := w) hd hx
  have hxa : es[i]? = some x := by simpa using hxi
  have hmod : (es.modify i (fun e => { e with key := key, val := v })).toList = es.toList.set i { x with key := key, val := v } := by
    rw [Array.toList_modify, ChangeMaps.modify_eq_set _ _ _ _ hxi]
  refine ⟨{ w with heap := w.heap.setIfInBounds b (.map (es.modify i fun e => { e with key := key, val := v }) clock) }, ?_, ⟨_, _, setObj_eq _ hb, stamped_modify hst i _ (fun _ _ => rfl) (fun y _ hy => ?_), ?_, ?_⟩, turn_setObj _⟩
  · simp [Instr.mapUpdate, run_underlying ht, MapKept.run_getObj_map hb, run_checkKey hd hk, hf, hxa, hxk, run_keyThatStays hk, MapKept.run_setObj_map _ hb, Result.andThen]
  · rw [hxa] at hy; cases hy; exact hxk.symm
  · rw [hmod, List.map_set, hkv]
  · intro p hp
    rcases List.mem_or_eq_of_mem_set hp with hp | hp
    · exact hks p hp
    · rw [hp]; exact hk

theorem run_delete_none {ty : TypeId} (ht : P.underlying t = some (.map k e)) (hd : P.underlying k = some d) (h : Hp.on w (.mp b d kvs)) (hk : IsKey d key) (hn : ∀ p ∈ kvs, p.1 ≠ key) :
    ∃ w', (Builtin.delete_ #[t, k] ty #[.map (some b), key]).run P w = .ok (.tuple #[]) w' ∧ Hp.on w' (.mp b d kvs) ∧ Turn w w' [b] := by
  obtain ⟨es, clock, hb, hst, hkv, hks⟩ := h
  have hf := run_findKey (P := P) (w := w) hd (find_none hkv hk hks hn)
  refine ⟨{ w with heap := w.heap.setIfInBounds b (.map es clock) }, ?_, ⟨_, _, setObj_eq _ hb, hst, hkv, hks⟩, turn_setObj _⟩
  simp [Builtin.delete_, run_underlying ht, MapKept.run_getObj_map hb, run_checkKey hd hk, hf, MapKept.run_setObj_map _ hb, Result.andThen]

theorem run_delete_some {ty : TypeId} (ht : P.underlying t = some (.map k e)) (hd : P.underlying k = some d) (h : Hp.on w (.mp b d kvs)) (hk : IsKey d key) {i : Nat} {v : Value} (hi : kvs[i]? = some (key, v)) :
    ∃ w', (Builtin.delete_ #[t, k] ty #[.map (some b), key]).run P w = .ok (.tuple #[]) w' ∧ Hp.on w' (.mp b d (kvs.eraseIdx i)) ∧ Turn w w' [b] := by
  obtain ⟨es, clock, hb, hst, hkv, hks⟩ := h
  obtain ⟨x, hx, hxi, hxk, _⟩ := find_some (kvs := kvs) hst hkv hk hks hi
  have hf := run_findKey (P := P) (w := w) hd hx
  have hl : i < es.size := by have := (List.getElem?_eq_some_iff.1 hxi).1; simpa using this
  refine ⟨{ w with heap := w.heap.setIfInBounds b (.map (es.eraseIdxIfInBounds i) clock) }, ?_, ⟨_, _, setObj_eq _ hb, stamped_erase hst i, ?_, ?_⟩, turn_setObj _⟩
  · simp [Builtin.delete_, run_underlying ht, MapKept.run_getObj_map hb, run_checkKey hd hk, hf, MapKept.run_setObj_map _ hb, Result.andThen]
  · rw [Array.eraseIdxIfInBounds, dif_pos hl, Array.toList_eraseIdx, ChangeMaps.map_eraseIdx, hkv]
  · intro p hp
    exact hks p ((List.eraseIdx_sublist _ _).subset hp)

theorem run_len_mp {ty : TypeId} (ht : P.underlying t = some (.map k e)) (h : Hp.on w (.mp b d kvs)) :
    (Builtin.len_ #[t] ty #[.map (some b)]).run P w = .ok (.int .i64 kvs.length) w := by
  obtain ⟨es, clock, hb, hst, hkv, hks⟩ := h
  have : kvs.length = es.size := by rw [← hkv]; simp
  simp [Builtin.len_, run_underlying ht, MapKept.run_getObj_map hb, Result.andThen, goInt, this]
end

section
variable {P : Program} {K : Act → World → Prop} {o : Oper} {a : Act} {Q : Exit → Act → World → Prop} {w0 w : World} {H : List Hp} {b : Nat} {d : TypeDesc} {kvs : List (Value × Value)} {key : Value} {t k e : TypeId}

theorem St.setMap (hS : St w0 w H) (i : Nat) (hi : H[i]? = some (.mp b d kvs)) {w' : World} {kvs' : List (Value × Value)} (h : Hp.on w' (.mp b d kvs')) (hT : Turn w w' [b]) : St w0 w' (H.set i (.mp b d kvs')) :=
  hS.setAt i hi (by simpa [Hp.fp] using hT) (by simp [Hp.fp]) (by simp [Hp.fp]) h

theorem opS_lookup (c : Bool) (m x : Operand) (hop : o.op = .lookup t m x c) (hS : St w0 w H) (i : Nat) (hm : a.eval m = .map (some b)) (hx : a.eval x = key) (hi : H[i]? = some (.mp b d kvs))
    (ht : P.underlying t = some (.map k e)) (hd : P.underlying k = some d) (hk : IsKey d key) {z : Value} (r : Option Value) (hz : (P.info? e).bind (·.zero) = some z)
    (hr : match r with | none => ∀ p ∈ kvs, p.1 ≠ key | some v => ∃ j : Nat, kvs[j]? = some (key, v))
    (hK : K (a.put o.dst (if c then .tuple #[r.getD z, .bool r.isSome] else r.getD z)) w) : o.wp P a w K Q := by
  have hrun : (Instr.lookup t (.map (some b)) key c).run P w = .ok (if c then .tuple #[r.getD z, .bool r.isSome] else r.getD z) w := by
    cases r with
    | none => exact run_lookup_none ht hd (hS.at_ i hi) hk hz hr c
    | some v => obtain ⟨j, hj⟩ := hr; exact run_lookup_some ht hd (hS.at_ i hi) hk hj c
  unfold Oper.wp
  simp only [execOp, hop, hm, hx, Sem.run_bind, hrun, Result.andThen_ok, Sem.run_pure]
  exact hK

theorem opS_update_new (m x y : Operand) (hop : o.op = .mapUpdate t m x y) (hS : St w0 w H) (i : Nat) {v : Value} (hm : a.eval m = .map (some b)) (hx : a.eval x = key) (hy : a.eval y = v) (hi : H[i]? = some (.mp b d kvs))
    (ht : P.underlying t = some (.map k e)) (hd : P.underlying k = some d) (hk : IsKey d key) (hn : ∀ p ∈ kvs, p.1 ≠ key)
    (hK : ∀ w', St w0 w' (H.set i (.mp b d (kvs ++ [(key, v)]))) → K (a.put o.dst undef) w') : o.wp P a w K Q := by
  obtain ⟨w', hrun, h1, h2⟩ := run_update_new ht hd (hS.at_ i hi) hk hn v
  unfold Oper.wp
  simp only [execOp, hop, hm, hx, hy, Sem.run_bind, hrun, Result.andThen_ok, Sem.run_pure]
  exact (hK _ (hS.setMap i hi h1 h2))

theorem opS_update_old (m x y : Operand) (hop : o.op = .mapUpdate t m x y) (hS : St w0 w H) (i : Nat) {v v0 : Value} (hm : a.eval m = .map (some b)) (hx : a.eval x = key) (hy : a.eval y = v) (hi : H[i]? = some (.mp b d kvs))
    (ht : P.underlying t = some (.map k e)) (hd : P.underlying k = some d) (hk : IsKey d key) {j : Nat} (hj : kvs[j]? = some (key, v0))
    (hK : ∀ w', St w0 w' (H.set i (.mp b d (kvs.set j (key, v)))) → K (a.put o.dst undef) w') : o.wp P a w K Q := by
  obtain ⟨w', hrun, h1, h2⟩ := run_update_old ht hd (hS.at_ i hi) hk hj v
  unfold Oper.wp
  simp only [execOp, hop, hm, hx, hy, Sem.run_bind, hrun, Result.andThen_ok, Sem.run_pure]
  exact (hK _ (hS.setMap i hi h1 h2))

theorem opS_delete (m x : Operand) (hop : o.op = .call { callee := .builtin .delete, args := #[m, x], argTypes := #[t, k] }) (hS : St w0 w H) (i : Nat) (hm : a.eval m = .map (some b)) (hx : a.eval x = key) (hi : H[i]? = some (.mp b d kvs))
    (ht : P.underlying t = some (.map k e)) (hd : P.underlying k = some d) (hk : IsKey d key) {kvs' : List (Value × Value)} (hr : ((∀ p ∈ kvs, p.1 ≠ key) ∧ kvs' = kvs) ∨ ∃ j v, kvs[j]? = some (key, v) ∧ kvs' = kvs.eraseIdx j)
    (hK : ∀ w', St w0 w' (H.set i (.mp b d kvs')) → K (a.put o.dst (.tuple #[])) w') : o.wp P a w K Q := by
  have : ∃ w', (Builtin.delete_ #[t, k] o.type #[.map (some b), key]).run P w = .ok (.tuple #[]) w' ∧ Hp.on w' (.mp b d kvs') ∧ Turn w w' [b] := by
    rcases hr with ⟨hn, rfl⟩ | ⟨j, v, hj, rfl⟩
    · exact run_delete_none ht hd (hS.at_ i hi) hk hn
    · exact run_delete_some ht hd (hS.at_ i hi) hk hj
  obtain ⟨w', hrun, h1, h2⟩ := this
  unfold Oper.wp
  simp [execOp, hop, resolve, invoke, builtin, hm, hx, hrun, Result.andThen]
  exact (hK _ (hS.setMap i hi h1 h2))

theorem opS_len (m : Operand) (hop : o.op = .call { callee := .builtin .len, args := #[m], argTypes := #[t] }) (hS : St w0 w H) (i : Nat) (hm : a.eval m = .map (some b)) (hi : H[i]? = some (.mp b d kvs))
    (ht : P.underlying t = some (.map k e)) (hK : K (a.put o.dst (.int .i64 kvs.length)) w) : o.wp P a w K Q := by
  have hrun := run_len_mp (P := P) (ty := o.type) ht (hS.at_ i hi)
  unfold Oper.wp
  simp [execOp, hop, resolve, invoke, builtin, hm, hrun, Result.andThen]
  exact hK
end
end Go.Proofs.Ytodojllclghoiaa
