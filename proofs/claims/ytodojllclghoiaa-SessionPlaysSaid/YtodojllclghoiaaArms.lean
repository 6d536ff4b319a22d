/-
  The laws of Ops, Maps, Rows over an operation that is written out: what an arm of the walk refines by.
-/
import Derived.Test.YtodojllclghoiaaSlRows
namespace Go.Proofs.Ytodojllclghoiaa
set_option linter.unusedVariables false
set_option linter.unusedSimpArgs false

def plainB (P : Program) (t : TypeId) : Bool := match P.underlying t with | some d => plainDesc d | none => false
def rowB (P : Program) (t : TypeId) : Bool := match P.underlying t with | some d => d.isRow | none => false
def sizeIs (P : Program) (t : TypeId) (n : Nat) : Bool := (P.info? t).map (·.size) == some n

theorem plainB_out {P : Program} {t : TypeId} (h : plainB P t = true) : ∃ d, P.underlying t = some d ∧ plainDesc d = true := by
  unfold plainB at h
  split at h
  · exact ⟨_, by assumption, h⟩
  · cases h
theorem rowB_out {P : Program} {t : TypeId} (h : rowB P t = true) : ∃ d, P.underlying t = some d ∧ d.isRow = true := by
  unfold rowB at h
  split at h
  · exact ⟨_, by assumption, h⟩
  · cases h
theorem sizeIs_out {P : Program} {t : TypeId} {n : Nat} (h : sizeIs P t n = true) : (P.info? t).map (·.size) = some n := by
  unfold sizeIs at h
  exact eq_of_beq h

section
variable {P : Program} {K : Act → World → Prop} {gd : Option (Nat × Bool)} {dst : Option Tmp} {ty : TypeId} {pos : String} {after : Array Edge} {a : Act} {Q : Exit → Act → World → Prop} {w0 w : World} {H : List Hp}

/-- A load of one cell, wherever it lies. -/
theorem opA_load {t : TypeId} {x : Operand} {p : Addr} {v : Value} (hx : a.eval x = .pointer (some p)) (hc : w.cell? p = some v) (hu : plainB P t = true)
    (hK : K (a.put dst v) w) : Oper.wp P ⟨dst, .load t x, ty, pos, after, gd⟩ a w K Q := by
  obtain ⟨d, h1, h2⟩ := plainB_out hu
  unfold Oper.wp
  simp [execOp, hx, Instr.loadAt, Instr.sureAddr, run_loadVar_plain h1 h2 hc, Result.andThen]
  exact hK

theorem opA_loadN {t : TypeId} {x : Operand} {g j : Nat} {cs : List Value} (hx : a.eval x = .pointer (some ⟨g, j, none⟩)) (hc : w.rangeAt g j cs) (hu : rowB P t = true) (hn : sizeIs P t cs.length = true)
    (hK : K (a.put dst (.agg cs.toArray)) w) : Oper.wp P ⟨dst, .load t x, ty, pos, after, gd⟩ a w K Q := by
  obtain ⟨d, h1, h2⟩ := rowB_out hu
  have := run_loadAt_mid (P := P) w g j t cs d hc h1 h2 (sizeIs_out hn)
  unfold Oper.wp
  simp [execOp, hx, this, Result.andThen]
  exact hK

theorem opA_store1 {t : TypeId} {x y : Operand} (hS : St w0 w H) (i : Nat) {g : Nat} {vs : List Value} {tt : TypeId} {j : Nat} {v : Value}
    (hx : a.eval x = .pointer (some ⟨g, j, none⟩)) (hi : H[i]? = some (.cells g vs tt)) (hy : a.eval y = v) (hv : v.cells = #[v]) (h1 : v.oneCell' = true) (hfit : (vs[j]?).isSome = true) (hn : sizeIs P t 1 = true)
    (hK : ∀ w', St w0 w' (H.set i (.cells g (vs.set j v) tt)) → K (a.put dst undef) w') : Oper.wp P ⟨dst, .store t x y, ty, pos, after, gd⟩ a w K Q :=
  opS_store1 t x y rfl hS i hx hy hi hv h1 (sizeIs_out hn) hfit hK

theorem opA_store {t : TypeId} {x y : Operand} (hS : St w0 w H) (i : Nat) {g : Nat} {vs : List Value} {tt : TypeId} {j : Nat} {v : Value} {cs : List Value}
    (hx : a.eval x = .pointer (some ⟨g, j, none⟩)) (hi : H[i]? = some (.cells g vs tt)) (hy : a.eval y = v) (hv : v.cells.toList = cs) (h1 : cs.all Value.oneCell' = true) (hfit : j + cs.length ≤ vs.length) (hn : sizeIs P t cs.length = true)
    (hK : ∀ w', St w0 w' (H.set i (.cells g (vs.take j ++ cs ++ vs.drop (j + cs.length)) tt)) → K (a.put dst undef) w') : Oper.wp P ⟨dst, .store t x y, ty, pos, after, gd⟩ a w K Q :=
  opS_store t x y rfl hS i hx hy hi hv (sizeIs_out hn) h1 hfit hK

theorem opA_box {t : TypeId} {x : Operand} (hS : St w0 w H) {v : Value} {cs : List Value} (hx : a.eval x = v) (hv : v.cells.toList = cs)
    (hK : ∀ g w', St w0 w' (.cells g cs t :: H) → K (a.put dst (.pointer (some ⟨g, 0, none⟩))) w') : Oper.wp P ⟨dst, .box t x, ty, pos, after, gd⟩ a w K Q :=
  opS_box t x rfl hS hx hv hK

theorem opA_alloc {t : TypeId} (hS : St w0 w H) {v : Value} {cs : List Value} (hz : (P.info? t).bind (·.zero) = some v) (hv : v.cells.toList = cs)
    (hK : ∀ g w', St w0 w' (.cells g cs t :: H) → K (a.put dst (.pointer (some ⟨g, 0, none⟩))) w') : Oper.wp P ⟨dst, .alloc t, ty, pos, after, gd⟩ a w K Q :=
  opS_alloc t rfl hS hz hv hK

theorem opA_makeMap {t : TypeId} (hS : St w0 w H) (d : TypeDesc) (hK : ∀ g w', St w0 w' (.mp g d [] :: H) → K (a.put dst (.map (some g))) w') :
    Oper.wp P ⟨dst, .makeMap t none, ty, pos, after, gd⟩ a w K Q :=
  opS_makeMap t rfl hS d hK

theorem opA_lookup {t k e : TypeId} {m x : Operand} {c : Bool} {b : Nat} {d : TypeDesc} {kvs : List (Value × Value)} {key : Value} (hS : St w0 w H) (i : Nat) (hm : a.eval m = .map (some b)) (hi : H[i]? = some (.mp b d kvs)) (hx : a.eval x = key)
    (ht : P.underlying t = some (.map k e)) (hd : P.underlying k = some d) (hk : MapKept.IsKey d key) {z : Value} (r : Option Value) (hz : (P.info? e).bind (·.zero) = some z)
    (hr : match r with | none => ∀ p ∈ kvs, p.1 ≠ key | some v => ∃ j : Nat, kvs[j]? = some (key, v))
    (hK : K (a.put dst (if c then .tuple #[r.getD z, .bool r.isSome] else r.getD z)) w) : Oper.wp P ⟨dst, .lookup t m x c, ty, pos, after, gd⟩ a w K Q :=
  opS_lookup c m x rfl hS i hm hx hi ht hd hk r hz hr hK

theorem opA_update_new {t k e : TypeId} {m x y : Operand} {b : Nat} {d : TypeDesc} {kvs : List (Value × Value)} {key v : Value} (hS : St w0 w H) (i : Nat) (hm : a.eval m = .map (some b)) (hi : H[i]? = some (.mp b d kvs)) (hx : a.eval x = key) (hy : a.eval y = v)
    (ht : P.underlying t = some (.map k e)) (hd : P.underlying k = some d) (hk : MapKept.IsKey d key) (hn : ∀ p ∈ kvs, p.1 ≠ key)
    (hK : ∀ w', St w0 w' (H.set i (.mp b d (kvs ++ [(key, v)]))) → K (a.put dst undef) w') : Oper.wp P ⟨dst, .mapUpdate t m x y, ty, pos, after, gd⟩ a w K Q :=
  opS_update_new m x y rfl hS i hm hx hy hi ht hd hk hn hK

theorem opA_update_old {t k e : TypeId} {m x y : Operand} {b : Nat} {d : TypeDesc} {kvs : List (Value × Value)} {key v v0 : Value} (hS : St w0 w H) (i : Nat) (hm : a.eval m = .map (some b)) (hi : H[i]? = some (.mp b d kvs)) (hx : a.eval x = key) (hy : a.eval y = v)
    (ht : P.underlying t = some (.map k e)) (hd : P.underlying k = some d) (hk : MapKept.IsKey d key) {j : Nat} (hj : kvs[j]? = some (key, v0))
    (hK : ∀ w', St w0 w' (H.set i (.mp b d (kvs.set j (key, v)))) → K (a.put dst undef) w') : Oper.wp P ⟨dst, .mapUpdate t m x y, ty, pos, after, gd⟩ a w K Q :=
  opS_update_old m x y rfl hS i hm hx hy hi ht hd hk hj hK

theorem opA_delete {t k e : TypeId} {m x : Operand} {b : Nat} {d : TypeDesc} {kvs : List (Value × Value)} {key : Value} (hS : St w0 w H) (i : Nat) (hm : a.eval m = .map (some b)) (hi : H[i]? = some (.mp b d kvs)) (hx : a.eval x = key)
    (ht : P.underlying t = some (.map k e)) (hd : P.underlying k = some d) (hk : MapKept.IsKey d key) {kvs' : List (Value × Value)} (hr : ((∀ p ∈ kvs, p.1 ≠ key) ∧ kvs' = kvs) ∨ ∃ (j : Nat) (v : Value), kvs[j]? = some (key, v) ∧ kvs' = kvs.eraseIdx j)
    (hK : ∀ w', St w0 w' (H.set i (.mp b d kvs')) → K (a.put dst (.tuple #[])) w') : Oper.wp P ⟨dst, .call { callee := .builtin .delete, args := #[m, x], argTypes := #[t, k] }, ty, pos, after, gd⟩ a w K Q :=
  opS_delete m x rfl hS i hm hx hi ht hd hk hr hK

theorem opA_lenMap {t k e : TypeId} {m : Operand} {b : Nat} {d : TypeDesc} {kvs : List (Value × Value)} (hS : St w0 w H) (i : Nat) (hm : a.eval m = .map (some b)) (hi : H[i]? = some (.mp b d kvs)) (ht : P.underlying t = some (.map k e))
    (hK : K (a.put dst (.int .i64 kvs.length)) w) : Oper.wp P ⟨dst, .call { callee := .builtin .len, args := #[m], argTypes := #[t] }, ty, pos, after, gd⟩ a w K Q :=
  opS_len m rfl hS i hm hi ht hK

theorem opA_append {t u e : TypeId} {s x : Operand} {size bytes : Nat} {z v : Value} {ao : Option Addr} {n cap : Nat} {xs : List Value} (hS : St w0 w H) (k : Nat)
    (hs : a.eval s = .slice ao n cap) (hi : H[k]? = some (.row e size ao n cap xs)) (hx : a.eval x = v)
    (ht : P.underlying t = some (.slice e)) (hu : P.underlying u = some .string ∨ P.underlying u = some (.slice e)) (hinfo : (P.info? e).map (fun i => (i.zero, i.size, i.bytes)) = some (some z, size, bytes)) (hzs : z.cells.size = size)
    {m : Nat} {news : List Value} (hsrc : Src P w size v m news) (h63 : n + m ≤ maxLen) (hbytes : (n + m) * bytes ≤ 140737488355328)
    (hK : ∀ ao' cap' w', St w0 w' (H.set k (.row e size ao' (n + m) cap' (xs ++ news))) → K (a.put dst (.slice ao' (n + m) cap')) w') :
    Oper.wp P ⟨dst, .call { callee := .builtin .append, args := #[s, x], argTypes := #[t, u] }, ty, pos, after, gd⟩ a w K Q :=
  opS_append s x t u rfl hS k hs hi hx ht hu hinfo hzs hsrc h63 hbytes hK

/-- A slice literal of one element of one cell. -/
theorem opA_one {t e : TypeId} {x : Operand} (hS : St w0 w H) {z v : Value} {bytes : Nat} (ht : P.underlying t = some (.slice e)) (hinfo : (P.info? e).map (fun i => (i.zero, i.size, i.bytes)) = some (some z, 1, bytes)) (hzs : z.cells.size = 1)
    (hx : a.eval x = v) (hv : v.cells = #[v])
    (hK : ∀ g w', St w0 w' (.cells g [v] e :: H) → K (a.put dst (.slice (some ⟨g, 0, none⟩) 1 1)) w') : Oper.wp P ⟨dst, .buildSlice t 1 #[(0, x)], ty, pos, after, gd⟩ a w K Q := by
  refine opS_buildSlice t 1 #[(0, x)] rfl hS ht hinfo (by decide) (by decide) (cs := [v]) ?_ hK
  rw [show Array.range (1 * 1) = #[0] from rfl]
  simp [Instr.fill, hx, hv]

end

section
variable {P : Program} {ops : Array Oper} {rest : List Oper} {dst : Option Tmp} {ty : TypeId} {pos : String} {after : Array Edge} {a : Act} {Q : Exit → Act → World → Prop} {w0 w : World} {H : List Hp}
theorem wpA_load {t : TypeId} {x : Operand} {p : Addr} {v : Value} (hx : a.eval x = .pointer (some p)) (hc : w.cell? p = some v) (hu : plainB P t = true)
    (hK : wpList P ops Q rest (a.put dst v) w) :
    wpList P ops Q (⟨dst, .load t x, ty, pos, after, none⟩ :: rest) a w :=
  wpList_plain rfl fun _ h => opA_load hx hc hu (h _ _ hK)

theorem wpA_loadN {t : TypeId} {x : Operand} {g j : Nat} {cs : List Value} (hx : a.eval x = .pointer (some ⟨g, j, none⟩)) (hc : w.rangeAt g j cs) (hu : rowB P t = true) (hn : sizeIs P t cs.length = true)
    (hK : wpList P ops Q rest (a.put dst (.agg cs.toArray)) w) :
    wpList P ops Q (⟨dst, .load t x, ty, pos, after, none⟩ :: rest) a w :=
  wpList_plain rfl fun _ h => opA_loadN hx hc hu hn (h _ _ hK)

theorem wpA_store1 {t : TypeId} {x y : Operand} (hS : St w0 w H) (i : Nat) {g : Nat} {vs : List Value} {tt : TypeId} {j : Nat} {v : Value}
    (hx : a.eval x = .pointer (some ⟨g, j, none⟩)) (hi : H[i]? = some (.cells g vs tt)) (hy : a.eval y = v) (hv : v.cells = #[v]) (h1 : v.oneCell' = true) (hfit : (vs[j]?).isSome = true) (hn : sizeIs P t 1 = true)
    (hK : ∀ w', St w0 w' (H.set i (.cells g (vs.set j v) tt)) → wpList P ops Q rest (a.put dst undef) w') :
    wpList P ops Q (⟨dst, .store t x y, ty, pos, after, none⟩ :: rest) a w :=
  wpList_plain rfl fun _ h => opA_store1 hS i hx hi hy hv h1 hfit hn (fun w' h_ => h _ _ (hK w' h_))

theorem wpA_store {t : TypeId} {x y : Operand} (hS : St w0 w H) (i : Nat) {g : Nat} {vs : List Value} {tt : TypeId} {j : Nat} {v : Value} {cs : List Value}
    (hx : a.eval x = .pointer (some ⟨g, j, none⟩)) (hi : H[i]? = some (.cells g vs tt)) (hy : a.eval y = v) (hv : v.cells.toList = cs) (h1 : cs.all Value.oneCell' = true) (hfit : j + cs.length ≤ vs.length) (hn : sizeIs P t cs.length = true)
    (hK : ∀ w', St w0 w' (H.set i (.cells g (vs.take j ++ cs ++ vs.drop (j + cs.length)) tt)) → wpList P ops Q rest (a.put dst undef) w') :
    wpList P ops Q (⟨dst, .store t x y, ty, pos, after, none⟩ :: rest) a w :=
  wpList_plain rfl fun _ h => opA_store hS i hx hi hy hv h1 hfit hn (fun w' h_ => h _ _ (hK w' h_))

theorem wpA_box {t : TypeId} {x : Operand} (hS : St w0 w H) {v : Value} {cs : List Value} (hx : a.eval x = v) (hv : v.cells.toList = cs)
    (hK : ∀ g w', St w0 w' (.cells g cs t :: H) → wpList P ops Q rest (a.put dst (.pointer (some ⟨g, 0, none⟩))) w') :
    wpList P ops Q (⟨dst, .box t x, ty, pos, after, none⟩ :: rest) a w :=
  wpList_plain rfl fun _ h => opA_box hS hx hv (fun g w' h_ => h _ _ (hK g w' h_))

theorem wpA_alloc {t : TypeId} (hS : St w0 w H) {v : Value} {cs : List Value} (hz : (P.info? t).bind (·.zero) = some v) (hv : v.cells.toList = cs)
    (hK : ∀ g w', St w0 w' (.cells g cs t :: H) → wpList P ops Q rest (a.put dst (.pointer (some ⟨g, 0, none⟩))) w') :
    wpList P ops Q (⟨dst, .alloc t, ty, pos, after, none⟩ :: rest) a w :=
  wpList_plain rfl fun _ h => opA_alloc hS hz hv (fun g w' h_ => h _ _ (hK g w' h_))

theorem wpA_makeMap {t : TypeId} (hS : St w0 w H) (d : TypeDesc) (hK : ∀ g w', St w0 w' (.mp g d [] :: H) → wpList P ops Q rest (a.put dst (.map (some g))) w') :
    wpList P ops Q (⟨dst, .makeMap t none, ty, pos, after, none⟩ :: rest) a w :=
  wpList_plain rfl fun _ h => opA_makeMap hS d (fun g w' h_ => h _ _ (hK g w' h_))

theorem wpA_lookup {t k e : TypeId} {m x : Operand} {c : Bool} {b : Nat} {d : TypeDesc} {kvs : List (Value × Value)} {key : Value} (hS : St w0 w H) (i : Nat) (hm : a.eval m = .map (some b)) (hi : H[i]? = some (.mp b d kvs)) (hx : a.eval x = key)
    (ht : P.underlying t = some (.map k e)) (hd : P.underlying k = some d) (hk : MapKept.IsKey d key) {z : Value} (r : Option Value) (hz : (P.info? e).bind (·.zero) = some z)
    (hr : match r with | none => ∀ p ∈ kvs, p.1 ≠ key | some v => ∃ j : Nat, kvs[j]? = some (key, v))
    (hK : wpList P ops Q rest (a.put dst (if c then .tuple #[r.getD z, .bool r.isSome] else r.getD z)) w) :
    wpList P ops Q (⟨dst, .lookup t m x c, ty, pos, after, none⟩ :: rest) a w :=
  wpList_plain rfl fun _ h => opA_lookup hS i hm hi hx ht hd hk r hz hr (h _ _ hK)

theorem wpA_update_new {t k e : TypeId} {m x y : Operand} {b : Nat} {d : TypeDesc} {kvs : List (Value × Value)} {key v : Value} (hS : St w0 w H) (i : Nat) (hm : a.eval m = .map (some b)) (hi : H[i]? = some (.mp b d kvs)) (hx : a.eval x = key) (hy : a.eval y = v)
    (ht : P.underlying t = some (.map k e)) (hd : P.underlying k = some d) (hk : MapKept.IsKey d key) (hn : ∀ p ∈ kvs, p.1 ≠ key)
    (hK : ∀ w', St w0 w' (H.set i (.mp b d (kvs ++ [(key, v)]))) → wpList P ops Q rest (a.put dst undef) w') :
    wpList P ops Q (⟨dst, .mapUpdate t m x y, ty, pos, after, none⟩ :: rest) a w :=
  wpList_plain rfl fun _ h => opA_update_new hS i hm hi hx hy ht hd hk hn (fun w' h_ => h _ _ (hK w' h_))

theorem wpA_update_old {t k e : TypeId} {m x y : Operand} {b : Nat} {d : TypeDesc} {kvs : List (Value × Value)} {key v v0 : Value} (hS : St w0 w H) (i : Nat) (hm : a.eval m = .map (some b)) (hi : H[i]? = some (.mp b d kvs)) (hx : a.eval x = key) (hy : a.eval y = v)
    (ht : P.underlying t = some (.map k e)) (hd : P.underlying k = some d) (hk : MapKept.IsKey d key) {j : Nat} (hj : kvs[j]? = some (key, v0))
    (hK : ∀ w', St w0 w' (H.set i (.mp b d (kvs.set j (key, v)))) → wpList P ops Q rest (a.put dst undef) w') :
    wpList P ops Q (⟨dst, .mapUpdate t m x y, ty, pos, after, none⟩ :: rest) a w :=
  wpList_plain rfl fun _ h => opA_update_old hS i hm hi hx hy ht hd hk hj (fun w' h_ => h _ _ (hK w' h_))

theorem wpA_delete {t k e : TypeId} {m x : Operand} {b : Nat} {d : TypeDesc} {kvs : List (Value × Value)} {key : Value} (hS : St w0 w H) (i : Nat) (hm : a.eval m = .map (some b)) (hi : H[i]? = some (.mp b d kvs)) (hx : a.eval x = key)
    (ht : P.underlying t = some (.map k e)) (hd : P.underlying k = some d) (hk : MapKept.IsKey d key) {kvs' : List (Value × Value)} (hr : ((∀ p ∈ kvs, p.1 ≠ key) ∧ kvs' = kvs) ∨ ∃ (j : Nat) (v : Value), kvs[j]? = some (key, v) ∧ kvs' = kvs.eraseIdx j)
    (hK : ∀ w', St w0 w' (H.set i (.mp b d kvs')) → wpList P ops Q rest (a.put dst (.tuple #[])) w') :
    wpList P ops Q (⟨dst, .call { callee := .builtin .delete, args := #[m, x], argTypes := #[t, k] }, ty, pos, after, none⟩ :: rest) a w :=
  wpList_plain rfl fun _ h => opA_delete hS i hm hi hx ht hd hk hr (fun w' h_ => h _ _ (hK w' h_))

theorem wpA_lenMap {t k e : TypeId} {m : Operand} {b : Nat} {d : TypeDesc} {kvs : List (Value × Value)} (hS : St w0 w H) (i : Nat) (hm : a.eval m = .map (some b)) (hi : H[i]? = some (.mp b d kvs)) (ht : P.underlying t = some (.map k e))
    (hK : wpList P ops Q rest (a.put dst (.int .i64 kvs.length)) w) :
    wpList P ops Q (⟨dst, .call { callee := .builtin .len, args := #[m], argTypes := #[t] }, ty, pos, after, none⟩ :: rest) a w :=
  wpList_plain rfl fun _ h => opA_lenMap hS i hm hi ht (h _ _ hK)

theorem wpA_append {t u e : TypeId} {s x : Operand} {size bytes : Nat} {z v : Value} {ao : Option Addr} {n cap : Nat} {xs : List Value} (hS : St w0 w H) (k : Nat)
    (hs : a.eval s = .slice ao n cap) (hi : H[k]? = some (.row e size ao n cap xs)) (hx : a.eval x = v)
    (ht : P.underlying t = some (.slice e)) (hu : P.underlying u = some .string ∨ P.underlying u = some (.slice e)) (hinfo : (P.info? e).map (fun i => (i.zero, i.size, i.bytes)) = some (some z, size, bytes)) (hzs : z.cells.size = size)
    {m : Nat} {news : List Value} (hsrc : Src P w size v m news) (h63 : n + m ≤ maxLen) (hbytes : (n + m) * bytes ≤ 140737488355328)
    (hK : ∀ ao' cap' w', St w0 w' (H.set k (.row e size ao' (n + m) cap' (xs ++ news))) → wpList P ops Q rest (a.put dst (.slice ao' (n + m) cap')) w') :
    wpList P ops Q (⟨dst, .call { callee := .builtin .append, args := #[s, x], argTypes := #[t, u] }, ty, pos, after, none⟩ :: rest) a w :=
  wpList_plain rfl fun _ h => opA_append hS k hs hi hx ht hu hinfo hzs hsrc h63 hbytes (fun ao' cap' w' h_ => h _ _ (hK ao' cap' w' h_))

theorem wpA_one {t e : TypeId} {x : Operand} (hS : St w0 w H) {z v : Value} {bytes : Nat} (ht : P.underlying t = some (.slice e)) (hinfo : (P.info? e).map (fun i => (i.zero, i.size, i.bytes)) = some (some z, 1, bytes)) (hzs : z.cells.size = 1)
    (hx : a.eval x = v) (hv : v.cells = #[v])
    (hK : ∀ g w', St w0 w' (.cells g [v] e :: H) → wpList P ops Q rest (a.put dst (.slice (some ⟨g, 0, none⟩) 1 1)) w') :
    wpList P ops Q (⟨dst, .buildSlice t 1 #[(0, x)], ty, pos, after, none⟩ :: rest) a w :=
  wpList_plain rfl fun _ h => opA_one hS ht hinfo hzs hx hv (fun g w' h_ => h _ _ (hK g w' h_))
end

/-- A guard that says yes is struck. -/
theorem wpA_guard {P : Program} {ops : Array Oper} {rest : List Oper} {Q : Exit → Act → World → Prop} {dst : Option Tmp} {op : Op} {ty : TypeId} {pos : String} {after : Array Edge} {t : Nat} {b : Bool} {a : Act} {w : World}
    (hy : Region.wanted ⟨dst, op, ty, pos, after, some (t, b)⟩ (yielded ops a.tmps) = true) (h : wpList P ops Q (⟨dst, op, ty, pos, after, none⟩ :: rest) a w) :
    wpList P ops Q (⟨dst, op, ty, pos, after, some (t, b)⟩ :: rest) a w := by
  unfold wpList at h ⊢
  rw [if_pos hy]
  rw [if_pos (by simp [Region.wanted])] at h
  exact h

theorem strOfNums_u8 (bs : List UInt8) : strOfNums (bs.map fun b => ((b.toNat : Nat) : Int)) = ⟨bs.toArray⟩ := by
  unfold strOfNums
  congr 2
  rw [List.map_map]
  conv => rhs; rw [← List.map_id bs]
  exact List.map_congr_left (fun b _ => by simp)

theorem run_toString {P : Program} {w : World} {e src dst : TypeId} {ao : Option Addr} {n cap : Nat} {bs : List UInt8} (h : Hp.on w (.row e 1 ao n cap (bs.map fun b => .int .u8 b.toNat))) (hs : P.underlying src = some (.slice e)) (he : P.underlying e = some (.int .u8)) (hd : P.underlying dst = some .string) :
    (convert src dst (.slice ao n cap)).run P w = .ok (.string ⟨bs.toArray⟩) w := by
  have hl : bs.length = n := by have := row_length h; simpa using this
  rcases row_cases h with ⟨rfl, rfl, rfl, h0⟩ | ⟨g, cur, rfl, _⟩
  · have : bs = [] := by simpa using h0
    subst this
    exact run_convert_bytes_nil w src e hs he 0 0 dst hd
  · rw [← strOfNums_u8]
    refine run_convert_bytes_arg w src e hs he g 0 n cap _ (by simpa using hl) (fun i hi => ?_) dst hd
    rw [Nat.zero_add]
    refine row_cell h i ?_
    simp [List.getD, show i < bs.length by omega]

theorem opA_toString {P : Program} {K : Act → World → Prop} {Q : Exit → Act → World → Prop} {gd : Option (Nat × Bool)} {dst' : Option Tmp} {ty : TypeId} {pos : String} {after : Array Edge} {a : Act} {w0 w : World} {H : List Hp}
    {e src dst : TypeId} {x : Operand} {ao : Option Addr} {n cap : Nat} {bs : List UInt8} (hS : St w0 w H) (i : Nat) (hx : a.eval x = .slice ao n cap) (hi : H[i]? = some (.row e 1 ao n cap (bs.map fun b => .int .u8 b.toNat)))
    (hs : P.underlying src = some (.slice e)) (he : P.underlying e = some (.int .u8)) (hd : P.underlying dst = some .string) (hK : K (a.put dst' (.string ⟨bs.toArray⟩)) w) :
    Oper.wp P ⟨dst', .convert src dst x, ty, pos, after, gd⟩ a w K Q := by
  unfold Oper.wp
  simp [execOp, hx, run_toString (hS.at_ i hi) hs he hd, Result.andThen]
  exact hK

theorem wpA_toString {P : Program} {ops : Array Oper} {rest : List Oper} {Q : Exit → Act → World → Prop} {dst' : Option Tmp} {ty : TypeId} {pos : String} {after : Array Edge} {a : Act} {w0 w : World} {H : List Hp}
    {e src dst : TypeId} {x : Operand} {ao : Option Addr} {n cap : Nat} {bs : List UInt8} (hS : St w0 w H) (i : Nat) (hx : a.eval x = .slice ao n cap) (hi : H[i]? = some (.row e 1 ao n cap (bs.map fun b => .int .u8 b.toNat)))
    (hs : P.underlying src = some (.slice e)) (he : P.underlying e = some (.int .u8)) (hd : P.underlying dst = some .string) (hK : wpList P ops Q rest (a.put dst' (.string ⟨bs.toArray⟩)) w) :
    wpList P ops Q (⟨dst', .convert src dst x, ty, pos, after, none⟩ :: rest) a w :=
  wpList_plain rfl fun _ h => opA_toString hS i hx hi hs he hd (h _ _ hK)

/-- A fresh block of one cell as a source. -/
theorem Src.fresh {P : Program} {w0 w : World} {H : List Hp} (hS : St w0 w H) (i : Nat) {g : Nat} {v : Value} {e : TypeId} (hi : H[i]? = some (.cells g [v] e)) (h1 : v.oneCell' = true) : Src P w 1 (.slice (some ⟨g, 0, none⟩) 1 1) 1 [v] :=
  Src.slice rfl (fun j u hj => by rw [Addr.add_lit, Nat.zero_add]; exact hS.cell i hi j hj) (by simpa using h1)

/-- A fresh block of one element of several cells. -/
theorem Src.freshN {P : Program} {w0 w : World} {H : List Hp} (hS : St w0 w H) (i : Nat) {g m size : Nat} {vs : List Value} {e : TypeId} (hi : H[i]? = some (.cells g vs e)) (hl : vs.length = m * size) (h1 : vs.all Value.oneCell' = true) : Src P w size (.slice (some ⟨g, 0, none⟩) m m) m vs :=
  Src.slice hl (fun j u hj => by rw [Addr.add_lit, Nat.zero_add]; exact hS.cell i hi j hj) (fun u hu => List.all_eq_true.1 h1 u hu)

/- The same laws, the place found by search. -/
section
variable {P : Program} {K : Act → World → Prop} {gd : Option (Nat × Bool)} {dst : Option Tmp} {ty : TypeId} {pos : String} {after : Array Edge} {a : Act} {Q : Exit → Act → World → Prop} {w0 w : World} {H : List Hp}
theorem opA_store1I {t : TypeId} {x y : Operand} (hS : St w0 w H) {i : Nat} {g : Nat} {vs : List Value} {tt : TypeId} {j : Nat} {v : Value}
    (hx : a.eval x = .pointer (some ⟨g, j, none⟩)) (hi : AtC H g i vs tt) (hy : a.eval y = v) (hv : v.cells = #[v]) (h1 : v.oneCell' = true) (hfit : (vs[j]?).isSome = true) (hn : sizeIs P t 1 = true)
    (hK : ∀ w', St w0 w' (H.set i (.cells g (vs.set j v) tt)) → K (a.put dst undef) w') : Oper.wp P ⟨dst, .store t x y, ty, pos, after, gd⟩ a w K Q :=
  opA_store1 hS i hx hi.get hy hv h1 hfit hn hK

theorem opA_storeI {t : TypeId} {x y : Operand} (hS : St w0 w H) {i : Nat} {g : Nat} {vs : List Value} {tt : TypeId} {j : Nat} {v : Value} {cs : List Value}
    (hx : a.eval x = .pointer (some ⟨g, j, none⟩)) (hi : AtC H g i vs tt) (hy : a.eval y = v) (hv : v.cells.toList = cs) (h1 : cs.all Value.oneCell' = true) (hfit : j + cs.length ≤ vs.length) (hn : sizeIs P t cs.length = true)
    (hK : ∀ w', St w0 w' (H.set i (.cells g (vs.take j ++ cs ++ vs.drop (j + cs.length)) tt)) → K (a.put dst undef) w') : Oper.wp P ⟨dst, .store t x y, ty, pos, after, gd⟩ a w K Q :=
  opA_store hS i hx hi.get hy hv h1 hfit hn hK

theorem opA_appendI {t u e : TypeId} {s x : Operand} {size bytes : Nat} {z v : Value} {ao : Option Addr} {n cap : Nat} {xs : List Value} (hS : St w0 w H) {k : Nat}
    (hs : a.eval s = .slice ao n cap) (hx : a.eval x = v)
    (ht : P.underlying t = some (.slice e)) (hi : AtR H ao e k size n cap xs) (hu : P.underlying u = some .string ∨ P.underlying u = some (.slice e)) (hinfo : (P.info? e).map (fun i => (i.zero, i.size, i.bytes)) = some (some z, size, bytes)) (hzs : z.cells.size = size)
    {m : Nat} {news : List Value} (hsrc : Src P w size v m news) (h63 : n + m ≤ maxLen) (hbytes : (n + m) * bytes ≤ 140737488355328)
    (hK : ∀ ao' cap' w', St w0 w' (H.set k (.row e size ao' (n + m) cap' (xs ++ news))) → K (a.put dst (.slice ao' (n + m) cap')) w') :
    Oper.wp P ⟨dst, .call { callee := .builtin .append, args := #[s, x], argTypes := #[t, u] }, ty, pos, after, gd⟩ a w K Q :=
  opA_append hS k hs hi.get hx ht hu hinfo hzs hsrc h63 hbytes hK
end
section
variable {P : Program} {ops : Array Oper} {rest : List Oper} {dst : Option Tmp} {ty : TypeId} {pos : String} {after : Array Edge} {a : Act} {Q : Exit → Act → World → Prop} {w0 w : World} {H : List Hp}
theorem wpA_store1I {t : TypeId} {x y : Operand} (hS : St w0 w H) {i : Nat} {g : Nat} {vs : List Value} {tt : TypeId} {j : Nat} {v : Value}
    (hx : a.eval x = .pointer (some ⟨g, j, none⟩)) (hi : AtC H g i vs tt) (hy : a.eval y = v) (hv : v.cells = #[v]) (h1 : v.oneCell' = true) (hfit : (vs[j]?).isSome = true) (hn : sizeIs P t 1 = true)
    (hK : ∀ w', St w0 w' (H.set i (.cells g (vs.set j v) tt)) → wpList P ops Q rest (a.put dst undef) w') :
    wpList P ops Q (⟨dst, .store t x y, ty, pos, after, none⟩ :: rest) a w :=
  wpA_store1 hS i hx hi.get hy hv h1 hfit hn hK

theorem wpA_storeI {t : TypeId} {x y : Operand} (hS : St w0 w H) {i : Nat} {g : Nat} {vs : List Value} {tt : TypeId} {j : Nat} {v : Value} {cs : List Value}
    (hx : a.eval x = .pointer (some ⟨g, j, none⟩)) (hi : AtC H g i vs tt) (hy : a.eval y = v) (hv : v.cells.toList = cs) (h1 : cs.all Value.oneCell' = true) (hfit : j + cs.length ≤ vs.length) (hn : sizeIs P t cs.length = true)
    (hK : ∀ w', St w0 w' (H.set i (.cells g (vs.take j ++ cs ++ vs.drop (j + cs.length)) tt)) → wpList P ops Q rest (a.put dst undef) w') :
    wpList P ops Q (⟨dst, .store t x y, ty, pos, after, none⟩ :: rest) a w :=
  wpA_store hS i hx hi.get hy hv h1 hfit hn hK

theorem wpA_appendI {t u e : TypeId} {s x : Operand} {size bytes : Nat} {z v : Value} {ao : Option Addr} {n cap : Nat} {xs : List Value} (hS : St w0 w H) {k : Nat}
    (hs : a.eval s = .slice ao n cap) (hx : a.eval x = v)
    (ht : P.underlying t = some (.slice e)) (hi : AtR H ao e k size n cap xs) (hu : P.underlying u = some .string ∨ P.underlying u = some (.slice e)) (hinfo : (P.info? e).map (fun i => (i.zero, i.size, i.bytes)) = some (some z, size, bytes)) (hzs : z.cells.size = size)
    {m : Nat} {news : List Value} (hsrc : Src P w size v m news) (h63 : n + m ≤ maxLen) (hbytes : (n + m) * bytes ≤ 140737488355328)
    (hK : ∀ ao' cap' w', St w0 w' (H.set k (.row e size ao' (n + m) cap' (xs ++ news))) → wpList P ops Q rest (a.put dst (.slice ao' (n + m) cap')) w') :
    wpList P ops Q (⟨dst, .call { callee := .builtin .append, args := #[s, x], argTypes := #[t, u] }, ty, pos, after, none⟩ :: rest) a w :=
  wpA_append hS k hs hi.get hx ht hu hinfo hzs hsrc h63 hbytes hK
end
theorem Hp.rangeI {w0 w : World} {H : List Hp} {g i : Nat} {vs : List Value} {tt : TypeId} (hS : St w0 w H) (hi : AtC H g i vs tt) (j n : Nat) : w.rangeAt g j ((vs.drop j).take n) := Hp.range hS i hi.get j n

section
variable (P : Program) (ops : Array Oper) (Q : Exit → Act → World → Prop) (dst : Option Tmp) (ty : TypeId) (pos : String) (after : Array Edge) (rest : List Oper) (a : Act) (w : World)
abbrev WLd (t : TypeId) (x : Operand) : Prop := wpList P ops Q (⟨dst, .load t x, ty, pos, after, none⟩ :: rest) a w
abbrev WSt (t : TypeId) (x y : Operand) : Prop := wpList P ops Q (⟨dst, .store t x y, ty, pos, after, none⟩ :: rest) a w
abbrev WBx (t : TypeId) (x : Operand) : Prop := wpList P ops Q (⟨dst, .box t x, ty, pos, after, none⟩ :: rest) a w
abbrev WAl (t : TypeId) : Prop := wpList P ops Q (⟨dst, .alloc t, ty, pos, after, none⟩ :: rest) a w
abbrev WBs (t : TypeId) (n : Nat) (x : Array (Nat × Operand)) : Prop := wpList P ops Q (⟨dst, .buildSlice t n x, ty, pos, after, none⟩ :: rest) a w
abbrev WUp (t : TypeId) (x y z : Operand) : Prop := wpList P ops Q (⟨dst, .mapUpdate t x y z, ty, pos, after, none⟩ :: rest) a w
abbrev WLk (t : TypeId) (x y : Operand) (c : Bool) : Prop := wpList P ops Q (⟨dst, .lookup t x y c, ty, pos, after, none⟩ :: rest) a w
abbrev WAp (x : Array Operand) (y : Array TypeId) : Prop := wpList P ops Q (⟨dst, .call ⟨.builtin .append, x, y⟩, ty, pos, after, none⟩ :: rest) a w
abbrev WDe (x : Array Operand) (y : Array TypeId) : Prop := wpList P ops Q (⟨dst, .call ⟨.builtin .delete, x, y⟩, ty, pos, after, none⟩ :: rest) a w
abbrev WLn (x : Array Operand) (y : Array TypeId) : Prop := wpList P ops Q (⟨dst, .call ⟨.builtin .len, x, y⟩, ty, pos, after, none⟩ :: rest) a w
abbrev WGd (op : Op) (g : Nat × Bool) : Prop := wpList P ops Q (⟨dst, op, ty, pos, after, some g⟩ :: rest) a w
end
end Go.Proofs.Ytodojllclghoiaa
