/-
  Regions that draw their order and only read, at the class of the worlds that hold a given list of heaplets.
-/
import Derived.Test.YtodojllclghoiaaDrawn
import Derived.Test.YtodojllclghoiaaOwnRow
namespace Go.Proofs.Ytodojllclghoiaa
set_option linter.unusedVariables false
set_option linter.unusedSimpArgs false

section
variable {P : Program} {ops : Array Oper} {Q : Act → Prop} {rest : List Oper} {dst : Option Tmp} {ty : TypeId} {pos : String} {after : Array Edge} {a : Act} {w0 : World} {H : List Hp}

theorem wp_region_St {id : Nat} {Q : Exit → Act → World → Prop} {w : World} {l : List Oper} (hS : St w0 w H) (hm : P.follows .mixedOrders = true) (hB : Region.lexB .any l.toArray = true)
    (h : wpQuiet P l.toArray (fun w => St w0 w H) (fun a' => ∀ w', St w0 w' H → Q .normal a' w') l a) : (Code.region id l.toArray true).wp P Q a w :=
  wp_region_quietC (fun w => St w0 w H) hm hB hS.drew h

theorem wpQ_guard {C : World → Prop} {op : Op} {t : Nat} {b : Bool} (hy : Region.wanted ⟨dst, op, ty, pos, after, some (t, b)⟩ (yielded ops a.tmps) = true) (h : wpQuiet P ops C Q (⟨dst, op, ty, pos, after, none⟩ :: rest) a) :
    wpQuiet P ops C Q (⟨dst, op, ty, pos, after, some (t, b)⟩ :: rest) a := by
  unfold wpQuiet at h ⊢
  rw [if_pos hy]
  rw [if_pos (by simp [Region.wanted])] at h
  exact h

theorem wpQ_skip {C : World → Prop} {op : Op} {t : Nat} {b : Bool} (hy : Region.wanted ⟨dst, op, ty, pos, after, some (t, b)⟩ (yielded ops a.tmps) = false) (h : wpQuiet P ops C Q rest (a.put dst undef)) :
    wpQuiet P ops C Q (⟨dst, op, ty, pos, after, some (t, b)⟩ :: rest) a := by
  unfold wpQuiet
  rw [if_neg (by rw [hy]; simp)]
  exact h

theorem wpQ_val {o : Oper} {C : World → Prop} (v : Value) (hg : o.guard = none) (hy : ∀ w, C w → (execOp a.eval o).run P w = .ok (.value v) w) (h : wpQuiet P ops C Q rest (a.put o.dst v)) : wpQuiet P ops C Q (o :: rest) a :=
  wpQuiet_step fun K hK => by
    rw [if_pos (by simp [Region.wanted, hg])]
    exact ⟨v, fun w hw => by unfold Oper.quietAt; rw [hy w hw]; exact ⟨rfl, rfl⟩, hK _ h⟩

theorem wpQ_load {t : TypeId} {x : Operand} {p : Addr} {v : Value} (hx : a.eval x = .pointer (some p)) (hc : ∀ w, St w0 w H → w.cell? p = some v) (hu : plainB P t = true) (h : wpQuiet P ops (fun w => St w0 w H) Q rest (a.put dst v)) :
    wpQuiet P ops (fun w => St w0 w H) Q (⟨dst, .load t x, ty, pos, after, none⟩ :: rest) a := by
  obtain ⟨d, h1, h2⟩ : ∃ d, P.underlying t = some d ∧ plainDesc d = true := by
    unfold plainB at hu
    cases hd : P.underlying t with
    | none => rw [hd] at hu; simp at hu
    | some d => rw [hd] at hu; exact ⟨d, rfl, hu⟩
  refine wpQ_val v rfl (fun w hw => ?_) h
  simp [execOp, hx, Instr.loadAt, Instr.sureAddr, run_loadVar_plain h1 h2 (hc w hw), Result.andThen]

theorem wpQ_lookup {t k e : TypeId} {m x : Operand} {c : Bool} {b : Nat} {d : TypeDesc} {kvs : List (Value × Value)} {key : Value} (i : Nat) (hm : a.eval m = .map (some b)) (hi : H[i]? = some (.mp b d kvs)) (hx : a.eval x = key)
    (ht : P.underlying t = some (.map k e)) (hd : P.underlying k = some d) (hk : MapKept.IsKey d key) {z : Value} (r : Option Value) (hz : (P.info? e).bind (·.zero) = some z)
    (hr : match r with | none => ∀ p ∈ kvs, p.1 ≠ key | some v => ∃ j : Nat, kvs[j]? = some (key, v))
    (h : wpQuiet P ops (fun w => St w0 w H) Q rest (a.put dst (if c then .tuple #[r.getD z, .bool r.isSome] else r.getD z))) :
    wpQuiet P ops (fun w => St w0 w H) Q (⟨dst, .lookup t m x c, ty, pos, after, none⟩ :: rest) a := by
  refine wpQ_val _ rfl (fun w hS => ?_) h
  have hrun : (Instr.lookup t (.map (some b)) key c).run P w = .ok (if c then .tuple #[r.getD z, .bool r.isSome] else r.getD z) w := by
    cases r with
    | none => exact run_lookup_none ht hd (hS.at_ i hi) hk hz hr c
    | some v => obtain ⟨j, hj⟩ := hr; exact run_lookup_some ht hd (hS.at_ i hi) hk hj c
  simp only [execOp, hm, hx, Sem.run_bind, hrun, Result.andThen_ok, Sem.run_pure]

theorem calls_same {w : World} {f : FuncId} {args : Array Value} {v : Value} (hS : St w0 w H) (hc : Calls P f args w fun e w' => e = .returned v ∧ w = w') : Calls P f args w fun e w' => e = .returned v ∧ St w0 w' H :=
  hc.mono fun e w' h => ⟨h.1, h.2 ▸ hS⟩

theorem wpQ_call {f : FuncId} {fn : Func} (hf : P.funcs[f]? = some fn) (hb : (fn.name != "runtime.NumGoroutine" && fn.body.isSome) = true) {xs : Array Operand} {ts : Array TypeId} {args : Array Value} (v : Value) (hx : xs.map a.eval = args) (hc : ∀ w, St w0 w H → Calls P f args w fun e w' => e = .returned v ∧ St w0 w' H)
    (h : wpQuiet P ops (fun w => St w0 w H) Q rest (a.put dst v)) :
    wpQuiet P ops (fun w => St w0 w H) Q (⟨dst, .call { callee := .value (.func f), args := xs, argTypes := ts }, ty, pos, after, none⟩ :: rest) a := by
  refine wpQuiet_step fun K hK => ?_
  rw [if_pos (by simp [Region.wanted])]
  refine ⟨v, fun w hw => ?_, hK _ h⟩
  have hc' := hc w hw
  unfold Oper.quietAt
  subst hx
  simp only [Bool.and_eq_true, bne_iff_ne, ne_eq] at hb
  obtain ⟨hn, hb⟩ := hb
  obtain ⟨c, hc0⟩ := Option.isSome_iff_exists.1 hb
  simp [hn, execOp, resolve, invoke, Oper.quietUpon, Result.andThen, Act.eval, Deferred.ofValue, callFunc, hf, hc0]
  exact hc'
end
/-- A goal that nothing opens by itself. -/
structure Bx (p : Prop) : Prop where
  out : p

section
variable {P : Program} {ops : Array Oper} {Q : Act → Prop} {rest : List Oper} {dst : Option Tmp} {ty : TypeId} {pos : String} {after : Array Edge} {a : Act} {w0 : World} {H : List Hp}

theorem bQ_guard {C : World → Prop} {op : Op} {t : Nat} {b : Bool} (hy : Region.wanted ⟨dst, op, ty, pos, after, some (t, b)⟩ (yielded ops a.tmps) = true) (h : Bx (wpQuiet P ops C Q (⟨dst, op, ty, pos, after, none⟩ :: rest) a)) :
    Bx (wpQuiet P ops C Q (⟨dst, op, ty, pos, after, some (t, b)⟩ :: rest) a) := ⟨wpQ_guard hy h.out⟩

theorem bQ_skip {C : World → Prop} {op : Op} {t : Nat} {b : Bool} (hy : Region.wanted ⟨dst, op, ty, pos, after, some (t, b)⟩ (yielded ops a.tmps) = false) (h : Bx (wpQuiet P ops C Q rest (a.put dst undef))) :
    Bx (wpQuiet P ops C Q (⟨dst, op, ty, pos, after, some (t, b)⟩ :: rest) a) := ⟨wpQ_skip hy h.out⟩

theorem bQ_val {o : Oper} {C : World → Prop} (v : Value) (hg : o.guard = none) (hy : ∀ w, C w → (execOp a.eval o).run P w = .ok (.value v) w) (h : Bx (wpQuiet P ops C Q rest (a.put o.dst v))) : Bx (wpQuiet P ops C Q (o :: rest) a) := ⟨wpQ_val v hg hy h.out⟩

theorem bQ_load {t : TypeId} {x : Operand} {p : Addr} {v : Value} (hx : a.eval x = .pointer (some p)) (hc : ∀ w, St w0 w H → w.cell? p = some v) (hu : plainB P t = true) (h : Bx (wpQuiet P ops (fun w => St w0 w H) Q rest (a.put dst v))) :
    Bx (wpQuiet P ops (fun w => St w0 w H) Q (⟨dst, .load t x, ty, pos, after, none⟩ :: rest) a) := ⟨wpQ_load hx hc hu h.out⟩

theorem bQ_lookup {t k e : TypeId} {m x : Operand} {c : Bool} {b : Nat} {d : TypeDesc} {kvs : List (Value × Value)} {key : Value} (i : Nat) (hm : a.eval m = .map (some b)) (hi : H[i]? = some (.mp b d kvs)) (hx : a.eval x = key)
    (ht : P.underlying t = some (.map k e)) (hd : P.underlying k = some d) (hk : MapKept.IsKey d key) {z : Value} (r : Option Value) (hz : (P.info? e).bind (·.zero) = some z)
    (hr : match r with | none => ∀ p ∈ kvs, p.1 ≠ key | some v => ∃ j : Nat, kvs[j]? = some (key, v))
    (h : Bx (wpQuiet P ops (fun w => St w0 w H) Q rest (a.put dst (if c then .tuple #[r.getD z, .bool r.isSome] else r.getD z)))) :
    Bx (wpQuiet P ops (fun w => St w0 w H) Q (⟨dst, .lookup t m x c, ty, pos, after, none⟩ :: rest) a) := ⟨wpQ_lookup i hm hi hx ht hd hk r hz hr h.out⟩

theorem bQ_call {f : FuncId} {fn : Func} (hf : P.funcs[f]? = some fn) (hb : (fn.name != "runtime.NumGoroutine" && fn.body.isSome) = true) {xs : Array Operand} {ts : Array TypeId} {args : Array Value} (v : Value) (hx : xs.map a.eval = args) (hc : ∀ w, St w0 w H → Calls P f args w fun e w' => e = .returned v ∧ St w0 w' H)
    (h : Bx (wpQuiet P ops (fun w => St w0 w H) Q rest (a.put dst v))) :
    Bx (wpQuiet P ops (fun w => St w0 w H) Q (⟨dst, .call { callee := .value (.func f), args := xs, argTypes := ts }, ty, pos, after, none⟩ :: rest) a) := ⟨wpQ_call hf hb v hx hc h.out⟩
end
end Go.Proofs.Ytodojllclghoiaa
