/-
  A region that draws its order, where one operation is the first that spoils what is owned: whatever it waits for reads as before.
-/
import Derived.Test.YtodojllclghoiaaQuiet
namespace Go.Proofs.Ytodojllclghoiaa
set_option linter.unusedVariables false
set_option linter.unusedSimpArgs false

/-- While e is not listed, H is owned. -/
def RE (e : Nat) (w0 : World) (H : List Hp) (ls : Array Bool) (w : World) : Prop := ls.getD e true = false → St w0 w H

theorem RE_set {e i : Nat} (h : i ≠ e) (w0 : World) (H : List Hp) (l : Array Bool) (w : World) : RE e w0 H (l.setIfInBounds i true) w ↔ RE e w0 H l w := by
  unfold RE
  rw [getD_set_ne true h]

def chkE (l : List Oper) (listed : Array Bool) (i : Nat) (e : Nat) (D : List Nat) : Bool :=
  Region.noSelect l.toArray && Region.free .any l.toArray listed i && (Region.ready .any l.toArray listed).contains i && waits .any l.toArray i D && (D.all fun j => !listed.getD j true) && (i != e)

section
variable {P : Program} {l : List Oper} {Q : Exit → Act → World → Prop} {a : Act} {w0 w : World} {H : List Hp} {e i : Nat} {listed : Array Bool} {fuel : Nat} {oi : Oper} {v : Value}
  {dst : Option Tmp} {op : Op} {ty : TypeId} {pos : String} {after : Array Edge} {gd : Option (Nat × Bool)}

theorem wp_region_E {id : Nat} (e : Nat) (hS : St w0 w H) (hm : P.follows .mixedOrders = true)
    (h : ∀ w, RE e w0 H (Array.replicate l.length false) w → St w0 w H → wpAnyR P .any l.toArray Q (RE e w0 H) l.length (Array.replicate l.length false) a w) : (Code.region id l.toArray true).wp P Q a w :=
  wp_region_R hm (by simpa using h _ (fun _ => hS.drew) hS.drew)

theorem takeE (D : List Nat) (hi : l[i]? = some oi) (hc : chkE l listed i e D = true) (hQ : ∀ c a w, Q (.panic c) (a.put oi.dst v) w → Q (.panic c) a w) (he : e ∈ D)
    (hy : YieldsIf P l.toArray (fun w => St w0 w H) oi v a) (hR : RE e w0 H listed w)
    (h : RE e w0 H (listed.setIfInBounds i true) w → wpAnyR P .any l.toArray Q (RE e w0 H) fuel (listed.setIfInBounds i true) (a.put oi.dst v) w) : wpAnyR P .any l.toArray Q (RE e w0 H) (fuel + 1) listed a w := by
  unfold chkE at hc
  simp only [Bool.and_eq_true, bne_iff_ne, ne_eq] at hc
  obtain ⟨⟨⟨⟨⟨h1, h2⟩, h3⟩, h4⟩, h5⟩, h6⟩ := hc
  exact wpAnyR_take D (by simpa using hi) h1 h2 h3 h4 h5 hQ (RE_set h6 w0 H) (fun ls w hD hR => hR (hD e he)) hy hR (h ((RE_set h6 w0 H _ _).2 hR))

/-- What yields in whatever world. -/
theorem takeP (hi : l[i]? = some oi) (hc : chkE l listed i e [] = true) (hQ : ∀ c a w, Q (.panic c) (a.put oi.dst v) w → Q (.panic c) a w)
    (hy : YieldsIf P l.toArray (fun _ => True) oi v a) (hR : RE e w0 H listed w)
    (h : RE e w0 H (listed.setIfInBounds i true) w → wpAnyR P .any l.toArray Q (RE e w0 H) fuel (listed.setIfInBounds i true) (a.put oi.dst v) w) : wpAnyR P .any l.toArray Q (RE e w0 H) (fuel + 1) listed a w := by
  unfold chkE at hc
  simp only [Bool.and_eq_true, bne_iff_ne, ne_eq] at hc
  obtain ⟨⟨⟨⟨⟨h1, h2⟩, h3⟩, h4⟩, h5⟩, h6⟩ := hc
  exact wpAnyR_take [] (by simpa using hi) h1 h2 h3 h4 h5 hQ (RE_set h6 w0 H) (fun ls w hD hR => trivial) hy hR (h ((RE_set h6 w0 H _ _).2 hR))

theorem takeE_val (D : List Nat) (v : Value) (hi : l[i]? = some ⟨dst, op, ty, pos, after, gd⟩) (hw : Region.wanted ⟨dst, op, ty, pos, after, gd⟩ (yielded l.toArray a.tmps) = true) (hc : chkE l listed i e D = true) (hQ : ∀ c a w, Q (.panic c) (a.put dst v) w → Q (.panic c) a w) (he : e ∈ D)
    (hy : ∀ w, St w0 w H → (execOp a.eval ⟨dst, op, ty, pos, after, gd⟩).run P w = .ok (.value v) w) (hR : RE e w0 H listed w)
    (h : RE e w0 H (listed.setIfInBounds i true) w → wpAnyR P .any l.toArray Q (RE e w0 H) fuel (listed.setIfInBounds i true) (a.put dst v) w) : wpAnyR P .any l.toArray Q (RE e w0 H) (fuel + 1) listed a w :=
  takeE D hi hc hQ he (.inl ⟨hw, hy⟩) hR h

theorem takeE_load (D : List Nat) {t : TypeId} {x : Operand} {p : Addr} (hi : l[i]? = some ⟨dst, .load t x, ty, pos, after, gd⟩) (hw : Region.wanted ⟨dst, .load t x, ty, pos, after, gd⟩ (yielded l.toArray a.tmps) = true) (hc : chkE l listed i e D = true) (hQ : ∀ c a w, Q (.panic c) (a.put dst v) w → Q (.panic c) a w) (he : e ∈ D)
    (hx : a.eval x = .pointer (some p)) (hcell : ∀ w, St w0 w H → w.cell? p = some v) (hu : plainB P t = true) (hR : RE e w0 H listed w)
    (h : RE e w0 H (listed.setIfInBounds i true) w → wpAnyR P .any l.toArray Q (RE e w0 H) fuel (listed.setIfInBounds i true) (a.put dst v) w) : wpAnyR P .any l.toArray Q (RE e w0 H) (fuel + 1) listed a w := by
  obtain ⟨d, h1, h2⟩ := plainB_out hu
  refine takeE_val D v hi hw hc hQ he (fun w hS => ?_) hR h
  simp [execOp, hx, Instr.loadAt, Instr.sureAddr, run_loadVar_plain h1 h2 (hcell w hS), Result.andThen]

theorem takeE_loadN (D : List Nat) {t : TypeId} {x : Operand} {g j : Nat} {cs : List Value} (hi : l[i]? = some ⟨dst, .load t x, ty, pos, after, gd⟩) (hw : Region.wanted ⟨dst, .load t x, ty, pos, after, gd⟩ (yielded l.toArray a.tmps) = true) (hc : chkE l listed i e D = true) (hQ : ∀ c a w, Q (.panic c) (a.put dst (.agg cs.toArray)) w → Q (.panic c) a w) (he : e ∈ D)
    (hx : a.eval x = .pointer (some ⟨g, j, none⟩)) (hcell : ∀ w, St w0 w H → w.rangeAt g j cs) (hu : rowB P t = true) (hn : sizeIs P t cs.length = true) (hR : RE e w0 H listed w)
    (h : RE e w0 H (listed.setIfInBounds i true) w → wpAnyR P .any l.toArray Q (RE e w0 H) fuel (listed.setIfInBounds i true) (a.put dst (.agg cs.toArray)) w) : wpAnyR P .any l.toArray Q (RE e w0 H) (fuel + 1) listed a w := by
  obtain ⟨d, h1, h2⟩ := rowB_out hu
  refine takeE_val D _ hi hw hc hQ he (fun w hS => ?_) hR h
  have := run_loadAt_mid (P := P) w g j t cs d (hcell w hS) h1 h2 (sizeIs_out hn)
  simp [execOp, hx, this, Result.andThen]

theorem takeE_lookup (D : List Nat) {t k e' : TypeId} {m x : Operand} {c : Bool} {b : Nat} {d : TypeDesc} {kvs : List (Value × Value)} {key : Value} (q : Nat) (hi : l[i]? = some ⟨dst, .lookup t m x c, ty, pos, after, gd⟩) (hw : Region.wanted ⟨dst, .lookup t m x c, ty, pos, after, gd⟩ (yielded l.toArray a.tmps) = true)
    (hc : chkE l listed i e D = true) {z : Value} (r : Option Value) (hQ : ∀ p a w, Q (.panic p) (a.put dst (if c then .tuple #[r.getD z, .bool r.isSome] else r.getD z)) w → Q (.panic p) a w) (he : e ∈ D)
    (hm : a.eval m = .map (some b)) (hq : H[q]? = some (.mp b d kvs)) (hx : a.eval x = key)
    (ht : P.underlying t = some (.map k e')) (hd : P.underlying k = some d) (hk : MapKept.IsKey d key) (hz : (P.info? e').bind (·.zero) = some z)
    (hr : match r with | none => ∀ p ∈ kvs, p.1 ≠ key | some v => ∃ j : Nat, kvs[j]? = some (key, v)) (hR : RE e w0 H listed w)
    (h : RE e w0 H (listed.setIfInBounds i true) w → wpAnyR P .any l.toArray Q (RE e w0 H) fuel (listed.setIfInBounds i true) (a.put dst (if c then .tuple #[r.getD z, .bool r.isSome] else r.getD z)) w) : wpAnyR P .any l.toArray Q (RE e w0 H) (fuel + 1) listed a w := by
  refine takeE_val D _ hi hw hc hQ he (fun w hS => ?_) hR h
  have hrun : (Instr.lookup t (.map (some b)) key c).run P w = .ok (if c then .tuple #[r.getD z, .bool r.isSome] else r.getD z) w := by
    cases r with
    | none => exact run_lookup_none ht hd (hS.at_ q hq) hk hz hr c
    | some v => obtain ⟨j, hj⟩ := hr; exact run_lookup_some ht hd (hS.at_ q hq) hk hj c
  simp only [execOp, hm, hx, Sem.run_bind, hrun, Result.andThen_ok, Sem.run_pure]

theorem takeP_val (v : Value) (hi : l[i]? = some ⟨dst, op, ty, pos, after, gd⟩) (hw : Region.wanted ⟨dst, op, ty, pos, after, gd⟩ (yielded l.toArray a.tmps) = true) (hc : chkE l listed i e [] = true) (hQ : ∀ c a w, Q (.panic c) (a.put dst v) w → Q (.panic c) a w)
    (hy : ∀ w, (execOp a.eval ⟨dst, op, ty, pos, after, gd⟩).run P w = .ok (.value v) w) (hR : RE e w0 H listed w)
    (h : RE e w0 H (listed.setIfInBounds i true) w → wpAnyR P .any l.toArray Q (RE e w0 H) fuel (listed.setIfInBounds i true) (a.put dst v) w) : wpAnyR P .any l.toArray Q (RE e w0 H) (fuel + 1) listed a w :=
  takeP hi hc hQ (.inl ⟨hw, fun w _ => hy w⟩) hR h

theorem takeP_skip (hi : l[i]? = some ⟨dst, op, ty, pos, after, gd⟩) (hw : Region.wanted ⟨dst, op, ty, pos, after, gd⟩ (yielded l.toArray a.tmps) = false) (hc : chkE l listed i e [] = true) (hQ : ∀ c a w, Q (.panic c) (a.put dst undef) w → Q (.panic c) a w) (hR : RE e w0 H listed w)
    (h : RE e w0 H (listed.setIfInBounds i true) w → wpAnyR P .any l.toArray Q (RE e w0 H) fuel (listed.setIfInBounds i true) (a.put dst undef) w) : wpAnyR P .any l.toArray Q (RE e w0 H) (fuel + 1) listed a w :=
  takeP hi hc hQ (.inr ⟨hw, rfl⟩) hR h

/-- The one that may come up, guarded or not. -/
theorem oneE (hr : Region.ready .any l.toArray listed = [i]) (ho : l[i]? = some ⟨dst, op, ty, pos, after, gd⟩) (hw : Region.wanted ⟨dst, op, ty, pos, after, gd⟩ (yielded l.toArray a.tmps) = true)
    (h : ∀ K : Act → World → Prop, (∀ a' w', RE e w0 H (listed.setIfInBounds i true) w' → wpAnyR P .any l.toArray Q (RE e w0 H) fuel (listed.setIfInBounds i true) a' w' → K a' w') → Oper.wp P ⟨dst, op, ty, pos, after, gd⟩ a w K Q) : wpAnyR P .any l.toArray Q (RE e w0 H) (fuel + 1) listed a w := by
  refine ⟨fun h0 => (by rw [hr] at h0; cases h0), fun j hj => ?_⟩
  rw [hr] at hj
  obtain rfl := List.mem_singleton.1 hj
  refine wpOp_step (by simpa using ho) (fun K' hK => ?_)
  rw [if_pos hw]
  exact h K' (fun a' w' h1 h2 => hK a' w' ⟨h1, h2⟩)

/-- A call as one operation. -/
theorem opA_call {f : FuncId} {fn : Func} (hf : P.funcs[f]? = some fn) (hb : (fn.name != "runtime.NumGoroutine" && fn.body.isSome) = true) {xs : Array Operand} {ts : Array TypeId} {args : Array Value} {K : Act → World → Prop} {Post : Ending → World → Prop} (hx : xs.map a.eval = args)
    (hc : Calls P f args w Post) (hK : ∀ e w', Post e w' → ∃ v, e = .returned v ∧ K (a.put dst v) w') : Oper.wp P ⟨dst, .call { callee := .value (.func f), args := xs, argTypes := ts }, ty, pos, after, gd⟩ a w K Q := by
  unfold Oper.wp
  subst hx
  simp only [Bool.and_eq_true, bne_iff_ne, ne_eq] at hb
  obtain ⟨hn, hb⟩ := hb
  obtain ⟨c, hc0⟩ := Option.isSome_iff_exists.1 hb
  simp [hn, execOp, resolve, invoke, Oper.upon, Result.andThen, Act.eval, Deferred.ofValue, callFunc, hf, hc0]
  refine hc.mono ?_
  intro e w' h
  obtain ⟨v, rfl, h1⟩ := hK e w' h
  exact h1
end
end Go.Proofs.Ytodojllclghoiaa
