/-
  A region that draws its order, where no operation spoils what is owned (its effects make new memory alone).
-/
import Derived.Test.YtodojllclghoiaaReg
namespace Go.Proofs.Ytodojllclghoiaa
set_option linter.unusedVariables false
set_option linter.unusedSimpArgs false

def RA (w0 : World) (H : List Hp) (_ : Array Bool) (w : World) : Prop := St w0 w H

section
variable {P : Program} {l : List Oper} {Q : Exit → Act → World → Prop} {a : Act} {w0 w : World} {H : List Hp} {i : Nat} {listed : Array Bool} {fuel : Nat} {oi : Oper} {v : Value}
  {dst : Option Tmp} {op : Op} {ty : TypeId} {pos : String} {after : Array Edge} {gd : Option (Nat × Bool)}

theorem wp_region_A {id : Nat} (hS : St w0 w H) (hm : P.follows .mixedOrders = true)
    (h : ∀ w, RA w0 H (Array.replicate l.length false) w → St w0 w H → wpAnyR P .any l.toArray Q (RA w0 H) l.length (Array.replicate l.length false) a w) : (Code.region id l.toArray true).wp P Q a w :=
  wp_region_R hm (by simpa using h _ hS.drew hS.drew)

/-- As before; what is kept is a part of what is owned. -/
theorem wp_region_A2 {id : Nat} {H0 : List Hp} (hs : ∀ w, St w0 w H → St w0 w H0) (hS : St w0 w H) (hm : P.follows .mixedOrders = true)
    (h : ∀ w, RA w0 H0 (Array.replicate l.length false) w → St w0 w H → wpAnyR P .any l.toArray Q (RA w0 H0) l.length (Array.replicate l.length false) a w) : (Code.region id l.toArray true).wp P Q a w :=
  wp_region_R hm (by simpa using h _ (hs _ hS.drew) hS.drew)

theorem takeA (D : List Nat) (hi : l[i]? = some oi) (hc : chkE l listed i l.length [] = true) (hQ : ∀ c a w, Q (.panic c) (a.put oi.dst v) w → Q (.panic c) a w) (he : True)
    (hy : YieldsIf P l.toArray (fun w => St w0 w H) oi v a) (hR : RA w0 H listed w)
    (h : RA w0 H (listed.setIfInBounds i true) w → wpAnyR P .any l.toArray Q (RA w0 H) fuel (listed.setIfInBounds i true) (a.put oi.dst v) w) : wpAnyR P .any l.toArray Q (RA w0 H) (fuel + 1) listed a w := by
  unfold chkE at hc
  simp only [Bool.and_eq_true, bne_iff_ne, ne_eq] at hc
  obtain ⟨⟨⟨⟨⟨h1, h2⟩, h3⟩, h4⟩, h5⟩, h6⟩ := hc
  exact wpAnyR_take [] (by simpa using hi) h1 h2 h3 h4 h5 hQ (fun _ _ => Iff.rfl) (fun ls w hD hR => hR) hy hR (h hR)

theorem takeA_val (D : List Nat) (v : Value) (hi : l[i]? = some ⟨dst, op, ty, pos, after, gd⟩) (hw : Region.wanted ⟨dst, op, ty, pos, after, gd⟩ (yielded l.toArray a.tmps) = true) (hc : chkE l listed i l.length [] = true) (hQ : ∀ c a w, Q (.panic c) (a.put dst v) w → Q (.panic c) a w) (he : True)
    (hy : ∀ w, St w0 w H → (execOp a.eval ⟨dst, op, ty, pos, after, gd⟩).run P w = .ok (.value v) w) (hR : RA w0 H listed w)
    (h : RA w0 H (listed.setIfInBounds i true) w → wpAnyR P .any l.toArray Q (RA w0 H) fuel (listed.setIfInBounds i true) (a.put dst v) w) : wpAnyR P .any l.toArray Q (RA w0 H) (fuel + 1) listed a w :=
  takeA D hi hc hQ he (.inl ⟨hw, hy⟩) hR h

theorem takeA_load (D : List Nat) {t : TypeId} {x : Operand} {p : Addr} (hi : l[i]? = some ⟨dst, .load t x, ty, pos, after, gd⟩) (hw : Region.wanted ⟨dst, .load t x, ty, pos, after, gd⟩ (yielded l.toArray a.tmps) = true) (hc : chkE l listed i l.length [] = true) (hQ : ∀ c a w, Q (.panic c) (a.put dst v) w → Q (.panic c) a w) (he : True)
    (hx : a.eval x = .pointer (some p)) (hcell : ∀ w, St w0 w H → w.cell? p = some v) (hu : plainB P t = true) (hR : RA w0 H listed w)
    (h : RA w0 H (listed.setIfInBounds i true) w → wpAnyR P .any l.toArray Q (RA w0 H) fuel (listed.setIfInBounds i true) (a.put dst v) w) : wpAnyR P .any l.toArray Q (RA w0 H) (fuel + 1) listed a w := by
  obtain ⟨d, h1, h2⟩ := plainB_out hu
  refine takeA_val D v hi hw hc hQ he (fun w hS => ?_) hR h
  simp [execOp, hx, Instr.loadAt, Instr.sureAddr, run_loadVar_plain h1 h2 (hcell w hS), Result.andThen]

theorem takeA_loadN (D : List Nat) {t : TypeId} {x : Operand} {g j : Nat} {cs : List Value} (hi : l[i]? = some ⟨dst, .load t x, ty, pos, after, gd⟩) (hw : Region.wanted ⟨dst, .load t x, ty, pos, after, gd⟩ (yielded l.toArray a.tmps) = true) (hc : chkE l listed i l.length [] = true) (hQ : ∀ c a w, Q (.panic c) (a.put dst (.agg cs.toArray)) w → Q (.panic c) a w) (he : True)
    (hx : a.eval x = .pointer (some ⟨g, j, none⟩)) (hcell : ∀ w, St w0 w H → w.rangeAt g j cs) (hu : rowB P t = true) (hn : sizeIs P t cs.length = true) (hR : RA w0 H listed w)
    (h : RA w0 H (listed.setIfInBounds i true) w → wpAnyR P .any l.toArray Q (RA w0 H) fuel (listed.setIfInBounds i true) (a.put dst (.agg cs.toArray)) w) : wpAnyR P .any l.toArray Q (RA w0 H) (fuel + 1) listed a w := by
  obtain ⟨d, h1, h2⟩ := rowB_out hu
  refine takeA_val D _ hi hw hc hQ he (fun w hS => ?_) hR h
  have := run_loadAt_mid (P := P) w g j t cs d (hcell w hS) h1 h2 (sizeIs_out hn)
  simp [execOp, hx, this, Result.andThen]

theorem takeA_lookup (D : List Nat) {t k e' : TypeId} {m x : Operand} {c : Bool} {b : Nat} {d : TypeDesc} {kvs : List (Value × Value)} {key : Value} (q : Nat) (hi : l[i]? = some ⟨dst, .lookup t m x c, ty, pos, after, gd⟩) (hw : Region.wanted ⟨dst, .lookup t m x c, ty, pos, after, gd⟩ (yielded l.toArray a.tmps) = true)
    (hc : chkE l listed i l.length [] = true) {z : Value} (r : Option Value) (hQ : ∀ p a w, Q (.panic p) (a.put dst (if c then .tuple #[r.getD z, .bool r.isSome] else r.getD z)) w → Q (.panic p) a w) (he : True)
    (hm : a.eval m = .map (some b)) (hq : H[q]? = some (.mp b d kvs)) (hx : a.eval x = key)
    (ht : P.underlying t = some (.map k e')) (hd : P.underlying k = some d) (hk : MapKept.IsKey d key) (hz : (P.info? e').bind (·.zero) = some z)
    (hr : match r with | none => ∀ p ∈ kvs, p.1 ≠ key | some v => ∃ j : Nat, kvs[j]? = some (key, v)) (hR : RA w0 H listed w)
    (h : RA w0 H (listed.setIfInBounds i true) w → wpAnyR P .any l.toArray Q (RA w0 H) fuel (listed.setIfInBounds i true) (a.put dst (if c then .tuple #[r.getD z, .bool r.isSome] else r.getD z)) w) : wpAnyR P .any l.toArray Q (RA w0 H) (fuel + 1) listed a w := by
  refine takeA_val D _ hi hw hc hQ he (fun w hS => ?_) hR h
  have hrun : (Instr.lookup t (.map (some b)) key c).run P w = .ok (if c then .tuple #[r.getD z, .bool r.isSome] else r.getD z) w := by
    cases r with
    | none => exact run_lookup_none ht hd (hS.at_ q hq) hk hz hr c
    | some v => obtain ⟨j, hj⟩ := hr; exact run_lookup_some ht hd (hS.at_ q hq) hk hj c
  simp only [execOp, hm, hx, Sem.run_bind, hrun, Result.andThen_ok, Sem.run_pure]

theorem takeAP_val (v : Value) (hi : l[i]? = some ⟨dst, op, ty, pos, after, gd⟩) (hw : Region.wanted ⟨dst, op, ty, pos, after, gd⟩ (yielded l.toArray a.tmps) = true) (hc : chkE l listed i l.length [] = true) (hQ : ∀ c a w, Q (.panic c) (a.put dst v) w → Q (.panic c) a w)
    (hy : ∀ w, (execOp a.eval ⟨dst, op, ty, pos, after, gd⟩).run P w = .ok (.value v) w) (hR : RA w0 H listed w)
    (h : RA w0 H (listed.setIfInBounds i true) w → wpAnyR P .any l.toArray Q (RA w0 H) fuel (listed.setIfInBounds i true) (a.put dst v) w) : wpAnyR P .any l.toArray Q (RA w0 H) (fuel + 1) listed a w :=
  takeA [] hi hc hQ trivial (.inl ⟨hw, fun w _ => hy w⟩) hR h

theorem takeAP_skip (hi : l[i]? = some ⟨dst, op, ty, pos, after, gd⟩) (hw : Region.wanted ⟨dst, op, ty, pos, after, gd⟩ (yielded l.toArray a.tmps) = false) (hc : chkE l listed i l.length [] = true) (hQ : ∀ c a w, Q (.panic c) (a.put dst undef) w → Q (.panic c) a w) (hR : RA w0 H listed w)
    (h : RA w0 H (listed.setIfInBounds i true) w → wpAnyR P .any l.toArray Q (RA w0 H) fuel (listed.setIfInBounds i true) (a.put dst undef) w) : wpAnyR P .any l.toArray Q (RA w0 H) (fuel + 1) listed a w :=
  takeA [] hi hc hQ trivial (.inr ⟨hw, rfl⟩) hR h

theorem oneA (hr : Region.ready .any l.toArray listed = [i]) (ho : l[i]? = some ⟨dst, op, ty, pos, after, gd⟩) (hw : Region.wanted ⟨dst, op, ty, pos, after, gd⟩ (yielded l.toArray a.tmps) = true)
    (h : ∀ K : Act → World → Prop, (∀ a' w', RA w0 H (listed.setIfInBounds i true) w' → wpAnyR P .any l.toArray Q (RA w0 H) fuel (listed.setIfInBounds i true) a' w' → K a' w') → Oper.wp P ⟨dst, op, ty, pos, after, gd⟩ a w K Q) : wpAnyR P .any l.toArray Q (RA w0 H) (fuel + 1) listed a w := by
  refine ⟨fun h0 => (by rw [hr] at h0; cases h0), fun j hj => ?_⟩
  rw [hr] at hj
  obtain rfl := List.mem_singleton.1 hj
  refine wpOp_step (by simpa using ho) (fun K' hK => ?_)
  rw [if_pos hw]
  exact h K' (fun a' w' h1 h2 => hK a' w' ⟨h1, h2⟩)
end
end Go.Proofs.Ytodojllclghoiaa
