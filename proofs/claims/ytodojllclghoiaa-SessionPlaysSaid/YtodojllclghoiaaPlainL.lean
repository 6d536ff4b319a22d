/-
  A plain region whose operations only read, many of them guarded: step by step, each goal hidden from the walk.
-/
import Derived.Test.YtodojllclghoiaaFieldV
namespace Go.Proofs.Ytodojllclghoiaa
set_option linter.unusedVariables false
set_option linter.unusedSimpArgs false

section
variable {P : Program} {ops : Array Oper} {Q : Exit → Act → World → Prop} {rest : List Oper} {dst : Option Tmp} {ty : TypeId} {pos : String} {after : Array Edge} {a : Act} {w : World}
theorem bL_guard {op : Op} {t : Nat} {b : Bool} (hy : Region.wanted ⟨dst, op, ty, pos, after, some (t, b)⟩ (yielded ops a.tmps) = true) (h : Bx (wpList P ops Q (⟨dst, op, ty, pos, after, none⟩ :: rest) a w)) :
    Bx (wpList P ops Q (⟨dst, op, ty, pos, after, some (t, b)⟩ :: rest) a w) := ⟨wpA_guard hy h.out⟩
theorem bL_skip {op : Op} {t : Nat} {b : Bool} (hy : Region.wanted ⟨dst, op, ty, pos, after, some (t, b)⟩ (yielded ops a.tmps) = false) (h : Bx (wpList P ops Q rest (a.put dst undef) w)) :
    Bx (wpList P ops Q (⟨dst, op, ty, pos, after, some (t, b)⟩ :: rest) a w) := by
  refine ⟨?_⟩
  unfold wpList
  rw [if_neg (by rw [hy]; simp)]
  exact h.out
theorem bL_val {o : Oper} (v : Value) (hg : o.guard = none) (hy : (execOp a.eval o).run P w = .ok (.value v) w) (h : Bx (wpList P ops Q rest (a.put o.dst v) w)) : Bx (wpList P ops Q (o :: rest) a w) :=
  ⟨wpList_plain hg fun _ h_ => by
    unfold Oper.wp
    rw [hy]
    exact h_ _ _ h.out⟩
theorem bL_load {t : TypeId} {x : Operand} {p : Addr} {v : Value} (hx : a.eval x = .pointer (some p)) (hc : w.cell? p = some v) (hu : plainB P t = true) (h : Bx (wpList P ops Q rest (a.put dst v) w)) :
    Bx (wpList P ops Q (⟨dst, .load t x, ty, pos, after, none⟩ :: rest) a w) := by
  obtain ⟨d, h1, h2⟩ := plainB_out hu
  refine bL_val v rfl ?_ h
  simp [execOp, hx, Instr.loadAt, Instr.sureAddr, run_loadVar_plain h1 h2 hc, Result.andThen]
end
end Go.Proofs.Ytodojllclghoiaa
