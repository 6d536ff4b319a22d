/-
  A field of a struct that is a value.
-/
import Derived.Test.YtodojllclghoiaaSlMore
namespace Go.Proofs.Ytodojllclghoiaa
set_option linter.unusedVariables false
set_option linter.unusedSimpArgs false

def fieldB (P : Program) (t : TypeId) (n off : Nat) : Bool := match P.underlying t with
  | some (.struct fs) => match fs[n]? with
    | some f => f.offset == off && plainB P f.type
    | none => false
  | _ => false

theorem run_fieldV {P : Program} {t : TypeId} {n off : Nat} {cs : Array Value} {v : Value} (h : fieldB P t n off = true) (hv : cs[off]? = some v) (w : World) : (Instr.field t (.agg cs) n).run P w = .ok v w := by
  unfold fieldB at h
  split at h
  · rename_i fs hu
    split at h
    · rename_i f hf
      simp only [Bool.and_eq_true, beq_iff_eq] at h
      obtain ⟨rfl, h2⟩ := h
      obtain ⟨d, hd, hp⟩ := plainB_out h2
      simp only [Instr.field, Sem.run_bind, run_underlying hu, Result.andThen_ok, hf, asAgg, Sem.run_pure, part, isAgg, run_underlying hd]
      cases d <;> simp [plainDesc] at hp <;> simp [Sem.run_pure, Result.andThen_ok, hv]
    · cases h
  · cases h

section
variable {P : Program} {ops : Array Oper} {rest : List Oper} {Q : Exit → Act → World → Prop} {dst : Option Tmp} {ty : TypeId} {pos : String} {after : Array Edge} {gd : Option (Nat × Bool)} {a : Act} {w : World} {K : Act → World → Prop}

theorem opA_field {t : TypeId} {x : Operand} {n : Nat} {cs : Array Value} {v : Value} (off : Nat) (hx : a.eval x = .agg cs) (hv : cs[off]? = some v) (h : fieldB P t n off = true) (hK : K (a.put dst v) w) : Oper.wp P ⟨dst, .field t x n, ty, pos, after, gd⟩ a w K Q := by
  unfold Oper.wp
  simp only [execOp, hx, Sem.run_bind, run_fieldV h hv, Result.andThen_ok, Sem.run_pure]
  exact hK
theorem wpA_field {t : TypeId} {x : Operand} {n : Nat} {cs : Array Value} {v : Value} (hx : a.eval x = .agg cs) (hv : cs[n]? = some v) (h : fieldB P t n n = true) (hK : wpList P ops Q rest (a.put dst v) w) : wpList P ops Q (⟨dst, .field t x n, ty, pos, after, none⟩ :: rest) a w :=
  wpList_plain rfl fun _ h_ => opA_field n hx hv h (h_ _ _ hK)
end
end Go.Proofs.Ytodojllclghoiaa
