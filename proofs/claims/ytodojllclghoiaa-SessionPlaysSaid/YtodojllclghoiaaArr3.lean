/-
  Arrays of three numbers: compared; loaded.
-/
import Derived.Test.YtodojllclghoiaaFieldV
import Derived.Laws.StructEq
namespace Go.Proofs.Ytodojllclghoiaa
set_option linter.unusedVariables false
set_option linter.unusedSimpArgs false
open Go.RowKit

theorem run_part1 {P : Program} {e : TypeId} {cs : Array Value} {v : Value} {off : Nat} (h : plainB P e = true) (hv : cs[off]? = some v) (w : World) : (part e cs off).run P w = .ok v w := by
  obtain ⟨d, hd, hp⟩ := plainB_out h
  simp only [Sem.run_bind, Result.andThen_ok, Sem.run_pure, part, isAgg, run_underlying hd]
  cases d <;> simp [plainDesc] at hp <;> simp [Sem.run_pure, Result.andThen_ok, hv]

theorem run_eq_arr3 {P : Program} {t e : TypeId} {k : IntKind} (hu : P.underlying t = some (.array 3 e)) (he : P.underlying e = some (.int k)) (hn : sizeIs P e 1 = true) (a b c a' b' c' : Int) (w : World) (d : Nat) :
    (Op.equalIn (d + 2) t (.agg #[.int .i64 a, .int .i64 b, .int .i64 c]) (.agg #[.int .i64 a', .int .i64 b', .int .i64 c'])).run P w = .ok (a == a' && b == b' && c == c') w := by
  have hp : plainB P e = true := by unfold plainB; rw [he]
  have hs : (sizeOf e).run P w = .ok 1 w := by
    have := sizeIs_out hn
    cases hq : P.info? e with
    | none => rw [hq] at this; simp at this
    | some i =>
      rw [hq] at this
      simp at this
      simp [sizeOf, typeInfo, program, Sem.run, hq, this]
  have h0 : ∀ (x : Value) (cs : Array Value) (off : Nat), cs[off]? = some x → (part e cs off).run P w = .ok x w := fun x cs off hv => run_part1 hp hv w
  have q0 := h0 (.int .i64 a) #[.int .i64 a, .int .i64 b, .int .i64 c] 0 rfl
  have q1 := h0 (.int .i64 b) #[.int .i64 a, .int .i64 b, .int .i64 c] 1 rfl
  have q2 := h0 (.int .i64 c) #[.int .i64 a, .int .i64 b, .int .i64 c] 2 rfl
  have r0 := h0 (.int .i64 a') #[.int .i64 a', .int .i64 b', .int .i64 c'] 0 rfl
  have r1 := h0 (.int .i64 b') #[.int .i64 a', .int .i64 b', .int .i64 c'] 1 rfl
  have r2 := h0 (.int .i64 c') #[.int .i64 a', .int .i64 b', .int .i64 c'] 2 rfl
  have e0 := fun x y => run_equalIn_int (P := P) w d e .i64 k x y he
  conv => lhs; rw [show d + 2 = (d + 1) + 1 from rfl, Op.equalIn]
  simp only [Sem.run_bind, run_underlying hu, Result.andThen_ok, hs]
  simp only [Std.Legacy.Range.forIn_eq_forIn_range', Std.Legacy.Range.size]
  simp only [Nat.sub_zero, Nat.add_sub_cancel, Nat.reduceAdd, Nat.reduceSub, Nat.div_one, List.range', List.forIn_cons, List.forIn_nil, Sem.run_bind, Nat.mul_one, Nat.zero_mul, Nat.one_mul, q0, r0, Result.andThen_ok, e0, Nat.zero_add]
  by_cases h1 : a = a'
  · subst h1
    simp [Sem.run_bind, q1, r1, e0, Result.andThen_ok]
    by_cases h2 : b = b'
    · subst h2
      simp [Sem.run_bind, q2, r2, e0, Result.andThen_ok]
      by_cases h3 : c = c'
      · subst h3
        simp [Result.andThen_ok]
      · simp [h3, Result.andThen_ok]
    · simp [h2, Result.andThen_ok]
  · simp [h1, Result.andThen_ok]

section
variable {P : Program} {a : Act} {w : World} {dst : Option Tmp} {ty : TypeId} {pos : String} {after : Array Edge} {gd : Option (Nat × Bool)}
theorem exec_lookup_val {t : TypeId} {m x : Operand} {mv key v : Value} (hm : a.eval m = mv) (hx : a.eval x = key) (h : (Instr.lookup t mv key false).run P w = .ok v w) : (execOp a.eval ⟨dst, .lookup t m x false, ty, pos, after, gd⟩).run P w = .ok (.value v) w := by
  simp only [execOp, hm, hx, Sem.run_bind, h, Result.andThen_ok, Sem.run_pure]
theorem exec_field_val {t : TypeId} {x : Operand} {n : Nat} {cs : Array Value} {v : Value} (hx : a.eval x = .agg cs) (hv : cs[n]? = some v) (h : fieldB P t n n = true) : (execOp a.eval ⟨dst, .field t x n, ty, pos, after, gd⟩).run P w = .ok (.value v) w := by
  simp only [execOp, hx, Sem.run_bind, run_fieldV h hv, Result.andThen_ok, Sem.run_pure]
theorem exec_loadN_val {t : TypeId} {x : Operand} {g j : Nat} {cs : List Value} (hx : a.eval x = .pointer (some ⟨g, j, none⟩)) (hcell : w.rangeAt g j cs) (hu : rowB P t = true) (hn : sizeIs P t cs.length = true) : (execOp a.eval ⟨dst, .load t x, ty, pos, after, gd⟩).run P w = .ok (.value (.agg cs.toArray)) w := by
  obtain ⟨d, h1, h2⟩ := rowB_out hu
  have := run_loadAt_mid (P := P) w g j t cs d hcell h1 h2 (sizeIs_out hn)
  simp [execOp, hx, this, Result.andThen]
theorem exec_neq3 {t e t2 : TypeId} {k : IntKind} {x y : Operand} {a0 b0 c0 a1 b1 c1 : Int} (hx : a.eval x = .agg #[.int .i64 a0, .int .i64 b0, .int .i64 c0]) (hy : a.eval y = .agg #[.int .i64 a1, .int .i64 b1, .int .i64 c1])
    (hu : P.underlying t = some (.array 3 e)) (he : P.underlying e = some (.int k)) (hn : sizeIs P e 1 = true) (hg : P.eqGuardType P.depth t = false) : (execOp a.eval ⟨dst, .binOp .neq t x y t2, ty, pos, after, gd⟩).run P w = .ok (.value (.bool (!(a0 == a1 && b0 == b1 && c0 == c1)))) w := by
  have h := run_eq_arr3 hu he hn a0 b0 c0 a1 b1 c1 w 9998
  simp only [execOp, hx, hy, Sem.run_bind, run_neq_struct, run_eqGuard_agg w _ _ _ _ _ _ hg, Result.andThen_ok, h, Sem.run_pure]
end
end Go.Proofs.Ytodojllclghoiaa
