/-
  Sessions: a reply that is read; a state opened; the reference when fresh.
-/
import Derived.Test.YtodojllclghoiaaSesGo
import Derived.Test.YtodojllclghoiaaGen2
namespace Go.Proofs.Ytodojllclghoiaa
set_option linter.unusedVariables false
set_option linter.unusedSimpArgs false
open Go.RowKit

theorem wfu64 {n : Int} (h : (Lit.int .u64 n).wf = true) : 0 ≤ n ∧ n < 18446744073709551616 := by
  simp [Lit.wf, IntKind.min, IntKind.max, IntKind.signed, IntKind.bits] at h
  omega
set_option maxRecDepth 100000 in
theorem reply_cs {w : World} {cs : List Value} (h : Rd Try.prog w 30 cs) : ∃ r : RepS, I64 r.session ∧ I64 r.seq ∧ r.ok ∧ cs = r.cells := by
  obtain ⟨hl, hf⟩ := h.fields Try.underlying30
  have hc : Try.prog.cellsOf 30 = 5 := by kernel_rfl
  have hk3 : Try.prog.cellsOf 3 = 1 := by kernel_rfl
  have hkE : Try.prog.cellsOf 25 = 1 := by kernel_rfl
  have hkU : Try.prog.cellsOf 28 = 1 := by kernel_rfl
  rw [hc] at hl
  obtain ⟨c0, r0, rfl, l0⟩ := cons_of_len hl
  obtain ⟨c1, r1, rfl, l1⟩ := cons_of_len l0
  obtain ⟨c2, r2, rfl, l2⟩ := cons_of_len l1
  obtain ⟨c3, r3, rfl, l3⟩ := cons_of_len l2
  obtain ⟨c4, r4, rfl, l4⟩ := cons_of_len l3
  obtain rfl := List.length_eq_zero_iff.1 l4
  have f0 : Rd Try.prog w 3 [c0] := by simpa [hk3, hkE, hkU] using hf 0 _ rfl
  obtain ⟨x0, e0, w0⟩ := f0.int Try.underlying3
  simp only [List.cons.injEq, and_true] at e0
  subst e0
  have f1 : Rd Try.prog w 3 [c1] := by simpa [hk3, hkE, hkU] using hf 1 _ rfl
  obtain ⟨x1, e1, w1⟩ := f1.int Try.underlying3
  simp only [List.cons.injEq, and_true] at e1
  subst e1
  have f2 : Rd Try.prog w 25 [c2] := by simpa [hk3, hkE, hkU] using hf 2 _ rfl
  obtain ⟨x2, e2, w2⟩ := f2.int Try.underlying25
  simp only [List.cons.injEq, and_true] at e2
  subst e2
  have f3 : Rd Try.prog w 28 [c3] := by simpa [hk3, hkE, hkU] using hf 3 _ rfl
  obtain ⟨x3, e3, w3⟩ := f3.int Try.underlying28
  simp only [List.cons.injEq, and_true] at e3
  subst e3
  have f4 : Rd Try.prog w 3 [c4] := by simpa [hk3, hkE, hkU] using hf 4 _ rfl
  obtain ⟨x4, e4, w4⟩ := f4.int Try.underlying3
  simp only [List.cons.injEq, and_true] at e4
  subst e4

  exact ⟨⟨x0, x1, x2, x3, x4⟩, wf64 w0, wf64 w1, ⟨wf64 w2, wfu64 w3, wf64 w4⟩, rfl⟩

theorem SesSt.opn {w0 w : World} {p : Nat} {A R : List Hp} {σ : SesS} (h : SesSt w0 w p σ (A ++ R)) : ∃ D : List Hp, St w0 w (A ++ D) ∧ ∀ w' A', St w0 w' (A' ++ D) → SesSt w0 w' p σ (A' ++ R) := opn_of_use h.use
abbrev xc (x : Nat) : Hp := .cells x [.slice none 0 0, .int .i64 0, .int .i64 0, .int .i64 0, .int .i64 0, .int .i64 0, .int .i64 0, .int .i64 0, .int .i64 0, .int .i64 0, .int .i64 0, .int .i64 0, .int .i64 0, .int .i64 0, .int .i64 0, .int .i64 0, .int .i64 0] 48
end Go.Proofs.Ytodojllclghoiaa
