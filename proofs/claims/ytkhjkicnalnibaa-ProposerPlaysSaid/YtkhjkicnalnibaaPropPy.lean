/-
  ProposerPlays: the arguments read.
-/
import Derived.Test.YtkhjkicnalnibaaPropPl
namespace Go.Proofs.Ytkhjkicnalnibaa
set_option linter.unusedVariables false
set_option linter.unusedSimpArgs false
open Go.RowKit

theorem plays_law (w : World) (v0 v1 : Value) (h0 : RdV Try.prog w 39 v0) (h1 : RdV Try.prog w 40 v1) : Calls Try.prog 5 #[v0, v1] w fun e w' => e = .returned (.bool true) ∧ St w w' [] := by
  obtain ⟨cs, rfl, hl, h⟩ := h0.array Try.underlying39
  have hc : Try.prog.cellsOf 39 = 3 := by kernel_rfl
  rw [hc] at hl
  obtain ⟨c0, r0, rfl, l0⟩ := cons_of_len hl
  obtain ⟨c1, r1, rfl, l1⟩ := cons_of_len l0
  obtain ⟨c2, r2, rfl, l2⟩ := cons_of_len l1
  obtain rfl := List.length_eq_zero_iff.1 l2
  have hf := h.array Try.underlying39
  have ki : Try.prog.cellsOf 3 = 1 := by kernel_rfl
  have f0 : Rd Try.prog w 3 [c0] := by simpa [ki] using hf.2 0 (by decide)
  have f1 : Rd Try.prog w 3 [c1] := by simpa [ki] using hf.2 1 (by decide)
  have f2 : Rd Try.prog w 3 [c2] := by simpa [ki] using hf.2 2 (by decide)
  obtain ⟨x0, e0, _⟩ := f0.int Try.underlying3
  obtain ⟨x1, e1, _⟩ := f1.int Try.underlying3
  obtain ⟨x2, e2, _⟩ := f2.int Try.underlying3
  simp only [List.cons.injEq, and_true] at e0 e1 e2
  subst e0 e1 e2
  obtain ⟨ao, cap, l, rfl, ho, bo, hq, hr⟩ := h1.sliceIn (f := DeedS.cells) (Q := fun d => d.l.at_ w) Try.underlying40 (k := 9) (by kernel_rfl) (by decide) (fun cs h => deed_in h)
  have e : reachBytes = 140737488351232 := rfl
  have hb : Try.prog.bytesOf 45 = 96 := by kernel_rfl
  rw [hb] at bo
  exact plays_v w x0 x1 x2 l ao cap (by omega) hr hq
end Go.Proofs.Ytkhjkicnalnibaa
