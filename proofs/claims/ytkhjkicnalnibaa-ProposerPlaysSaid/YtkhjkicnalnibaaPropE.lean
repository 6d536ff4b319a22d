/-
  Entries and commands that came in.
-/
import Derived.Test.YtkhjkicnalnibaaPropA
import Derived.Test.YtkhjkicnalnibaaSlIn
namespace Go.Proofs.Ytkhjkicnalnibaa
set_option linter.unusedVariables false
set_option linter.unusedSimpArgs false
open Go.RowKit

theorem cmd_in {w : World} {cs : List Value} (h : Rd Try.prog w 28 cs) : ∃ c : CmdS, cs = c.cells ∧ True := by
  obtain ⟨hl, hf⟩ := h.fields Try.underlying28
  have hc : Try.prog.cellsOf 28 = 5 := by kernel_rfl
  rw [hc] at hl
  obtain ⟨c0, r0, rfl, l0⟩ := cons_of_len hl
  obtain ⟨c1, r1, rfl, l1⟩ := cons_of_len l0
  obtain ⟨c2, r2, rfl, l2⟩ := cons_of_len l1
  obtain ⟨c3, r3, rfl, l3⟩ := cons_of_len l2
  obtain ⟨c4, r4, rfl, l4⟩ := cons_of_len l3
  obtain rfl := List.length_eq_zero_iff.1 l4
  have ki : Try.prog.cellsOf 3 = 1 := by kernel_rfl
  have ks : Try.prog.cellsOf 9 = 1 := by kernel_rfl
  have f0 : Rd Try.prog w 3 [c0] := by simpa [ki] using hf 0 _ rfl
  have f1 : Rd Try.prog w 3 [c1] := by simpa [ki] using hf 1 _ rfl
  have f2 : Rd Try.prog w 3 [c2] := by simpa [ki] using hf 2 _ rfl
  have f3 : Rd Try.prog w 9 [c3] := by simpa [ks] using hf 3 _ rfl
  have f4 : Rd Try.prog w 3 [c4] := by simpa [ki] using hf 4 _ rfl
  obtain ⟨x0, e0, _⟩ := f0.int Try.underlying3
  obtain ⟨x1, e1, _⟩ := f1.int Try.underlying3
  obtain ⟨x2, e2, _⟩ := f2.int Try.underlying3
  obtain ⟨x3, e3, _⟩ := f3.string Try.underlying9
  obtain ⟨x4, e4, _⟩ := f4.int Try.underlying3
  simp only [List.cons.injEq, and_true] at e0 e1 e2 e3 e4
  subst e0 e1 e2 e3 e4
  exact ⟨⟨x0, x1, x2, x3, x4⟩, rfl, trivial⟩

theorem ent_in {w : World} {cs : List Value} (h : Rd Try.prog w 30 cs) : ∃ e : EntS, cs = e.cells ∧ True := by
  obtain ⟨hl, hf⟩ := h.fields Try.underlying30
  have hc : Try.prog.cellsOf 30 = 7 := by kernel_rfl
  rw [hc] at hl
  obtain ⟨c0, r0, rfl, l0⟩ := cons_of_len hl
  obtain ⟨c1, r1, rfl, l1⟩ := cons_of_len l0
  obtain ⟨c2, r2, rfl, l2⟩ := cons_of_len l1
  obtain ⟨c3, r3, rfl, l3⟩ := cons_of_len l2
  obtain ⟨c4, r4, rfl, l4⟩ := cons_of_len l3
  obtain ⟨c5, r5, rfl, l5⟩ := cons_of_len l4
  obtain ⟨c6, r6, rfl, l6⟩ := cons_of_len l5
  obtain rfl := List.length_eq_zero_iff.1 l6
  have ki : Try.prog.cellsOf 3 = 1 := by kernel_rfl
  have kc : Try.prog.cellsOf 28 = 5 := by kernel_rfl
  have f0 : Rd Try.prog w 3 [c0] := by simpa [ki] using hf 0 _ rfl
  have f1 : Rd Try.prog w 3 [c1] := by simpa [ki] using hf 1 _ rfl
  have f2 : Rd Try.prog w 28 [c2, c3, c4, c5, c6] := by simpa [kc] using hf 2 _ rfl
  obtain ⟨x0, e0, _⟩ := f0.int Try.underlying3
  obtain ⟨x1, e1, _⟩ := f1.int Try.underlying3
  obtain ⟨c, e2, _⟩ := cmd_in f2
  simp only [List.cons.injEq, and_true] at e0 e1
  subst e0 e1
  refine ⟨⟨x0, x1, c⟩, ?_, trivial⟩
  unfold CmdS.cells at e2
  simp only [List.cons.injEq, and_true] at e2
  obtain ⟨rfl, rfl, rfl, rfl, rfl⟩ := e2
  rfl

/-- A slice of entries, as it stands in a cell. -/
structure EsIn where
  ad : Option Addr
  cap : Nat
  es : List EntS
def EsIn.cells (x : EsIn) : List Value := [.slice x.ad x.es.length x.cap]
theorem EsIn.cells_length (x : EsIn) : x.cells.length = 1 := rfl
def EsIn.at_ (w : World) (x : EsIn) : Prop := ElsAt w x.ad 7 EntS.cells x.es ∧ x.es.length ≤ 1000000000000000
theorem EsIn.ents {w0 w : World} {H : List Hp} {x : EsIn} (h : x.at_ w0) (hS : St w0 w H) : Ents w x.ad x.es := h.1.old hS

theorem es_in {w : World} {cs : List Value} (h : Rd Try.prog w 26 cs) : ∃ x : EsIn, cs = x.cells ∧ x.at_ w := by
  obtain ⟨ao, cap, zs, rfl, h1, h2, _, h3⟩ := h.sliceIn (f := EntS.cells) (Q := fun _ => True) Try.underlying26 (k := 7) (by kernel_rfl) (by decide) (fun cs h => ent_in h)
  have e : reachBytes = 140737488351232 := rfl
  have hb : Try.prog.bytesOf 30 = 64 := by kernel_rfl
  rw [hb] at h2
  exact ⟨⟨ao, cap, zs⟩, rfl, h3, by simp only; omega⟩
end Go.Proofs.Ytkhjkicnalnibaa
