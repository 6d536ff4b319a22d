/-
  A row that a callee made, taken into what the call owns.
-/
import Derived.Test.YtodojllclghoiaaAssoc
import Derived.Below
namespace Go.Proofs.Ytodojllclghoiaa
set_option linter.unusedVariables false
set_option linter.unusedSimpArgs false
open Go.RowKit

theorem St.newRow {w0 w w' : World} {H : List Hp} (hS : St w0 w H) {e : TypeId} {size : Nat} {v : Value} {n : Nat} {xs : List Value} (hrow : w'.ownsRow w.heap.size e size v n xs) (hb : Below w.heap.size w w') :
    ∃ ao cap, v = .slice ao n cap ∧ St w0 w' (.row e size ao n cap xs :: H) := by
  obtain ⟨hlx, hcase⟩ := hrow
  have hT : Turn w w' [] := ⟨hb.os, hb.tape, hb.output, hb.size, fun k hk _ => hb.block k hk⟩
  have key : ∃ ao cap, v = .slice ao n cap ∧ (∀ g, ao.map Addr.block = some g → w.heap.size ≤ g) := by
    rcases hcase with ⟨hv, h0⟩ | ⟨g, cap', cur, hv, hg, _⟩
    · exact ⟨none, 0, by rw [hv, h0], fun g h => by simp at h⟩
    · exact ⟨_, _, hv, fun g' h => by simp at h hg; omega⟩
  obtain ⟨ao, cap, rfl, hfp⟩ := key
  refine ⟨ao, cap, rfl, ?_⟩
  refine hS.step (A := []) (A' := [.row e size ao n cap xs]) (R := H) (by simpa [fps] using hT) (by rw [show fps [Hp.row e size ao n cap xs] = Hp.fp (.row e size ao n cap xs) by simp [fps]]; exact row_fp_nodup) ?_ ?_
  · intro g hg
    simp [fps, Hp.fp] at hg
    right
    apply hfp
    obtain ⟨a, h1, h2⟩ := hg
    rw [h1, ← h2]; rfl
  · intro x hx
    simp at hx; subst hx
    refine ⟨hlx, ?_⟩
    rcases hcase with h | ⟨g, cap', cur, hv, hg, r⟩
    · exact .inl h
    · exact .inr ⟨g, cap', cur, hv, Nat.zero_le _, r⟩

theorem row_ints {w : World} {e : TypeId} {ao : Option Addr} {n cap : Nat} {zs : List Int} (h : Hp.on w (.row e 1 ao n cap (zs.map (Value.int .i64)))) : zs.length = n := by
  have := row_length h; simpa using this

theorem row_int_cell {w : World} {e : TypeId} {g n cap : Nat} {zs : List Int} (h : Hp.on w (.row e 1 (some ⟨g, 0, none⟩) n cap (zs.map (Value.int .i64)))) : ∀ j, j < zs.length → w.cell? ⟨g, 0 + j, none⟩ = some (.int .i64 (zs.getD j 0)) := by
  intro j hj
  rw [Nat.zero_add]
  exact row_cell h j (by simp [List.getD, List.getElem?_eq_getElem hj])
end Go.Proofs.Ytodojllclghoiaa
