/-
  Slices that came in, of whatever elements.
-/
import Derived.Test.YtodojllclghoiaaCells2
import Derived.Test.YtodojllclghoiaaAssoc
namespace Go.Proofs.Ytodojllclghoiaa
set_option linter.unusedVariables false
set_option linter.unusedSimpArgs false

/-- Elements in memory, from a slice's address on. -/
def ElsAt {α : Type} (w : World) (ao : Option Addr) (k : Nat) (f : α → List Value) (zs : List α) : Prop := ∀ j x, zs[j]? = some x → ∃ b off, ao = some ⟨b, off, none⟩ ∧ w.rangeAt b (off + j * k) (f x)

theorem Rd.sliceIn {P : Program} {w : World} {t e : TypeId} {cs : List Value} {α : Type} {f : α → List Value} {Q : α → Prop} {k : Nat} (h : Rd P w t cs) (ht : P.underlying t = some (.slice e)) (hk : P.cellsOf e = k) (h0 : 0 < k) (hdec : ∀ cs, Rd P w e cs → ∃ x, cs = f x ∧ Q x) :
    ∃ (ao : Option Addr) (cap : Nat) (zs : List α), cs = [.slice ao zs.length cap] ∧ zs.length ≤ cap ∧ cap * P.bytesOf e ≤ reachBytes ∧ (∀ x ∈ zs, Q x) ∧ ElsAt w ao k f zs := by
  obtain ⟨ao, len, cap, C, rfl, hl, hm, hbytes, hn, hC⟩ := h.slice ht hk h0
  have hch : ∀ i : Nat, ∃ x : Option α, i < cap → ∃ y, x = some y ∧ C i = f y ∧ Q y := fun i => by
    by_cases h : i < cap
    · obtain ⟨y, h1, h2⟩ := hdec _ (hC i h).2.1
      exact ⟨some y, fun _ => ⟨y, rfl, h1, h2⟩⟩
    · exact ⟨none, fun h' => absurd h' h⟩
  obtain ⟨g, hg⟩ := Classical.axiomOfChoice hch
  have hget : ∀ j, j < len → ∃ y, g j = some y ∧ C j = f y ∧ Q y := fun j hj => hg j (by omega)
  have hlen : ∀ m, m ≤ len → ((List.range m).filterMap g).length = m ∧ ∀ j, j < m → ((List.range m).filterMap g)[j]? = g j := by
    intro m
    induction m with
    | zero => intro _; exact ⟨rfl, fun j hj => absurd hj (Nat.not_lt_zero _)⟩
    | succ m ih =>
      intro hm'
      obtain ⟨i1, i2⟩ := ih (by omega)
      obtain ⟨y, hy, _⟩ := hget m (by omega)
      rw [List.range_succ, List.filterMap_append]
      have e : [m].filterMap g = [y] := by simp [hy]
      rw [e]
      refine ⟨by simp [i1], fun j hj => ?_⟩
      by_cases hjm : j < m
      · rw [List.getElem?_append_left (by omega)]; exact i2 j hjm
      · obtain rfl : j = m := by omega
        rw [List.getElem?_append_right (by omega), i1]; simp [hy]
  obtain ⟨l1, l2⟩ := hlen len (Nat.le_refl _)
  refine ⟨ao, cap, (List.range len).filterMap g, by rw [l1], by rw [l1]; exact hl, hbytes, ?_, ?_⟩
  · intro x hx
    obtain ⟨j, hj, hjx⟩ := List.mem_filterMap.1 hx
    obtain ⟨y, hy, _, hq⟩ := hget j (List.mem_range.1 hj)
    rw [hy] at hjx; cases hjx; exact hq
  · intro j x hj
    have hjl : j < len := by
      have := (List.getElem?_eq_some_iff.1 hj).1
      omega
    rw [l2 j hjl] at hj
    obtain ⟨y, hy, hc, _⟩ := hget j hjl
    rw [hy] at hj; cases hj
    obtain ⟨hl2, _, b, off, ha, hcell⟩ := hC j (by omega)
    refine ⟨b, off, ha, fun i v hv => ?_⟩
    rw [← hc] at hv
    have hik : i < k := by have := (List.getElem?_eq_some_iff.1 hv).1; omega
    rw [hcell i hik]; exact hv

theorem RdV.sliceIn {P : Program} {w : World} {t e : TypeId} {v : Value} {α : Type} {f : α → List Value} {Q : α → Prop} {k : Nat} (h : RdV P w t v) (ht : P.underlying t = some (.slice e)) (hk : P.cellsOf e = k) (h0 : 0 < k) (hdec : ∀ cs, Rd P w e cs → ∃ x, cs = f x ∧ Q x) :
    ∃ (ao : Option Addr) (cap : Nat) (zs : List α), v = .slice ao zs.length cap ∧ zs.length ≤ cap ∧ cap * P.bytesOf e ≤ reachBytes ∧ (∀ x ∈ zs, Q x) ∧ ElsAt w ao k f zs := by
  obtain ⟨a0, l0, c0, C, rfl, _⟩ := h.slice ht hk h0
  have h2 : Rd P w t [.slice a0 l0 c0] := h.2
  obtain ⟨ao, cap, zs, h3, h4⟩ := h2.sliceIn ht hk h0 hdec
  exact ⟨ao, cap, zs, by simpa using h3, h4⟩

theorem ElsAt.old {α : Type} {w0 w : World} {H : List Hp} {ao : Option Addr} {k : Nat} {f : α → List Value} {zs : List α} (h : ElsAt w0 ao k f zs) (hS : St w0 w H) : ElsAt w ao k f zs := fun j x hj => by
  obtain ⟨b, off, ha, hr⟩ := h j x hj
  exact ⟨b, off, ha, fun i v hv => hS.oldCell (hr i v hv)⟩
end Go.Proofs.Ytodojllclghoiaa
