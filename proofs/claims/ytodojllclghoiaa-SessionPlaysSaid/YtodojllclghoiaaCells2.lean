/-
  make([]T, n) as a block that is known whole; slices that came in.
-/
import Derived.Test.YtodojllclghoiaaQuiet
import Derived.Test.YtodojllclghoiaaOpen
namespace Go.Proofs.Ytodojllclghoiaa
set_option linter.unusedVariables false
set_option linter.unusedSimpArgs false

section
variable {P : Program} {ops : Array Oper} {rest : List Oper} {Q : Exit → Act → World → Prop} {dst : Option Tmp} {ty : TypeId} {pos : String} {after : Array Edge} {a : Act} {w0 w : World} {H : List Hp}

theorem wpA_makeC {t e : TypeId} {x y : Operand} {k1 k2 : IntKind} (hS : St w0 w H) {z : Value} {bytes n : Nat} (hx : a.eval x = .int k1 n) (hy : a.eval y = .int k2 n) (ht : P.underlying t = some (.slice e))
    (hinfo : (P.info? e).map (fun i => (i.zero, i.size, i.bytes)) = some (some z, 1, bytes)) (hzs : z.cells = #[z]) (h63 : n ≤ maxLen) (hbytes : bytes * n ≤ 281474976710656)
    (hK : ∀ g w', St w0 w' (.cells g (List.replicate n z) e :: H) → wpList P ops Q rest (a.put dst (.slice (some ⟨g, 0, none⟩) n n)) w') :
    wpList P ops Q (⟨dst, .makeSlice t x y, ty, pos, after, none⟩ :: rest) a w := by
  refine wpList_plain rfl fun K hK' => ?_
  obtain ⟨i, i1, i2, i3, i4⟩ := info_parts hinfo
  have h63' : (n : Int) ≤ 9223372036854775807 := by
    have h := h63
    simp [maxLen] at h
    omega
  have hb' : (i.bytes : Int) * (n : Int) ≤ 281474976710656 := by
    subst i4
    have h : ((i.bytes * n : Nat) : Int) ≤ 281474976710656 := by omega
    rwa [Int.natCast_mul] at h
  have hr := run_make (P := P) w t e i z ht i1 i2 k1 k2 n n (by omega) (Int.le_refl _) hb' h63'
  simp only [Int.toNat_natCast, i3, hzs, Nat.mul_one] at hr
  have e1 : madeCells #[z] n = (List.replicate n z).toArray := by
    rw [← madeCells_one]
  rw [e1] at hr
  have hS' := hS.alloc (List.replicate n z) e
  unfold Oper.wp
  simp only [execOp, hx, hy, Sem.run_bind, hr, Result.andThen_ok, Sem.run_pure]
  exact hK' _ _ (hK _ _ hS')
end

/-- A slice of ints that came in. -/
structure IntsIn (w0 : World) (v : Value) (zs : List Int) : Prop where
  ex : ∃ (ao : Option Addr) (cap : Nat), v = .slice ao zs.length cap ∧ zs.length ≤ cap ∧ cap * 8 ≤ reachBytes ∧ (zs = [] ∨ ∃ b off, ao = some ⟨b, off, none⟩ ∧ ∀ j n, zs[j]? = some n → w0.cell? ⟨b, off + j, none⟩ = some (.int .i64 n))

theorem IntsIn.of {P : Program} {w0 : World} {t e : TypeId} {v : Value} (h : RdV P w0 t v) (ht : P.underlying t = some (.slice e)) (he : P.underlying e = some (.int .i64)) (hk : P.cellsOf e = 1) (hb : P.bytesOf e = 8) :
    ∃ zs, IntsIn w0 v zs ∧ ∀ n ∈ zs, (Lit.int .i64 n).wf = true := by
  obtain ⟨ao, len, cap, C, rfl, hl, hm, hbytes, h0, hC⟩ := h.slice ht hk (by omega)
  rw [hb] at hbytes
  have hex : ∀ i, i < cap → ∃ n, C i = [.int .i64 n] ∧ (Lit.int .i64 n).wf = true := fun i hi => (hC i hi).2.1.int he
  have hch : ∀ i : Nat, ∃ n : Int, i < cap → C i = [.int .i64 n] ∧ (Lit.int .i64 n).wf = true := fun i => by
    by_cases h : i < cap
    · obtain ⟨n, h1⟩ := hex i h; exact ⟨n, fun _ => h1⟩
    · exact ⟨0, fun h' => absurd h' h⟩
  obtain ⟨f, hf⟩ := Classical.axiomOfChoice hch
  refine ⟨(List.range len).map f, ⟨ao, cap, by simp, by simpa using hl, hbytes, ?_⟩, fun n hn => ?_⟩
  · by_cases hl0 : len = 0
    · left; subst hl0; rfl
    · right
      obtain ⟨_, _, b, off, rfl, _⟩ := hC 0 (by omega)
      refine ⟨b, off, rfl, fun j n hj => ?_⟩
      rw [List.getElem?_map] at hj
      have hjl : j < len := by
        by_cases h : j < len
        · exact h
        · rw [List.getElem?_eq_none (by simp; omega)] at hj; cases hj
      rw [List.getElem?_range hjl] at hj
      simp at hj; subst hj
      obtain ⟨_, _, b', off', hbe, hcell⟩ := hC j (by omega)
      cases hbe
      have := hcell 0 (by omega)
      rw [(hf j (by omega)).1] at this
      simpa using this
  · obtain ⟨i, hi, rfl⟩ := List.mem_map.1 hn
    exact (hf i (by have := List.mem_range.1 hi; omega)).2
end Go.Proofs.Ytodojllclghoiaa
