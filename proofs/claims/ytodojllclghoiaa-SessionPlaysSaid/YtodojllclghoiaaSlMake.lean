/-
  make([]T, n) for a T of one cell; the law of the walk.
-/
import Derived.Test.YtodojllclghoiaaArms
import Derived.Laws.MakeOwn
namespace Go.Proofs.Ytodojllclghoiaa
set_option linter.unusedVariables false
set_option linter.unusedSimpArgs false

theorem madeCells_one (z : Value) (n : Nat) : (madeCells #[z] n).toList = List.replicate n z := by
  unfold madeCells
  rw [Array.toList_map, Array.toList_range]
  apply List.ext_getElem (by simp)
  intro i h1 h2
  simp [Nat.mod_one]

section
variable {P : Program} {ops : Array Oper} {rest : List Oper} {Q : Exit → Act → World → Prop} {dst : Option Tmp} {ty : TypeId} {pos : String} {after : Array Edge} {a : Act} {w0 w : World} {H : List Hp}

theorem opA_make {K : Act → World → Prop} {t e : TypeId} {x y : Operand} {k1 k2 : IntKind} (hS : St w0 w H) {z : Value} {bytes n : Nat} (hx : a.eval x = .int k1 n) (hy : a.eval y = .int k2 n) (ht : P.underlying t = some (.slice e))
    (hinfo : (P.info? e).map (fun i => (i.zero, i.size, i.bytes)) = some (some z, 1, bytes)) (hzs : z.cells = #[z]) (h63 : n ≤ maxLen) (hbytes : bytes * n ≤ 281474976710656)
    (hK : ∀ g w', St w0 w' (.row e 1 (some ⟨g, 0, none⟩) n n (List.replicate n z) :: H) → K (a.put dst (.slice (some ⟨g, 0, none⟩) n n)) w') :
    Oper.wp P (⟨dst, .makeSlice t x y, ty, pos, after, none⟩ : Oper) a w K Q := by
  obtain ⟨i, i1, i2, i3, i4⟩ := info_parts hinfo
  have h63' : (n : Int) ≤ 9223372036854775807 := by
    have h := h63
    simp [maxLen] at h
    omega
  have hb' : (i.bytes : Int) * (n : Int) ≤ 281474976710656 := by
    subst i4
    have h : ((i.bytes * n : Nat) : Int) ≤ 281474976710656 := by omega
    rwa [Int.natCast_mul] at h
  have hr := run_make (P := P) w t e i z ht i1 i2 k1 k2 n n (by omega) (Int.le_refl _) hb' h63'
  simp only [Int.toNat_natCast, i3, hzs, Nat.mul_one] at hr
  have e1 : madeCells #[z] n = (List.replicate n z).toArray := by
    rw [← madeCells_one]
  rw [e1] at hr
  have hS' : St w0 (w.alloc (.cells (List.replicate n z).toArray e)) (.row e 1 (some ⟨w.heap.size, 0, none⟩) n n (List.replicate n z) :: H) := by
    refine hS.step (A := []) (A' := [.row e 1 (some ⟨w.heap.size, 0, none⟩) n n (List.replicate n z)]) (R := H) (Turn.of_grown (World.grownBy_alloc w _ none)) (by simp [fps, Hp.fp]) (by simp [fps, Hp.fp]) ?_
    intro x hx
    simp at hx; subst hx
    exact row_mk (heap_alloc_new w _) (Nat.le_refl _) h63 (by simp) (by simp)
  unfold Oper.wp
  simp only [execOp, hx, hy, Sem.run_bind, hr, Result.andThen_ok, Sem.run_pure]
  exact (hK _ _ hS')

theorem wpA_make {t e : TypeId} {x y : Operand} {k1 k2 : IntKind} (hS : St w0 w H) {z : Value} {bytes n : Nat} (hx : a.eval x = .int k1 n) (hy : a.eval y = .int k2 n) (ht : P.underlying t = some (.slice e))
    (hinfo : (P.info? e).map (fun i => (i.zero, i.size, i.bytes)) = some (some z, 1, bytes)) (hzs : z.cells = #[z]) (h63 : n ≤ maxLen) (hbytes : bytes * n ≤ 281474976710656)
    (hK : ∀ g w', St w0 w' (.row e 1 (some ⟨g, 0, none⟩) n n (List.replicate n z) :: H) → wpList P ops Q rest (a.put dst (.slice (some ⟨g, 0, none⟩) n n)) w') :
    wpList P ops Q (⟨dst, .makeSlice t x y, ty, pos, after, none⟩ :: rest) a w :=
  wpList_plain rfl fun _ h => opA_make hS hx hy ht hinfo hzs h63 hbytes (fun g w' h_ => h _ _ (hK g w' h_))

/-- The same at bytes. -/
theorem wpA_makeB {t e : TypeId} {x y : Operand} {k1 k2 : IntKind} (hS : St w0 w H) {n : Nat} (hx : a.eval x = .int k1 n) (hy : a.eval y = .int k2 n) (ht : P.underlying t = some (.slice e))
    (hinfo : (P.info? e).map (fun i => (i.zero, i.size, i.bytes)) = some (some (.int .u8 0), 1, 1)) (h63 : n ≤ maxLen) (hbytes : n ≤ 281474976710656)
    (hK : ∀ g w', St w0 w' (.row e 1 (some ⟨g, 0, none⟩) n n ((List.replicate n (0 : UInt8)).map fun b => .int .u8 b.toNat) :: H) → wpList P ops Q rest (a.put dst (.slice (some ⟨g, 0, none⟩) n n)) w') :
    wpList P ops Q (⟨dst, .makeSlice t x y, ty, pos, after, none⟩ :: rest) a w :=
  wpA_make hS hx hy ht hinfo rfl h63 (by omega) (fun g w' h_ => hK g w' (by rw [List.map_replicate]; exact h_))
end
end Go.Proofs.Ytodojllclghoiaa
