/-
  One lock out of the others, and the ways back.
-/
import Derived.Test.YtelbpnlpmaihhaaLocksSpec
namespace Go.Proofs.Ytelbpnlpmaihhaa
set_option linter.unusedVariables false
set_option linter.unusedSimpArgs false

abbrev lhp (x : ByteArray × LM) : List Hp := x.2.hp

theorem locks_open {w0 w : World} {g : Nat} {σ : LocksS} {R : List Hp} {nm : ByteArray} {x : LockS} (h : LocksSt w0 w g σ R) (hx : aget σ.l nm = some x) :
    ∃ (m : Nat) (Z : List (ByteArray × LM)) (i : Nat) (z : LM), Z.map datL = σ.l ∧ aidx σ.l nm = some i ∧ Z[i]? = some (nm, z) ∧ z.s = x ∧
      St w0 w (.cells g [.map (some m), .int .u64 σ.tok] 68 :: .mp m .string (Z.map kvL) :: (z.hp ++ ((Z.eraseIdx i).flatMap lhp ++ R))) := by
  obtain ⟨m, Z, hZ, hS⟩ := h
  obtain ⟨i, h1, h2⟩ := aget_idx hx
  rw [← hZ, List.getElem?_map] at h2
  obtain ⟨⟨nm', z⟩, h3, h4⟩ := Option.map_eq_some_iff.1 h2
  simp only [datL, Prod.mk.injEq] at h4
  obtain ⟨rfl, rfl⟩ := h4
  exact ⟨m, Z, i, z, hZ, h1, h3, rfl, St.takeOut (f := lhp) (A := [_, _]) h3 hS⟩

theorem locks_put {w0 w : World} {g m : Nat} {σ : LocksS} {R : List Hp} {nm : ByteArray} {Z : List (ByteArray × LM)} {i : Nat} {z z' : LM} {tok : Int} (hZ : Z.map datL = σ.l) (hi : aidx σ.l nm = some i) (hz : Z[i]? = some (nm, z)) (hb : z'.blk = z.blk)
    (hS : St w0 w (.cells g [.map (some m), .int .u64 tok] 68 :: .mp m .string (Z.map kvL) :: (z'.hp ++ ((Z.eraseIdx i).flatMap lhp ++ R)))) : LocksSt w0 w g ⟨aput σ.l nm z'.s, tok⟩ R := by
  refine ⟨m, Z.set i (nm, z'), ?_, ?_⟩
  · rw [List.map_set, hZ, aput, hi]; rfl
  · rw [map_set_same hz (by simp [kvL, hb])]
    exact St.putIn (f := lhp) (A := [_, _]) (z' := (nm, z')) hz hS

theorem locks_del {w0 w : World} {g m : Nat} {σ : LocksS} {R : List Hp} {nm : ByteArray} {Z : List (ByteArray × LM)} {i : Nat} {tok : Int} (hZ : Z.map datL = σ.l) (hi : aidx σ.l nm = some i)
    (hS : St w0 w (.cells g [.map (some m), .int .u64 tok] 68 :: .mp m .string ((Z.map kvL).eraseIdx i) :: ((Z.eraseIdx i).flatMap lhp ++ R))) : LocksSt w0 w g ⟨adel σ.l nm, tok⟩ R := by
  have me : ∀ {β : Type} (f : ByteArray × LM → β), (Z.map f).eraseIdx i = (Z.eraseIdx i).map f := by
    intro β f
    apply List.ext_getElem?
    intro q
    simp [List.getElem?_eraseIdx]
    split <;> rfl
  rw [me] at hS
  exact ⟨m, Z.eraseIdx i, by rw [adel, hi, ← hZ]; exact (me datL).symm, hS⟩

theorem locks_new {w0 w : World} {g m : Nat} {σ : LocksS} {R : List Hp} {nm : ByteArray} {Z : List (ByteArray × LM)} {z : LM} {tok : Int} (hZ : Z.map datL = σ.l) (hi : aidx σ.l nm = none)
    (hS : St w0 w (.cells g [.map (some m), .int .u64 tok] 68 :: .mp m .string (Z.map kvL ++ [(.string nm, .pointer (some ⟨z.blk, 0, none⟩))]) :: (z.hp ++ (Z.flatMap lhp ++ R)))) : LocksSt w0 w g ⟨aput σ.l nm z.s, tok⟩ R := by
  refine ⟨m, Z ++ [(nm, z)], by rw [List.map_append, hZ, aput, hi]; rfl, ?_⟩
  rw [List.map_append]
  exact St.addOne (f := lhp) (A := [_, _]) (z := (nm, z)) hS

theorem locks_look {Z : List (ByteArray × LM)} {i : Nat} {nm : ByteArray} {z : LM} (hz : Z[i]? = some (nm, z)) : ∃ j : Nat, (Z.map kvL)[j]? = some (Value.string nm, Value.pointer (some ⟨z.blk, 0, none⟩)) :=
  ⟨i, by rw [List.getElem?_map, hz]; rfl⟩

theorem locks_none {σ : LocksS} {Z : List (ByteArray × LM)} {nm : ByteArray} (hZ : Z.map datL = σ.l) (h : aget σ.l nm = none) : ∀ p ∈ Z.map kvL, p.1 ≠ Value.string nm := by
  intro p hp e
  obtain ⟨x, hx, rfl⟩ := List.mem_map.1 hp
  simp only [kvL] at e
  injection e with e
  have := aidx_none (aget_none_idx h) (datL x) (by rw [← hZ]; exact List.mem_map.2 ⟨x, hx, rfl⟩)
  exact this e

section
variable {κ α : Type} [DecidableEq κ]
theorem aidx_aput (l : List (κ × α)) (k : κ) (v : α) {i : Nat} (h : aidx l k = some i) : aidx (aput l k v) k = some i := by
  obtain ⟨v', h1⟩ := aidx_some h
  have hl : i < l.length := (List.getElem?_eq_some_iff.1 h1).1
  unfold aput
  rw [h]
  unfold aidx at h ⊢
  obtain ⟨hl', h2, h3⟩ := List.findIdx?_eq_some_iff_getElem.1 h
  refine List.findIdx?_eq_some_iff_getElem.2 ⟨by simpa using hl', by simp, fun j hj => ?_⟩
  rw [List.getElem_set_ne (by omega)]
  exact h3 j hj
theorem aput_aput (l : List (κ × α)) (k : κ) (v v' : α) {i : Nat} (h : aidx l k = some i) : aput (aput l k v) k v' = aput l k v' := by
  have h1 := aidx_aput l k v h
  have e : aput l k v = l.set i (k, v) := by unfold aput; rw [h]
  have e' : aput l k v' = l.set i (k, v') := by unfold aput; rw [h]
  have e2 : aput (aput l k v) k v' = (aput l k v).set i (k, v') := by
    show (match aidx (aput l k v) k with | none => _ | some i => _) = _
    rw [h1]
  rw [e2, e, e', List.set_set]
theorem adel_aput (l : List (κ × α)) (k : κ) (v : α) {i : Nat} (h : aidx l k = some i) : adel (aput l k v) k = adel l k := by
  have h1 := aidx_aput l k v h
  have e : aput l k v = l.set i (k, v) := by unfold aput; rw [h]
  unfold adel
  rw [h1, h, e]
  simp [List.eraseIdx_set_eq]
end
end Go.Proofs.Ytelbpnlpmaihhaa
