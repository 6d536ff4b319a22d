/-
  Sessions that differ in what was not told answer alike (plain law).
-/
import Derived.Test.YtodojllclghoiaaSesRT
namespace Go.Proofs.Ytodojllclghoiaa
set_option linter.unusedVariables false
set_option linter.unusedSimpArgs false
open Go.RowKit

def Alike (σ σ' : SesS) : Prop := σ.l.map forget = σ'.l.map forget ∧ σ.c = σ'.c
theorem forget_forget (x : OneS) : forget (forget x) = forget x := by
  obtain ⟨client, life, op, seq, said, rp⟩ := x
  cases said <;> rfl
theorem Alike.forgotten (σ : SesS) : Alike σ ⟨σ.l.map forget, σ.c⟩ := by
  refine ⟨?_, rfl⟩
  rw [List.map_map]
  apply List.map_congr_left
  intro x _
  exact (forget_forget x).symm
theorem sesE_forget (k : Nat) (x : OneS) : sesE k (forget x) = sesE k x := by
  obtain ⟨client, life, op, seq, said, rp⟩ := x
  cases said <;> rfl
theorem encS_forget (σ : SesS) : encS ⟨σ.l.map forget, σ.c⟩ = encS σ := by
  unfold encS
  have e : (σ.l.map forget).mapIdx sesE = σ.l.mapIdx sesE := by
    apply List.ext_getElem?
    intro i
    rw [List.getElem?_mapIdx, List.getElem?_mapIdx, List.getElem?_map]
    cases σ.l[i]? with
    | none => rfl
    | some x => simp [sesE_forget]
  simp only [e, List.length_map]
  rfl
theorem Alike.enc {σ σ' : SesS} (h : Alike σ σ') : encS σ = encS σ' := by
  rw [← encS_forget σ, ← encS_forget σ', h.1, h.2]

theorem forget_eq {x x' : OneS} (h : forget x = forget x') : x'.client = x.client ∧ x'.life = x.life ∧ x'.isOpen = x.isOpen ∧ x'.seq = x.seq ∧ x'.said = x.said ∧ (x.said = true → x'.reply = x.reply) := by
  obtain ⟨a, b, c, d, e, f⟩ := x
  obtain ⟨a', b', c', d', e', f'⟩ := x'
  cases e <;> cases e' <;> simp [forget] at h <;> simp [h]
theorem alike_at {σ σ' : SesS} (h : Alike σ σ') (id : Int) : (atS σ id = none ∧ atS σ' id = none) ∨ ∃ k x x', atS σ id = some (k, x) ∧ atS σ' id = some (k, x') ∧ forget x = forget x' := by
  unfold atS
  by_cases h1 : 1 ≤ id
  · rw [if_pos h1, if_pos h1]
    have h2 : (σ.l.map forget)[(id - 1).toNat]? = (σ'.l.map forget)[(id - 1).toNat]? := by rw [h.1]
    rw [List.getElem?_map, List.getElem?_map] at h2
    cases h3 : σ.l[(id - 1).toNat]? with
    | none =>
      rw [h3] at h2
      cases h4 : σ'.l[(id - 1).toNat]? with
      | none => exact .inl ⟨rfl, rfl⟩
      | some x' => rw [h4] at h2; simp at h2
    | some x =>
      rw [h3] at h2
      cases h4 : σ'.l[(id - 1).toNat]? with
      | none => rw [h4] at h2; simp at h2
      | some x' =>
        rw [h4] at h2
        simp only [Option.map_some, Option.some.injEq] at h2
        exact .inr ⟨_, x, x', rfl, rfl, h2⟩
  · rw [if_neg h1, if_neg h1]
    exact .inl ⟨rfl, rfl⟩
theorem Alike.set {σ σ' : SesS} (h : Alike σ σ') (k : Nat) {y y' : OneS} (hy : forget y = forget y') : Alike ⟨σ.l.set k y, σ.c⟩ ⟨σ'.l.set k y', σ'.c⟩ := by
  refine ⟨?_, h.2⟩
  simp only [List.map_set, h.1, hy]
theorem alike_close {σ σ' : SesS} (h : Alike σ σ') (id : Int) : (closeS σ id).1 = (closeS σ' id).1 ∧ Alike (closeS σ id).2 (closeS σ' id).2 := by
  unfold closeS
  rcases alike_at h id with ⟨h1, h2⟩ | ⟨k, x, x', h1, h2, hf⟩
  · rw [h1, h2]; exact ⟨rfl, h⟩
  · rw [h1, h2]
    obtain ⟨e1, e2, e3, e4, e5, e6⟩ := forget_eq hf
    simp only [e3]
    split
    · refine ⟨rfl, h.set k ?_⟩
      obtain ⟨a, b, c, d, e, f⟩ := x
      obtain ⟨a', b', c', d', e', f'⟩ := x'
      simp only at e1 e2 e3 e4 e5 e6
      subst e1 e2 e3 e4 e5
      cases e' with
      | true => rw [e6 rfl]
      | false => rfl
    · exact ⟨rfl, h⟩

theorem alike_begin {σ σ' : SesS} (h : Alike σ σ') (id seq : Int) : (beginS σ id seq).1 = (beginS σ' id seq).1 ∧ (beginS σ id seq).2.1 = (beginS σ' id seq).2.1 ∧ Alike (beginS σ id seq).2.2 (beginS σ' id seq).2.2 := by
  unfold beginS
  rcases alike_at h id with ⟨h1, h2⟩ | ⟨k, x, x', h1, h2, hf⟩
  · rw [h1, h2]; exact ⟨rfl, rfl, h⟩
  · rw [h1, h2]
    obtain ⟨e1, e2, e3, e4, e5, e6⟩ := forget_eq hf
    simp only [e3, e4, e5]
    split
    · rename_i hs
      exact ⟨(e6 hs.1).symm, rfl, h⟩
    split
    · exact ⟨rfl, rfl, h⟩
    split
    · exact ⟨rfl, rfl, h⟩
    split
    · exact ⟨rfl, rfl, h⟩
    split
    · exact ⟨rfl, rfl, h⟩
    · refine ⟨rfl, rfl, h.set k ?_⟩
      simp [forget, e1, e2, e3]
theorem alike_end {σ σ' : SesS} (h : Alike σ σ') (r : RepS) : (endS σ r).1 = (endS σ' r).1 ∧ Alike (endS σ r).2 (endS σ' r).2 := by
  unfold endS
  rcases alike_at h r.session with ⟨h1, h2⟩ | ⟨k, x, x', h1, h2, hf⟩
  · rw [h1, h2]; exact ⟨rfl, h⟩
  · rw [h1, h2]
    obtain ⟨e1, e2, e3, e4, e5, e6⟩ := forget_eq hf
    simp only [e4, e5]
    split
    · exact ⟨rfl, h⟩
    · refine ⟨rfl, h.set k ?_⟩
      simp [forget, e1, e2, e3, e4]
theorem alike_all {σ σ' : SesS} (h : Alike σ σ') : allS σ = allS σ' := by
  have h1 := allS_forget σ.l σ.c σ.c
  have h2 := allS_forget σ'.l σ'.c σ'.c
  rw [h.1, h.2] at h1
  exact h1.symm.trans h2
theorem alike_open {σ σ' : SesS} (h : Alike σ σ') (c l : Int) : (openS σ c l).1 = (openS σ' c l).1 ∧ Alike (openS σ c l).2 (openS σ' c l).2 := by
  have hl : σ.l.length = σ'.l.length := by have := congrArg List.length h.1; simpa using this
  have ht : latS σ c = latS σ' c := by unfold latS; rw [h.2]
  unfold openS
  rw [ht, alike_all h, hl]
  split
  · exact ⟨rfl, h⟩
  split
  · exact ⟨rfl, h⟩
  split
  · exact ⟨rfl, h⟩
  split
  · exact ⟨rfl, h⟩
  · exact ⟨rfl, by simp only [List.map_append, h.1], by simp only [h.2]⟩
end Go.Proofs.Ytodojllclghoiaa
