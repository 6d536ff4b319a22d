/-
  The reference's bytes are the program's (plain law).
-/
import Derived.Test.YtodojllclghoiaaSesR3
import Derived.Test.YtodojllclghoiaaSesGo
namespace Go.Proofs.Ytodojllclghoiaa
set_option linter.unusedVariables false
set_option linter.unusedSimpArgs false
open Go.RowKit

theorem mem_aput {l : List (Int × (Int × Int))} {k : Int} {v : Int × Int} {y : Int × (Int × Int)} (h : y ∈ aput l k v) : y ∈ l ∨ y = (k, v) := mem_aputc h
theorem ck_of : ∀ (n : Nat) (l : List OneS), l.length = n → (∀ x ∈ l, (0 ≤ x.client ∧ x.client ≤ 7) ∧ 1 ≤ x.life) → ((cOf l).map (·.1)).Nodup ∧ ∀ y ∈ cOf l, (0 ≤ y.1 ∧ y.1 ≤ 7) ∧ 1 ≤ y.2.1
  | 0, l, hl, h => by
    obtain rfl := List.length_eq_zero_iff.1 hl
    exact ⟨List.nodup_nil, fun y hy => absurd hy List.not_mem_nil⟩
  | n + 1, l, hl, h => by
    rcases List.eq_nil_or_concat l with rfl | ⟨l', x, rfl⟩
    · cases hl
    · rw [List.concat_eq_append] at h hl ⊢
      rw [List.length_append] at hl
      have ih := ck_of n l' (by simpa using hl) (fun y hy => h y (List.mem_append_left _ hy))
      have hx := h x (List.mem_append_right _ (List.mem_singleton.2 rfl))
      rw [cOf_snoc]
      refine ⟨?_, fun y hy => ?_⟩
      · rw [aput_keys]
        cases hg : aget (cOf l') x.client with
        | some v => exact ih.1
        | none =>
          rw [if_neg (by simp), List.nodup_append]
          refine ⟨ih.1, by simp, fun a ha b hb => ?_⟩
          rw [List.mem_singleton] at hb
          rintro rfl
          obtain ⟨y, hy, e⟩ := List.mem_map.1 ha
          exact aidx_none (aget_none_idx hg) y hy (e.trans hb)
      · rcases mem_aput hy with q | rfl
        · exact ih.2 y q
        · exact hx
theorem lat_pos {σ : SesS} (h : ∀ y ∈ σ.c, (0 ≤ y.1 ∧ y.1 ≤ 7) ∧ 1 ≤ y.2.1) (i : Int) : 0 < (latS σ i).1 ↔ i ∈ σ.c.map (·.1) := by
  unfold latS
  cases hq : aget σ.c i with
  | none =>
    refine ⟨fun q => absurd q (by decide), fun q => ?_⟩
    obtain ⟨y, hy, rfl⟩ := List.mem_map.1 q
    exact absurd rfl (aidx_none (aget_none_idx hq) y hy)
  | some v =>
    have hm := aget_mem hq
    refine ⟨fun _ => List.mem_map.2 ⟨_, hm, rfl⟩, fun _ => ?_⟩
    have := (h _ hm).2
    simp only [Option.getD_some]
    simp only at this
    omega
theorem csR_keys {σ : SesS} (hn : (σ.c.map (·.1)).Nodup) (h : ∀ y ∈ σ.c, (0 ≤ y.1 ∧ y.1 ≤ 7) ∧ 1 ≤ y.2.1) : csR σ 8 = clisE σ := by
  have hp : ((List.range 8).map fun (i : Nat) => (i : Int)).Pairwise (· < ·) := by decide
  have hp2 : (csR σ 8).Pairwise (· < ·) := hp.filter _
  refine List.Perm.eq_of_pairwise (le := fun a b => leI a b = true) (fun a b _ _ h1 h2 => ?_) (hp2.imp fun {a b} q => ?_) (List.pairwise_mergeSort ?_ ?_ _) ?_
  · simp only [leI, decide_eq_true_eq] at h1 h2; omega
  · simp only [leI, decide_eq_true_eq]; omega
  · intro a b c h1 h2; simp only [leI, decide_eq_true_eq] at h1 h2 ⊢; omega
  · intro a b; simp only [leI, Bool.or_eq_true, decide_eq_true_eq]; omega
  · refine List.Perm.trans ?_ (List.mergeSort_perm _ _).symm
    refine (List.perm_ext_iff_of_nodup (hp2.imp fun {a b} q => by omega) hn).2 fun a => ?_
    unfold csR
    rw [List.mem_filter, decide_eq_true_eq, lat_pos h]
    refine ⟨fun q => q.2, fun q => ⟨?_, q⟩⟩
    obtain ⟨y, hy, rfl⟩ := List.mem_map.1 q
    have := (h y hy).1
    exact List.mem_map.2 ⟨y.1.toNat, List.mem_range.2 (by omega), by omega⟩
theorem enc_same {n : Nat} {σ : SesS} (h : SG n σ) : encR σ = encS σ := by
  have hc : ∀ x ∈ σ.l, (0 ≤ x.client ∧ x.client ≤ 7) ∧ 1 ≤ x.life := by
    intro x hx
    obtain ⟨k, hk⟩ := List.getElem?_of_mem hx
    have := (h.i.w k x hk).1
    exact ⟨this.c, this.l.1⟩
  obtain ⟨h1, h2⟩ := ck_of _ σ.l rfl hc
  rw [← h.i.c] at h1 h2
  have e := csR_keys h1 h2
  unfold encR encS preR
  rw [e]
  have hl : (clisE σ).length = σ.c.length := by rw [(clisE_perm σ).length_eq, List.length_map]
  rw [hl]
  simp only [List.append_assoc]
end Go.Proofs.Ytodojllclghoiaa
