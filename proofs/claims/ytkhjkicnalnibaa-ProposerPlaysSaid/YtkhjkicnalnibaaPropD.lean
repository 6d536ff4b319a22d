/-
  What holds of a proposer behind any deeds; its contracts whole.
-/
import Derived.Test.YtkhjkicnalnibaaPropP
import Derived.Test.YtkhjkicnalnibaaPropO
namespace Go.Proofs.Ytkhjkicnalnibaa
set_option linter.unusedVariables false
set_option linter.unusedSimpArgs false
open Go.RowKit

theorem keepD_mem {frm : Int} {best : List EntS} {e x : EntS} (h : x ∈ keepD frm best e) : x ∈ best ∨ (x = e ∧ frm ≤ e.slot) := by
  unfold keepD at h
  split at h
  · exact .inl h
  · rename_i h0
    split at h
    · rcases List.mem_append.1 h with h | h
      · exact .inl h
      · exact .inr ⟨by simpa using h, by omega⟩
    · split at h
      · rcases List.mem_or_eq_of_mem_set h with h | h
        · exact .inl h
        · exact .inr ⟨h, by omega⟩
      · exact .inl h
theorem keepD_len (frm : Int) (best : List EntS) (e : EntS) : (keepD frm best e).length ≤ best.length + 1 := by
  unfold keepD
  split
  · omega
  · split
    · simp
    · split <;> simp
theorem keeps_mem {frm : Int} (es : List EntS) : ∀ {best : List EntS} {x : EntS}, x ∈ es.foldl (keepD frm) best → x ∈ best ∨ (x ∈ es ∧ frm ≤ x.slot) := by
  induction es with
  | nil => intro best x h; exact .inl h
  | cons e r ih =>
    intro best x h
    rcases ih h with h | ⟨h, h2⟩
    · rcases keepD_mem h with h | ⟨rfl, h2⟩
      · exact .inl h
      · exact .inr ⟨by simp, h2⟩
    · exact .inr ⟨List.mem_cons_of_mem _ h, h2⟩
theorem keeps_len (frm : Int) (es : List EntS) : ∀ best : List EntS, (es.foldl (keepD frm) best).length ≤ best.length + es.length := by
  induction es with
  | nil => intro best; simp
  | cons e r ih =>
    intro best
    have := ih (keepD frm best e)
    have := keepD_len frm best e
    simp only [List.foldl_cons, List.length_cons]
    omega

theorem valsD_length (frm ballot : Int) (B : List EntS) : (valsD frm ballot B).length = (lastD frm B + 1 - frm).toNat + 1 := by simp [valsD, fillD]
theorem valsD_slot {frm ballot : Int} {B : List EntS} {i : Nat} {e : EntS} (h : (valsD frm ballot B)[i]? = some e) : e.slot = frm + i := by
  have hl := lastD_frm frm B
  unfold valsD at h
  by_cases hi : i < (lastD frm B + 1 - frm).toNat
  · rw [List.getElem?_append_left (by rw [fillD_length]; exact hi)] at h
    unfold fillD at h
    rw [List.getElem?_map, List.getElem?_range hi] at h
    simp at h
    rw [← h]
  · rw [List.getElem?_append_right (by rw [fillD_length]; omega), fillD_length] at h
    have hz : i - (lastD frm B + 1 - frm).toNat = 0 := by
      by_cases h0 : i - (lastD frm B + 1 - frm).toNat = 0
      · exact h0
      · rw [List.getElem?_eq_none (by simp; omega)] at h; cases h
    rw [hz] at h
    simp at h
    rw [← h]
    simp only [termD]
    omega
theorem valsD_rise (frm ballot : Int) (B : List EntS) : (valsD frm ballot B).Pairwise fun x y => x.slot < y.slot := by
  rw [List.pairwise_iff_getElem]
  intro i j hi hj hij
  have h1 := valsD_slot (List.getElem?_eq_getElem hi)
  have h2 := valsD_slot (List.getElem?_eq_getElem hj)
  omega
theorem valsD_mem {frm ballot : Int} {B : List EntS} {e : EntS} (h : e ∈ valsD frm ballot B) : frm ≤ e.slot ∧ e.slot ≤ lastD frm B + 1 := by
  obtain ⟨i, hi⟩ := List.getElem?_of_mem h
  have h1 := valsD_slot hi
  have h2 := (List.getElem?_eq_some_iff.1 hi).1
  have h3 := lastD_frm frm B
  rw [valsD_length] at h2
  omega

theorem ok_new (n b f : Int) (h1 : 1 ≤ f) (h2 : f ≤ 1099511627776) : (⟨n, b, f, 0, [], [], false, [], []⟩ : PropS).ok 0 :=
  ⟨h1, h2, by simp, by simp, by simp, by simp, by simp, by simp, by simp, by simp only; omega, by simp only; omega, by simp, by simp⟩

theorem best_last {σ : PropS} {K : Nat} (ok : σ.ok K) {es : List EntS} (hs : ∀ e ∈ es, e.slot ≤ σ.frm + 1000) : (∀ e ∈ es.foldl (keepD σ.frm) σ.best, σ.frm ≤ e.slot ∧ e.slot ≤ σ.frm + 1000) ∧ lastD σ.frm (es.foldl (keepD σ.frm) σ.best) ≤ σ.frm + 1000 := by
  have h1 : ∀ e ∈ es.foldl (keepD σ.frm) σ.best, σ.frm ≤ e.slot ∧ e.slot ≤ σ.frm + 1000 := by
    intro e he
    rcases keeps_mem es he with h | ⟨h, h2⟩
    · exact ok.best e h
    · exact ⟨h2, hs e h⟩
  exact ⟨h1, lastD_le (by omega) fun e he => (h1 e he).2⟩

theorem PropS.ok.up {σ : PropS} {K : Nat} (ok : σ.ok K) : σ.ok (K + 1) :=
  ⟨ok.f1, ok.f2, by have := ok.who; omega, ok.best, by have := ok.nb; omega, ok.vals, by have := ok.opn; omega, ok.rise, ok.below, by have := ok.next; omega, ok.nlow, fun x hx => by have := ok.ow x hx; omega, ok.idle⟩

theorem promise_ok {σ : PropS} {K : Nat} (ok : σ.ok K) (k : Int) {es : List EntS} (hs : ∀ e ∈ es, e.slot ≤ σ.frm + 1000) (hes : es.length ≤ 1000) : (promiseD σ k es).2.ok (K + 1) := by
  obtain ⟨hb, hl⟩ := best_last ok hs
  have hlen := keeps_len σ.frm es σ.best
  have hnb := ok.nb
  have hfl := lastD_frm σ.frm (es.foldl (keepD σ.frm) σ.best)
  unfold promiseD
  split
  · exact ok.up
  · rename_i hn
    have hr : σ.ready = false := by
      cases h : σ.ready with
      | false => rfl
      | true => exact absurd (.inr (.inl h)) hn
    obtain ⟨i1, i2⟩ := ok.idle hr
    split
    · refine ⟨ok.f1, ok.f2, ?_, hb, ?_, ok.vals, ?_, ok.rise, ok.below, ?_, ok.nlow, fun x hx => by have := ok.ow x hx; omega, ok.idle⟩
      · have := ok.who; simp; omega
      · simp only; omega
      · have := ok.opn; simp only; omega
      · have := ok.next; simp only; omega
    · refine ⟨ok.f1, ok.f2, ?_, hb, ?_, ?_, ?_, ?_, ?_, ?_, ?_, ?_, ?_⟩
      · have := ok.who; simp; omega
      · simp only; omega
      · simp only [i2, List.nil_append, valsD_length]; omega
      · simp only [i1, List.nil_append, List.length_map, valsD_length]; omega
      · simp only [i1, List.nil_append, List.pairwise_map, newS]
        exact valsD_rise _ _ _
      · simp only [i1, List.nil_append]
        intro x hx
        obtain ⟨e, he, rfl⟩ := List.mem_map.1 hx
        have := valsD_mem he
        simp only [newS]; omega
      · simp only; omega
      · have := ok.f1; simp only; omega
      · simp only [i1, List.nil_append]
        intro x hx
        obtain ⟨e, he, rfl⟩ := List.mem_map.1 hx
        simp [newS]
      · intro h; cases h

theorem accepted_ok {σ : PropS} {K : Nat} (ok : σ.ok K) (k s : Int) : (acceptedD σ k s).2.ok (K + 1) := by
  have same : σ.ok (K + 1) := ok.up
  unfold acceptedD
  split
  · exact same
  · split
    · exact same
    · rename_i i hi
      obtain ⟨x, hx, hs⟩ := idx_some hi
      rw [getD_of hx]
      simp only
      split
      · exact same
      · have hxm := List.mem_of_getElem? hx
        have hset : ∀ b, (σ.opn.set i ⟨x.e, x.who ++ [k], b⟩).map (fun y => y.e.slot) = σ.opn.map fun y => y.e.slot := by
          intro b
          rw [List.map_set]
          exact set_same (by rw [List.getElem?_map, hx]; rfl)
        refine ⟨ok.f1, ok.f2, by have := ok.who; simp only; omega, ok.best, by have := ok.nb; simp only; omega, ok.vals, by have := ok.opn; simp only [List.length_set]; omega, ?_, ?_, by have := ok.next; simp only; omega, ok.nlow, ?_, ?_⟩
        · have h1 := ok.rise
          rw [← List.pairwise_map (f := fun y : SlotS => y.e.slot) (R := fun a b => a < b)] at h1 ⊢
          rw [hset]; exact h1
        · intro y hy
          rcases List.mem_or_eq_of_mem_set hy with h | rfl
          · exact ok.below y h
          · exact ok.below x hxm
        · intro y hy
          rcases List.mem_or_eq_of_mem_set hy with h | rfl
          · have := ok.ow y h; omega
          · have := ok.ow x hxm; simp; omega
        · intro h
          obtain ⟨i1, i2⟩ := ok.idle h
          rw [i1] at hx; simp at hx

theorem propose_ok {σ : PropS} {K : Nat} (ok : σ.ok K) (c : CmdS) : (proposeD σ c).2.ok (K + 1) := by
  have same : σ.ok (K + 1) := ok.up
  unfold proposeD
  split
  · exact same
  · rename_i hr
    refine ⟨ok.f1, ok.f2, by have := ok.who; simp only; omega, ok.best, by have := ok.nb; simp only; omega, ok.vals, by have := ok.opn; simp; omega, ?_, ?_, by have := ok.next; simp only; omega, by have := ok.nlow; simp only; omega, ?_, fun h => absurd h hr⟩
    · rw [List.pairwise_append]
      refine ⟨ok.rise, by simp, fun x hx y hy => ?_⟩
      simp at hy; subst hy
      exact ok.below x hx
    · intro x hx
      rcases List.mem_append.1 hx with h | h
      · have := ok.below x h; simp only; omega
      · simp at h; subst h; simp only [newS]; omega
    · intro x hx
      rcases List.mem_append.1 hx with h | h
      · have := ok.ow x h; omega
      · simp at h; subst h; simp [newS]

theorem chosen_ok {σ : PropS} {K : Nat} (ok : σ.ok K) (s : Int) : (chosenD σ s).ok (K + 1) := by
  unfold chosenD
  refine ⟨ok.f1, ok.f2, by have := ok.who; simp only; omega, ok.best, by have := ok.nb; simp only; omega, ok.vals, ?_, ok.rise.filter _, fun x hx => ok.below x ((List.mem_filter.1 hx).1), by have := ok.next; simp only; omega, ok.nlow, fun x hx => by have := ok.ow x ((List.mem_filter.1 hx).1); omega, fun h => ?_⟩
  · have h1 := ok.opn
    have h2 := List.length_filter_le (fun x : SlotS => !decide (x.e.slot = s)) σ.opn
    simp only; omega
  · obtain ⟨i1, i2⟩ := ok.idle h
    simp only [i1, i2]; simp

section
variable {w0 w : World} {R : List Hp} {p : Nat} {σ : PropS}
theorem promise_c (h : PropSt w0 w p σ R) {K : Nat} (ok : σ.ok K) (hK : K ≤ 900) (k : Int) (ad : Option Addr) (cap : Nat) (es : List EntS) (hl : ∀ w, St w0 w R → Ents w ad es) (hn : σ.n ≤ 1000000000000) (hes : es.length ≤ 1000) (hs : ∀ e ∈ es, e.slot ≤ σ.frm + 1000) :
    Calls Try.prog 9 #[.pointer (some ⟨p, 0, none⟩), .int .i64 k, .slice ad es.length cap] w fun e w' => e = .returned (.bool (promiseD σ k es).1) ∧ PropSt w0 w' p (promiseD σ k es).2 R := by
  by_cases hno : srvD σ.n k = false ∨ σ.ready = true ∨ k ∈ σ.who
  · have e : promiseD σ k es = (false, σ) := by unfold promiseD; rw [if_pos hno]
    rw [e]
    exact promise_no h k ad es.length cap hno
  · have hv : srvD σ.n k = true := by
      cases h : srvD σ.n k with
      | true => rfl
      | false => exact absurd (.inl h) hno
    have hr : σ.ready = false := by
      cases h : σ.ready with
      | false => rfl
      | true => exact absurd (.inr (.inl h)) hno
    obtain ⟨i1, i2⟩ := ok.idle hr
    obtain ⟨hb, hlast⟩ := best_last ok hs
    have h1 := keeps_len σ.frm es σ.best
    have h2 := ok.nb
    have h3 := ok.who
    exact promise_yes h k ad cap es hl hn (by omega) (by omega) hv hr (fun h => hno (.inr (.inr h))) i2 i1 ok.f1 ok.f2 hlast (by omega)
end
end Go.Proofs.Ytkhjkicnalnibaa
