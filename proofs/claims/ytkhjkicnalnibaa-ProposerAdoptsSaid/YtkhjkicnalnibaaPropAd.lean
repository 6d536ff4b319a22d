/-
  ProposerAdopts, walked.
-/
import Derived.Test.YtkhjkicnalnibaaPropE
import Derived.Test.YtkhjkicnalnibaaPropM
namespace Go.Proofs.Ytkhjkicnalnibaa
set_option linter.unusedVariables false
set_option linter.unusedSimpArgs false
open Go.RowKit

/-- The first with the greatest ballot at a slot. -/
def pickD (s : Int) (b : Option EntS) (e : EntS) : Option EntS := if e.slot = s then (match b with
  | none => some e
  | some x => if x.ballot < e.ballot then some e else some x) else b
def scanD (s : Int) (l : List EntS) : Option EntS := l.foldl (pickD s) none

theorem bestD_set {B : List EntS} {i : Nat} {x e : EntS} {s : Int} (h : B.findIdx? (fun y => decide (y.slot = e.slot)) = some i) (hx : B[i]? = some x) : bestD (B.set i e) s = if e.slot = s then some e else bestD B s := by
  unfold bestD
  induction B generalizing i with
  | nil => simp at hx
  | cons y r ih =>
    rw [List.findIdx?_cons] at h
    by_cases hy : y.slot = e.slot
    · simp only [hy, decide_true, if_true, Option.some.injEq] at h
      subst h
      simp only [List.set_cons_zero, List.find?_cons, hy]
      by_cases hs : e.slot = s
      · simp [hs]
      · simp [hs]
    · simp only [hy, decide_false, Bool.false_eq_true, if_false, Option.map_eq_some_iff] at h
      obtain ⟨j, hj, rfl⟩ := h
      simp only [List.getElem?_cons_succ] at hx
      simp only [List.set_cons_succ, List.find?_cons]
      rw [ih hj hx]
      by_cases hs : y.slot = s
      · have : ¬ e.slot = s := fun h => hy (by rw [hs, h])
        simp [hs, this]
      · simp [hs]

theorem bestD_keep {frm s : Int} (hs : frm ≤ s) (B : List EntS) (e : EntS) : bestD (keepD frm B e) s = pickD s (bestD B s) e := by
  unfold pickD
  by_cases h0 : e.slot < frm
  · rw [keepD_old h0, if_neg (by omega)]
  · cases hx : B.findIdx? (fun y => decide (y.slot = e.slot)) with
    | none =>
      rw [keepD_new h0 hx]
      have hn := List.findIdx?_eq_none_iff.1 hx
      by_cases he : e.slot = s
      · rw [if_pos he]
        have hb : bestD B s = none := by
          unfold bestD
          rw [List.find?_eq_none]
          intro y hy
          have := hn y hy
          rw [he] at this
          simpa using this
        rw [hb]
        unfold bestD at hb ⊢
        rw [List.find?_append, hb]
        simp [he]
      · rw [if_neg he]
        unfold bestD
        rw [List.find?_append]
        simp [he]
    | some i =>
      obtain ⟨x, hi, hxs⟩ := idx_some hx
      have hb : bestD B e.slot = some x := by
        unfold bestD
        obtain ⟨hl, h1, h2⟩ := List.findIdx?_eq_some_iff_getElem.1 hx
        rw [List.getElem?_eq_getElem hl] at hi
        cases hi
        rw [List.find?_eq_some_iff_getElem]
        exact ⟨by simpa using h1, i, hl, rfl, fun j hj => by simpa using h2 j hj⟩
      by_cases hlt : x.ballot < e.ballot
      · rw [keepD_more h0 hx hi hlt, bestD_set hx hi]
        by_cases he : e.slot = s
        · subst he; rw [hb]; simp [hlt]
        · rw [if_neg he, if_neg he]
      · rw [keepD_less h0 hx hi hlt]
        by_cases he : e.slot = s
        · subst he; rw [hb]; simp [hlt]
        · rw [if_neg he]

theorem bestD_scan {frm s : Int} (hs : frm ≤ s) (l : List EntS) : ∀ B, bestD (l.foldl (keepD frm) B) s = l.foldl (pickD s) (bestD B s) := by
  induction l with
  | nil => intro B; rfl
  | cons e r ih => intro B; rw [List.foldl_cons, ih, bestD_keep hs, List.foldl_cons]
theorem scan_take {s : Int} {l : List EntS} {k : Nat} {e : EntS} (h : l[k]? = some e) : scanD s (l.take (k + 1)) = pickD s (scanD s (l.take k)) e := by
  unfold scanD
  rw [List.take_add_one, h]; simp
theorem pick_none {s : Int} (l : List EntS) : ∀ b, (∀ e ∈ l, e.slot ≠ s) → l.foldl (pickD s) b = b := by
  induction l with
  | nil => intro b _; rfl
  | cons e r ih =>
    intro b h
    rw [List.foldl_cons]
    have : pickD s b e = b := by unfold pickD; rw [if_neg (h e (by simp))]
    rw [this]
    exact ih b fun e he => h e (by simp [he])

/-- Behind the promises of all (not yet a majority). -/
def aI (n frm : Int) (i : Nat) (all : List EntS) : PropS := ⟨n, 17, frm, 0, (List.range i).map fun (j : Nat) => (j : Int), all.foldl (keepD frm) [], false, [], []⟩
theorem a_step {n frm : Int} (h1 : 1 ≤ n) {i : Nat} (hi : (i : Int) < n) (hlt : i < mj n) (all es : List EntS) : promiseD (aI n frm i all) i es = if i + 1 = mj n then
      (true, { aI n frm (i + 1) (all ++ es) with ready := true, vals := valsD frm 17 ((all ++ es).foldl (keepD frm) []), opn := (valsD frm 17 ((all ++ es).foldl (keepD frm) [])).map newS, next := lastD frm ((all ++ es).foldl (keepD frm) []) + 2 })
    else (false, aI n frm (i + 1) (all ++ es)) := by
  have hm := majD_pos h1
  have hno : ¬ (srvD (aI n frm i all).n i = false ∨ (aI n frm i all).ready = true ∨ (i : Int) ∈ (aI n frm i all).who) := by
    rintro (h | h | h)
    · have h' : srvD n i = false := h
      simp [srvD] at h'; omega
    · cases h
    · simp only [aI, List.mem_map, List.mem_range] at h
      obtain ⟨j, hj, e⟩ := h
      omega
  have hw : (aI n frm i all).who ++ [(i : Int)] = (List.range (i + 1)).map fun (j : Nat) => (j : Int) := by simp [aI, List.range_succ]
  have hb : es.foldl (keepD (aI n frm i all).frm) (aI n frm i all).best = (all ++ es).foldl (keepD frm) [] := by
    show es.foldl (keepD frm) (all.foldl (keepD frm) []) = _
    rw [List.foldl_append]
  unfold promiseD
  rw [if_neg hno, hw, hb]
  have hl : (((List.range (i + 1)).map fun (j : Nat) => (j : Int)).length : Int) = i + 1 := by simp
  have hmn : majD (aI n frm i all).n = (mj n : Nat) := hm
  rw [hl, hmn]
  by_cases h3 : i + 1 = mj n
  · rw [if_pos h3, if_neg (by omega)]
    rfl
  · rw [if_neg h3, if_pos (by omega)]
    rfl
theorem a_ok {n frm : Int} (h1 : 1 ≤ frm) (h2 : frm ≤ 1099511627776) (i : Nat) (all : List EntS) (hs : ∀ e ∈ all, e.slot ≤ frm + 1000) (hl : all.length ≤ 1000 * i) : (aI n frm i all).ok i := by
  refine ⟨h1, h2, by simp [aI], ?_, ?_, by simp [aI], by simp [aI], by simp [aI], by simp [aI], by simp only [aI]; omega, by simp only [aI]; omega, by simp [aI], fun _ => ⟨rfl, rfl⟩⟩
  · intro e he
    rcases keeps_mem all he with h | ⟨h, h'⟩
    · simp at h
    · exact ⟨h', hs e h⟩
  · have := keeps_len frm all []
    simp only [aI]
    simp at this
    omega

/-- What the law looks at. -/
theorem vals_fill {frm : Int} {all : List EntS} {i : Nat} {e : EntS} (hi : (valsD frm 17 (all.foldl (keepD frm) []))[i]? = some e) :
    e.slot = frm + i ∧ e.ballot = 17 ∧ (i + 1 < (valsD frm 17 (all.foldl (keepD frm) [])).length → e.cmd = ((scanD (frm + i) all).getD ent0).cmd) ∧
      (i + 1 = (valsD frm 17 (all.foldl (keepD frm) [])).length → scanD (frm + i) all = none ∧ e.cmd = ⟨1, 0, 0, ⟨#[]⟩, 17⟩) := by
  have hs := valsD_slot hi
  have hlast := lastD_frm frm (all.foldl (keepD frm) [])
  obtain ⟨B, hB⟩ : ∃ B, all.foldl (keepD frm) [] = B := ⟨_, rfl⟩
  have hsc : ∀ s, frm ≤ s → bestD B s = scanD s all := fun s h => by rw [← hB, bestD_scan h]; rfl
  rw [hB] at hi hlast ⊢
  have hlen := valsD_length frm 17 B
  refine ⟨hs, ?_, fun hlt => ?_, fun heq => ?_⟩
  · unfold valsD at hi
    by_cases h : i < (lastD frm B + 1 - frm).toNat
    · rw [List.getElem?_append_left (by rw [fillD_length]; exact h)] at hi
      unfold fillD at hi
      rw [List.getElem?_map, List.getElem?_range h] at hi
      simp at hi
      rw [← hi]
    · rw [List.getElem?_append_right (by rw [fillD_length]; omega), fillD_length] at hi
      have : i - (lastD frm B + 1 - frm).toNat = 0 := by
        by_cases h0 : i - (lastD frm B + 1 - frm).toNat = 0
        · exact h0
        · rw [List.getElem?_eq_none (by simp; omega)] at hi; cases hi
      rw [this] at hi
      simp at hi
      rw [← hi]; rfl
  · rw [hlen] at hlt
    unfold valsD at hi
    rw [List.getElem?_append_left (by rw [fillD_length]; omega)] at hi
    unfold fillD at hi
    rw [List.getElem?_map, List.getElem?_range (by omega)] at hi
    simp at hi
    rw [← hi, ← hsc _ (by omega)]
    simp only
    rw [bcmd_eq]
  · rw [hlen] at heq
    have e0 : (lastD frm B + 1 - frm).toNat = i := by omega
    constructor
    · unfold scanD
      apply pick_none
      intro y hy e
      have hm : ∃ z ∈ B, z.slot = y.slot := by
        rcases hq : bestD B y.slot with _ | z
        · exfalso
          rw [hsc _ (by omega)] at hq
          have : ∀ (l : List EntS) (b : Option EntS), (y ∈ l ∨ b.isSome = true) → (l.foldl (pickD y.slot) b).isSome = true := by
            intro l
            induction l with
            | nil => intro b h; rcases h with h | h; simp at h; exact h
            | cons x r ih =>
              intro b h
              rw [List.foldl_cons]
              apply ih
              rcases h with h | h
              · rcases List.mem_cons.1 h with rfl | h
                · right; unfold pickD; rw [if_pos rfl]; cases b with
                  | none => rfl
                  | some x => simp only; split <;> rfl
                · exact .inl h
              · right
                unfold pickD
                split
                · cases b with
                  | none => cases h
                  | some x => simp only; split <;> rfl
                · exact h
          have h3 := this all none (.inl hy)
          unfold scanD at hq
          rw [hq] at h3; cases h3
        · exact ⟨z, List.mem_of_find?_eq_some hq, by have := List.find?_some hq; simpa using this⟩
      obtain ⟨z, hz, hzs⟩ := hm
      have := lastD_mem (frm := frm) hz
      omega
    · unfold valsD at hi
      rw [List.getElem?_append_right (by rw [fillD_length]; omega), fillD_length, e0, Nat.sub_self] at hi
      simp at hi
      rw [← hi]; rfl
end Go.Proofs.Ytkhjkicnalnibaa
