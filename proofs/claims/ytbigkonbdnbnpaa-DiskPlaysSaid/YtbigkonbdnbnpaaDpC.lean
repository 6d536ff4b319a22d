/-
  The reference's Crash as plain data: the least clock that is left, and what stays.
-/
import Derived.Test.YtbigkonbdnbnpaaDpR5
namespace Go.Proofs.Ytbigkonbdnbnpaa
set_option linter.unusedVariables false
set_option linter.unusedSimpArgs false
open Go.RowKit

def thrB (t : Int) (b : List BR) : List BR := b.map fun y => (y.1, if y.2 ≤ t then 0 else y.2)
theorem thrB_length (t : Int) (b : List BR) : (thrB t b).length = b.length := List.length_map _
def At (L : List FileR) (i k : Nat) (w : Int) : Prop := ∃ z y, L[i]? = some z ∧ z.l[k]? = some y ∧ y.2 = w
def Scan (L : List FileR) (t : Int) (i k : Nat) (f a w : Int) : Prop :=
  (f = -1 ∧ ∀ i' k' v, At L i' k' v → (i' < i ∨ (i' = i ∧ k' < k)) → v ≤ t) ∨
  (∃ fi ai : Nat, f = fi ∧ a = ai ∧ At L fi ai w ∧ t < w ∧ ∀ i' k' v, At L i' k' v → (i' < i ∨ (i' = i ∧ k' < k)) → t < v → w ≤ v)
theorem At.uniq {L : List FileR} {i k : Nat} {v w : Int} (h : At L i k v) (h' : At L i k w) : v = w := by
  obtain ⟨z, y, h1, h2, rfl⟩ := h
  obtain ⟨z', y', h1', h2', rfl⟩ := h'
  rw [h1] at h1'; cases h1'
  rw [h2] at h2'; cases h2'
  rfl
theorem At.lt {L : List FileR} {i k : Nat} {v : Int} (h : At L i k v) : i < L.length := by
  obtain ⟨z, y, h1, _, _⟩ := h
  exact (List.getElem?_eq_some_iff.1 h1).1
theorem At.klt {L : List FileR} {i k : Nat} {v : Int} (h : At L i k v) {z : FileR} (hz : L[i]? = some z) : k < z.l.length := by
  obtain ⟨z', y, h1, h2, _⟩ := h
  rw [hz] at h1; cases h1
  exact (List.getElem?_eq_some_iff.1 h2).1
theorem before_succ {i k i' k' : Nat} (h : i' < i ∨ (i' = i ∧ k' < k + 1)) : (i' < i ∨ (i' = i ∧ k' < k)) ∨ (i' = i ∧ k' = k) := by omega
theorem Scan.init (L : List FileR) (t : Int) (a w : Int) : Scan L t 0 0 (-1) a w := .inl ⟨rfl, fun _ _ _ _ h => by omega⟩
theorem Scan.le {L : List FileR} {t : Int} {i k : Nat} {f a w v : Int} (h : Scan L t i k f a w) (hv : At L i k v) (hl : v ≤ t) : Scan L t i (k + 1) f a w := by
  rcases h with ⟨h1, h2⟩ | ⟨fi, ai, h1, h2, h3, h4, h5⟩
  · refine .inl ⟨h1, fun i' k' u hu hb => ?_⟩
    rcases before_succ hb with q | ⟨rfl, rfl⟩
    · exact h2 i' k' u hu q
    · rw [hu.uniq hv]; exact hl
  · refine .inr ⟨fi, ai, h1, h2, h3, h4, fun i' k' u hu hb hlt => ?_⟩
    rcases before_succ hb with q | ⟨rfl, rfl⟩
    · exact h5 i' k' u hu q hlt
    · rw [hu.uniq hv] at hlt; omega
theorem Scan.first {L : List FileR} {t : Int} {i k : Nat} {a w v : Int} (h : Scan L t i k (-1) a w) (hv : At L i k v) (hl : t < v) : Scan L t i (k + 1) i k v := by
  rcases h with ⟨_, h2⟩ | ⟨fi, ai, h1, _⟩
  · refine .inr ⟨i, k, rfl, rfl, hv, hl, fun i' k' u hu hb hlt => ?_⟩
    rcases before_succ hb with q | ⟨rfl, rfl⟩
    · have := h2 i' k' u hu q; omega
    · rw [hu.uniq hv]; exact Int.le_refl _
  · omega
theorem Scan.less {L : List FileR} {t : Int} {i k fi : Nat} {a w v : Int} (h : Scan L t i k fi a w) (hv : At L i k v) (hl : t < v) (hw : v < w) : Scan L t i (k + 1) i k v := by
  rcases h with ⟨h1, _⟩ | ⟨fi', ai, h1, h2, h3, h4, h5⟩
  · omega
  · refine .inr ⟨i, k, rfl, rfl, hv, hl, fun i' k' u hu hb hlt => ?_⟩
    rcases before_succ hb with q | ⟨rfl, rfl⟩
    · have := h5 i' k' u hu q hlt; omega
    · rw [hu.uniq hv]; exact Int.le_refl _
theorem Scan.more {L : List FileR} {t : Int} {i k fi : Nat} {a w v : Int} (h : Scan L t i k fi a w) (hv : At L i k v) (hw : ¬ v < w) : Scan L t i (k + 1) fi a w := by
  rcases h with ⟨h1, _⟩ | ⟨fi', ai, h1, h2, h3, h4, h5⟩
  · omega
  · refine .inr ⟨fi', ai, h1, h2, h3, h4, fun i' k' u hu hb hlt => ?_⟩
    rcases before_succ hb with q | ⟨rfl, rfl⟩
    · exact h5 i' k' u hu q hlt
    · rw [hu.uniq hv]; omega
theorem Scan.row {L : List FileR} {t : Int} {i : Nat} {f a w : Int} {z : FileR} (hz : L[i]? = some z) (h : Scan L t i z.l.length f a w) : Scan L t (i + 1) 0 f a w := by
  have key : ∀ i' k' v, At L i' k' v → (i' < i + 1 ∨ (i' = i + 1 ∧ k' < 0)) → (i' < i ∨ (i' = i ∧ k' < z.l.length)) := by
    intro i' k' v hv hb
    by_cases e : i' = i
    · subst e; exact .inr ⟨rfl, hv.klt hz⟩
    · exact .inl (by omega)
  rcases h with ⟨h1, h2⟩ | ⟨fi, ai, h1, h2, h3, h4, h5⟩
  · exact .inl ⟨h1, fun i' k' u hu hb => h2 i' k' u hu (key i' k' u hu hb)⟩
  · exact .inr ⟨fi, ai, h1, h2, h3, h4, fun i' k' u hu hb hlt => h5 i' k' u hu (key i' k' u hu hb) hlt⟩
/-- Either f is -1 or a place. -/
theorem Scan.cases {L : List FileR} {t : Int} {i k : Nat} {f a w : Int} (h : Scan L t i k f a w) : f = -1 ∨ ∃ fi ai : Nat, f = fi ∧ a = ai ∧ At L fi ai w ∧ t < w := by
  rcases h with ⟨h1, _⟩ | ⟨fi, ai, h1, h2, h3, h4, _⟩
  · exact .inl h1
  · exact .inr ⟨fi, ai, h1, h2, h3, h4⟩

/-! The whole: what the scan finds is the least that is left. -/
def ws (L : List FileR) : List Int := L.flatMap fun z => (z.l.map (·.2)).filter (fun w => decide (0 < w))
theorem ws_eq {L : List FileR} {ρ : RefD} (hL : L.map FileR.d = ρ.l) : ws L = whens ρ := by
  unfold ws whens
  rw [← hL, List.flatMap_map]; rfl
theorem mem_ws {L : List FileR} {v : Int} : v ∈ ws L ↔ 0 < v ∧ ∃ i k, At L i k v := by
  unfold ws
  rw [List.mem_flatMap]
  constructor
  · rintro ⟨z, hz, hv⟩
    obtain ⟨h1, h2⟩ := List.mem_filter.1 hv
    obtain ⟨y, hy, rfl⟩ := List.mem_map.1 h1
    obtain ⟨i, hi⟩ := List.getElem?_of_mem hz
    obtain ⟨k, hk⟩ := List.getElem?_of_mem hy
    exact ⟨by simpa using h2, i, k, z, y, hi, hk, rfl⟩
  · rintro ⟨h0, i, k, z, y, hi, hk, rfl⟩
    exact ⟨z, List.mem_of_getElem? hi, List.mem_filter.2 ⟨List.mem_map.2 ⟨y, List.mem_of_getElem? hk, rfl⟩, by simpa using h0⟩⟩
theorem nodup_filter_inj {l : List Int} : ∀ {k k' : Nat} {v : Int}, (l.filter (fun w => decide (0 < w))).Nodup → 0 < v → l[k]? = some v → l[k']? = some v → k = k' := by
  induction l with
  | nil => intro k k' v _ _ h; simp at h
  | cons x r ih =>
    intro k k' v hn h0 h h'
    have hx : ∀ {j : Nat}, r[j]? = some v → v ∈ r.filter (fun w => decide (0 < w)) := fun h => List.mem_filter.2 ⟨List.mem_of_getElem? h, by simpa using h0⟩
    cases k with
    | zero =>
      cases k' with
      | zero => rfl
      | succ k' =>
        simp at h h'
        subst h
        rw [List.filter_cons_of_pos (by simpa using h0)] at hn
        exact absurd (hx h') (List.nodup_cons.1 hn).1
    | succ k =>
      cases k' with
      | zero =>
        simp at h h'
        subst h'
        rw [List.filter_cons_of_pos (by simpa using h0)] at hn
        exact absurd (hx h) (List.nodup_cons.1 hn).1
      | succ k' =>
        simp at h h'
        have hn2 : (r.filter (fun w => decide (0 < w))).Nodup := hn.sublist ((List.sublist_cons_self x r).filter _)
        rw [ih hn2 h0 h h']
theorem ws_inj : ∀ {L : List FileR}, (ws L).Nodup → ∀ {i k i' k' : Nat} {v : Int}, 0 < v → At L i k v → At L i' k' v → i = i' ∧ k = k'
  | [], _, i, k, i', k', v, _, h, _ => by obtain ⟨z, y, h1, _⟩ := h; simp at h1
  | x :: r, hn, i, k, i', k', v, h0, h, h' => by
    have hn' : ((x.l.map (·.2)).filter (fun w => decide (0 < w)) ++ ws r).Nodup := hn
    obtain ⟨n1, n2, n3⟩ := List.nodup_append.1 hn'
    have hin : ∀ {j q : Nat}, At (x :: r) (j + 1) q v → At r j q v := fun ⟨z, y, a1, a2, a3⟩ => ⟨z, y, by simpa using a1, a2, a3⟩
    have hin0 : ∀ {q : Nat}, At (x :: r) 0 q v → (x.l.map (·.2))[q]? = some v := fun ⟨z, y, a1, a2, a3⟩ => by
      simp at a1; subst a1
      rw [List.getElem?_map, a2]; simp [a3]
    cases i with
    | zero =>
      cases i' with
      | zero => exact ⟨rfl, nodup_filter_inj n1 h0 (hin0 h) (hin0 h')⟩
      | succ i' =>
        exact absurd rfl (n3 v (List.mem_filter.2 ⟨List.mem_of_getElem? (hin0 h), by simpa using h0⟩) v (mem_ws.2 ⟨h0, i', k', hin h'⟩))
    | succ i =>
      cases i' with
      | zero => exact absurd rfl (n3 v (List.mem_filter.2 ⟨List.mem_of_getElem? (hin0 h'), by simpa using h0⟩) v (mem_ws.2 ⟨h0, i, k, hin h⟩))
      | succ i' =>
        obtain ⟨e1, e2⟩ := ws_inj (L := r) n2 h0 (hin h) (hin h')
        exact ⟨by rw [e1], e2⟩
theorem count_next {t w : Int} (ht : t < w) : ∀ {l : List Int}, l.Nodup → (∀ v ∈ l, t < v → w ≤ v) → l.countP (fun v => decide (v ≤ w)) = l.countP (fun v => decide (v ≤ t)) + if w ∈ l then 1 else 0
  | [], _, _ => by simp
  | x :: r, hn, hm => by
    have h := List.nodup_cons.1 hn
    have ih := count_next ht (l := r) h.2 (fun v hv => hm v (List.mem_cons_of_mem _ hv))
    have hx := hm x List.mem_cons_self
    rw [List.countP_cons, List.countP_cons, ih]
    by_cases e : x = w
    · subst e
      have h1 : ¬ x ∈ r := h.1
      rw [if_neg h1, if_pos (List.mem_cons_self)]
      simp
      omega
    · have h3 : (w ∈ x :: r) = (w ∈ r) := by
        rw [List.mem_cons]
        exact propext ⟨fun q => q.resolve_left (fun e' => e e'.symm), .inr⟩
      have h4 : decide (x ≤ w) = decide (x ≤ t) := by
        by_cases h5 : x ≤ t
        · rw [decide_eq_true h5, decide_eq_true (by omega)]
        · rw [decide_eq_false h5, decide_eq_false (by have := hx (by omega); omega)]
      rw [h4]
      simp only [h3]
      omega

/-- How far the crash has come: n bytes are made sure, all whose clock is at most t. -/
structure CI (keep : Int) (L : List FileR) (t : Int) (n : Nat) : Prop where
  t0 : t = 0 ∨ t ∈ ws L
  cnt : (ws L).countP (fun v => decide (v ≤ t)) = n
  le : (n : Int) ≤ max 0 keep
  pos : 0 ≤ t
theorem CI.init (keep : Int) (L : List FileR) : CI keep L 0 0 := by
  refine ⟨.inl rfl, ?_, by omega, Int.le_refl 0⟩
  rw [List.countP_eq_zero]
  intro v hv
  have := (mem_ws.1 hv).1
  simp; omega
theorem CI.next {keep : Int} {L : List FileR} {t : Int} {n : Nat} (h : CI keep L t n) (hn : (ws L).Nodup) {f a : Int} {w : Int} (hs : Scan L t L.length 0 f a w) {fi : Nat} (hf : f = fi) (hk : (n : Int) < keep) : CI keep L w (n + 1) := by
  rcases hs with ⟨h1, _⟩ | ⟨fi', ai', h1, h2, h3, h4, h5⟩
  · omega
  · have hm : w ∈ ws L := mem_ws.2 ⟨by have := h.pos; omega, fi', ai', h3⟩
    refine ⟨.inr hm, ?_, by omega, by have := h.pos; omega⟩
    rw [count_next h4 hn (fun v hv hlt => ?_), if_pos hm, h.cnt]
    obtain ⟨_, i, k, hat⟩ := mem_ws.1 hv
    exact h5 i k v hat (.inl hat.lt) hlt
theorem CI.done {keep : Int} {L : List FileR} {t : Int} {n : Nat} (h : CI keep L t n) {a w : Int} (hs : Scan L t L.length 0 (-1) a w) : TQ keep (ws L) t := by
  refine ⟨h.t0, ?_⟩
  have hall : ∀ v ∈ ws L, v ≤ t := by
    intro v hv
    obtain ⟨_, i, k, hat⟩ := mem_ws.1 hv
    rcases hs with ⟨_, h2⟩ | ⟨fi, _, h1, _⟩
    · exact h2 i k v hat (.inl hat.lt)
    · omega
  have h1 : (ws L).countP (fun v => decide (v ≤ t)) = (ws L).length := by
    rw [List.countP_eq_length]
    intro v hv
    simpa using hall v hv
  have h2 := h.cnt
  have h3 := h.le
  omega
theorem CI.stop {keep : Int} {L : List FileR} {t : Int} {n : Nat} (h : CI keep L t n) {f a w : Int} (hs : Scan L t L.length 0 f a w) {fi : Nat} (hf : f = fi) (hk : ¬ (n : Int) < keep) : TQ keep (ws L) t := by
  refine ⟨h.t0, ?_⟩
  rcases hs with ⟨h1, _⟩ | ⟨fi', ai', h1, h2, h3, h4, _⟩
  · omega
  · have hm : w ∈ ws L := mem_ws.2 ⟨by have := h.pos; omega, fi', ai', h3⟩
    have hlt : (ws L).countP (fun v => decide (v ≤ t)) < (ws L).length := by
      have h1 := List.countP_le_length (p := fun v => decide (v ≤ t)) (l := ws L)
      rcases Nat.lt_or_ge ((ws L).countP (fun v => decide (v ≤ t))) (ws L).length with q | q
      · exact q
      · have := List.countP_eq_length.1 (Nat.le_antisymm h1 q) w hm
        simp at this; omega
    have h5 := h.cnt
    have h6 := h.le
    omega
theorem thr_zero {b : List BR} (h : ∀ y ∈ b, 0 ≤ y.2) : thrB 0 b = b := by
  unfold thrB
  conv => rhs; rw [← List.map_id b]
  apply List.map_congr_left
  intro y hy
  have := h y hy
  obtain ⟨y1, y2⟩ := y
  simp only at this ⊢
  by_cases e : y2 ≤ 0
  · rw [if_pos e]; simp; omega
  · rw [if_neg e]; rfl
theorem thr_all {t : Int} {b : List BR} (h : ∀ y ∈ b, y.2 ≤ t) : thrB t b = cutR t b := by
  unfold thrB cutR
  rw [List.filter_eq_self.2 (fun y hy => by simpa using h y hy)]
  apply List.map_congr_left
  intro y hy
  rw [if_pos (h y hy)]
theorem thr_cut {t : Int} (ht : 0 ≤ t) (b : List BR) : (thrB t b).filter (fun y => decide (y.2 = 0)) = cutR t b := by
  unfold thrB cutR
  induction b with
  | nil => rfl
  | cons y r ih =>
    rw [List.map_cons]
    by_cases e : y.2 ≤ t
    · rw [List.filter_cons_of_pos (by simp [e]), List.filter_cons_of_pos (by simpa using e), List.map_cons, ih]
      simp [e]
    · rw [List.filter_cons_of_neg (by simp [e]; omega), List.filter_cons_of_neg (by simpa using e), ih]
theorem thr_same {t w : Int} (htw : t < w) {b : List BR} (h : ∀ y ∈ b, t < y.2 → w < y.2) : thrB t b = thrB w b := by
  unfold thrB
  apply List.map_congr_left
  intro y hy
  by_cases e : y.2 ≤ t
  · rw [if_pos e, if_pos (by omega)]
  · rw [if_neg e, if_neg (by have := h y hy (by omega); omega)]
theorem thr_set {t w : Int} (htw : t < w) {b : List BR} {k : Nat} {y : BR} (hk : b[k]? = some y) (hy : y.2 = w) (h : ∀ j u, b[j]? = some u → j ≠ k → t < u.2 → w < u.2) : (thrB t b).set k (y.1, 0) = thrB w b := by
  unfold thrB
  apply List.ext_getElem?
  intro j
  rw [List.getElem?_map]
  by_cases e : k = j
  · subst e
    rw [List.getElem?_set_self (by rw [List.length_map]; exact (List.getElem?_eq_some_iff.1 hk).1), hk]
    simp [hy]
  · rw [List.getElem?_set_ne e, List.getElem?_map]
    cases hu : b[j]? with
    | none => rfl
    | some u =>
      simp only [Option.map_some]
      congr 2
      by_cases e1 : u.2 ≤ t
      · rw [if_pos e1, if_pos (by omega)]
      · rw [if_neg e1, if_neg (by have := h j u hu (fun e' => e e'.symm) (by omega); omega)]
end Go.Proofs.Ytbigkonbdnbnpaa
