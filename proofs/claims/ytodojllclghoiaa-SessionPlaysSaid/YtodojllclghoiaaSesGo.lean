/-
  What plain deeds keep, and that sessions that were read go on alike (plain law).
-/
import Derived.Test.YtodojllclghoiaaSesInv
import Derived.Test.YtodojllclghoiaaSesAwake
import Derived.Test.YtodojllclghoiaaCells2
namespace Go.Proofs.Ytodojllclghoiaa
set_option linter.unusedVariables false
set_option linter.unusedSimpArgs false
open Go.RowKit

theorem allS_count (l : List OneS) (c : List (Int × (Int × Int))) : (allS ⟨l, c⟩).length = l.countP (·.isOpen) := by
  unfold allS
  rw [List.length_map, ← List.countP_eq_length_filter]
  have e : (l.mapIdx fun i x => (i, x)).map (·.2) = l := by
    apply List.ext_getElem?
    intro i
    rw [List.getElem?_map, List.getElem?_mapIdx]
    cases l[i]? <;> rfl
  conv => rhs; rw [← e, List.countP_map]
  rfl
theorem count_set {l : List OneS} {k : Nat} {x y : OneS} (hx : l[k]? = some x) (h : y.isOpen = true → x.isOpen = true) : (l.set k y).countP (·.isOpen) ≤ l.countP (·.isOpen) := by
  obtain ⟨hk, e⟩ := List.getElem?_eq_some_iff.1 hx
  rw [List.set_eq_take_append_cons_drop, if_pos hk, List.countP_append, List.countP_cons]
  conv => rhs; rw [← List.take_append_drop k l, List.countP_append, List.drop_eq_getElem_cons hk, e, List.countP_cons]
  cases hy : y.isOpen with
  | false => simp
  | true => rw [h hy]; omega

structure SG (n : Nat) (σ : SesS) : Prop where
  i : SesI σ
  len : σ.l.length ≤ n
  clen : σ.c.length ≤ n
  cI : ∀ x ∈ σ.c, I64 x.1 ∧ I64 x.2.1 ∧ I64 x.2.2
theorem SG.new : SG 0 ⟨[], []⟩ := ⟨SesI.new, Nat.le_refl _, Nat.le_refl _, fun x hx => absurd hx (List.not_mem_nil)⟩
theorem SG.mono {n : Nat} {σ : SesS} (h : SG n σ) : SG (n + 1) σ := ⟨h.i, Nat.le_succ_of_le h.len, Nat.le_succ_of_le h.clen, h.cI⟩
theorem SG.up {n m : Nat} {σ : SesS} (h : SG n σ) (hm : n ≤ m) : SG m σ := ⟨h.i, Nat.le_trans h.len hm, Nat.le_trans h.clen hm, h.cI⟩
theorem SG.ok {n : Nat} {σ : SesS} (h : SG n σ) (hn : n ≤ 1000) : σ.ok := by
  refine ⟨by have := h.len; omega, by have := h.clen; omega, fun x hx => ?_, h.cI⟩
  obtain ⟨k, hk⟩ := List.getElem?_of_mem hx
  exact (h.i.w k x hk).1.ok
theorem aputc_len (l : List (Int × (Int × Int))) (k : Int) (v : Int × Int) : (aput l k v).length ≤ l.length + 1 := by
  have := congrArg List.length (aput_keys l k v)
  rw [List.length_map] at this
  rw [this]
  split <;> simp
theorem mem_aputc {l : List (Int × (Int × Int))} {k : Int} {v : Int × Int} {y : Int × (Int × Int)} (h : y ∈ aput l k v) : y ∈ l ∨ y = (k, v) := by
  unfold aput at h
  split at h
  · rcases List.mem_append.1 h with q | q
    · exact .inl q
    · exact .inr (List.mem_singleton.1 q)
  · exact List.mem_or_eq_of_mem_set h
theorem SG.open {n : Nat} {σ : SesS} (h : SG n σ) (hn : n ≤ 1000) (c l : Int) : SG (n + 1) (openS σ c l).2 := by
  refine ⟨h.i.open c l, ?_, ?_, ?_⟩
  · unfold openS
    have := h.len
    split
    · exact Nat.le_succ_of_le this
    split
    · exact Nat.le_succ_of_le this
    split
    · exact Nat.le_succ_of_le this
    split
    · exact Nat.le_succ_of_le this
    · show (σ.l ++ [_]).length ≤ _
      rw [List.length_append]; exact Nat.succ_le_succ this
  · unfold openS
    have := h.clen
    split
    · exact Nat.le_succ_of_le this
    split
    · exact Nat.le_succ_of_le this
    split
    · exact Nat.le_succ_of_le this
    split
    · exact Nat.le_succ_of_le this
    · exact Nat.le_trans (aputc_len _ _ _) (Nat.succ_le_succ this)
  · unfold openS
    have hl := h.len
    split
    · exact h.cI
    split
    · exact h.cI
    split
    · exact h.cI
    split
    · exact h.cI
    · rename_i h1 _ _ _
      intro x hx
      rcases mem_aputc hx with q | rfl
      · exact h.cI x q
      · refine ⟨?_, ?_, ?_⟩ <;> unfold I64 <;> simp only <;> omega
theorem SG.set {n : Nat} {σ : SesS} (h : SG n σ) {k : Nat} {x y : OneS} (hx : σ.l[k]? = some x) (hc : y.client = x.client ∧ y.life = x.life) (hy : y.wf k) (ho : y.isOpen = true → x.isOpen = true) : SG (n + 1) ⟨σ.l.set k y, σ.c⟩ := by
  refine ⟨⟨?_, h.i.w.set hx hc hy, ?_⟩, ?_, Nat.le_succ_of_le h.clen, h.cI⟩
  · show σ.c = cOf (σ.l.set k y)
    rw [cOf_set hx hc]; exact h.i.c
  · rw [allS_count]
    have h1 := h.i.a
    rw [show σ = ⟨σ.l, σ.c⟩ from rfl, allS_count] at h1
    exact Nat.le_trans (count_set hx ho) h1
  · show (σ.l.set k y).length ≤ _
    rw [List.length_set]; exact Nat.le_succ_of_le h.len
theorem SG.close {n : Nat} {σ : SesS} (h : SG n σ) (id : Int) : SG (n + 1) (closeS σ id).2 := by
  unfold closeS
  cases ha : atS σ id with
  | none => exact h.mono
  | some kx =>
    obtain ⟨k, x⟩ := kx
    obtain ⟨hx, _⟩ := atS_some ha
    have hw := (h.i.w k x hx).1
    simp only
    split
    · exact h.set (y := { x with isOpen := false }) hx ⟨rfl, rfl⟩ ⟨hw.c, hw.l, hw.s, hw.r, ⟨hw.ok.c, hw.ok.l, hw.ok.s, hw.ok.r⟩⟩ (fun e => by cases e)
    · exact h.mono
theorem SG.begin_ {n : Nat} {σ : SesS} (h : SG n σ) (id seq : Int) (h1 : 1 ≤ seq) (h2 : seq ≤ 1073741824) : SG (n + 1) (beginS σ id seq).2.2 := by
  unfold beginS
  cases ha : atS σ id with
  | none => exact h.mono
  | some kx =>
    obtain ⟨k, x⟩ := kx
    obtain ⟨hx, _⟩ := atS_some ha
    have hw := (h.i.w k x hx).1
    simp only
    split
    · exact h.mono
    split
    · exact h.mono
    split
    · exact h.mono
    split
    · exact h.mono
    split
    · exact h.mono
    · exact h.set (y := { x with seq := seq, said := false }) hx ⟨rfl, rfl⟩ ⟨hw.c, hw.l, ⟨by simp only; omega, h2⟩, (fun e => by cases e), ⟨hw.ok.c, hw.ok.l, ⟨by simp only; omega, by simp only; omega⟩, hw.ok.r⟩⟩ (fun h => h)
theorem SG.end_ {n : Nat} {σ : SesS} (h : SG n σ) (r : RepS) (hr : r.ok) (h1 : 0 ≤ r.err ∧ r.err ≤ 255) (h2 : 0 ≤ r.n ∧ r.n ≤ 1073741824) : SG (n + 1) (endS σ r).2 := by
  unfold endS
  cases ha : atS σ r.session with
  | none => exact h.mono
  | some kx =>
    obtain ⟨k, x⟩ := kx
    obtain ⟨hx, hid⟩ := atS_some ha
    have hw := (h.i.w k x hx).1
    simp only
    split
    · exact h.mono
    · rename_i hc
      have h3 : 1 ≤ x.seq := by omega
      have h4 : r.seq = x.seq := by omega
      exact h.set (y := { x with said := true, reply := r }) hx ⟨rfl, rfl⟩ ⟨hw.c, hw.l, hw.s, (fun _ => ⟨h3, hid, h4, h1, ⟨(show -1073741824 ≤ r.n by omega), h2.2⟩⟩), ⟨hw.ok.c, hw.ok.l, hw.ok.s, hr⟩⟩ id

structure DeedG where
  k : Int
  n : Int
  q : Int
  r : RepS
def plainD (d : DeedG) : Prop := (d.k ≠ 2 ∧ d.k ≠ 3) ∨ (1 ≤ d.q ∧ d.q ≤ 1073741824 ∧ 0 ≤ d.r.err ∧ d.r.err ≤ 255 ∧ 0 ≤ d.r.n ∧ d.r.n ≤ 1073741824)
instance (d : DeedG) : Decidable (plainD d) := by unfold plainD; infer_instance
def doG (σ : SesS) (d : DeedG) : SesS :=
  if d.k = 0 then (openS σ d.n d.q).2 else if d.k = 1 then (closeS σ d.n).2 else if d.k = 2 then (beginS σ d.n d.q).2.2 else if d.k = 3 then (endS σ d.r).2 else σ
theorem SG.do_ {n : Nat} {σ : SesS} (h : SG n σ) (hn : n ≤ 1000) (d : DeedG) (hp : plainD d) (hr : d.r.ok) : SG (n + 1) (doG σ d) := by
  unfold doG
  split
  · exact h.open hn _ _
  split
  · exact h.close _
  split
  · rcases hp with q | q
    · omega
    · exact h.begin_ _ _ q.1 q.2.1
  split
  · rcases hp with q | q
    · omega
    · exact h.end_ _ hr ⟨q.2.2.1, q.2.2.2.1⟩ ⟨q.2.2.2.2.1, q.2.2.2.2.2⟩
  · exact h.mono
theorem alike_do {σ σ' : SesS} (h : Alike σ σ') (d : DeedG) : Alike (doG σ d) (doG σ' d) := by
  unfold doG
  split
  · exact (alike_open h _ _).2
  split
  · exact (alike_close h _).2
  split
  · exact (alike_begin h _ _).2.2
  split
  · exact (alike_end h _).2
  · exact h
theorem forget_same (x : OneS) : (forget x).client = x.client ∧ (forget x).life = x.life ∧ (forget x).isOpen = x.isOpen ∧ (forget x).seq = x.seq ∧ (forget x).said = x.said := by
  unfold forget
  split <;> exact ⟨rfl, rfl, rfl, rfl, rfl⟩
theorem cOf_forget (l : List OneS) : cOf (l.map forget) = cOf l := by
  unfold cOf
  congr 1
  apply List.ext_getElem?
  intro i
  rw [List.getElem?_mapIdx, List.getElem?_mapIdx, List.getElem?_map]
  cases l[i]? with
  | none => rfl
  | some x => simp [(forget_same x).1, (forget_same x).2.1]
theorem forget_wf {x : OneS} {k : Nat} (h : x.wf k) : (forget x).wf k := by
  unfold forget
  split
  · exact h
  · rename_i hs
    exact ⟨h.c, h.l, h.s, (fun e => absurd e hs), ⟨h.ok.c, h.ok.l, h.ok.s, rep0_ok⟩⟩
theorem SG.forget {n : Nat} {σ : SesS} (h : SG n σ) : SG n ⟨σ.l.map forget, σ.c⟩ := by
  refine ⟨⟨?_, ?_, ?_⟩, by rw [List.length_map]; exact h.len, h.clen, h.cI⟩
  · show σ.c = cOf (σ.l.map Go.Proofs.Ytodojllclghoiaa.forget)
    rw [cOf_forget]; exact h.i.c
  · intro k x hx
    rw [List.getElem?_map] at hx
    cases hy : σ.l[k]? with
    | none => rw [hy] at hx; cases hx
    | some y =>
      rw [hy] at hx
      simp only [Option.map_some, Option.some.injEq] at hx
      subst hx
      obtain ⟨w1, w2⟩ := h.i.w k y hy
      refine ⟨forget_wf w1, ?_⟩
      rw [← List.map_take, cOf_forget, (forget_same y).1, (forget_same y).2.1]
      exact w2
  · rw [allS_forget σ.l σ.c σ.c]
    exact h.i.a
theorem SG.dec {n : Nat} {σ : SesS} (h : SG n σ) (hn : n ≤ 1000) : decS (encS σ) = some ⟨σ.l.map Go.Proofs.Ytodojllclghoiaa.forget, σ.c⟩ := dec_enc (h.ok hn) h.i.c h.i.w h.i.a
end Go.Proofs.Ytodojllclghoiaa
