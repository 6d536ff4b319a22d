/-
  A small separation logic over the model's worlds: a list of heaplets that the call owns, each op's effect on that list.
-/
import Derived.WalkKit
import Derived.Maps.Own
import Derived.Maps.RangeRun
import Derived.Deep.MidRow
import Derived.BigQuiet
import Derived.Lib.Hide
namespace Go.Proofs.Ytodojllclghoiaa
set_option linter.unusedVariables false
set_option linter.unusedSimpArgs false

/-- A heaplet: a block of cells known whole; a slice's row, its capacity unknown beyond the length; a map's entries in the order of their births. -/
inductive Hp where
  | cells (g : Nat) (vs : List Value) (t : TypeId)
  | row (e : TypeId) (size : Nat) (ao : Option Addr) (n cap : Nat) (xs : List Value)
  | mp (b : Nat) (d : TypeDesc) (kvs : List (Value × Value))
  | mpi (b : Nat) (d : TypeDesc) (kvs : List (Value × Value)) (r : Nat) (left : List (Value × Value)) (cur : Option (Value × Value))
  | obj (g : Nat) (o : Obj)

namespace Hp
def fp : Hp → List Nat
  | .cells g _ _ => [g]
  | .row _ _ ao _ _ _ => (ao.map Addr.block).toList
  | .mp b _ _ => [b]
  | .mpi b _ _ r _ _ => [b, r]
  | .obj g _ => [g]

def on (w : World) : Hp → Prop
  | .cells g vs t => w.heap[g]? = some (.cells vs.toArray t (0, 0))
  | .row e size ao n cap xs => w.ownsRow 0 e size (.slice ao n cap) n xs
  | .mp b d kvs => ∃ es clock, w.heap[b]? = some (.map es clock) ∧ MapKept.Stamped es clock ∧ es.toList.map (fun x => (x.key, x.val)) = kvs ∧ ∀ p ∈ kvs, MapKept.IsKey d p.1
  | .mpi b d kvs r left cur => ∃ es clock seen, w.heap[b]? = some (.map es clock) ∧ MapKept.Stamped es clock ∧ es.toList.map (fun x => (x.key, x.val)) = kvs ∧ (∀ p ∈ kvs, MapKept.IsKey d p.1) ∧
      w.heap[r]? = some (.mapIter (some b) clock seen clock) ∧ (leftOf es seen).toList.map (fun x => (x.key, x.val)) = left ∧ ∀ p, cur = some p → ∃ (e : MapEntry) (seen' : Array Nat), seen = seen'.push e.born ∧ e ∈ es.toList ∧ (e.key, e.val) = p
  | .obj g o => w.heap[g]? = some o

theorem on_congr {w w' : World} {x : Hp} (h : x.on w) (e : ∀ b ∈ x.fp, w'.heap[b]? = w.heap[b]?) : x.on w' := by
  cases x with
  | cells g vs t => exact (e g (by simp [fp])).trans h
  | obj g o => exact (e g (by simp [fp])).trans h
  | mp b d kvs =>
    obtain ⟨es, clock, hb, r⟩ := h
    exact ⟨es, clock, (e b (by simp [fp])).trans hb, r⟩
  | mpi b d kvs r left cur =>
    obtain ⟨es, clock, seen, hb, h1, h2, h3, hr, q⟩ := h
    exact ⟨es, clock, seen, (e b (by simp [fp])).trans hb, h1, h2, h3, (e r (by simp [fp])).trans hr, q⟩
  | row E size ao n cap xs =>
    refine ⟨h.1, ?_⟩
    rcases h.2 with hn | ⟨g, cap', cur, hv, hb, hg, r⟩
    · exact .inl hn
    · refine .inr ⟨g, cap', cur, hv, hb, ?_, r⟩
      have : ao = some ⟨g, 0, none⟩ := by injection hv
      rw [e g (by simp [fp, this])]
      exact hg

theorem lt {w : World} {x : Hp} (h : x.on w) : ∀ b ∈ x.fp, b < w.heap.size := by
  intro b hb
  cases x with
  | cells g vs t =>
    simp [fp] at hb; subst hb
    exact (Array.getElem?_eq_some_iff.1 h).1
  | obj g o =>
    simp [fp] at hb; subst hb
    exact (Array.getElem?_eq_some_iff.1 h).1
  | mp g d kvs =>
    simp [fp] at hb; subst hb
    obtain ⟨es, clock, hb, r⟩ := h
    exact (Array.getElem?_eq_some_iff.1 hb).1
  | mpi g d kvs r left cur =>
    obtain ⟨es, clock, seen, hb', h1, h2, h3, hr, q⟩ := h
    simp [fp] at hb
    rcases hb with rfl | rfl
    · exact (Array.getElem?_eq_some_iff.1 hb').1
    · exact (Array.getElem?_eq_some_iff.1 hr).1
  | row E size ao n cap xs =>
    rcases h.2 with hn | ⟨g, cap', cur, hv, _, hg, r⟩
    · have : ao = none := by injection hn.1
      simp [fp, this] at hb
    · have : ao = some ⟨g, 0, none⟩ := by injection hv
      simp [fp, this] at hb; subst hb
      exact (Array.getElem?_eq_some_iff.1 hg).1
end Hp

def fps (H : List Hp) : List Nat := H.flatMap Hp.fp

theorem fps_sub {A B : List Hp} (p : A.Sublist B) : (fps A).Sublist (fps B) := by
  induction p with
  | slnil => exact .slnil
  | cons a _ ih => exact ih.trans (List.sublist_append_right _ _)
  | cons_cons a _ ih => exact (List.Sublist.refl _).append ih

theorem perm_front {α : Type} : ∀ (l : List α) (i : Nat) (x : α), l[i]? = some x → (x :: l.eraseIdx i).Perm l
  | [], i, x, h => by simp at h
  | y :: r, 0, x, h => by simp at h; subst h; exact List.Perm.refl _
  | y :: r, i + 1, x, h => by
    simp only [List.getElem?_cons_succ] at h
    exact (List.Perm.swap y x _).trans ((perm_front r i x h).cons y)

theorem perm_set {α : Type} : ∀ (l : List α) (i : Nat) (x y : α), l[i]? = some x → (y :: l.eraseIdx i).Perm (l.set i y)
  | [], i, x, y, h => by simp at h
  | z :: r, 0, x, y, h => List.Perm.refl _
  | z :: r, i + 1, x, y, h => by
    simp only [List.getElem?_cons_succ] at h
    exact (List.Perm.swap z y _).trans ((perm_set r i x y h).cons z)

theorem fps_append (A B : List Hp) : fps (A ++ B) = fps A ++ fps B := List.flatMap_append

/-- Of w the world w' is what was, but for the blocks of S, and new ones. -/
structure Turn (w w' : World) (S : List Nat) : Prop where
  os : w'.os = w.os
  tape : w'.tape = w.tape
  output : w'.output = w.output
  size : w.heap.size ≤ w'.heap.size
  block : ∀ k, k < w.heap.size → k ∉ S → w'.heap[k]? = w.heap[k]?

theorem Turn.refl (w : World) (S : List Nat) : Turn w w S := ⟨rfl, rfl, rfl, Nat.le_refl _, fun _ _ _ => rfl⟩

theorem Turn.of_grown {w w' : World} {row : Option Nat} (h : w.grownBy w' row) : Turn w w' row.toList :=
  ⟨h.os, h.tape, h.output, h.size, fun k hk hn => h.block k hk (fun e => hn (by simp [← e]))⟩

theorem Turn.mono {w w' : World} {S S' : List Nat} (h : Turn w w' S) (hs : ∀ k ∈ S, k ∈ S') : Turn w w' S' :=
  ⟨h.os, h.tape, h.output, h.size, fun k hk hn => h.block k hk (fun e => hn (hs k e))⟩

theorem Turn.grown {w w' : World} (h : Turn w w' []) : w.grownBy w' none :=
  ⟨h.os, h.tape, h.output, h.size, fun k hk _ => h.block k hk (by simp)⟩

/-- The call began in w0; now the world is w; it owns H, all of it new since w0; what was there in w0 is as it was. -/
structure St (w0 w : World) (H : List Hp) : Prop where
  old : Turn w0 w []
  nd : (fps H).Nodup
  new : ∀ b ∈ fps H, w0.heap.size ≤ b
  on : ∀ x ∈ H, x.on w

namespace St
variable {w0 w w' : World} {H H' A A' R : List Hp}

theorem init (w : World) : St w w [] := ⟨Turn.refl _ _, by simp [fps], by simp [fps], by simp⟩

theorem lt (h : St w0 w H) : ∀ b ∈ fps H, b < w.heap.size := by
  intro b hb
  obtain ⟨x, hx, hb⟩ := List.mem_flatMap.1 hb
  exact Hp.lt (h.on x hx) b hb

theorem perm (h : St w0 w H) (p : H.Perm H') : St w0 w H' :=
  ⟨h.old, (p.flatMap_right _).nodup_iff.1 h.nd, fun b hb => h.new b ((p.flatMap_right _).mem_iff.2 hb), fun x hx => h.on x (p.mem_iff.2 hx)⟩

theorem sub (h : St w0 w H) (p : H'.Sublist H) : St w0 w H' :=
  ⟨h.old, (fps_sub p).nodup h.nd, fun b hb => h.new b ((fps_sub p).subset hb), fun x hx => h.on x (p.subset hx)⟩

theorem front (h : St w0 w H) (i : Nat) {x : Hp} (hi : H[i]? = some x) : St w0 w (x :: H.eraseIdx i) :=
  h.perm (perm_front H i x hi).symm

theorem swap (h : St w0 w (A ++ (A' ++ R))) : St w0 w (A' ++ (A ++ R)) :=
  h.perm (by rw [← List.append_assoc, ← List.append_assoc]; exact List.perm_append_comm.append_right R)

theorem tail {x : Hp} (h : St w0 w (x :: H)) : St w0 w H := h.sub (List.sublist_cons_self _ _)
theorem dropA (h : St w0 w (A ++ R)) : St w0 w R := h.sub (List.sublist_append_right _ _)

/-- THE STEP: the part A of what is owned becomes A'. -/
theorem step (h : St w0 w (A ++ R)) (hg : Turn w w' (fps A)) (nd : (fps A').Nodup) (hfp : ∀ b ∈ fps A', b ∈ fps A ∨ w.heap.size ≤ b) (hA : ∀ x ∈ A', x.on w') : St w0 w' (A' ++ R) := by
  have hlt := h.lt
  have hnd := h.nd
  rw [fps_append] at hnd
  obtain ⟨nA, nR, dis⟩ := List.nodup_append.1 hnd
  have hR : ∀ b ∈ fps R, b < w.heap.size := fun b hb => hlt b (by rw [fps_append]; exact List.mem_append_right _ hb)
  refine ⟨⟨hg.os.trans h.old.os, hg.tape.trans h.old.tape, hg.output.trans h.old.output, Nat.le_trans h.old.size hg.size, fun k hk _ => ?_⟩, ?_, ?_, ?_⟩
  · have hs := h.old.size
    rw [hg.block k (Nat.lt_of_lt_of_le hk hs) (fun hm => ?_)]
    · exact h.old.block k hk (by simp)
    · have := h.new k (by rw [fps_append]; exact List.mem_append_left _ hm)
      omega
  · rw [fps_append]
    refine List.nodup_append.2 ⟨nd, nR, fun a ha b hb e => ?_⟩
    subst e
    rcases hfp a ha with h1 | h1
    · exact dis a h1 a hb rfl
    · have := hR a hb; omega
  · intro b hb
    rw [fps_append] at hb
    rcases List.mem_append.1 hb with hb | hb
    · rcases hfp b hb with h1 | h1
      · exact h.new b (by rw [fps_append]; exact List.mem_append_left _ h1)
      · exact Nat.le_trans h.old.size h1
    · exact h.new b (by rw [fps_append]; exact List.mem_append_right _ hb)
  · intro x hx
    rcases List.mem_append.1 hx with hx | hx
    · exact hA x hx
    · refine Hp.on_congr (h.on x (List.mem_append_right _ hx)) (fun b hb => ?_)
      have hbR : b ∈ fps R := List.mem_flatMap.2 ⟨x, hx, hb⟩
      exact hg.block b (hR b hbR) (fun hm => dis b hm b hbR rfl)

/-- Whatever made new blocks alone keeps all. -/
theorem grown (h : St w0 w H) (hg : w.grownBy w' none) : St w0 w' H := by
  have := h.step (A := []) (A' := []) (R := H) (Turn.of_grown hg) (by simp [fps]) (by simp [fps]) (by simp)
  simpa using this

theorem grownBy (h : St w w' H) : w.grownBy w' none := h.old.grown

theorem below (h : St w0 w H) : RowKit.Below w0.heap.size w0 w := ⟨h.old.os, h.old.tape, h.old.output, h.old.size, fun k hk => h.old.block k hk (by simp)⟩

theorem drew (h : St w0 w H) : St w0 w.drew H := h.grown ⟨rfl, rfl, rfl, Nat.le_refl _, fun _ _ _ => rfl⟩
theorem drewN (h : St w0 w H) (n : Nat) : St w0 (w.drewN n) H := h.grown ⟨rfl, rfl, rfl, Nat.le_refl _, fun _ _ _ => rfl⟩

/-- A new block of cells. -/
theorem alloc (h : St w0 w H) (vs : List Value) (t : TypeId) : St w0 (w.alloc (.cells vs.toArray t)) (.cells w.heap.size vs t :: H) := by
  refine h.step (A := []) (A' := [.cells w.heap.size vs t]) (R := H) (Turn.of_grown (World.grownBy_alloc w _ none)) (by simp [fps, Hp.fp]) (by simp [fps, Hp.fp]) ?_
  intro x hx
  simp at hx; subst hx
  exact heap_alloc_new w _

theorem allocMap (h : St w0 w H) (d : TypeDesc) : St w0 (w.alloc (.map #[] 0)) (.mp w.heap.size d [] :: H) := by
  refine h.step (A := []) (A' := [.mp w.heap.size d []]) (R := H) (Turn.of_grown (World.grownBy_alloc w _ none)) (by simp [fps, Hp.fp]) (by simp [fps, Hp.fp]) ?_
  intro x hx
  simp at hx; subst hx
  exact ⟨#[], 0, heap_alloc_new w _, MapKept.stamped_empty 0, rfl, by simp⟩

theorem allocObj (h : St w0 w H) (o : Obj) : St w0 (w.alloc o) (.obj w.heap.size o :: H) := by
  refine h.step (A := []) (A' := [.obj w.heap.size o]) (R := H) (Turn.of_grown (World.grownBy_alloc w _ none)) (by simp [fps, Hp.fp]) (by simp [fps, Hp.fp]) ?_
  intro x hx
  simp at hx; subst hx
  exact heap_alloc_new w _

theorem at_ (h : St w0 w H) (i : Nat) {x : Hp} (hi : H[i]? = some x) : x.on w := h.on x (List.mem_of_getElem? hi)

/-- A cell of a block that is known whole. -/
theorem cell (h : St w0 w H) (i : Nat) {g : Nat} {vs : List Value} {t : TypeId} (hi : H[i]? = some (.cells g vs t)) (j : Nat) {v : Value} (hj : vs[j]? = some v) : w.cell? ⟨g, j, none⟩ = some v := by
  have hb := h.at_ i hi
  rw [cell_of_row w g j vs.toArray t (0, 0) hb]
  simpa using hj

/-- The heaplet at i becomes y. -/
theorem setAt (h : St w0 w H) (i : Nat) {x y : Hp} (hi : H[i]? = some x) (hg : Turn w w' x.fp) (nd : y.fp.Nodup) (hfp : ∀ b ∈ y.fp, b ∈ x.fp ∨ w.heap.size ≤ b) (hy : y.on w') : St w0 w' (H.set i y) := by
  have h1 := h.front i hi
  have h2 := St.step (A := [x]) (A' := [y]) (R := H.eraseIdx i) h1 (by simpa [fps] using hg) (by simpa [fps] using nd) (by simpa [fps] using hfp) (by simpa using hy)
  exact St.perm h2 (perm_set H i x y hi)

/-- Cells are written: 'cs' at 'off'. -/
theorem setRow (h : St w0 w H) (i : Nat) {g : Nat} {vs : List Value} {t : TypeId} (hi : H[i]? = some (.cells g vs t)) (vs' : List Value) : St w0 (w.setRow g vs'.toArray) (H.set i (.cells g vs' t)) := by
  have hb : w.heap[g]? = some (.cells vs.toArray t (0, 0)) := h.at_ i hi
  refine h.setAt i hi ⟨rfl, rfl, rfl, by simp [World.setRow], fun k _ hk => setRow_other w g k _ (fun e => hk (by simp [Hp.fp, e]))⟩ (by simp [Hp.fp]) (by simp [Hp.fp]) ?_
  exact setRow_heap w g _ _ t _ hb

/-- A nil slice owns a row of nothing. -/
theorem nilRow (h : St w0 w H) (e : TypeId) (size : Nat) : St w0 w (.row e size none 0 0 [] :: H) :=
  ⟨h.old, by simpa [fps, Hp.fp] using h.nd, by simpa [fps, Hp.fp] using h.new, fun x hx => by
    rcases List.mem_cons.1 hx with rfl | hx
    · exact World.ownsRow_nil w 0 e size
    · exact h.on x hx⟩

theorem eraseAt (h : St w0 w H) (i : Nat) : St w0 w (H.eraseIdx i) := h.sub (List.eraseIdx_sublist _ _)

theorem filterMap_range' {α : Type} (l : List α) : ∀ n, (List.range' n (l.length - n)).filterMap (fun i => l[i]?) = l.drop n := by
  intro n
  induction hk : l.length - n generalizing n with
  | zero => rw [List.drop_of_length_le (by omega)]; simp
  | succ k ih =>
    have hn : n < l.length := by omega
    rw [List.range'_succ, List.filterMap_cons, List.getElem?_eq_getElem hn, ih (n + 1) (by omega), List.drop_eq_getElem_cons hn]

theorem perm_sel {α : Type} (l : List α) (is : List Nat) (n : Nat) (hnd : is.Nodup) (hlt : ∀ i ∈ is, i < n) (hn : n ≤ l.length) : ∃ Y, l.Perm (is.filterMap (fun i => l[i]?) ++ (l.drop n ++ Y)) := by
  let js := (List.range' 0 n).filter fun i => !is.contains i
  refine ⟨js.filterMap (fun i => l[i]?), ?_⟩
  have hp : (List.range' 0 l.length).Perm (is ++ (List.range' n (l.length - n) ++ js)) := by
    refine (List.perm_ext_iff_of_nodup List.nodup_range' ?_).2 ?_
    · refine List.nodup_append.2 ⟨hnd, List.nodup_append.2 ⟨List.nodup_range', List.Sublist.nodup List.filter_sublist List.nodup_range', ?_⟩, ?_⟩
      · intro a ha b hb e
        subst e
        have := List.mem_range'_1.1 ha
        have := List.mem_range'_1.1 (List.mem_filter.1 hb).1
        omega
      · intro a ha b hb e
        subst e
        have h1 := hlt a ha
        rcases List.mem_append.1 hb with hb | hb
        · have := List.mem_range'_1.1 hb; omega
        · have h2 := (List.mem_filter.1 hb).2
          simp [ha] at h2
    · intro a
      simp only [List.mem_append, List.mem_range'_1, js, List.mem_filter]
      constructor
      · intro h
        by_cases hm : a ∈ is
        · exact .inl hm
        · by_cases hb : a < n
          · exact .inr (.inr ⟨by omega, by simp [hm]⟩)
          · exact .inr (.inl (by omega))
      · rintro (h | h | h)
        · have := hlt a h; omega
        · omega
        · omega
  have h2 := hp.filterMap (fun i => l[i]?)
  have e0 := filterMap_range' l 0
  simp only [Nat.sub_zero, List.drop_zero] at e0
  rw [e0, List.filterMap_append, List.filterMap_append, filterMap_range'] at h2
  exact h2

/-- Of the first n heaplets those of the places 'is', in that order; the rest behind them. -/
theorem sel (h : St w0 w H) (is : List Nat) (n : Nat) (hnd : is.Nodup) (hlt : ∀ i ∈ is, i < n) (hn : n ≤ H.length) : St w0 w (is.filterMap (fun i => H[i]?) ++ H.drop n) := by
  obtain ⟨Y, p⟩ := perm_sel H is n hnd hlt hn
  refine (h.perm p).sub ?_
  rw [← List.append_assoc]
  exact List.sublist_append_left _ _

end St

/-- Where a block of cells, a row, a map lies in the list of what is owned. -/
inductive AtC : List Hp → Nat → Nat → List Value → TypeId → Prop
  | z {g : Nat} {vs : List Value} {t : TypeId} {H : List Hp} : AtC (.cells g vs t :: H) g 0 vs t
  | s {x : Hp} {g i : Nat} {vs : List Value} {t : TypeId} {H : List Hp} : AtC H g i vs t → AtC (x :: H) g (i + 1) vs t
inductive AtR : List Hp → Option Addr → TypeId → Nat → Nat → Nat → Nat → List Value → Prop
  | z {ao : Option Addr} {e : TypeId} {size n cap : Nat} {xs : List Value} {H : List Hp} : AtR (.row e size ao n cap xs :: H) ao e 0 size n cap xs
  | s {x : Hp} {ao : Option Addr} {e : TypeId} {i size n cap : Nat} {xs : List Value} {H : List Hp} : AtR H ao e i size n cap xs → AtR (x :: H) ao e (i + 1) size n cap xs
inductive AtM : List Hp → Nat → Nat → TypeDesc → List (Value × Value) → Prop
  | z {b : Nat} {d : TypeDesc} {kvs : List (Value × Value)} {H : List Hp} : AtM (.mp b d kvs :: H) b 0 d kvs
  | s {x : Hp} {b i : Nat} {d : TypeDesc} {kvs : List (Value × Value)} {H : List Hp} : AtM H b i d kvs → AtM (x :: H) b (i + 1) d kvs
theorem AtC.get {H : List Hp} {g i : Nat} {vs : List Value} {t : TypeId} (h : AtC H g i vs t) : H[i]? = some (.cells g vs t) := by
  induction h with
  | z => rfl
  | s _ ih => simpa using ih
theorem AtR.get {H : List Hp} {ao : Option Addr} {e : TypeId} {i size n cap : Nat} {xs : List Value} (h : AtR H ao e i size n cap xs) : H[i]? = some (.row e size ao n cap xs) := by
  induction h with
  | z => rfl
  | s _ ih => simpa using ih
theorem AtM.get {H : List Hp} {b i : Nat} {d : TypeDesc} {kvs : List (Value × Value)} (h : AtM H b i d kvs) : H[i]? = some (.mp b d kvs) := by
  induction h with
  | z => rfl
  | s _ ih => simpa using ih
theorem St.cellI {w0 w : World} {H : List Hp} {g i j : Nat} {vs : List Value} {t : TypeId} {v : Value} (h : St w0 w H) (hi : AtC H g i vs t) (hj : vs[j]? = some v) : w.cell? ⟨g, j, none⟩ = some v := h.cell i hi.get j hj
end Go.Proofs.Ytodojllclghoiaa
