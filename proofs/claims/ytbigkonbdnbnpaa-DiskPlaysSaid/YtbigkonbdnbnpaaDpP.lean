/-
  The reference's disk as plain data, and how it stands to the disk's.
-/
import Derived.Test.YtbigkonbdnbnpaaDiskRF
import Derived.Sort.Walk0
namespace Go.Proofs.Ytbigkonbdnbnpaa
set_option linter.unusedVariables false
set_option linter.unusedSimpArgs false
open Go.RowKit

abbrev BR := UInt8 × Int
structure RefD where
  l : List (ByteArray × List BR)
  clock : Int

def ltB (a b : ByteArray) : Bool := Go.Op.bytesLess a.toList b.toList
theorem ltB_iff {a b : ByteArray} : ltB a b = true ↔ a.data.toList < b.data.toList := by
  unfold ltB
  rw [Go.Proofs.bytesLess_eq, ByteArray.toList_eq, ByteArray.toList_eq, decide_eq_true_eq]
theorem ltB_irrefl (a : ByteArray) : ltB a a = false := by
  cases h : ltB a a with
  | false => rfl
  | true => exact absurd (ltB_iff.1 h) (List.lt_irrefl _)
theorem ltB_trans {a b c : ByteArray} (h1 : ltB a b = true) (h2 : ltB b c = true) : ltB a c = true := ltB_iff.2 (List.lt_trans (ltB_iff.1 h1) (ltB_iff.1 h2))
theorem ltB_ne {a b : ByteArray} (h : ltB a b = true) : a ≠ b := fun e => by subst e; rw [ltB_irrefl] at h; cases h
theorem ltB_tri {a b : ByteArray} (h : ltB a b = false) (hn : a ≠ b) : ltB b a = true := by
  have h1 : ¬ a.data.toList < b.data.toList := fun q => by rw [ltB_iff.2 q] at h; cases h
  have h2 : b.data.toList ≤ a.data.toList := by simpa using h1
  refine ltB_iff.2 ?_
  by_cases h3 : b.data.toList < a.data.toList
  · exact h3
  · exfalso
    have h4 : a.data.toList ≤ b.data.toList := by simpa using h3
    have h5 := List.le_antisymm h2 h4
    exact hn (ByteArray.ext (Array.toList_inj.1 h5.symm))

def encF (f : FileS) : List BR := f.b.zip (List.replicate f.sure 0 ++ f.came)
def enc1 (x : ByteArray × FileS) : ByteArray × List BR := (x.1, encF x.2)
structure Rel (σ : DiskS) (ρ : RefD) : Prop where
  clock : ρ.clock = σ.clock
  sorted : (ρ.l.map (·.1)).Pairwise fun a b => ltB a b = true
  perm : ρ.l.Perm (σ.l.map enc1)

theorem sorted_uniq {ks : List ByteArray} (h : ks.Pairwise fun a b => ltB a b = true) {i j : Nat} {s : ByteArray} (hi : ks[i]? = some s) (hj : ks[j]? = some s) : i = j := by
  have h1 := List.pairwise_iff_getElem.1 h
  obtain ⟨li, ei⟩ := List.getElem?_eq_some_iff.1 hi
  obtain ⟨lj, ej⟩ := List.getElem?_eq_some_iff.1 hj
  rcases Nat.lt_trichotomy i j with q | q | q
  · exact absurd (h1 i j li lj q) (by rw [ei, ej, ltB_irrefl]; simp)
  · exact q
  · exact absurd (h1 j i lj li q) (by rw [ei, ej, ltB_irrefl]; simp)

def rat (ρ : RefD) (s : ByteArray) : Option Nat := ρ.l.findIdx? (fun x => decide (x.1 = s))
theorem rat_some {ρ : RefD} {s : ByteArray} {i : Nat} (h : rat ρ s = some i) : ∃ b, ρ.l[i]? = some (s, b) := by
  obtain ⟨hl, h1, _⟩ := List.findIdx?_eq_some_iff_getElem.1 h
  refine ⟨ρ.l[i].2, ?_⟩
  rw [List.getElem?_eq_getElem hl]
  have : ρ.l[i].1 = s := by simpa using h1
  rw [← this]
theorem rat_none {ρ : RefD} {s : ByteArray} (h : rat ρ s = none) : ∀ x ∈ ρ.l, x.1 ≠ s := by
  intro x hx
  have := List.findIdx?_eq_none_iff.1 h x hx
  simpa using this
theorem rat_none_of {ρ : RefD} {s : ByteArray} (h : ∀ x ∈ ρ.l, x.1 ≠ s) : rat ρ s = none := by
  refine List.findIdx?_eq_none_iff.2 fun x hx => ?_
  simpa using h x hx
theorem rat_of {ρ : RefD} (hs : (ρ.l.map (·.1)).Pairwise fun a b => ltB a b = true) {s : ByteArray} {i : Nat} {b : List BR} (h : ρ.l[i]? = some (s, b)) : rat ρ s = some i := by
  cases hr : rat ρ s with
  | none => exact absurd rfl (rat_none hr _ (List.mem_of_getElem? h))
  | some j =>
    obtain ⟨b', hb'⟩ := rat_some hr
    rw [sorted_uniq hs (i := i) (j := j) (s := s) (by rw [List.getElem?_map, h]; rfl) (by rw [List.getElem?_map, hb']; rfl)]

variable {σ : DiskS} {ρ : RefD} {s t : ByteArray}
theorem Rel.some_ (h : Rel σ ρ) {i : Nat} (hi : at? σ s = some i) : ∃ f j, σ.l[i]? = some (s, f) ∧ rat ρ s = some j ∧ ρ.l[j]? = some (s, encF f) := by
  obtain ⟨f, hf⟩ := at?_some hi
  have h1 : (s, encF f) ∈ ρ.l := h.perm.mem_iff.2 (List.mem_map.2 ⟨_, List.mem_of_getElem? hf, rfl⟩)
  obtain ⟨j, hj⟩ := List.getElem?_of_mem h1
  exact ⟨f, j, hf, rat_of h.sorted hj, hj⟩
theorem Rel.none_ (h : Rel σ ρ) (hi : at? σ s = none) : rat ρ s = none := by
  refine rat_none_of fun x hx => ?_
  obtain ⟨y, hy, rfl⟩ := List.mem_map.1 (h.perm.mem_iff.1 hx)
  exact at?_none hi y hy

def insR (l : List (ByteArray × List BR)) (s : ByteArray) (v : List BR) : List (ByteArray × List BR) := l.takeWhile (fun x => ltB x.1 s) ++ (s, v) :: l.dropWhile (fun x => ltB x.1 s)
theorem ins_len (l : List (ByteArray × List BR)) (s : ByteArray) (v : List BR) : (insR l s v).length = l.length + 1 := by
  unfold insR
  have := congrArg List.length (List.takeWhile_append_dropWhile (p := fun x : ByteArray × List BR => ltB x.1 s) (l := l))
  rw [List.length_append] at this
  rw [List.length_append, List.length_cons]
  omega
theorem ins_get (l : List (ByteArray × List BR)) (s : ByteArray) (v : List BR) : (insR l s v)[(l.takeWhile (fun x => ltB x.1 s)).length]? = some (s, v) := by
  unfold insR
  rw [List.getElem?_append_right (Nat.le_refl _), Nat.sub_self]; rfl
theorem ins_set (l : List (ByteArray × List BR)) (s : ByteArray) (v v' : List BR) : (insR l s v).set (l.takeWhile (fun x => ltB x.1 s)).length (s, v') = insR l s v' := by
  unfold insR
  rw [List.set_append_right _ _ (Nat.le_refl _), Nat.sub_self]; rfl
theorem mem_takeWhile {α : Type} {p : α → Bool} : ∀ {l : List α} {x : α}, x ∈ l.takeWhile p → p x = true
  | [], x, h => by cases h
  | a :: r, x, h => by
    rw [List.takeWhile_cons] at h
    split at h
    · rename_i ha
      rcases List.mem_cons.1 h with rfl | h
      · exact ha
      · exact mem_takeWhile h
    · cases h
theorem rat_ins (l : List (ByteArray × List BR)) (s : ByteArray) (v : List BR) (c : Int) : rat ⟨insR l s v, c⟩ s = some (l.takeWhile (fun x => ltB x.1 s)).length := by
  refine List.findIdx?_eq_some_iff_getElem.2 ⟨?_, ?_, ?_⟩
  · exact (List.getElem?_eq_some_iff.1 (ins_get l s v)).1
  · have := (List.getElem?_eq_some_iff.1 (ins_get l s v)).2
    simp only [this, decide_true]
  · intro j hj
    have h1 : (insR l s v)[j]? = (l.takeWhile (fun x => ltB x.1 s))[j]? := by
      unfold insR
      rw [List.getElem?_append_left hj]
    have h2 := List.getElem?_eq_getElem hj
    rw [h2] at h1
    obtain ⟨_, h3⟩ := List.getElem?_eq_some_iff.1 h1
    have h4 := mem_takeWhile (List.getElem_mem hj)
    simp only [h3]
    simpa using ltB_ne h4
theorem ins_perm (l : List (ByteArray × List BR)) (s : ByteArray) (v : List BR) : (insR l s v).Perm (l ++ [(s, v)]) := by
  unfold insR
  refine List.perm_middle.trans ?_
  rw [List.takeWhile_append_dropWhile]
  exact (List.perm_append_comm (l₁ := [(s, v)]))
theorem ins_keys : ∀ (ks : List ByteArray), (ks.Pairwise fun a b => ltB a b = true) → s ∉ ks → (ks.takeWhile (ltB · s) ++ s :: ks.dropWhile (ltB · s)).Pairwise fun a b => ltB a b = true
  | [], _, _ => by simp
  | a :: r, h, hn => by
    have hr := List.pairwise_cons.1 h
    by_cases ha : ltB a s = true
    · rw [List.takeWhile_cons_of_pos (p := fun x => ltB x s) ha, List.dropWhile_cons_of_pos (p := fun x => ltB x s) ha, List.cons_append]
      refine List.pairwise_cons.2 ⟨fun x hx => ?_, ins_keys r hr.2 (fun q => hn (List.mem_cons_of_mem _ q))⟩
      rcases List.mem_append.1 hx with q | q
      · exact hr.1 x ((List.takeWhile_sublist _).subset q)
      · rcases List.mem_cons.1 q with rfl | q
        · exact ha
        · exact hr.1 x ((List.dropWhile_sublist _).subset q)
    · rw [List.takeWhile_cons_of_neg (p := fun x => ltB x s) ha, List.dropWhile_cons_of_neg (p := fun x => ltB x s) ha, List.nil_append]
      have h1 : ltB s a = true := ltB_tri (by simpa using ha) (fun e => hn (by rw [e]; exact List.mem_cons_self))
      refine List.pairwise_cons.2 ⟨fun x hx => ?_, h⟩
      rcases List.mem_cons.1 hx with rfl | q
      · exact h1
      · exact ltB_trans h1 (hr.1 x q)
theorem ins_sorted {l : List (ByteArray × List BR)} (h : (l.map (·.1)).Pairwise fun a b => ltB a b = true) (hn : ∀ x ∈ l, x.1 ≠ s) (v : List BR) : ((insR l s v).map (·.1)).Pairwise fun a b => ltB a b = true := by
  have := ins_keys (s := s) _ h (fun q => by obtain ⟨x, hx, e⟩ := List.mem_map.1 q; exact hn x hx e)
  rw [List.takeWhile_map, List.dropWhile_map] at this
  unfold insR
  rw [List.map_append, List.map_cons]
  exact this

theorem perm_eraseAt {α : Type} {l m : List α} (h : l.Perm m) {i j : Nat} {x : α} (hi : l[i]? = some x) (hj : m[j]? = some x) : (l.eraseIdx i).Perm (m.eraseIdx j) :=
  List.Perm.cons_inv (a := x) (((perm_front l i x hi).trans h).trans (perm_front m j x hj).symm)
theorem perm_setAt {α : Type} {l m : List α} (h : l.Perm m) {i j : Nat} {x : α} (hi : l[i]? = some x) (hj : m[j]? = some x) (y : α) : (l.set i y).Perm (m.set j y) :=
  ((perm_set l i x y hi).symm.trans ((perm_eraseAt h hi hj).cons y)).trans (perm_set m j x y hj)
theorem keys_set {l : List (ByteArray × List BR)} {i : Nat} {b : List BR} (hi : l[i]? = some (s, b)) (v : List BR) : (l.set i (s, v)).map (·.1) = l.map (·.1) := by
  apply List.ext_getElem?
  intro q
  rw [List.getElem?_map, List.getElem?_map]
  by_cases e : i = q
  · subst e
    rw [List.getElem?_set_self (List.getElem?_eq_some_iff.1 hi).1, hi]; rfl
  · rw [List.getElem?_set_ne e]
end Go.Proofs.Ytbigkonbdnbnpaa
