/-
  The disk's functions as functions of plain data, what is kept, and the contracts in these words.
-/
import Derived.Test.YtbigkonbdnbnpaaDiskSort
import Derived.Test.YtbigkonbdnbnpaaDiskW3
namespace Go.Proofs.Ytbigkonbdnbnpaa
set_option linter.unusedVariables false
set_option linter.unusedSimpArgs false
open Go.RowKit

theorem lastOf_perm {keep : Int} {l l' : List Int} (h : l.Perm l') : lastOf keep l = lastOf keep l' := by
  have e : (l.mergeSort fun x y => decide (x ≤ y)) = l'.mergeSort fun x y => decide (x ≤ y) := by
    refine List.Perm.eq_of_pairwise (le := fun a b => decide (a ≤ b) = true) (fun a b _ _ h1 h2 => ?_) (List.pairwise_mergeSort ?_ ?_ l) (List.pairwise_mergeSort ?_ ?_ l') (((List.mergeSort_perm l _).trans h).trans (List.mergeSort_perm l' _).symm)
    · simp only [decide_eq_true_eq] at h1 h2; omega
    all_goals (intros; simp_all; try omega)
  unfold lastOf
  rw [e, h.length_eq]

theorem lastOf_sorted {keep : Int} {l : List Int} (h : l.Pairwise (· ≤ ·)) : lastOf keep l = if 0 < min keep l.length then l.getD (min keep l.length - 1).toNat 0 else 0 := by
  unfold lastOf
  rw [List.mergeSort_of_pairwise (h.imp fun h => by simpa using h)]

/-- What is kept. -/
structure DiskS.good (σ : DiskS) : Prop where
  clock0 : 0 ≤ σ.clock
  files : ∀ x ∈ σ.l, x.2.sure + x.2.came.length = x.2.b.length ∧ x.2.b.length ≤ 4194304
  sorted : ∀ x ∈ σ.l, x.2.came.Pairwise (· ≤ ·)
  times : ∀ x ∈ σ.l, ∀ c ∈ x.2.came, 0 < c ∧ c ≤ σ.clock
  total : ((σ.l.flatMap (·.2.came)).length : Int) ≤ σ.clock

theorem DiskS.good.ok {σ : DiskS} (h : σ.good) {n : Nat} (hb : σ.clock + n ≤ 4611686018427387904) : σ.ok n := ⟨h.clock0, hb, h.files⟩

/-- Where a name stands. -/
def at? (σ : DiskS) (s : ByteArray) : Option Nat := σ.l.findIdx? (fun x => decide (x.1 = s))

theorem at?_none {σ : DiskS} {s : ByteArray} (h : at? σ s = none) : ∀ x ∈ σ.l, x.1 ≠ s := by
  intro x hx
  have := List.findIdx?_eq_none_iff.1 h x hx
  simpa using this

theorem at?_some {σ : DiskS} {s : ByteArray} {i : Nat} (h : at? σ s = some i) : ∃ f, σ.l[i]? = some (s, f) := by
  obtain ⟨hl, h1, _⟩ := List.findIdx?_eq_some_iff_getElem.1 h
  refine ⟨σ.l[i].2, ?_⟩
  rw [List.getElem?_eq_getElem hl]
  have : σ.l[i].1 = s := by simpa using h1
  rw [← this]

/-- A file. -/
def fileD (σ : DiskS) (s : ByteArray) : Option FileS := (at? σ s).bind fun i => (σ.l[i]?).map (·.2)

/-- The same as nameB, for the kernel's ease. -/
def nameC (s : ByteArray) : Bool := decide (0 < s.size) && decide (s.size ≤ 64)

theorem nameB_eq (s : ByteArray) : nameB s = nameC s := by
  have h : s.data.toList.length = s.size := rfl
  unfold nameB nameC
  rw [ByteArray.toList_eq]
  cases e : s.data.toList with
  | nil => rw [e] at h; simp at h; simp [← h]
  | cons a l => rw [e] at h; simp at h; simp [← h]; omega

def appendD (σ : DiskS) (s t : ByteArray) : DiskS × Int :=
  if nameC s = false then (σ, 1) else
  match at? σ s with
  | none => if t.size ≤ 4194304 then (⟨σ.l ++ [(s, ⟨t.data.toList, 0, clocks σ.clock t.size⟩)], σ.clock + t.size⟩, 0) else (σ, 15)
  | some i => match σ.l[i]? with
    | none => (σ, 0)
    | some (_, f) => if f.b.length + t.size ≤ 4194304 then (⟨σ.l.set i (s, ⟨f.b ++ t.data.toList, f.sure, f.came ++ clocks σ.clock t.size⟩), σ.clock + t.size⟩, 0) else (σ, 15)

def syncD (σ : DiskS) (s : ByteArray) : DiskS × Int :=
  match at? σ s with
  | none => (σ, 5)
  | some i => match σ.l[i]? with
    | none => (σ, 0)
    | some (_, f) => (⟨σ.l.set i (s, ⟨f.b, f.b.length, []⟩), σ.clock⟩, 0)

def removeD (σ : DiskS) (s : ByteArray) : DiskS × Int :=
  match at? σ s with
  | none => (σ, 5)
  | some i => (⟨σ.l.eraseIdx i, σ.clock⟩, 0)

def readD (σ : DiskS) (s : ByteArray) : ByteArray × Int :=
  match fileD σ s with
  | none => (⟨#[]⟩, 5)
  | some f => (⟨f.b.toArray⟩, 0)

def unsyncedD (σ : DiskS) (s : ByteArray) : Nat :=
  match fileD σ s with
  | none => 0
  | some f => f.came.length

/-- The disk behind a crash. -/
def crashD (keep : Int) (σ : DiskS) : DiskS := ⟨σ.l.map fun x => (x.1, cutAt (lastOf keep (σ.l.flatMap (·.2.came))) x.2), σ.clock⟩

theorem crash_d (w0 w : World) (R : List Hp) (g : Nat) (σ : DiskS) (keep : Int) (hD : DiskSt w0 w g σ R) (hg : σ.good) (hb : σ.clock ≤ 4611686018427) (hk : -9223372036854775808 ≤ keep ∧ keep ≤ 9223372036854775807) :
    Calls Try.prog 12 #[.pointer (some ⟨g, 0, none⟩), .int .i64 keep] w fun e w' => e = .returned (.tuple #[]) ∧ DiskSt w0 w' g (crashD keep σ) R := by
  refine (crash_c sortSaid searchSaid w0 w R g σ keep hD (hg.ok (by omega)) hk.1 hk.2 (by have := hg.total; omega) hg.sorted hg.times).mono ?_
  rintro e w' ⟨rfl, all, hp, h⟩
  rw [lastOf_perm hp] at h
  exact ⟨rfl, h⟩

theorem append_d (w0 w : World) (R : List Hp) (g : Nat) (σ : DiskS) (s t : ByteArray) (hD : DiskSt w0 w g σ R) (hg : σ.good) (hb : σ.clock + t.size ≤ 4611686018427) :
    Calls Try.prog 10 #[.pointer (some ⟨g, 0, none⟩), .string s, .string t] w fun e w' => e = .returned (.int .i64 (appendD σ s t).2) ∧ DiskSt w0 w' g (appendD σ s t).1 R := by
  have h0 := hg.clock0
  unfold appendD
  rw [← nameB_eq]
  by_cases hn : nameB s = false
  · rw [if_pos hn]
    refine (append_bad s t _ w (.inr ⟨hn, _, rfl⟩)).mono ?_
    rintro e w' ⟨rfl, rfl⟩
    exact ⟨rfl, hD⟩
  · rw [if_neg hn]
    have hn : nameB s = true := by simpa using hn
    cases hi : at? σ s with
    | none =>
      by_cases hl : t.size ≤ 4194304
      · simp only [if_pos hl]
        exact append_new w0 w R g σ s t hD (hg.ok (by omega)) hn (at?_none hi) hl
      · simp only [if_neg hl]
        exact append_long w0 w R g σ s t hD (hg.ok (by omega)) (by omega) hn none ⟨at?_none hi, by omega⟩
    | some i =>
      obtain ⟨f, hf⟩ := at?_some hi
      simp only [hf]
      by_cases hl : f.b.length + t.size ≤ 4194304
      · simp only [if_pos hl]
        exact append_old w0 w R g σ s t hD (hg.ok (by omega)) hn i f hf hl
      · simp only [if_neg hl]
        exact append_long w0 w R g σ s t hD (hg.ok (by omega)) (by omega) hn (some f) ⟨⟨i, hf⟩, by omega⟩

theorem sync_d (w0 w : World) (R : List Hp) (g : Nat) (σ : DiskS) (s : ByteArray) (hD : DiskSt w0 w g σ R) :
    Calls Try.prog 11 #[.pointer (some ⟨g, 0, none⟩), .string s] w fun e w' => e = .returned (.int .i64 (syncD σ s).2) ∧ DiskSt w0 w' g (syncD σ s).1 R := by
  unfold syncD
  cases hi : at? σ s with
  | none =>
    refine (absent_c w0 w R g σ s hD (at?_none hi)).2.2.1.mono ?_
    rintro e w' ⟨rfl, rfl⟩
    exact ⟨rfl, hD⟩
  | some i =>
    obtain ⟨f, hf⟩ := at?_some hi
    simp only [hf]
    exact sync_c w0 w R g σ s hD i f hf

theorem remove_d (w0 w : World) (R : List Hp) (g : Nat) (σ : DiskS) (s : ByteArray) (hD : DiskSt w0 w g σ R) :
    Calls Try.prog 17 #[.pointer (some ⟨g, 0, none⟩), .string s] w fun e w' => e = .returned (.int .i64 (removeD σ s).2) ∧ DiskSt w0 w' g (removeD σ s).1 R := by
  unfold removeD
  cases hi : at? σ s with
  | none =>
    refine (absent_c w0 w R g σ s hD (at?_none hi)).2.2.2.mono ?_
    rintro e w' ⟨rfl, rfl⟩
    exact ⟨rfl, hD⟩
  | some i =>
    obtain ⟨f, hf⟩ := at?_some hi
    exact remove_c w0 w R g σ s hD i f hf

theorem read_d (w0 w : World) (R : List Hp) (g : Nat) (σ : DiskS) (s : ByteArray) (hD : DiskSt w0 w g σ R) :
    Calls Try.prog 13 #[.pointer (some ⟨g, 0, none⟩), .string s] w fun e w' => e = .returned (.tuple #[.string (readD σ s).1, .int .i64 (readD σ s).2]) ∧ w = w' := by
  unfold readD fileD
  cases hi : at? σ s with
  | none => exact (absent_c w0 w R g σ s hD (at?_none hi)).1
  | some i =>
    obtain ⟨f, hf⟩ := at?_some hi
    simp only [Option.bind_some, hf, Option.map_some]
    exact (reads_c w0 w R g σ s hD i f hf).1

theorem unsynced_d (w0 w : World) (R : List Hp) (g : Nat) (σ : DiskS) (s : ByteArray) (hD : DiskSt w0 w g σ R) :
    Calls Try.prog 14 #[.pointer (some ⟨g, 0, none⟩), .string s] w fun e w' => e = .returned (.int .i64 (unsyncedD σ s)) ∧ w = w' := by
  unfold unsyncedD fileD
  cases hi : at? σ s with
  | none => exact (absent_c w0 w R g σ s hD (at?_none hi)).2.1
  | some i =>
    obtain ⟨f, hf⟩ := at?_some hi
    simp only [Option.bind_some, hf, Option.map_some]
    exact (reads_c w0 w R g σ s hD i f hf).2

/-! What is kept is kept. -/

theorem clocks_mem {c : Int} {n : Nat} {x : Int} (h : x ∈ clocks c n) : c < x ∧ x ≤ c + n := by
  simp [clocks] at h
  obtain ⟨k, h1, rfl⟩ := h
  omega

theorem clocks_sorted (c : Int) (n : Nat) : (clocks c n).Pairwise (· ≤ ·) := by
  unfold clocks
  rw [List.pairwise_map]
  exact List.pairwise_lt_range.imp fun h => by omega

theorem cames_len {l : List (ByteArray × FileS)} {i : Nat} {x y : ByteArray × FileS} (h : l[i]? = some x) : ((l.set i y).flatMap (·.2.came)).length + x.2.came.length = (l.flatMap (·.2.came)).length + y.2.came.length := by
  have h1 := ((perm_front l i x h).flatMap_right (·.2.came)).length_eq
  have h2 := ((perm_set l i x y h).flatMap_right (·.2.came)).length_eq
  simp only [List.flatMap_cons, List.length_append] at h1 h2
  omega

theorem good_new : DiskS.good ⟨[], 0⟩ := ⟨Int.le_refl 0, fun x hx => (by cases hx), fun x hx => (by cases hx), fun x hx => (by cases hx), Int.le_refl 0⟩

theorem mem_set_or {α : Type} {l : List α} {i : Nat} {x y : α} (h : x ∈ l.set i y) : x ∈ l ∨ x = y := List.mem_or_eq_of_mem_set h

theorem data_len (t : ByteArray) : t.data.toList.length = t.size := rfl

theorem good_append {σ : DiskS} (hg : σ.good) (s t : ByteArray) : (appendD σ s t).1.good := by
  have h0 := hg.clock0
  have h4 := hg.total
  unfold appendD
  split
  · exact hg
  split
  · rename_i hi
    split
    · rename_i hl
      refine ⟨by simp only; omega, fun x hx => ?_, fun x hx => ?_, fun x hx c hc => ?_, ?_⟩
      · rcases List.mem_append.1 hx with hx | hx
        · exact hg.files x hx
        · simp at hx; subst hx; exact ⟨by simp only [clocks_length, data_len]; omega, by simp only [data_len]; exact hl⟩
      · rcases List.mem_append.1 hx with hx | hx
        · exact hg.sorted x hx
        · simp at hx; subst hx; exact clocks_sorted _ _
      · rcases List.mem_append.1 hx with hx | hx
        · have := hg.times x hx c hc; simp only; omega
        · simp at hx; subst hx; have := clocks_mem hc; simp only; omega
      · simp [clocks_length]; simp at h4; omega
    · exact hg
  · rename_i i hi
    obtain ⟨f, hf⟩ := at?_some hi
    have hm := List.mem_of_getElem? hf
    simp only [hf]
    split
    · rename_i hl
      refine ⟨by simp only; omega, fun x hx => ?_, fun x hx => ?_, fun x hx c hc => ?_, ?_⟩
      · rcases mem_set_or hx with hx | rfl
        · exact hg.files x hx
        · have := hg.files _ hm
          simp only [List.length_append, clocks_length, data_len] at this ⊢
          omega
      · rcases mem_set_or hx with hx | rfl
        · exact hg.sorted x hx
        · refine List.pairwise_append.2 ⟨hg.sorted _ hm, clocks_sorted _ _, fun a ha b hb => ?_⟩
          have := hg.times _ hm a ha
          have := clocks_mem hb
          omega
      · rcases mem_set_or hx with hx | rfl
        · have := hg.times x hx c hc; simp only; omega
        · rcases List.mem_append.1 hc with hc | hc
          · have := hg.times _ hm c hc; simp only at this ⊢; omega
          · have := clocks_mem hc; simp only; omega
      · have := cames_len (y := (s, ⟨f.b ++ t.data.toList, f.sure, f.came ++ clocks σ.clock t.size⟩)) hf
        simp only [List.length_append, clocks_length] at this ⊢
        omega
    · exact hg

theorem good_sync {σ : DiskS} (hg : σ.good) (s : ByteArray) : (syncD σ s).1.good := by
  have h4 := hg.total
  unfold syncD
  split
  · exact hg
  rename_i i hi
  obtain ⟨f, hf⟩ := at?_some hi
  have hm := List.mem_of_getElem? hf
  simp only [hf]
  refine ⟨hg.clock0, fun x hx => ?_, fun x hx => ?_, fun x hx c hc => ?_, ?_⟩
  · rcases mem_set_or hx with hx | rfl
    · exact hg.files x hx
    · have := hg.files _ hm; simp at this ⊢; omega
  · rcases mem_set_or hx with hx | rfl
    · exact hg.sorted x hx
    · exact .nil
  · rcases mem_set_or hx with hx | rfl
    · exact hg.times x hx c hc
    · cases hc
  · have := cames_len (y := (s, ⟨f.b, f.b.length, []⟩)) hf
    simp only [List.length_nil] at this ⊢
    omega

theorem good_remove {σ : DiskS} (hg : σ.good) (s : ByteArray) : (removeD σ s).1.good := by
  have h4 := hg.total
  unfold removeD
  split
  · exact hg
  rename_i i hi
  obtain ⟨f, hf⟩ := at?_some hi
  refine ⟨hg.clock0, fun x hx => hg.files x (List.mem_of_mem_eraseIdx hx), fun x hx => hg.sorted x (List.mem_of_mem_eraseIdx hx), fun x hx => hg.times x (List.mem_of_mem_eraseIdx hx), ?_⟩
  have h1 := ((perm_front σ.l i _ hf).flatMap_right (·.2.came)).length_eq
  simp only [List.flatMap_cons, List.length_append] at h1
  simp only
  omega

theorem good_crash {σ : DiskS} (hg : σ.good) (keep : Int) : (crashD keep σ).good := by
  refine ⟨hg.clock0, fun x hx => ?_, fun x hx => ?_, fun x hx c hc => ?_, ?_⟩
  · obtain ⟨y, hy, rfl⟩ := List.mem_map.1 hx
    have := hg.files y hy
    simp [cutAt]; omega
  · obtain ⟨y, hy, rfl⟩ := List.mem_map.1 hx
    exact .nil
  · obtain ⟨y, hy, rfl⟩ := List.mem_map.1 hx
    cases hc
  · have : (crashD keep σ).l.flatMap (·.2.came) = [] := by
      refine List.flatMap_eq_nil_iff.2 fun x hx => ?_
      obtain ⟨y, hy, rfl⟩ := List.mem_map.1 hx
      rfl
    rw [this]
    exact hg.clock0

end Go.Proofs.Ytbigkonbdnbnpaa
