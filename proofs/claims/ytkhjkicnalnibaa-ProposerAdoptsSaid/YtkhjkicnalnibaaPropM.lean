/-
  ProposerMajority, walked.
-/
import Derived.Test.YtkhjkicnalnibaaPropA
import Derived.Test.YtkhjkicnalnibaaCells2
namespace Go.Proofs.Ytkhjkicnalnibaa
set_option linter.unusedVariables false
set_option linter.unusedSimpArgs false
open Go.RowKit

/-- Behind i promises of nothing, none of them the one. -/
def mI (n : Int) (i : Nat) : PropS := ⟨n, 9, 1, 0, (List.range i).map fun (j : Nat) => (j : Int), [], false, [], []⟩
/-- Ready; A accepted slot 1. -/
def mR (n : Int) (m : Nat) (A : List Int) (b : Bool) : PropS := ⟨n, 9, 1, 2, (List.range m).map fun (j : Nat) => (j : Int), [], true, [termD 1 9], [⟨termD 1 9, A, b⟩]⟩
def mS (n : Int) (m i : Nat) : PropS := if i < m then mI n i else mR n m [] false
def mj (n : Int) : Nat := (n / 2 + 1).toNat

theorem majD_pos {n : Int} (h : 1 ≤ n) : majD n = (mj n : Nat) := by
  unfold majD mj
  rw [Int.max_eq_left (by omega)]
  omega
theorem m_step {n : Int} (h1 : 1 ≤ n) (h2 : n ≤ 5) {i : Nat} (hi : (i : Int) < n) : ∃ b, promiseD (mS n (mj n) i) i [] = (b, mS n (mj n) (i + 1)) := by
  have hm := majD_pos h1
  unfold mS
  by_cases hlt : i < mj n
  · rw [if_pos hlt]
    have hno : ¬ (srvD (mI n i).n i = false ∨ (mI n i).ready = true ∨ (i : Int) ∈ (mI n i).who) := by
      rintro (h | h | h)
      · have h' : srvD n i = false := h
        simp [srvD] at h'; omega
      · cases h
      · simp only [mI, List.mem_map, List.mem_range] at h
        obtain ⟨j, hj, e⟩ := h
        omega
    have hw : (mI n i).who ++ [(i : Int)] = (List.range (i + 1)).map fun (j : Nat) => (j : Int) := by simp [mI, List.range_succ]
    unfold promiseD
    rw [if_neg hno, hw]
    have hl : (((List.range (i + 1)).map fun (j : Nat) => (j : Int)).length : Int) = i + 1 := by simp
    rw [hl]
    have hmn : majD (mI n i).n = (mj n : Nat) := hm
    rw [hmn]
    by_cases h3 : i + 1 < mj n
    · rw [if_pos (by omega), if_pos h3]
      exact ⟨false, rfl⟩
    · rw [if_neg (by omega), if_neg h3]
      have e : i + 1 = mj n := by omega
      rw [e]
      exact ⟨true, rfl⟩
  · rw [if_neg hlt, if_neg (by omega)]
    refine ⟨false, ?_⟩
    unfold promiseD
    rw [if_pos (.inr (.inl rfl))]
theorem m_end {n : Int} (h1 : 1 ≤ n) {i : Nat} (hi : (i : Int) = n) : mS n (mj n) i = mR n (mj n) [] false := by
  unfold mS
  rw [if_neg (by unfold mj; omega)]
theorem m_ok {n : Int} (h1 : 1 ≤ n) (h2 : n ≤ 5) (i : Nat) (hi : (i : Int) ≤ n) : (mS n (mj n) i).ok i := by
  induction i with
  | zero =>
    have : mS n (mj n) 0 = ⟨n, 9, 1, 0, [], [], false, [], []⟩ := by
      unfold mS
      rw [if_pos (by unfold mj; omega)]
      rfl
    rw [this]
    exact ok_new n 9 1 (by decide) (by decide)
  | succ i ih =>
    obtain ⟨b, hb⟩ := m_step h1 h2 (i := i) (by omega)
    have := promise_ok (ih (by omega)) (i : Int) (es := []) (by simp) (by simp)
    rw [hb] at this
    exact this

/-- Where the counting is. -/
structure MajI (n : Int) (S A : List Int) (b : Bool) (told : Int) : Prop where
  nd : S.Nodup
  mem : ∀ x ∈ S, 0 ≤ x ∧ x < n
  lt : S.length < mj n → A = S ∧ b = false ∧ told = 0
  ge : mj n ≤ S.length → b = true ∧ told = 1
  la : A.length ≤ mj n
theorem MajI.zero {n : Int} (h1 : 1 ≤ n) : MajI n [] [] false 0 := ⟨by simp, by simp, fun _ => ⟨rfl, rfl, rfl⟩, fun h => by unfold mj at h; simp at h; omega, by simp⟩
theorem nodup_len : ∀ (k : Nat) (S : List Int), S.Nodup → (∀ x ∈ S, 0 ≤ x ∧ x < (k : Int)) → S.length ≤ k
  | 0, S, _, h => by
    cases S with
    | nil => simp
    | cons x r => have := h x (by simp); omega
  | k + 1, S, hn, h => by
    have ih := nodup_len k (S.erase (k : Int)) (hn.erase _) (fun x hx => by
      have h1 := h x (List.mem_of_mem_erase hx)
      have h2 : x ≠ (k : Int) := fun e => by subst e; exact (List.Nodup.mem_erase_iff hn).1 hx |>.1 rfl
      omega)
    have h3 : S.length ≤ (S.erase (k : Int)).length + 1 := by
      by_cases hm : (k : Int) ∈ S
      · rw [List.length_erase_of_mem hm]; omega
      · rw [List.erase_of_not_mem hm]; omega
    omega
theorem MajI.len {n : Int} {S A : List Int} {b : Bool} {told : Int} (h : MajI n S A b told) (h1 : 1 ≤ n) (h2 : n ≤ 5) : S.length ≤ 5 := by
  exact nodup_len 5 S h.nd (fun x hx => by have := h.mem x hx; omega)
section
variable {n : Int} {S A : List Int} {b : Bool} {told w : Int}
theorem acc_bad (m : Nat) (h : srvD n w = false) : acceptedD (mR n m A b) w 1 = (false, mR n m A b) := by
  unfold acceptedD
  rw [if_pos (show srvD (mR n m A b).n w = false from h)]
theorem acc_at (m : Nat) (h : srvD n w = true) : acceptedD (mR n m A b) w 1 = if b = true ∨ w ∈ A then (false, mR n m A b) else (decide (majD n ≤ ((A ++ [w]).length : Int)), mR n m (A ++ [w]) (decide (majD n ≤ ((A ++ [w]).length : Int)))) := by
  unfold acceptedD
  rw [if_neg (by simp [mR, h])]
  have : slotAt (mR n m A b).opn 1 = some 0 := by rfl
  rw [this]
  rfl
theorem maj_seen (hI : MajI n S A b told) (h1 : 1 ≤ n) (hv : srvD n w = true) (hs : w ∈ S) : acceptedD (mR n (mj n) A b) w 1 = (false, mR n (mj n) A b) := by
  rw [acc_at _ hv]
  by_cases hl : S.length < mj n
  · obtain ⟨rfl, _, _⟩ := hI.lt hl
    rw [if_pos (.inr hs)]
  · obtain ⟨rfl, _⟩ := hI.ge (by omega)
    rw [if_pos (.inl rfl)]
theorem maj_late (hI : MajI n S A b told) (h1 : 1 ≤ n) (hv : srvD n w = true) (hs : w ∉ S) (hl : mj n ≤ S.length) : acceptedD (mR n (mj n) A b) w 1 = (false, mR n (mj n) A b) ∧ MajI n (S ++ [w]) A b told := by
  obtain ⟨rfl, rfl⟩ := hI.ge hl
  simp only [srvD, Bool.and_eq_true, decide_eq_true_eq] at hv
  refine ⟨by rw [acc_at _ (by simp [srvD, hv]), if_pos (.inl rfl)], ?_, ?_, ?_, ?_, hI.la⟩
  · exact List.nodup_append.2 ⟨hI.nd, by simp, fun a ha c hc e => by simp at hc; subst hc; subst e; exact hs ha⟩
  · intro x hx
    rcases List.mem_append.1 hx with h | h
    · exact hI.mem x h
    · simp at h; subst h; omega
  · intro h; simp at h; omega
  · intro _; exact ⟨rfl, rfl⟩
theorem maj_new (hI : MajI n S A b told) (h1 : 1 ≤ n) (hv : srvD n w = true) (hs : w ∉ S) (hl : S.length < mj n) : acceptedD (mR n (mj n) A b) w 1 = (decide (S.length + 1 = mj n), mR n (mj n) (S ++ [w]) (decide (S.length + 1 = mj n))) ∧
    MajI n (S ++ [w]) (S ++ [w]) (decide (S.length + 1 = mj n)) (if S.length + 1 = mj n then 1 else 0) ∧ told = 0 := by
  obtain ⟨rfl, rfl, rfl⟩ := hI.lt hl
  have hd : decide (majD n ≤ ((A ++ [w]).length : Int)) = decide (A.length + 1 = mj n) := by
    rw [majD_pos h1]
    simp only [List.length_append, List.length_cons, List.length_nil, decide_eq_decide]
    omega
  have hv' := hv
  simp only [srvD, Bool.and_eq_true, decide_eq_true_eq] at hv'
  refine ⟨by rw [acc_at _ hv, if_neg (by rintro (h | h); cases h; exact hs h), hd], ⟨?_, ?_, ?_, ?_, by simp; omega⟩, rfl⟩
  · exact List.nodup_append.2 ⟨hI.nd, by simp, fun a ha c hc e => by simp at hc; subst hc; subst e; exact hs ha⟩
  · intro x hx
    rcases List.mem_append.1 hx with h | h
    · exact hI.mem x h
    · simp at h; subst h; omega
  · intro h
    simp at h
    exact ⟨rfl, by simp; omega, by rw [if_neg (by omega)]⟩
  · intro h
    simp at h
    exact ⟨by simp; omega, by rw [if_pos (by omega)]⟩
end
def seenC (S : List Int) : List Value := (List.range 5).map fun (j : Nat) => .bool (decide ((j : Int) ∈ S))
theorem seenC_get (S : List Int) {q : Nat} (h : q < 5) : (seenC S)[q]? = some (.bool (decide ((q : Int) ∈ S))) := by
  unfold seenC
  rw [List.getElem?_map, List.getElem?_range h]; rfl
theorem seenC_set (S : List Int) {q : Nat} (h : q < 5) : (seenC S).set q (.bool true) = seenC (S ++ [(q : Int)]) := by
  apply List.ext_getElem?
  intro j
  by_cases hj : j < 5
  · rw [seenC_get _ hj]
    by_cases e : q = j
    · subst e; rw [List.getElem?_set_self (by simp [seenC]; omega)]; simp
    · rw [List.getElem?_set_ne e, seenC_get _ hj]
      have : (j : Int) ≠ (q : Int) := by omega
      simp [this]
  · rw [List.getElem?_eq_none (by simp [seenC]; omega), List.getElem?_eq_none (by simp [seenC]; omega)]

section
variable {w0 w : World} {R : List Hp} {p : Nat}
theorem pm_c (n : Int) (h1 : 1 ≤ n) (h2 : n ≤ 5) (i : Nat) (hi : (i : Int) < n) (h : PropSt w0 w p (mS n (mj n) i) R) : Calls Try.prog 9 #[.pointer (some ⟨p, 0, none⟩), .int .i64 i, .slice none 0 0] w fun e w' => (∃ b, e = .returned (.bool b)) ∧ PropSt w0 w' p (mS n (mj n) (i + 1)) R := by
  obtain ⟨b, hb⟩ := m_step h1 h2 hi
  have hn : (mS n (mj n) i).n = n := by unfold mS; split <;> rfl
  exact (kP h (m_ok h1 h2 i (by omega)) (by omega) (es := []) rfl (fun w _ => Ents.nil w _) (by rw [hn]; omega) (by decide) (by simp) hb).mono fun e w' h => ⟨⟨b, h.1⟩, h.2⟩
theorem pa_c {n : Int} {m : Nat} {A : List Int} {b c : Bool} {σ' : PropS} {x : Int} (h : PropSt w0 w p (mR n m A b) R) (hn : n ≤ 1000000000000) (hA : A.length ≤ 100000) (e : acceptedD (mR n m A b) x 1 = (c, σ')) : Calls Try.prog 13 #[.pointer (some ⟨p, 0, none⟩), .int .i64 x, .int .i64 1] w fun e w' => e = .returned (.bool c) ∧ PropSt w0 w' p σ' R :=
  kA h hn (by intro y hy; simp [mR] at hy; subst hy; simp only; omega) e
end

theorem mq_c {w0 w : World} {H : List Hp} (hS : St w0 w H) (n : Int) (h1 : 1 ≤ n) (h2 : n ≤ 5) : Calls Try.prog 10 #[.int .i64 n] w fun e w' => e = .returned (.int .i64 (majD n)) ∧ St w0 w' H := rmaj_c hS n (by omega)
theorem mm_c {w0 w : World} {H : List Hp} (hS : St w0 w H) (n : Int) (h1 : 1 ≤ n) (h2 : n ≤ 5) {m : Int} (hm : majD n = m) : Calls Try.prog 10 #[.int .i64 n] w fun e w' => e = .returned (.int .i64 m) ∧ St w0 w' H := by
  subst hm
  exact rmaj_c hS n (by omega)

set_option maxRecDepth 100000 in
set_option maxHeartbeats 8000000 in
theorem maj_v (w0 : World) (n0 : Int) (l : List Int) (ao : Option Addr) (cap : Nat) (hl : l.length ≤ 1000000000000000)
    (hr : l = [] ∨ ∃ b off, ao = some ⟨b, off, none⟩ ∧ ∀ j x, l[j]? = some x → w0.cell? ⟨b, off + j, none⟩ = some (.int .i64 x)) :
    Calls Try.prog 4 #[.int .i64 n0, .slice ao l.length cap] w0 fun e w' => e = .returned (.bool true) ∧ St w0 w' [] := by
  have hS := St.init w0
  have HR := Lib.hid hr
  clear hr
  obtain ⟨n, hn⟩ : ∃ n, max 1 (min n0 5) = n := ⟨_, rfl⟩
  have h1 : 1 ≤ n := by omega
  have h2 : n ≤ 5 := by omega
  have HN := Lib.hid hn
  go_enter Try.func4, Try.ntmps4
  go_upto_block 0 with (first | ((with_reducible show WGd ..); (with_reducible apply wpA_guard); exact rfl; skip) | (go_at_call 8; refine (pnew_c w0 _ _ hS n 9 1).mono ?_; rintro _ _ ⟨g, rfl, hL⟩; clear hS) | ((with_reducible show WLd ..); (with_reducible apply wpA_load); exact rfl; (first | ((with_reducible apply St.cellI hS); (focus repeat constructor); exact rfl) | assumption); kernel_rfl) | ((with_reducible show WSt ..); (with_reducible apply wpA_store1I hS); exact rfl; (focus repeat constructor); exact rfl; exact rfl; exact rfl; exact rfl; kernel_rfl; intro wx hS; (try simp only [Act.put, List.setIfInBounds_toArray, List.set_cons_zero, List.set_cons_succ]); (try simp only [Act.eval, Array.getD_eq_getD_getElem?, List.getElem?_toArray, List.getElem?_cons_succ, List.getElem?_cons_zero, Option.getD_some, List.set_cons_succ, List.set_cons_zero, Value.cells, List.toList_toArray] at hS)) | ((with_reducible show WBx ..); (with_reducible apply wpA_box hS); exact rfl; exact rfl; intro _ wx hS; (try simp only [Act.put, List.setIfInBounds_toArray, List.set_cons_zero, List.set_cons_succ]); (try simp only [Act.eval, Array.getD_eq_getD_getElem?, List.getElem?_toArray, List.getElem?_cons_succ, List.getElem?_cons_zero, Option.getD_some, List.set_cons_succ, List.set_cons_zero, Value.cells, List.toList_toArray] at hS)))
  have e0 : (⟨n, 9, 1, 0, [], [], false, [], []⟩ : PropS) = mS n (mj n) 0 := by
    unfold mS
    rw [if_pos (by unfold mj; omega)]
    rfl
  rw [e0] at hL
  clear e0
  go_cut [] (fun wr => PropSt w0 wr g (mR n (mj n) [] false) [])
  case first =>
    go_wp2_with (first | ((with_reducible show WGd ..); (with_reducible apply wpA_guard); exact rfl; skip) | ((with_reducible show WLd ..); (with_reducible apply wpA_load); exact rfl; (first | ((with_reducible apply St.cellI hS); (focus repeat constructor); exact rfl) | assumption); kernel_rfl) | ((with_reducible show WSt ..); (with_reducible apply wpA_store1I hS); exact rfl; (focus repeat constructor); exact rfl; exact rfl; exact rfl; exact rfl; kernel_rfl; intro wx hS; (try simp only [Act.put, List.setIfInBounds_toArray, List.set_cons_zero, List.set_cons_succ]); (try simp only [Act.eval, Array.getD_eq_getD_getElem?, List.getElem?_toArray, List.getElem?_cons_succ, List.getElem?_cons_zero, Option.getD_some, List.set_cons_succ, List.set_cons_zero, Value.cells, List.toList_toArray] at hS)) | ((with_reducible show WBx ..); (with_reducible apply wpA_box hS); exact rfl; exact rfl; intro _ wx hS; (try simp only [Act.put, List.setIfInBounds_toArray, List.set_cons_zero, List.set_cons_succ]); (try simp only [Act.eval, Array.getD_eq_getD_getElem?, List.getElem?_toArray, List.getElem?_cons_succ, List.getElem?_cons_zero, Option.getD_some, List.set_cons_succ, List.set_cons_zero, Value.cells, List.toList_toArray] at hS)))
    go_loopw [6] (fun c wr => ∃ i : Nat, (i : Int) ≤ n ∧ c = .int .i64 i ∧ PropSt w0 wr g (mS n (mj n) i) []) (fun c _ => (n - intOf c).toNat)
    case atStart => exact ⟨0, by omega, rfl, hL⟩
    case round =>
      clear hL
      obtain ⟨i, hi, rfl, hL⟩ := hrel
      by_cases hlt : (i : Int) < n
      · go_wp2_with (first | ((with_reducible show WGd ..); (with_reducible apply wpA_guard); exact rfl; skip) | (go_at_call 9; with_reducible refine (pm_c n h1 h2 i hlt hL).mono ?_; rintro _ _ ⟨⟨b, rfl⟩, hL⟩) | ((with_reducible show WLd ..); (with_reducible apply wpA_load); exact rfl; (first | ((with_reducible apply St.cellI hS); (focus repeat constructor); exact rfl) | assumption); kernel_rfl) | ((with_reducible show WSt ..); (with_reducible apply wpA_store1I hS); exact rfl; (focus repeat constructor); exact rfl; exact rfl; exact rfl; exact rfl; kernel_rfl; intro wx hS; (try simp only [Act.put, List.setIfInBounds_toArray, List.set_cons_zero, List.set_cons_succ]); (try simp only [Act.eval, Array.getD_eq_getD_getElem?, List.getElem?_toArray, List.getElem?_cons_succ, List.getElem?_cons_zero, Option.getD_some, List.set_cons_succ, List.set_cons_zero, Value.cells, List.toList_toArray] at hS)) | ((with_reducible show WBx ..); (with_reducible apply wpA_box hS); exact rfl; exact rfl; intro _ wx hS; (try simp only [Act.put, List.setIfInBounds_toArray, List.set_cons_zero, List.set_cons_succ]); (try simp only [Act.eval, Array.getD_eq_getD_getElem?, List.getElem?_toArray, List.getElem?_cons_succ, List.getElem?_cons_zero, Option.getD_some, List.set_cons_succ, List.set_cons_zero, Value.cells, List.toList_toArray] at hS)))
        go_roundw
        case rel => exact ⟨i + 1, by omega, by go_num, hL⟩
        case measure => simp [intOf]; omega
      · have e : (i : Int) = n := by omega
        rw [m_end h1 e] at hL
        have HE := Lib.hid e
        clear e
        go_wp2_with (first | ((with_reducible show WGd ..); (with_reducible apply wpA_guard); exact rfl; skip) | ((with_reducible show WLd ..); (with_reducible apply wpA_load); exact rfl; (first | ((with_reducible apply St.cellI hS); (focus repeat constructor); exact rfl) | assumption); kernel_rfl) | ((with_reducible show WSt ..); (with_reducible apply wpA_store1I hS); exact rfl; (focus repeat constructor); exact rfl; exact rfl; exact rfl; exact rfl; kernel_rfl; intro wx hS; (try simp only [Act.put, List.setIfInBounds_toArray, List.set_cons_zero, List.set_cons_succ]); (try simp only [Act.eval, Array.getD_eq_getD_getElem?, List.getElem?_toArray, List.getElem?_cons_succ, List.getElem?_cons_zero, Option.getD_some, List.set_cons_succ, List.set_cons_zero, Value.cells, List.toList_toArray] at hS)) | ((with_reducible show WBx ..); (with_reducible apply wpA_box hS); exact rfl; exact rfl; intro _ wx hS; (try simp only [Act.put, List.setIfInBounds_toArray, List.set_cons_zero, List.set_cons_succ]); (try simp only [Act.eval, Array.getD_eq_getD_getElem?, List.getElem?_toArray, List.getElem?_cons_succ, List.getElem?_cons_zero, Option.getD_some, List.set_cons_succ, List.set_cons_zero, Value.cells, List.toList_toArray] at hS)))
        go_meet
        exact hL
  case rest =>
    clear hL
    have hL := hcut
    clear hcut
    obtain ⟨D_, hS, hfin⟩ := PropSt.opn (A := []) hL
    simp only [List.nil_append] at hS
    have HF := Lib.hid hfin
    clear hfin hL
    go_wp2_with (first | ((with_reducible show WGd ..); (with_reducible apply wpA_guard); exact rfl; skip) | ((first | ((with_reducible show WAl ..); (with_reducible apply wpA_alloc (t := 36) hS (v := .agg #[.bool false, .bool false, .bool false, .bool false, .bool false])); kernel_rfl; exact rfl; intro gs wx hS) | ((with_reducible show WBx ..); (with_reducible apply wpA_box hS); exact rfl; exact rfl; intro _ wx hS)); (try simp only [Act.put, List.setIfInBounds_toArray, List.set_cons_zero, List.set_cons_succ]); (try simp only [Act.eval, Array.getD_eq_getD_getElem?, List.getElem?_toArray, List.getElem?_cons_succ, List.getElem?_cons_zero, Option.getD_some, List.set_cons_succ, List.set_cons_zero, Value.cells, List.toList_toArray] at hS)) | ((with_reducible show WLd ..); (with_reducible apply wpA_load); exact rfl; (first | ((with_reducible apply St.cellI hS); (focus repeat constructor); exact rfl) | assumption); kernel_rfl) | ((with_reducible show WSt ..); (with_reducible apply wpA_store1I hS); exact rfl; (focus repeat constructor); exact rfl; exact rfl; exact rfl; exact rfl; kernel_rfl; intro wx hS; (try simp only [Act.put, List.setIfInBounds_toArray, List.set_cons_zero, List.set_cons_succ]); (try simp only [Act.eval, Array.getD_eq_getD_getElem?, List.getElem?_toArray, List.getElem?_cons_succ, List.getElem?_cons_zero, Option.getD_some, List.set_cons_succ, List.set_cons_zero, Value.cells, List.toList_toArray] at hS)))
    have hL := HF.out _ [_] hS
    clear hS HF
    have hI0 := MajI.zero h1
    go_loopw [10, 8, 9] (fun c cv tv wr => ∃ (i : Nat) (S A : List Int) (b : Bool) (told : Int), i ≤ min l.length 100 ∧ c = .int .i64 i ∧ cv = .int .i64 S.length ∧ tv = .int .i64 told ∧ Hid (MajI n S A b told) ∧ PropSt w0 wr g (mR n (mj n) A b) [.cells gs (seenC S) 36]) (fun c _ _ _ => min l.length 100 - (intOf c).toNat)
    case atStart => exact ⟨0, [], [], false, 0, Nat.zero_le _, rfl, rfl, rfl, Lib.hid hI0, hL⟩
    case round =>
      clear hL hI0
      obtain ⟨i, S, A, b, told, hi, rfl, rfl, rfl, HI, hL⟩ := hrel
      have hA := HI.out.la
      have hmj : mj n ≤ 3 := by unfold mj; omega
      have hSl := HI.out.len h1 h2
      by_cases h3 : i < l.length
      · by_cases h4 : i < 100
        · rcases HR.out with h | ⟨b0, off, rfl, hcell⟩
          · rw [h] at h3; simp at h3
          obtain ⟨x, hx⟩ : ∃ x, l[i]? = some x := ⟨_, List.getElem?_eq_getElem h3⟩
          have hld := hL.rest.oldCell (hcell i x hx)
          have HLT := Lib.hid (show i + 1 ≤ min l.length 100 by omega)
          obtain ⟨D_, hS, hfin⟩ := PropSt.opn (A := [_]) hL
          simp only [List.cons_append, List.nil_append] at hS
          have HF := Lib.hid hfin
          clear hcell hx hi hfin hL
          by_cases v1 : 0 ≤ x
          · have hv1 : decide (0 ≤ x) = true := by simpa using v1
            by_cases v2 : x < n
            · have hv2 : decide (x < n) = true := by simpa using v2
              have hv : srvD n x = true := by simp [srvD, v1, v2]
              obtain ⟨q, rfl⟩ : ∃ q : Nat, x = (q : Int) := ⟨x.toNat, by omega⟩
              have hq : q < 5 := by omega
              by_cases hs : (q : Int) ∈ S
              · have HC := Lib.hid (show (seenC S)[q]? = some (.bool true) by rw [seenC_get S hq, decide_eq_true hs])
                have HA := Lib.hid (maj_seen HI.out h1 hv hs)
                clear hv hs
                go_wp2_with (first | ((with_reducible show WGd ..); (with_reducible apply wpA_guard); exact rfl; skip) | ((with_reducible show WLd ..); (with_reducible apply wpA_load); exact rfl; exact hS.cell 0 rfl q HC.out; kernel_rfl) | (go_at_call 13; skip; have hL := HF.out _ [_] hS; clear hS HF; (with_reducible refine (pa_c hL (by omega) (by omega) HA.out).mono ?_); rintro _ _ ⟨rfl, hL⟩; (obtain ⟨D_, hS, hfin⟩ := PropSt.opn (A := [_]) hL); have HF := Lib.hid hfin; clear hfin hL; (try simp only [List.cons_append, List.nil_append] at hS); skip) | ((with_reducible show WLd ..); (with_reducible apply wpA_load); exact rfl; (first | ((with_reducible apply St.cellI hS); (focus repeat constructor); exact rfl) | assumption); kernel_rfl) | ((with_reducible show WSt ..); (with_reducible apply wpA_store1I hS); exact rfl; (focus repeat constructor); exact rfl; exact rfl; exact rfl; exact rfl; kernel_rfl; intro wx hS; (try simp only [Act.put, List.setIfInBounds_toArray, List.set_cons_zero, List.set_cons_succ]); (try simp only [Act.eval, Array.getD_eq_getD_getElem?, List.getElem?_toArray, List.getElem?_cons_succ, List.getElem?_cons_zero, Option.getD_some, List.set_cons_succ, List.set_cons_zero, Value.cells, List.toList_toArray] at hS)) | ((with_reducible show WBx ..); (with_reducible apply wpA_box hS); exact rfl; exact rfl; intro _ wx hS; (try simp only [Act.put, List.setIfInBounds_toArray, List.set_cons_zero, List.set_cons_succ]); (try simp only [Act.eval, Array.getD_eq_getD_getElem?, List.getElem?_toArray, List.getElem?_cons_succ, List.getElem?_cons_zero, Option.getD_some, List.set_cons_succ, List.set_cons_zero, Value.cells, List.toList_toArray] at hS)))
                go_roundw
                case rel => exact ⟨i + 1, S, A, b, told, HLT.out, by go_num, rfl, rfl, HI, HF.out _ [_] hS⟩
                case measure => have := HLT.out; simp [intOf]; omega
              · have HC := Lib.hid (show (seenC S)[q]? = some (.bool false) by rw [seenC_get S hq, decide_eq_false hs])
                have HC2 := Lib.hid (seenC_set S hq)
                have hfit : ((seenC S)[q]?).isSome = true := by rw [seenC_get S hq]; rfl
                by_cases hlt : S.length < mj n
                · obtain ⟨a1, a2, rfl⟩ := maj_new HI.out h1 hv hs hlt
                  have HMJ := Lib.hid (majD_pos h1)
                  by_cases he : S.length + 1 = mj n
                  · rw [decide_eq_true he] at a1 a2
                    rw [if_pos he] at a2
                    have HA := Lib.hid a1
                    have HI2 := Lib.hid a2
                    have hmm : majD n = (S.length : Int) + 1 := by rw [majD_pos h1]; omega
                    clear hv hs a1 a2 hlt he
                    go_wp2_with (first | ((with_reducible show WGd ..); (with_reducible apply wpA_guard); exact rfl; skip) | ((with_reducible show WLd ..); (with_reducible apply wpA_load); exact rfl; exact hS.cell 0 rfl q HC.out; kernel_rfl) | ((with_reducible show WSt ..); (with_reducible apply wpA_store1 hS 0); exact rfl; exact rfl; exact rfl; exact rfl; exact rfl; exact hfit; kernel_rfl; intro wx hS; (try simp only [Act.put, List.setIfInBounds_toArray, List.set_cons_zero, List.set_cons_succ]); (try simp only [Act.eval, Array.getD_eq_getD_getElem?, List.getElem?_toArray, List.getElem?_cons_succ, List.getElem?_cons_zero, Option.getD_some, List.set_cons_succ, List.set_cons_zero, Value.cells, List.toList_toArray] at hS); rw [HC2.out] at hS) | (go_at_call 13; skip; have hL := HF.out _ [_] hS; clear hS HF; (with_reducible refine (pa_c hL (by omega) (by omega) HA.out).mono ?_); rintro _ _ ⟨rfl, hL⟩; (obtain ⟨D_, hS, hfin⟩ := PropSt.opn (A := [_]) hL); have HF := Lib.hid hfin; clear hfin hL; (try simp only [List.cons_append, List.nil_append] at hS); skip) | (go_at_call 10; with_reducible refine (mm_c hS n h1 h2 hmm).mono ?_; rintro _ _ ⟨rfl, hS⟩) | ((with_reducible show WLd ..); (with_reducible apply wpA_load); exact rfl; (first | ((with_reducible apply St.cellI hS); (focus repeat constructor); exact rfl) | assumption); kernel_rfl) | ((with_reducible show WSt ..); (with_reducible apply wpA_store1I hS); exact rfl; (focus repeat constructor); exact rfl; exact rfl; exact rfl; exact rfl; kernel_rfl; intro wx hS; (try simp only [Act.put, List.setIfInBounds_toArray, List.set_cons_zero, List.set_cons_succ]); (try simp only [Act.eval, Array.getD_eq_getD_getElem?, List.getElem?_toArray, List.getElem?_cons_succ, List.getElem?_cons_zero, Option.getD_some, List.set_cons_succ, List.set_cons_zero, Value.cells, List.toList_toArray] at hS)) | ((with_reducible show WBx ..); (with_reducible apply wpA_box hS); exact rfl; exact rfl; intro _ wx hS; (try simp only [Act.put, List.setIfInBounds_toArray, List.set_cons_zero, List.set_cons_succ]); (try simp only [Act.eval, Array.getD_eq_getD_getElem?, List.getElem?_toArray, List.getElem?_cons_succ, List.getElem?_cons_zero, Option.getD_some, List.set_cons_succ, List.set_cons_zero, Value.cells, List.toList_toArray] at hS)))
                    go_roundw
                    case rel => exact ⟨i + 1, S ++ [(q : Int)], S ++ [(q : Int)], true, 1, HLT.out, by go_num, by simp, rfl, HI2, HF.out _ [_] hS⟩
                    case measure => have := HLT.out; simp [intOf]; omega
                  · rw [decide_eq_false he] at a1 a2
                    rw [if_neg he] at a2
                    have HA := Lib.hid a1
                    have HI2 := Lib.hid a2
                    clear hv hs a1 a2 hlt he
                    go_wp2_with (first | ((with_reducible show WGd ..); (with_reducible apply wpA_guard); exact rfl; skip) | ((with_reducible show WLd ..); (with_reducible apply wpA_load); exact rfl; exact hS.cell 0 rfl q HC.out; kernel_rfl) | ((with_reducible show WSt ..); (with_reducible apply wpA_store1 hS 0); exact rfl; exact rfl; exact rfl; exact rfl; exact rfl; exact hfit; kernel_rfl; intro wx hS; (try simp only [Act.put, List.setIfInBounds_toArray, List.set_cons_zero, List.set_cons_succ]); (try simp only [Act.eval, Array.getD_eq_getD_getElem?, List.getElem?_toArray, List.getElem?_cons_succ, List.getElem?_cons_zero, Option.getD_some, List.set_cons_succ, List.set_cons_zero, Value.cells, List.toList_toArray] at hS); rw [HC2.out] at hS) | (go_at_call 13; skip; have hL := HF.out _ [_] hS; clear hS HF; (with_reducible refine (pa_c hL (by omega) (by omega) HA.out).mono ?_); rintro _ _ ⟨rfl, hL⟩; (obtain ⟨D_, hS, hfin⟩ := PropSt.opn (A := [_]) hL); have HF := Lib.hid hfin; clear hfin hL; (try simp only [List.cons_append, List.nil_append] at hS); skip) | ((with_reducible show WLd ..); (with_reducible apply wpA_load); exact rfl; (first | ((with_reducible apply St.cellI hS); (focus repeat constructor); exact rfl) | assumption); kernel_rfl) | ((with_reducible show WSt ..); (with_reducible apply wpA_store1I hS); exact rfl; (focus repeat constructor); exact rfl; exact rfl; exact rfl; exact rfl; kernel_rfl; intro wx hS; (try simp only [Act.put, List.setIfInBounds_toArray, List.set_cons_zero, List.set_cons_succ]); (try simp only [Act.eval, Array.getD_eq_getD_getElem?, List.getElem?_toArray, List.getElem?_cons_succ, List.getElem?_cons_zero, Option.getD_some, List.set_cons_succ, List.set_cons_zero, Value.cells, List.toList_toArray] at hS)) | ((with_reducible show WBx ..); (with_reducible apply wpA_box hS); exact rfl; exact rfl; intro _ wx hS; (try simp only [Act.put, List.setIfInBounds_toArray, List.set_cons_zero, List.set_cons_succ]); (try simp only [Act.eval, Array.getD_eq_getD_getElem?, List.getElem?_toArray, List.getElem?_cons_succ, List.getElem?_cons_zero, Option.getD_some, List.set_cons_succ, List.set_cons_zero, Value.cells, List.toList_toArray] at hS)))
                    go_roundw
                    case rel => exact ⟨i + 1, S ++ [(q : Int)], S ++ [(q : Int)], false, 0, HLT.out, by go_num, by simp, rfl, HI2, HF.out _ [_] hS⟩
                    case measure => have := HLT.out; simp [intOf]; omega
                · obtain ⟨a1, a2⟩ := maj_late HI.out h1 hv hs (by omega)
                  have HA := Lib.hid a1
                  have HI2 := Lib.hid a2
                  clear hv hs a1 a2 hlt
                  go_wp2_with (first | ((with_reducible show WGd ..); (with_reducible apply wpA_guard); exact rfl; skip) | ((with_reducible show WLd ..); (with_reducible apply wpA_load); exact rfl; exact hS.cell 0 rfl q HC.out; kernel_rfl) | ((with_reducible show WSt ..); (with_reducible apply wpA_store1 hS 0); exact rfl; exact rfl; exact rfl; exact rfl; exact rfl; exact hfit; kernel_rfl; intro wx hS; (try simp only [Act.put, List.setIfInBounds_toArray, List.set_cons_zero, List.set_cons_succ]); (try simp only [Act.eval, Array.getD_eq_getD_getElem?, List.getElem?_toArray, List.getElem?_cons_succ, List.getElem?_cons_zero, Option.getD_some, List.set_cons_succ, List.set_cons_zero, Value.cells, List.toList_toArray] at hS); rw [HC2.out] at hS) | (go_at_call 13; skip; have hL := HF.out _ [_] hS; clear hS HF; (with_reducible refine (pa_c hL (by omega) (by omega) HA.out).mono ?_); rintro _ _ ⟨rfl, hL⟩; (obtain ⟨D_, hS, hfin⟩ := PropSt.opn (A := [_]) hL); have HF := Lib.hid hfin; clear hfin hL; (try simp only [List.cons_append, List.nil_append] at hS); skip) | ((with_reducible show WLd ..); (with_reducible apply wpA_load); exact rfl; (first | ((with_reducible apply St.cellI hS); (focus repeat constructor); exact rfl) | assumption); kernel_rfl) | ((with_reducible show WSt ..); (with_reducible apply wpA_store1I hS); exact rfl; (focus repeat constructor); exact rfl; exact rfl; exact rfl; exact rfl; kernel_rfl; intro wx hS; (try simp only [Act.put, List.setIfInBounds_toArray, List.set_cons_zero, List.set_cons_succ]); (try simp only [Act.eval, Array.getD_eq_getD_getElem?, List.getElem?_toArray, List.getElem?_cons_succ, List.getElem?_cons_zero, Option.getD_some, List.set_cons_succ, List.set_cons_zero, Value.cells, List.toList_toArray] at hS)) | ((with_reducible show WBx ..); (with_reducible apply wpA_box hS); exact rfl; exact rfl; intro _ wx hS; (try simp only [Act.put, List.setIfInBounds_toArray, List.set_cons_zero, List.set_cons_succ]); (try simp only [Act.eval, Array.getD_eq_getD_getElem?, List.getElem?_toArray, List.getElem?_cons_succ, List.getElem?_cons_zero, Option.getD_some, List.set_cons_succ, List.set_cons_zero, Value.cells, List.toList_toArray] at hS)))
                  go_roundw
                  case rel => exact ⟨i + 1, S ++ [(q : Int)], A, b, told, HLT.out, by go_num, by simp, rfl, HI2, HF.out _ [_] hS⟩
                  case measure => have := HLT.out; simp [intOf]; omega
            · have hv2 : decide (x < n) = false := by simpa using v2
              have HA := Lib.hid (acc_bad (b := b) (A := A) (mj n) (show srvD n x = false by simp [srvD]; omega))
              go_wp2_with (first | ((with_reducible show WGd ..); (with_reducible apply wpA_guard); exact rfl; skip) | (go_at_call 13; skip; have hL := HF.out _ [_] hS; clear hS HF; (with_reducible refine (pa_c hL (by omega) (by omega) HA.out).mono ?_); rintro _ _ ⟨rfl, hL⟩; (obtain ⟨D_, hS, hfin⟩ := PropSt.opn (A := [_]) hL); have HF := Lib.hid hfin; clear hfin hL; (try simp only [List.cons_append, List.nil_append] at hS); skip) | ((with_reducible show WLd ..); (with_reducible apply wpA_load); exact rfl; (first | ((with_reducible apply St.cellI hS); (focus repeat constructor); exact rfl) | assumption); kernel_rfl) | ((with_reducible show WSt ..); (with_reducible apply wpA_store1I hS); exact rfl; (focus repeat constructor); exact rfl; exact rfl; exact rfl; exact rfl; kernel_rfl; intro wx hS; (try simp only [Act.put, List.setIfInBounds_toArray, List.set_cons_zero, List.set_cons_succ]); (try simp only [Act.eval, Array.getD_eq_getD_getElem?, List.getElem?_toArray, List.getElem?_cons_succ, List.getElem?_cons_zero, Option.getD_some, List.set_cons_succ, List.set_cons_zero, Value.cells, List.toList_toArray] at hS)) | ((with_reducible show WBx ..); (with_reducible apply wpA_box hS); exact rfl; exact rfl; intro _ wx hS; (try simp only [Act.put, List.setIfInBounds_toArray, List.set_cons_zero, List.set_cons_succ]); (try simp only [Act.eval, Array.getD_eq_getD_getElem?, List.getElem?_toArray, List.getElem?_cons_succ, List.getElem?_cons_zero, Option.getD_some, List.set_cons_succ, List.set_cons_zero, Value.cells, List.toList_toArray] at hS)))
              go_roundw
              case rel => exact ⟨i + 1, S, A, b, told, HLT.out, by go_num, rfl, rfl, HI, HF.out _ [_] hS⟩
              case measure => have := HLT.out; simp [intOf]; omega
          · have hv1 : decide (0 ≤ x) = false := by simpa using v1
            have HA := Lib.hid (acc_bad (b := b) (A := A) (mj n) (show srvD n x = false by simp [srvD]; omega))
            go_wp2_with (first | ((with_reducible show WGd ..); (with_reducible apply wpA_guard); exact rfl; skip) | (go_at_call 13; skip; have hL := HF.out _ [_] hS; clear hS HF; (with_reducible refine (pa_c hL (by omega) (by omega) HA.out).mono ?_); rintro _ _ ⟨rfl, hL⟩; (obtain ⟨D_, hS, hfin⟩ := PropSt.opn (A := [_]) hL); have HF := Lib.hid hfin; clear hfin hL; (try simp only [List.cons_append, List.nil_append] at hS); skip) | ((with_reducible show WLd ..); (with_reducible apply wpA_load); exact rfl; (first | ((with_reducible apply St.cellI hS); (focus repeat constructor); exact rfl) | assumption); kernel_rfl) | ((with_reducible show WSt ..); (with_reducible apply wpA_store1I hS); exact rfl; (focus repeat constructor); exact rfl; exact rfl; exact rfl; exact rfl; kernel_rfl; intro wx hS; (try simp only [Act.put, List.setIfInBounds_toArray, List.set_cons_zero, List.set_cons_succ]); (try simp only [Act.eval, Array.getD_eq_getD_getElem?, List.getElem?_toArray, List.getElem?_cons_succ, List.getElem?_cons_zero, Option.getD_some, List.set_cons_succ, List.set_cons_zero, Value.cells, List.toList_toArray] at hS)) | ((with_reducible show WBx ..); (with_reducible apply wpA_box hS); exact rfl; exact rfl; intro _ wx hS; (try simp only [Act.put, List.setIfInBounds_toArray, List.set_cons_zero, List.set_cons_succ]); (try simp only [Act.eval, Array.getD_eq_getD_getElem?, List.getElem?_toArray, List.getElem?_cons_succ, List.getElem?_cons_zero, Option.getD_some, List.set_cons_succ, List.set_cons_zero, Value.cells, List.toList_toArray] at hS)))
            go_roundw
            case rel => exact ⟨i + 1, S, A, b, told, HLT.out, by go_num, rfl, rfl, HI, HF.out _ [_] hS⟩
            case measure => have := HLT.out; simp [intOf]; omega
        · have hS := hL.rest
          by_cases hlt : S.length < mj n
          · obtain ⟨_, _, rfl⟩ := HI.out.lt hlt
            have hmm : decide (majD n ≤ (S.length : Int)) = false := by rw [majD_pos h1]; simp; omega
            have HHI := Lib.hid HI
            go_wp2_with (first | ((with_reducible show WGd ..); (with_reducible apply wpA_guard); exact rfl; skip) | (go_at_call 10; with_reducible refine (mq_c hS n h1 h2).mono ?_; rintro _ _ ⟨rfl, hS⟩) | (go_at_call 7; with_reducible refine (awake_c w0 _ _ hS).mono ?_; rintro _ _ ⟨rfl, hS⟩) | ((with_reducible show WLd ..); (with_reducible apply wpA_load); exact rfl; (first | ((with_reducible apply St.cellI hS); (focus repeat constructor); exact rfl) | assumption); kernel_rfl) | ((with_reducible show WSt ..); (with_reducible apply wpA_store1I hS); exact rfl; (focus repeat constructor); exact rfl; exact rfl; exact rfl; exact rfl; kernel_rfl; intro wx hS; (try simp only [Act.put, List.setIfInBounds_toArray, List.set_cons_zero, List.set_cons_succ]); (try simp only [Act.eval, Array.getD_eq_getD_getElem?, List.getElem?_toArray, List.getElem?_cons_succ, List.getElem?_cons_zero, Option.getD_some, List.set_cons_succ, List.set_cons_zero, Value.cells, List.toList_toArray] at hS)) | ((with_reducible show WBx ..); (with_reducible apply wpA_box hS); exact rfl; exact rfl; intro _ wx hS; (try simp only [Act.put, List.setIfInBounds_toArray, List.set_cons_zero, List.set_cons_succ]); (try simp only [Act.eval, Array.getD_eq_getD_getElem?, List.getElem?_toArray, List.getElem?_cons_succ, List.getElem?_cons_zero, Option.getD_some, List.set_cons_succ, List.set_cons_zero, Value.cells, List.toList_toArray] at hS)))
            go_ret
            exact ⟨rfl, hS.tail⟩
          · obtain ⟨_, rfl⟩ := HI.out.ge (by omega)
            have hmm : decide (majD n ≤ (S.length : Int)) = true := by rw [majD_pos h1]; simp; omega
            have HHI := Lib.hid HI
            go_wp2_with (first | ((with_reducible show WGd ..); (with_reducible apply wpA_guard); exact rfl; skip) | (go_at_call 10; with_reducible refine (mq_c hS n h1 h2).mono ?_; rintro _ _ ⟨rfl, hS⟩) | (go_at_call 7; with_reducible refine (awake_c w0 _ _ hS).mono ?_; rintro _ _ ⟨rfl, hS⟩) | ((with_reducible show WLd ..); (with_reducible apply wpA_load); exact rfl; (first | ((with_reducible apply St.cellI hS); (focus repeat constructor); exact rfl) | assumption); kernel_rfl) | ((with_reducible show WSt ..); (with_reducible apply wpA_store1I hS); exact rfl; (focus repeat constructor); exact rfl; exact rfl; exact rfl; exact rfl; kernel_rfl; intro wx hS; (try simp only [Act.put, List.setIfInBounds_toArray, List.set_cons_zero, List.set_cons_succ]); (try simp only [Act.eval, Array.getD_eq_getD_getElem?, List.getElem?_toArray, List.getElem?_cons_succ, List.getElem?_cons_zero, Option.getD_some, List.set_cons_succ, List.set_cons_zero, Value.cells, List.toList_toArray] at hS)) | ((with_reducible show WBx ..); (with_reducible apply wpA_box hS); exact rfl; exact rfl; intro _ wx hS; (try simp only [Act.put, List.setIfInBounds_toArray, List.set_cons_zero, List.set_cons_succ]); (try simp only [Act.eval, Array.getD_eq_getD_getElem?, List.getElem?_toArray, List.getElem?_cons_succ, List.getElem?_cons_zero, Option.getD_some, List.set_cons_succ, List.set_cons_zero, Value.cells, List.toList_toArray] at hS)))
            go_ret
            exact ⟨rfl, hS.tail⟩
      · have hS := hL.rest
        by_cases hlt : S.length < mj n
        · obtain ⟨_, _, rfl⟩ := HI.out.lt hlt
          have hmm : decide (majD n ≤ (S.length : Int)) = false := by rw [majD_pos h1]; simp; omega
          have HHI := Lib.hid HI
          go_wp2_with (first | ((with_reducible show WGd ..); (with_reducible apply wpA_guard); exact rfl; skip) | (go_at_call 10; with_reducible refine (mq_c hS n h1 h2).mono ?_; rintro _ _ ⟨rfl, hS⟩) | (go_at_call 7; with_reducible refine (awake_c w0 _ _ hS).mono ?_; rintro _ _ ⟨rfl, hS⟩) | ((with_reducible show WLd ..); (with_reducible apply wpA_load); exact rfl; (first | ((with_reducible apply St.cellI hS); (focus repeat constructor); exact rfl) | assumption); kernel_rfl) | ((with_reducible show WSt ..); (with_reducible apply wpA_store1I hS); exact rfl; (focus repeat constructor); exact rfl; exact rfl; exact rfl; exact rfl; kernel_rfl; intro wx hS; (try simp only [Act.put, List.setIfInBounds_toArray, List.set_cons_zero, List.set_cons_succ]); (try simp only [Act.eval, Array.getD_eq_getD_getElem?, List.getElem?_toArray, List.getElem?_cons_succ, List.getElem?_cons_zero, Option.getD_some, List.set_cons_succ, List.set_cons_zero, Value.cells, List.toList_toArray] at hS)) | ((with_reducible show WBx ..); (with_reducible apply wpA_box hS); exact rfl; exact rfl; intro _ wx hS; (try simp only [Act.put, List.setIfInBounds_toArray, List.set_cons_zero, List.set_cons_succ]); (try simp only [Act.eval, Array.getD_eq_getD_getElem?, List.getElem?_toArray, List.getElem?_cons_succ, List.getElem?_cons_zero, Option.getD_some, List.set_cons_succ, List.set_cons_zero, Value.cells, List.toList_toArray] at hS)))
          go_ret
          exact ⟨rfl, hS.tail⟩
        · obtain ⟨_, rfl⟩ := HI.out.ge (by omega)
          have hmm : decide (majD n ≤ (S.length : Int)) = true := by rw [majD_pos h1]; simp; omega
          have HHI := Lib.hid HI
          go_wp2_with (first | ((with_reducible show WGd ..); (with_reducible apply wpA_guard); exact rfl; skip) | (go_at_call 10; with_reducible refine (mq_c hS n h1 h2).mono ?_; rintro _ _ ⟨rfl, hS⟩) | (go_at_call 7; with_reducible refine (awake_c w0 _ _ hS).mono ?_; rintro _ _ ⟨rfl, hS⟩) | ((with_reducible show WLd ..); (with_reducible apply wpA_load); exact rfl; (first | ((with_reducible apply St.cellI hS); (focus repeat constructor); exact rfl) | assumption); kernel_rfl) | ((with_reducible show WSt ..); (with_reducible apply wpA_store1I hS); exact rfl; (focus repeat constructor); exact rfl; exact rfl; exact rfl; exact rfl; kernel_rfl; intro wx hS; (try simp only [Act.put, List.setIfInBounds_toArray, List.set_cons_zero, List.set_cons_succ]); (try simp only [Act.eval, Array.getD_eq_getD_getElem?, List.getElem?_toArray, List.getElem?_cons_succ, List.getElem?_cons_zero, Option.getD_some, List.set_cons_succ, List.set_cons_zero, Value.cells, List.toList_toArray] at hS)) | ((with_reducible show WBx ..); (with_reducible apply wpA_box hS); exact rfl; exact rfl; intro _ wx hS; (try simp only [Act.put, List.setIfInBounds_toArray, List.set_cons_zero, List.set_cons_succ]); (try simp only [Act.eval, Array.getD_eq_getD_getElem?, List.getElem?_toArray, List.getElem?_cons_succ, List.getElem?_cons_zero, Option.getD_some, List.set_cons_succ, List.set_cons_zero, Value.cells, List.toList_toArray] at hS)))
          go_ret
          exact ⟨rfl, hS.tail⟩

theorem maj_law (w : World) (v0 v1 : Value) (h0 : RdV Try.prog w 3 v0) (h1 : RdV Try.prog w 35 v1) : Calls Try.prog 4 #[v0, v1] w fun e w' => e = .returned (.bool true) ∧ St w w' [] := by
  obtain ⟨n, rfl, _⟩ := h0.int Try.underlying3
  obtain ⟨rs, ⟨ao, co, rfl, ho, bo, hr⟩, _⟩ := IntsIn.of h1 Try.underlying35 Try.underlying3 (by kernel_rfl) (by kernel_rfl)
  have e : reachBytes = 140737488351232 := rfl
  exact maj_v w n rs ao co (by omega) hr
end Go.Proofs.Ytkhjkicnalnibaa
