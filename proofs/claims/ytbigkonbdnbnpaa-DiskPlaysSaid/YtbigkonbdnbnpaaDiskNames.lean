/-
  A file that is renamed is what it was, under the other name alone, also behind a crash; a disk that is none.
-/
import Derived.Test.YtbigkonbdnbnpaaDiskRF
import Derived.Test.YtbigkonbdnbnpaaDiskAwake
namespace Go.Proofs.Ytbigkonbdnbnpaa
set_option linter.unusedVariables false
set_option linter.unusedSimpArgs false
open Go.RowKit

def old3 : ByteArray := ⟨#[111, 108, 100]⟩
def nm1 (b : ByteArray) : DiskS := (appendD ⟨[], 0⟩ b old3).1
def nm2 (a b : ByteArray) : DiskS := (removeD (nm1 b) a).1
def nm3 (a b s : ByteArray) : DiskS := (appendD (nm2 a b) a s).1
def nm4 (a b s : ByteArray) : DiskS := (syncD (nm3 a b s) a).1
def nm5 (b s : ByteArray) : DiskS := ⟨[(b, ⟨s.data.toList, s.size, []⟩)], 3 + s.size⟩

theorem at?_nil (c : Int) (a : ByteArray) : at? ⟨[], c⟩ a = none := rfl
theorem at?_one {a b : ByteArray} (f : FileS) (c : Int) : at? ⟨[(b, f)], c⟩ a = if b = a then some 0 else none := by
  unfold at?
  by_cases h : b = a
  · simp [List.findIdx?_cons, h]
  · simp [List.findIdx?_cons, h]
theorem at?_two {a b : ByteArray} (f f' : FileS) (c : Int) (h : b ≠ a) : at? ⟨[(b, f), (a, f')], c⟩ a = some 1 := by
  unfold at?
  simp [List.findIdx?_cons, h]

theorem nm1_eq {b : ByteArray} (hb : nameC b = true) : nm1 b = ⟨[(b, ⟨[111, 108, 100], 0, [1, 2, 3]⟩)], 3⟩ := by
  unfold nm1 appendD
  rw [hb, at?_nil]
  rfl

theorem nm_all {a b s : ByteArray} (ha : nameC a = true) (hb : nameC b = true) (hs : s.size ≤ 1000) : renameD (nm4 a b s) a b = (nm5 b s, 0) := by
  have hs' : s.size ≤ 4194304 := by omega
  by_cases h : b = a
  · subst h
    have e2 : nm2 b b = ⟨[], 3⟩ := by
      unfold nm2 removeD
      rw [nm1_eq hb, at?_one, if_pos rfl]
      rfl
    have e3 : nm3 b b s = ⟨[(b, ⟨s.data.toList, 0, clocks 3 s.size⟩)], 3 + s.size⟩ := by
      unfold nm3 appendD
      rw [e2, hb, at?_nil]
      simp [if_pos hs']
    have e4 : nm4 b b s = nm5 b s := by
      unfold nm4 syncD
      rw [e3, at?_one, if_pos rfl]
      rfl
    rw [e4]
    unfold renameD nm5
    rw [hb, at?_one, if_pos rfl]
    rfl
  · have e2 : nm2 a b = ⟨[(b, ⟨[111, 108, 100], 0, [1, 2, 3]⟩)], 3⟩ := by
      unfold nm2 removeD
      rw [nm1_eq hb, at?_one, if_neg h]
    have e3 : nm3 a b s = ⟨[(b, ⟨[111, 108, 100], 0, [1, 2, 3]⟩), (a, ⟨s.data.toList, 0, clocks 3 s.size⟩)], 3 + s.size⟩ := by
      unfold nm3 appendD
      rw [e2, ha, at?_one, if_neg h]
      simp [if_pos hs']
    have e4 : nm4 a b s = ⟨[(b, ⟨[111, 108, 100], 0, [1, 2, 3]⟩), (a, ⟨s.data.toList, s.size, []⟩)], 3 + s.size⟩ := by
      unfold nm4 syncD
      rw [e3, at?_two _ _ _ h]
      rfl
    rw [e4]
    unfold renameD
    rw [hb, at?_two _ _ _ h]
    simp only [List.eraseIdx_cons_succ, List.eraseIdx_cons_zero, List.getElem?_cons_succ, List.getElem?_cons_zero]
    rw [at?_one, if_pos rfl]
    rfl

theorem nm5_crash (b s : ByteArray) : crashD 0 (nm5 b s) = nm5 b s := by
  unfold crashD nm5
  simp only [List.flatMap_cons, List.flatMap_nil, List.append_nil, List.map_cons, List.map_nil, cutAt, List.countP_nil, Nat.add_zero]
  rw [List.take_of_length_le (by rw [data_len]; omega), data_len]

theorem nm5_good (b s : ByteArray) (hs : s.size ≤ 1000) : (nm5 b s).good := by
  refine ⟨by simp only [nm5]; omega, fun x hx => ?_, fun x hx => ?_, fun x hx c hc => ?_, by simp only [nm5, List.flatMap_cons, List.flatMap_nil, List.append_nil, List.length_nil]; omega⟩
  · simp [nm5] at hx; subst hx; exact ⟨by simp only [List.length_nil, data_len]; omega, by simp only [data_len]; omega⟩
  · simp [nm5] at hx; subst hx; exact .nil
  · simp [nm5] at hx; subst hx; cases hc

theorem append_clock (σ : DiskS) (s t : ByteArray) : (appendD σ s t).1.clock ≤ σ.clock + t.size := by
  unfold appendD
  split
  · simp only; omega
  split
  · split
    · exact Int.le_refl _
    · simp only; omega
  · split
    · simp only; omega
    · split
      · exact Int.le_refl _
      · simp only; omega
theorem remove_clock (σ : DiskS) (s : ByteArray) : (removeD σ s).1.clock = σ.clock := by unfold removeD; split <;> rfl

section
variable {w0 w : World} {R : List Hp} {g : Nat} {a b s : ByteArray}
theorem nm_c0 (hs : s.size ≤ 1000) (hD : DiskSt w0 w g ⟨[], 0⟩ R) : Calls Try.prog 10 #[.pointer (some ⟨g, 0, none⟩), .string a, .string s] w fun e w' => e = .returned (.int .i64 (if nameC a = true then 0 else 1)) ∧ DiskSt w0 w' g (appendD ⟨[], 0⟩ a s).1 R := by
  have := append_d w0 w R g _ a s hD good_new (by simp only; omega)
  have e : (appendD ⟨[], 0⟩ a s).2 = if nameC a = true then 0 else 1 := by
    unfold appendD
    rw [at?_nil]
    cases nameC a with
    | false => rfl
    | true =>
      show (if s.size ≤ 4194304 then _ else _ : DiskS × Int).2 = 0
      rw [if_pos (by omega)]
  rwa [e] at this
theorem nm_c0F (h : nameC a = false) (hs : s.size ≤ 1000) (hD : DiskSt w0 w g ⟨[], 0⟩ R) : Calls Try.prog 10 #[.pointer (some ⟨g, 0, none⟩), .string a, .string s] w fun e w' => e = .returned (.int .i64 1) ∧ DiskSt w0 w' g (appendD ⟨[], 0⟩ a s).1 R := by
  have := nm_c0 (a := a) hs hD
  rwa [h] at this
theorem nm_c0T (h : nameC a = true) (hs : s.size ≤ 1000) (hD : DiskSt w0 w g ⟨[], 0⟩ R) : Calls Try.prog 10 #[.pointer (some ⟨g, 0, none⟩), .string a, .string s] w fun e w' => e = .returned (.int .i64 0) ∧ DiskSt w0 w' g (appendD ⟨[], 0⟩ a s).1 R := by
  have := nm_c0 (a := a) hs hD
  rwa [h] at this
theorem nm_c1 (hD : DiskSt w0 w g ⟨[], 0⟩ R) : Calls Try.prog 10 #[.pointer (some ⟨g, 0, none⟩), .string b, .string ⟨#[111, 108, 100]⟩] w fun e w' => (∃ c, e = .returned (.int .i64 c)) ∧ DiskSt w0 w' g (nm1 b) R :=
  (append_d w0 w R g _ b old3 hD good_new (by decide)).mono fun e w' h => ⟨⟨_, h.1⟩, h.2⟩
theorem nm_c2 (hD : DiskSt w0 w g (nm1 b) R) : Calls Try.prog 17 #[.pointer (some ⟨g, 0, none⟩), .string a] w fun e w' => (∃ c, e = .returned (.int .i64 c)) ∧ DiskSt w0 w' g (nm2 a b) R :=
  (remove_d w0 w R g _ a hD).mono fun e w' h => ⟨⟨_, h.1⟩, h.2⟩
theorem nm_c3 (hs : s.size ≤ 1000) (hD : DiskSt w0 w g (nm2 a b) R) : Calls Try.prog 10 #[.pointer (some ⟨g, 0, none⟩), .string a, .string s] w fun e w' => (∃ c, e = .returned (.int .i64 c)) ∧ DiskSt w0 w' g (nm3 a b s) R :=
  (append_d w0 w R g _ a s hD (good_remove (good_append good_new _ _) _) (by
    have h1 := append_clock ⟨[], 0⟩ b old3
    have h2 := remove_clock (nm1 b) a
    unfold nm2 nm1 at *
    have : old3.size = 3 := rfl
    simp only at h1
    omega)).mono fun e w' h => ⟨⟨_, h.1⟩, h.2⟩
theorem nm_c4 (hD : DiskSt w0 w g (nm3 a b s) R) : Calls Try.prog 11 #[.pointer (some ⟨g, 0, none⟩), .string a] w fun e w' => (∃ c, e = .returned (.int .i64 c)) ∧ DiskSt w0 w' g (nm4 a b s) R :=
  (sync_d w0 w R g _ a hD).mono fun e w' h => ⟨⟨_, h.1⟩, h.2⟩
theorem nm_c5 (ha : nameC a = true) (hb : nameC b = true) (hs : s.size ≤ 1000) (hD : DiskSt w0 w g (nm4 a b s) R) : Calls Try.prog 18 #[.pointer (some ⟨g, 0, none⟩), .string a, .string b] w fun e w' => e = .returned (.int .i64 0) ∧ DiskSt w0 w' g (nm5 b s) R := by
  have := rename_d w0 w R g _ a b hD
  rwa [nm_all ha hb hs] at this
theorem nm_c6 (hs : s.size ≤ 1000) (hD : DiskSt w0 w g (nm5 b s) R) : Calls Try.prog 12 #[.pointer (some ⟨g, 0, none⟩), .int .i64 0] w fun e w' => e = .returned (.tuple #[]) ∧ DiskSt w0 w' g (nm5 b s) R := by
  have := crash_d w0 w R g _ 0 hD (nm5_good b s hs) (by simp only [nm5]; omega) (by decide)
  rwa [nm5_crash] at this
theorem nm_c7 (hD : DiskSt w0 w g (nm5 b s) R) : Calls Try.prog 13 #[.pointer (some ⟨g, 0, none⟩), .string b] w fun e w' => e = .returned (.tuple #[.string s, .int .i64 0]) ∧ w = w' := by
  have := read_d w0 w R g _ b hD
  have e : readD (nm5 b s) b = (s, 0) := by
    unfold readD fileD nm5
    rw [at?_one, if_pos rfl]
    rfl
  rwa [e] at this
theorem nm_c8 (h : b ≠ a) (hD : DiskSt w0 w g (nm5 b s) R) : Calls Try.prog 13 #[.pointer (some ⟨g, 0, none⟩), .string a] w fun e w' => e = .returned (.tuple #[.string ⟨#[]⟩, .int .i64 5]) ∧ w = w' := by
  have := read_d w0 w R g _ a hD
  have e : readD (nm5 b s) a = (⟨#[]⟩, 5) := by
    unfold readD fileD nm5
    rw [at?_one, if_neg h]
    rfl
  rwa [e] at this
theorem nm_c9 (hb : b.size ≤ 64) (hD : DiskSt w0 w g (nm5 b s) R) : Calls Try.prog 19 #[.pointer (some ⟨g, 0, none⟩)] w fun e w' => ∃ ao cap, e = .returned (.slice ao 1 cap) ∧ St w0 w' R :=
  (files_d w0 w R g _ hD (by simp only [nm5, List.length_cons, List.length_nil]; omega) (fun x hx => by simp [nm5] at hx; subst hx; simp only [maxLen]; omega)).mono fun e w' ⟨ao, cap, h1, h2⟩ => ⟨ao, cap, h1, h2.rest.tail⟩
end

theorem nameC_eq (a : ByteArray) : nameC a = (decide (0 < a.size) && decide (a.size ≤ 64)) := rfl

set_option maxRecDepth 100000 in
set_option maxHeartbeats 2000000 in
theorem names_c (w0 : World) (a b s : ByteArray) :
    Calls Try.prog 6 #[.string a, .string b, .string s] w0 fun e w' => e = .returned (.bool true) ∧ St w0 w' [] := by
  have hS := St.init w0
  by_cases h1 : (1000 : Int) < s.size
  · go_enter Try.func6, Try.ntmps6
    go_wp2_with (first | ((with_reducible show WGd ..); (with_reducible apply wpA_guard); exact rfl; skip) | (go_at_call 8; with_reducible refine (awake_c w0 _ [] hS).mono ?_; rintro _ _ ⟨rfl, hS⟩) | ((with_reducible show WLd ..); (with_reducible apply wpA_load); exact rfl; (first | ((with_reducible apply St.cellI hS); (focus repeat constructor); exact rfl) | assumption); kernel_rfl) | ((with_reducible show WSt ..); (with_reducible apply wpA_store1I hS); exact rfl; (focus repeat constructor); exact rfl; exact rfl; exact rfl; exact rfl; kernel_rfl; intro wx hS; (try simp only [Act.put, List.setIfInBounds_toArray, List.set_cons_zero, List.set_cons_succ]); (try simp only [Act.eval, Array.getD_eq_getD_getElem?, List.getElem?_toArray, List.getElem?_cons_succ, List.getElem?_cons_zero, Option.getD_some, List.set_cons_succ, List.set_cons_zero, Value.cells, List.toList_toArray] at hS)) | ((with_reducible show WBx ..); (with_reducible apply wpA_box hS); exact rfl; exact rfl; intro _ wx hS; (try simp only [Act.put, List.setIfInBounds_toArray, List.set_cons_zero, List.set_cons_succ]); (try simp only [Act.eval, Array.getD_eq_getD_getElem?, List.getElem?_toArray, List.getElem?_cons_succ, List.getElem?_cons_zero, Option.getD_some, List.set_cons_succ, List.set_cons_zero, Value.cells, List.toList_toArray] at hS)))
    go_ret
    exact ⟨rfl, hS⟩
  have hs : s.size ≤ 1000 := by omega
  by_cases h2 : (a.size : Int) < 1
  · have E := Lib.hid (show nameC a = false by rw [nameC_eq]; simp; omega)
    go_enter Try.func6, Try.ntmps6
    go_wp2_with (first | ((with_reducible show WGd ..); (with_reducible apply wpA_guard); exact rfl; skip) | (go_at_call 9; with_reducible refine (new_c w0 _ [] hS).mono ?_; rintro _ _ ⟨g, rfl, hD⟩) | (go_at_call 10; with_reducible refine (nm_c0F E.out hs hD).mono ?_; rintro _ _ ⟨rfl, hD1⟩) | (go_at_call 8; with_reducible refine (awake_c w0 _ [] hD1.rest).mono ?_; rintro _ _ ⟨rfl, hS⟩) | ((with_reducible show WLd ..); (with_reducible apply wpA_load); exact rfl; (first | ((with_reducible apply St.cellI hS); (focus repeat constructor); exact rfl) | assumption); kernel_rfl) | ((with_reducible show WSt ..); (with_reducible apply wpA_store1I hS); exact rfl; (focus repeat constructor); exact rfl; exact rfl; exact rfl; exact rfl; kernel_rfl; intro wx hS; (try simp only [Act.put, List.setIfInBounds_toArray, List.set_cons_zero, List.set_cons_succ]); (try simp only [Act.eval, Array.getD_eq_getD_getElem?, List.getElem?_toArray, List.getElem?_cons_succ, List.getElem?_cons_zero, Option.getD_some, List.set_cons_succ, List.set_cons_zero, Value.cells, List.toList_toArray] at hS)) | ((with_reducible show WBx ..); (with_reducible apply wpA_box hS); exact rfl; exact rfl; intro _ wx hS; (try simp only [Act.put, List.setIfInBounds_toArray, List.set_cons_zero, List.set_cons_succ]); (try simp only [Act.eval, Array.getD_eq_getD_getElem?, List.getElem?_toArray, List.getElem?_cons_succ, List.getElem?_cons_zero, Option.getD_some, List.set_cons_succ, List.set_cons_zero, Value.cells, List.toList_toArray] at hS)))
    go_ret
    exact ⟨by first | rfl | (simp; omega), hS⟩
  by_cases h3 : (64 : Int) < a.size
  · have E := Lib.hid (show nameC a = false by rw [nameC_eq]; simp; omega)
    go_enter Try.func6, Try.ntmps6
    go_wp2_with (first | ((with_reducible show WGd ..); (with_reducible apply wpA_guard); exact rfl; skip) | (go_at_call 9; with_reducible refine (new_c w0 _ [] hS).mono ?_; rintro _ _ ⟨g, rfl, hD⟩) | (go_at_call 10; with_reducible refine (nm_c0F E.out hs hD).mono ?_; rintro _ _ ⟨rfl, hD1⟩) | (go_at_call 8; with_reducible refine (awake_c w0 _ [] hD1.rest).mono ?_; rintro _ _ ⟨rfl, hS⟩) | ((with_reducible show WLd ..); (with_reducible apply wpA_load); exact rfl; (first | ((with_reducible apply St.cellI hS); (focus repeat constructor); exact rfl) | assumption); kernel_rfl) | ((with_reducible show WSt ..); (with_reducible apply wpA_store1I hS); exact rfl; (focus repeat constructor); exact rfl; exact rfl; exact rfl; exact rfl; kernel_rfl; intro wx hS; (try simp only [Act.put, List.setIfInBounds_toArray, List.set_cons_zero, List.set_cons_succ]); (try simp only [Act.eval, Array.getD_eq_getD_getElem?, List.getElem?_toArray, List.getElem?_cons_succ, List.getElem?_cons_zero, Option.getD_some, List.set_cons_succ, List.set_cons_zero, Value.cells, List.toList_toArray] at hS)) | ((with_reducible show WBx ..); (with_reducible apply wpA_box hS); exact rfl; exact rfl; intro _ wx hS; (try simp only [Act.put, List.setIfInBounds_toArray, List.set_cons_zero, List.set_cons_succ]); (try simp only [Act.eval, Array.getD_eq_getD_getElem?, List.getElem?_toArray, List.getElem?_cons_succ, List.getElem?_cons_zero, Option.getD_some, List.set_cons_succ, List.set_cons_zero, Value.cells, List.toList_toArray] at hS)))
    go_ret
    exact ⟨by first | rfl | (simp; omega), hS⟩
  by_cases h4 : (b.size : Int) < 1
  · have E := Lib.hid (show nameC a = true by rw [nameC_eq]; simp; omega)
    go_enter Try.func6, Try.ntmps6
    go_wp2_with (first | ((with_reducible show WGd ..); (with_reducible apply wpA_guard); exact rfl; skip) | (go_at_call 9; with_reducible refine (new_c w0 _ [] hS).mono ?_; rintro _ _ ⟨g, rfl, hD⟩) | (go_at_call 10; with_reducible refine (nm_c0T E.out hs hD).mono ?_; rintro _ _ ⟨rfl, hD1⟩) | (go_at_call 8; with_reducible refine (awake_c w0 _ [] hD1.rest).mono ?_; rintro _ _ ⟨rfl, hS⟩) | ((with_reducible show WLd ..); (with_reducible apply wpA_load); exact rfl; (first | ((with_reducible apply St.cellI hS); (focus repeat constructor); exact rfl) | assumption); kernel_rfl) | ((with_reducible show WSt ..); (with_reducible apply wpA_store1I hS); exact rfl; (focus repeat constructor); exact rfl; exact rfl; exact rfl; exact rfl; kernel_rfl; intro wx hS; (try simp only [Act.put, List.setIfInBounds_toArray, List.set_cons_zero, List.set_cons_succ]); (try simp only [Act.eval, Array.getD_eq_getD_getElem?, List.getElem?_toArray, List.getElem?_cons_succ, List.getElem?_cons_zero, Option.getD_some, List.set_cons_succ, List.set_cons_zero, Value.cells, List.toList_toArray] at hS)) | ((with_reducible show WBx ..); (with_reducible apply wpA_box hS); exact rfl; exact rfl; intro _ wx hS; (try simp only [Act.put, List.setIfInBounds_toArray, List.set_cons_zero, List.set_cons_succ]); (try simp only [Act.eval, Array.getD_eq_getD_getElem?, List.getElem?_toArray, List.getElem?_cons_succ, List.getElem?_cons_zero, Option.getD_some, List.set_cons_succ, List.set_cons_zero, Value.cells, List.toList_toArray] at hS)))
    go_ret
    exact ⟨by first | rfl | (simp; omega), hS⟩
  by_cases h5 : (64 : Int) < b.size
  · have E := Lib.hid (show nameC a = true by rw [nameC_eq]; simp; omega)
    go_enter Try.func6, Try.ntmps6
    go_wp2_with (first | ((with_reducible show WGd ..); (with_reducible apply wpA_guard); exact rfl; skip) | (go_at_call 9; with_reducible refine (new_c w0 _ [] hS).mono ?_; rintro _ _ ⟨g, rfl, hD⟩) | (go_at_call 10; with_reducible refine (nm_c0T E.out hs hD).mono ?_; rintro _ _ ⟨rfl, hD1⟩) | (go_at_call 8; with_reducible refine (awake_c w0 _ [] hD1.rest).mono ?_; rintro _ _ ⟨rfl, hS⟩) | ((with_reducible show WLd ..); (with_reducible apply wpA_load); exact rfl; (first | ((with_reducible apply St.cellI hS); (focus repeat constructor); exact rfl) | assumption); kernel_rfl) | ((with_reducible show WSt ..); (with_reducible apply wpA_store1I hS); exact rfl; (focus repeat constructor); exact rfl; exact rfl; exact rfl; exact rfl; kernel_rfl; intro wx hS; (try simp only [Act.put, List.setIfInBounds_toArray, List.set_cons_zero, List.set_cons_succ]); (try simp only [Act.eval, Array.getD_eq_getD_getElem?, List.getElem?_toArray, List.getElem?_cons_succ, List.getElem?_cons_zero, Option.getD_some, List.set_cons_succ, List.set_cons_zero, Value.cells, List.toList_toArray] at hS)) | ((with_reducible show WBx ..); (with_reducible apply wpA_box hS); exact rfl; exact rfl; intro _ wx hS; (try simp only [Act.put, List.setIfInBounds_toArray, List.set_cons_zero, List.set_cons_succ]); (try simp only [Act.eval, Array.getD_eq_getD_getElem?, List.getElem?_toArray, List.getElem?_cons_succ, List.getElem?_cons_zero, Option.getD_some, List.set_cons_succ, List.set_cons_zero, Value.cells, List.toList_toArray] at hS)))
    go_ret
    exact ⟨by first | rfl | (simp; omega), hS⟩
  have EA := Lib.hid (show nameC a = true by rw [nameC_eq]; simp; omega)
  have EB := Lib.hid (show nameC b = true by rw [nameC_eq]; simp; omega)
  have hb64 : b.size ≤ 64 := by omega
  by_cases hab : a.toList = b.toList
  · have hab' : a = b := by
      rw [ByteArray.toList_eq, ByteArray.toList_eq] at hab
      cases a; cases b; simp only [Array.toList_inj] at hab
      simpa using hab
    subst hab'
    go_enter Try.func6, Try.ntmps6
    go_wp2_with (first | ((with_reducible show WGd ..); (with_reducible apply wpA_guard); exact rfl; skip) | (go_at_call 9; with_reducible refine (new_c w0 _ [] hS).mono ?_; rintro _ _ ⟨g, rfl, hD⟩) | (go_at_call 10; with_reducible refine (nm_c1 hD).mono ?_; rintro _ _ ⟨⟨c1, rfl⟩, hD1⟩) | (go_at_call 17; with_reducible refine (nm_c2 hD1).mono ?_; rintro _ _ ⟨⟨c2, rfl⟩, hD2⟩) | (go_at_call 10; with_reducible refine (nm_c3 hs hD2).mono ?_; rintro _ _ ⟨⟨c3, rfl⟩, hD3⟩) | (go_at_call 11; with_reducible refine (nm_c4 hD3).mono ?_; rintro _ _ ⟨⟨c4, rfl⟩, hD4⟩) | (go_at_call 18; with_reducible refine (nm_c5 EA.out EB.out hs hD4).mono ?_; rintro _ _ ⟨rfl, hD5⟩) | (go_at_call 12; with_reducible refine (nm_c6 hs hD5).mono ?_; rintro _ _ ⟨rfl, hD6⟩) | (go_at_call 13; with_reducible refine (nm_c7 hD6).mono ?_; rintro _ _ ⟨rfl, rfl⟩) | (go_at_call 19; with_reducible refine (nm_c9 hb64 hD6).mono ?_; rintro _ _ ⟨ao, cap, rfl, hS⟩) | (go_at_call 8; with_reducible refine (awake_c w0 _ [] hS).mono ?_; rintro _ _ ⟨rfl, hS⟩) | ((with_reducible show WLd ..); (with_reducible apply wpA_load); exact rfl; (first | ((with_reducible apply St.cellI hS); (focus repeat constructor); exact rfl) | assumption); kernel_rfl) | ((with_reducible show WSt ..); (with_reducible apply wpA_store1I hS); exact rfl; (focus repeat constructor); exact rfl; exact rfl; exact rfl; exact rfl; kernel_rfl; intro wx hS; (try simp only [Act.put, List.setIfInBounds_toArray, List.set_cons_zero, List.set_cons_succ]); (try simp only [Act.eval, Array.getD_eq_getD_getElem?, List.getElem?_toArray, List.getElem?_cons_succ, List.getElem?_cons_zero, Option.getD_some, List.set_cons_succ, List.set_cons_zero, Value.cells, List.toList_toArray] at hS)) | ((with_reducible show WBx ..); (with_reducible apply wpA_box hS); exact rfl; exact rfl; intro _ wx hS; (try simp only [Act.put, List.setIfInBounds_toArray, List.set_cons_zero, List.set_cons_succ]); (try simp only [Act.eval, Array.getD_eq_getD_getElem?, List.getElem?_toArray, List.getElem?_cons_succ, List.getElem?_cons_zero, Option.getD_some, List.set_cons_succ, List.set_cons_zero, Value.cells, List.toList_toArray] at hS)))
    all_goals (go_ret; exact ⟨by first | rfl | (simp; omega), hS⟩)
  · have hab' : b ≠ a := fun h => hab (by rw [h])
    have HAB := Lib.hid hab'
    clear hab'
    go_enter Try.func6, Try.ntmps6
    go_wp2_with (first | ((with_reducible show WGd ..); (with_reducible apply wpA_guard); exact rfl; skip) | (go_at_call 9; with_reducible refine (new_c w0 _ [] hS).mono ?_; rintro _ _ ⟨g, rfl, hD⟩) | (go_at_call 10; with_reducible refine (nm_c1 hD).mono ?_; rintro _ _ ⟨⟨c1, rfl⟩, hD1⟩) | (go_at_call 17; with_reducible refine (nm_c2 hD1).mono ?_; rintro _ _ ⟨⟨c2, rfl⟩, hD2⟩) | (go_at_call 10; with_reducible refine (nm_c3 hs hD2).mono ?_; rintro _ _ ⟨⟨c3, rfl⟩, hD3⟩) | (go_at_call 11; with_reducible refine (nm_c4 hD3).mono ?_; rintro _ _ ⟨⟨c4, rfl⟩, hD4⟩) | (go_at_call 18; with_reducible refine (nm_c5 EA.out EB.out hs hD4).mono ?_; rintro _ _ ⟨rfl, hD5⟩) | (go_at_call 12; with_reducible refine (nm_c6 hs hD5).mono ?_; rintro _ _ ⟨rfl, hD6⟩) | (go_at_call 13; with_reducible refine (nm_c7 hD6).mono ?_; rintro _ _ ⟨rfl, rfl⟩) | (go_at_call 13; with_reducible refine (nm_c8 HAB.out hD6).mono ?_; rintro _ _ ⟨rfl, rfl⟩) | (go_at_call 19; with_reducible refine (nm_c9 hb64 hD6).mono ?_; rintro _ _ ⟨ao, cap, rfl, hS⟩) | (go_at_call 8; with_reducible refine (awake_c w0 _ [] hS).mono ?_; rintro _ _ ⟨rfl, hS⟩) | ((with_reducible show WLd ..); (with_reducible apply wpA_load); exact rfl; (first | ((with_reducible apply St.cellI hS); (focus repeat constructor); exact rfl) | assumption); kernel_rfl) | ((with_reducible show WSt ..); (with_reducible apply wpA_store1I hS); exact rfl; (focus repeat constructor); exact rfl; exact rfl; exact rfl; exact rfl; kernel_rfl; intro wx hS; (try simp only [Act.put, List.setIfInBounds_toArray, List.set_cons_zero, List.set_cons_succ]); (try simp only [Act.eval, Array.getD_eq_getD_getElem?, List.getElem?_toArray, List.getElem?_cons_succ, List.getElem?_cons_zero, Option.getD_some, List.set_cons_succ, List.set_cons_zero, Value.cells, List.toList_toArray] at hS)) | ((with_reducible show WBx ..); (with_reducible apply wpA_box hS); exact rfl; exact rfl; intro _ wx hS; (try simp only [Act.put, List.setIfInBounds_toArray, List.set_cons_zero, List.set_cons_succ]); (try simp only [Act.eval, Array.getD_eq_getD_getElem?, List.getElem?_toArray, List.getElem?_cons_succ, List.getElem?_cons_zero, Option.getD_some, List.set_cons_succ, List.set_cons_zero, Value.cells, List.toList_toArray] at hS)))
    all_goals (go_ret; exact ⟨by first | rfl | (simp; omega), hS⟩)
end Go.Proofs.Ytbigkonbdnbnpaa
