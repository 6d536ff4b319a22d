/-
  What was synced is there behind any crash; of what was not, a beginning.
-/
import Derived.Test.YtbigkonbdnbnpaaDiskAwake
namespace Go.Proofs.Ytbigkonbdnbnpaa
set_option linter.unusedVariables false
set_option linter.unusedSimpArgs false
open Go.RowKit

theorem countP_range (m : Nat) : ∀ N : Nat, N ≤ m → (List.range m).countP (fun k => decide (k < N)) = N := by
  induction m with
  | zero => intro N h; simp; omega
  | succ m ih =>
    intro N h
    rw [List.range_succ, List.countP_append]
    by_cases e : N = m + 1
    · subst e
      have : (List.range m).countP (fun k => decide (k < m + 1)) = (List.range m).length := by
        rw [List.countP_eq_length]
        intro a ha
        have := List.mem_range.1 ha
        simp; omega
      rw [this]; simp
    · rw [ih N (by omega)]
      simp; omega

theorem countP_clocks {c : Int} (hc : 0 ≤ c) (m : Nat) (keep : Int) : (clocks c m).countP (· < lastOf keep (clocks c m) + 1) = (max 0 (min keep m)).toNat := by
  rw [lastOf_sorted (clocks_sorted c m), clocks_length]
  unfold clocks
  rw [List.countP_map]
  by_cases h : 0 < min keep (m : Int)
  · rw [if_pos h, ← countP_range m (max 0 (min keep m)).toNat (by omega)]
    apply List.countP_congr
    intro k hk
    have hk := List.mem_range.1 hk
    have e : (List.map (fun k : Nat => c + (k : Int) + 1) (List.range m)).getD (min keep (m : Int) - 1).toNat 0 = c + (min keep m - 1).toNat + 1 := by
      rw [List.getD_eq_getElem?_getD, List.getElem?_map, List.getElem?_range (by omega)]
      rfl
    rw [e]
    simp only [Function.comp, decide_eq_true_eq]
    omega
  · rw [if_neg h, List.countP_eq_zero.2]
    · omega
    · intro k hk
      simp only [Function.comp, decide_eq_true_eq]
      omega

/-- One file, of which some bytes are sure. -/
def su1 (a : ByteArray) : DiskS := ⟨[(⟨#[97]⟩, ⟨a.data.toList, 0, clocks 0 a.size⟩)], 0 + a.size⟩
def su2 (a : ByteArray) : DiskS := ⟨[(⟨#[97]⟩, ⟨a.data.toList, a.size, []⟩)], 0 + a.size⟩
def su3 (a b : ByteArray) : DiskS := ⟨[(⟨#[97]⟩, ⟨a.data.toList ++ b.data.toList, a.size, [] ++ clocks (0 + a.size) b.size⟩)], 0 + a.size + b.size⟩
def su4 (a b : ByteArray) (n : Nat) : DiskS := ⟨[(⟨#[97]⟩, ⟨a.data.toList ++ b.data.toList.take n, a.size + n, []⟩)], 0 + a.size + b.size⟩

theorem su4_eq (a b : ByteArray) (keep : Int) : crashD keep (su3 a b) = su4 a b (max 0 (min keep b.size)).toNat := by
  unfold crashD su3
  simp only [List.flatMap_cons, List.flatMap_nil, List.nil_append, List.append_nil, List.map_cons, List.map_nil, cutAt]
  rw [countP_clocks (by omega)]
  have h : (a.data.toList ++ b.data.toList).take (a.size + (max 0 (min keep b.size)).toNat) = a.data.toList ++ b.data.toList.take (max 0 (min keep b.size)).toNat := by
    rw [List.take_append, List.take_of_length_le (by rw [data_len]; omega), data_len]
    congr 2; omega
  rw [h]
  unfold su4
  have h2 : (a.data.toList ++ b.data.toList.take (max 0 (min keep b.size)).toNat).length = a.size + (max 0 (min keep b.size)).toNat := by
    rw [List.length_append, List.length_take, data_len, data_len]; omega
  rw [h2]

theorem su5_eq (a b : ByteArray) (n : Nat) (hn : n ≤ b.size) : crashD 0 (su4 a b n) = su4 a b n := by
  have h2 : (a.data.toList ++ b.data.toList.take n).length = a.size + n := by
    rw [List.length_append, List.length_take, data_len, data_len]; omega
  unfold crashD su4
  simp only [List.flatMap_cons, List.flatMap_nil, List.nil_append, List.append_nil, List.map_cons, List.map_nil, cutAt, List.countP_nil, Nat.add_zero]
  rw [List.take_of_length_le (by omega), h2]

theorem su_e1 {a : ByteArray} (h : a.size ≤ 1000) : appendD ⟨[], 0⟩ ⟨#[97]⟩ a = (su1 a, 0) := by
  show (if a.size ≤ 4194304 then (su1 a, (0 : Int)) else _) = _
  exact if_pos (by omega)
theorem su_e2 {a b : ByteArray} (ha : a.size ≤ 1000) (h : b.size ≤ 1000) : appendD (su2 a) ⟨#[97]⟩ b = (su3 a b, 0) := by
  show (if a.size + b.size ≤ 4194304 then (su3 a b, (0 : Int)) else _) = _
  exact if_pos (by omega)
theorem su_g1 {a : ByteArray} (h : a.size ≤ 1000) : (su1 a).good := by have := good_append good_new ⟨#[97]⟩ a; rwa [su_e1 h] at this
theorem su_g2 {a : ByteArray} (h : a.size ≤ 1000) : (su2 a).good := good_sync (su_g1 h) ⟨#[97]⟩
theorem su_g3 {a b : ByteArray} (ha : a.size ≤ 1000) (h : b.size ≤ 1000) : (su3 a b).good := by have := good_append (su_g2 ha) ⟨#[97]⟩ b; rwa [su_e2 ha h] at this

theorem str_eq (a b : ByteArray) (n : Nat) : a.data.toList ++ List.take n b.data.toList = (a ++ b.extract 0 n).toList := by
  rw [ByteArray.toList_eq, ByteArray.data_append, ByteArray.data_extract, Array.toList_append, Array.toList_extract]
  simp [List.extract]

section
variable {w0 w : World} {R : List Hp} {g : Nat} {a b : ByteArray} {n : Nat}
theorem su_c1 (h : a.size ≤ 1000) (hD : DiskSt w0 w g ⟨[], 0⟩ R) : Calls Try.prog 10 #[.pointer (some ⟨g, 0, none⟩), .string ⟨#[97]⟩, .string a] w fun e w' => e = .returned (.int .i64 0) ∧ DiskSt w0 w' g (su1 a) R := by
  have := append_d w0 w R g _ ⟨#[97]⟩ a hD good_new (by simp only; omega)
  rwa [su_e1 h] at this
theorem su_c2 (hD : DiskSt w0 w g (su1 a) R) : Calls Try.prog 11 #[.pointer (some ⟨g, 0, none⟩), .string ⟨#[97]⟩] w fun e w' => e = .returned (.int .i64 0) ∧ DiskSt w0 w' g (su2 a) R :=
  sync_d w0 w R g _ _ hD
theorem su_c3 (h : a.size ≤ 1000) (h2 : b.size ≤ 1000) (hD : DiskSt w0 w g (su2 a) R) : Calls Try.prog 10 #[.pointer (some ⟨g, 0, none⟩), .string ⟨#[97]⟩, .string b] w fun e w' => e = .returned (.int .i64 0) ∧ DiskSt w0 w' g (su3 a b) R := by
  have := append_d w0 w R g _ ⟨#[97]⟩ b hD (su_g2 h) (by simp only [su2]; omega)
  rwa [su_e2 h h2] at this
theorem su_c4 (h : a.size ≤ 1000) (h2 : b.size ≤ 1000) {keep : Int} (hk1 : -9223372036854775808 ≤ keep) (hk2 : keep ≤ 9223372036854775807) (hD : DiskSt w0 w g (su3 a b) R) :
    Calls Try.prog 12 #[.pointer (some ⟨g, 0, none⟩), .int .i64 keep] w fun e w' => e = .returned (.tuple #[]) ∧ DiskSt w0 w' g (su4 a b (max 0 (min keep b.size)).toNat) R := by
  have := crash_d w0 w R g _ keep hD (su_g3 h h2) (by simp only [su3]; omega) ⟨hk1, hk2⟩
  rwa [su4_eq] at this
theorem su_c5 (h : a.size ≤ 1000) (h2 : b.size ≤ 1000) {keep : Int} (hD : DiskSt w0 w g (su4 a b (max 0 (min keep b.size)).toNat) R) :
    Calls Try.prog 12 #[.pointer (some ⟨g, 0, none⟩), .int .i64 0] w fun e w' => e = .returned (.tuple #[]) ∧ DiskSt w0 w' g (su4 a b (max 0 (min keep b.size)).toNat) R := by
  have := crash_d w0 w R g _ 0 hD (by rw [← su4_eq]; exact good_crash (su_g3 h h2) keep) (by simp only [su4]; omega) (by decide)
  rwa [su5_eq _ _ _ (by omega)] at this
theorem su_c6 (hD : DiskSt w0 w g (su4 a b n) R) : Calls Try.prog 13 #[.pointer (some ⟨g, 0, none⟩), .string ⟨#[97]⟩] w fun e w' => e = .returned (.tuple #[.string ⟨(a.data.toList ++ b.data.toList.take n).toArray⟩, .int .i64 0]) ∧ w = w' :=
  read_d w0 w R g _ _ hD
theorem su_c7 (hD : DiskSt w0 w g (su4 a b n) R) : Calls Try.prog 14 #[.pointer (some ⟨g, 0, none⟩), .string ⟨#[97]⟩] w fun e w' => e = .returned (.int .i64 0) ∧ w = w' :=
  unsynced_d w0 w R g _ _ hD
end

set_option maxRecDepth 100000 in
set_option maxHeartbeats 1000000 in
theorem sure_c (w0 : World) (a b : ByteArray) (keep : Int) (hk : -9223372036854775808 ≤ keep ∧ keep ≤ 9223372036854775807) :
    Calls Try.prog 3 #[.string a, .string b, .int .i64 keep] w0 fun e w' => e = .returned (.bool true) ∧ St w0 w' [] := by
  have hS := St.init w0
  obtain ⟨hk1, hk2⟩ := hk
  by_cases h1 : (1000 : Int) < a.size
  · go_enter Try.func3, Try.ntmps3
    go_wp2_with (first | ((with_reducible show WGd ..); (with_reducible apply wpA_guard); exact rfl; skip) | (go_at_call 8; with_reducible refine (awake_c w0 _ [] hS).mono ?_; rintro _ _ ⟨rfl, hS⟩) | ((with_reducible show WLd ..); (with_reducible apply wpA_load); exact rfl; (first | ((with_reducible apply St.cellI hS); (focus repeat constructor); exact rfl) | assumption); kernel_rfl) | ((with_reducible show WSt ..); (with_reducible apply wpA_store1I hS); exact rfl; (focus repeat constructor); exact rfl; exact rfl; exact rfl; exact rfl; kernel_rfl; intro wx hS; (try simp only [Act.put, List.setIfInBounds_toArray, List.set_cons_zero, List.set_cons_succ]); (try simp only [Act.eval, Array.getD_eq_getD_getElem?, List.getElem?_toArray, List.getElem?_cons_succ, List.getElem?_cons_zero, Option.getD_some, List.set_cons_succ, List.set_cons_zero, Value.cells, List.toList_toArray] at hS)) | ((with_reducible show WBx ..); (with_reducible apply wpA_box hS); exact rfl; exact rfl; intro _ wx hS; (try simp only [Act.put, List.setIfInBounds_toArray, List.set_cons_zero, List.set_cons_succ]); (try simp only [Act.eval, Array.getD_eq_getD_getElem?, List.getElem?_toArray, List.getElem?_cons_succ, List.getElem?_cons_zero, Option.getD_some, List.set_cons_succ, List.set_cons_zero, Value.cells, List.toList_toArray] at hS)))
    go_ret
    exact ⟨rfl, hS⟩
  by_cases h2 : (1000 : Int) < b.size
  · go_enter Try.func3, Try.ntmps3
    go_wp2_with (first | ((with_reducible show WGd ..); (with_reducible apply wpA_guard); exact rfl; skip) | (go_at_call 8; with_reducible refine (awake_c w0 _ [] hS).mono ?_; rintro _ _ ⟨rfl, hS⟩) | ((with_reducible show WLd ..); (with_reducible apply wpA_load); exact rfl; (first | ((with_reducible apply St.cellI hS); (focus repeat constructor); exact rfl) | assumption); kernel_rfl) | ((with_reducible show WSt ..); (with_reducible apply wpA_store1I hS); exact rfl; (focus repeat constructor); exact rfl; exact rfl; exact rfl; exact rfl; kernel_rfl; intro wx hS; (try simp only [Act.put, List.setIfInBounds_toArray, List.set_cons_zero, List.set_cons_succ]); (try simp only [Act.eval, Array.getD_eq_getD_getElem?, List.getElem?_toArray, List.getElem?_cons_succ, List.getElem?_cons_zero, Option.getD_some, List.set_cons_succ, List.set_cons_zero, Value.cells, List.toList_toArray] at hS)) | ((with_reducible show WBx ..); (with_reducible apply wpA_box hS); exact rfl; exact rfl; intro _ wx hS; (try simp only [Act.put, List.setIfInBounds_toArray, List.set_cons_zero, List.set_cons_succ]); (try simp only [Act.eval, Array.getD_eq_getD_getElem?, List.getElem?_toArray, List.getElem?_cons_succ, List.getElem?_cons_zero, Option.getD_some, List.set_cons_succ, List.set_cons_zero, Value.cells, List.toList_toArray] at hS)))
    go_ret
    exact ⟨rfl, hS⟩
  have h1' : a.size ≤ 1000 := by omega
  have h2' : b.size ≤ 1000 := by omega
  go_enter Try.func3, Try.ntmps3
  go_wp2_with (first | ((with_reducible show WGd ..); (with_reducible apply wpA_guard); exact rfl; skip) | (go_at_call 8; with_reducible refine (awake_c w0 _ [] hD5.rest).mono ?_; rintro _ _ ⟨rfl, hS⟩) | (go_at_call 9; with_reducible refine (new_c w0 _ [] hS).mono ?_; rintro _ _ ⟨g, rfl, hD⟩) | (go_at_call 10; with_reducible refine (su_c1 h1' hD).mono ?_; rintro _ _ ⟨rfl, hD1⟩) | (go_at_call 11; with_reducible refine (su_c2 hD1).mono ?_; rintro _ _ ⟨rfl, hD2⟩) | (go_at_call 10; with_reducible refine (su_c3 h1' h2' hD2).mono ?_; rintro _ _ ⟨rfl, hD3⟩) | (go_at_call 12; with_reducible refine (su_c4 h1' h2' hk1 hk2 hD3).mono ?_; rintro _ _ ⟨rfl, hD4⟩) | (go_at_call 13; with_reducible refine (su_c6 hD4).mono ?_; rintro _ _ ⟨rfl, rfl⟩) | (go_at_call 12; with_reducible refine (su_c5 h1' h2' hD4).mono ?_; rintro _ _ ⟨rfl, hD5⟩) | (go_at_call 13; with_reducible refine (su_c6 hD5).mono ?_; rintro _ _ ⟨rfl, rfl⟩) | (go_at_call 14; with_reducible refine (su_c7 hD5).mono ?_; rintro _ _ ⟨rfl, rfl⟩) | ((with_reducible show WLd ..); (with_reducible apply wpA_load); exact rfl; (first | ((with_reducible apply St.cellI hS); (focus repeat constructor); exact rfl) | assumption); kernel_rfl) | ((with_reducible show WSt ..); (with_reducible apply wpA_store1I hS); exact rfl; (focus repeat constructor); exact rfl; exact rfl; exact rfl; exact rfl; kernel_rfl; intro wx hS; (try simp only [Act.put, List.setIfInBounds_toArray, List.set_cons_zero, List.set_cons_succ]); (try simp only [Act.eval, Array.getD_eq_getD_getElem?, List.getElem?_toArray, List.getElem?_cons_succ, List.getElem?_cons_zero, Option.getD_some, List.set_cons_succ, List.set_cons_zero, Value.cells, List.toList_toArray] at hS)) | ((with_reducible show WBx ..); (with_reducible apply wpA_box hS); exact rfl; exact rfl; intro _ wx hS; (try simp only [Act.put, List.setIfInBounds_toArray, List.set_cons_zero, List.set_cons_succ]); (try simp only [Act.eval, Array.getD_eq_getD_getElem?, List.getElem?_toArray, List.getElem?_cons_succ, List.getElem?_cons_zero, Option.getD_some, List.set_cons_succ, List.set_cons_zero, Value.cells, List.toList_toArray] at hS)))
  all_goals (try exact absurd (str_eq a b _) (by assumption))
  · go_ret
    exact ⟨rfl, hS⟩
end Go.Proofs.Ytbigkonbdnbnpaa
