/-
  A file never has more bytes than it may.
-/
import Derived.Test.YtbigkonbdnbnpaaDiskSure
import Derived.Test.YtbigkonbdnbnpaaSlMake
namespace Go.Proofs.Ytbigkonbdnbnpaa
set_option linter.unusedVariables false
set_option linter.unusedSimpArgs false
open Go.RowKit

abbrev zs (n : Nat) : ByteArray := ⟨Array.replicate n 0⟩
theorem zs_size (n : Nat) : (zs n).size = n := by show (Array.replicate n (0 : UInt8)).size = n; simp

def ro2 (a b : ByteArray) : DiskS := ⟨[(⟨#[97]⟩, ⟨a.data.toList ++ b.data.toList, 0, clocks 0 a.size ++ clocks (0 + a.size) b.size⟩)], 0 + a.size + b.size⟩

theorem ro_e1 {a : ByteArray} (h : a.size ≤ 4194304) : appendD ⟨[], 0⟩ ⟨#[97]⟩ a = (su1 a, 0) := by
  show (if a.size ≤ 4194304 then (su1 a, (0 : Int)) else _) = _
  exact if_pos h
theorem ro_e2 {a b : ByteArray} (h : a.size + b.size ≤ 4194304) : appendD (su1 a) ⟨#[97]⟩ b = (ro2 a b, 0) := by
  show (if a.size + b.size ≤ 4194304 then (ro2 a b, (0 : Int)) else _) = _
  exact if_pos h
theorem ro_e3 {a b : ByteArray} (h : ¬ a.size + b.size ≤ 4194304) : appendD (su1 a) ⟨#[97]⟩ b = (su1 a, 15) := by
  show (if a.size + b.size ≤ 4194304 then (ro2 a b, (0 : Int)) else (su1 a, 15)) = _
  exact if_neg h
theorem ro_e4 {a b : ByteArray} (h : a.size + b.size = 4194304) : appendD (ro2 a b) ⟨#[97]⟩ ⟨#[120]⟩ = (ro2 a b, 15) := by
  have h' : ¬ ((a.data.toList ++ b.data.toList).length + 1 ≤ 4194304) := by rw [List.length_append, data_len, data_len]; omega
  show (if (a.data.toList ++ b.data.toList).length + 1 ≤ 4194304 then (_, (0 : Int)) else (ro2 a b, 15)) = _
  exact if_neg h'
theorem ro_g1 {a : ByteArray} (h : a.size ≤ 4194304) : (su1 a).good := by have := good_append good_new ⟨#[97]⟩ a; rwa [ro_e1 h] at this
theorem ro_g2 {a b : ByteArray} (h : a.size + b.size ≤ 4194304) : (ro2 a b).good := by have := good_append (ro_g1 (a := a) (by omega)) ⟨#[97]⟩ b; rwa [ro_e2 h] at this

section
variable {w0 w : World} {R : List Hp} {g : Nat} {a b : ByteArray}
theorem ro_c1 (h : a.size ≤ 4194304) (hD : DiskSt w0 w g ⟨[], 0⟩ R) : Calls Try.prog 10 #[.pointer (some ⟨g, 0, none⟩), .string ⟨#[97]⟩, .string a] w fun e w' => e = .returned (.int .i64 0) ∧ DiskSt w0 w' g (su1 a) R := by
  have := append_d w0 w R g _ ⟨#[97]⟩ a hD good_new (by simp only; omega)
  rwa [ro_e1 h] at this
theorem ro_c2 (h : a.size + b.size ≤ 4194304) (hD : DiskSt w0 w g (su1 a) R) : Calls Try.prog 10 #[.pointer (some ⟨g, 0, none⟩), .string ⟨#[97]⟩, .string b] w fun e w' => e = .returned (.int .i64 0) ∧ DiskSt w0 w' g (ro2 a b) R := by
  have := append_d w0 w R g _ ⟨#[97]⟩ b hD (ro_g1 (by omega)) (by simp only [su1]; omega)
  rwa [ro_e2 h] at this
theorem ro_c3 (h : a.size ≤ 4194304) (h1 : ¬ a.size + b.size ≤ 4194304) (h2 : b.size ≤ 4194305) (hD : DiskSt w0 w g (su1 a) R) : Calls Try.prog 10 #[.pointer (some ⟨g, 0, none⟩), .string ⟨#[97]⟩, .string b] w fun e w' => e = .returned (.int .i64 15) ∧ DiskSt w0 w' g (su1 a) R := by
  have := append_d w0 w R g _ ⟨#[97]⟩ b hD (ro_g1 h) (by simp only [su1]; omega)
  rwa [ro_e3 h1] at this
theorem ro_c4 (h : a.size + b.size = 4194304) (hD : DiskSt w0 w g (ro2 a b) R) : Calls Try.prog 10 #[.pointer (some ⟨g, 0, none⟩), .string ⟨#[97]⟩, .string ⟨#[120]⟩] w fun e w' => e = .returned (.int .i64 15) ∧ DiskSt w0 w' g (ro2 a b) R := by
  have := append_d w0 w R g _ ⟨#[97]⟩ ⟨#[120]⟩ hD (ro_g2 (by omega)) (by simp only [ro2]; have : (⟨#[120]⟩ : ByteArray).size = 1 := rfl; omega)
  rwa [ro_e4 h] at this
theorem ro_c5 (hD : DiskSt w0 w g (ro2 a b) R) : Calls Try.prog 13 #[.pointer (some ⟨g, 0, none⟩), .string ⟨#[97]⟩] w fun e w' => e = .returned (.tuple #[.string ⟨(a.data.toList ++ b.data.toList).toArray⟩, .int .i64 0]) ∧ w = w' :=
  read_d w0 w R g _ _ hD
end

theorem DiskSt.push {w0 w : World} {g : Nat} {σ : DiskS} {R R' : List Hp} (h : ∀ D : List Hp, St w0 w (D ++ R) → St w0 w (D ++ R')) (hD : DiskSt w0 w g σ R) : DiskSt w0 w g σ R' := by
  obtain ⟨m, kvs, H, h1, hS⟩ := hD
  refine ⟨m, kvs, H, h1, ?_⟩
  have := h (.cells g [.map (some m), .int .i64 σ.clock] 51 :: .mp m .string kvs :: H) (by simpa using hS)
  simpa using this

/-- The disk seen as the head of the memory, and again as the disk. -/
theorem DiskSt.use {w0 w : World} {g : Nat} {σ : DiskS} {R : List Hp} (hD : DiskSt w0 w g σ R) : ∃ D : List Hp, St w0 w (D ++ R) ∧ ∀ w' R', St w0 w' (D ++ R') → DiskSt w0 w' g σ R' := by
  obtain ⟨m, kvs, H, h1, hS⟩ := hD
  exact ⟨.cells g [.map (some m), .int .i64 σ.clock] 51 :: .mp m .string kvs :: H, by simpa using hS, fun w' R' h => ⟨m, kvs, H, h1, by simpa using h⟩⟩

set_option maxRecDepth 100000 in
set_option maxHeartbeats 1000000 in
theorem room_c (w0 : World) (k : Int) (hk : -9223372036854775808 ≤ k ∧ k ≤ 9223372036854775807) :
    Calls Try.prog 4 #[.int .i64 k] w0 fun e w' => e = .returned (.bool true) ∧ St w0 w' [] := by
  have hS := St.init w0
  obtain ⟨N, hN, hN2⟩ : ∃ N : Nat, max 0 (min k 4194304) = (N : Int) ∧ N ≤ 4194304 := ⟨(max 0 (min k 4194304)).toNat, by omega, by omega⟩
  obtain ⟨M, hM⟩ : ∃ M : Nat, (4194304 : Int) - N = (M : Int) := ⟨4194304 - N, by omega⟩
  have hNM : N + M = 4194304 := by omega
  have z1 : (zs N).size ≤ 4194304 := by rw [zs_size]; omega
  have z2 : ¬ (zs N).size + (zs (M + 1)).size ≤ 4194304 := by rw [zs_size, zs_size]; omega
  have z3 : (zs (M + 1)).size ≤ 4194305 := by rw [zs_size]; omega
  have z4 : (zs N).size + (zs M).size ≤ 4194304 := by rw [zs_size, zs_size]; omega
  have z5 : (zs N).size + (zs M).size = 4194304 := by rw [zs_size, zs_size]; omega
  have Z := Lib.hid hNM
  have Z2 := Lib.hid z2
  have Z5 := Lib.hid z5
  clear hNM z2 z5
  go_enter Try.func4, Try.ntmps4
  go_wp2_with (first | ((with_reducible show WGd ..); (with_reducible apply wpA_guard); exact rfl; skip) | (go_at_call 9; with_reducible refine (new_c w0 _ [] hS).mono ?_; rintro _ _ ⟨g, rfl, hD⟩; obtain ⟨D, hS, hb0⟩ := hD.use) | ((first | ((with_reducible show wpList _ _ _ (⟨_, .makeSlice _ _ _, _, _, _, none⟩ :: _) _ _); (with_reducible apply wpA_makeB hS (n := N)); exact rfl; exact rfl; exact Try.underlying33; kernel_rfl; exact (by unfold maxLen; omega); exact (by omega); intro _ wx hS) | ((with_reducible show wpList _ _ _ (⟨_, .makeSlice _ _ _, _, _, _, none⟩ :: _) _ _); (with_reducible apply wpA_makeB hS (n := M + 1)); exact rfl; exact rfl; exact Try.underlying33; kernel_rfl; exact (by unfold maxLen; omega); exact (by omega); intro _ wx hS) | ((with_reducible show wpList _ _ _ (⟨_, .makeSlice _ _ _, _, _, _, none⟩ :: _) _ _); (with_reducible apply wpA_makeB hS (n := M)); exact rfl; exact rfl; exact Try.underlying33; kernel_rfl; exact (by unfold maxLen; omega); exact (by omega); intro _ wx hS)); (try simp only [Act.put, List.setIfInBounds_toArray, List.set_cons_zero, List.set_cons_succ])) | ((with_reducible show wpList _ _ _ (⟨_, .convert _ _ _, _, _, _, none⟩ :: _) _ _); (with_reducible apply wpA_toString hS 0); exact rfl; exact rfl; exact Try.underlying33; exact Try.underlying5; exact Try.underlying9) | (go_at_call 10; with_reducible refine (ro_c1 (a := zs N) z1 (hb0 _ _ hS.tail)).mono ?_; rintro _ _ ⟨rfl, hD1⟩; clear hb0; obtain ⟨D1, hS, hb1⟩ := hD1.use) | (go_at_call 10; with_reducible refine (ro_c3 (a := zs N) (b := zs (M + 1)) z1 Z2.out z3 (hb1 _ _ hS.tail)).mono ?_; rintro _ _ ⟨rfl, hD2⟩; clear hb1; obtain ⟨D2, hS, hb2⟩ := hD2.use) | (go_at_call 10; with_reducible refine (ro_c2 (a := zs N) (b := zs M) z4 (hb2 _ _ hS.tail)).mono ?_; rintro _ _ ⟨rfl, hD3⟩; clear hb2) | (go_at_call 10; with_reducible refine (ro_c4 Z5.out hD3).mono ?_; rintro _ _ ⟨rfl, hD4⟩) | (go_at_call 13; with_reducible refine (ro_c5 hD4).mono ?_; rintro _ _ ⟨rfl, rfl⟩) | (go_at_call 8; with_reducible refine (awake_c w0 _ [] hD4.rest).mono ?_; rintro _ _ ⟨rfl, hS⟩) | ((with_reducible show WLd ..); (with_reducible apply wpA_load); exact rfl; (first | ((with_reducible apply St.cellI hS); (focus repeat constructor); exact rfl) | assumption); kernel_rfl) | ((with_reducible show WSt ..); (with_reducible apply wpA_store1I hS); exact rfl; (focus repeat constructor); exact rfl; exact rfl; exact rfl; exact rfl; kernel_rfl; intro wx hS; (try simp only [Act.put, List.setIfInBounds_toArray, List.set_cons_zero, List.set_cons_succ]); (try simp only [Act.eval, Array.getD_eq_getD_getElem?, List.getElem?_toArray, List.getElem?_cons_succ, List.getElem?_cons_zero, Option.getD_some, List.set_cons_succ, List.set_cons_zero, Value.cells, List.toList_toArray] at hS)) | ((with_reducible show WBx ..); (with_reducible apply wpA_box hS); exact rfl; exact rfl; intro _ wx hS; (try simp only [Act.put, List.setIfInBounds_toArray, List.set_cons_zero, List.set_cons_succ]); (try simp only [Act.eval, Array.getD_eq_getD_getElem?, List.getElem?_toArray, List.getElem?_cons_succ, List.getElem?_cons_zero, Option.getD_some, List.set_cons_succ, List.set_cons_zero, Value.cells, List.toList_toArray] at hS)))
  all_goals first | (exfalso; have := Z.out; omega) | (go_ret; exact ⟨rfl, hS⟩)
end Go.Proofs.Ytbigkonbdnbnpaa
