/-
  Sessions that are none.
-/
import Derived.Test.YtodojllclghoiaaSesAwake
namespace Go.Proofs.Ytodojllclghoiaa
set_option linter.unusedVariables false
set_option linter.unusedSimpArgs false
open Go.RowKit

section
variable {w0 w : World} {H : List Hp}
set_option maxRecDepth 100000 in
theorem open_nil (hS : St w0 w H) (c l : Int) : Calls Try.prog 9 #[.pointer none, .int .i64 c, .int .i64 l] w fun e w' => e = .returned (.tuple #[.int .i64 0, .bool false, .int .i64 1]) ∧ St w0 w' H := by
  go_enter Try.func9, Try.ntmps9
  go_wp2_with (first | ((with_reducible show WGd ..); (with_reducible apply wpA_guard); exact rfl; skip) | ((with_reducible show WLd ..); (with_reducible apply wpA_load); exact rfl; (first | ((with_reducible apply St.cellI hS); (focus repeat constructor); exact rfl) | assumption); kernel_rfl) | ((with_reducible show WSt ..); (with_reducible apply wpA_store1I hS); exact rfl; (focus repeat constructor); exact rfl; exact rfl; exact rfl; exact rfl; kernel_rfl; intro wx hS; (try simp only [Act.put, List.setIfInBounds_toArray, List.set_cons_zero, List.set_cons_succ]); (try simp only [Act.eval, Array.getD_eq_getD_getElem?, List.getElem?_toArray, List.getElem?_cons_succ, List.getElem?_cons_zero, Option.getD_some, List.set_cons_succ, List.set_cons_zero, Value.cells, List.toList_toArray] at hS)) | ((with_reducible show WBx ..); (with_reducible apply wpA_box hS); exact rfl; exact rfl; intro _ wx hS; (try simp only [Act.put, List.setIfInBounds_toArray, List.set_cons_zero, List.set_cons_succ]); (try simp only [Act.eval, Array.getD_eq_getD_getElem?, List.getElem?_toArray, List.getElem?_cons_succ, List.getElem?_cons_zero, Option.getD_some, List.set_cons_succ, List.set_cons_zero, Value.cells, List.toList_toArray] at hS)))
  go_ret3
  exact ⟨rfl, hS⟩
set_option maxRecDepth 100000 in
theorem client_nil (hS : St w0 w H) (c : Int) : Calls Try.prog 21 #[.pointer none, .int .i64 c] w fun e w' => e = .returned (.tuple #[.int .i64 0, .int .i64 0, .bool false]) ∧ St w0 w' H := by
  go_enter Try.func21, Try.ntmps21
  go_wp2_with (first | ((with_reducible show WGd ..); (with_reducible apply wpA_guard); exact rfl; skip) | (go_at_call 24; (with_reducible refine (sfind_nil hS).mono ?_); rintro _ _ ⟨rfl, hS⟩) | ((with_reducible show WLd ..); (with_reducible apply wpA_load); exact rfl; (first | ((with_reducible apply St.cellI hS); (focus repeat constructor); exact rfl) | assumption); kernel_rfl) | ((with_reducible show WSt ..); (with_reducible apply wpA_store1I hS); exact rfl; (focus repeat constructor); exact rfl; exact rfl; exact rfl; exact rfl; kernel_rfl; intro wx hS; (try simp only [Act.put, List.setIfInBounds_toArray, List.set_cons_zero, List.set_cons_succ]); (try simp only [Act.eval, Array.getD_eq_getD_getElem?, List.getElem?_toArray, List.getElem?_cons_succ, List.getElem?_cons_zero, Option.getD_some, List.set_cons_succ, List.set_cons_zero, Value.cells, List.toList_toArray] at hS)) | ((with_reducible show WBx ..); (with_reducible apply wpA_box hS); exact rfl; exact rfl; intro _ wx hS; (try simp only [Act.put, List.setIfInBounds_toArray, List.set_cons_zero, List.set_cons_succ]); (try simp only [Act.eval, Array.getD_eq_getD_getElem?, List.getElem?_toArray, List.getElem?_cons_succ, List.getElem?_cons_zero, Option.getD_some, List.set_cons_succ, List.set_cons_zero, Value.cells, List.toList_toArray] at hS)))
  go_ret3
  exact ⟨rfl, hS⟩
set_option maxRecDepth 100000 in
theorem begin_nil (hS : St w0 w H) (c l : Int) : Calls Try.prog 10 #[.pointer none, .int .i64 c, .int .i64 l] w fun e w' => e = .returned (.tuple #[.agg #[.int .i64 0, .int .i64 0, .int .i64 0, .int .u64 0, .int .i64 0], .int .i64 4]) ∧ St w0 w' H := by
  go_enter Try.func10, Try.ntmps10
  go_wp2_with (first | ((with_reducible show WGd ..); (with_reducible apply wpA_guard); exact rfl; skip) | (go_at_call 24; skip; (with_reducible refine (sfind_nil hS).mono ?_); rintro _ _ ⟨rfl, hS⟩; skip) | ((first | ((with_reducible show WAl ..); (with_reducible apply wpA_alloc (t := 30) hS (v := .agg #[.int .i64 0, .int .i64 0, .int .i64 0, .int .u64 0, .int .i64 0])); kernel_rfl; exact rfl; intro _ wx hS) | ((with_reducible show WBx ..); (with_reducible apply wpA_box hS); exact rfl; exact rfl; intro _ wx hS)); (try simp only [Act.put, List.setIfInBounds_toArray, List.set_cons_zero, List.set_cons_succ]); (try simp only [Act.eval, Array.getD_eq_getD_getElem?, List.getElem?_toArray, List.getElem?_cons_succ, List.getElem?_cons_zero, Option.getD_some, List.set_cons_succ, List.set_cons_zero, Value.cells, List.toList_toArray] at hS)) | ((with_reducible show WLd ..); (with_reducible apply wpA_loadN (t := 30)); exact rfl; ((with_reducible apply Hp.rangeI hS (n := 5)); (focus repeat constructor)); kernel_rfl; kernel_rfl; (try simp only [Act.put, List.setIfInBounds_toArray, List.set_cons_zero, List.set_cons_succ])) | ((with_reducible show WSt ..); (with_reducible apply wpA_storeI hS); exact rfl; (focus repeat constructor); exact rfl; exact rfl; exact rfl; exact (Nat.le_of_ble_eq_true rfl); kernel_rfl; intro wx hS; (try simp only [Act.put, List.setIfInBounds_toArray, List.set_cons_zero, List.set_cons_succ]); (try simp only [Act.eval, Array.getD_eq_getD_getElem?, List.getElem?_toArray, List.getElem?_cons_succ, List.getElem?_cons_zero, Option.getD_some, List.set_cons_succ, List.set_cons_zero, Value.cells, List.toList_toArray] at hS); (try simp only [List.take_zero, List.take_succ_cons, List.nil_append, List.cons_append, List.length_cons, List.length_nil, Nat.reduceAdd, Nat.zero_add, List.drop_succ_cons, List.drop_zero, List.drop_nil, List.append_nil] at hS)) | ((with_reducible show WLd ..); (with_reducible apply wpA_load); exact rfl; (first | ((with_reducible apply St.cellI hS); (focus repeat constructor); exact rfl) | assumption); kernel_rfl) | ((with_reducible show WSt ..); (with_reducible apply wpA_store1I hS); exact rfl; (focus repeat constructor); exact rfl; exact rfl; exact rfl; exact rfl; kernel_rfl; intro wx hS; (try simp only [Act.put, List.setIfInBounds_toArray, List.set_cons_zero, List.set_cons_succ]); (try simp only [Act.eval, Array.getD_eq_getD_getElem?, List.getElem?_toArray, List.getElem?_cons_succ, List.getElem?_cons_zero, Option.getD_some, List.set_cons_succ, List.set_cons_zero, Value.cells, List.toList_toArray] at hS)))
  refine bodyPost_ret (results_cell_tmp rfl rfl (Hp.range hS 0 rfl 0 5) (by kernel_rfl) (by kernel_rfl)) rfl ?_
  exact ⟨rfl, hS.tail⟩
set_option maxRecDepth 100000 in
theorem close_nil (hS : St w0 w H) (c : Int) : Calls Try.prog 23 #[.pointer none, .int .i64 c] w fun e w' => e = .returned (.bool false) ∧ St w0 w' H := by
  go_enter Try.func23, Try.ntmps23
  go_wp2_with (first | ((with_reducible show WGd ..); (with_reducible apply wpA_guard); exact rfl; skip) | (go_at_call 24; (with_reducible refine (sfind_nil hS).mono ?_); rintro _ _ ⟨rfl, hS⟩) | ((with_reducible show WLd ..); (with_reducible apply wpA_load); exact rfl; (first | ((with_reducible apply St.cellI hS); (focus repeat constructor); exact rfl) | assumption); kernel_rfl) | ((with_reducible show WSt ..); (with_reducible apply wpA_store1I hS); exact rfl; (focus repeat constructor); exact rfl; exact rfl; exact rfl; exact rfl; kernel_rfl; intro wx hS; (try simp only [Act.put, List.setIfInBounds_toArray, List.set_cons_zero, List.set_cons_succ]); (try simp only [Act.eval, Array.getD_eq_getD_getElem?, List.getElem?_toArray, List.getElem?_cons_succ, List.getElem?_cons_zero, Option.getD_some, List.set_cons_succ, List.set_cons_zero, Value.cells, List.toList_toArray] at hS)) | ((with_reducible show WBx ..); (with_reducible apply wpA_box hS); exact rfl; exact rfl; intro _ wx hS; (try simp only [Act.put, List.setIfInBounds_toArray, List.set_cons_zero, List.set_cons_succ]); (try simp only [Act.eval, Array.getD_eq_getD_getElem?, List.getElem?_toArray, List.getElem?_cons_succ, List.getElem?_cons_zero, Option.getD_some, List.set_cons_succ, List.set_cons_zero, Value.cells, List.toList_toArray] at hS)))
  go_ret
  exact ⟨rfl, hS⟩
set_option maxRecDepth 100000 in
theorem end_nil (hS : St w0 w H) (r : RepS) : Calls Try.prog 11 #[.pointer none, .agg #[.int .i64 r.session, .int .i64 r.seq, .int .i64 r.err, .int .u64 r.token, .int .i64 r.n]] w fun e w' => e = .returned (.bool false) ∧ St w0 w' H := by
  go_enter Try.func11, Try.ntmps11
  go_wp2_with (first | ((with_reducible show WGd ..); (with_reducible apply wpA_guard); exact rfl; skip) | (go_at_call 24; (with_reducible refine (sfind_nil hS).mono ?_); rintro _ _ ⟨rfl, hS⟩) | ((with_reducible show WLd ..); (with_reducible apply wpA_loadN (t := 30)); exact rfl; ((with_reducible apply Hp.rangeI hS (n := 5)); (focus repeat constructor)); kernel_rfl; kernel_rfl; (try simp only [Act.put, List.setIfInBounds_toArray, List.set_cons_zero, List.set_cons_succ])) | ((with_reducible show WSt ..); (with_reducible apply wpA_storeI hS); exact rfl; (focus repeat constructor); exact rfl; exact rfl; exact rfl; exact (Nat.le_of_ble_eq_true rfl); kernel_rfl; intro wx hS; (try simp only [Act.put, List.setIfInBounds_toArray, List.set_cons_zero, List.set_cons_succ]); (try simp only [Act.eval, Array.getD_eq_getD_getElem?, List.getElem?_toArray, List.getElem?_cons_succ, List.getElem?_cons_zero, Option.getD_some, List.set_cons_succ, List.set_cons_zero, Value.cells, List.toList_toArray] at hS); (try simp only [List.take_zero, List.take_succ_cons, List.nil_append, List.cons_append, List.length_cons, List.length_nil, Nat.reduceAdd, Nat.zero_add, List.drop_succ_cons, List.drop_zero, List.drop_nil, List.append_nil] at hS)) | ((with_reducible show WLd ..); (with_reducible apply wpA_load); exact rfl; (first | ((with_reducible apply St.cellI hS); (focus repeat constructor); exact rfl) | assumption); kernel_rfl) | ((with_reducible show WSt ..); (with_reducible apply wpA_store1I hS); exact rfl; (focus repeat constructor); exact rfl; exact rfl; exact rfl; exact rfl; kernel_rfl; intro wx hS; (try simp only [Act.put, List.setIfInBounds_toArray, List.set_cons_zero, List.set_cons_succ]); (try simp only [Act.eval, Array.getD_eq_getD_getElem?, List.getElem?_toArray, List.getElem?_cons_succ, List.getElem?_cons_zero, Option.getD_some, List.set_cons_succ, List.set_cons_zero, Value.cells, List.toList_toArray] at hS)) | ((with_reducible show WBx ..); (with_reducible apply wpA_box hS); exact rfl; exact rfl; intro _ wx hS; (try simp only [Act.put, List.setIfInBounds_toArray, List.set_cons_zero, List.set_cons_succ]); (try simp only [Act.eval, Array.getD_eq_getD_getElem?, List.getElem?_toArray, List.getElem?_cons_succ, List.getElem?_cons_zero, Option.getD_some, List.set_cons_succ, List.set_cons_zero, Value.cells, List.toList_toArray] at hS)))
  refine wp_region_St hS (by kernel_rfl) (by kernel_rfl) (Bx.out ?_)
  refine bQ_val ?_ rfl ?_ ?_
  rotate_left
  · intro w hS; go_simp; (first | done | (with_reducible rfl) | (refine (if_pos ?_).trans ?_; (focus omega); with_reducible rfl) | skip)
  (simp only [Act.put, List.setIfInBounds_toArray, List.set_cons_zero, List.set_cons_succ])
  refine bQ_val ?_ rfl ?_ ?_
  rotate_left
  · intro w hS; go_simp; (first | done | (with_reducible rfl) | (refine (if_pos ?_).trans ?_; (focus omega); with_reducible rfl) | skip)
  (simp only [Act.put, List.setIfInBounds_toArray, List.set_cons_zero, List.set_cons_succ])
  refine bQ_val ?_ rfl ?_ ?_
  rotate_left
  · intro w hS; go_simp; (first | done | (with_reducible rfl) | (refine (if_pos ?_).trans ?_; (focus omega); with_reducible rfl) | skip)
  (simp only [Act.put, List.setIfInBounds_toArray, List.set_cons_zero, List.set_cons_succ])
  refine bQ_skip (by exact rfl) ?_
  (simp only [Act.put, List.setIfInBounds_toArray, List.set_cons_zero, List.set_cons_succ])
  refine bQ_skip (by exact rfl) ?_
  (simp only [Act.put, List.setIfInBounds_toArray, List.set_cons_zero, List.set_cons_succ])
  refine bQ_skip (by exact rfl) ?_
  (simp only [Act.put, List.setIfInBounds_toArray, List.set_cons_zero, List.set_cons_succ])
  refine bQ_skip (by exact rfl) ?_
  (simp only [Act.put, List.setIfInBounds_toArray, List.set_cons_zero, List.set_cons_succ])
  refine bQ_val ?_ rfl ?_ ?_
  rotate_left
  · intro w hS; go_simp; (first | done | (with_reducible rfl) | (refine (if_pos ?_).trans ?_; (focus omega); with_reducible rfl) | skip)
  (simp only [Act.put, List.setIfInBounds_toArray, List.set_cons_zero, List.set_cons_succ])
  refine bQ_val ?_ rfl ?_ ?_
  rotate_left
  · intro w hS; go_simp; (first | done | (with_reducible rfl) | (refine (if_pos ?_).trans ?_; (focus omega); with_reducible rfl) | skip)
  (simp only [Act.put, List.setIfInBounds_toArray, List.set_cons_zero, List.set_cons_succ])
  refine bQ_skip (by exact rfl) ?_
  (simp only [Act.put, List.setIfInBounds_toArray, List.set_cons_zero, List.set_cons_succ])
  refine bQ_skip (by exact rfl) ?_
  (simp only [Act.put, List.setIfInBounds_toArray, List.set_cons_zero, List.set_cons_succ])
  refine bQ_skip (by exact rfl) ?_
  (simp only [Act.put, List.setIfInBounds_toArray, List.set_cons_zero, List.set_cons_succ])
  refine bQ_skip (by exact rfl) ?_
  (simp only [Act.put, List.setIfInBounds_toArray, List.set_cons_zero, List.set_cons_succ])
  refine bQ_skip (by exact rfl) ?_
  (simp only [Act.put, List.setIfInBounds_toArray, List.set_cons_zero, List.set_cons_succ])
  refine bQ_val ?_ rfl ?_ ?_
  rotate_left
  · intro w hS; go_simp; (first | done | (with_reducible rfl) | (refine (if_pos ?_).trans ?_; (focus omega); with_reducible rfl) | skip)
  (simp only [Act.put, List.setIfInBounds_toArray, List.set_cons_zero, List.set_cons_succ])
  refine bQ_val ?_ rfl ?_ ?_
  rotate_left
  · intro w hS; go_simp; (first | done | (with_reducible rfl) | (refine (if_pos ?_).trans ?_; (focus omega); with_reducible rfl) | skip)
  (simp only [Act.put, List.setIfInBounds_toArray, List.set_cons_zero, List.set_cons_succ])
  refine bQ_skip (by exact rfl) ?_
  (simp only [Act.put, List.setIfInBounds_toArray, List.set_cons_zero, List.set_cons_succ])
  refine bQ_skip (by exact rfl) ?_
  (simp only [Act.put, List.setIfInBounds_toArray, List.set_cons_zero, List.set_cons_succ])
  refine bQ_skip (by exact rfl) ?_
  (simp only [Act.put, List.setIfInBounds_toArray, List.set_cons_zero, List.set_cons_succ])
  refine bQ_skip (by exact rfl) ?_
  (simp only [Act.put, List.setIfInBounds_toArray, List.set_cons_zero, List.set_cons_succ])
  refine bQ_skip (by exact rfl) ?_
  (simp only [Act.put, List.setIfInBounds_toArray, List.set_cons_zero, List.set_cons_succ])
  refine bQ_skip (by exact rfl) ?_
  (simp only [Act.put, List.setIfInBounds_toArray, List.set_cons_zero, List.set_cons_succ])
  refine bQ_skip (by exact rfl) ?_
  (simp only [Act.put, List.setIfInBounds_toArray, List.set_cons_zero, List.set_cons_succ])
  refine bQ_val ?_ rfl ?_ ?_
  rotate_left
  · intro w hS; go_simp; (first | done | (with_reducible rfl) | (refine (if_pos ?_).trans ?_; (focus omega); with_reducible rfl) | skip)
  (simp only [Act.put, List.setIfInBounds_toArray, List.set_cons_zero, List.set_cons_succ])
  refine ⟨wpQuiet_nil ?_⟩
  intro wx hS
  go_wp2_with (first | ((with_reducible show WGd ..); (with_reducible apply wpA_guard); exact rfl; skip) | ((with_reducible show WLd ..); (with_reducible apply wpA_load); exact rfl; (first | ((with_reducible apply St.cellI hS); (focus repeat constructor); exact rfl) | assumption); kernel_rfl) | ((with_reducible show WSt ..); (with_reducible apply wpA_store1I hS); exact rfl; (focus repeat constructor); exact rfl; exact rfl; exact rfl; exact rfl; kernel_rfl; intro wx hS; (try simp only [Act.put, List.setIfInBounds_toArray, List.set_cons_zero, List.set_cons_succ]); (try simp only [Act.eval, Array.getD_eq_getD_getElem?, List.getElem?_toArray, List.getElem?_cons_succ, List.getElem?_cons_zero, Option.getD_some, List.set_cons_succ, List.set_cons_zero, Value.cells, List.toList_toArray] at hS)) | ((with_reducible show WBx ..); (with_reducible apply wpA_box hS); exact rfl; exact rfl; intro _ wx hS; (try simp only [Act.put, List.setIfInBounds_toArray, List.set_cons_zero, List.set_cons_succ]); (try simp only [Act.eval, Array.getD_eq_getD_getElem?, List.getElem?_toArray, List.getElem?_cons_succ, List.getElem?_cons_zero, Option.getD_some, List.set_cons_succ, List.set_cons_zero, Value.cells, List.toList_toArray] at hS)))
  go_ret
  exact ⟨rfl, hS.tail⟩
set_option maxRecDepth 100000 in
theorem all_nil (hS : St w0 w H) : Calls Try.prog 18 #[.pointer none] w fun e w' => e = .returned (.slice none 0 0) ∧ St w0 w' H := by
  go_enter Try.func18, Try.ntmps18
  go_wp2_with (first | ((with_reducible show WGd ..); (with_reducible apply wpA_guard); exact rfl; skip) | ((with_reducible show WLd ..); (with_reducible apply wpA_load); exact rfl; (first | ((with_reducible apply St.cellI hS); (focus repeat constructor); exact rfl) | assumption); kernel_rfl) | ((with_reducible show WSt ..); (with_reducible apply wpA_store1I hS); exact rfl; (focus repeat constructor); exact rfl; exact rfl; exact rfl; exact rfl; kernel_rfl; intro wx hS; (try simp only [Act.put, List.setIfInBounds_toArray, List.set_cons_zero, List.set_cons_succ]); (try simp only [Act.eval, Array.getD_eq_getD_getElem?, List.getElem?_toArray, List.getElem?_cons_succ, List.getElem?_cons_zero, Option.getD_some, List.set_cons_succ, List.set_cons_zero, Value.cells, List.toList_toArray] at hS)) | ((with_reducible show WBx ..); (with_reducible apply wpA_box hS); exact rfl; exact rfl; intro _ wx hS; (try simp only [Act.put, List.setIfInBounds_toArray, List.set_cons_zero, List.set_cons_succ]); (try simp only [Act.eval, Array.getD_eq_getD_getElem?, List.getElem?_toArray, List.getElem?_cons_succ, List.getElem?_cons_zero, Option.getD_some, List.set_cons_succ, List.set_cons_zero, Value.cells, List.toList_toArray] at hS)))
  go_ret
  exact ⟨rfl, hS⟩
set_option maxRecDepth 100000 in
theorem encode_nil (hS : St w0 w H) : Calls Try.prog 16 #[.pointer none] w fun e w' => e = .returned (.string ⟨#[]⟩) ∧ St w0 w' H := by
  go_enter Try.func16, Try.ntmps16
  go_wp2_with (first | ((with_reducible show WGd ..); (with_reducible apply wpA_guard); exact rfl; skip) | ((with_reducible show WLd ..); (with_reducible apply wpA_load); exact rfl; (first | ((with_reducible apply St.cellI hS); (focus repeat constructor); exact rfl) | assumption); kernel_rfl) | ((with_reducible show WSt ..); (with_reducible apply wpA_store1I hS); exact rfl; (focus repeat constructor); exact rfl; exact rfl; exact rfl; exact rfl; kernel_rfl; intro wx hS; (try simp only [Act.put, List.setIfInBounds_toArray, List.set_cons_zero, List.set_cons_succ]); (try simp only [Act.eval, Array.getD_eq_getD_getElem?, List.getElem?_toArray, List.getElem?_cons_succ, List.getElem?_cons_zero, Option.getD_some, List.set_cons_succ, List.set_cons_zero, Value.cells, List.toList_toArray] at hS)) | ((with_reducible show WBx ..); (with_reducible apply wpA_box hS); exact rfl; exact rfl; intro _ wx hS; (try simp only [Act.put, List.setIfInBounds_toArray, List.set_cons_zero, List.set_cons_succ]); (try simp only [Act.eval, Array.getD_eq_getD_getElem?, List.getElem?_toArray, List.getElem?_cons_succ, List.getElem?_cons_zero, Option.getD_some, List.set_cons_succ, List.set_cons_zero, Value.cells, List.toList_toArray] at hS)))
  go_ret
  exact ⟨rfl, hS⟩
end

theorem wfu64 {n : Int} (h : (Lit.int .u64 n).wf = true) : 0 ≤ n ∧ n < 18446744073709551616 := by
  simp [Lit.wf, IntKind.min, IntKind.max, IntKind.signed, IntKind.bits] at h
  omega
set_option maxRecDepth 100000 in
theorem reply_cs {w : World} {cs : List Value} (h : Rd Try.prog w 30 cs) : ∃ r : RepS, I64 r.session ∧ I64 r.seq ∧ r.ok ∧ cs = r.cells := by
  obtain ⟨hl, hf⟩ := h.fields Try.underlying30
  have hc : Try.prog.cellsOf 30 = 5 := by kernel_rfl
  have hk3 : Try.prog.cellsOf 3 = 1 := by kernel_rfl
  have hkE : Try.prog.cellsOf 25 = 1 := by kernel_rfl
  have hkU : Try.prog.cellsOf 28 = 1 := by kernel_rfl
  rw [hc] at hl
  obtain ⟨c0, r0, rfl, l0⟩ := cons_of_len hl
  obtain ⟨c1, r1, rfl, l1⟩ := cons_of_len l0
  obtain ⟨c2, r2, rfl, l2⟩ := cons_of_len l1
  obtain ⟨c3, r3, rfl, l3⟩ := cons_of_len l2
  obtain ⟨c4, r4, rfl, l4⟩ := cons_of_len l3
  obtain rfl := List.length_eq_zero_iff.1 l4
  have f0 : Rd Try.prog w 3 [c0] := by simpa [hk3, hkE, hkU] using hf 0 _ rfl
  obtain ⟨x0, e0, w0⟩ := f0.int Try.underlying3
  simp only [List.cons.injEq, and_true] at e0
  subst e0
  have f1 : Rd Try.prog w 3 [c1] := by simpa [hk3, hkE, hkU] using hf 1 _ rfl
  obtain ⟨x1, e1, w1⟩ := f1.int Try.underlying3
  simp only [List.cons.injEq, and_true] at e1
  subst e1
  have f2 : Rd Try.prog w 25 [c2] := by simpa [hk3, hkE, hkU] using hf 2 _ rfl
  obtain ⟨x2, e2, w2⟩ := f2.int Try.underlying25
  simp only [List.cons.injEq, and_true] at e2
  subst e2
  have f3 : Rd Try.prog w 28 [c3] := by simpa [hk3, hkE, hkU] using hf 3 _ rfl
  obtain ⟨x3, e3, w3⟩ := f3.int Try.underlying28
  simp only [List.cons.injEq, and_true] at e3
  subst e3
  have f4 : Rd Try.prog w 3 [c4] := by simpa [hk3, hkE, hkU] using hf 4 _ rfl
  obtain ⟨x4, e4, w4⟩ := f4.int Try.underlying3
  simp only [List.cons.injEq, and_true] at e4
  subst e4

  exact ⟨⟨x0, x1, x2, x3, x4⟩, wf64 w0, wf64 w1, ⟨wf64 w2, wfu64 w3, wf64 w4⟩, rfl⟩

set_option maxRecDepth 100000 in
theorem deed_v {w : World} {v : Value} (h : RdV Try.prog w 40 v) : ∃ (k n q : Int) (r : RepS), I64 k ∧ I64 n ∧ I64 q ∧ I64 r.session ∧ I64 r.seq ∧ r.ok ∧ v = .agg #[.int .i64 k, .int .i64 n, .int .i64 q, .int .i64 r.session, .int .i64 r.seq, .int .i64 r.err, .int .u64 r.token, .int .i64 r.n] := by
  obtain ⟨cs, rfl, hl, h⟩ := h.struct Try.underlying40
  obtain ⟨_, hf⟩ := h.fields Try.underlying40
  have hc : Try.prog.cellsOf 40 = 8 := by kernel_rfl
  have hk3 : Try.prog.cellsOf 3 = 1 := by kernel_rfl
  have hkc : Try.prog.cellsOf 30 = 5 := by kernel_rfl
  rw [hc] at hl
  obtain ⟨c0, r0, rfl, l0⟩ := cons_of_len hl
  obtain ⟨c1, r1, rfl, l1⟩ := cons_of_len l0
  obtain ⟨c2, r2, rfl, l2⟩ := cons_of_len l1
  obtain ⟨c3, r3, rfl, l3⟩ := cons_of_len l2
  obtain ⟨c4, r4, rfl, l4⟩ := cons_of_len l3
  obtain ⟨c5, r5, rfl, l5⟩ := cons_of_len l4
  obtain ⟨c6, r6, rfl, l6⟩ := cons_of_len l5
  obtain ⟨c7, r7, rfl, l7⟩ := cons_of_len l6
  obtain rfl := List.length_eq_zero_iff.1 l7
  have f0 : Rd Try.prog w 3 [c0] := by simpa [hk3] using hf 0 _ rfl
  obtain ⟨x0, e0, w0⟩ := f0.int Try.underlying3
  simp only [List.cons.injEq, and_true] at e0
  subst e0
  have f1 : Rd Try.prog w 3 [c1] := by simpa [hk3] using hf 1 _ rfl
  obtain ⟨x1, e1, w1⟩ := f1.int Try.underlying3
  simp only [List.cons.injEq, and_true] at e1
  subst e1
  have f2 : Rd Try.prog w 3 [c2] := by simpa [hk3] using hf 2 _ rfl
  obtain ⟨x2, e2, w2⟩ := f2.int Try.underlying3
  simp only [List.cons.injEq, and_true] at e2
  subst e2

  have f3 : Rd Try.prog w 30 [c3, c4, c5, c6, c7] := by simpa [hkc] using hf 3 _ rfl
  obtain ⟨r, h1, h2, h3, ec⟩ := reply_cs f3
  simp only [RepS.cells, List.cons.injEq, and_true] at ec
  obtain ⟨rfl, rfl, rfl, rfl, rfl⟩ := ec
  exact ⟨x0, x1, x2, r, wf64 w0, wf64 w1, wf64 w2, h1, h2, h3, rfl⟩

set_option maxRecDepth 100000 in
set_option maxHeartbeats 4000000 in
theorem none_v (w0 : World) (k n q : Int) (r : RepS) : Calls Try.prog 7 #[.agg #[.int .i64 k, .int .i64 n, .int .i64 q, .int .i64 r.session, .int .i64 r.seq, .int .i64 r.err, .int .u64 r.token, .int .i64 r.n]] w0 fun e w' => e = .returned (.bool true) ∧ St w0 w' [] := by
  have hS := St.init w0
  go_enter Try.func7, Try.ntmps7
  go_upto_region 5 with (first | ((with_reducible show WGd ..); (with_reducible apply wpA_guard); exact rfl; skip) | (go_at_call 9; (with_reducible refine (open_nil hS _ _).mono ?_); rintro _ _ ⟨rfl, hS⟩) | (go_at_call 21; (with_reducible refine (client_nil hS _).mono ?_); rintro _ _ ⟨rfl, hS⟩) | (go_at_call 10; (with_reducible refine (begin_nil hS _ _).mono ?_); rintro _ _ ⟨rfl, hS⟩) | (go_at_call 23; (with_reducible refine (close_nil hS _).mono ?_); rintro _ _ ⟨rfl, hS⟩) | (go_at_call 11; (with_reducible refine (end_nil hS r).mono ?_); rintro _ _ ⟨rfl, hS⟩) | (go_at_call 18; (with_reducible refine (all_nil hS).mono ?_); rintro _ _ ⟨rfl, hS⟩) | (go_at_call 16; (with_reducible refine (encode_nil hS).mono ?_); rintro _ _ ⟨rfl, hS⟩) | (go_at_call 12; (with_reducible refine (awake_c w0 _ _ hS).mono ?_); rintro _ _ ⟨rfl, hS⟩) | ((first | ((with_reducible show WAl ..); (with_reducible apply wpA_alloc (t := 30) hS (v := .agg #[.int .i64 0, .int .i64 0, .int .i64 0, .int .u64 0, .int .i64 0])); kernel_rfl; exact rfl; intro _ wx hS) | ((with_reducible show WBx ..); (with_reducible apply wpA_box hS); exact rfl; exact rfl; intro _ wx hS)); (try simp only [Act.put, List.setIfInBounds_toArray, List.set_cons_zero, List.set_cons_succ]); (try simp only [Act.eval, Array.getD_eq_getD_getElem?, List.getElem?_toArray, List.getElem?_cons_succ, List.getElem?_cons_zero, Option.getD_some, List.set_cons_succ, List.set_cons_zero, Value.cells, List.toList_toArray] at hS)) | ((with_reducible show WLd ..); (with_reducible apply wpA_loadN (t := 30)); exact rfl; ((with_reducible apply Hp.rangeI hS (n := 5)); (focus repeat constructor)); kernel_rfl; kernel_rfl; (try simp only [Act.put, List.setIfInBounds_toArray, List.set_cons_zero, List.set_cons_succ])) | ((with_reducible show WSt ..); (with_reducible apply wpA_storeI hS); exact rfl; (focus repeat constructor); exact rfl; exact rfl; exact rfl; exact (Nat.le_of_ble_eq_true rfl); kernel_rfl; intro wx hS; (try simp only [Act.put, List.setIfInBounds_toArray, List.set_cons_zero, List.set_cons_succ]); (try simp only [Act.eval, Array.getD_eq_getD_getElem?, List.getElem?_toArray, List.getElem?_cons_succ, List.getElem?_cons_zero, Option.getD_some, List.set_cons_succ, List.set_cons_zero, Value.cells, List.toList_toArray] at hS); (try simp only [List.take_zero, List.take_succ_cons, List.nil_append, List.cons_append, List.length_cons, List.length_nil, Nat.reduceAdd, Nat.zero_add, List.drop_succ_cons, List.drop_zero, List.drop_nil, List.append_nil] at hS)) | ((with_reducible show WLd ..); (with_reducible apply wpA_load); exact rfl; (first | ((with_reducible apply St.cellI hS); (focus repeat constructor); exact rfl) | assumption); kernel_rfl) | ((with_reducible show WSt ..); (with_reducible apply wpA_store1I hS); exact rfl; (focus repeat constructor); exact rfl; exact rfl; exact rfl; exact rfl; kernel_rfl; intro wx hS; (try simp only [Act.put, List.setIfInBounds_toArray, List.set_cons_zero, List.set_cons_succ]); (try simp only [Act.eval, Array.getD_eq_getD_getElem?, List.getElem?_toArray, List.getElem?_cons_succ, List.getElem?_cons_zero, Option.getD_some, List.set_cons_succ, List.set_cons_zero, Value.cells, List.toList_toArray] at hS)))
  try simp only [List.append_eq, List.cons_append, List.nil_append]
  go_wp2_with (first | ((with_reducible show WGd ..); (with_reducible apply wpA_guard); exact rfl; skip) | (go_at_call 9; (with_reducible refine (open_nil hS _ _).mono ?_); rintro _ _ ⟨rfl, hS⟩) | (go_at_call 21; (with_reducible refine (client_nil hS _).mono ?_); rintro _ _ ⟨rfl, hS⟩) | (go_at_call 10; (with_reducible refine (begin_nil hS _ _).mono ?_); rintro _ _ ⟨rfl, hS⟩) | (go_at_call 23; (with_reducible refine (close_nil hS _).mono ?_); rintro _ _ ⟨rfl, hS⟩) | (go_at_call 11; (with_reducible refine (end_nil hS r).mono ?_); rintro _ _ ⟨rfl, hS⟩) | (go_at_call 18; (with_reducible refine (all_nil hS).mono ?_); rintro _ _ ⟨rfl, hS⟩) | (go_at_call 16; (with_reducible refine (encode_nil hS).mono ?_); rintro _ _ ⟨rfl, hS⟩) | (go_at_call 12; (with_reducible refine (awake_c w0 _ _ hS).mono ?_); rintro _ _ ⟨rfl, hS⟩) | ((first | ((with_reducible show WAl ..); (with_reducible apply wpA_alloc (t := 30) hS (v := .agg #[.int .i64 0, .int .i64 0, .int .i64 0, .int .u64 0, .int .i64 0])); kernel_rfl; exact rfl; intro _ wx hS) | ((with_reducible show WBx ..); (with_reducible apply wpA_box hS); exact rfl; exact rfl; intro _ wx hS)); (try simp only [Act.put, List.setIfInBounds_toArray, List.set_cons_zero, List.set_cons_succ]); (try simp only [Act.eval, Array.getD_eq_getD_getElem?, List.getElem?_toArray, List.getElem?_cons_succ, List.getElem?_cons_zero, Option.getD_some, List.set_cons_succ, List.set_cons_zero, Value.cells, List.toList_toArray] at hS)) | ((with_reducible show WLd ..); (with_reducible apply wpA_loadN (t := 30)); exact rfl; ((with_reducible apply Hp.rangeI hS (n := 5)); (focus repeat constructor)); kernel_rfl; kernel_rfl; (try simp only [Act.put, List.setIfInBounds_toArray, List.set_cons_zero, List.set_cons_succ])) | ((with_reducible show WSt ..); (with_reducible apply wpA_storeI hS); exact rfl; (focus repeat constructor); exact rfl; exact rfl; exact rfl; exact (Nat.le_of_ble_eq_true rfl); kernel_rfl; intro wx hS; (try simp only [Act.put, List.setIfInBounds_toArray, List.set_cons_zero, List.set_cons_succ]); (try simp only [Act.eval, Array.getD_eq_getD_getElem?, List.getElem?_toArray, List.getElem?_cons_succ, List.getElem?_cons_zero, Option.getD_some, List.set_cons_succ, List.set_cons_zero, Value.cells, List.toList_toArray] at hS); (try simp only [List.take_zero, List.take_succ_cons, List.nil_append, List.cons_append, List.length_cons, List.length_nil, Nat.reduceAdd, Nat.zero_add, List.drop_succ_cons, List.drop_zero, List.drop_nil, List.append_nil] at hS)) | ((with_reducible show WLd ..); (with_reducible apply wpA_load); exact rfl; (first | ((with_reducible apply St.cellI hS); (focus repeat constructor); exact rfl) | assumption); kernel_rfl) | ((with_reducible show WSt ..); (with_reducible apply wpA_store1I hS); exact rfl; (focus repeat constructor); exact rfl; exact rfl; exact rfl; exact rfl; kernel_rfl; intro wx hS; (try simp only [Act.put, List.setIfInBounds_toArray, List.set_cons_zero, List.set_cons_succ]); (try simp only [Act.eval, Array.getD_eq_getD_getElem?, List.getElem?_toArray, List.getElem?_cons_succ, List.getElem?_cons_zero, Option.getD_some, List.set_cons_succ, List.set_cons_zero, Value.cells, List.toList_toArray] at hS)))
  go_ret
  exact ⟨rfl, hS.tail.tail⟩

theorem none_c (w : World) (v0 : Value) (h0 : RdV Try.prog w 40 v0) : Calls Try.prog 7 #[v0] w fun e w' => e = .returned (.bool true) ∧ St w w' [] := by
  obtain ⟨k, n, q, r, _, _, _, _, _, _, rfl⟩ := deed_v h0
  exact none_v w k n q r
end Go.Proofs.Ytodojllclghoiaa
