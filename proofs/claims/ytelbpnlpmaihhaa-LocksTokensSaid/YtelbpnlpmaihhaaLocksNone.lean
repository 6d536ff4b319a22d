/-
  Locks that are none.
-/
import Derived.Test.YtelbpnlpmaihhaaLocksAwake
import Derived.Test.YtelbpnlpmaihhaaOpen
namespace Go.Proofs.Ytelbpnlpmaihhaa
set_option linter.unusedVariables false
set_option linter.unusedSimpArgs false
open Go.RowKit

theorem cmd_cs {w : World} {cs : List Value} (h : Rd Try.prog w 30 cs) : ∃ c : CmdS, cs = [.int .i64 c.kind, .int .i64 c.session, .int .i64 c.seq, .string c.name, .int .i64 c.n] := by
  obtain ⟨hl, hf⟩ := h.fields Try.underlying30
  have hc : Try.prog.cellsOf 30 = 5 := by kernel_rfl
  have hk3 : Try.prog.cellsOf 3 = 1 := by kernel_rfl
  have hk9 : Try.prog.cellsOf 9 = 1 := by kernel_rfl
  rw [hc] at hl
  obtain ⟨c0, r0, rfl, l0⟩ := cons_of_len hl
  obtain ⟨c1, r1, rfl, l1⟩ := cons_of_len l0
  obtain ⟨c2, r2, rfl, l2⟩ := cons_of_len l1
  obtain ⟨c3, r3, rfl, l3⟩ := cons_of_len l2
  obtain ⟨c4, r4, rfl, l4⟩ := cons_of_len l3
  obtain rfl := List.length_eq_zero_iff.1 l4
  have f0 : Rd Try.prog w 3 [c0] := by simpa [hk3] using hf 0 _ rfl
  obtain ⟨x0, e0, _⟩ := f0.int Try.underlying3
  simp only [List.cons.injEq, and_true] at e0
  subst e0
  have f1 : Rd Try.prog w 3 [c1] := by simpa [hk3] using hf 1 _ rfl
  obtain ⟨x1, e1, _⟩ := f1.int Try.underlying3
  simp only [List.cons.injEq, and_true] at e1
  subst e1
  have f2 : Rd Try.prog w 3 [c2] := by simpa [hk3] using hf 2 _ rfl
  obtain ⟨x2, e2, _⟩ := f2.int Try.underlying3
  simp only [List.cons.injEq, and_true] at e2
  subst e2
  have f4 : Rd Try.prog w 3 [c4] := by simpa [hk3] using hf 4 _ rfl
  obtain ⟨x4, e4, _⟩ := f4.int Try.underlying3
  simp only [List.cons.injEq, and_true] at e4
  subst e4

  have f3 : Rd Try.prog w 9 [c3] := by simpa [hk9] using hf 3 _ rfl
  obtain ⟨x3, e3, _⟩ := f3.string Try.underlying9
  simp only [List.cons.injEq, and_true] at e3
  subst e3
  exact ⟨⟨x0, x1, x2, x3, x4⟩, rfl⟩

theorem deed_v {w : World} {v : Value} (h : RdV Try.prog w 43 v) : ∃ (k : Int) (c : CmdS) (t : Int), v = .agg #[.int .i64 k, .int .i64 c.kind, .int .i64 c.session, .int .i64 c.seq, .string c.name, .int .i64 c.n, .int .u64 t] := by
  obtain ⟨cs, rfl, hl, h⟩ := h.struct Try.underlying43
  obtain ⟨_, hf⟩ := h.fields Try.underlying43
  have hc : Try.prog.cellsOf 43 = 7 := by kernel_rfl
  have hk3 : Try.prog.cellsOf 3 = 1 := by kernel_rfl
  have hkc : Try.prog.cellsOf 30 = 5 := by kernel_rfl
  have hku : Try.prog.cellsOf 36 = 1 := by kernel_rfl
  rw [hc] at hl
  obtain ⟨c0, r0, rfl, l0⟩ := cons_of_len hl
  obtain ⟨c1, r1, rfl, l1⟩ := cons_of_len l0
  obtain ⟨c2, r2, rfl, l2⟩ := cons_of_len l1
  obtain ⟨c3, r3, rfl, l3⟩ := cons_of_len l2
  obtain ⟨c4, r4, rfl, l4⟩ := cons_of_len l3
  obtain ⟨c5, r5, rfl, l5⟩ := cons_of_len l4
  obtain ⟨c6, r6, rfl, l6⟩ := cons_of_len l5
  obtain rfl := List.length_eq_zero_iff.1 l6
  have f0 : Rd Try.prog w 3 [c0] := by simpa [hk3] using hf 0 _ rfl
  obtain ⟨k, e0, _⟩ := f0.int Try.underlying3
  simp only [List.cons.injEq, and_true] at e0
  subst e0
  have f1 : Rd Try.prog w 30 [c1, c2, c3, c4, c5] := by simpa [hkc] using hf 1 _ rfl
  obtain ⟨c, ec⟩ := cmd_cs f1
  simp only [List.cons.injEq, and_true] at ec
  obtain ⟨rfl, rfl, rfl, rfl, rfl⟩ := ec
  have f2 : Rd Try.prog w 36 [c6] := by simpa [hku] using hf 2 _ rfl
  obtain ⟨t, e2, _⟩ := f2.int Try.underlying36
  simp only [List.cons.injEq, and_true] at e2
  subst e2
  exact ⟨k, c, t, rfl⟩

section
variable {w0 w : World} {H : List Hp}
theorem settok_nil (hS : St w0 w H) (t : Int) : Calls Try.prog 14 #[.pointer none, .int .u64 t] w fun e w' => e = .returned (.tuple #[]) ∧ St w0 w' H := by
  go_enter Try.func14, Try.ntmps14
  go_wp2_with (first | ((with_reducible show WGd ..); (with_reducible apply wpA_guard); exact rfl; skip) | ((with_reducible show WLd ..); (with_reducible apply wpA_load); exact rfl; (first | ((with_reducible apply St.cellI hS); (focus repeat constructor); exact rfl) | assumption); kernel_rfl) | ((with_reducible show WSt ..); (with_reducible apply wpA_store1I hS); exact rfl; (focus repeat constructor); exact rfl; exact rfl; exact rfl; exact rfl; kernel_rfl; intro wx hS; (try simp only [Act.put, List.setIfInBounds_toArray, List.set_cons_zero, List.set_cons_succ]); (try simp only [Act.eval, Array.getD_eq_getD_getElem?, List.getElem?_toArray, List.getElem?_cons_succ, List.getElem?_cons_zero, Option.getD_some, List.set_cons_succ, List.set_cons_zero, Value.cells, List.toList_toArray] at hS)) | ((with_reducible show WBx ..); (with_reducible apply wpA_box hS); exact rfl; exact rfl; intro _ wx hS; (try simp only [Act.put, List.setIfInBounds_toArray, List.set_cons_zero, List.set_cons_succ]); (try simp only [Act.eval, Array.getD_eq_getD_getElem?, List.getElem?_toArray, List.getElem?_cons_succ, List.getElem?_cons_zero, Option.getD_some, List.set_cons_succ, List.set_cons_zero, Value.cells, List.toList_toArray] at hS)))
  (first | go_end0 | (refine bodyPost_ret (results_none rfl _ _ _) rfl ?_))
  exact ⟨rfl, hS⟩
set_option maxRecDepth 100000 in
theorem gone_nil (hS : St w0 w H) (s : Int) : Calls Try.prog 17 #[.pointer none, .int .i64 s] w fun e w' => e = .returned (.slice none 0 0) ∧ St w0 w' H := by
  go_enter Try.func17, Try.ntmps17
  go_wp2_with (first | ((with_reducible show WGd ..); (with_reducible apply wpA_guard); exact rfl; skip) | ((with_reducible show WLd ..); (with_reducible apply wpA_load); exact rfl; (first | ((with_reducible apply St.cellI hS); (focus repeat constructor); exact rfl) | assumption); kernel_rfl) | ((with_reducible show WSt ..); (with_reducible apply wpA_store1I hS); exact rfl; (focus repeat constructor); exact rfl; exact rfl; exact rfl; exact rfl; kernel_rfl; intro wx hS; (try simp only [Act.put, List.setIfInBounds_toArray, List.set_cons_zero, List.set_cons_succ]); (try simp only [Act.eval, Array.getD_eq_getD_getElem?, List.getElem?_toArray, List.getElem?_cons_succ, List.getElem?_cons_zero, Option.getD_some, List.set_cons_succ, List.set_cons_zero, Value.cells, List.toList_toArray] at hS)) | ((with_reducible show WBx ..); (with_reducible apply wpA_box hS); exact rfl; exact rfl; intro _ wx hS; (try simp only [Act.put, List.setIfInBounds_toArray, List.set_cons_zero, List.set_cons_succ]); (try simp only [Act.eval, Array.getD_eq_getD_getElem?, List.getElem?_toArray, List.getElem?_cons_succ, List.getElem?_cons_zero, Option.getD_some, List.set_cons_succ, List.set_cons_zero, Value.cells, List.toList_toArray] at hS)))
  go_ret
  exact ⟨rfl, hS.tail⟩
set_option maxRecDepth 100000 in
theorem queue_nil (hS : St w0 w H) (s : ByteArray) : Calls Try.prog 22 #[.pointer none, .string s] w fun e w' => e = .returned (.slice none 0 0) ∧ St w0 w' H := by
  go_enter Try.func22, Try.ntmps22
  go_wp2_with (first | ((with_reducible show WGd ..); (with_reducible apply wpA_guard); exact rfl; skip) | ((with_reducible show WLd ..); (with_reducible apply wpA_load); exact rfl; (first | ((with_reducible apply St.cellI hS); (focus repeat constructor); exact rfl) | assumption); kernel_rfl) | ((with_reducible show WSt ..); (with_reducible apply wpA_store1I hS); exact rfl; (focus repeat constructor); exact rfl; exact rfl; exact rfl; exact rfl; kernel_rfl; intro wx hS; (try simp only [Act.put, List.setIfInBounds_toArray, List.set_cons_zero, List.set_cons_succ]); (try simp only [Act.eval, Array.getD_eq_getD_getElem?, List.getElem?_toArray, List.getElem?_cons_succ, List.getElem?_cons_zero, Option.getD_some, List.set_cons_succ, List.set_cons_zero, Value.cells, List.toList_toArray] at hS)) | ((with_reducible show WBx ..); (with_reducible apply wpA_box hS); exact rfl; exact rfl; intro _ wx hS; (try simp only [Act.put, List.setIfInBounds_toArray, List.set_cons_zero, List.set_cons_succ]); (try simp only [Act.eval, Array.getD_eq_getD_getElem?, List.getElem?_toArray, List.getElem?_cons_succ, List.getElem?_cons_zero, Option.getD_some, List.set_cons_succ, List.set_cons_zero, Value.cells, List.toList_toArray] at hS)))
  go_ret
  exact ⟨rfl, hS⟩
set_option maxRecDepth 100000 in
theorem encode_nil (hS : St w0 w H) : Calls Try.prog 23 #[.pointer none] w fun e w' => e = .returned (.string ⟨#[]⟩) ∧ St w0 w' H := by
  go_enter Try.func23, Try.ntmps23
  go_wp2_with (first | ((with_reducible show WGd ..); (with_reducible apply wpA_guard); exact rfl; skip) | ((with_reducible show WLd ..); (with_reducible apply wpA_load); exact rfl; (first | ((with_reducible apply St.cellI hS); (focus repeat constructor); exact rfl) | assumption); kernel_rfl) | ((with_reducible show WSt ..); (with_reducible apply wpA_store1I hS); exact rfl; (focus repeat constructor); exact rfl; exact rfl; exact rfl; exact rfl; kernel_rfl; intro wx hS; (try simp only [Act.put, List.setIfInBounds_toArray, List.set_cons_zero, List.set_cons_succ]); (try simp only [Act.eval, Array.getD_eq_getD_getElem?, List.getElem?_toArray, List.getElem?_cons_succ, List.getElem?_cons_zero, Option.getD_some, List.set_cons_succ, List.set_cons_zero, Value.cells, List.toList_toArray] at hS)) | ((with_reducible show WBx ..); (with_reducible apply wpA_box hS); exact rfl; exact rfl; intro _ wx hS; (try simp only [Act.put, List.setIfInBounds_toArray, List.set_cons_zero, List.set_cons_succ]); (try simp only [Act.eval, Array.getD_eq_getD_getElem?, List.getElem?_toArray, List.getElem?_cons_succ, List.getElem?_cons_zero, Option.getD_some, List.set_cons_succ, List.set_cons_zero, Value.cells, List.toList_toArray] at hS)))
  go_ret
  exact ⟨rfl, hS⟩
end

set_option maxRecDepth 100000 in
set_option maxHeartbeats 4000000 in
theorem none_v (w0 : World) (k : Int) (c : CmdS) (t : Int) : Calls Try.prog 6 #[.agg #[.int .i64 k, .int .i64 c.kind, .int .i64 c.session, .int .i64 c.seq, .string c.name, .int .i64 c.n, .int .u64 t]] w0 fun e w' => e = .returned (.bool true) ∧ St w0 w' [] := by
  have hS := St.init w0
  go_enter Try.func6, Try.ntmps6
  go_wp2_with (first | ((with_reducible show WGd ..); (with_reducible apply wpA_guard); exact rfl; skip) | (go_at_call 14; with_reducible refine (settok_nil hS t).mono ?_; rintro _ _ ⟨rfl, hS⟩) | (go_at_call 10; with_reducible refine (ask_nil w0 _ _ c hS).mono ?_; rintro _ _ ⟨rfl, hS⟩) | (go_at_call 11; with_reducible refine (holders_nil w0 _ _ _ hS).mono ?_; rintro _ _ ⟨rfl, hS⟩) | (go_at_call 13; with_reducible refine (rel_nil w0 _ _ c hS).mono ?_; rintro _ _ ⟨rfl, hS⟩) | (go_at_call 17; with_reducible refine (gone_nil hS _).mono ?_; rintro _ _ ⟨rfl, hS⟩) | (go_at_call 22; with_reducible refine (queue_nil hS _).mono ?_; rintro _ _ ⟨rfl, hS⟩) | (go_at_call 16; with_reducible refine (token_nil w0 _ _ hS).mono ?_; rintro _ _ ⟨rfl, hS⟩) | (go_at_call 23; with_reducible refine (encode_nil hS).mono ?_; rintro _ _ ⟨rfl, hS⟩) | (go_at_call 12; with_reducible refine (awake_c w0 _ _ hS).mono ?_; rintro _ _ ⟨rfl, hS⟩) | ((with_reducible show WLd ..); (with_reducible apply wpA_loadN (t := 30)); exact rfl; ((with_reducible apply Hp.rangeI hS (n := 5)); (focus repeat constructor)); kernel_rfl; kernel_rfl; (try simp only [Act.put, List.setIfInBounds_toArray, List.set_cons_zero, List.set_cons_succ])) | ((with_reducible show WLd ..); (with_reducible apply wpA_load); exact rfl; (first | ((with_reducible apply St.cellI hS); (focus repeat constructor); exact rfl) | assumption); kernel_rfl) | ((with_reducible show WSt ..); (with_reducible apply wpA_store1I hS); exact rfl; (focus repeat constructor); exact rfl; exact rfl; exact rfl; exact rfl; kernel_rfl; intro wx hS; (try simp only [Act.put, List.setIfInBounds_toArray, List.set_cons_zero, List.set_cons_succ]); (try simp only [Act.eval, Array.getD_eq_getD_getElem?, List.getElem?_toArray, List.getElem?_cons_succ, List.getElem?_cons_zero, Option.getD_some, List.set_cons_succ, List.set_cons_zero, Value.cells, List.toList_toArray] at hS)) | ((with_reducible show WBx ..); (with_reducible apply wpA_box hS); exact rfl; exact rfl; intro _ wx hS; (try simp only [Act.put, List.setIfInBounds_toArray, List.set_cons_zero, List.set_cons_succ]); (try simp only [Act.eval, Array.getD_eq_getD_getElem?, List.getElem?_toArray, List.getElem?_cons_succ, List.getElem?_cons_zero, Option.getD_some, List.set_cons_succ, List.set_cons_zero, Value.cells, List.toList_toArray] at hS)))
  go_ret
  exact ⟨rfl, hS.tail⟩

theorem none_c (w : World) (v0 : Value) (h0 : RdV Try.prog w 43 v0) : Calls Try.prog 6 #[v0] w fun e w' => e = .returned (.bool true) ∧ St w w' [] := by
  obtain ⟨k, c, t, rfl⟩ := deed_v h0
  exact none_v w k c t
end Go.Proofs.Ytelbpnlpmaihhaa
