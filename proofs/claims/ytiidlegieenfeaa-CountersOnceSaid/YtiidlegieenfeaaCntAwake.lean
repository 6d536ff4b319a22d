/-
  Chapter 20's example, walked: it answers true.
-/
import Derived.Test.YtiidlegieenfeaaCntGone
namespace Go.Proofs.Ytiidlegieenfeaa
set_option linter.unusedVariables false
set_option linter.unusedSimpArgs false
open Go.RowKit

def la : ByteArray := ⟨#[97]⟩
theorem sortB_one (a : ByteArray) : sortB [a] = [a] := by simp [sortB]

theorem cmd_c (k s n : Int) (w0 w : World) (H : List Hp) (hS : St w0 w H) : Calls Try.prog 13 #[.int .i64 k, .int .i64 s, .int .i64 n] w fun e w' => e = .returned (.agg #[.int .i64 k, .int .i64 s, .int .i64 1, .string ⟨#[97]⟩, .int .i64 n]) ∧ St w0 w' H := by
  go_enter Try.func13, Try.ntmps13
  go_wp2_with (first | ((with_reducible show WGd ..); (with_reducible apply wpA_guard); exact rfl; skip) | ((first | ((with_reducible show WAl ..); (with_reducible apply wpA_alloc (t := 28) hS (v := .agg #[.int .i64 0, .int .i64 0, .int .i64 0, .string ⟨#[]⟩, .int .i64 0])); kernel_rfl; exact rfl; intro _ wx hS) | ((with_reducible show WBx ..); (with_reducible apply wpA_box hS); exact rfl; exact rfl; intro _ wx hS)); (try simp only [Act.put, List.setIfInBounds_toArray, List.set_cons_zero, List.set_cons_succ]); (try simp only [Act.eval, Array.getD_eq_getD_getElem?, List.getElem?_toArray, List.getElem?_cons_succ, List.getElem?_cons_zero, Option.getD_some, List.set_cons_succ, List.set_cons_zero, Value.cells, List.toList_toArray] at hS)) | ((with_reducible show WSt ..); (with_reducible apply wpA_storeI hS); exact rfl; (focus repeat constructor); exact rfl; exact rfl; exact rfl; exact (Nat.le_of_ble_eq_true rfl); kernel_rfl; intro wx hS; (try simp only [Act.put, List.setIfInBounds_toArray, List.set_cons_zero, List.set_cons_succ]); (try simp only [Act.eval, Array.getD_eq_getD_getElem?, List.getElem?_toArray, List.getElem?_cons_succ, List.getElem?_cons_zero, Option.getD_some, List.set_cons_succ, List.set_cons_zero, Value.cells, List.toList_toArray] at hS); (try simp only [List.take_zero, List.take_succ_cons, List.nil_append, List.cons_append, List.length_cons, List.length_nil, Nat.reduceAdd, Nat.zero_add, List.drop_succ_cons, List.drop_zero, List.drop_nil, List.append_nil] at hS)) | ((with_reducible show WLd ..); (with_reducible apply wpA_load); exact rfl; (first | ((with_reducible apply St.cellI hS); (focus repeat constructor); exact rfl) | assumption); kernel_rfl) | ((with_reducible show WSt ..); (with_reducible apply wpA_store1I hS); exact rfl; (focus repeat constructor); exact rfl; exact rfl; exact rfl; exact rfl; kernel_rfl; intro wx hS; (try simp only [Act.put, List.setIfInBounds_toArray, List.set_cons_zero, List.set_cons_succ]); (try simp only [Act.eval, Array.getD_eq_getD_getElem?, List.getElem?_toArray, List.getElem?_cons_succ, List.getElem?_cons_zero, Option.getD_some, List.set_cons_succ, List.set_cons_zero, Value.cells, List.toList_toArray] at hS)))
  first
  | (go_ret; exact ⟨rfl, hS⟩)
  | (refine bodyPost_ret (results_cell rfl rfl (Hp.range hS 0 rfl 0 5) (by kernel_rfl) (by kernel_rfl)) rfl ?_; exact ⟨rfl, hS.tail⟩)

def ce (g o : List OS) : CntS := ⟨g.map fun x => (la, x), o.map fun x => (la, x)⟩
theorem ok1 {g o : List OS} (hg : g.length ≤ 1) (ho : o.length ≤ 1) (h1 : ∀ x ∈ g, 0 < x.n ∧ x.n ≤ 1073741824 ∧ x.q.length ≤ 100000000) (h2 : ∀ x ∈ o, x.q.length ≤ 100000000) : (ce g o).ok 100000000 := by
  refine ⟨?_, ?_, by simp [ce]; omega, by simp [ce]; omega, ?_, ?_⟩
  · intro x hx; simp only [ce] at hx; obtain ⟨y, hy, rfl⟩ := List.mem_map.1 hx; exact h1 y hy
  · intro x hx; simp only [ce] at hx; obtain ⟨y, hy, rfl⟩ := List.mem_map.1 hx; exact h2 y hy
  · intro x hx; simp only [ce] at hx; obtain ⟨y, hy, rfl⟩ := List.mem_map.1 hx; show la.size ≤ maxLen; decide
  · intro x hx; simp only [ce] at hx; obtain ⟨y, hy, rfl⟩ := List.mem_map.1 hx; show la.size ≤ maxLen; decide

theorem e1 : addD (ce [] []) ⟨9, 1, 1, la, 2⟩ = ([⟨1, 1, 0, 0, 2⟩], ce [⟨2, []⟩] []) := by rfl
theorem e2 : waitD (ce [⟨2, []⟩] []) ⟨10, 2, 1, la, 0⟩ = ([], true, ce [⟨2, [⟨2, 1⟩]⟩] []) := by rfl
theorem e3 : addD (ce [⟨2, [⟨2, 1⟩]⟩] []) ⟨9, 1, 1, la, -2⟩ = ([⟨1, 1, 0, 0, 0⟩, ⟨2, 1, 0, 0, 0⟩], ce [] []) := by rfl
theorem e4 : onceD (ce [] []) ⟨11, 1, 1, la, 0⟩ = ([⟨1, 1, 0, 0, 1⟩], false, ce [] [⟨1, []⟩]) := by rfl
theorem e5 : onceD (ce [] [⟨1, []⟩]) ⟨11, 2, 1, la, 0⟩ = ([], true, ce [] [⟨1, [⟨2, 1⟩]⟩]) := by rfl
theorem e6 : goneD (ce [] [⟨1, [⟨2, 1⟩]⟩]) 1 = ([⟨2, 1, 0, 0, 1⟩], ce [] [⟨2, []⟩]) := by
  unfold goneD
  rw [show (ce [] [⟨1, [⟨2, 1⟩]⟩]).o.map (·.1) = [la] from rfl, sortB_one]
  rfl
theorem e7 : doneD (ce [] [⟨2, []⟩]) ⟨12, 2, 1, la, 0⟩ = ([⟨2, 1, 0, 0, 0⟩], ce [] [⟨0, []⟩]) := by rfl
theorem e8 : onceD (ce [] [⟨0, []⟩]) ⟨11, 3, 1, la, 0⟩ = ([⟨3, 1, 0, 0, 0⟩], false, ce [] [⟨0, []⟩]) := by rfl

theorem CntSt.some {w0 w : World} {R : List Hp} {g : Nat} {σ : CntS} {e size n cap : Nat} {ao : Option Addr} {xs : List Value} (h : CntSt w0 w g σ (.row e size ao (n + 1) cap xs :: R)) : ∃ q, ao = .some ⟨q, 0, none⟩ := by
  rcases row_head (h.rest.at_ 0 rfl) with ⟨_, hh, _⟩ | ⟨hq, _⟩
  · cases hh
  · exact hq

section
variable {w0 w : World} {R : List Hp} {g : Nat}
theorem k1 (h : CntSt w0 w g (ce [] []) R) : Calls Try.prog 9 #[.pointer (some ⟨g, 0, none⟩), .agg #[.int .i64 9, .int .i64 1, .int .i64 1, .string ⟨#[97]⟩, .int .i64 (2)]] w fun e w' => ∃ q cap, e = .returned (.slice (some ⟨q, 0, none⟩) 1 cap) ∧ CntSt w0 w' g (ce [⟨2, []⟩] []) (.row 32 5 (some ⟨q, 0, none⟩) 1 cap ([.int .i64 1, .int .i64 1, .int .i64 0, .int .u64 0, .int .i64 2]) :: R) :=
  (add_c w0 w R g _ ⟨9, 1, 1, la, 2⟩ h (ok1 (by decide) (by decide) (by simp) (by simp)) (by decide)).mono fun e w' h => by
    rw [e1] at h
    obtain ⟨ao, cap, h1, h2⟩ := h
    obtain ⟨q, rfl⟩ := h2.some
    exact ⟨q, cap, h1, h2⟩
theorem k2 (h : CntSt w0 w g (ce [⟨2, []⟩] []) R) : Calls Try.prog 17 #[.pointer (some ⟨g, 0, none⟩), .agg #[.int .i64 10, .int .i64 2, .int .i64 1, .string ⟨#[97]⟩, .int .i64 (0)]] w fun e w' => ∃ ao cap, e = .returned (.tuple #[.slice ao 0 cap, .bool true]) ∧ CntSt w0 w' g (ce [⟨2, [⟨2, 1⟩]⟩] []) (.row 32 5 ao 0 cap ([]) :: R) :=
  (wait_c w0 w R g _ ⟨10, 2, 1, la, 0⟩ h (ok1 (by decide) (by decide) (by simp) (by simp))).mono fun e w' h => by
    rw [e2] at h
    obtain ⟨ao, cap, h1, h2⟩ := h
    exact ⟨ao, cap, h1, h2⟩
theorem k3 (h : CntSt w0 w g (ce [⟨2, [⟨2, 1⟩]⟩] []) R) : Calls Try.prog 9 #[.pointer (some ⟨g, 0, none⟩), .agg #[.int .i64 9, .int .i64 1, .int .i64 1, .string ⟨#[97]⟩, .int .i64 (-2)]] w fun e w' => ∃ q cap, e = .returned (.slice (some ⟨q, 0, none⟩) 2 cap) ∧ CntSt w0 w' g (ce [] []) (.row 32 5 (some ⟨q, 0, none⟩) 2 cap ([.int .i64 1, .int .i64 1, .int .i64 0, .int .u64 0, .int .i64 0, .int .i64 2, .int .i64 1, .int .i64 0, .int .u64 0, .int .i64 0]) :: R) :=
  (add_c w0 w R g _ ⟨9, 1, 1, la, -2⟩ h (ok1 (by decide) (by decide) (by simp) (by simp)) (by decide)).mono fun e w' h => by
    rw [e3] at h
    obtain ⟨ao, cap, h1, h2⟩ := h
    obtain ⟨q, rfl⟩ := h2.some
    exact ⟨q, cap, h1, h2⟩
theorem k4 (h : CntSt w0 w g (ce [] []) R) : Calls Try.prog 12 #[.pointer (some ⟨g, 0, none⟩), .agg #[.int .i64 11, .int .i64 1, .int .i64 1, .string ⟨#[97]⟩, .int .i64 (0)]] w fun e w' => ∃ q cap, e = .returned (.tuple #[.slice (some ⟨q, 0, none⟩) 1 cap, .bool false]) ∧ CntSt w0 w' g (ce [] [⟨1, []⟩]) (.row 32 5 (some ⟨q, 0, none⟩) 1 cap ([.int .i64 1, .int .i64 1, .int .i64 0, .int .u64 0, .int .i64 1]) :: R) :=
  (once_c w0 w R g _ ⟨11, 1, 1, la, 0⟩ h (ok1 (by decide) (by decide) (by simp) (by simp))).mono fun e w' h => by
    rw [e4] at h
    obtain ⟨ao, cap, h1, h2⟩ := h
    obtain ⟨q, rfl⟩ := h2.some
    exact ⟨q, cap, h1, h2⟩
theorem k5 (h : CntSt w0 w g (ce [] [⟨1, []⟩]) R) : Calls Try.prog 12 #[.pointer (some ⟨g, 0, none⟩), .agg #[.int .i64 11, .int .i64 2, .int .i64 1, .string ⟨#[97]⟩, .int .i64 (0)]] w fun e w' => ∃ ao cap, e = .returned (.tuple #[.slice ao 0 cap, .bool true]) ∧ CntSt w0 w' g (ce [] [⟨1, [⟨2, 1⟩]⟩]) (.row 32 5 ao 0 cap ([]) :: R) :=
  (once_c w0 w R g _ ⟨11, 2, 1, la, 0⟩ h (ok1 (by decide) (by decide) (by simp) (by simp))).mono fun e w' h => by
    rw [e5] at h
    obtain ⟨ao, cap, h1, h2⟩ := h
    exact ⟨ao, cap, h1, h2⟩
theorem k6 (h : CntSt w0 w g (ce [] [⟨1, [⟨2, 1⟩]⟩]) R) : Calls Try.prog 14 #[.pointer (some ⟨g, 0, none⟩), .int .i64 1] w fun e w' => ∃ q cap, e = .returned (.slice (some ⟨q, 0, none⟩) 1 cap) ∧ CntSt w0 w' g (ce [] [⟨2, []⟩]) (.row 32 5 (some ⟨q, 0, none⟩) 1 cap ([.int .i64 2, .int .i64 1, .int .i64 0, .int .u64 0, .int .i64 1]) :: R) :=
  (gone_c w0 w R g _ 1 h (ok1 (by decide) (by decide) (by simp) (by simp))).mono fun e w' h => by
    rw [e6] at h
    obtain ⟨ao, cap, h1, h2⟩ := h
    obtain ⟨q, rfl⟩ := h2.some
    exact ⟨q, cap, h1, h2⟩
theorem k7 (h : CntSt w0 w g (ce [] [⟨2, []⟩]) R) : Calls Try.prog 16 #[.pointer (some ⟨g, 0, none⟩), .agg #[.int .i64 12, .int .i64 2, .int .i64 1, .string ⟨#[97]⟩, .int .i64 (0)]] w fun e w' => ∃ q cap, e = .returned (.slice (some ⟨q, 0, none⟩) 1 cap) ∧ CntSt w0 w' g (ce [] [⟨0, []⟩]) (.row 32 5 (some ⟨q, 0, none⟩) 1 cap ([.int .i64 2, .int .i64 1, .int .i64 0, .int .u64 0, .int .i64 0]) :: R) :=
  (done_c w0 w R g _ ⟨12, 2, 1, la, 0⟩ h (ok1 (by decide) (by decide) (by simp) (by simp))).mono fun e w' h => by
    rw [e7] at h
    obtain ⟨ao, cap, h1, h2⟩ := h
    obtain ⟨q, rfl⟩ := h2.some
    exact ⟨q, cap, h1, h2⟩
theorem k8 (h : CntSt w0 w g (ce [] [⟨0, []⟩]) R) : Calls Try.prog 12 #[.pointer (some ⟨g, 0, none⟩), .agg #[.int .i64 11, .int .i64 3, .int .i64 1, .string ⟨#[97]⟩, .int .i64 (0)]] w fun e w' => ∃ q cap, e = .returned (.tuple #[.slice (some ⟨q, 0, none⟩) 1 cap, .bool false]) ∧ CntSt w0 w' g (ce [] [⟨0, []⟩]) (.row 32 5 (some ⟨q, 0, none⟩) 1 cap ([.int .i64 3, .int .i64 1, .int .i64 0, .int .u64 0, .int .i64 0]) :: R) :=
  (once_c w0 w R g _ ⟨11, 3, 1, la, 0⟩ h (ok1 (by decide) (by decide) (by simp) (by simp))).mono fun e w' h => by
    rw [e8] at h
    obtain ⟨ao, cap, h1, h2⟩ := h
    obtain ⟨q, rfl⟩ := h2.some
    exact ⟨q, cap, h1, h2⟩
theorem k9 (h : CntSt w0 w g (ce [] [⟨0, []⟩]) R) : Calls Try.prog 15 #[.pointer (some ⟨g, 0, none⟩), .string ⟨#[97]⟩] w fun e w' => e = .returned (.tuple #[.int .i64 0, .bool true]) ∧ CntSt w0 w' g (ce [] [⟨0, []⟩]) R := state_c h la
theorem k10 (h : CntSt w0 w g (ce [] [⟨0, []⟩]) R) : Calls Try.prog 10 #[.pointer (some ⟨g, 0, none⟩), .string ⟨#[97]⟩] w fun e w' => e = .returned (.int .i64 0) ∧ CntSt w0 w' g (ce [] [⟨0, []⟩]) R := count_c h la
end

set_option maxRecDepth 100000 in
set_option maxHeartbeats 4000000 in
theorem awake_c (w0 w : World) (H : List Hp) (hS : St w0 w H) : Calls Try.prog 11 #[] w fun e w' => e = .returned (.bool true) ∧ St w0 w' H := by
  go_enter Try.func11, Try.ntmps11
  go_upto_region 13 with (first | ((with_reducible show WGd ..); (with_reducible apply wpA_guard); exact rfl; skip) | (go_at_call 8; go_loud (skip); go_loud (with_reducible refine (cnew_c w0 _ H hS).mono ?_); go_loud (rintro _ _ ⟨g, rfl, hL⟩); go_loud (clear hS)) | (go_at_call 13; (obtain ⟨D, hS, hb⟩ := CntSt.use hL); with_reducible refine (cmd_c _ _ _ w0 _ _ hS).mono ?_; rintro _ _ ⟨rfl, hS⟩; have hL := hb _ _ hS; clear hb hS) | (go_at_call 9; go_loud (skip); go_loud (with_reducible refine (k1 hL).mono ?_); go_loud (rintro _ _ ⟨q1, cap1, rfl, hL⟩); go_loud (skip)) | (go_at_call 17; go_loud (skip); go_loud (with_reducible refine (k2 hL).mono ?_); go_loud (rintro _ _ ⟨q2, cap2, rfl, hL⟩); go_loud (skip)) | (go_at_call 9; go_loud (skip); go_loud (with_reducible refine (k3 hL).mono ?_); go_loud (rintro _ _ ⟨q3, cap3, rfl, hL⟩); go_loud (skip)) | (go_at_call 12; go_loud (skip); go_loud (with_reducible refine (k4 hL).mono ?_); go_loud (rintro _ _ ⟨q4, cap4, rfl, hL⟩); go_loud (skip)) | (go_at_call 12; go_loud (skip); go_loud (with_reducible refine (k5 hL).mono ?_); go_loud (rintro _ _ ⟨q5, cap5, rfl, hL⟩); go_loud (skip)) | (go_at_call 14; go_loud (skip); go_loud (with_reducible refine (k6 hL).mono ?_); go_loud (rintro _ _ ⟨q6, cap6, rfl, hL⟩); go_loud (skip)) | (go_at_call 16; go_loud (skip); go_loud (with_reducible refine (k7 hL).mono ?_); go_loud (rintro _ _ ⟨q7, cap7, rfl, hL⟩); go_loud (skip)) | (go_at_call 12; go_loud (skip); go_loud (with_reducible refine (k8 hL).mono ?_); go_loud (rintro _ _ ⟨q8, cap8, rfl, hL⟩); go_loud (skip)) | (go_at_call 15; go_loud (skip); go_loud (with_reducible refine (k9 hL).mono ?_); go_loud (rintro _ _ ⟨rfl, hL⟩); go_loud (skip)) | ((with_reducible show WLd ..); (with_reducible apply wpA_load); exact rfl; (first | ((with_reducible apply St.cellI hS); (focus repeat constructor); exact rfl) | assumption); kernel_rfl) | ((with_reducible show WSt ..); (with_reducible apply wpA_store1I hS); exact rfl; (focus repeat constructor); exact rfl; exact rfl; exact rfl; exact rfl; kernel_rfl; intro wx hS; (try simp only [Act.put, List.setIfInBounds_toArray, List.set_cons_zero, List.set_cons_succ]); (try simp only [Act.eval, Array.getD_eq_getD_getElem?, List.getElem?_toArray, List.getElem?_cons_succ, List.getElem?_cons_zero, Option.getD_some, List.set_cons_succ, List.set_cons_zero, Value.cells, List.toList_toArray] at hS)) | ((with_reducible show WBx ..); (with_reducible apply wpA_box hS); exact rfl; exact rfl; intro _ wx hS; (try simp only [Act.put, List.setIfInBounds_toArray, List.set_cons_zero, List.set_cons_succ]); (try simp only [Act.eval, Array.getD_eq_getD_getElem?, List.getElem?_toArray, List.getElem?_cons_succ, List.getElem?_cons_zero, Option.getD_some, List.set_cons_succ, List.set_cons_zero, Value.cells, List.toList_toArray] at hS)))
  obtain ⟨D, hS, hb⟩ := CntSt.use hL
  replace hS := St.perm hS List.perm_append_comm
  simp only [List.cons_append] at hS
  have c1 := row_cell (hS.at_ 7 rfl) 4 (v := .int .i64 2) rfl
  have c2 := row_cell (hS.at_ 5 rfl) 5 (v := .int .i64 2) rfl
  have c3 := row_cell (hS.at_ 4 rfl) 4 (v := .int .i64 1) rfl
  have c4 := row_cell (hS.at_ 2 rfl) 4 (v := .int .i64 1) rfl
  have c5 := row_cell (hS.at_ 1 rfl) 2 (v := .int .i64 0) rfl
  have c6 := row_cell (hS.at_ 0 rfl) 4 (v := .int .i64 0) rfl
  have c7 := row_cell (hS.at_ 0 rfl) 2 (v := .int .i64 0) rfl
  go_wp2_with (first | ((with_reducible show WGd ..); (with_reducible apply wpA_guard); exact rfl; skip) | (go_at_call 10; go_loud (skip); go_loud (with_reducible refine (k10 hL).mono ?_); go_loud (rintro _ _ ⟨rfl, hL⟩); go_loud (skip)) | ((with_reducible show WLd ..); (with_reducible apply wpA_load); exact rfl; (first | ((with_reducible apply St.cellI hS); (focus repeat constructor); exact rfl) | assumption); kernel_rfl) | ((with_reducible show WSt ..); (with_reducible apply wpA_store1I hS); exact rfl; (focus repeat constructor); exact rfl; exact rfl; exact rfl; exact rfl; kernel_rfl; intro wx hS; (try simp only [Act.put, List.setIfInBounds_toArray, List.set_cons_zero, List.set_cons_succ]); (try simp only [Act.eval, Array.getD_eq_getD_getElem?, List.getElem?_toArray, List.getElem?_cons_succ, List.getElem?_cons_zero, Option.getD_some, List.set_cons_succ, List.set_cons_zero, Value.cells, List.toList_toArray] at hS)) | ((with_reducible show WBx ..); (with_reducible apply wpA_box hS); exact rfl; exact rfl; intro _ wx hS; (try simp only [Act.put, List.setIfInBounds_toArray, List.set_cons_zero, List.set_cons_succ]); (try simp only [Act.eval, Array.getD_eq_getD_getElem?, List.getElem?_toArray, List.getElem?_cons_succ, List.getElem?_cons_zero, Option.getD_some, List.set_cons_succ, List.set_cons_zero, Value.cells, List.toList_toArray] at hS)))
  first | go_ret | (trace_state; sorry)
  exact ⟨rfl, hL.rest.sub (List.sublist_append_right [_, _, _, _, _, _, _, _] _)⟩
end Go.Proofs.Ytiidlegieenfeaa
