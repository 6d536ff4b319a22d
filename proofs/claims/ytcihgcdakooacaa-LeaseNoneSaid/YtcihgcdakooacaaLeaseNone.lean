/-
  A book that is none, or off, tells nothing.
-/
import Derived.Test.YtcihgcdakooacaaLeaseAwake
namespace Go.Proofs.Ytcihgcdakooacaa
set_option linter.unusedVariables false
set_option linter.unusedSimpArgs false
open Go.RowKit

theorem off_of {w0 w : World} {g : Nat} {R : List Hp} (h : St w0 w (.cells g [.bool false, .map none, .slice none 0 0] 57 :: R)) : LeaseSt w0 w g R none := h

theorem lbegin1 {w0 w : World} {R : List Hp} {g lit : Nat} {x : Int} (hS : St w0 w (.cells lit [.int .i64 x] 3 :: .cells g [.bool false, .map none, .slice none 0 0] 57 :: R)) :
    Calls Try.prog 8 #[.pointer (some ⟨g, 0, none⟩), .slice (some ⟨lit, 0, none⟩) 1 1, .int .i64 5] w fun e w' => e = .returned (.tuple #[]) ∧ LeaseSt w0 w' g R (some ⟨beginE 5 [x], []⟩) :=
  (begin_c w0 w R g none _ 1 1 [x] 5 (lease_lit (D := [_]) (fun w' R' h => h) hS) (by decide) (by decide) (by decide)).mono fun e w' h => ⟨h.1, h.2.sub (List.sublist_cons_self _ _)⟩

theorem lstop {w0 w : World} {R : List Hp} {g : Nat} {o : Option LeaseS} (h : LeaseSt w0 w g R o) : Calls Try.prog 15 #[.pointer (some ⟨g, 0, none⟩)] w fun e w' => e = .returned (.tuple #[]) ∧ St w0 w' (.cells g [.bool false, .map none, .slice none 0 0] 57 :: R) := stop_c w0 w R g o h

theorem lnew1 {w0 w : World} {H : List Hp} (hS : St w0 w H) : Calls Try.prog 7 #[] w fun e w' => ∃ g, e = .returned (.pointer (some ⟨g, 0, none⟩)) ∧ St w0 w' (.cells g [.bool false, .map none, .slice none 0 0] 57 :: H) := lnew_c w0 w H hS

theorem lconf {w0 w : World} {R : List Hp} {g : Nat} {r : Int} {x y : Value} (hS : St w0 w (.cells g [.bool false, .map none, .slice none 0 0] 57 :: R)) : Calls Try.prog 10 #[.pointer (some ⟨g, 0, none⟩), .int .i64 r, x, y] w fun e w' => e = .returned (.slice none 0 0) ∧ St w0 w' (.cells g [.bool false, .map none, .slice none 0 0] 57 :: R) := confirm_off w0 w R g r x y hS

set_option maxRecDepth 100000 in
set_option maxHeartbeats 2000000 in
theorem lnone_v (w0 : World) (off : Bool) (k n tag cl r now : Int) (aa ab : Option Addr) (na ca nb cb : Nat) :
    Calls Try.prog 6 #[.agg #[.int .i64 k, .int .i64 n, .int .i64 tag, .int .i64 cl, .int .i64 r, .int .i64 now, .slice aa na ca, .slice ab nb cb], .bool off] w0 fun e w' => e = .returned (.bool true) ∧ St w0 w' [] := by
  have hS := St.init w0
  cases off with
  | true =>
    go_enter Try.func6, Try.ntmps6
    go_wp2_with (first | ((with_reducible apply wpA_guard); exact rfl; skip) | (go_at_call 7; with_reducible refine (lnew1 hS).mono ?_; rintro _ _ ⟨g, rfl, hS⟩) | ((with_reducible apply wpA_one hS (z := .int .i64 0) (bytes := 8)); exact Try.underlying26; kernel_rfl; exact rfl; exact rfl; exact rfl; intro _ wx hS; (try simp only [Act.put, List.setIfInBounds_toArray, List.set_cons_zero, List.set_cons_succ])) | (go_at_call 8; with_reducible refine (lbegin1 hS).mono ?_; rintro _ _ ⟨rfl, hL⟩) | (go_at_call 15; with_reducible refine (lstop hL).mono ?_; rintro _ _ ⟨rfl, hS⟩) | (go_at_call 16; with_reducible refine (opened_off w0 _ _ g _ _ (off_of hS)).mono ?_; rintro _ _ ⟨rfl, rfl⟩) | (go_at_call 9; with_reducible refine (keep_off w0 _ _ g _ _ _ _ _ (off_of hS)).mono ?_; rintro _ _ ⟨rfl, rfl⟩) | (go_at_call 17; with_reducible refine (deadline_off w0 _ _ g _ (off_of hS)).mono ?_; rintro _ _ ⟨rfl, rfl⟩) | ((with_reducible apply wpA_load); exact rfl; (first | exact hS.cell 0 rfl _ rfl | exact hS.cell 1 rfl _ rfl | exact hS.cell 2 rfl _ rfl | exact hS.cell 3 rfl _ rfl | exact hS.cell 4 rfl _ rfl | exact hS.cell 5 rfl _ rfl | exact hS.cell 6 rfl _ rfl | exact hS.cell 7 rfl _ rfl | assumption); kernel_rfl) | (first | ((with_reducible apply wpA_store1 hS 0); exact rfl; exact rfl; exact rfl; exact rfl; exact rfl; exact rfl; kernel_rfl; intro wx hS; (try simp only [Act.put, List.setIfInBounds_toArray, List.set_cons_zero, List.set_cons_succ]); (try simp only [Act.eval, Array.getD_eq_getD_getElem?, List.getElem?_toArray, List.getElem?_cons_succ, List.getElem?_cons_zero, Option.getD_some, List.set_cons_succ, List.set_cons_zero, Value.cells, List.toList_toArray] at hS)) | ((with_reducible apply wpA_store1 hS 1); exact rfl; exact rfl; exact rfl; exact rfl; exact rfl; exact rfl; kernel_rfl; intro wx hS; (try simp only [Act.put, List.setIfInBounds_toArray, List.set_cons_zero, List.set_cons_succ]); (try simp only [Act.eval, Array.getD_eq_getD_getElem?, List.getElem?_toArray, List.getElem?_cons_succ, List.getElem?_cons_zero, Option.getD_some, List.set_cons_succ, List.set_cons_zero, Value.cells, List.toList_toArray] at hS)) | ((with_reducible apply wpA_store1 hS 2); exact rfl; exact rfl; exact rfl; exact rfl; exact rfl; exact rfl; kernel_rfl; intro wx hS; (try simp only [Act.put, List.setIfInBounds_toArray, List.set_cons_zero, List.set_cons_succ]); (try simp only [Act.eval, Array.getD_eq_getD_getElem?, List.getElem?_toArray, List.getElem?_cons_succ, List.getElem?_cons_zero, Option.getD_some, List.set_cons_succ, List.set_cons_zero, Value.cells, List.toList_toArray] at hS)) | ((with_reducible apply wpA_store1 hS 3); exact rfl; exact rfl; exact rfl; exact rfl; exact rfl; exact rfl; kernel_rfl; intro wx hS; (try simp only [Act.put, List.setIfInBounds_toArray, List.set_cons_zero, List.set_cons_succ]); (try simp only [Act.eval, Array.getD_eq_getD_getElem?, List.getElem?_toArray, List.getElem?_cons_succ, List.getElem?_cons_zero, Option.getD_some, List.set_cons_succ, List.set_cons_zero, Value.cells, List.toList_toArray] at hS)) | ((with_reducible apply wpA_store1 hS 4); exact rfl; exact rfl; exact rfl; exact rfl; exact rfl; exact rfl; kernel_rfl; intro wx hS; (try simp only [Act.put, List.setIfInBounds_toArray, List.set_cons_zero, List.set_cons_succ]); (try simp only [Act.eval, Array.getD_eq_getD_getElem?, List.getElem?_toArray, List.getElem?_cons_succ, List.getElem?_cons_zero, Option.getD_some, List.set_cons_succ, List.set_cons_zero, Value.cells, List.toList_toArray] at hS)) | ((with_reducible apply wpA_store1 hS 5); exact rfl; exact rfl; exact rfl; exact rfl; exact rfl; exact rfl; kernel_rfl; intro wx hS; (try simp only [Act.put, List.setIfInBounds_toArray, List.set_cons_zero, List.set_cons_succ]); (try simp only [Act.eval, Array.getD_eq_getD_getElem?, List.getElem?_toArray, List.getElem?_cons_succ, List.getElem?_cons_zero, Option.getD_some, List.set_cons_succ, List.set_cons_zero, Value.cells, List.toList_toArray] at hS))) | ((with_reducible apply wpA_box hS); exact rfl; exact rfl; intro _ wx hS; (try simp only [Act.put, List.setIfInBounds_toArray, List.set_cons_zero, List.set_cons_succ]); (try simp only [Act.eval, Array.getD_eq_getD_getElem?, List.getElem?_toArray, List.getElem?_cons_succ, List.getElem?_cons_zero, Option.getD_some, List.set_cons_succ, List.set_cons_zero, Value.cells, List.toList_toArray] at hS)))
    refine wp_region_St hS (by kernel_rfl) (by kernel_rfl) ?_
    refine wpQ_val ?_ rfl ?_ ?_
    rotate_left
    · intro w hS; go_simp; try with_reducible rfl
    (simp only [Act.put, List.setIfInBounds_toArray, List.set_cons_zero, List.set_cons_succ])
    refine wpQ_val ?_ rfl ?_ ?_
    rotate_left
    · intro w hS; go_simp; try with_reducible rfl
    (simp only [Act.put, List.setIfInBounds_toArray, List.set_cons_zero, List.set_cons_succ])
    refine wpQ_load rfl (fun w hS => by (first | exact hS.cell 0 rfl _ rfl | exact hS.cell 1 rfl _ rfl | exact hS.cell 2 rfl _ rfl | exact hS.cell 3 rfl _ rfl | exact hS.cell 4 rfl _ rfl | exact hS.cell 5 rfl _ rfl | exact hS.cell 6 rfl _ rfl | exact hS.cell 7 rfl _ rfl | assumption)) (by kernel_rfl) ?_
    (simp only [Act.put, List.setIfInBounds_toArray, List.set_cons_zero, List.set_cons_succ])
    refine wpQ_val ?_ rfl ?_ ?_
    rotate_left
    · intro w hS; go_simp; try with_reducible rfl
    (simp only [Act.put, List.setIfInBounds_toArray, List.set_cons_zero, List.set_cons_succ])
    refine wpQ_load rfl (fun w hS => by (first | exact hS.cell 0 rfl _ rfl | exact hS.cell 1 rfl _ rfl | exact hS.cell 2 rfl _ rfl | exact hS.cell 3 rfl _ rfl | exact hS.cell 4 rfl _ rfl | exact hS.cell 5 rfl _ rfl | exact hS.cell 6 rfl _ rfl | exact hS.cell 7 rfl _ rfl | assumption)) (by kernel_rfl) ?_
    (simp only [Act.put, List.setIfInBounds_toArray, List.set_cons_zero, List.set_cons_succ])
    refine wpQ_val ?_ rfl ?_ ?_
    rotate_left
    · intro w hS; go_simp; try with_reducible rfl
    (simp only [Act.put, List.setIfInBounds_toArray, List.set_cons_zero, List.set_cons_succ])
    refine wpQ_load rfl (fun w hS => by (first | exact hS.cell 0 rfl _ rfl | exact hS.cell 1 rfl _ rfl | exact hS.cell 2 rfl _ rfl | exact hS.cell 3 rfl _ rfl | exact hS.cell 4 rfl _ rfl | exact hS.cell 5 rfl _ rfl | exact hS.cell 6 rfl _ rfl | exact hS.cell 7 rfl _ rfl | assumption)) (by kernel_rfl) ?_
    (simp only [Act.put, List.setIfInBounds_toArray, List.set_cons_zero, List.set_cons_succ])
    apply wpQ_call (f := 10) Try.func10 (by kernel_rfl) (.slice none 0 0)
    · (try simp only [List.map_toArray, List.map_cons, List.map_nil, Act.eval, Array.getD_eq_getD_getElem?, List.getElem?_toArray, List.getElem?_cons_succ, List.getElem?_cons_zero, Option.getD_some]); exact rfl
    · intro w hS; with_reducible exact (lconf hS)
    (simp only [Act.put, List.setIfInBounds_toArray, List.set_cons_zero, List.set_cons_succ])
    refine wpQ_val ?_ rfl ?_ ?_
    rotate_left
    · intro w hS; go_simp; try with_reducible rfl
    (simp only [Act.put, List.setIfInBounds_toArray, List.set_cons_zero, List.set_cons_succ])
    refine wpQ_val ?_ rfl ?_ ?_
    rotate_left
    · intro w hS; go_simp; try with_reducible rfl
    (simp only [Act.put, List.setIfInBounds_toArray, List.set_cons_zero, List.set_cons_succ])
    refine wpQ_load rfl (fun w hS => by (first | exact hS.cell 0 rfl _ rfl | exact hS.cell 1 rfl _ rfl | exact hS.cell 2 rfl _ rfl | exact hS.cell 3 rfl _ rfl | exact hS.cell 4 rfl _ rfl | exact hS.cell 5 rfl _ rfl | exact hS.cell 6 rfl _ rfl | exact hS.cell 7 rfl _ rfl | assumption)) (by kernel_rfl) ?_
    (simp only [Act.put, List.setIfInBounds_toArray, List.set_cons_zero, List.set_cons_succ])
    refine wpQ_val ?_ rfl ?_ ?_
    rotate_left
    · intro w hS; go_simp; try with_reducible rfl
    (simp only [Act.put, List.setIfInBounds_toArray, List.set_cons_zero, List.set_cons_succ])
    refine wpQ_val ?_ rfl ?_ ?_
    rotate_left
    · intro w hS; go_simp; try with_reducible rfl
    (simp only [Act.put, List.setIfInBounds_toArray, List.set_cons_zero, List.set_cons_succ])
    refine wpQ_load rfl (fun w hS => by (first | exact hS.cell 0 rfl _ rfl | exact hS.cell 1 rfl _ rfl | exact hS.cell 2 rfl _ rfl | exact hS.cell 3 rfl _ rfl | exact hS.cell 4 rfl _ rfl | exact hS.cell 5 rfl _ rfl | exact hS.cell 6 rfl _ rfl | exact hS.cell 7 rfl _ rfl | assumption)) (by kernel_rfl) ?_
    (simp only [Act.put, List.setIfInBounds_toArray, List.set_cons_zero, List.set_cons_succ])
    refine wpQ_val ?_ rfl ?_ ?_
    rotate_left
    · intro w hS; go_simp; try with_reducible rfl
    (simp only [Act.put, List.setIfInBounds_toArray, List.set_cons_zero, List.set_cons_succ])
    refine wpQ_load rfl (fun w hS => by (first | exact hS.cell 0 rfl _ rfl | exact hS.cell 1 rfl _ rfl | exact hS.cell 2 rfl _ rfl | exact hS.cell 3 rfl _ rfl | exact hS.cell 4 rfl _ rfl | exact hS.cell 5 rfl _ rfl | exact hS.cell 6 rfl _ rfl | exact hS.cell 7 rfl _ rfl | assumption)) (by kernel_rfl) ?_
    (simp only [Act.put, List.setIfInBounds_toArray, List.set_cons_zero, List.set_cons_succ])
    apply wpQ_call (f := 11) Try.func11 (by kernel_rfl) (.slice none 0 0)
    · (try simp only [List.map_toArray, List.map_cons, List.map_nil, Act.eval, Array.getD_eq_getD_getElem?, List.getElem?_toArray, List.getElem?_cons_succ, List.getElem?_cons_zero, Option.getD_some]); exact rfl
    · intro w hS; with_reducible exact (calls_same hS (due_off w0 _ _ g _ _ _ (off_of hS)))
    (simp only [Act.put, List.setIfInBounds_toArray, List.set_cons_zero, List.set_cons_succ])
    refine wpQ_val ?_ rfl ?_ ?_
    rotate_left
    · intro w hS; go_simp; try with_reducible rfl
    (simp only [Act.put, List.setIfInBounds_toArray, List.set_cons_zero, List.set_cons_succ])
    refine wpQ_val ?_ rfl ?_ ?_
    rotate_left
    · intro w hS; go_simp; try with_reducible rfl
    (simp only [Act.put, List.setIfInBounds_toArray, List.set_cons_zero, List.set_cons_succ])
    refine wpQuiet_nil ?_
    intro wx hS
    go_wp2_with (first | ((with_reducible apply wpA_guard); exact rfl; skip) | (go_at_call 12; with_reducible refine (awake_c w0 _ [] hS.tail.tail).mono ?_; rintro _ _ ⟨rfl, hS⟩) | ((with_reducible apply wpA_load); exact rfl; (first | exact hS.cell 0 rfl _ rfl | exact hS.cell 1 rfl _ rfl | exact hS.cell 2 rfl _ rfl | exact hS.cell 3 rfl _ rfl | exact hS.cell 4 rfl _ rfl | exact hS.cell 5 rfl _ rfl | exact hS.cell 6 rfl _ rfl | exact hS.cell 7 rfl _ rfl | assumption); kernel_rfl) | (first | ((with_reducible apply wpA_store1 hS 0); exact rfl; exact rfl; exact rfl; exact rfl; exact rfl; exact rfl; kernel_rfl; intro wx hS; (try simp only [Act.put, List.setIfInBounds_toArray, List.set_cons_zero, List.set_cons_succ]); (try simp only [Act.eval, Array.getD_eq_getD_getElem?, List.getElem?_toArray, List.getElem?_cons_succ, List.getElem?_cons_zero, Option.getD_some, List.set_cons_succ, List.set_cons_zero, Value.cells, List.toList_toArray] at hS)) | ((with_reducible apply wpA_store1 hS 1); exact rfl; exact rfl; exact rfl; exact rfl; exact rfl; exact rfl; kernel_rfl; intro wx hS; (try simp only [Act.put, List.setIfInBounds_toArray, List.set_cons_zero, List.set_cons_succ]); (try simp only [Act.eval, Array.getD_eq_getD_getElem?, List.getElem?_toArray, List.getElem?_cons_succ, List.getElem?_cons_zero, Option.getD_some, List.set_cons_succ, List.set_cons_zero, Value.cells, List.toList_toArray] at hS)) | ((with_reducible apply wpA_store1 hS 2); exact rfl; exact rfl; exact rfl; exact rfl; exact rfl; exact rfl; kernel_rfl; intro wx hS; (try simp only [Act.put, List.setIfInBounds_toArray, List.set_cons_zero, List.set_cons_succ]); (try simp only [Act.eval, Array.getD_eq_getD_getElem?, List.getElem?_toArray, List.getElem?_cons_succ, List.getElem?_cons_zero, Option.getD_some, List.set_cons_succ, List.set_cons_zero, Value.cells, List.toList_toArray] at hS)) | ((with_reducible apply wpA_store1 hS 3); exact rfl; exact rfl; exact rfl; exact rfl; exact rfl; exact rfl; kernel_rfl; intro wx hS; (try simp only [Act.put, List.setIfInBounds_toArray, List.set_cons_zero, List.set_cons_succ]); (try simp only [Act.eval, Array.getD_eq_getD_getElem?, List.getElem?_toArray, List.getElem?_cons_succ, List.getElem?_cons_zero, Option.getD_some, List.set_cons_succ, List.set_cons_zero, Value.cells, List.toList_toArray] at hS)) | ((with_reducible apply wpA_store1 hS 4); exact rfl; exact rfl; exact rfl; exact rfl; exact rfl; exact rfl; kernel_rfl; intro wx hS; (try simp only [Act.put, List.setIfInBounds_toArray, List.set_cons_zero, List.set_cons_succ]); (try simp only [Act.eval, Array.getD_eq_getD_getElem?, List.getElem?_toArray, List.getElem?_cons_succ, List.getElem?_cons_zero, Option.getD_some, List.set_cons_succ, List.set_cons_zero, Value.cells, List.toList_toArray] at hS)) | ((with_reducible apply wpA_store1 hS 5); exact rfl; exact rfl; exact rfl; exact rfl; exact rfl; exact rfl; kernel_rfl; intro wx hS; (try simp only [Act.put, List.setIfInBounds_toArray, List.set_cons_zero, List.set_cons_succ]); (try simp only [Act.eval, Array.getD_eq_getD_getElem?, List.getElem?_toArray, List.getElem?_cons_succ, List.getElem?_cons_zero, Option.getD_some, List.set_cons_succ, List.set_cons_zero, Value.cells, List.toList_toArray] at hS))) | ((with_reducible apply wpA_box hS); exact rfl; exact rfl; intro _ wx hS; (try simp only [Act.put, List.setIfInBounds_toArray, List.set_cons_zero, List.set_cons_succ]); (try simp only [Act.eval, Array.getD_eq_getD_getElem?, List.getElem?_toArray, List.getElem?_cons_succ, List.getElem?_cons_zero, Option.getD_some, List.set_cons_succ, List.set_cons_zero, Value.cells, List.toList_toArray] at hS)))
    go_ret
    exact ⟨rfl, hS⟩
  | false =>
    go_enter Try.func6, Try.ntmps6
    go_wp2_with (first | ((with_reducible apply wpA_guard); exact rfl; skip) | (go_at_call 8; with_reducible refine (begin_nil _ _ _).mono ?_; rintro _ _ ⟨rfl, rfl⟩) | (go_at_call 15; with_reducible refine (stop_nil _).mono ?_; rintro _ _ ⟨rfl, rfl⟩) | (go_at_call 16; with_reducible refine (opened_nil _ _ _).mono ?_; rintro _ _ ⟨rfl, rfl⟩) | (go_at_call 9; with_reducible refine (keep_nil _ _ _ _ _ _).mono ?_; rintro _ _ ⟨rfl, rfl⟩) | (go_at_call 17; with_reducible refine (deadline_nil _ _).mono ?_; rintro _ _ ⟨rfl, rfl⟩) | ((with_reducible apply wpA_load); exact rfl; (first | exact hS.cell 0 rfl _ rfl | exact hS.cell 1 rfl _ rfl | exact hS.cell 2 rfl _ rfl | exact hS.cell 3 rfl _ rfl | exact hS.cell 4 rfl _ rfl | exact hS.cell 5 rfl _ rfl | exact hS.cell 6 rfl _ rfl | exact hS.cell 7 rfl _ rfl | assumption); kernel_rfl) | (first | ((with_reducible apply wpA_store1 hS 0); exact rfl; exact rfl; exact rfl; exact rfl; exact rfl; exact rfl; kernel_rfl; intro wx hS; (try simp only [Act.put, List.setIfInBounds_toArray, List.set_cons_zero, List.set_cons_succ]); (try simp only [Act.eval, Array.getD_eq_getD_getElem?, List.getElem?_toArray, List.getElem?_cons_succ, List.getElem?_cons_zero, Option.getD_some, List.set_cons_succ, List.set_cons_zero, Value.cells, List.toList_toArray] at hS)) | ((with_reducible apply wpA_store1 hS 1); exact rfl; exact rfl; exact rfl; exact rfl; exact rfl; exact rfl; kernel_rfl; intro wx hS; (try simp only [Act.put, List.setIfInBounds_toArray, List.set_cons_zero, List.set_cons_succ]); (try simp only [Act.eval, Array.getD_eq_getD_getElem?, List.getElem?_toArray, List.getElem?_cons_succ, List.getElem?_cons_zero, Option.getD_some, List.set_cons_succ, List.set_cons_zero, Value.cells, List.toList_toArray] at hS)) | ((with_reducible apply wpA_store1 hS 2); exact rfl; exact rfl; exact rfl; exact rfl; exact rfl; exact rfl; kernel_rfl; intro wx hS; (try simp only [Act.put, List.setIfInBounds_toArray, List.set_cons_zero, List.set_cons_succ]); (try simp only [Act.eval, Array.getD_eq_getD_getElem?, List.getElem?_toArray, List.getElem?_cons_succ, List.getElem?_cons_zero, Option.getD_some, List.set_cons_succ, List.set_cons_zero, Value.cells, List.toList_toArray] at hS)) | ((with_reducible apply wpA_store1 hS 3); exact rfl; exact rfl; exact rfl; exact rfl; exact rfl; exact rfl; kernel_rfl; intro wx hS; (try simp only [Act.put, List.setIfInBounds_toArray, List.set_cons_zero, List.set_cons_succ]); (try simp only [Act.eval, Array.getD_eq_getD_getElem?, List.getElem?_toArray, List.getElem?_cons_succ, List.getElem?_cons_zero, Option.getD_some, List.set_cons_succ, List.set_cons_zero, Value.cells, List.toList_toArray] at hS)) | ((with_reducible apply wpA_store1 hS 4); exact rfl; exact rfl; exact rfl; exact rfl; exact rfl; exact rfl; kernel_rfl; intro wx hS; (try simp only [Act.put, List.setIfInBounds_toArray, List.set_cons_zero, List.set_cons_succ]); (try simp only [Act.eval, Array.getD_eq_getD_getElem?, List.getElem?_toArray, List.getElem?_cons_succ, List.getElem?_cons_zero, Option.getD_some, List.set_cons_succ, List.set_cons_zero, Value.cells, List.toList_toArray] at hS)) | ((with_reducible apply wpA_store1 hS 5); exact rfl; exact rfl; exact rfl; exact rfl; exact rfl; exact rfl; kernel_rfl; intro wx hS; (try simp only [Act.put, List.setIfInBounds_toArray, List.set_cons_zero, List.set_cons_succ]); (try simp only [Act.eval, Array.getD_eq_getD_getElem?, List.getElem?_toArray, List.getElem?_cons_succ, List.getElem?_cons_zero, Option.getD_some, List.set_cons_succ, List.set_cons_zero, Value.cells, List.toList_toArray] at hS))) | ((with_reducible apply wpA_box hS); exact rfl; exact rfl; intro _ wx hS; (try simp only [Act.put, List.setIfInBounds_toArray, List.set_cons_zero, List.set_cons_succ]); (try simp only [Act.eval, Array.getD_eq_getD_getElem?, List.getElem?_toArray, List.getElem?_cons_succ, List.getElem?_cons_zero, Option.getD_some, List.set_cons_succ, List.set_cons_zero, Value.cells, List.toList_toArray] at hS)))
    refine wp_region_St hS (by kernel_rfl) (by kernel_rfl) ?_
    refine wpQ_val ?_ rfl ?_ ?_
    rotate_left
    · intro w hS; go_simp; try with_reducible rfl
    (simp only [Act.put, List.setIfInBounds_toArray, List.set_cons_zero, List.set_cons_succ])
    refine wpQ_val ?_ rfl ?_ ?_
    rotate_left
    · intro w hS; go_simp; try with_reducible rfl
    (simp only [Act.put, List.setIfInBounds_toArray, List.set_cons_zero, List.set_cons_succ])
    refine wpQ_load rfl (fun w hS => by (first | exact hS.cell 0 rfl _ rfl | exact hS.cell 1 rfl _ rfl | exact hS.cell 2 rfl _ rfl | exact hS.cell 3 rfl _ rfl | exact hS.cell 4 rfl _ rfl | exact hS.cell 5 rfl _ rfl | exact hS.cell 6 rfl _ rfl | exact hS.cell 7 rfl _ rfl | assumption)) (by kernel_rfl) ?_
    (simp only [Act.put, List.setIfInBounds_toArray, List.set_cons_zero, List.set_cons_succ])
    refine wpQ_val ?_ rfl ?_ ?_
    rotate_left
    · intro w hS; go_simp; try with_reducible rfl
    (simp only [Act.put, List.setIfInBounds_toArray, List.set_cons_zero, List.set_cons_succ])
    refine wpQ_load rfl (fun w hS => by (first | exact hS.cell 0 rfl _ rfl | exact hS.cell 1 rfl _ rfl | exact hS.cell 2 rfl _ rfl | exact hS.cell 3 rfl _ rfl | exact hS.cell 4 rfl _ rfl | exact hS.cell 5 rfl _ rfl | exact hS.cell 6 rfl _ rfl | exact hS.cell 7 rfl _ rfl | assumption)) (by kernel_rfl) ?_
    (simp only [Act.put, List.setIfInBounds_toArray, List.set_cons_zero, List.set_cons_succ])
    refine wpQ_val ?_ rfl ?_ ?_
    rotate_left
    · intro w hS; go_simp; try with_reducible rfl
    (simp only [Act.put, List.setIfInBounds_toArray, List.set_cons_zero, List.set_cons_succ])
    refine wpQ_load rfl (fun w hS => by (first | exact hS.cell 0 rfl _ rfl | exact hS.cell 1 rfl _ rfl | exact hS.cell 2 rfl _ rfl | exact hS.cell 3 rfl _ rfl | exact hS.cell 4 rfl _ rfl | exact hS.cell 5 rfl _ rfl | exact hS.cell 6 rfl _ rfl | exact hS.cell 7 rfl _ rfl | assumption)) (by kernel_rfl) ?_
    (simp only [Act.put, List.setIfInBounds_toArray, List.set_cons_zero, List.set_cons_succ])
    apply wpQ_call (f := 10) Try.func10 (by kernel_rfl) (.slice none 0 0)
    · (try simp only [List.map_toArray, List.map_cons, List.map_nil, Act.eval, Array.getD_eq_getD_getElem?, List.getElem?_toArray, List.getElem?_cons_succ, List.getElem?_cons_zero, Option.getD_some]); exact rfl
    · intro w hS; with_reducible exact (confirm_nil _ _ _ w0 _ _ hS)
    (simp only [Act.put, List.setIfInBounds_toArray, List.set_cons_zero, List.set_cons_succ])
    refine wpQ_val ?_ rfl ?_ ?_
    rotate_left
    · intro w hS; go_simp; try with_reducible rfl
    (simp only [Act.put, List.setIfInBounds_toArray, List.set_cons_zero, List.set_cons_succ])
    refine wpQ_val ?_ rfl ?_ ?_
    rotate_left
    · intro w hS; go_simp; try with_reducible rfl
    (simp only [Act.put, List.setIfInBounds_toArray, List.set_cons_zero, List.set_cons_succ])
    refine wpQ_load rfl (fun w hS => by (first | exact hS.cell 0 rfl _ rfl | exact hS.cell 1 rfl _ rfl | exact hS.cell 2 rfl _ rfl | exact hS.cell 3 rfl _ rfl | exact hS.cell 4 rfl _ rfl | exact hS.cell 5 rfl _ rfl | exact hS.cell 6 rfl _ rfl | exact hS.cell 7 rfl _ rfl | assumption)) (by kernel_rfl) ?_
    (simp only [Act.put, List.setIfInBounds_toArray, List.set_cons_zero, List.set_cons_succ])
    refine wpQ_val ?_ rfl ?_ ?_
    rotate_left
    · intro w hS; go_simp; try with_reducible rfl
    (simp only [Act.put, List.setIfInBounds_toArray, List.set_cons_zero, List.set_cons_succ])
    refine wpQ_val ?_ rfl ?_ ?_
    rotate_left
    · intro w hS; go_simp; try with_reducible rfl
    (simp only [Act.put, List.setIfInBounds_toArray, List.set_cons_zero, List.set_cons_succ])
    refine wpQ_load rfl (fun w hS => by (first | exact hS.cell 0 rfl _ rfl | exact hS.cell 1 rfl _ rfl | exact hS.cell 2 rfl _ rfl | exact hS.cell 3 rfl _ rfl | exact hS.cell 4 rfl _ rfl | exact hS.cell 5 rfl _ rfl | exact hS.cell 6 rfl _ rfl | exact hS.cell 7 rfl _ rfl | assumption)) (by kernel_rfl) ?_
    (simp only [Act.put, List.setIfInBounds_toArray, List.set_cons_zero, List.set_cons_succ])
    refine wpQ_val ?_ rfl ?_ ?_
    rotate_left
    · intro w hS; go_simp; try with_reducible rfl
    (simp only [Act.put, List.setIfInBounds_toArray, List.set_cons_zero, List.set_cons_succ])
    refine wpQ_load rfl (fun w hS => by (first | exact hS.cell 0 rfl _ rfl | exact hS.cell 1 rfl _ rfl | exact hS.cell 2 rfl _ rfl | exact hS.cell 3 rfl _ rfl | exact hS.cell 4 rfl _ rfl | exact hS.cell 5 rfl _ rfl | exact hS.cell 6 rfl _ rfl | exact hS.cell 7 rfl _ rfl | assumption)) (by kernel_rfl) ?_
    (simp only [Act.put, List.setIfInBounds_toArray, List.set_cons_zero, List.set_cons_succ])
    apply wpQ_call (f := 11) Try.func11 (by kernel_rfl) (.slice none 0 0)
    · (try simp only [List.map_toArray, List.map_cons, List.map_nil, Act.eval, Array.getD_eq_getD_getElem?, List.getElem?_toArray, List.getElem?_cons_succ, List.getElem?_cons_zero, Option.getD_some]); exact rfl
    · intro w hS; with_reducible exact (calls_same hS (due_nil _ _ _ _))
    (simp only [Act.put, List.setIfInBounds_toArray, List.set_cons_zero, List.set_cons_succ])
    refine wpQ_val ?_ rfl ?_ ?_
    rotate_left
    · intro w hS; go_simp; try with_reducible rfl
    (simp only [Act.put, List.setIfInBounds_toArray, List.set_cons_zero, List.set_cons_succ])
    refine wpQ_val ?_ rfl ?_ ?_
    rotate_left
    · intro w hS; go_simp; try with_reducible rfl
    (simp only [Act.put, List.setIfInBounds_toArray, List.set_cons_zero, List.set_cons_succ])
    refine wpQuiet_nil ?_
    intro wx hS
    go_wp2_with (first | ((with_reducible apply wpA_guard); exact rfl; skip) | (go_at_call 8; with_reducible refine (begin_nil _ _ _).mono ?_; rintro _ _ ⟨rfl, rfl⟩) | (go_at_call 15; with_reducible refine (stop_nil _).mono ?_; rintro _ _ ⟨rfl, rfl⟩) | (go_at_call 12; with_reducible refine (awake_c w0 _ [] hS.tail).mono ?_; rintro _ _ ⟨rfl, hS⟩) | ((with_reducible apply wpA_load); exact rfl; (first | exact hS.cell 0 rfl _ rfl | exact hS.cell 1 rfl _ rfl | exact hS.cell 2 rfl _ rfl | exact hS.cell 3 rfl _ rfl | exact hS.cell 4 rfl _ rfl | exact hS.cell 5 rfl _ rfl | exact hS.cell 6 rfl _ rfl | exact hS.cell 7 rfl _ rfl | assumption); kernel_rfl) | (first | ((with_reducible apply wpA_store1 hS 0); exact rfl; exact rfl; exact rfl; exact rfl; exact rfl; exact rfl; kernel_rfl; intro wx hS; (try simp only [Act.put, List.setIfInBounds_toArray, List.set_cons_zero, List.set_cons_succ]); (try simp only [Act.eval, Array.getD_eq_getD_getElem?, List.getElem?_toArray, List.getElem?_cons_succ, List.getElem?_cons_zero, Option.getD_some, List.set_cons_succ, List.set_cons_zero, Value.cells, List.toList_toArray] at hS)) | ((with_reducible apply wpA_store1 hS 1); exact rfl; exact rfl; exact rfl; exact rfl; exact rfl; exact rfl; kernel_rfl; intro wx hS; (try simp only [Act.put, List.setIfInBounds_toArray, List.set_cons_zero, List.set_cons_succ]); (try simp only [Act.eval, Array.getD_eq_getD_getElem?, List.getElem?_toArray, List.getElem?_cons_succ, List.getElem?_cons_zero, Option.getD_some, List.set_cons_succ, List.set_cons_zero, Value.cells, List.toList_toArray] at hS)) | ((with_reducible apply wpA_store1 hS 2); exact rfl; exact rfl; exact rfl; exact rfl; exact rfl; exact rfl; kernel_rfl; intro wx hS; (try simp only [Act.put, List.setIfInBounds_toArray, List.set_cons_zero, List.set_cons_succ]); (try simp only [Act.eval, Array.getD_eq_getD_getElem?, List.getElem?_toArray, List.getElem?_cons_succ, List.getElem?_cons_zero, Option.getD_some, List.set_cons_succ, List.set_cons_zero, Value.cells, List.toList_toArray] at hS)) | ((with_reducible apply wpA_store1 hS 3); exact rfl; exact rfl; exact rfl; exact rfl; exact rfl; exact rfl; kernel_rfl; intro wx hS; (try simp only [Act.put, List.setIfInBounds_toArray, List.set_cons_zero, List.set_cons_succ]); (try simp only [Act.eval, Array.getD_eq_getD_getElem?, List.getElem?_toArray, List.getElem?_cons_succ, List.getElem?_cons_zero, Option.getD_some, List.set_cons_succ, List.set_cons_zero, Value.cells, List.toList_toArray] at hS)) | ((with_reducible apply wpA_store1 hS 4); exact rfl; exact rfl; exact rfl; exact rfl; exact rfl; exact rfl; kernel_rfl; intro wx hS; (try simp only [Act.put, List.setIfInBounds_toArray, List.set_cons_zero, List.set_cons_succ]); (try simp only [Act.eval, Array.getD_eq_getD_getElem?, List.getElem?_toArray, List.getElem?_cons_succ, List.getElem?_cons_zero, Option.getD_some, List.set_cons_succ, List.set_cons_zero, Value.cells, List.toList_toArray] at hS)) | ((with_reducible apply wpA_store1 hS 5); exact rfl; exact rfl; exact rfl; exact rfl; exact rfl; exact rfl; kernel_rfl; intro wx hS; (try simp only [Act.put, List.setIfInBounds_toArray, List.set_cons_zero, List.set_cons_succ]); (try simp only [Act.eval, Array.getD_eq_getD_getElem?, List.getElem?_toArray, List.getElem?_cons_succ, List.getElem?_cons_zero, Option.getD_some, List.set_cons_succ, List.set_cons_zero, Value.cells, List.toList_toArray] at hS))) | ((with_reducible apply wpA_box hS); exact rfl; exact rfl; intro _ wx hS; (try simp only [Act.put, List.setIfInBounds_toArray, List.set_cons_zero, List.set_cons_succ]); (try simp only [Act.eval, Array.getD_eq_getD_getElem?, List.getElem?_toArray, List.getElem?_cons_succ, List.getElem?_cons_zero, Option.getD_some, List.set_cons_succ, List.set_cons_zero, Value.cells, List.toList_toArray] at hS)))
    go_ret
    exact ⟨rfl, hS⟩

theorem Deed_v {w : World} {v : Value} (h : RdV Try.prog w 28 v) : ∃ (x0 : Int) (x1 : Int) (x2 : Int) (x3 : Int) (x4 : Int) (x5 : Int) (a6 : Option Addr) (n6 c6 : Nat) (a7 : Option Addr) (n7 c7 : Nat), v = .agg #[.int .i64 x0, .int .i64 x1, .int .i64 x2, .int .i64 x3, .int .i64 x4, .int .i64 x5, .slice a6 n6 c6, .slice a7 n7 c7] ∧ (Lit.int .i64 x0).wf = true ∧ (Lit.int .i64 x1).wf = true ∧ (Lit.int .i64 x2).wf = true ∧ (Lit.int .i64 x3).wf = true ∧ (Lit.int .i64 x4).wf = true ∧ (Lit.int .i64 x5).wf = true ∧ Rd Try.prog w 26 [.slice a6 n6 c6] ∧ Rd Try.prog w 26 [.slice a7 n7 c7] := by
  obtain ⟨cs, rfl, hl, h⟩ := h.struct Try.underlying28
  obtain ⟨_, hf⟩ := h.fields Try.underlying28
  have hc : Try.prog.cellsOf 28 = 8 := by kernel_rfl
  rw [hc] at hl
  obtain ⟨c0, r0, rfl, l0⟩ := cons_of_len hl
  obtain ⟨c1, r1, rfl, l1⟩ := cons_of_len l0
  obtain ⟨c2, r2, rfl, l2⟩ := cons_of_len l1
  obtain ⟨c3, r3, rfl, l3⟩ := cons_of_len l2
  obtain ⟨c4, r4, rfl, l4⟩ := cons_of_len l3
  obtain ⟨c5, r5, rfl, l5⟩ := cons_of_len l4
  obtain ⟨c6, r6, rfl, l6⟩ := cons_of_len l5
  obtain ⟨c7, r7, rfl, l7⟩ := cons_of_len l6
  obtain rfl := List.length_eq_zero_iff.1 l7
  have hk0 : Try.prog.cellsOf 3 = 1 := by kernel_rfl
  have f0 : Rd Try.prog w 3 [c0] := by simpa [hk0] using hf 0 _ rfl
  obtain ⟨x0, e0, p0⟩ := f0.int Try.underlying3
  simp only [List.cons.injEq, and_true] at e0
  subst e0
  have hk1 : Try.prog.cellsOf 3 = 1 := by kernel_rfl
  have f1 : Rd Try.prog w 3 [c1] := by simpa [hk1] using hf 1 _ rfl
  obtain ⟨x1, e1, p1⟩ := f1.int Try.underlying3
  simp only [List.cons.injEq, and_true] at e1
  subst e1
  have hk2 : Try.prog.cellsOf 3 = 1 := by kernel_rfl
  have f2 : Rd Try.prog w 3 [c2] := by simpa [hk2] using hf 2 _ rfl
  obtain ⟨x2, e2, p2⟩ := f2.int Try.underlying3
  simp only [List.cons.injEq, and_true] at e2
  subst e2
  have hk3 : Try.prog.cellsOf 3 = 1 := by kernel_rfl
  have f3 : Rd Try.prog w 3 [c3] := by simpa [hk3] using hf 3 _ rfl
  obtain ⟨x3, e3, p3⟩ := f3.int Try.underlying3
  simp only [List.cons.injEq, and_true] at e3
  subst e3
  have hk4 : Try.prog.cellsOf 3 = 1 := by kernel_rfl
  have f4 : Rd Try.prog w 3 [c4] := by simpa [hk4] using hf 4 _ rfl
  obtain ⟨x4, e4, p4⟩ := f4.int Try.underlying3
  simp only [List.cons.injEq, and_true] at e4
  subst e4
  have hk5 : Try.prog.cellsOf 3 = 1 := by kernel_rfl
  have f5 : Rd Try.prog w 3 [c5] := by simpa [hk5] using hf 5 _ rfl
  obtain ⟨x5, e5, p5⟩ := f5.int Try.underlying3
  simp only [List.cons.injEq, and_true] at e5
  subst e5
  have hk6 : Try.prog.cellsOf 26 = 1 := by kernel_rfl
  have f6 : Rd Try.prog w 26 [c6] := by simpa [hk6] using hf 6 _ rfl
  obtain ⟨a6, n6, c_6, e6⟩ : ∃ a n c, [c6] = [Value.slice a n c] := f6.isSlice Try.underlying26
  simp only [List.cons.injEq, and_true] at e6
  subst e6
  have p6 := f6
  have hk7 : Try.prog.cellsOf 26 = 1 := by kernel_rfl
  have f7 : Rd Try.prog w 26 [c7] := by simpa [hk7] using hf 7 _ rfl
  obtain ⟨a7, n7, c_7, e7⟩ : ∃ a n c, [c7] = [Value.slice a n c] := f7.isSlice Try.underlying26
  simp only [List.cons.injEq, and_true] at e7
  subst e7
  have p7 := f7
  exact ⟨x0, x1, x2, x3, x4, x5, a6, n6, c_6, a7, n7, c_7, rfl, p0, p1, p2, p3, p4, p5, p6, p7⟩

theorem lnone_c (w : World) (v0 v1 : Value) (h0 : RdV Try.prog w 28 v0) (h1 : RdV Try.prog w 4 v1) : Calls Try.prog 6 #[v0, v1] w fun e w' => e = .returned (.bool true) ∧ St w w' [] := by
  obtain ⟨b, rfl⟩ := h1.bool Try.underlying4
  obtain ⟨x0, x1, x2, x3, x4, x5, a6, n6, c6, a7, n7, c7, rfl, _⟩ := Deed_v h0
  exact lnone_v w b x0 x1 x2 x3 x4 x5 a6 a7 n6 c6 n7 c7
end Go.Proofs.Ytcihgcdakooacaa
