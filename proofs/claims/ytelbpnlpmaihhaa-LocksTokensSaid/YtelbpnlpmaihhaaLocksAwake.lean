/-
  Chapter 19's example, walked: it answers true.
-/
import Derived.Test.YtelbpnlpmaihhaaLocksW8
namespace Go.Proofs.Ytelbpnlpmaihhaa
set_option linter.unusedVariables false
set_option linter.unusedSimpArgs false
open Go.RowKit

def la : ByteArray := ⟨#[97]⟩
def lst1 (x : LockS) (tok : Int) : LocksS := ⟨[(la, x)], tok⟩

theorem e1 : askD ⟨[], 0⟩ ⟨5, 1, 1, la, 0⟩ = ([⟨1, 1, 0, 1, 0⟩], false, lst1 ⟨[1], true, []⟩ 1) := by rfl
theorem e2 : askD (lst1 ⟨[1], true, []⟩ 1) ⟨5, 2, 1, la, 0⟩ = ([], true, lst1 ⟨[1], true, [⟨2, 1, false⟩]⟩ 1) := by rfl
theorem e3 : askD (lst1 ⟨[1], true, [⟨2, 1, false⟩]⟩ 1) ⟨7, 3, 1, la, 0⟩ = ([], true, lst1 ⟨[1], true, [⟨2, 1, false⟩, ⟨3, 1, true⟩]⟩ 1) := by rfl
theorem e4 : relD (lst1 ⟨[1], true, [⟨2, 1, false⟩, ⟨3, 1, true⟩]⟩ 1) ⟨6, 1, 1, la, 0⟩ = ([⟨1, 1, 0, 0, 0⟩, ⟨2, 1, 0, 2, 0⟩], lst1 ⟨[2], true, [⟨3, 1, true⟩]⟩ 2) := by rfl
theorem e5 : relD (lst1 ⟨[2], true, [⟨3, 1, true⟩]⟩ 2) ⟨6, 2, 1, la, 0⟩ = ([⟨2, 1, 0, 0, 0⟩, ⟨3, 1, 0, 2, 0⟩], lst1 ⟨[3], false, []⟩ 2) := by rfl
theorem e6 : relD (lst1 ⟨[3], false, []⟩ 2) ⟨6, 2, 1, la, 0⟩ = ([⟨2, 1, 13, 0, 0⟩], lst1 ⟨[3], false, []⟩ 2) := by rfl
theorem e7 : aget (lst1 ⟨[3], false, []⟩ 2).l la = some ⟨[3], false, []⟩ := by rfl

theorem ok0 : (⟨[], 0⟩ : LocksS).ok 10000000 := ⟨by decide, by decide, by decide, by simp⟩
theorem ok1 {x : LockS} {tok : Int} (h0 : 0 ≤ tok) (h1 : tok ≤ 1000) (hp : x.held.Pairwise (· ≤ ·)) (hl : x.held.length + x.queue.length ≤ 10) : (lst1 x tok).ok 10000000 :=
  ⟨h0, by show tok ≤ tokLast; unfold tokLast; omega, by simp [lst1], by
    intro y hy
    simp [lst1] at hy
    subst hy
    exact ⟨hp, by show x.held.length + x.queue.length ≤ 10000000; omega⟩⟩

theorem cmd_c (k s : Int) (w0 w : World) (H : List Hp) (hS : St w0 w H) : Calls Try.prog 36 #[.int .i64 k, .int .i64 s] w fun e w' => e = .returned (.agg #[.int .i64 k, .int .i64 s, .int .i64 1, .string ⟨#[97]⟩, .int .i64 0]) ∧ St w0 w' H := by
  go_enter Try.func36, Try.ntmps36
  go_wp2_with (first | ((with_reducible show WGd ..); (with_reducible apply wpA_guard); exact rfl; skip) | ((first | ((with_reducible show WAl ..); (with_reducible apply wpA_alloc (t := 30) hS (v := .agg #[.int .i64 0, .int .i64 0, .int .i64 0, .string ⟨#[]⟩, .int .i64 0])); kernel_rfl; exact rfl; intro _ wx hS) | ((with_reducible show WBx ..); (with_reducible apply wpA_box hS); exact rfl; exact rfl; intro _ wx hS)); (try simp only [Act.put, List.setIfInBounds_toArray, List.set_cons_zero, List.set_cons_succ]); (try simp only [Act.eval, Array.getD_eq_getD_getElem?, List.getElem?_toArray, List.getElem?_cons_succ, List.getElem?_cons_zero, Option.getD_some, List.set_cons_succ, List.set_cons_zero, Value.cells, List.toList_toArray] at hS)) | ((with_reducible show WSt ..); (with_reducible apply wpA_storeI hS); exact rfl; (focus repeat constructor); exact rfl; exact rfl; exact rfl; exact (Nat.le_of_ble_eq_true rfl); kernel_rfl; intro wx hS; (try simp only [Act.put, List.setIfInBounds_toArray, List.set_cons_zero, List.set_cons_succ]); (try simp only [Act.eval, Array.getD_eq_getD_getElem?, List.getElem?_toArray, List.getElem?_cons_succ, List.getElem?_cons_zero, Option.getD_some, List.set_cons_succ, List.set_cons_zero, Value.cells, List.toList_toArray] at hS); (try simp only [List.take_zero, List.take_succ_cons, List.nil_append, List.cons_append, List.length_cons, List.length_nil, Nat.reduceAdd, Nat.zero_add, List.drop_succ_cons, List.drop_zero, List.drop_nil, List.append_nil] at hS)) | ((with_reducible show WLd ..); (with_reducible apply wpA_load); exact rfl; (first | ((with_reducible apply St.cellI hS); (focus repeat constructor); exact rfl) | assumption); kernel_rfl) | ((with_reducible show WSt ..); (with_reducible apply wpA_store1I hS); exact rfl; (focus repeat constructor); exact rfl; exact rfl; exact rfl; exact rfl; kernel_rfl; intro wx hS; (try simp only [Act.put, List.setIfInBounds_toArray, List.set_cons_zero, List.set_cons_succ]); (try simp only [Act.eval, Array.getD_eq_getD_getElem?, List.getElem?_toArray, List.getElem?_cons_succ, List.getElem?_cons_zero, Option.getD_some, List.set_cons_succ, List.set_cons_zero, Value.cells, List.toList_toArray] at hS)))
  refine bodyPost_ret (results_cell rfl rfl (Hp.range hS 0 rfl 0 5) (by kernel_rfl) (by kernel_rfl)) rfl ?_
  exact ⟨rfl, hS.tail⟩

theorem token_c (w0 w : World) (R : List Hp) (g : Nat) (σ : LocksS) (h : LocksSt w0 w g σ R) : Calls Try.prog 16 #[.pointer (some ⟨g, 0, none⟩)] w fun e w' => e = .returned (.int .u64 σ.tok) ∧ LocksSt w0 w' g σ R := by
  obtain ⟨m, Z, hZ, hS⟩ := h.front
  have fin : ∀ w', St w0 w' (.cells g [.map (some m), .int .u64 σ.tok] 68 :: .mp m .string (Z.map kvL) :: (Z.flatMap lhp ++ R)) → LocksSt w0 w' g σ R := fun w' h => ⟨m, Z, hZ, h⟩
  have FIN := Lib.hid fin
  clear fin hZ h
  go_enter Try.func16, Try.ntmps16
  go_wp2_with (first | ((with_reducible show WGd ..); (with_reducible apply wpA_guard); exact rfl; skip) | ((with_reducible show WLd ..); (with_reducible apply wpA_load); exact rfl; (first | ((with_reducible apply St.cellI hS); (focus repeat constructor); exact rfl) | assumption); kernel_rfl) | ((with_reducible show WSt ..); (with_reducible apply wpA_store1I hS); exact rfl; (focus repeat constructor); exact rfl; exact rfl; exact rfl; exact rfl; kernel_rfl; intro wx hS; (try simp only [Act.put, List.setIfInBounds_toArray, List.set_cons_zero, List.set_cons_succ]); (try simp only [Act.eval, Array.getD_eq_getD_getElem?, List.getElem?_toArray, List.getElem?_cons_succ, List.getElem?_cons_zero, Option.getD_some, List.set_cons_succ, List.set_cons_zero, Value.cells, List.toList_toArray] at hS)) | ((with_reducible show WBx ..); (with_reducible apply wpA_box hS); exact rfl; exact rfl; intro _ wx hS; (try simp only [Act.put, List.setIfInBounds_toArray, List.set_cons_zero, List.set_cons_succ]); (try simp only [Act.eval, Array.getD_eq_getD_getElem?, List.getElem?_toArray, List.getElem?_cons_succ, List.getElem?_cons_zero, Option.getD_some, List.set_cons_succ, List.set_cons_zero, Value.cells, List.toList_toArray] at hS)))
  go_ret
  exact ⟨rfl, FIN.out _ hS⟩
theorem token_nil (w0 w : World) (H : List Hp) (hS : St w0 w H) : Calls Try.prog 16 #[.pointer none] w fun e w' => e = .returned (.int .u64 0) ∧ St w0 w' H := by
  go_enter Try.func16, Try.ntmps16
  go_wp2_with (first | ((with_reducible show WGd ..); (with_reducible apply wpA_guard); exact rfl; skip) | ((with_reducible show WLd ..); (with_reducible apply wpA_load); exact rfl; (first | ((with_reducible apply St.cellI hS); (focus repeat constructor); exact rfl) | assumption); kernel_rfl) | ((with_reducible show WSt ..); (with_reducible apply wpA_store1I hS); exact rfl; (focus repeat constructor); exact rfl; exact rfl; exact rfl; exact rfl; kernel_rfl; intro wx hS; (try simp only [Act.put, List.setIfInBounds_toArray, List.set_cons_zero, List.set_cons_succ]); (try simp only [Act.eval, Array.getD_eq_getD_getElem?, List.getElem?_toArray, List.getElem?_cons_succ, List.getElem?_cons_zero, Option.getD_some, List.set_cons_succ, List.set_cons_zero, Value.cells, List.toList_toArray] at hS)) | ((with_reducible show WBx ..); (with_reducible apply wpA_box hS); exact rfl; exact rfl; intro _ wx hS; (try simp only [Act.put, List.setIfInBounds_toArray, List.set_cons_zero, List.set_cons_succ]); (try simp only [Act.eval, Array.getD_eq_getD_getElem?, List.getElem?_toArray, List.getElem?_cons_succ, List.getElem?_cons_zero, Option.getD_some, List.set_cons_succ, List.set_cons_zero, Value.cells, List.toList_toArray] at hS)))
  go_ret
  exact ⟨rfl, hS⟩

theorem LocksSt.some {w0 w : World} {R : List Hp} {g : Nat} {σ : LocksS} {e size n cap : Nat} {ao : Option Addr} {xs : List Value} (h : LocksSt w0 w g σ (.row e size ao (n + 1) cap xs :: R)) : ∃ q, ao = .some ⟨q, 0, none⟩ := by
  rcases row_head (h.rest.at_ 0 rfl) with ⟨_, hh, _⟩ | ⟨hq, _⟩
  · cases hh
  · exact hq
theorem row_sub {w : World} {e : TypeId} {size g n cap : Nat} {xs : List Value} (h : Hp.on w (.row e size (some ⟨g, 0, none⟩) n cap xs)) (j k : Nat) : w.rangeAt g j ((xs.drop j).take k) :=
  row_range h (fun i v hv => by
    rw [List.getElem?_take] at hv
    split at hv
    · rw [List.getElem?_drop] at hv; exact hv
    · cases hv)

section
variable {w0 w : World} {R : List Hp} {g : Nat}
theorem lk1 (h : LocksSt w0 w g ⟨[], 0⟩ R) : Calls Try.prog 10 #[.pointer (some ⟨g, 0, none⟩), .agg #[.int .i64 5, .int .i64 1, .int .i64 1, .string ⟨#[97]⟩, .int .i64 0]] w fun e w' => ∃ q cap, e = .returned (.tuple #[.slice (some ⟨q, 0, none⟩) 1 cap, .bool false]) ∧ LocksSt w0 w' g (lst1 ⟨[1], true, []⟩ 1) (.row 38 5 (some ⟨q, 0, none⟩) 1 cap ([.int .i64 1, .int .i64 1, .int .i64 0, .int .u64 1, .int .i64 0]) :: R) :=
  (ask_c w0 w R g _ ⟨5, 1, 1, la, 0⟩ h ok0).mono fun e w' h => by
    rw [e1] at h
    obtain ⟨ao, cap, h1, h2⟩ := h; obtain ⟨q, rfl⟩ := h2.some; exact ⟨q, cap, h1, h2⟩
theorem lk2 (h : LocksSt w0 w g (lst1 ⟨[1], true, []⟩ 1) R) : Calls Try.prog 10 #[.pointer (some ⟨g, 0, none⟩), .agg #[.int .i64 5, .int .i64 2, .int .i64 1, .string ⟨#[97]⟩, .int .i64 0]] w fun e w' => ∃ ao cap, e = .returned (.tuple #[.slice ao 0 cap, .bool true]) ∧ LocksSt w0 w' g (lst1 ⟨[1], true, [⟨2, 1, false⟩]⟩ 1) (.row 38 5 ao 0 cap ([]) :: R) :=
  (ask_c w0 w R g _ ⟨5, 2, 1, la, 0⟩ h (ok1 (by decide) (by decide) (by simp) (by decide))).mono fun e w' h => by
    rw [e2] at h
    exact h
theorem lk3 (h : LocksSt w0 w g (lst1 ⟨[1], true, [⟨2, 1, false⟩]⟩ 1) R) : Calls Try.prog 10 #[.pointer (some ⟨g, 0, none⟩), .agg #[.int .i64 7, .int .i64 3, .int .i64 1, .string ⟨#[97]⟩, .int .i64 0]] w fun e w' => ∃ ao cap, e = .returned (.tuple #[.slice ao 0 cap, .bool true]) ∧ LocksSt w0 w' g (lst1 ⟨[1], true, [⟨2, 1, false⟩, ⟨3, 1, true⟩]⟩ 1) (.row 38 5 ao 0 cap ([]) :: R) :=
  (ask_c w0 w R g _ ⟨7, 3, 1, la, 0⟩ h (ok1 (by decide) (by decide) (by simp) (by decide))).mono fun e w' h => by
    rw [e3] at h
    exact h
theorem lk4 (h : LocksSt w0 w g (lst1 ⟨[1], true, [⟨2, 1, false⟩, ⟨3, 1, true⟩]⟩ 1) R) : Calls Try.prog 13 #[.pointer (some ⟨g, 0, none⟩), .agg #[.int .i64 6, .int .i64 1, .int .i64 1, .string ⟨#[97]⟩, .int .i64 0]] w fun e w' => ∃ q cap, e = .returned (.slice (some ⟨q, 0, none⟩) 2 cap) ∧ LocksSt w0 w' g (lst1 ⟨[2], true, [⟨3, 1, true⟩]⟩ 2) (.row 38 5 (some ⟨q, 0, none⟩) 2 cap ([.int .i64 1, .int .i64 1, .int .i64 0, .int .u64 0, .int .i64 0, .int .i64 2, .int .i64 1, .int .i64 0, .int .u64 2, .int .i64 0]) :: R) :=
  (release_c w0 w R g _ ⟨6, 1, 1, la, 0⟩ h (ok1 (by decide) (by decide) (by simp) (by decide))).mono fun e w' h => by
    rw [e4] at h
    obtain ⟨ao, cap, h1, h2⟩ := h
    obtain ⟨q, rfl⟩ := h2.some
    exact ⟨q, cap, h1, h2⟩
theorem lk5 (h : LocksSt w0 w g (lst1 ⟨[2], true, [⟨3, 1, true⟩]⟩ 2) R) : Calls Try.prog 13 #[.pointer (some ⟨g, 0, none⟩), .agg #[.int .i64 6, .int .i64 2, .int .i64 1, .string ⟨#[97]⟩, .int .i64 0]] w fun e w' => ∃ q cap, e = .returned (.slice (some ⟨q, 0, none⟩) 2 cap) ∧ LocksSt w0 w' g (lst1 ⟨[3], false, []⟩ 2) (.row 38 5 (some ⟨q, 0, none⟩) 2 cap ([.int .i64 2, .int .i64 1, .int .i64 0, .int .u64 0, .int .i64 0, .int .i64 3, .int .i64 1, .int .i64 0, .int .u64 2, .int .i64 0]) :: R) :=
  (release_c w0 w R g _ ⟨6, 2, 1, la, 0⟩ h (ok1 (by decide) (by decide) (by simp) (by decide))).mono fun e w' h => by
    rw [e5] at h
    obtain ⟨ao, cap, h1, h2⟩ := h
    obtain ⟨q, rfl⟩ := h2.some
    exact ⟨q, cap, h1, h2⟩
theorem lk6 (h : LocksSt w0 w g (lst1 ⟨[3], false, []⟩ 2) R) : Calls Try.prog 13 #[.pointer (some ⟨g, 0, none⟩), .agg #[.int .i64 6, .int .i64 2, .int .i64 1, .string ⟨#[97]⟩, .int .i64 0]] w fun e w' => ∃ q cap, e = .returned (.slice (some ⟨q, 0, none⟩) 1 cap) ∧ LocksSt w0 w' g (lst1 ⟨[3], false, []⟩ 2) (.row 38 5 (some ⟨q, 0, none⟩) 1 cap ([.int .i64 2, .int .i64 1, .int .i64 13, .int .u64 0, .int .i64 0]) :: R) :=
  (release_c w0 w R g _ ⟨6, 2, 1, la, 0⟩ h (ok1 (by decide) (by decide) (by simp) (by decide))).mono fun e w' h => by
    rw [e6] at h
    obtain ⟨ao, cap, h1, h2⟩ := h
    obtain ⟨q, rfl⟩ := h2.some
    exact ⟨q, cap, h1, h2⟩
theorem lk7 (h : LocksSt w0 w g (lst1 ⟨[3], false, []⟩ 2) R) : Calls Try.prog 11 #[.pointer (some ⟨g, 0, none⟩), .string ⟨#[97]⟩] w fun e w' => ∃ q cap, e = .returned (.tuple #[.slice (some ⟨q, 0, none⟩) 1 cap, .bool false]) ∧ LocksSt w0 w' g (lst1 ⟨[3], false, []⟩ 2) (.row 3 1 (some ⟨q, 0, none⟩) 1 cap [.int .i64 3] :: R) :=
  (holders_some w0 w R g _ la _ h e7 (by decide)).mono fun e w' h => by
    obtain ⟨ao, cap, h1, h2⟩ := h
    obtain ⟨q, rfl⟩ := h2.some
    exact ⟨q, cap, h1, h2⟩
end

set_option maxRecDepth 100000 in
set_option maxHeartbeats 4000000 in
theorem awake_c (w0 w : World) (H : List Hp) (hS : St w0 w H) : Calls Try.prog 12 #[] w fun e w' => e = .returned (.bool true) ∧ St w0 w' H := by
  go_enter Try.func12, Try.ntmps12
  go_upto_region 11 with (first | ((with_reducible show WGd ..); (with_reducible apply wpA_guard); exact rfl; skip) | (go_at_call 9; with_reducible refine (lnew_c w0 _ H hS).mono ?_; rintro _ _ ⟨g, rfl, hL⟩; clear hS) | (go_at_call 36; (obtain ⟨D, hS, hb⟩ := LocksSt.use hL); with_reducible refine (cmd_c _ _ w0 _ _ hS).mono ?_; rintro _ _ ⟨rfl, hS⟩; have hL := hb _ _ hS; clear hb hS) | (go_at_call 10; with_reducible refine (lk1 hL).mono ?_; rintro _ _ ⟨q1, cap1, rfl, hL⟩) | (go_at_call 10; with_reducible refine (lk2 hL).mono ?_; rintro _ _ ⟨q2, cap2, rfl, hL⟩) | (go_at_call 10; with_reducible refine (lk3 hL).mono ?_; rintro _ _ ⟨q3, cap3, rfl, hL⟩) | (go_at_call 13; with_reducible refine (lk4 hL).mono ?_; rintro _ _ ⟨q4, cap4, rfl, hL⟩) | (go_at_call 13; with_reducible refine (lk5 hL).mono ?_; rintro _ _ ⟨q5, cap5, rfl, hL⟩) | (go_at_call 13; with_reducible refine (lk6 hL).mono ?_; rintro _ _ ⟨q6, cap6, rfl, hL⟩) | (go_at_call 11; with_reducible refine (lk7 hL).mono ?_; rintro _ _ ⟨q7, cap7, rfl, hL⟩) | ((with_reducible show WLd ..); (with_reducible apply wpA_load); exact rfl; (first | ((with_reducible apply St.cellI hS); (focus repeat constructor); exact rfl) | assumption); kernel_rfl) | ((with_reducible show WSt ..); (with_reducible apply wpA_store1I hS); exact rfl; (focus repeat constructor); exact rfl; exact rfl; exact rfl; exact rfl; kernel_rfl; intro wx hS; (try simp only [Act.put, List.setIfInBounds_toArray, List.set_cons_zero, List.set_cons_succ]); (try simp only [Act.eval, Array.getD_eq_getD_getElem?, List.getElem?_toArray, List.getElem?_cons_succ, List.getElem?_cons_zero, Option.getD_some, List.set_cons_succ, List.set_cons_zero, Value.cells, List.toList_toArray] at hS)) | ((with_reducible show WBx ..); (with_reducible apply wpA_box hS); exact rfl; exact rfl; intro _ wx hS; (try simp only [Act.put, List.setIfInBounds_toArray, List.set_cons_zero, List.set_cons_succ]); (try simp only [Act.eval, Array.getD_eq_getD_getElem?, List.getElem?_toArray, List.getElem?_cons_succ, List.getElem?_cons_zero, Option.getD_some, List.set_cons_succ, List.set_cons_zero, Value.cells, List.toList_toArray] at hS)))
  obtain ⟨D, hS, hb⟩ := LocksSt.use hL
  replace hS := St.perm hS List.perm_append_comm
  simp only [List.cons_append] at hS
  have c1 := row_cell (hS.at_ 6 rfl) 3 (v := .int .u64 1) rfl
  have c6 := row_cell (hS.at_ 1 rfl) 2 (v := .int .i64 13) rfl
  have c7 := row_cell (hS.at_ 0 rfl) 0 (v := .int .i64 3) rfl
  have r40 := row_cell (hS.at_ 3 rfl) 5 (v := .int .i64 2) rfl
  have r41 := row_cell (hS.at_ 3 rfl) 6 (v := .int .i64 1) rfl
  have r42 := row_cell (hS.at_ 3 rfl) 7 (v := .int .i64 0) rfl
  have r43 := row_cell (hS.at_ 3 rfl) 8 (v := .int .u64 2) rfl
  have r44 := row_cell (hS.at_ 3 rfl) 9 (v := .int .i64 0) rfl
  have r50 := row_cell (hS.at_ 2 rfl) 5 (v := .int .i64 3) rfl
  have r51 := row_cell (hS.at_ 2 rfl) 6 (v := .int .i64 1) rfl
  have r52 := row_cell (hS.at_ 2 rfl) 7 (v := .int .i64 0) rfl
  have r53 := row_cell (hS.at_ 2 rfl) 8 (v := .int .u64 2) rfl
  have r54 := row_cell (hS.at_ 2 rfl) 9 (v := .int .i64 0) rfl
  go_wp2_with (first | ((with_reducible show WGd ..); (with_reducible apply wpA_guard); exact rfl; skip) | ((with_reducible show WLd ..); (with_reducible apply wpA_loadN (t := 38)); exact rfl; (first | exact row_sub (hS.at_ 0 rfl) _ 5 | exact row_sub (hS.at_ 1 rfl) _ 5 | exact row_sub (hS.at_ 2 rfl) _ 5 | exact row_sub (hS.at_ 3 rfl) _ 5 | exact row_sub (hS.at_ 4 rfl) _ 5 | exact row_sub (hS.at_ 5 rfl) _ 5 | exact row_sub (hS.at_ 6 rfl) _ 5); kernel_rfl; kernel_rfl; (try simp only [Act.put, List.setIfInBounds_toArray, List.set_cons_zero, List.set_cons_succ])) | ((with_reducible show WLd ..); (with_reducible apply wpA_load); exact rfl; (first | exact row_cell (hS.at_ 0 rfl) _ rfl | exact row_cell (hS.at_ 1 rfl) _ rfl | exact row_cell (hS.at_ 2 rfl) _ rfl | exact row_cell (hS.at_ 3 rfl) _ rfl | exact row_cell (hS.at_ 4 rfl) _ rfl | exact row_cell (hS.at_ 5 rfl) _ rfl | exact row_cell (hS.at_ 6 rfl) _ rfl); kernel_rfl) | (go_at_call 16; with_reducible refine (token_c w0 _ _ g _ hL).mono ?_; rintro _ _ ⟨rfl, hL⟩) | ((with_reducible show WLd ..); (with_reducible apply wpA_load); exact rfl; (first | ((with_reducible apply St.cellI hS); (focus repeat constructor); exact rfl) | assumption); kernel_rfl) | ((with_reducible show WSt ..); (with_reducible apply wpA_store1I hS); exact rfl; (focus repeat constructor); exact rfl; exact rfl; exact rfl; exact rfl; kernel_rfl; intro wx hS; (try simp only [Act.put, List.setIfInBounds_toArray, List.set_cons_zero, List.set_cons_succ]); (try simp only [Act.eval, Array.getD_eq_getD_getElem?, List.getElem?_toArray, List.getElem?_cons_succ, List.getElem?_cons_zero, Option.getD_some, List.set_cons_succ, List.set_cons_zero, Value.cells, List.toList_toArray] at hS)) | ((with_reducible show WBx ..); (with_reducible apply wpA_box hS); exact rfl; exact rfl; intro _ wx hS; (try simp only [Act.put, List.setIfInBounds_toArray, List.set_cons_zero, List.set_cons_succ]); (try simp only [Act.eval, Array.getD_eq_getD_getElem?, List.getElem?_toArray, List.getElem?_cons_succ, List.getElem?_cons_zero, Option.getD_some, List.set_cons_succ, List.set_cons_zero, Value.cells, List.toList_toArray] at hS)))
  go_ret
  exact ⟨rfl, hL.rest.sub (List.sublist_append_right [_, _, _, _, _, _, _] _)⟩
end Go.Proofs.Ytelbpnlpmaihhaa
