/-
  Chapter 23's example, walked: it answers true.
-/
import Derived.Test.YtcihgcdakooacaaLeaseW3
namespace Go.Proofs.Ytcihgcdakooacaa
set_option linter.unusedVariables false
set_option linter.unusedSimpArgs false
open Go.RowKit

theorem LeaseSt.use {w0 w : World} {g : Nat} {R : List Hp} {o : Option LeaseS} (h : LeaseSt w0 w g R o) : ∃ D : List Hp, St w0 w (D ++ R) ∧ ∀ w' R', St w0 w' (D ++ R') → LeaseSt w0 w' g R' o := by
  cases o with
  | none => exact ⟨[.cells g [.bool false, .map none, .slice none 0 0] 57], h, fun w' R' h' => h'⟩
  | some σ =>
    obtain ⟨b, ao, cap, hS⟩ := h
    exact ⟨[.cells g [.bool true, .map (some b), .slice ao σ.keeps.length cap] 57, .mp b (.int .i64) (σ.ends.map ikv), .row 59 5 ao σ.keeps.length cap (σ.keeps.flatMap KeepS.cells)], hS, fun w' R' h' => ⟨b, ao, cap, h'⟩⟩

theorem LeaseSt.rest {w0 w : World} {g : Nat} {R : List Hp} {o : Option LeaseS} (h : LeaseSt w0 w g R o) : St w0 w R := by
  obtain ⟨D, hS, _⟩ := h.use
  exact hS.dropA

theorem LeaseSt.re {w0 w : World} {g : Nat} {R R' : List Hp} {o : Option LeaseS} (h : LeaseSt w0 w g R o) (hf : ∀ D, St w0 w (D ++ R) → St w0 w (D ++ R')) : LeaseSt w0 w g R' o := by
  obtain ⟨D, hS, hb⟩ := h.use
  exact hb _ _ (hf D hS)

theorem LeaseSt.sub {w0 w : World} {g : Nat} {R R' : List Hp} {o : Option LeaseS} (h : LeaseSt w0 w g R o) (hs : R'.Sublist R) : LeaseSt w0 w g R' o := h.re fun D hS => St.sub hS (hs.append_left D)

theorem LeaseSt.nilRow {w0 w : World} {g : Nat} {R : List Hp} {o : Option LeaseS} (h : LeaseSt w0 w g R o) (e size : Nat) : LeaseSt w0 w g (.row e size none 0 0 [] :: R) o := h.re fun D hS => (hS.nilRow e size).perm List.perm_middle.symm

/-- A slice literal of one int, seen as a row behind the book. -/
theorem lease_lit {w0 w' : World} {g lit : Nat} {x : Int} {D R : List Hp} {o : Option LeaseS} (hb : ∀ w' R', St w0 w' (D ++ R') → LeaseSt w0 w' g R' o) (hS : St w0 w' (.cells lit [.int .i64 x] 3 :: (D ++ R))) :
    LeaseSt w0 w' g (.row 3 1 (some ⟨lit, 0, none⟩) 1 1 (([x] : List Int).map (Value.int .i64)) :: R) o :=
  hb _ _ ((hS.asRow 0 rfl 1 1 rfl (by decide)).perm List.perm_middle.symm)

theorem lease_lit0 {w0 w' : World} {g lit : Nat} {x : Int} {D R : List Hp} {o : Option LeaseS} (hb : ∀ w' R', St w0 w' (D ++ R') → LeaseSt w0 w' g R' o) (hS : St w0 w' (.cells lit [.int .i64 x] 3 :: (D ++ R))) :
    LeaseSt w0 w' g (.row 3 1 (some ⟨lit, 0, none⟩) 1 1 (([x] : List Int).map (Value.int .i64)) :: .row 3 1 none 0 0 (([] : List Int).map (Value.int .i64)) :: R) o :=
  (lease_lit hb hS).re fun D hS => (hS.nilRow 3 1).perm (by
    refine .trans List.perm_middle.symm (.append_left _ ?_)
    exact .swap _ _ _)

def ak : KeepS := ⟨1, 50, 2, 200, 5⟩
theorem sortI_one (x : Int) : sortI [x] = [x] := by simp [sortI]
theorem compact_one (x : Int) : Lib.compact [x] = [x] := rfl

section
variable {w0 w : World} {R : List Hp} {g lit : Nat} {D : List Hp}
theorem lw1 (hb : ∀ w' R', St w0 w' (D ++ R') → LeaseSt w0 w' g R' none) (hS : St w0 w (.cells lit [.int .i64 1] 3 :: (D ++ R))) :
    Calls Try.prog 8 #[.pointer (some ⟨g, 0, none⟩), .slice (some ⟨lit, 0, none⟩) 1 1, .int .i64 100] w fun e w' => e = .returned (.tuple #[]) ∧ LeaseSt w0 w' g R (some ⟨[(1, 1000)], []⟩) :=
  (begin_c w0 w R g none _ 1 1 [1] 100 (lease_lit hb hS) (by decide) (by decide) (by decide)).mono fun e w' h => ⟨h.1, h.2.sub (List.sublist_cons_self _ _)⟩
theorem lw2 (h : LeaseSt w0 w g R (some ⟨[(1, 1000)], []⟩)) : Calls Try.prog 9 #[.pointer (some ⟨g, 0, none⟩), .int .i64 1, .int .i64 50, .int .i64 2, .int .i64 200, .int .i64 5] w fun e w' => e = .returned (.tuple #[]) ∧ LeaseSt w0 w' g R (some ⟨[(1, 1000)], [ak]⟩) :=
  keep_c w0 w R g ak _ h (by decide)
theorem ak_ok : ∀ x ∈ [ak], 0 ≤ x.client ∧ x.client ≤ 1000 ∧ 0 ≤ x.at_ ∧ x.at_ ≤ 1099511627776 := by
  intro x hx
  simp at hx; subst hx; decide
theorem lw3 (hb : ∀ w' R', St w0 w' (D ++ R') → LeaseSt w0 w' g R' (some ⟨[(1, 1000)], [ak]⟩)) (hS : St w0 w (.cells lit [.int .i64 1] 3 :: (D ++ R))) :
    Calls Try.prog 10 #[.pointer (some ⟨g, 0, none⟩), .int .i64 4, .slice (some ⟨lit, 0, none⟩) 1 1, .slice none 0 0] w fun e w' => ∃ aq capq, e = .returned (.slice aq 0 capq) ∧ LeaseSt w0 w' g R (some ⟨[(1, 1000)], [ak]⟩) :=
  (confirm_c w0 w R g _ _ 1 1 [1] none 0 0 [] 4 (lease_lit0 hb hS) ak_ok (by decide) (by decide) (by decide)).mono fun e w' ⟨aq, capq, h1, h2⟩ => ⟨aq, capq, h1, h2.sub (.cons _ (.cons _ (.cons _ (List.Sublist.refl _))))⟩
theorem lw4 (hb : ∀ w' R', St w0 w' (D ++ R') → LeaseSt w0 w' g R' (some ⟨[(1, 1000)], [ak]⟩)) (hS : St w0 w (.cells lit [.int .i64 1] 3 :: (D ++ R))) :
    Calls Try.prog 10 #[.pointer (some ⟨g, 0, none⟩), .int .i64 5, .slice (some ⟨lit, 0, none⟩) 1 1, .slice none 0 0] w fun e w' => ∃ gq capq, e = .returned (.slice (some ⟨gq, 0, none⟩) 1 capq) ∧
      LeaseSt w0 w' g (.row 48 20 (some ⟨gq, 0, none⟩) 1 capq (msgCells (ak, 0)) :: R) (some ⟨[(1, 1100)], []⟩) :=
  (confirm_c w0 w R g _ _ 1 1 [1] none 0 0 [] 5 (lease_lit0 hb hS) ak_ok (by decide) (by decide) (by decide)).mono fun e w' ⟨aq, capq, h1, h2⟩ => by
    have h3 := h2.sub (R' := .row 48 20 aq 1 capq (msgCells (ak, 0)) :: R) (.cons_cons _ (.cons _ (.cons _ (List.Sublist.refl _))))
    rcases row_head (h3.rest.at_ 0 rfl) with ⟨_, hh, _⟩ | ⟨⟨gq, rfl⟩, _⟩
    · cases hh
    · exact ⟨gq, capq, h1, h3⟩
theorem lw5 (h : LeaseSt w0 w g R (some ⟨[(1, 1100)], []⟩)) : Calls Try.prog 17 #[.pointer (some ⟨g, 0, none⟩), .int .i64 1] w fun e w' => e = .returned (.tuple #[.int .i64 1100, .bool true]) ∧ LeaseSt w0 w' g R (some ⟨[(1, 1100)], []⟩) :=
  deadline_c w0 w R g 1 _ h
theorem lw6 (hb : ∀ w' R', St w0 w' (D ++ R') → LeaseSt w0 w' g R' (some ⟨[(1, 1100)], []⟩)) (hS : St w0 w (.cells lit [.int .i64 1] 3 :: (D ++ R))) :
    Calls Try.prog 11 #[.pointer (some ⟨g, 0, none⟩), .int .i64 1100, .slice (some ⟨lit, 0, none⟩) 1 1, .slice none 0 0] w fun e w' => ∃ aq capq, e = .returned (.slice aq 1 capq) ∧ LeaseSt w0 w' g R (some ⟨[(1, 1100)], []⟩) :=
  (due_c w0 w R g _ _ 1 1 [1] none 0 0 [] 1100 (lease_lit0 hb hS) (by decide) (by decide) (by decide) (by decide)).mono fun e w' ⟨aq, capq, h1, h2⟩ => by
    have e1 : dueD 1100 [1] [] ⟨[(1, 1100)], []⟩ = ⟨[(1, 1100)], [1]⟩ := by
      unfold dueD
      rw [sortI_one]; rfl
    rw [e1] at h1 h2
    exact ⟨aq, capq, h1, h2.sub (.cons _ (.cons _ (.cons _ (List.Sublist.refl _))))⟩
theorem lw7 (w : World) : Calls Try.prog 14 #[.int .i64 5] w fun e w' => e = .returned (.int .i64 705) ∧ w = w' := client_c 5 w (by decide)
end

set_option maxRecDepth 100000 in
set_option maxHeartbeats 2000000 in
theorem awake_c (w0 w : World) (H : List Hp) (hS : St w0 w H) : Calls Try.prog 12 #[] w fun e w' => e = .returned (.bool true) ∧ St w0 w' H := by
  go_enter Try.func12, Try.ntmps12
  go_wp2_with (first | ((with_reducible apply wpA_guard); exact rfl; skip) | (go_at_call 7; with_reducible refine (lnew_c w0 _ H hS).mono ?_; rintro _ _ ⟨g, rfl, hL⟩; obtain ⟨D, hS, hb⟩ := hL.use) | ((with_reducible apply wpA_one hS (z := .int .i64 0) (bytes := 8)); exact Try.underlying26; kernel_rfl; exact rfl; exact rfl; exact rfl; intro _ wx hS; (try simp only [Act.put, List.setIfInBounds_toArray, List.set_cons_zero, List.set_cons_succ]); (try simp only [Act.eval, Array.getD_eq_getD_getElem?, List.getElem?_toArray, List.getElem?_cons_succ, List.getElem?_cons_zero, Option.getD_some, List.set_cons_succ, List.set_cons_zero, Value.cells, List.toList_toArray] at hS)) | (go_at_call 8; with_reducible refine (lw1 hb hS).mono ?_; rintro _ _ ⟨rfl, hL1⟩; clear hb) | (go_at_call 9; with_reducible refine (lw2 hL1).mono ?_; rintro _ _ ⟨rfl, hL2⟩; obtain ⟨D, hS, hb⟩ := hL2.use) | (go_at_call 10; with_reducible refine (lw3 hb hS).mono ?_; rintro _ _ ⟨aq3, capq3, rfl, hL3⟩; obtain ⟨D, hS, hb3⟩ := hL3.use) | (go_at_call 10; with_reducible refine (lw4 hb3 hS).mono ?_; rintro _ _ ⟨gq, capq, rfl, hL4⟩; skip) | (go_at_call 17; with_reducible refine (lw5 hL4).mono ?_; rintro _ _ ⟨rfl, hL5⟩; obtain ⟨D, hS, hb5⟩ := hL5.use) | (go_at_call 11; with_reducible refine (lw6 hb5 hS).mono ?_; rintro _ _ ⟨aq6, capq6, rfl, hL6⟩; obtain ⟨D, hS, hb6⟩ := hL6.use; have hS := St.perm hS List.perm_append_comm; have hS := id (show St w0 _ (.row 48 20 (some ⟨gq, 0, none⟩) 1 capq (msgCells (ak, 0)) :: (H ++ D)) from hS)) | (go_at_call 14; with_reducible refine (lw7 _).mono ?_; rintro _ _ ⟨rfl, rfl⟩) | ((with_reducible apply wpA_load); exact rfl; exact row_cell (hS.at_ 0 rfl) _ rfl; kernel_rfl) | ((with_reducible apply wpA_load); exact rfl; (first | exact hS.cell 0 rfl _ rfl | exact hS.cell 1 rfl _ rfl | exact hS.cell 2 rfl _ rfl | exact hS.cell 3 rfl _ rfl | exact hS.cell 4 rfl _ rfl | exact hS.cell 5 rfl _ rfl | exact hS.cell 6 rfl _ rfl | exact hS.cell 7 rfl _ rfl | assumption); kernel_rfl) | (first | ((with_reducible apply wpA_store1 hS 0); exact rfl; exact rfl; exact rfl; exact rfl; exact rfl; exact rfl; kernel_rfl; intro wx hS; (try simp only [Act.put, List.setIfInBounds_toArray, List.set_cons_zero, List.set_cons_succ]); (try simp only [Act.eval, Array.getD_eq_getD_getElem?, List.getElem?_toArray, List.getElem?_cons_succ, List.getElem?_cons_zero, Option.getD_some, List.set_cons_succ, List.set_cons_zero, Value.cells, List.toList_toArray] at hS)) | ((with_reducible apply wpA_store1 hS 1); exact rfl; exact rfl; exact rfl; exact rfl; exact rfl; exact rfl; kernel_rfl; intro wx hS; (try simp only [Act.put, List.setIfInBounds_toArray, List.set_cons_zero, List.set_cons_succ]); (try simp only [Act.eval, Array.getD_eq_getD_getElem?, List.getElem?_toArray, List.getElem?_cons_succ, List.getElem?_cons_zero, Option.getD_some, List.set_cons_succ, List.set_cons_zero, Value.cells, List.toList_toArray] at hS)) | ((with_reducible apply wpA_store1 hS 2); exact rfl; exact rfl; exact rfl; exact rfl; exact rfl; exact rfl; kernel_rfl; intro wx hS; (try simp only [Act.put, List.setIfInBounds_toArray, List.set_cons_zero, List.set_cons_succ]); (try simp only [Act.eval, Array.getD_eq_getD_getElem?, List.getElem?_toArray, List.getElem?_cons_succ, List.getElem?_cons_zero, Option.getD_some, List.set_cons_succ, List.set_cons_zero, Value.cells, List.toList_toArray] at hS)) | ((with_reducible apply wpA_store1 hS 3); exact rfl; exact rfl; exact rfl; exact rfl; exact rfl; exact rfl; kernel_rfl; intro wx hS; (try simp only [Act.put, List.setIfInBounds_toArray, List.set_cons_zero, List.set_cons_succ]); (try simp only [Act.eval, Array.getD_eq_getD_getElem?, List.getElem?_toArray, List.getElem?_cons_succ, List.getElem?_cons_zero, Option.getD_some, List.set_cons_succ, List.set_cons_zero, Value.cells, List.toList_toArray] at hS)) | ((with_reducible apply wpA_store1 hS 4); exact rfl; exact rfl; exact rfl; exact rfl; exact rfl; exact rfl; kernel_rfl; intro wx hS; (try simp only [Act.put, List.setIfInBounds_toArray, List.set_cons_zero, List.set_cons_succ]); (try simp only [Act.eval, Array.getD_eq_getD_getElem?, List.getElem?_toArray, List.getElem?_cons_succ, List.getElem?_cons_zero, Option.getD_some, List.set_cons_succ, List.set_cons_zero, Value.cells, List.toList_toArray] at hS)) | ((with_reducible apply wpA_store1 hS 5); exact rfl; exact rfl; exact rfl; exact rfl; exact rfl; exact rfl; kernel_rfl; intro wx hS; (try simp only [Act.put, List.setIfInBounds_toArray, List.set_cons_zero, List.set_cons_succ]); (try simp only [Act.eval, Array.getD_eq_getD_getElem?, List.getElem?_toArray, List.getElem?_cons_succ, List.getElem?_cons_zero, Option.getD_some, List.set_cons_succ, List.set_cons_zero, Value.cells, List.toList_toArray] at hS))) | ((with_reducible apply wpA_box hS); exact rfl; exact rfl; intro _ wx hS; (try simp only [Act.put, List.setIfInBounds_toArray, List.set_cons_zero, List.set_cons_succ]); (try simp only [Act.eval, Array.getD_eq_getD_getElem?, List.getElem?_toArray, List.getElem?_cons_succ, List.getElem?_cons_zero, Option.getD_some, List.set_cons_succ, List.set_cons_zero, Value.cells, List.toList_toArray] at hS)))
  trace_state
  go_ret
  exact ⟨rfl, hL6.rest.tail⟩
end Go.Proofs.Ytcihgcdakooacaa
