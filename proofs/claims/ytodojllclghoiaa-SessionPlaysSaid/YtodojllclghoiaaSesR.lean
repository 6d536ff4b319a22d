/-
  The reference's sessions: how they lie in memory; All, at, Client, walked.
-/
import Derived.Test.YtodojllclghoiaaSesCo
namespace Go.Proofs.Ytodojllclghoiaa
set_option linter.unusedVariables false
set_option linter.unusedSimpArgs false
open Go.RowKit

abbrev rxc (x : Nat) (a : Option Addr) (n c : Nat) (σ : SesS) : Hp := .cells x [.slice a n c, .int .i64 (latS σ 0).1, .int .i64 (latS σ 0).2, .int .i64 (latS σ 1).1, .int .i64 (latS σ 1).2, .int .i64 (latS σ 2).1, .int .i64 (latS σ 2).2, .int .i64 (latS σ 3).1, .int .i64 (latS σ 3).2, .int .i64 (latS σ 4).1, .int .i64 (latS σ 4).2, .int .i64 (latS σ 5).1, .int .i64 (latS σ 5).2, .int .i64 (latS σ 6).1, .int .i64 (latS σ 6).2, .int .i64 (latS σ 7).1, .int .i64 (latS σ 7).2] 48
abbrev srow (a : Option Addr) (c : Nat) (l : List OneS) : Hp := .row 88 10 a l.length c (l.flatMap OneS.cells)
theorem OneS.cells_length (x : OneS) : x.cells.length = 10 := rfl
def RefG (w0 w : World) (x : Nat) (σ : SesS) (R : List Hp) : Prop := ∃ (a : Option Addr) (c : Nat), St w0 w (rxc x a σ.l.length c σ :: srow a c σ.l :: R)
section
variable {w0 w : World} {x : Nat} {R A : List Hp} {σ : SesS}
theorem RefG.use (h : RefG w0 w x σ R) : ∃ D : List Hp, St w0 w (D ++ R) ∧ ∀ w' R', St w0 w' (D ++ R') → RefG w0 w' x σ R' := by
  obtain ⟨a, c, hS⟩ := h
  exact ⟨[rxc x a σ.l.length c σ, srow a c σ.l], hS, fun w' R' h' => ⟨a, c, h'⟩⟩
theorem RefG.rest (h : RefG w0 w x σ R) : St w0 w R := by
  obtain ⟨D, hS, _⟩ := h.use
  exact hS.dropA
theorem RefG.opn (h : RefG w0 w x σ (A ++ R)) : ∃ D : List Hp, St w0 w (A ++ D) ∧ ∀ w' A', St w0 w' (A' ++ D) → RefG w0 w' x σ (A' ++ R) := opn_of_use h.use
theorem RefG.sub {R' : List Hp} (h : RefG w0 w x σ R) (hs : R'.Sublist R) : RefG w0 w x σ R' := by
  obtain ⟨D, hS, hb⟩ := h.use
  exact hb _ _ (St.sub hS (hs.append_left D))

theorem all_snoc (l : List OneS) (x : OneS) (c c' : List (Int × (Int × Int))) : allS ⟨l ++ [x], c⟩ = allS ⟨l, c'⟩ ++ if x.isOpen = true then [(l.length : Int) + 1] else [] := by
  unfold allS
  simp only [List.mapIdx_append, List.filter_append, List.map_append]
  congr 1
  cases h : x.isOpen <;> simp [h]
theorem rat_no {a : Option Addr} {c : Nat} (hS : St w0 w (rxc x a σ.l.length c σ :: srow a c σ.l :: R)) (id : Int) (h : atS σ id = none) (hl : σ.l.length ≤ 1000000) : Calls Try.prog 44 #[.pointer (some ⟨x, 0, none⟩), .int .i64 id] w fun e w' => e = .returned (.pointer none) ∧ St w0 w' (rxc x a σ.l.length c σ :: srow a c σ.l :: R) := by
  have hn := atS_none h
  clear h
  by_cases h1 : id < 1
  · have hd : decide (id < 1) = true := by simpa using h1
    clear hn
    go_enter Try.func44, Try.ntmps44
    go_wp2_with (first | ((with_reducible show WGd ..); (with_reducible apply wpA_guard); exact rfl; skip) | ((with_reducible show WLd ..); (with_reducible apply wpA_load); exact rfl; (first | ((with_reducible apply St.cellI hS); (focus repeat constructor); exact rfl) | assumption); kernel_rfl) | ((with_reducible show WSt ..); (with_reducible apply wpA_store1I hS); exact rfl; (focus repeat constructor); exact rfl; exact rfl; exact rfl; exact rfl; kernel_rfl; intro wx hS; (try simp only [Act.put, List.setIfInBounds_toArray, List.set_cons_zero, List.set_cons_succ]); (try simp only [Act.eval, Array.getD_eq_getD_getElem?, List.getElem?_toArray, List.getElem?_cons_succ, List.getElem?_cons_zero, Option.getD_some, List.set_cons_succ, List.set_cons_zero, Value.cells, List.toList_toArray] at hS)) | ((with_reducible show WBx ..); (with_reducible apply wpA_box hS); exact rfl; exact rfl; intro _ wx hS; (try simp only [Act.put, List.setIfInBounds_toArray, List.set_cons_zero, List.set_cons_succ]); (try simp only [Act.eval, Array.getD_eq_getD_getElem?, List.getElem?_toArray, List.getElem?_cons_succ, List.getElem?_cons_zero, Option.getD_some, List.set_cons_succ, List.set_cons_zero, Value.cells, List.toList_toArray] at hS)))
    go_ret
    exact ⟨rfl, hS⟩
  · have hd : decide (id < 1) = false := by simpa using h1
    have hd2 : decide ((σ.l.length : Int) < id) = true := by
      simp only [decide_eq_true_eq]
      apply Classical.byContradiction
      intro q
      exact hn (id - 1).toNat (by omega) (by omega)
    clear hn
    go_enter Try.func44, Try.ntmps44
    go_wp2_with (first | ((with_reducible show WGd ..); (with_reducible apply wpA_guard); exact rfl; skip) | ((with_reducible show WLd ..); (with_reducible apply wpA_load); exact rfl; (first | ((with_reducible apply St.cellI hS); (focus repeat constructor); exact rfl) | assumption); kernel_rfl) | ((with_reducible show WSt ..); (with_reducible apply wpA_store1I hS); exact rfl; (focus repeat constructor); exact rfl; exact rfl; exact rfl; exact rfl; kernel_rfl; intro wx hS; (try simp only [Act.put, List.setIfInBounds_toArray, List.set_cons_zero, List.set_cons_succ]); (try simp only [Act.eval, Array.getD_eq_getD_getElem?, List.getElem?_toArray, List.getElem?_cons_succ, List.getElem?_cons_zero, Option.getD_some, List.set_cons_succ, List.set_cons_zero, Value.cells, List.toList_toArray] at hS)) | ((with_reducible show WBx ..); (with_reducible apply wpA_box hS); exact rfl; exact rfl; intro _ wx hS; (try simp only [Act.put, List.setIfInBounds_toArray, List.set_cons_zero, List.set_cons_succ]); (try simp only [Act.eval, Array.getD_eq_getD_getElem?, List.getElem?_toArray, List.getElem?_cons_succ, List.getElem?_cons_zero, Option.getD_some, List.set_cons_succ, List.set_cons_zero, Value.cells, List.toList_toArray] at hS)))
    go_ret
    exact ⟨rfl, hS⟩
theorem rat_yes {g c : Nat} (hS : St w0 w (rxc x (some ⟨g, 0, none⟩) σ.l.length c σ :: srow (some ⟨g, 0, none⟩) c σ.l :: R)) (id : Int) {k : Nat} {y : OneS} (h : atS σ id = some (k, y)) (hl : σ.l.length ≤ 1000000) : Calls Try.prog 44 #[.pointer (some ⟨x, 0, none⟩), .int .i64 id] w fun e w' => e = .returned (.pointer (some ⟨g, k * 10, none⟩)) ∧ St w0 w' (rxc x (some ⟨g, 0, none⟩) σ.l.length c σ :: srow (some ⟨g, 0, none⟩) c σ.l :: R) := by
  obtain ⟨hx, rfl⟩ := atS_some h
  have hk : k < σ.l.length := (List.getElem?_eq_some_iff.1 hx).1
  have hd : decide ((k : Int) + 1 < 1) = false := by simp; omega
  have hd2 : decide ((σ.l.length : Int) < (k : Int) + 1) = false := by simp; omega
  have hw : IntKind.i64.wrap ((k : Int) + 1 - 1) = (k : Int) := by rw [IntKind.wrap_i64]; omega
  clear h hx
  go_enter Try.func44, Try.ntmps44
  go_wp2_with (first | ((with_reducible show WGd ..); (with_reducible apply wpA_guard); exact rfl; skip) | ((with_reducible show WLd ..); (with_reducible apply wpA_load); exact rfl; (first | ((with_reducible apply St.cellI hS); (focus repeat constructor); exact rfl) | assumption); kernel_rfl) | ((with_reducible show WSt ..); (with_reducible apply wpA_store1I hS); exact rfl; (focus repeat constructor); exact rfl; exact rfl; exact rfl; exact rfl; kernel_rfl; intro wx hS; (try simp only [Act.put, List.setIfInBounds_toArray, List.set_cons_zero, List.set_cons_succ]); (try simp only [Act.eval, Array.getD_eq_getD_getElem?, List.getElem?_toArray, List.getElem?_cons_succ, List.getElem?_cons_zero, Option.getD_some, List.set_cons_succ, List.set_cons_zero, Value.cells, List.toList_toArray] at hS)) | ((with_reducible show WBx ..); (with_reducible apply wpA_box hS); exact rfl; exact rfl; intro _ wx hS; (try simp only [Act.put, List.setIfInBounds_toArray, List.set_cons_zero, List.set_cons_succ]); (try simp only [Act.eval, Array.getD_eq_getD_getElem?, List.getElem?_toArray, List.getElem?_cons_succ, List.getElem?_cons_zero, Option.getD_some, List.set_cons_succ, List.set_cons_zero, Value.cells, List.toList_toArray] at hS)))
  go_ret
  exact ⟨by simp, hS⟩
set_option maxHeartbeats 4000000 in
theorem rall_s {a : Option Addr} {c : Nat} (hS : St w0 w (rxc x a σ.l.length c σ :: srow a c σ.l :: R)) (hl : σ.l.length ≤ 1000000) : Calls Try.prog 19 #[.pointer (some ⟨x, 0, none⟩)] w fun e w' => ∃ ao cap, e = .returned (.slice ao (allS σ).length cap) ∧ St w0 w' (.row 3 1 ao (allS σ).length cap ((allS σ).map (Value.int .i64)) :: rxc x a σ.l.length c σ :: srow a c σ.l :: R) := by
  go_enter Try.func19, Try.ntmps19
  go_upto_block 0 with (first | ((with_reducible show WGd ..); (with_reducible apply wpA_guard); exact rfl; skip) | ((with_reducible show WLd ..); (with_reducible apply wpA_load); exact rfl; (first | ((with_reducible apply St.cellI hS); (focus repeat constructor); exact rfl) | assumption); kernel_rfl) | ((with_reducible show WSt ..); (with_reducible apply wpA_store1I hS); exact rfl; (focus repeat constructor); exact rfl; exact rfl; exact rfl; exact rfl; kernel_rfl; intro wx hS; (try simp only [Act.put, List.setIfInBounds_toArray, List.set_cons_zero, List.set_cons_succ]); (try simp only [Act.eval, Array.getD_eq_getD_getElem?, List.getElem?_toArray, List.getElem?_cons_succ, List.getElem?_cons_zero, Option.getD_some, List.set_cons_succ, List.set_cons_zero, Value.cells, List.toList_toArray] at hS)) | ((with_reducible show WBx ..); (with_reducible apply wpA_box hS); exact rfl; exact rfl; intro _ wx hS; (try simp only [Act.put, List.setIfInBounds_toArray, List.set_cons_zero, List.set_cons_succ]); (try simp only [Act.eval, Array.getD_eq_getD_getElem?, List.getElem?_toArray, List.getElem?_cons_succ, List.getElem?_cons_zero, Option.getD_some, List.set_cons_succ, List.set_cons_zero, Value.cells, List.toList_toArray] at hS)))
  go_cut [3] (fun v3 wr => ∃ ao cap, v3 = .slice ao (allS σ).length cap ∧ St w0 wr (.row 3 1 ao (allS σ).length cap ((allS σ).map (Value.int .i64)) :: rxc x a σ.l.length c σ :: srow a c σ.l :: R))
  case first =>
    go_wp2_with (first | ((with_reducible show WGd ..); (with_reducible apply wpA_guard); exact rfl; skip) | ((with_reducible show WLd ..); (with_reducible apply wpA_load); exact rfl; (first | ((with_reducible apply St.cellI hS); (focus repeat constructor); exact rfl) | assumption); kernel_rfl) | ((with_reducible show WSt ..); (with_reducible apply wpA_store1I hS); exact rfl; (focus repeat constructor); exact rfl; exact rfl; exact rfl; exact rfl; kernel_rfl; intro wx hS; (try simp only [Act.put, List.setIfInBounds_toArray, List.set_cons_zero, List.set_cons_succ]); (try simp only [Act.eval, Array.getD_eq_getD_getElem?, List.getElem?_toArray, List.getElem?_cons_succ, List.getElem?_cons_zero, Option.getD_some, List.set_cons_succ, List.set_cons_zero, Value.cells, List.toList_toArray] at hS)) | ((with_reducible show WBx ..); (with_reducible apply wpA_box hS); exact rfl; exact rfl; intro _ wx hS; (try simp only [Act.put, List.setIfInBounds_toArray, List.set_cons_zero, List.set_cons_succ]); (try simp only [Act.eval, Array.getD_eq_getD_getElem?, List.getElem?_toArray, List.getElem?_cons_succ, List.getElem?_cons_zero, Option.getD_some, List.set_cons_succ, List.set_cons_zero, Value.cells, List.toList_toArray] at hS)))
    go_loopw [3, 4] (fun v3 v4 wr => ∃ (j : Nat) (os : List Int) (ao : Option Addr) (cap : Nat), j ≤ σ.l.length ∧ v4 = .int .i64 j ∧ v3 = .slice ao os.length cap ∧ Hid (os = allS ⟨σ.l.take j, []⟩) ∧ os.length ≤ j ∧ St w0 wr (.row 3 1 ao os.length cap (os.map (Value.int .i64)) :: rxc x a σ.l.length c σ :: srow a c σ.l :: R)) (fun _ v4 _ => σ.l.length - (intOf v4).toNat)
    case atStart => exact ⟨0, [], none, 0, Nat.zero_le _, rfl, rfl, Lib.hid rfl, Nat.le_refl _, hS.nilRow 3 1⟩
    case round =>
      clear hS
      obtain ⟨j, os, ao, cap, hj, rfl, rfl, HO, hoj, hS⟩ := hrel
      by_cases hlt : j < σ.l.length
      · obtain ⟨y, hy⟩ : ∃ y, σ.l[j]? = some y := ⟨_, List.getElem?_eq_getElem hlt⟩
        rcases row_head (hS.at_ 2 rfl) with ⟨_, hh, _⟩ | ⟨⟨g, rfl⟩, _⟩
        · omega
        have htl : (σ.l.take j).length = j := by rw [List.length_take]; omega
        have HO2 : Hid (allS ⟨σ.l.take (j + 1), []⟩ = os ++ if y.isOpen = true then [(j : Int) + 1] else []) := Lib.hid (by rw [List.take_add_one, hy, Option.toList_some, all_snoc _ y [] [], HO.out, htl])
        obtain ⟨y1, y2, yo, y4, y5, y6⟩ := y
        have HX := Lib.hid hy
        clear hy htl
        cases yo with
        | true =>
          simp only [if_true] at HO2
          go_wp2_with (first | ((with_reducible show WGd ..); (with_reducible apply wpA_guard); exact rfl; skip) | ((with_reducible show WLd ..); (with_reducible apply wpA_load); exact rfl; exact (row_elem OneS.cells_length (hS.at_ 2 rfl) HX.out) 2 _ rfl; kernel_rfl) | ((first | ((with_reducible show WBs ..); (with_reducible apply wpA_oneN hS (z := .int .i64 0) (bytes := 8) (size := 1)); exact Try.underlying22; kernel_rfl; exact rfl; exact rfl; exact rfl; exact (by decide); exact (by decide); intro _ wx hS) | ((with_reducible show WBx ..); (with_reducible apply wpA_box hS); exact rfl; exact rfl; intro _ wx hS)); (try simp only [Act.put, List.setIfInBounds_toArray, List.set_cons_zero, List.set_cons_succ]); (try simp only [Act.eval, Array.getD_eq_getD_getElem?, List.getElem?_toArray, List.getElem?_cons_succ, List.getElem?_cons_zero, Option.getD_some, List.set_cons_succ, List.set_cons_zero, Value.cells, List.toList_toArray] at hS)) | ((with_reducible show WAp ..); (with_reducible apply wpA_appendI hS (e := 3) (z := .int .i64 0) (size := 1) (bytes := 8)); exact rfl; exact rfl; exact Try.underlying22; (focus repeat constructor); exact .inr Try.underlying22; kernel_rfl; exact rfl; exact (Src.freshN (m := 1) hS 0 rfl rfl (by rfl)); exact (by unfold maxLen; omega); exact (by omega); intro ao2 cap2 wx hS; (try simp only [Act.put, List.setIfInBounds_toArray, List.set_cons_zero, List.set_cons_succ])) | ((with_reducible show WLd ..); (with_reducible apply wpA_load); exact rfl; (first | ((with_reducible apply St.cellI hS); (focus repeat constructor); exact rfl) | assumption); kernel_rfl) | ((with_reducible show WSt ..); (with_reducible apply wpA_store1I hS); exact rfl; (focus repeat constructor); exact rfl; exact rfl; exact rfl; exact rfl; kernel_rfl; intro wx hS; (try simp only [Act.put, List.setIfInBounds_toArray, List.set_cons_zero, List.set_cons_succ]); (try simp only [Act.eval, Array.getD_eq_getD_getElem?, List.getElem?_toArray, List.getElem?_cons_succ, List.getElem?_cons_zero, Option.getD_some, List.set_cons_succ, List.set_cons_zero, Value.cells, List.toList_toArray] at hS)))
          (try simp only [Act.put, Act.eval, Array.getD_eq_getD_getElem?, List.setIfInBounds_toArray, List.getElem?_toArray, List.getElem?_cons_succ, List.getElem?_cons_zero, Option.getD_some, List.set_cons_succ, List.set_cons_zero, Value.cells, List.toList_toArray] at hS)
          replace hS := hS.tail
          go_roundw
          case rel => exact ⟨j + 1, os ++ [(j : Int) + 1], ao2, cap2, by omega, by go_num, by rw [List.length_append]; rfl, Lib.hid HO2.out.symm, by rw [List.length_append]; simp only [List.length_cons, List.length_nil]; omega, by rw [List.length_append, List.map_append]; exact hS⟩
          case measure => simp [intOf]; omega
        | false =>
          simp only [Bool.false_eq_true, if_false, List.append_nil] at HO2
          go_wp2_with (first | ((with_reducible show WGd ..); (with_reducible apply wpA_guard); exact rfl; skip) | ((with_reducible show WLd ..); (with_reducible apply wpA_load); exact rfl; exact (row_elem OneS.cells_length (hS.at_ 2 rfl) HX.out) 2 _ rfl; kernel_rfl) | ((with_reducible show WLd ..); (with_reducible apply wpA_load); exact rfl; (first | ((with_reducible apply St.cellI hS); (focus repeat constructor); exact rfl) | assumption); kernel_rfl) | ((with_reducible show WSt ..); (with_reducible apply wpA_store1I hS); exact rfl; (focus repeat constructor); exact rfl; exact rfl; exact rfl; exact rfl; kernel_rfl; intro wx hS; (try simp only [Act.put, List.setIfInBounds_toArray, List.set_cons_zero, List.set_cons_succ]); (try simp only [Act.eval, Array.getD_eq_getD_getElem?, List.getElem?_toArray, List.getElem?_cons_succ, List.getElem?_cons_zero, Option.getD_some, List.set_cons_succ, List.set_cons_zero, Value.cells, List.toList_toArray] at hS)) | ((with_reducible show WBx ..); (with_reducible apply wpA_box hS); exact rfl; exact rfl; intro _ wx hS; (try simp only [Act.put, List.setIfInBounds_toArray, List.set_cons_zero, List.set_cons_succ]); (try simp only [Act.eval, Array.getD_eq_getD_getElem?, List.getElem?_toArray, List.getElem?_cons_succ, List.getElem?_cons_zero, Option.getD_some, List.set_cons_succ, List.set_cons_zero, Value.cells, List.toList_toArray] at hS)))
          go_roundw
          case rel => exact ⟨j + 1, os, ao, cap, by omega, by go_num, rfl, Lib.hid HO2.out.symm, by omega, hS⟩
          case measure => simp [intOf]; omega
      · obtain rfl : j = σ.l.length := by omega
        have e : os = allS σ := by rw [HO.out, List.take_length]; rfl
        rw [e] at hS ⊢
        go_wp2_with (first | ((with_reducible show WGd ..); (with_reducible apply wpA_guard); exact rfl; skip) | ((with_reducible show WLd ..); (with_reducible apply wpA_load); exact rfl; (first | ((with_reducible apply St.cellI hS); (focus repeat constructor); exact rfl) | assumption); kernel_rfl) | ((with_reducible show WSt ..); (with_reducible apply wpA_store1I hS); exact rfl; (focus repeat constructor); exact rfl; exact rfl; exact rfl; exact rfl; kernel_rfl; intro wx hS; (try simp only [Act.put, List.setIfInBounds_toArray, List.set_cons_zero, List.set_cons_succ]); (try simp only [Act.eval, Array.getD_eq_getD_getElem?, List.getElem?_toArray, List.getElem?_cons_succ, List.getElem?_cons_zero, Option.getD_some, List.set_cons_succ, List.set_cons_zero, Value.cells, List.toList_toArray] at hS)) | ((with_reducible show WBx ..); (with_reducible apply wpA_box hS); exact rfl; exact rfl; intro _ wx hS; (try simp only [Act.put, List.setIfInBounds_toArray, List.set_cons_zero, List.set_cons_succ]); (try simp only [Act.eval, Array.getD_eq_getD_getElem?, List.getElem?_toArray, List.getElem?_cons_succ, List.getElem?_cons_zero, Option.getD_some, List.set_cons_succ, List.set_cons_zero, Value.cells, List.toList_toArray] at hS)))
        go_meet
        exact ⟨ao, cap, rfl, hS⟩
  case rest =>
    clear hS
    obtain ⟨ao, cap, rfl, hS⟩ := hcut
    go_wp2_with (first | ((with_reducible show WGd ..); (with_reducible apply wpA_guard); exact rfl; skip) | ((with_reducible show WLd ..); (with_reducible apply wpA_load); exact rfl; (first | ((with_reducible apply St.cellI hS); (focus repeat constructor); exact rfl) | assumption); kernel_rfl) | ((with_reducible show WSt ..); (with_reducible apply wpA_store1I hS); exact rfl; (focus repeat constructor); exact rfl; exact rfl; exact rfl; exact rfl; kernel_rfl; intro wx hS; (try simp only [Act.put, List.setIfInBounds_toArray, List.set_cons_zero, List.set_cons_succ]); (try simp only [Act.eval, Array.getD_eq_getD_getElem?, List.getElem?_toArray, List.getElem?_cons_succ, List.getElem?_cons_zero, Option.getD_some, List.set_cons_succ, List.set_cons_zero, Value.cells, List.toList_toArray] at hS)) | ((with_reducible show WBx ..); (with_reducible apply wpA_box hS); exact rfl; exact rfl; intro _ wx hS; (try simp only [Act.put, List.setIfInBounds_toArray, List.set_cons_zero, List.set_cons_succ]); (try simp only [Act.eval, Array.getD_eq_getD_getElem?, List.getElem?_toArray, List.getElem?_cons_succ, List.getElem?_cons_zero, Option.getD_some, List.set_cons_succ, List.set_cons_zero, Value.cells, List.toList_toArray] at hS)))
    go_ret
    exact ⟨ao, cap, rfl, hS⟩
theorem rall_c (h : RefG w0 w x σ R) (hl : σ.l.length ≤ 1000000) : Calls Try.prog 19 #[.pointer (some ⟨x, 0, none⟩)] w fun e w' => ∃ ao cap, e = .returned (.slice ao (allS σ).length cap) ∧ RefG w0 w' x σ (.row 3 1 ao (allS σ).length cap ((allS σ).map (Value.int .i64)) :: R) := by
  obtain ⟨a, c, hS⟩ := h
  refine (rall_s hS hl).mono ?_
  rintro e w' ⟨ao, cap, rfl, h2⟩
  exact ⟨ao, cap, rfl, a, c, h2.perm ((List.Perm.swap _ _ _).trans (List.Perm.cons _ (List.Perm.swap _ _ _)))⟩
theorem rclient_c (h : RefG w0 w x σ R) (hl : σ.l.length ≤ 1000000) (id : Int) : Calls Try.prog 22 #[.pointer (some ⟨x, 0, none⟩), .int .i64 id] w fun e w' => e = .returned (.tuple #[.int .i64 (clientS σ id).1, .int .i64 (clientS σ id).2.1, .bool (clientS σ id).2.2]) ∧ RefG w0 w' x σ R := by
  obtain ⟨a, c, hS⟩ := h
  unfold clientS
  cases hx : atS σ id with
  | none =>
    have HA := Lib.hid hx
    clear hx
    go_enter Try.func22, Try.ntmps22
    go_wp2_with (first | ((with_reducible show WGd ..); (with_reducible apply wpA_guard); exact rfl; skip) | (go_at_call 44; with_reducible refine (rat_no hS id HA.out hl).mono ?_; rintro _ _ ⟨rfl, hS⟩) | ((with_reducible show WLd ..); (with_reducible apply wpA_load); exact rfl; (first | ((with_reducible apply St.cellI hS); (focus repeat constructor); exact rfl) | assumption); kernel_rfl) | ((with_reducible show WSt ..); (with_reducible apply wpA_store1I hS); exact rfl; (focus repeat constructor); exact rfl; exact rfl; exact rfl; exact rfl; kernel_rfl; intro wx hS; (try simp only [Act.put, List.setIfInBounds_toArray, List.set_cons_zero, List.set_cons_succ]); (try simp only [Act.eval, Array.getD_eq_getD_getElem?, List.getElem?_toArray, List.getElem?_cons_succ, List.getElem?_cons_zero, Option.getD_some, List.set_cons_succ, List.set_cons_zero, Value.cells, List.toList_toArray] at hS)) | ((with_reducible show WBx ..); (with_reducible apply wpA_box hS); exact rfl; exact rfl; intro _ wx hS; (try simp only [Act.put, List.setIfInBounds_toArray, List.set_cons_zero, List.set_cons_succ]); (try simp only [Act.eval, Array.getD_eq_getD_getElem?, List.getElem?_toArray, List.getElem?_cons_succ, List.getElem?_cons_zero, Option.getD_some, List.set_cons_succ, List.set_cons_zero, Value.cells, List.toList_toArray] at hS)))
    go_ret3
    exact ⟨rfl, a, c, hS⟩
  | some kx =>
    obtain ⟨k, y⟩ := kx
    have hk := (atS_some hx).1
    have hkl : k < σ.l.length := (List.getElem?_eq_some_iff.1 hk).1
    rcases row_head (hS.at_ 1 rfl) with ⟨_, hh, _⟩ | ⟨⟨g, rfl⟩, _⟩
    · omega
    have HA := Lib.hid hx
    have HX := Lib.hid hk
    clear hx hk
    go_enter Try.func22, Try.ntmps22
    go_upto_region 4 with (first | ((with_reducible show WGd ..); (with_reducible apply wpA_guard); exact rfl; skip) | (go_at_call 44; with_reducible refine (rat_yes hS id HA.out hl).mono ?_; rintro _ _ ⟨rfl, hS⟩) | ((with_reducible show WLd ..); (with_reducible apply wpA_load); exact rfl; (first | ((with_reducible apply St.cellI hS); (focus repeat constructor); exact rfl) | assumption); kernel_rfl) | ((with_reducible show WSt ..); (with_reducible apply wpA_store1I hS); exact rfl; (focus repeat constructor); exact rfl; exact rfl; exact rfl; exact rfl; kernel_rfl; intro wx hS; (try simp only [Act.put, List.setIfInBounds_toArray, List.set_cons_zero, List.set_cons_succ]); (try simp only [Act.eval, Array.getD_eq_getD_getElem?, List.getElem?_toArray, List.getElem?_cons_succ, List.getElem?_cons_zero, Option.getD_some, List.set_cons_succ, List.set_cons_zero, Value.cells, List.toList_toArray] at hS)) | ((with_reducible show WBx ..); (with_reducible apply wpA_box hS); exact rfl; exact rfl; intro _ wx hS; (try simp only [Act.put, List.setIfInBounds_toArray, List.set_cons_zero, List.set_cons_succ]); (try simp only [Act.eval, Array.getD_eq_getD_getElem?, List.getElem?_toArray, List.getElem?_cons_succ, List.getElem?_cons_zero, Option.getD_some, List.set_cons_succ, List.set_cons_zero, Value.cells, List.toList_toArray] at hS)))
    refine wp_region_St hS (by kernel_rfl) (by kernel_rfl) (Bx.out ?_)
    refine bQ_val ?_ rfl ?_ ?_
    rotate_left
    · intro w hS; go_simp; (first | done | (with_reducible rfl) | (refine (if_pos ?_).trans ?_; (focus omega); with_reducible rfl) | skip)
    (simp only [Act.put, List.setIfInBounds_toArray, List.set_cons_zero, List.set_cons_succ])
    refine bQ_val ?_ rfl ?_ ?_
    rotate_left
    · intro w hS; go_simp; (first | done | (with_reducible rfl) | (refine (if_pos ?_).trans ?_; (focus omega); with_reducible rfl) | skip)
    (simp only [Act.put, List.setIfInBounds_toArray, List.set_cons_zero, List.set_cons_succ])
    refine bQ_val ?_ rfl ?_ ?_
    rotate_left
    · intro w hS; go_simp; (first | done | (with_reducible rfl) | (refine (if_pos ?_).trans ?_; (focus omega); with_reducible rfl) | skip)
    (simp only [Act.put, List.setIfInBounds_toArray, List.set_cons_zero, List.set_cons_succ])
    refine bQ_load rfl (fun w hS => by exact (row_elem OneS.cells_length (hS.at_ 1 rfl) HX.out) 0 _ rfl) (by kernel_rfl) ?_
    (simp only [Act.put, List.setIfInBounds_toArray, List.set_cons_zero, List.set_cons_succ])
    refine bQ_val ?_ rfl ?_ ?_
    rotate_left
    · intro w hS; go_simp; (first | done | (with_reducible rfl) | (refine (if_pos ?_).trans ?_; (focus omega); with_reducible rfl) | skip)
    (simp only [Act.put, List.setIfInBounds_toArray, List.set_cons_zero, List.set_cons_succ])
    refine bQ_val ?_ rfl ?_ ?_
    rotate_left
    · intro w hS; go_simp; (first | done | (with_reducible rfl) | (refine (if_pos ?_).trans ?_; (focus omega); with_reducible rfl) | skip)
    (simp only [Act.put, List.setIfInBounds_toArray, List.set_cons_zero, List.set_cons_succ])
    refine bQ_val ?_ rfl ?_ ?_
    rotate_left
    · intro w hS; go_simp; (first | done | (with_reducible rfl) | (refine (if_pos ?_).trans ?_; (focus omega); with_reducible rfl) | skip)
    (simp only [Act.put, List.setIfInBounds_toArray, List.set_cons_zero, List.set_cons_succ])
    refine bQ_load rfl (fun w hS => by exact (row_elem OneS.cells_length (hS.at_ 1 rfl) HX.out) 1 _ rfl) (by kernel_rfl) ?_
    (simp only [Act.put, List.setIfInBounds_toArray, List.set_cons_zero, List.set_cons_succ])
    refine bQ_val ?_ rfl ?_ ?_
    rotate_left
    · intro w hS; go_simp; (first | done | (with_reducible rfl) | (refine (if_pos ?_).trans ?_; (focus omega); with_reducible rfl) | skip)
    (simp only [Act.put, List.setIfInBounds_toArray, List.set_cons_zero, List.set_cons_succ])
    refine bQ_val ?_ rfl ?_ ?_
    rotate_left
    · intro w hS; go_simp; (first | done | (with_reducible rfl) | (refine (if_pos ?_).trans ?_; (focus omega); with_reducible rfl) | skip)
    (simp only [Act.put, List.setIfInBounds_toArray, List.set_cons_zero, List.set_cons_succ])
    refine bQ_val ?_ rfl ?_ ?_
    rotate_left
    · intro w hS; go_simp; (first | done | (with_reducible rfl) | (refine (if_pos ?_).trans ?_; (focus omega); with_reducible rfl) | skip)
    (simp only [Act.put, List.setIfInBounds_toArray, List.set_cons_zero, List.set_cons_succ])
    refine ⟨wpQuiet_nil ?_⟩
    intro wx hS
    go_wp2_with (first | ((with_reducible show WGd ..); (with_reducible apply wpA_guard); exact rfl; skip) | ((with_reducible show WLd ..); (with_reducible apply wpA_load); exact rfl; (first | ((with_reducible apply St.cellI hS); (focus repeat constructor); exact rfl) | assumption); kernel_rfl) | ((with_reducible show WSt ..); (with_reducible apply wpA_store1I hS); exact rfl; (focus repeat constructor); exact rfl; exact rfl; exact rfl; exact rfl; kernel_rfl; intro wx hS; (try simp only [Act.put, List.setIfInBounds_toArray, List.set_cons_zero, List.set_cons_succ]); (try simp only [Act.eval, Array.getD_eq_getD_getElem?, List.getElem?_toArray, List.getElem?_cons_succ, List.getElem?_cons_zero, Option.getD_some, List.set_cons_succ, List.set_cons_zero, Value.cells, List.toList_toArray] at hS)) | ((with_reducible show WBx ..); (with_reducible apply wpA_box hS); exact rfl; exact rfl; intro _ wx hS; (try simp only [Act.put, List.setIfInBounds_toArray, List.set_cons_zero, List.set_cons_succ]); (try simp only [Act.eval, Array.getD_eq_getD_getElem?, List.getElem?_toArray, List.getElem?_cons_succ, List.getElem?_cons_zero, Option.getD_some, List.set_cons_succ, List.set_cons_zero, Value.cells, List.toList_toArray] at hS)))
    go_ret3
    exact ⟨rfl, _, c, hS⟩
end
end Go.Proofs.Ytodojllclghoiaa
