/-
  LocksOrder, walked.
-/
import Derived.Test.YtelbpnlpmaihhaaLocksOrdP
import Derived.Test.YtelbpnlpmaihhaaOpen
namespace Go.Proofs.Ytelbpnlpmaihhaa
set_option linter.unusedVariables false
set_option linter.unusedSimpArgs false
open Go.RowKit

theorem holders_none_a (w0 w : World) (R : List Hp) (g : Nat) (σ : LocksS) (h : LocksSt w0 w g σ R) (hx : aget σ.l la = none) :
    Calls Try.prog 11 #[.pointer (some ⟨g, 0, none⟩), .string ⟨#[97]⟩] w fun e w' => e = .returned (.tuple #[.slice none 0 0, .bool false]) ∧ LocksSt w0 w' g σ R := holders_none w0 w R g σ la h hx

set_option maxRecDepth 100000 in
set_option maxHeartbeats 4000000 in
theorem ord_v (w0 : World) (rs : List Bool) (ao : Option Addr) (cap : Nat) (hl : rs.length ≤ 1000000000000000)
    (hr : rs = [] ∨ ∃ b off, ao = some ⟨b, off, none⟩ ∧ ∀ j x, rs[j]? = some x → w0.cell? ⟨b, off + j, none⟩ = some (.bool x)) :
    Calls Try.prog 3 #[.slice ao rs.length cap] w0 fun e w' => e = .returned (.bool true) ∧ St w0 w' [] := by
  have hS := St.init w0
  have HR := Lib.hid hr
  clear hr
  go_enter Try.func3, Try.ntmps3
  go_upto_block 0 with (first | ((with_reducible show WGd ..); (with_reducible apply wpA_guard); exact rfl; skip) | (go_at_call 9; with_reducible refine (lnew_c w0 _ [] hS).mono ?_; rintro _ _ ⟨g, rfl, hL⟩; clear hS) | ((with_reducible show WLd ..); (with_reducible apply wpA_load); exact rfl; (first | ((with_reducible apply St.cellI hS); (focus repeat constructor); exact rfl) | assumption); kernel_rfl) | ((with_reducible show WSt ..); (with_reducible apply wpA_store1I hS); exact rfl; (focus repeat constructor); exact rfl; exact rfl; exact rfl; exact rfl; kernel_rfl; intro wx hS; (try simp only [Act.put, List.setIfInBounds_toArray, List.set_cons_zero, List.set_cons_succ]); (try simp only [Act.eval, Array.getD_eq_getD_getElem?, List.getElem?_toArray, List.getElem?_cons_succ, List.getElem?_cons_zero, Option.getD_some, List.set_cons_succ, List.set_cons_zero, Value.cells, List.toList_toArray] at hS)) | ((with_reducible show WBx ..); (with_reducible apply wpA_box hS); exact rfl; exact rfl; intro _ wx hS; (try simp only [Act.put, List.setIfInBounds_toArray, List.set_cons_zero, List.set_cons_succ]); (try simp only [Act.eval, Array.getD_eq_getD_getElem?, List.getElem?_toArray, List.getElem?_cons_succ, List.getElem?_cons_zero, Option.getD_some, List.set_cons_succ, List.set_cons_zero, Value.cells, List.toList_toArray] at hS)))
  have hL := hL.re (R' := [.row 3 1 none 0 0 []]) (fun D hS => (hS.nilRow 3 1).perm List.perm_middle.symm)
  go_cut [4] (fun qv wr => ∃ (i : Nat) (qs : List Int) (aq : Option Addr) (cq : Nat) (σ : LocksS), qv = .slice aq qs.length cq ∧ i ≤ 50 ∧ Hid (Ord0 σ i qs) ∧ LocksSt w0 wr g σ [.row 3 1 aq qs.length cq (qs.map (Value.int .i64))])
  case first =>
    go_wp2_with (first | ((with_reducible show WGd ..); (with_reducible apply wpA_guard); exact rfl; skip) | ((with_reducible show WLd ..); (with_reducible apply wpA_load); exact rfl; (first | ((with_reducible apply St.cellI hS); (focus repeat constructor); exact rfl) | assumption); kernel_rfl) | ((with_reducible show WSt ..); (with_reducible apply wpA_store1I hS); exact rfl; (focus repeat constructor); exact rfl; exact rfl; exact rfl; exact rfl; kernel_rfl; intro wx hS; (try simp only [Act.put, List.setIfInBounds_toArray, List.set_cons_zero, List.set_cons_succ]); (try simp only [Act.eval, Array.getD_eq_getD_getElem?, List.getElem?_toArray, List.getElem?_cons_succ, List.getElem?_cons_zero, Option.getD_some, List.set_cons_succ, List.set_cons_zero, Value.cells, List.toList_toArray] at hS)) | ((with_reducible show WBx ..); (with_reducible apply wpA_box hS); exact rfl; exact rfl; intro _ wx hS; (try simp only [Act.put, List.setIfInBounds_toArray, List.set_cons_zero, List.set_cons_succ]); (try simp only [Act.eval, Array.getD_eq_getD_getElem?, List.getElem?_toArray, List.getElem?_cons_succ, List.getElem?_cons_zero, Option.getD_some, List.set_cons_succ, List.set_cons_zero, Value.cells, List.toList_toArray] at hS)))
    go_loopw [5, 4] (fun c qv wr => ∃ (i : Nat) (qs : List Int) (aq : Option Addr) (cq : Nat) (σ : LocksS), i ≤ min rs.length 50 ∧ c = .int .i64 i ∧ qv = .slice aq qs.length cq ∧ Hid (Ord0 σ i qs) ∧ qs.length ≤ i ∧ LocksSt w0 wr g σ [.row 3 1 aq qs.length cq (qs.map (Value.int .i64))]) (fun c _ _ => min rs.length 50 - (intOf c).toNat)
    case atStart => exact ⟨0, [], none, 0, ⟨[], 0⟩, Nat.zero_le _, rfl, rfl, Lib.hid (.inl ⟨rfl, rfl, rfl⟩), Nat.le_refl _, hL⟩
    case round =>
      clear hL
      obtain ⟨i, qs, aq, cq, σ, hi, rfl, rfl, HO, hql, hL⟩ := hrel
      by_cases h1 : i < rs.length
      · by_cases h2 : i < 50
        · rcases HR.out with h | ⟨b, off, rfl, hcell⟩
          · rw [h] at h1; simp at h1
          obtain ⟨rd, hx⟩ : ∃ x, rs[i]? = some x := ⟨_, List.getElem?_eq_getElem h1⟩
          have hld := hL.rest.oldCell (hcell i rd hx)
          obtain ⟨got, wait, σ', ha, hor⟩ := ask_ord0 HO.out h2 rd
          have hask : ∀ (w : World) (R : List Hp), LocksSt w0 w g σ R → Calls Try.prog 10 #[.pointer (some ⟨g, 0, none⟩), .agg #[.int .i64 (if rd then 7 else 5), .int .i64 ((i : Int) + 1), .int .i64 1, .string ⟨#[97]⟩, .int .i64 0]] w fun e w' => ∃ ag cg, e = .returned (.tuple #[.slice ag got.length cg, .bool wait]) ∧ LocksSt w0 w' g σ' R := by
            intro w R h
            refine (ask_c w0 w R g σ ⟨if rd then 7 else 5, (i : Int) + 1, 1, la, 0⟩ h (HO.out.ok (by omega))).mono ?_
            rintro e w' ⟨ag, cg, rfl, h2⟩
            rw [ha] at h2 ⊢
            exact ⟨ag, cg, rfl, h2.sub (List.sublist_cons_self _ _)⟩
          obtain ⟨kd, hkd⟩ : ∃ kd : Int, (if rd then (7 : Int) else 5) = kd := ⟨_, rfl⟩
          rw [hkd] at hask
          have HASK := Lib.hid hask
          have HLT := Lib.hid (show i + 1 ≤ min rs.length 50 by omega)
          clear hcell hx ha hask hi
          rcases hor with ⟨rfl, hg, ho⟩ | ⟨rfl, rfl, ho⟩
          · have HO2 := Lib.hid ho
            have hg1 : ((got.length : Int) == 1) = true := by simp [hg]
            have HG := Lib.hid hg
            clear ho hg
            cases rd with
            | true =>
              obtain rfl : kd = 7 := hkd.symm
              clear hkd
              go_wp2_with (first | ((with_reducible show WGd ..); (with_reducible apply wpA_guard); exact rfl; skip) | (go_at_call 10; with_reducible refine (HASK.out _ _ hL).mono ?_; rintro _ _ ⟨ag, cg, rfl, hL⟩) | ((with_reducible show WLd ..); (with_reducible apply wpA_load); exact rfl; (first | ((with_reducible apply St.cellI hS); (focus repeat constructor); exact rfl) | assumption); kernel_rfl) | ((with_reducible show WSt ..); (with_reducible apply wpA_store1I hS); exact rfl; (focus repeat constructor); exact rfl; exact rfl; exact rfl; exact rfl; kernel_rfl; intro wx hS; (try simp only [Act.put, List.setIfInBounds_toArray, List.set_cons_zero, List.set_cons_succ]); (try simp only [Act.eval, Array.getD_eq_getD_getElem?, List.getElem?_toArray, List.getElem?_cons_succ, List.getElem?_cons_zero, Option.getD_some, List.set_cons_succ, List.set_cons_zero, Value.cells, List.toList_toArray] at hS)) | ((with_reducible show WBx ..); (with_reducible apply wpA_box hS); exact rfl; exact rfl; intro _ wx hS; (try simp only [Act.put, List.setIfInBounds_toArray, List.set_cons_zero, List.set_cons_succ]); (try simp only [Act.eval, Array.getD_eq_getD_getElem?, List.getElem?_toArray, List.getElem?_cons_succ, List.getElem?_cons_zero, Option.getD_some, List.set_cons_succ, List.set_cons_zero, Value.cells, List.toList_toArray] at hS)))
              go_roundw
              case rel => exact ⟨i + 1, qs, aq, cq, σ', HLT.out, by go_num, rfl, HO2, by omega, hL⟩
              case measure => have := HLT.out; simp [intOf]; omega
            | false =>
              obtain rfl : kd = 5 := hkd.symm
              clear hkd
              go_wp2_with (first | ((with_reducible show WGd ..); (with_reducible apply wpA_guard); exact rfl; skip) | (go_at_call 10; with_reducible refine (HASK.out _ _ hL).mono ?_; rintro _ _ ⟨ag, cg, rfl, hL⟩) | ((with_reducible show WLd ..); (with_reducible apply wpA_load); exact rfl; (first | ((with_reducible apply St.cellI hS); (focus repeat constructor); exact rfl) | assumption); kernel_rfl) | ((with_reducible show WSt ..); (with_reducible apply wpA_store1I hS); exact rfl; (focus repeat constructor); exact rfl; exact rfl; exact rfl; exact rfl; kernel_rfl; intro wx hS; (try simp only [Act.put, List.setIfInBounds_toArray, List.set_cons_zero, List.set_cons_succ]); (try simp only [Act.eval, Array.getD_eq_getD_getElem?, List.getElem?_toArray, List.getElem?_cons_succ, List.getElem?_cons_zero, Option.getD_some, List.set_cons_succ, List.set_cons_zero, Value.cells, List.toList_toArray] at hS)) | ((with_reducible show WBx ..); (with_reducible apply wpA_box hS); exact rfl; exact rfl; intro _ wx hS; (try simp only [Act.put, List.setIfInBounds_toArray, List.set_cons_zero, List.set_cons_succ]); (try simp only [Act.eval, Array.getD_eq_getD_getElem?, List.getElem?_toArray, List.getElem?_cons_succ, List.getElem?_cons_zero, Option.getD_some, List.set_cons_succ, List.set_cons_zero, Value.cells, List.toList_toArray] at hS)))
              go_roundw
              case rel => exact ⟨i + 1, qs, aq, cq, σ', HLT.out, by go_num, rfl, HO2, by omega, hL⟩
              case measure => have := HLT.out; simp [intOf]; omega
          · have HO2 := Lib.hid ho
            clear ho
            simp only [List.length_nil] at HASK
            cases rd with
            | true =>
              obtain rfl : kd = 7 := hkd.symm
              clear hkd
              go_wp2_with (first | ((with_reducible show WGd ..); (with_reducible apply wpA_guard); exact rfl; skip) | (go_at_call 10; with_reducible refine (HASK.out _ _ hL).mono ?_; rintro _ _ ⟨ag, cg, rfl, hL⟩; obtain ⟨D2, hS, hb2⟩ := LocksSt.use hL; have hS := St.perm hS List.perm_append_comm; simp only [List.cons_append, List.nil_append] at hS) | ((first | ((with_reducible show WBs ..); (with_reducible apply wpA_oneN hS (z := .int .i64 0) (bytes := 8) (size := 1)); exact Try.underlying25; kernel_rfl; exact rfl; exact rfl; exact rfl; exact (by decide); exact (by decide); intro _ wx hS) | ((with_reducible show WBx ..); (with_reducible apply wpA_box hS); exact rfl; exact rfl; intro _ wx hS)); (try simp only [Act.put, List.setIfInBounds_toArray, List.set_cons_zero, List.set_cons_succ]); (try simp only [Act.eval, Array.getD_eq_getD_getElem?, List.getElem?_toArray, List.getElem?_cons_succ, List.getElem?_cons_zero, Option.getD_some, List.set_cons_succ, List.set_cons_zero, Value.cells, List.toList_toArray] at hS)) | ((with_reducible show WAp ..); (with_reducible apply wpA_append hS 1 (z := .int .i64 0) (size := 1) (bytes := 8)); exact rfl; exact rfl; exact rfl; exact Try.underlying25; exact .inr Try.underlying25; kernel_rfl; exact rfl; exact (Src.freshN (m := 1) hS 0 rfl rfl (by rfl)); exact (by unfold maxLen; omega); exact (by omega); intro aq2 cq2 wx hS; (try simp only [Act.put, List.setIfInBounds_toArray, List.set_cons_zero, List.set_cons_succ])) | ((with_reducible show WLd ..); (with_reducible apply wpA_load); exact rfl; (first | ((with_reducible apply St.cellI hS); (focus repeat constructor); exact rfl) | assumption); kernel_rfl) | ((with_reducible show WSt ..); (with_reducible apply wpA_store1I hS); exact rfl; (focus repeat constructor); exact rfl; exact rfl; exact rfl; exact rfl; kernel_rfl; intro wx hS; (try simp only [Act.put, List.setIfInBounds_toArray, List.set_cons_zero, List.set_cons_succ]); (try simp only [Act.eval, Array.getD_eq_getD_getElem?, List.getElem?_toArray, List.getElem?_cons_succ, List.getElem?_cons_zero, Option.getD_some, List.set_cons_succ, List.set_cons_zero, Value.cells, List.toList_toArray] at hS)))
              go_roundw
              case rel =>
                refine ⟨i + 1, qs ++ [(i : Int) + 1], aq2, cq2, σ', HLT.out, by go_num, by simp, HO2, by simp; omega, ?_⟩
                refine hb2 _ _ (St.perm (H := [_] ++ D2) ?_ List.perm_append_comm)
                simp only [List.map_append, List.map_cons, List.map_nil, List.length_append, List.length_cons, List.length_nil]
                exact hS.tail
              case measure => have := HLT.out; simp [intOf]; omega
            | false =>
              obtain rfl : kd = 5 := hkd.symm
              clear hkd
              go_wp2_with (first | ((with_reducible show WGd ..); (with_reducible apply wpA_guard); exact rfl; skip) | (go_at_call 10; with_reducible refine (HASK.out _ _ hL).mono ?_; rintro _ _ ⟨ag, cg, rfl, hL⟩; obtain ⟨D2, hS, hb2⟩ := LocksSt.use hL; have hS := St.perm hS List.perm_append_comm; simp only [List.cons_append, List.nil_append] at hS) | ((first | ((with_reducible show WBs ..); (with_reducible apply wpA_oneN hS (z := .int .i64 0) (bytes := 8) (size := 1)); exact Try.underlying25; kernel_rfl; exact rfl; exact rfl; exact rfl; exact (by decide); exact (by decide); intro _ wx hS) | ((with_reducible show WBx ..); (with_reducible apply wpA_box hS); exact rfl; exact rfl; intro _ wx hS)); (try simp only [Act.put, List.setIfInBounds_toArray, List.set_cons_zero, List.set_cons_succ]); (try simp only [Act.eval, Array.getD_eq_getD_getElem?, List.getElem?_toArray, List.getElem?_cons_succ, List.getElem?_cons_zero, Option.getD_some, List.set_cons_succ, List.set_cons_zero, Value.cells, List.toList_toArray] at hS)) | ((with_reducible show WAp ..); (with_reducible apply wpA_append hS 1 (z := .int .i64 0) (size := 1) (bytes := 8)); exact rfl; exact rfl; exact rfl; exact Try.underlying25; exact .inr Try.underlying25; kernel_rfl; exact rfl; exact (Src.freshN (m := 1) hS 0 rfl rfl (by rfl)); exact (by unfold maxLen; omega); exact (by omega); intro aq2 cq2 wx hS; (try simp only [Act.put, List.setIfInBounds_toArray, List.set_cons_zero, List.set_cons_succ])) | ((with_reducible show WLd ..); (with_reducible apply wpA_load); exact rfl; (first | ((with_reducible apply St.cellI hS); (focus repeat constructor); exact rfl) | assumption); kernel_rfl) | ((with_reducible show WSt ..); (with_reducible apply wpA_store1I hS); exact rfl; (focus repeat constructor); exact rfl; exact rfl; exact rfl; exact rfl; kernel_rfl; intro wx hS; (try simp only [Act.put, List.setIfInBounds_toArray, List.set_cons_zero, List.set_cons_succ]); (try simp only [Act.eval, Array.getD_eq_getD_getElem?, List.getElem?_toArray, List.getElem?_cons_succ, List.getElem?_cons_zero, Option.getD_some, List.set_cons_succ, List.set_cons_zero, Value.cells, List.toList_toArray] at hS)))
              go_roundw
              case rel =>
                refine ⟨i + 1, qs ++ [(i : Int) + 1], aq2, cq2, σ', HLT.out, by go_num, by simp, HO2, by simp; omega, ?_⟩
                refine hb2 _ _ (St.perm (H := [_] ++ D2) ?_ List.perm_append_comm)
                simp only [List.map_append, List.map_cons, List.map_nil, List.length_append, List.length_cons, List.length_nil]
                exact hS.tail
              case measure => have := HLT.out; simp [intOf]; omega
        · go_wp2_with (first | ((with_reducible show WGd ..); (with_reducible apply wpA_guard); exact rfl; skip) | ((with_reducible show WLd ..); (with_reducible apply wpA_load); exact rfl; (first | ((with_reducible apply St.cellI hS); (focus repeat constructor); exact rfl) | assumption); kernel_rfl) | ((with_reducible show WSt ..); (with_reducible apply wpA_store1I hS); exact rfl; (focus repeat constructor); exact rfl; exact rfl; exact rfl; exact rfl; kernel_rfl; intro wx hS; (try simp only [Act.put, List.setIfInBounds_toArray, List.set_cons_zero, List.set_cons_succ]); (try simp only [Act.eval, Array.getD_eq_getD_getElem?, List.getElem?_toArray, List.getElem?_cons_succ, List.getElem?_cons_zero, Option.getD_some, List.set_cons_succ, List.set_cons_zero, Value.cells, List.toList_toArray] at hS)) | ((with_reducible show WBx ..); (with_reducible apply wpA_box hS); exact rfl; exact rfl; intro _ wx hS; (try simp only [Act.put, List.setIfInBounds_toArray, List.set_cons_zero, List.set_cons_succ]); (try simp only [Act.eval, Array.getD_eq_getD_getElem?, List.getElem?_toArray, List.getElem?_cons_succ, List.getElem?_cons_zero, Option.getD_some, List.set_cons_succ, List.set_cons_zero, Value.cells, List.toList_toArray] at hS)))
          go_meet
          exact ⟨i, qs, aq, cq, σ, rfl, by omega, HO, hL⟩
      · go_wp2_with (first | ((with_reducible show WGd ..); (with_reducible apply wpA_guard); exact rfl; skip) | ((with_reducible show WLd ..); (with_reducible apply wpA_load); exact rfl; (first | ((with_reducible apply St.cellI hS); (focus repeat constructor); exact rfl) | assumption); kernel_rfl) | ((with_reducible show WSt ..); (with_reducible apply wpA_store1I hS); exact rfl; (focus repeat constructor); exact rfl; exact rfl; exact rfl; exact rfl; kernel_rfl; intro wx hS; (try simp only [Act.put, List.setIfInBounds_toArray, List.set_cons_zero, List.set_cons_succ]); (try simp only [Act.eval, Array.getD_eq_getD_getElem?, List.getElem?_toArray, List.getElem?_cons_succ, List.getElem?_cons_zero, Option.getD_some, List.set_cons_succ, List.set_cons_zero, Value.cells, List.toList_toArray] at hS)) | ((with_reducible show WBx ..); (with_reducible apply wpA_box hS); exact rfl; exact rfl; intro _ wx hS; (try simp only [Act.put, List.setIfInBounds_toArray, List.set_cons_zero, List.set_cons_succ]); (try simp only [Act.eval, Array.getD_eq_getD_getElem?, List.getElem?_toArray, List.getElem?_cons_succ, List.getElem?_cons_zero, Option.getD_some, List.set_cons_succ, List.set_cons_zero, Value.cells, List.toList_toArray] at hS)))
        go_meet
        exact ⟨i, qs, aq, cq, σ, rfl, by omega, HO, hL⟩
  case rest =>
    clear hL
    obtain ⟨i, qs, aq, cq, σ, rfl, hi, HO, hL⟩ := hcut
    have HO2 := Lib.hid HO.out.to2
    have hql : qs.length ≤ 1000 := by
      rcases HO.out with ⟨_, _, rfl⟩ | ⟨x, tok, _, h, rfl⟩
      · simp
      · have := h.ord.len; simp [ses]; omega
    clear HO
    go_wp2_with (first | ((with_reducible show WGd ..); (with_reducible apply wpA_guard); exact rfl; skip) | ((with_reducible show WLd ..); (with_reducible apply wpA_load); exact rfl; (first | ((with_reducible apply St.cellI hS); (focus repeat constructor); exact rfl) | assumption); kernel_rfl) | ((with_reducible show WSt ..); (with_reducible apply wpA_store1I hS); exact rfl; (focus repeat constructor); exact rfl; exact rfl; exact rfl; exact rfl; kernel_rfl; intro wx hS; (try simp only [Act.put, List.setIfInBounds_toArray, List.set_cons_zero, List.set_cons_succ]); (try simp only [Act.eval, Array.getD_eq_getD_getElem?, List.getElem?_toArray, List.getElem?_cons_succ, List.getElem?_cons_zero, Option.getD_some, List.set_cons_succ, List.set_cons_zero, Value.cells, List.toList_toArray] at hS)) | ((with_reducible show WBx ..); (with_reducible apply wpA_box hS); exact rfl; exact rfl; intro _ wx hS; (try simp only [Act.put, List.setIfInBounds_toArray, List.set_cons_zero, List.set_cons_succ]); (try simp only [Act.eval, Array.getD_eq_getD_getElem?, List.getElem?_toArray, List.getElem?_cons_succ, List.getElem?_cons_zero, Option.getD_some, List.set_cons_succ, List.set_cons_zero, Value.cells, List.toList_toArray] at hS)))
    go_loopw [9, 4] (fun c qv wr => ∃ (n m k : Nat) (σ : LocksS) (a' : Option Addr) (c' : Nat), n ≤ 100 ∧ c = .int .i64 n ∧ k ≤ qs.length ∧ qv = .slice a' (qs.length - k) c' ∧ qs.length - k ≤ c' ∧ (k < qs.length → ∃ gq, aq = some ⟨gq, 0, none⟩ ∧ a' = some ⟨gq, k, none⟩) ∧ m + n ≤ 50 ∧ Hid (Ord2 σ m (qs.drop k)) ∧ LocksSt w0 wr g σ [.row 3 1 aq qs.length cq (qs.map (Value.int .i64))]) (fun c _ _ => 100 - (intOf c).toNat)
    case atStart =>
      refine ⟨0, i, 0, σ, aq, cq, Nat.zero_le _, rfl, Nat.zero_le _, rfl, row_cap (hL.rest.at_ 0 rfl), fun h => ?_, by omega, HO2, hL⟩
      rcases row_head (hL.rest.at_ 0 rfl) with ⟨_, hh, _⟩ | ⟨⟨gq, h1⟩, _⟩
      · omega
      · exact ⟨gq, h1, h1⟩
    case round =>
      clear hL HO2
      obtain ⟨n, m, k, σ, a', c', hn, rfl, hk, rfl, hcc, hka, hmn, HO, hL⟩ := hrel
      rcases HO.out with ⟨rfl, hσ, hq⟩ | ⟨x, tok, rfl, hx, hq⟩
      · have hg : aget σ.l la = none := by rw [hσ]; rfl
        have hke : k = qs.length := by
          have : (qs.drop k).length = 0 := by rw [hq]; rfl
          rw [List.length_drop] at this; omega
        have hd : (((qs.length - k : Nat) : Int) == 0) = true := by simp; omega
        have hn1 : n < 100 := by omega
        clear hσ hq hke hka
        go_wp2_with (first | ((with_reducible show WGd ..); (with_reducible apply wpA_guard); exact rfl; skip) | (go_at_call 11; with_reducible refine (holders_none_a w0 _ _ g σ hL hg).mono ?_; rintro _ _ ⟨rfl, hL⟩) | (go_at_call 12; with_reducible refine (awake_c w0 _ [] hL.rest.tail).mono ?_; rintro _ _ ⟨rfl, hS⟩) | ((with_reducible show WLd ..); (with_reducible apply wpA_load); exact rfl; (first | ((with_reducible apply St.cellI hS); (focus repeat constructor); exact rfl) | assumption); kernel_rfl) | ((with_reducible show WSt ..); (with_reducible apply wpA_store1I hS); exact rfl; (focus repeat constructor); exact rfl; exact rfl; exact rfl; exact rfl; kernel_rfl; intro wx hS; (try simp only [Act.put, List.setIfInBounds_toArray, List.set_cons_zero, List.set_cons_succ]); (try simp only [Act.eval, Array.getD_eq_getD_getElem?, List.getElem?_toArray, List.getElem?_cons_succ, List.getElem?_cons_zero, Option.getD_some, List.set_cons_succ, List.set_cons_zero, Value.cells, List.toList_toArray] at hS)) | ((with_reducible show WBx ..); (with_reducible apply wpA_box hS); exact rfl; exact rfl; intro _ wx hS; (try simp only [Act.put, List.setIfInBounds_toArray, List.set_cons_zero, List.set_cons_succ]); (try simp only [Act.eval, Array.getD_eq_getD_getElem?, List.getElem?_toArray, List.getElem?_cons_succ, List.getElem?_cons_zero, Option.getD_some, List.set_cons_succ, List.set_cons_zero, Value.cells, List.toList_toArray] at hS)))
        go_ret
        exact ⟨rfl, hS⟩
      · obtain ⟨s0, r, hh⟩ : ∃ s0 r, x.held = s0 :: r := by
          cases h : x.held with
          | nil => exact absurd h hx.ne
          | cons a b => exact ⟨a, b, rfl⟩
        obtain ⟨rs, σ', hrel, hm1, hkr, hO2, hser⟩ := rel_ord2 hx (by omega) hk hq s0 r hh
        obtain ⟨wr', hwr⟩ : ∃ b : Bool, x.writer = b := ⟨_, rfl⟩
        rw [hwr] at hrel
        have hhold : ∀ (w : World) (R : List Hp), LocksSt w0 w g (lst1 x tok) R → Calls Try.prog 11 #[.pointer (some ⟨g, 0, none⟩), .string ⟨#[97]⟩] w fun e w' => ∃ q cap, e = .returned (.tuple #[.slice (some ⟨q, 0, none⟩) (r.length + 1) cap, .bool wr']) ∧ LocksSt w0 w' g (lst1 x tok) (.row 3 1 (some ⟨q, 0, none⟩) (r.length + 1) cap (.int .i64 s0 :: r.map (Value.int .i64)) :: R) := by
          intro w R h
          refine (holders_some w0 w R g _ la x h (lst1_get x tok) (by have := hx.len; omega)).mono ?_
          rintro e w' ⟨ao, cap, rfl, h2⟩
          rw [hh, List.length_cons, List.map_cons] at h2
          rw [hh, List.length_cons, hwr]
          obtain ⟨q, rfl⟩ := h2.some
          exact ⟨q, cap, rfl, h2⟩
        have hrelc : ∀ (w : World) (R : List Hp), LocksSt w0 w g (lst1 x tok) R → Calls Try.prog 13 #[.pointer (some ⟨g, 0, none⟩), .agg #[.int .i64 (if wr' then 6 else 8), .int .i64 s0, .int .i64 2, .string ⟨#[97]⟩, .int .i64 0]] w fun e w' => ∃ q cap, e = .returned (.slice (some ⟨q, 0, none⟩) (rs.length + 1) cap) ∧ LocksSt w0 w' g σ' (.row 38 5 (some ⟨q, 0, none⟩) (rs.length + 1) cap ([.int .i64 s0, .int .i64 2, .int .i64 0, .int .u64 0, .int .i64 0] ++ rs.flatMap RepS.cells) :: R) := by
          intro w R h
          refine (release_c w0 w R g (lst1 x tok) ⟨if wr' then 6 else 8, s0, 2, la, 0⟩ h (hx.ok (by omega))).mono ?_
          rintro e w' ⟨ao, cap, rfl, h2⟩
          rw [hrel] at h2 ⊢
          obtain ⟨q, rfl⟩ := h2.some
          exact ⟨q, cap, rfl, h2⟩
        obtain ⟨kd, hkd⟩ : ∃ kd : Int, (if wr' then (6 : Int) else 8) = kd := ⟨_, rfl⟩
        rw [hkd] at hrelc
        have HR := Lib.hid hhold
        have HL := Lib.hid hrelc
        have HO2 := Lib.hid hO2
        have HSE := Lib.hid hser
        have hn1 : n < 100 := by omega
        have hrl : rs.length ≤ 1000 := by omega
        clear hhold hrelc hO2 hser hrel hwr hh hq HO hx
        cases wr' with
        | true =>
          obtain rfl : kd = 6 := hkd.symm
          clear hkd
          go_wp2_with (first | ((with_reducible show WGd ..); (with_reducible apply wpA_guard); exact rfl; skip) | (go_at_call 11; with_reducible refine (HR.out _ _ hL).mono ?_; rintro _ _ ⟨gh, caph, rfl, hL⟩; have hl0 := row_cell (hL.rest.at_ 0 rfl) 0 (v := .int .i64 s0) rfl) | (go_at_call 13; with_reducible refine (HL.out _ _ hL).mono ?_; rintro _ _ ⟨gg, capg, rfl, hL⟩; have hl1 := row_cell (hL.rest.at_ 0 rfl) 2 (v := .int .i64 0) rfl) | ((with_reducible show WLd ..); (with_reducible apply wpA_load); exact rfl; (first | ((with_reducible apply St.cellI hS); (focus repeat constructor); exact rfl) | assumption); kernel_rfl) | ((with_reducible show WSt ..); (with_reducible apply wpA_store1I hS); exact rfl; (focus repeat constructor); exact rfl; exact rfl; exact rfl; exact rfl; kernel_rfl; intro wx hS; (try simp only [Act.put, List.setIfInBounds_toArray, List.set_cons_zero, List.set_cons_succ]); (try simp only [Act.eval, Array.getD_eq_getD_getElem?, List.getElem?_toArray, List.getElem?_cons_succ, List.getElem?_cons_zero, Option.getD_some, List.set_cons_succ, List.set_cons_zero, Value.cells, List.toList_toArray] at hS)) | ((with_reducible show WBx ..); (with_reducible apply wpA_box hS); exact rfl; exact rfl; intro _ wx hS; (try simp only [Act.put, List.setIfInBounds_toArray, List.set_cons_zero, List.set_cons_succ]); (try simp only [Act.eval, Array.getD_eq_getD_getElem?, List.getElem?_toArray, List.getElem?_cons_succ, List.getElem?_cons_zero, Option.getD_some, List.set_cons_succ, List.set_cons_zero, Value.cells, List.toList_toArray] at hS)))
          clear hl0 hl1
          go_loopw [14, 4] (fun c qv wr2 => ∃ (j : Nat) (a2 : Option Addr) (c2 : Nat), j ≤ rs.length ∧ c = .int .i64 ((j : Int) + 1) ∧ qv = .slice a2 (qs.length - (k + j)) c2 ∧ qs.length - (k + j) ≤ c2 ∧ (k + j < qs.length → ∃ gq, aq = some ⟨gq, 0, none⟩ ∧ a2 = some ⟨gq, k + j, none⟩) ∧ LocksSt w0 wr2 g σ' [.row 38 5 (some ⟨gg, 0, none⟩) (rs.length + 1) capg ([.int .i64 s0, .int .i64 2, .int .i64 0, .int .u64 0, .int .i64 0] ++ rs.flatMap RepS.cells), .row 3 1 (some ⟨gh, 0, none⟩) (r.length + 1) caph (.int .i64 s0 :: r.map (Value.int .i64)), .row 3 1 aq qs.length cq (qs.map (Value.int .i64))]) (fun c _ _ => rs.length + 1 - (intOf c).toNat)
          case atStart => exact ⟨0, a', c', Nat.zero_le _, rfl, rfl, hcc, hka, hL⟩
          case round =>
            clear hL hka
            obtain ⟨j, a2, c2, hj, rfl, rfl, hcc, hka, hL⟩ := hrel
            by_cases hjl : j < rs.length
            · obtain ⟨y, hy⟩ : ∃ y, rs[j]? = some y := ⟨_, List.getElem?_eq_getElem hjl⟩
              have hqk := HSE.out j y hy
              have hkj : k + j < qs.length := (List.getElem?_eq_some_iff.1 hqk).1
              obtain ⟨gq, rfl, rfl⟩ := hka hkj
              obtain ⟨D, hS, hb⟩ := LocksSt.use hL
              replace hS := St.perm hS List.perm_append_comm
              simp only [List.cons_append, List.nil_append] at hS
              have hc1 : ([.int .i64 s0, .int .i64 2, .int .i64 0, .int .u64 0, .int .i64 0] ++ rs.flatMap RepS.cells)[(j + 1) * 5]? = some (.int .i64 y.session) := by
                have h1 := flat_get RepS.cells_length hy 0 _ rfl
                rw [List.getElem?_append_right (by simp; omega)]
                rw [show (j + 1) * 5 - ([Value.int .i64 s0, .int .i64 2, .int .i64 0, .int .u64 0, .int .i64 0] : List Value).length = j * 5 + 0 by simp; omega]
                exact h1
              have hc2 : (qs.map (Value.int .i64))[k + j]? = some (.int .i64 y.session) := by rw [List.getElem?_map, hqk]; rfl
              have HC1 := Lib.hid hc1
              have HC2 := Lib.hid hc2
              have h0 : (0 : Int) ≤ (j : Int) + 1 := by omega
              have hne : (((qs.length - (k + j) : Nat) : Int) == 0) = false := by simp; omega
              clear hL hc1 hc2 hy hqk hka
              go_wp2_with (first | ((with_reducible show WGd ..); (with_reducible apply wpA_guard); exact rfl; skip) | ((with_reducible show WLd ..); (with_reducible apply wpA_load); exact rfl; (first | ((with_reducible apply St.cellI hS); (focus repeat constructor); exact rfl) | assumption); kernel_rfl) | ((with_reducible show WSt ..); (with_reducible apply wpA_store1I hS); exact rfl; (focus repeat constructor); exact rfl; exact rfl; exact rfl; exact rfl; kernel_rfl; intro wx hS; (try simp only [Act.put, List.setIfInBounds_toArray, List.set_cons_zero, List.set_cons_succ]); (try simp only [Act.eval, Array.getD_eq_getD_getElem?, List.getElem?_toArray, List.getElem?_cons_succ, List.getElem?_cons_zero, Option.getD_some, List.set_cons_succ, List.set_cons_zero, Value.cells, List.toList_toArray] at hS)) | ((with_reducible show WBx ..); (with_reducible apply wpA_box hS); exact rfl; exact rfl; intro _ wx hS; (try simp only [Act.put, List.setIfInBounds_toArray, List.set_cons_zero, List.set_cons_succ]); (try simp only [Act.eval, Array.getD_eq_getD_getElem?, List.getElem?_toArray, List.getElem?_cons_succ, List.getElem?_cons_zero, Option.getD_some, List.set_cons_succ, List.set_cons_zero, Value.cells, List.toList_toArray] at hS)))
              refine wp_region_St hS (by kernel_rfl) (by kernel_rfl) (Bx.out ?_)
              refine bQ_val ?_ rfl ?_ ?_
              rotate_left
              · intro w hS; go_simp; (first | done | (with_reducible rfl) | (refine (if_pos ?_).trans ?_; (focus omega); with_reducible rfl) | skip)
              (simp only [Act.put, List.setIfInBounds_toArray, List.set_cons_zero, List.set_cons_succ])
              refine bQ_val ?_ rfl ?_ ?_
              rotate_left
              · intro w hS; go_simp; (first | done | (with_reducible rfl) | (refine (if_pos ?_).trans ?_; (focus omega); with_reducible rfl) | skip)
              (simp only [Act.put, List.setIfInBounds_toArray, List.set_cons_zero, List.set_cons_succ])
              refine bQ_val (.bool false) rfl (fun w hS => by go_simp; (first | done | simp [hne])) ?_
              (simp only [Act.put, List.setIfInBounds_toArray, List.set_cons_zero, List.set_cons_succ])
              refine bQ_val ?_ rfl ?_ ?_
              rotate_left
              · intro w hS; go_simp; (first | done | (with_reducible rfl) | (refine (if_pos ?_).trans ?_; (focus omega); with_reducible rfl) | skip)
              (simp only [Act.put, List.setIfInBounds_toArray, List.set_cons_zero, List.set_cons_succ])
              refine bQ_guard (by exact rfl) ?_
              refine bQ_val ?_ rfl ?_ ?_
              rotate_left
              · intro w hS; go_simp; (first | done | (with_reducible rfl) | (refine (if_pos ?_).trans ?_; (focus omega); with_reducible rfl) | skip)
              (simp only [Act.put, List.setIfInBounds_toArray, List.set_cons_zero, List.set_cons_succ])
              refine bQ_guard (by exact rfl) ?_
              refine bQ_val ?_ rfl ?_ ?_
              rotate_left
              · intro w hS; go_simp; (first | done | (with_reducible rfl) | (refine (if_pos ?_).trans ?_; (focus omega); with_reducible rfl) | skip)
              (simp only [Act.put, List.setIfInBounds_toArray, List.set_cons_zero, List.set_cons_succ])
              refine bQ_guard (by exact rfl) ?_
              refine bQ_val ?_ rfl ?_ ?_
              rotate_left
              · intro w hS; go_simp; (first | done | (with_reducible rfl) | (refine (if_pos ?_).trans ?_; (focus omega); with_reducible rfl) | skip)
              (simp only [Act.put, List.setIfInBounds_toArray, List.set_cons_zero, List.set_cons_succ])
              refine bQ_guard (by exact rfl) ?_
              refine bQ_val ?_ rfl ?_ ?_
              rotate_left
              · intro w hS; go_simp; (first | done | (with_reducible rfl) | (refine (if_pos ?_).trans ?_; (focus omega); with_reducible rfl) | skip)
              (simp only [Act.put, List.setIfInBounds_toArray, List.set_cons_zero, List.set_cons_succ])
              refine bQ_guard (by exact rfl) ?_
              refine bQ_load rfl (fun w hS => by exact row_cell (hS.at_ 0 rfl) ((j + 1) * 5) HC1.out) (by kernel_rfl) ?_
              (simp only [Act.put, List.setIfInBounds_toArray, List.set_cons_zero, List.set_cons_succ])
              refine bQ_guard (by exact rfl) ?_
              refine bQ_val ?_ rfl ?_ ?_
              rotate_left
              · intro w hS; go_simp; (first | done | (with_reducible rfl) | (refine (if_pos ?_).trans ?_; (focus omega); with_reducible rfl) | skip)
              (simp only [Act.put, List.setIfInBounds_toArray, List.set_cons_zero, List.set_cons_succ])
              refine bQ_guard (by exact rfl) ?_
              refine bQ_val ?_ rfl ?_ ?_
              rotate_left
              · intro w hS; go_simp; (first | done | (with_reducible rfl) | (refine (if_pos ?_).trans ?_; (focus omega); with_reducible rfl) | skip)
              (simp only [Act.put, List.setIfInBounds_toArray, List.set_cons_zero, List.set_cons_succ])
              refine bQ_guard (by exact rfl) ?_
              refine bQ_load rfl (fun w hS => by exact row_cell (hS.at_ 2 rfl) (k + j) HC2.out) (by kernel_rfl) ?_
              (simp only [Act.put, List.setIfInBounds_toArray, List.set_cons_zero, List.set_cons_succ])
              refine bQ_guard (by exact rfl) ?_
              refine bQ_val (.bool false) rfl (fun w hS => by go_simp; (first | done | simp)) ?_
              (simp only [Act.put, List.setIfInBounds_toArray, List.set_cons_zero, List.set_cons_succ])
              refine bQ_val ?_ rfl ?_ ?_
              rotate_left
              · intro w hS; go_simp; (first | done | (with_reducible rfl) | (refine (if_pos ?_).trans ?_; (focus omega); with_reducible rfl) | skip)
              (simp only [Act.put, List.setIfInBounds_toArray, List.set_cons_zero, List.set_cons_succ])
              refine ⟨wpQuiet_nil ?_⟩
              intro wx hS
              go_wp2_with (first | ((with_reducible show WGd ..); (with_reducible apply wpA_guard); exact rfl; skip) | ((with_reducible show WLd ..); (with_reducible apply wpA_load); exact rfl; (first | ((with_reducible apply St.cellI hS); (focus repeat constructor); exact rfl) | assumption); kernel_rfl) | ((with_reducible show WSt ..); (with_reducible apply wpA_store1I hS); exact rfl; (focus repeat constructor); exact rfl; exact rfl; exact rfl; exact rfl; kernel_rfl; intro wx hS; (try simp only [Act.put, List.setIfInBounds_toArray, List.set_cons_zero, List.set_cons_succ]); (try simp only [Act.eval, Array.getD_eq_getD_getElem?, List.getElem?_toArray, List.getElem?_cons_succ, List.getElem?_cons_zero, Option.getD_some, List.set_cons_succ, List.set_cons_zero, Value.cells, List.toList_toArray] at hS)) | ((with_reducible show WBx ..); (with_reducible apply wpA_box hS); exact rfl; exact rfl; intro _ wx hS; (try simp only [Act.put, List.setIfInBounds_toArray, List.set_cons_zero, List.set_cons_succ]); (try simp only [Act.eval, Array.getD_eq_getD_getElem?, List.getElem?_toArray, List.getElem?_cons_succ, List.getElem?_cons_zero, Option.getD_some, List.set_cons_succ, List.set_cons_zero, Value.cells, List.toList_toArray] at hS)))
              go_roundw
              case rel =>
                refine ⟨j + 1, if c2 = 1 then some ⟨gq, k + j, none⟩ else some ⟨gq, k + j + 1, none⟩, c2 - 1, by omega, by go_num, ?_, by omega, fun h => ⟨gq, rfl, ?_⟩, hb _ _ (St.perm hS (List.perm_append_comm (l₁ := [_, _, _])))⟩
                · rw [show qs.length - (k + j) - 1 = qs.length - (k + (j + 1)) by omega]
                · rw [if_neg (by omega)]; rfl
              case measure => simp [intOf]; omega
            · go_wp2_with (first | ((with_reducible show WGd ..); (with_reducible apply wpA_guard); exact rfl; skip) | ((with_reducible show WLd ..); (with_reducible apply wpA_load); exact rfl; (first | ((with_reducible apply St.cellI hS); (focus repeat constructor); exact rfl) | assumption); kernel_rfl) | ((with_reducible show WSt ..); (with_reducible apply wpA_store1I hS); exact rfl; (focus repeat constructor); exact rfl; exact rfl; exact rfl; exact rfl; kernel_rfl; intro wx hS; (try simp only [Act.put, List.setIfInBounds_toArray, List.set_cons_zero, List.set_cons_succ]); (try simp only [Act.eval, Array.getD_eq_getD_getElem?, List.getElem?_toArray, List.getElem?_cons_succ, List.getElem?_cons_zero, Option.getD_some, List.set_cons_succ, List.set_cons_zero, Value.cells, List.toList_toArray] at hS)) | ((with_reducible show WBx ..); (with_reducible apply wpA_box hS); exact rfl; exact rfl; intro _ wx hS; (try simp only [Act.put, List.setIfInBounds_toArray, List.set_cons_zero, List.set_cons_succ]); (try simp only [Act.eval, Array.getD_eq_getD_getElem?, List.getElem?_toArray, List.getElem?_cons_succ, List.getElem?_cons_zero, Option.getD_some, List.set_cons_succ, List.set_cons_zero, Value.cells, List.toList_toArray] at hS)))
              go_roundw
              case rel =>
                obtain rfl : j = rs.length := by omega
                exact ⟨n + 1, m - 1, k + rs.length, σ', a2, c2, by omega, by go_num, by omega, rfl, hcc, hka, by omega, HO2, hL.sub (List.sublist_append_right [_, _] _)⟩
              case measure => simp [intOf]; omega
        | false =>
          obtain rfl : kd = 8 := hkd.symm
          clear hkd
          go_wp2_with (first | ((with_reducible show WGd ..); (with_reducible apply wpA_guard); exact rfl; skip) | (go_at_call 11; with_reducible refine (HR.out _ _ hL).mono ?_; rintro _ _ ⟨gh, caph, rfl, hL⟩; have hl0 := row_cell (hL.rest.at_ 0 rfl) 0 (v := .int .i64 s0) rfl) | (go_at_call 13; with_reducible refine (HL.out _ _ hL).mono ?_; rintro _ _ ⟨gg, capg, rfl, hL⟩; have hl1 := row_cell (hL.rest.at_ 0 rfl) 2 (v := .int .i64 0) rfl) | ((with_reducible show WLd ..); (with_reducible apply wpA_load); exact rfl; (first | ((with_reducible apply St.cellI hS); (focus repeat constructor); exact rfl) | assumption); kernel_rfl) | ((with_reducible show WSt ..); (with_reducible apply wpA_store1I hS); exact rfl; (focus repeat constructor); exact rfl; exact rfl; exact rfl; exact rfl; kernel_rfl; intro wx hS; (try simp only [Act.put, List.setIfInBounds_toArray, List.set_cons_zero, List.set_cons_succ]); (try simp only [Act.eval, Array.getD_eq_getD_getElem?, List.getElem?_toArray, List.getElem?_cons_succ, List.getElem?_cons_zero, Option.getD_some, List.set_cons_succ, List.set_cons_zero, Value.cells, List.toList_toArray] at hS)) | ((with_reducible show WBx ..); (with_reducible apply wpA_box hS); exact rfl; exact rfl; intro _ wx hS; (try simp only [Act.put, List.setIfInBounds_toArray, List.set_cons_zero, List.set_cons_succ]); (try simp only [Act.eval, Array.getD_eq_getD_getElem?, List.getElem?_toArray, List.getElem?_cons_succ, List.getElem?_cons_zero, Option.getD_some, List.set_cons_succ, List.set_cons_zero, Value.cells, List.toList_toArray] at hS)))
          clear hl0 hl1
          go_loopw [14, 4] (fun c qv wr2 => ∃ (j : Nat) (a2 : Option Addr) (c2 : Nat), j ≤ rs.length ∧ c = .int .i64 ((j : Int) + 1) ∧ qv = .slice a2 (qs.length - (k + j)) c2 ∧ qs.length - (k + j) ≤ c2 ∧ (k + j < qs.length → ∃ gq, aq = some ⟨gq, 0, none⟩ ∧ a2 = some ⟨gq, k + j, none⟩) ∧ LocksSt w0 wr2 g σ' [.row 38 5 (some ⟨gg, 0, none⟩) (rs.length + 1) capg ([.int .i64 s0, .int .i64 2, .int .i64 0, .int .u64 0, .int .i64 0] ++ rs.flatMap RepS.cells), .row 3 1 (some ⟨gh, 0, none⟩) (r.length + 1) caph (.int .i64 s0 :: r.map (Value.int .i64)), .row 3 1 aq qs.length cq (qs.map (Value.int .i64))]) (fun c _ _ => rs.length + 1 - (intOf c).toNat)
          case atStart => exact ⟨0, a', c', Nat.zero_le _, rfl, rfl, hcc, hka, hL⟩
          case round =>
            clear hL hka
            obtain ⟨j, a2, c2, hj, rfl, rfl, hcc, hka, hL⟩ := hrel
            by_cases hjl : j < rs.length
            · obtain ⟨y, hy⟩ : ∃ y, rs[j]? = some y := ⟨_, List.getElem?_eq_getElem hjl⟩
              have hqk := HSE.out j y hy
              have hkj : k + j < qs.length := (List.getElem?_eq_some_iff.1 hqk).1
              obtain ⟨gq, rfl, rfl⟩ := hka hkj
              obtain ⟨D, hS, hb⟩ := LocksSt.use hL
              replace hS := St.perm hS List.perm_append_comm
              simp only [List.cons_append, List.nil_append] at hS
              have hc1 : ([.int .i64 s0, .int .i64 2, .int .i64 0, .int .u64 0, .int .i64 0] ++ rs.flatMap RepS.cells)[(j + 1) * 5]? = some (.int .i64 y.session) := by
                have h1 := flat_get RepS.cells_length hy 0 _ rfl
                rw [List.getElem?_append_right (by simp; omega)]
                rw [show (j + 1) * 5 - ([Value.int .i64 s0, .int .i64 2, .int .i64 0, .int .u64 0, .int .i64 0] : List Value).length = j * 5 + 0 by simp; omega]
                exact h1
              have hc2 : (qs.map (Value.int .i64))[k + j]? = some (.int .i64 y.session) := by rw [List.getElem?_map, hqk]; rfl
              have HC1 := Lib.hid hc1
              have HC2 := Lib.hid hc2
              have h0 : (0 : Int) ≤ (j : Int) + 1 := by omega
              have hne : (((qs.length - (k + j) : Nat) : Int) == 0) = false := by simp; omega
              clear hL hc1 hc2 hy hqk hka
              go_wp2_with (first | ((with_reducible show WGd ..); (with_reducible apply wpA_guard); exact rfl; skip) | ((with_reducible show WLd ..); (with_reducible apply wpA_load); exact rfl; (first | ((with_reducible apply St.cellI hS); (focus repeat constructor); exact rfl) | assumption); kernel_rfl) | ((with_reducible show WSt ..); (with_reducible apply wpA_store1I hS); exact rfl; (focus repeat constructor); exact rfl; exact rfl; exact rfl; exact rfl; kernel_rfl; intro wx hS; (try simp only [Act.put, List.setIfInBounds_toArray, List.set_cons_zero, List.set_cons_succ]); (try simp only [Act.eval, Array.getD_eq_getD_getElem?, List.getElem?_toArray, List.getElem?_cons_succ, List.getElem?_cons_zero, Option.getD_some, List.set_cons_succ, List.set_cons_zero, Value.cells, List.toList_toArray] at hS)) | ((with_reducible show WBx ..); (with_reducible apply wpA_box hS); exact rfl; exact rfl; intro _ wx hS; (try simp only [Act.put, List.setIfInBounds_toArray, List.set_cons_zero, List.set_cons_succ]); (try simp only [Act.eval, Array.getD_eq_getD_getElem?, List.getElem?_toArray, List.getElem?_cons_succ, List.getElem?_cons_zero, Option.getD_some, List.set_cons_succ, List.set_cons_zero, Value.cells, List.toList_toArray] at hS)))
              refine wp_region_St hS (by kernel_rfl) (by kernel_rfl) (Bx.out ?_)
              refine bQ_val ?_ rfl ?_ ?_
              rotate_left
              · intro w hS; go_simp; (first | done | (with_reducible rfl) | (refine (if_pos ?_).trans ?_; (focus omega); with_reducible rfl) | skip)
              (simp only [Act.put, List.setIfInBounds_toArray, List.set_cons_zero, List.set_cons_succ])
              refine bQ_val ?_ rfl ?_ ?_
              rotate_left
              · intro w hS; go_simp; (first | done | (with_reducible rfl) | (refine (if_pos ?_).trans ?_; (focus omega); with_reducible rfl) | skip)
              (simp only [Act.put, List.setIfInBounds_toArray, List.set_cons_zero, List.set_cons_succ])
              refine bQ_val (.bool false) rfl (fun w hS => by go_simp; (first | done | simp [hne])) ?_
              (simp only [Act.put, List.setIfInBounds_toArray, List.set_cons_zero, List.set_cons_succ])
              refine bQ_val ?_ rfl ?_ ?_
              rotate_left
              · intro w hS; go_simp; (first | done | (with_reducible rfl) | (refine (if_pos ?_).trans ?_; (focus omega); with_reducible rfl) | skip)
              (simp only [Act.put, List.setIfInBounds_toArray, List.set_cons_zero, List.set_cons_succ])
              refine bQ_guard (by exact rfl) ?_
              refine bQ_val ?_ rfl ?_ ?_
              rotate_left
              · intro w hS; go_simp; (first | done | (with_reducible rfl) | (refine (if_pos ?_).trans ?_; (focus omega); with_reducible rfl) | skip)
              (simp only [Act.put, List.setIfInBounds_toArray, List.set_cons_zero, List.set_cons_succ])
              refine bQ_guard (by exact rfl) ?_
              refine bQ_val ?_ rfl ?_ ?_
              rotate_left
              · intro w hS; go_simp; (first | done | (with_reducible rfl) | (refine (if_pos ?_).trans ?_; (focus omega); with_reducible rfl) | skip)
              (simp only [Act.put, List.setIfInBounds_toArray, List.set_cons_zero, List.set_cons_succ])
              refine bQ_guard (by exact rfl) ?_
              refine bQ_val ?_ rfl ?_ ?_
              rotate_left
              · intro w hS; go_simp; (first | done | (with_reducible rfl) | (refine (if_pos ?_).trans ?_; (focus omega); with_reducible rfl) | skip)
              (simp only [Act.put, List.setIfInBounds_toArray, List.set_cons_zero, List.set_cons_succ])
              refine bQ_guard (by exact rfl) ?_
              refine bQ_val ?_ rfl ?_ ?_
              rotate_left
              · intro w hS; go_simp; (first | done | (with_reducible rfl) | (refine (if_pos ?_).trans ?_; (focus omega); with_reducible rfl) | skip)
              (simp only [Act.put, List.setIfInBounds_toArray, List.set_cons_zero, List.set_cons_succ])
              refine bQ_guard (by exact rfl) ?_
              refine bQ_load rfl (fun w hS => by exact row_cell (hS.at_ 0 rfl) ((j + 1) * 5) HC1.out) (by kernel_rfl) ?_
              (simp only [Act.put, List.setIfInBounds_toArray, List.set_cons_zero, List.set_cons_succ])
              refine bQ_guard (by exact rfl) ?_
              refine bQ_val ?_ rfl ?_ ?_
              rotate_left
              · intro w hS; go_simp; (first | done | (with_reducible rfl) | (refine (if_pos ?_).trans ?_; (focus omega); with_reducible rfl) | skip)
              (simp only [Act.put, List.setIfInBounds_toArray, List.set_cons_zero, List.set_cons_succ])
              refine bQ_guard (by exact rfl) ?_
              refine bQ_val ?_ rfl ?_ ?_
              rotate_left
              · intro w hS; go_simp; (first | done | (with_reducible rfl) | (refine (if_pos ?_).trans ?_; (focus omega); with_reducible rfl) | skip)
              (simp only [Act.put, List.setIfInBounds_toArray, List.set_cons_zero, List.set_cons_succ])
              refine bQ_guard (by exact rfl) ?_
              refine bQ_load rfl (fun w hS => by exact row_cell (hS.at_ 2 rfl) (k + j) HC2.out) (by kernel_rfl) ?_
              (simp only [Act.put, List.setIfInBounds_toArray, List.set_cons_zero, List.set_cons_succ])
              refine bQ_guard (by exact rfl) ?_
              refine bQ_val (.bool false) rfl (fun w hS => by go_simp; (first | done | simp)) ?_
              (simp only [Act.put, List.setIfInBounds_toArray, List.set_cons_zero, List.set_cons_succ])
              refine bQ_val ?_ rfl ?_ ?_
              rotate_left
              · intro w hS; go_simp; (first | done | (with_reducible rfl) | (refine (if_pos ?_).trans ?_; (focus omega); with_reducible rfl) | skip)
              (simp only [Act.put, List.setIfInBounds_toArray, List.set_cons_zero, List.set_cons_succ])
              refine ⟨wpQuiet_nil ?_⟩
              intro wx hS
              go_wp2_with (first | ((with_reducible show WGd ..); (with_reducible apply wpA_guard); exact rfl; skip) | ((with_reducible show WLd ..); (with_reducible apply wpA_load); exact rfl; (first | ((with_reducible apply St.cellI hS); (focus repeat constructor); exact rfl) | assumption); kernel_rfl) | ((with_reducible show WSt ..); (with_reducible apply wpA_store1I hS); exact rfl; (focus repeat constructor); exact rfl; exact rfl; exact rfl; exact rfl; kernel_rfl; intro wx hS; (try simp only [Act.put, List.setIfInBounds_toArray, List.set_cons_zero, List.set_cons_succ]); (try simp only [Act.eval, Array.getD_eq_getD_getElem?, List.getElem?_toArray, List.getElem?_cons_succ, List.getElem?_cons_zero, Option.getD_some, List.set_cons_succ, List.set_cons_zero, Value.cells, List.toList_toArray] at hS)) | ((with_reducible show WBx ..); (with_reducible apply wpA_box hS); exact rfl; exact rfl; intro _ wx hS; (try simp only [Act.put, List.setIfInBounds_toArray, List.set_cons_zero, List.set_cons_succ]); (try simp only [Act.eval, Array.getD_eq_getD_getElem?, List.getElem?_toArray, List.getElem?_cons_succ, List.getElem?_cons_zero, Option.getD_some, List.set_cons_succ, List.set_cons_zero, Value.cells, List.toList_toArray] at hS)))
              go_roundw
              case rel =>
                refine ⟨j + 1, if c2 = 1 then some ⟨gq, k + j, none⟩ else some ⟨gq, k + j + 1, none⟩, c2 - 1, by omega, by go_num, ?_, by omega, fun h => ⟨gq, rfl, ?_⟩, hb _ _ (St.perm hS (List.perm_append_comm (l₁ := [_, _, _])))⟩
                · rw [show qs.length - (k + j) - 1 = qs.length - (k + (j + 1)) by omega]
                · rw [if_neg (by omega)]; rfl
              case measure => simp [intOf]; omega
            · go_wp2_with (first | ((with_reducible show WGd ..); (with_reducible apply wpA_guard); exact rfl; skip) | ((with_reducible show WLd ..); (with_reducible apply wpA_load); exact rfl; (first | ((with_reducible apply St.cellI hS); (focus repeat constructor); exact rfl) | assumption); kernel_rfl) | ((with_reducible show WSt ..); (with_reducible apply wpA_store1I hS); exact rfl; (focus repeat constructor); exact rfl; exact rfl; exact rfl; exact rfl; kernel_rfl; intro wx hS; (try simp only [Act.put, List.setIfInBounds_toArray, List.set_cons_zero, List.set_cons_succ]); (try simp only [Act.eval, Array.getD_eq_getD_getElem?, List.getElem?_toArray, List.getElem?_cons_succ, List.getElem?_cons_zero, Option.getD_some, List.set_cons_succ, List.set_cons_zero, Value.cells, List.toList_toArray] at hS)) | ((with_reducible show WBx ..); (with_reducible apply wpA_box hS); exact rfl; exact rfl; intro _ wx hS; (try simp only [Act.put, List.setIfInBounds_toArray, List.set_cons_zero, List.set_cons_succ]); (try simp only [Act.eval, Array.getD_eq_getD_getElem?, List.getElem?_toArray, List.getElem?_cons_succ, List.getElem?_cons_zero, Option.getD_some, List.set_cons_succ, List.set_cons_zero, Value.cells, List.toList_toArray] at hS)))
              go_roundw
              case rel =>
                obtain rfl : j = rs.length := by omega
                exact ⟨n + 1, m - 1, k + rs.length, σ', a2, c2, by omega, by go_num, by omega, rfl, hcc, hka, by omega, HO2, hL.sub (List.sublist_append_right [_, _] _)⟩
              case measure => simp [intOf]; omega

theorem bools_of {w : World} {v : Value} (h : RdV Try.prog w 22 v) : ∃ (rs : List Bool) (ao : Option Addr) (cap : Nat), v = .slice ao rs.length cap ∧ rs.length ≤ 1000000000000000 ∧
    (rs = [] ∨ ∃ b off, ao = some ⟨b, off, none⟩ ∧ ∀ j x, rs[j]? = some x → w.cell? ⟨b, off + j, none⟩ = some (.bool x)) := by
  have e : reachBytes = 140737488351232 := rfl
  have eb : Try.prog.bytesOf 4 = 1 := by kernel_rfl
  obtain ⟨ao, len, cap, C, rfl, h1, h2, h3, h4, h5⟩ := h.slice Try.underlying22 (k := 1) (by kernel_rfl) (by decide)
  rw [eb] at h3
  have hb : ∀ i : Nat, ∃ x : Bool, i < cap → C i = [.bool x] := fun i => by
    by_cases hi : i < cap
    · obtain ⟨_, hr, _⟩ := h5 i hi
      obtain ⟨x, hx⟩ := hr.bool Try.underlying4
      exact ⟨x, fun _ => hx⟩
    · exact ⟨false, fun h => absurd h hi⟩
  obtain ⟨f, hf⟩ := Classical.axiomOfChoice hb
  refine ⟨(List.range len).map f, ao, cap, by simp, by simp; omega, ?_⟩
  by_cases h0 : len = 0
  · left; rw [h0]; rfl
  · right
    obtain ⟨_, _, b, off, rfl, _⟩ := h5 0 (by omega)
    refine ⟨b, off, rfl, fun j x hx => ?_⟩
    rw [List.getElem?_map] at hx
    obtain ⟨j', hj, rfl⟩ := Option.map_eq_some_iff.1 hx
    have hjl : j < len := by have := (List.getElem?_eq_some_iff.1 hj).1; simpa using this
    obtain rfl : j' = j := by rw [List.getElem?_range hjl] at hj; exact (Option.some.inj hj).symm
    obtain ⟨_, _, b', off', e1, hc⟩ := h5 j' (by omega)
    cases e1
    have := hc 0 (by decide)
    rw [hf j' (by omega)] at this
    simpa using this

theorem ord_c (w : World) (v0 : Value) (h0 : RdV Try.prog w 22 v0) : Calls Try.prog 3 #[v0] w fun e w' => e = .returned (.bool true) ∧ St w w' [] := by
  obtain ⟨rs, ao, cap, rfl, hl, hr⟩ := bools_of h0
  exact ord_v w rs ao cap hl hr
end Go.Proofs.Ytelbpnlpmaihhaa
