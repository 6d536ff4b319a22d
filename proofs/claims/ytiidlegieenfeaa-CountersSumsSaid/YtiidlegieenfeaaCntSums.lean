/-
  CountersSums, walked.
-/
import Derived.Test.YtiidlegieenfeaaCntAwake
namespace Go.Proofs.Ytiidlegieenfeaa
set_option linter.unusedVariables false
set_option linter.unusedSimpArgs false
open Go.RowKit

def sumS (sum : Int) : CntS := if sum = 0 then ce [] [] else ce [⟨sum, []⟩] []
theorem sumS_ok {sum : Int} (h0 : 0 ≤ sum) (h1 : sum ≤ 1073741824) : (sumS sum).ok 100000000 := by
  unfold sumS
  split
  · exact ok1 (by decide) (by decide) (by simp) (by simp)
  · exact ok1 (by simp) (by simp) (by simp; omega) (by simp)
theorem sumS_get (sum : Int) : cnt (aget (sumS sum).g la) = sum := by
  unfold sumS
  split
  · rename_i h; rw [h]; rfl
  · rfl
theorem sum_add {sum n : Int} (h0 : 0 ≤ sum) (h1 : sum ≤ 1073741824) : addD (sumS sum) ⟨9, 1, 1, la, n⟩ =
    if sum + n > 1073741824 then ([⟨1, 1, 15, 0, 0⟩], sumS sum) else if sum + n < 0 then ([⟨1, 1, 14, 0, 0⟩], sumS sum) else ([⟨1, 1, 0, 0, sum + n⟩], sumS (sum + n)) := by
  have hg := sumS_get sum
  unfold addD
  rw [if_neg (by simp)]
  simp only [hg]
  by_cases c1 : sum + n > 1073741824
  · rw [if_pos (by omega), if_pos c1]; rfl
  rw [if_neg (by omega), if_neg c1]
  by_cases c2 : sum + n < 0
  · rw [if_pos (by omega), if_pos c2]; rfl
  rw [if_neg (by omega), if_neg c2]
  by_cases hs : sum = 0
  · subst hs
    have e : (sumS 0).g = [] := rfl
    rw [show aget (sumS 0).g la = none from rfl]
    simp only [Int.zero_add]
    by_cases hn : n > 0
    · rw [if_pos hn, if_neg (by rw [e]; simp)]
      have : sumS n = ce [⟨n, []⟩] [] := by unfold sumS; rw [if_neg (by omega)]
      rw [this]; rfl
    · rw [if_neg hn]
      obtain rfl : n = 0 := by omega
      rfl
  · have e : sumS sum = ce [⟨sum, []⟩] [] := by unfold sumS; rw [if_neg hs]
    rw [show aget (sumS sum).g la = some ⟨sum, []⟩ by rw [e]; rfl]
    simp only
    by_cases hz : sum + n = 0
    · rw [if_pos hz, hz, e]; rfl
    · rw [if_neg hz]
      have : sumS (sum + n) = ce [⟨sum + n, []⟩] [] := by unfold sumS; rw [if_neg hz]
      rw [this, e]; rfl

section
variable {w0 w : World} {R : List Hp} {g : Nat}
theorem sum_add_c {sum n E N s' : Int} (h0 : 0 ≤ sum) (h1 : sum ≤ 1073741824) (hn : -1073741824 ≤ n ∧ n ≤ 1073741824) (hE : addD (sumS sum) ⟨9, 1, 1, la, n⟩ = ([⟨1, 1, E, 0, N⟩], sumS s')) (h : CntSt w0 w g (sumS sum) R) :
    Calls Try.prog 9 #[.pointer (some ⟨g, 0, none⟩), .agg #[.int .i64 9, .int .i64 1, .int .i64 1, .string ⟨#[97]⟩, .int .i64 n]] w fun e w' => ∃ q cap, e = .returned (.slice (some ⟨q, 0, none⟩) 1 cap) ∧ CntSt w0 w' g (sumS s') (.row 32 5 (some ⟨q, 0, none⟩) 1 cap [.int .i64 1, .int .i64 1, .int .i64 E, .int .u64 0, .int .i64 N] :: R) :=
  (add_c w0 w R g _ ⟨9, 1, 1, la, n⟩ h (sumS_ok h0 h1) ⟨by show -9223372036854775808 ≤ n; omega, by show n ≤ 9223372036854775807; omega⟩).mono fun e w' h => by
    rw [hE] at h
    obtain ⟨ao, cap, h1, h2⟩ := h
    obtain ⟨q, rfl⟩ := h2.some
    exact ⟨q, cap, h1, h2⟩
theorem sum_count {s : Int} (h : CntSt w0 w g (sumS s) R) : Calls Try.prog 10 #[.pointer (some ⟨g, 0, none⟩), .string ⟨#[97]⟩] w fun e w' => e = .returned (.int .i64 s) ∧ CntSt w0 w' g (sumS s) R := by
  have h1 := count_c h la
  rw [sumS_get] at h1
  exact h1
end

set_option maxRecDepth 100000 in
set_option maxHeartbeats 4000000 in
theorem sums_v (w0 : World) (l : List Int) (ao : Option Addr) (cap : Nat) (hl : l.length ≤ 1000000000000000)
    (hr : l = [] ∨ ∃ b off, ao = some ⟨b, off, none⟩ ∧ ∀ j x, l[j]? = some x → w0.cell? ⟨b, off + j, none⟩ = some (.int .i64 x)) :
    Calls Try.prog 3 #[.slice ao l.length cap] w0 fun e w' => e = .returned (.bool true) ∧ St w0 w' [] := by
  have hS := St.init w0
  have HR := Lib.hid hr
  clear hr
  go_enter Try.func3, Try.ntmps3
  go_wp2_with (first | ((with_reducible show WGd ..); (with_reducible apply wpA_guard); exact rfl; skip) | (go_at_call 8; with_reducible refine (cnew_c w0 _ [] hS).mono ?_; rintro _ _ ⟨g, rfl, hL⟩; clear hS) | ((with_reducible show WLd ..); (with_reducible apply wpA_load); exact rfl; (first | ((with_reducible apply St.cellI hS); (focus repeat constructor); exact rfl) | assumption); kernel_rfl) | ((with_reducible show WSt ..); (with_reducible apply wpA_store1I hS); exact rfl; (focus repeat constructor); exact rfl; exact rfl; exact rfl; exact rfl; kernel_rfl; intro wx hS; (try simp only [Act.put, List.setIfInBounds_toArray, List.set_cons_zero, List.set_cons_succ]); (try simp only [Act.eval, Array.getD_eq_getD_getElem?, List.getElem?_toArray, List.getElem?_cons_succ, List.getElem?_cons_zero, Option.getD_some, List.set_cons_succ, List.set_cons_zero, Value.cells, List.toList_toArray] at hS)) | ((with_reducible show WBx ..); (with_reducible apply wpA_box hS); exact rfl; exact rfl; intro _ wx hS; (try simp only [Act.put, List.setIfInBounds_toArray, List.set_cons_zero, List.set_cons_succ]); (try simp only [Act.eval, Array.getD_eq_getD_getElem?, List.getElem?_toArray, List.getElem?_cons_succ, List.getElem?_cons_zero, Option.getD_some, List.set_cons_succ, List.set_cons_zero, Value.cells, List.toList_toArray] at hS)))
  have hL : CntSt w0 _ g (sumS 0) [] := hL
  go_loopw [5, 4] (fun c sv wr => ∃ (i : Nat) (sum : Int), i ≤ min l.length 200 ∧ c = .int .i64 i ∧ sv = .int .i64 sum ∧ 0 ≤ sum ∧ sum ≤ 1073741824 ∧ CntSt w0 wr g (sumS sum) []) (fun c _ _ => min l.length 200 - (intOf c).toNat)
  case atStart => exact ⟨0, 0, Nat.zero_le _, rfl, rfl, by decide, by decide, hL⟩
  case round =>
    clear hL
    obtain ⟨i, sum, hi, rfl, rfl, hs0, hs1, hL⟩ := hrel
    by_cases h1 : i < l.length
    · by_cases h2 : i < 200
      · rcases HR.out with h | ⟨b, off, rfl, hcell⟩
        · rw [h] at h1; simp at h1
        obtain ⟨x, hx⟩ : ∃ x, l[i]? = some x := ⟨_, List.getElem?_eq_getElem h1⟩
        have hld := hL.rest.oldCell (hcell i x hx)
        have HLT := Lib.hid (show i + 1 ≤ min l.length 200 by omega)
        clear hcell hx hi
        go_upto_region 9 with (first | ((with_reducible show WGd ..); (with_reducible apply wpA_guard); exact rfl; skip) | ((with_reducible show WLd ..); (with_reducible apply wpA_load); exact rfl; (first | ((with_reducible apply St.cellI hS); (focus repeat constructor); exact rfl) | assumption); kernel_rfl) | ((with_reducible show WSt ..); (with_reducible apply wpA_store1I hS); exact rfl; (focus repeat constructor); exact rfl; exact rfl; exact rfl; exact rfl; kernel_rfl; intro wx hS; (try simp only [Act.put, List.setIfInBounds_toArray, List.set_cons_zero, List.set_cons_succ]); (try simp only [Act.eval, Array.getD_eq_getD_getElem?, List.getElem?_toArray, List.getElem?_cons_succ, List.getElem?_cons_zero, Option.getD_some, List.set_cons_succ, List.set_cons_zero, Value.cells, List.toList_toArray] at hS)) | ((with_reducible show WBx ..); (with_reducible apply wpA_box hS); exact rfl; exact rfl; intro _ wx hS; (try simp only [Act.put, List.setIfInBounds_toArray, List.set_cons_zero, List.set_cons_succ]); (try simp only [Act.eval, Array.getD_eq_getD_getElem?, List.getElem?_toArray, List.getElem?_cons_succ, List.getElem?_cons_zero, Option.getD_some, List.set_cons_succ, List.set_cons_zero, Value.cells, List.toList_toArray] at hS)))
        obtain ⟨n, hn⟩ : ∃ n, max (-1073741824) (min x 1073741824) = n := ⟨_, rfl⟩
        have hn1 : -1073741824 ≤ n ∧ n ≤ 1073741824 := by omega
        rw [hn]
        have hE := sum_add (n := n) hs0 hs1
        clear hn hld
        by_cases c1 : sum + n > 1073741824
        · rw [if_pos c1] at hE
          have hA := fun (w : World) (R : List Hp) (h : CntSt w0 w g (sumS sum) R) => sum_add_c hs0 hs1 hn1 hE h
          have HA := Lib.hid hA
          clear hA hE
          go_wp2_with (first | ((with_reducible show WGd ..); (with_reducible apply wpA_guard); exact rfl; skip) | (go_at_call 9; with_reducible refine (HA.out _ _ hL).mono ?_; rintro _ _ ⟨q, cap, rfl, hL⟩; have hc2 := row_cell (hL.rest.at_ 0 rfl) 2 (v := .int .i64 15) rfl) | (go_at_call 10; with_reducible refine (sum_count hL).mono ?_; rintro _ _ ⟨rfl, hL⟩; have hc4 := row_cell (hL.rest.at_ 0 rfl) 4 (v := .int .i64 0) rfl) | ((with_reducible show WLd ..); (with_reducible apply wpA_load); exact rfl; (first | ((with_reducible apply St.cellI hS); (focus repeat constructor); exact rfl) | assumption); kernel_rfl) | ((with_reducible show WSt ..); (with_reducible apply wpA_store1I hS); exact rfl; (focus repeat constructor); exact rfl; exact rfl; exact rfl; exact rfl; kernel_rfl; intro wx hS; (try simp only [Act.put, List.setIfInBounds_toArray, List.set_cons_zero, List.set_cons_succ]); (try simp only [Act.eval, Array.getD_eq_getD_getElem?, List.getElem?_toArray, List.getElem?_cons_succ, List.getElem?_cons_zero, Option.getD_some, List.set_cons_succ, List.set_cons_zero, Value.cells, List.toList_toArray] at hS)) | ((with_reducible show WBx ..); (with_reducible apply wpA_box hS); exact rfl; exact rfl; intro _ wx hS; (try simp only [Act.put, List.setIfInBounds_toArray, List.set_cons_zero, List.set_cons_succ]); (try simp only [Act.eval, Array.getD_eq_getD_getElem?, List.getElem?_toArray, List.getElem?_cons_succ, List.getElem?_cons_zero, Option.getD_some, List.set_cons_succ, List.set_cons_zero, Value.cells, List.toList_toArray] at hS)))
          first | go_roundw | (trace_state; sorry)
          case rel => exact ⟨i + 1, sum, HLT.out, by go_num, rfl, by omega, by omega, hL.sub (List.sublist_cons_self _ _)⟩
          case measure => have := HLT.out; simp [intOf]; omega
        rw [if_neg c1] at hE
        by_cases c2 : sum + n < 0
        · rw [if_pos c2] at hE
          have hA := fun (w : World) (R : List Hp) (h : CntSt w0 w g (sumS sum) R) => sum_add_c hs0 hs1 hn1 hE h
          have HA := Lib.hid hA
          clear hA hE
          go_wp2_with (first | ((with_reducible show WGd ..); (with_reducible apply wpA_guard); exact rfl; skip) | (go_at_call 9; with_reducible refine (HA.out _ _ hL).mono ?_; rintro _ _ ⟨q, cap, rfl, hL⟩; have hc2 := row_cell (hL.rest.at_ 0 rfl) 2 (v := .int .i64 14) rfl) | (go_at_call 10; with_reducible refine (sum_count hL).mono ?_; rintro _ _ ⟨rfl, hL⟩; have hc4 := row_cell (hL.rest.at_ 0 rfl) 4 (v := .int .i64 0) rfl) | ((with_reducible show WLd ..); (with_reducible apply wpA_load); exact rfl; (first | ((with_reducible apply St.cellI hS); (focus repeat constructor); exact rfl) | assumption); kernel_rfl) | ((with_reducible show WSt ..); (with_reducible apply wpA_store1I hS); exact rfl; (focus repeat constructor); exact rfl; exact rfl; exact rfl; exact rfl; kernel_rfl; intro wx hS; (try simp only [Act.put, List.setIfInBounds_toArray, List.set_cons_zero, List.set_cons_succ]); (try simp only [Act.eval, Array.getD_eq_getD_getElem?, List.getElem?_toArray, List.getElem?_cons_succ, List.getElem?_cons_zero, Option.getD_some, List.set_cons_succ, List.set_cons_zero, Value.cells, List.toList_toArray] at hS)) | ((with_reducible show WBx ..); (with_reducible apply wpA_box hS); exact rfl; exact rfl; intro _ wx hS; (try simp only [Act.put, List.setIfInBounds_toArray, List.set_cons_zero, List.set_cons_succ]); (try simp only [Act.eval, Array.getD_eq_getD_getElem?, List.getElem?_toArray, List.getElem?_cons_succ, List.getElem?_cons_zero, Option.getD_some, List.set_cons_succ, List.set_cons_zero, Value.cells, List.toList_toArray] at hS)))
          first | go_roundw | (trace_state; sorry)
          case rel => exact ⟨i + 1, sum, HLT.out, by go_num, rfl, by omega, by omega, hL.sub (List.sublist_cons_self _ _)⟩
          case measure => have := HLT.out; simp [intOf]; omega
        · rw [if_neg c2] at hE
          have hA := fun (w : World) (R : List Hp) (h : CntSt w0 w g (sumS sum) R) => sum_add_c hs0 hs1 hn1 hE h
          have HA := Lib.hid hA
          clear hA hE
          go_wp2_with (first | ((with_reducible show WGd ..); (with_reducible apply wpA_guard); exact rfl; skip) | (go_at_call 9; with_reducible refine (HA.out _ _ hL).mono ?_; rintro _ _ ⟨q, cap, rfl, hL⟩; have hc2 := row_cell (hL.rest.at_ 0 rfl) 2 (v := .int .i64 0) rfl) | (go_at_call 10; with_reducible refine (sum_count hL).mono ?_; rintro _ _ ⟨rfl, hL⟩; have hc4 := row_cell (hL.rest.at_ 0 rfl) 4 (v := .int .i64 (sum + n)) rfl) | ((with_reducible show WLd ..); (with_reducible apply wpA_load); exact rfl; (first | ((with_reducible apply St.cellI hS); (focus repeat constructor); exact rfl) | assumption); kernel_rfl) | ((with_reducible show WSt ..); (with_reducible apply wpA_store1I hS); exact rfl; (focus repeat constructor); exact rfl; exact rfl; exact rfl; exact rfl; kernel_rfl; intro wx hS; (try simp only [Act.put, List.setIfInBounds_toArray, List.set_cons_zero, List.set_cons_succ]); (try simp only [Act.eval, Array.getD_eq_getD_getElem?, List.getElem?_toArray, List.getElem?_cons_succ, List.getElem?_cons_zero, Option.getD_some, List.set_cons_succ, List.set_cons_zero, Value.cells, List.toList_toArray] at hS)) | ((with_reducible show WBx ..); (with_reducible apply wpA_box hS); exact rfl; exact rfl; intro _ wx hS; (try simp only [Act.put, List.setIfInBounds_toArray, List.set_cons_zero, List.set_cons_succ]); (try simp only [Act.eval, Array.getD_eq_getD_getElem?, List.getElem?_toArray, List.getElem?_cons_succ, List.getElem?_cons_zero, Option.getD_some, List.set_cons_succ, List.set_cons_zero, Value.cells, List.toList_toArray] at hS)))
          first | go_roundw | (trace_state; sorry)
          case rel => exact ⟨i + 1, sum + n, HLT.out, by go_num, rfl, by omega, by omega, hL.sub (List.sublist_cons_self _ _)⟩
          case measure => have := HLT.out; simp [intOf]; omega
      · go_wp2_with (first | ((with_reducible show WGd ..); (with_reducible apply wpA_guard); exact rfl; skip) | (go_at_call 11; with_reducible refine (awake_c w0 _ [] hL.rest).mono ?_; rintro _ _ ⟨rfl, hS⟩) | ((with_reducible show WLd ..); (with_reducible apply wpA_load); exact rfl; (first | ((with_reducible apply St.cellI hS); (focus repeat constructor); exact rfl) | assumption); kernel_rfl) | ((with_reducible show WSt ..); (with_reducible apply wpA_store1I hS); exact rfl; (focus repeat constructor); exact rfl; exact rfl; exact rfl; exact rfl; kernel_rfl; intro wx hS; (try simp only [Act.put, List.setIfInBounds_toArray, List.set_cons_zero, List.set_cons_succ]); (try simp only [Act.eval, Array.getD_eq_getD_getElem?, List.getElem?_toArray, List.getElem?_cons_succ, List.getElem?_cons_zero, Option.getD_some, List.set_cons_succ, List.set_cons_zero, Value.cells, List.toList_toArray] at hS)) | ((with_reducible show WBx ..); (with_reducible apply wpA_box hS); exact rfl; exact rfl; intro _ wx hS; (try simp only [Act.put, List.setIfInBounds_toArray, List.set_cons_zero, List.set_cons_succ]); (try simp only [Act.eval, Array.getD_eq_getD_getElem?, List.getElem?_toArray, List.getElem?_cons_succ, List.getElem?_cons_zero, Option.getD_some, List.set_cons_succ, List.set_cons_zero, Value.cells, List.toList_toArray] at hS)))
        first | go_ret | (trace_state; sorry)
        exact ⟨rfl, hS⟩
    · go_wp2_with (first | ((with_reducible show WGd ..); (with_reducible apply wpA_guard); exact rfl; skip) | (go_at_call 11; with_reducible refine (awake_c w0 _ [] hL.rest).mono ?_; rintro _ _ ⟨rfl, hS⟩) | ((with_reducible show WLd ..); (with_reducible apply wpA_load); exact rfl; (first | ((with_reducible apply St.cellI hS); (focus repeat constructor); exact rfl) | assumption); kernel_rfl) | ((with_reducible show WSt ..); (with_reducible apply wpA_store1I hS); exact rfl; (focus repeat constructor); exact rfl; exact rfl; exact rfl; exact rfl; kernel_rfl; intro wx hS; (try simp only [Act.put, List.setIfInBounds_toArray, List.set_cons_zero, List.set_cons_succ]); (try simp only [Act.eval, Array.getD_eq_getD_getElem?, List.getElem?_toArray, List.getElem?_cons_succ, List.getElem?_cons_zero, Option.getD_some, List.set_cons_succ, List.set_cons_zero, Value.cells, List.toList_toArray] at hS)) | ((with_reducible show WBx ..); (with_reducible apply wpA_box hS); exact rfl; exact rfl; intro _ wx hS; (try simp only [Act.put, List.setIfInBounds_toArray, List.set_cons_zero, List.set_cons_succ]); (try simp only [Act.eval, Array.getD_eq_getD_getElem?, List.getElem?_toArray, List.getElem?_cons_succ, List.getElem?_cons_zero, Option.getD_some, List.set_cons_succ, List.set_cons_zero, Value.cells, List.toList_toArray] at hS)))
      first | go_ret | (trace_state; sorry)
      exact ⟨rfl, hS⟩

theorem sums_c (w : World) (v0 : Value) (h0 : RdV Try.prog w 22 v0) : Calls Try.prog 3 #[v0] w fun e w' => e = .returned (.bool true) ∧ St w w' [] := by
  obtain ⟨rs, ⟨ao, co, rfl, ho, bo, hr⟩, _⟩ := IntsIn.of h0 Try.underlying22 Try.underlying3 (by kernel_rfl) (by kernel_rfl)
  have e : reachBytes = 140737488351232 := rfl
  exact sums_v w rs ao co (by omega) hr
end Go.Proofs.Ytiidlegieenfeaa
