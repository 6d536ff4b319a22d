/-
  SessionLives, walked.
-/
import Derived.Test.YtodojllclghoiaaSesAwake
import Derived.Test.YtodojllclghoiaaCells2
namespace Go.Proofs.Ytodojllclghoiaa
set_option linter.unusedVariables false
set_option linter.unusedSimpArgs false
open Go.RowKit

structure LivI (σ : SesS) (top id : Int) (i : Nat) : Prop where
  lat : latS σ 2 = (top, id)
  len : (σ.l.length : Int) = id
  le : σ.l.length ≤ i
  top : 0 ≤ top ∧ top ≤ 1073741824
theorem LivI.up {σ : SesS} {top id : Int} {i : Nat} (h : LivI σ top id i) : LivI σ top id (i + 1) := ⟨h.lat, h.len, Nat.le_succ_of_le h.le, h.top⟩
theorem liv_stale {σ : SesS} {top id x : Int} {i : Nat} (h : LivI σ top id i) (h1 : 1 ≤ x) (h2 : x ≤ 1073741824) (h3 : x < top) : openS σ 2 x = ((0, false, 18), σ) := by
  unfold openS
  rw [if_neg (by omega), h.lat, if_pos h3]
theorem liv_same {σ : SesS} {top id x : Int} {i : Nat} (h : LivI σ top id i) (h1 : 1 ≤ x) (h2 : x ≤ 1073741824) (h3 : x = top) : openS σ 2 x = ((id, false, 0), σ) := by
  unfold openS
  rw [if_neg (by omega), h.lat, if_neg (by simp only; omega), if_pos h3]
theorem liv_new {σ : SesS} {top id x : Int} {i : Nat} (h : LivI σ top id i) (hi : i ≤ 200) (h1 : 1 ≤ x) (h2 : x ≤ 1073741824) (h3 : top < x) : ∃ σ', openS σ 2 x = ((id + 1, true, 0), σ') ∧ LivI σ' x (id + 1) (i + 1) := by
  have ha := allS_len σ
  have hle := h.le
  refine ⟨⟨σ.l ++ [⟨2, x, true, 0, false, rep0⟩], aput σ.c 2 (x, (σ.l.length : Int) + 1)⟩, ?_, ?_, ?_, ?_, by omega⟩
  · unfold openS
    rw [if_neg (by omega), h.lat, if_neg (by simp only; omega), if_neg (by simp only; omega), if_neg (by omega), h.len]
  · show (aget (aput σ.c 2 (x, (σ.l.length : Int) + 1)) 2).getD (0, 0) = _
    rw [aget_put_same, h.len]
    rfl
  · have := h.len
    simp only [List.length_append, List.length_cons, List.length_nil]
    omega
  · simp only [List.length_append, List.length_cons, List.length_nil]
    omega

set_option maxRecDepth 100000 in
set_option maxHeartbeats 4000000 in
theorem lives_v (w0 : World) (l : List Int) (ao : Option Addr) (cap : Nat) (hl : l.length ≤ 1000000000000000)
    (hr : l = [] ∨ ∃ b off, ao = some ⟨b, off, none⟩ ∧ ∀ j x, l[j]? = some x → w0.cell? ⟨b, off + j, none⟩ = some (.int .i64 x)) :
    Calls Try.prog 4 #[.slice ao l.length cap] w0 fun e w' => e = .returned (.bool true) ∧ St w0 w' [] := by
  have hS := St.init w0
  have HR := Lib.hid hr
  clear hr
  go_enter Try.func4, Try.ntmps4
  go_wp2_with (first | ((with_reducible show WGd ..); (with_reducible apply wpA_guard); exact rfl; skip) | (go_at_call 8; (with_reducible refine (k0 hS).mono ?_); rintro _ _ ⟨g, rfl, hL⟩; clear hS) | ((with_reducible show WLd ..); (with_reducible apply wpA_load); exact rfl; (first | ((with_reducible apply St.cellI hS); (focus repeat constructor); exact rfl) | assumption); kernel_rfl) | ((with_reducible show WSt ..); (with_reducible apply wpA_store1I hS); exact rfl; (focus repeat constructor); exact rfl; exact rfl; exact rfl; exact rfl; kernel_rfl; intro wx hS; (try simp only [Act.put, List.setIfInBounds_toArray, List.set_cons_zero, List.set_cons_succ]); (try simp only [Act.eval, Array.getD_eq_getD_getElem?, List.getElem?_toArray, List.getElem?_cons_succ, List.getElem?_cons_zero, Option.getD_some, List.set_cons_succ, List.set_cons_zero, Value.cells, List.toList_toArray] at hS)) | ((with_reducible show WBx ..); (with_reducible apply wpA_box hS); exact rfl; exact rfl; intro _ wx hS; (try simp only [Act.put, List.setIfInBounds_toArray, List.set_cons_zero, List.set_cons_succ]); (try simp only [Act.eval, Array.getD_eq_getD_getElem?, List.getElem?_toArray, List.getElem?_cons_succ, List.getElem?_cons_zero, Option.getD_some, List.set_cons_succ, List.set_cons_zero, Value.cells, List.toList_toArray] at hS)))
  have hI0 : LivI g0 0 0 0 := ⟨rfl, rfl, Nat.le_refl _, by decide⟩
  go_loopw [6, 4, 5] (fun c tv iv wr => ∃ (i : Nat) (σ : SesS) (top id : Int), i ≤ min l.length 100 ∧ c = .int .i64 i ∧ tv = .int .i64 top ∧ iv = .int .i64 id ∧ Hid (LivI σ top id i) ∧ SesSt w0 wr g σ []) (fun c _ _ _ => min l.length 100 - (intOf c).toNat)
  case atStart => exact ⟨0, g0, 0, 0, Nat.zero_le _, rfl, rfl, rfl, Lib.hid hI0, hL⟩
  case round =>
    clear hL hI0
    obtain ⟨i, σ, top, id, hi, rfl, rfl, rfl, HI, hL⟩ := hrel
    by_cases h1 : i < l.length
    · by_cases h2 : i < 100
      · rcases HR.out with h | ⟨b, off, rfl, hcell⟩
        · rw [h] at h1; simp at h1
        obtain ⟨x, hx⟩ : ∃ x, l[i]? = some x := ⟨_, List.getElem?_eq_getElem h1⟩
        have hld := hL.rest.oldCell (hcell i x hx)
        have HLT := Lib.hid (show i + 1 ≤ min l.length 100 by omega)
        have htop := HI.out.top
        have hid1 := HI.out.len
        have hid2 := HI.out.le
        have hid3 : 0 ≤ id ∧ id ≤ 100 := by omega
        have hsl : σ.l.length ≤ 1000000000 := by omega
        clear hcell hx hi hid1 hid2
        by_cases v1 : x < 1
        · go_wp2_with (first | ((with_reducible show WGd ..); (with_reducible apply wpA_guard); exact rfl; skip) | ((with_reducible show WLd ..); (with_reducible apply wpA_load); exact rfl; (first | ((with_reducible apply St.cellI hS); (focus repeat constructor); exact rfl) | assumption); kernel_rfl) | ((with_reducible show WSt ..); (with_reducible apply wpA_store1I hS); exact rfl; (focus repeat constructor); exact rfl; exact rfl; exact rfl; exact rfl; kernel_rfl; intro wx hS; (try simp only [Act.put, List.setIfInBounds_toArray, List.set_cons_zero, List.set_cons_succ]); (try simp only [Act.eval, Array.getD_eq_getD_getElem?, List.getElem?_toArray, List.getElem?_cons_succ, List.getElem?_cons_zero, Option.getD_some, List.set_cons_succ, List.set_cons_zero, Value.cells, List.toList_toArray] at hS)) | ((with_reducible show WBx ..); (with_reducible apply wpA_box hS); exact rfl; exact rfl; intro _ wx hS; (try simp only [Act.put, List.setIfInBounds_toArray, List.set_cons_zero, List.set_cons_succ]); (try simp only [Act.eval, Array.getD_eq_getD_getElem?, List.getElem?_toArray, List.getElem?_cons_succ, List.getElem?_cons_zero, Option.getD_some, List.set_cons_succ, List.set_cons_zero, Value.cells, List.toList_toArray] at hS)))
          go_roundw
          case rel => exact ⟨i + 1, σ, top, id, HLT.out, by go_num, rfl, rfl, Lib.hid HI.out.up, hL⟩
          case measure => have := HLT.out; simp [intOf]; omega
        by_cases v2 : 1073741824 < x
        · go_wp2_with (first | ((with_reducible show WGd ..); (with_reducible apply wpA_guard); exact rfl; skip) | ((with_reducible show WLd ..); (with_reducible apply wpA_load); exact rfl; (first | ((with_reducible apply St.cellI hS); (focus repeat constructor); exact rfl) | assumption); kernel_rfl) | ((with_reducible show WSt ..); (with_reducible apply wpA_store1I hS); exact rfl; (focus repeat constructor); exact rfl; exact rfl; exact rfl; exact rfl; kernel_rfl; intro wx hS; (try simp only [Act.put, List.setIfInBounds_toArray, List.set_cons_zero, List.set_cons_succ]); (try simp only [Act.eval, Array.getD_eq_getD_getElem?, List.getElem?_toArray, List.getElem?_cons_succ, List.getElem?_cons_zero, Option.getD_some, List.set_cons_succ, List.set_cons_zero, Value.cells, List.toList_toArray] at hS)) | ((with_reducible show WBx ..); (with_reducible apply wpA_box hS); exact rfl; exact rfl; intro _ wx hS; (try simp only [Act.put, List.setIfInBounds_toArray, List.set_cons_zero, List.set_cons_succ]); (try simp only [Act.eval, Array.getD_eq_getD_getElem?, List.getElem?_toArray, List.getElem?_cons_succ, List.getElem?_cons_zero, Option.getD_some, List.set_cons_succ, List.set_cons_zero, Value.cells, List.toList_toArray] at hS)))
          go_roundw
          case rel => exact ⟨i + 1, σ, top, id, HLT.out, by go_num, rfl, rfl, Lib.hid HI.out.up, hL⟩
          case measure => have := HLT.out; simp [intOf]; omega
        by_cases c1 : x < top
        · have hO := fun (w : World) (R : List Hp) (h : SesSt w0 w g σ R) => ko h hsl (liv_stale HI.out (by omega) (by omega) c1)
          have HO := Lib.hid hO
          clear hO
          go_wp2_with (first | ((with_reducible show WGd ..); (with_reducible apply wpA_guard); exact rfl; skip) | (go_at_call 9; (with_reducible refine (HO.out _ _ hL).mono ?_); rintro _ _ ⟨rfl, hL⟩; skip) | ((with_reducible show WLd ..); (with_reducible apply wpA_load); exact rfl; (first | ((with_reducible apply St.cellI hS); (focus repeat constructor); exact rfl) | assumption); kernel_rfl) | ((with_reducible show WSt ..); (with_reducible apply wpA_store1I hS); exact rfl; (focus repeat constructor); exact rfl; exact rfl; exact rfl; exact rfl; kernel_rfl; intro wx hS; (try simp only [Act.put, List.setIfInBounds_toArray, List.set_cons_zero, List.set_cons_succ]); (try simp only [Act.eval, Array.getD_eq_getD_getElem?, List.getElem?_toArray, List.getElem?_cons_succ, List.getElem?_cons_zero, Option.getD_some, List.set_cons_succ, List.set_cons_zero, Value.cells, List.toList_toArray] at hS)) | ((with_reducible show WBx ..); (with_reducible apply wpA_box hS); exact rfl; exact rfl; intro _ wx hS; (try simp only [Act.put, List.setIfInBounds_toArray, List.set_cons_zero, List.set_cons_succ]); (try simp only [Act.eval, Array.getD_eq_getD_getElem?, List.getElem?_toArray, List.getElem?_cons_succ, List.getElem?_cons_zero, Option.getD_some, List.set_cons_succ, List.set_cons_zero, Value.cells, List.toList_toArray] at hS)))
          go_roundw
          case rel => exact ⟨i + 1, σ, top, id, HLT.out, by go_num, rfl, rfl, Lib.hid HI.out.up, hL⟩
          case measure => have := HLT.out; simp [intOf]; omega
        by_cases c2 : x = top
        · have hO := fun (w : World) (R : List Hp) (h : SesSt w0 w g σ R) => ko h hsl (liv_same HI.out (by omega) (by omega) c2)
          have HO := Lib.hid hO
          have hb : (x == top) = true := by simpa using c2
          have C2 := Lib.hid c2
          clear hO c2
          go_wp2_with (first | ((with_reducible show WGd ..); (with_reducible apply wpA_guard); exact rfl; skip) | (go_at_call 9; (with_reducible refine (HO.out _ _ hL).mono ?_); rintro _ _ ⟨rfl, hL⟩; skip) | ((with_reducible show WLd ..); (with_reducible apply wpA_load); exact rfl; (first | ((with_reducible apply St.cellI hS); (focus repeat constructor); exact rfl) | assumption); kernel_rfl) | ((with_reducible show WSt ..); (with_reducible apply wpA_store1I hS); exact rfl; (focus repeat constructor); exact rfl; exact rfl; exact rfl; exact rfl; kernel_rfl; intro wx hS; (try simp only [Act.put, List.setIfInBounds_toArray, List.set_cons_zero, List.set_cons_succ]); (try simp only [Act.eval, Array.getD_eq_getD_getElem?, List.getElem?_toArray, List.getElem?_cons_succ, List.getElem?_cons_zero, Option.getD_some, List.set_cons_succ, List.set_cons_zero, Value.cells, List.toList_toArray] at hS)) | ((with_reducible show WBx ..); (with_reducible apply wpA_box hS); exact rfl; exact rfl; intro _ wx hS; (try simp only [Act.put, List.setIfInBounds_toArray, List.set_cons_zero, List.set_cons_succ]); (try simp only [Act.eval, Array.getD_eq_getD_getElem?, List.getElem?_toArray, List.getElem?_cons_succ, List.getElem?_cons_zero, Option.getD_some, List.set_cons_succ, List.set_cons_zero, Value.cells, List.toList_toArray] at hS)))
          go_roundw
          case rel => exact ⟨i + 1, σ, top, id, HLT.out, by go_num, rfl, rfl, Lib.hid HI.out.up, hL⟩
          case measure => have := HLT.out; simp [intOf]; omega
        · have hb : (x == top) = false := by simpa using c2
          obtain ⟨σ', hE, hI'⟩ := liv_new HI.out (by omega) (x := x) (by omega) (by omega) (by omega)
          have hO := fun (w : World) (R : List Hp) (h : SesSt w0 w g σ R) => ko h hsl hE
          have HO := Lib.hid hO
          have HI2 := Lib.hid hI'
          clear hO hE hI'
          go_wp2_with (first | ((with_reducible show WGd ..); (with_reducible apply wpA_guard); exact rfl; skip) | (go_at_call 9; (with_reducible refine (HO.out _ _ hL).mono ?_); rintro _ _ ⟨rfl, hL⟩; skip) | ((with_reducible show WLd ..); (with_reducible apply wpA_load); exact rfl; (first | ((with_reducible apply St.cellI hS); (focus repeat constructor); exact rfl) | assumption); kernel_rfl) | ((with_reducible show WSt ..); (with_reducible apply wpA_store1I hS); exact rfl; (focus repeat constructor); exact rfl; exact rfl; exact rfl; exact rfl; kernel_rfl; intro wx hS; (try simp only [Act.put, List.setIfInBounds_toArray, List.set_cons_zero, List.set_cons_succ]); (try simp only [Act.eval, Array.getD_eq_getD_getElem?, List.getElem?_toArray, List.getElem?_cons_succ, List.getElem?_cons_zero, Option.getD_some, List.set_cons_succ, List.set_cons_zero, Value.cells, List.toList_toArray] at hS)) | ((with_reducible show WBx ..); (with_reducible apply wpA_box hS); exact rfl; exact rfl; intro _ wx hS; (try simp only [Act.put, List.setIfInBounds_toArray, List.set_cons_zero, List.set_cons_succ]); (try simp only [Act.eval, Array.getD_eq_getD_getElem?, List.getElem?_toArray, List.getElem?_cons_succ, List.getElem?_cons_zero, Option.getD_some, List.set_cons_succ, List.set_cons_zero, Value.cells, List.toList_toArray] at hS)))
          go_roundw
          case rel => exact ⟨i + 1, σ', x, id + 1, HLT.out, by go_num, rfl, rfl, HI2, hL⟩
          case measure => have := HLT.out; simp [intOf]; omega
      · go_wp2_with (first | ((with_reducible show WGd ..); (with_reducible apply wpA_guard); exact rfl; skip) | (go_at_call 12; (with_reducible refine (awake_c w0 _ [] hL.rest).mono ?_); rintro _ _ ⟨rfl, hS⟩) | ((with_reducible show WLd ..); (with_reducible apply wpA_load); exact rfl; (first | ((with_reducible apply St.cellI hS); (focus repeat constructor); exact rfl) | assumption); kernel_rfl) | ((with_reducible show WSt ..); (with_reducible apply wpA_store1I hS); exact rfl; (focus repeat constructor); exact rfl; exact rfl; exact rfl; exact rfl; kernel_rfl; intro wx hS; (try simp only [Act.put, List.setIfInBounds_toArray, List.set_cons_zero, List.set_cons_succ]); (try simp only [Act.eval, Array.getD_eq_getD_getElem?, List.getElem?_toArray, List.getElem?_cons_succ, List.getElem?_cons_zero, Option.getD_some, List.set_cons_succ, List.set_cons_zero, Value.cells, List.toList_toArray] at hS)) | ((with_reducible show WBx ..); (with_reducible apply wpA_box hS); exact rfl; exact rfl; intro _ wx hS; (try simp only [Act.put, List.setIfInBounds_toArray, List.set_cons_zero, List.set_cons_succ]); (try simp only [Act.eval, Array.getD_eq_getD_getElem?, List.getElem?_toArray, List.getElem?_cons_succ, List.getElem?_cons_zero, Option.getD_some, List.set_cons_succ, List.set_cons_zero, Value.cells, List.toList_toArray] at hS)))
        go_ret
        exact ⟨rfl, hS⟩
    · go_wp2_with (first | ((with_reducible show WGd ..); (with_reducible apply wpA_guard); exact rfl; skip) | (go_at_call 12; (with_reducible refine (awake_c w0 _ [] hL.rest).mono ?_); rintro _ _ ⟨rfl, hS⟩) | ((with_reducible show WLd ..); (with_reducible apply wpA_load); exact rfl; (first | ((with_reducible apply St.cellI hS); (focus repeat constructor); exact rfl) | assumption); kernel_rfl) | ((with_reducible show WSt ..); (with_reducible apply wpA_store1I hS); exact rfl; (focus repeat constructor); exact rfl; exact rfl; exact rfl; exact rfl; kernel_rfl; intro wx hS; (try simp only [Act.put, List.setIfInBounds_toArray, List.set_cons_zero, List.set_cons_succ]); (try simp only [Act.eval, Array.getD_eq_getD_getElem?, List.getElem?_toArray, List.getElem?_cons_succ, List.getElem?_cons_zero, Option.getD_some, List.set_cons_succ, List.set_cons_zero, Value.cells, List.toList_toArray] at hS)) | ((with_reducible show WBx ..); (with_reducible apply wpA_box hS); exact rfl; exact rfl; intro _ wx hS; (try simp only [Act.put, List.setIfInBounds_toArray, List.set_cons_zero, List.set_cons_succ]); (try simp only [Act.eval, Array.getD_eq_getD_getElem?, List.getElem?_toArray, List.getElem?_cons_succ, List.getElem?_cons_zero, Option.getD_some, List.set_cons_succ, List.set_cons_zero, Value.cells, List.toList_toArray] at hS)))
      go_ret
      exact ⟨rfl, hS⟩

theorem lives_c (w : World) (v0 : Value) (h0 : RdV Try.prog w 22 v0) : Calls Try.prog 4 #[v0] w fun e w' => e = .returned (.bool true) ∧ St w w' [] := by
  obtain ⟨rs, ⟨ao, co, rfl, ho, bo, hr⟩, _⟩ := IntsIn.of h0 Try.underlying22 Try.underlying3 (by kernel_rfl) (by kernel_rfl)
  have e : reachBytes = 140737488351232 := rfl
  exact lives_v w rs ao co (by omega) hr
end Go.Proofs.Ytodojllclghoiaa
