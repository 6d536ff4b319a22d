/-
  CountersOnce, walked.
-/
import Derived.Test.YtiidlegieenfeaaCntAwake
namespace Go.Proofs.Ytiidlegieenfeaa
set_option linter.unusedVariables false
set_option linter.unusedSimpArgs false
open Go.RowKit

/-- Who waits: a + 1 .. b. -/
def wq (a b : Nat) : List QW := (List.range' (a + 1) (b - a)).map fun (k : Nat) => (⟨(k : Int), 1⟩ : QW)
/-- a runs it, a + 1 .. b wait. -/
def ordO (a b : Nat) : CntS := ce [] [⟨(a : Int), wq a b⟩]
theorem wq_len (a b : Nat) : (wq a b).length = b - a := by simp [wq]
theorem wq_get {a b j : Nat} (h : j < b - a) : (wq a b)[j]? = some ⟨((a + 1 + j : Nat) : Int), 1⟩ := by
  unfold wq
  rw [List.getElem?_map, List.getElem?_range' h]
  simp
theorem wq_next {a b : Nat} (h : a ≤ b) : wq a b ++ [⟨((b : Nat) : Int) + 1, 1⟩] = wq a (b + 1) := by
  unfold wq
  rw [show b + 1 - a = (b - a) + 1 by omega, List.range'_concat, List.map_append]
  simp; omega
theorem wq_cons {a b : Nat} (h : a < b) : wq a b = ⟨((a + 1 : Nat) : Int), 1⟩ :: wq (a + 1) b := by
  unfold wq
  obtain ⟨k, hk⟩ : ∃ k, b - a = k + 1 := ⟨b - a - 1, by omega⟩
  rw [hk, List.range'_succ, show b - (a + 1) = k by omega]
  rfl
theorem wq_drop (a b : Nat) : dropF (wq a b) (a : Int) = wq a b := by
  unfold dropF
  rw [List.filter_eq_self]
  intro x hx
  unfold wq at hx
  obtain ⟨k, hk, rfl⟩ := List.mem_map.1 hx
  have := List.mem_range'_1.1 hk
  simp
  omega
theorem ordO_ok {a b : Nat} (h : b ≤ 1000) : (ordO a b).ok 100000000 := ok1 (by simp) (by simp) (by simp) (by intro x hx; simp at hx; subst hx; show (wq a b).length ≤ _; rw [wq_len]; omega)

theorem o_first : onceD (ce [] []) ⟨11, 1, 1, la, 0⟩ = ([⟨1, 1, 0, 0, 1⟩], false, ordO 1 1) := by rfl
theorem o_next {i : Nat} (h : 1 ≤ i) : onceD (ordO 1 i) ⟨11, (i : Int) + 1, 1, la, 0⟩ = ([], true, ordO 1 (i + 1)) := by
  unfold onceD
  rw [if_neg (by simp)]
  rw [show aget (ordO 1 i).o la = some ⟨((1 : Nat) : Int), wq 1 i⟩ from rfl]
  simp only
  rw [if_neg (by omega), if_neg (by decide), wq_next h]
  rfl
theorem o_gone {a n : Nat} (h0 : 1 ≤ a) (h : a < n) : goneD (ordO a n) (a : Int) = ([⟨((a + 1 : Nat) : Int), 1, 0, 0, 1⟩], ordO (a + 1) n) := by
  unfold goneD goneF
  rw [show (ordO a n).o.map (·.1) = [la] from rfl, sortB_one]
  simp only [List.foldl_cons, List.foldl_nil, goneO]
  rw [show aget (ordO a n).o la = some ⟨(a : Int), wq a n⟩ from rfl]
  simp only
  rw [if_neg (by omega), wq_drop, wq_cons h]
  rfl
theorem o_done {a n : Nat} (h0 : 1 ≤ a) : doneD (ordO a n) ⟨12, (a : Int), 1, la, 0⟩ = (⟨(a : Int), 1, 0, 0, 0⟩ :: allR (wq a n), ce [] [⟨0, []⟩]) := by
  unfold doneD
  rw [if_neg (by simp)]
  rw [show aget (ordO a n).o la = some ⟨(a : Int), wq a n⟩ from rfl]
  simp only
  rw [if_neg (by rintro (h | h); omega; exact h rfl)]
  rfl
theorem o_again : onceD (ce [] [⟨0, []⟩]) ⟨11, 99, 1, la, 0⟩ = ([⟨99, 1, 0, 0, 0⟩], false, ce [] [⟨0, []⟩]) := by rfl

section
variable {w0 w : World} {R : List Hp} {g : Nat}
theorem oc1 (h : CntSt w0 w g (ce [] []) R) : Calls Try.prog 12 #[.pointer (some ⟨g, 0, none⟩), .agg #[.int .i64 11, .int .i64 1, .int .i64 1, .string ⟨#[97]⟩, .int .i64 0]] w fun e w' => ∃ q cap, e = .returned (.tuple #[.slice (some ⟨q, 0, none⟩) 1 cap, .bool false]) ∧ CntSt w0 w' g (ordO 1 1) (.row 32 5 (some ⟨q, 0, none⟩) 1 cap ([.int .i64 1, .int .i64 1, .int .i64 0, .int .u64 0, .int .i64 1]) :: R) :=
  (once_c w0 w R g _ ⟨11, 1, 1, la, 0⟩ h (ok1 (by simp) (by simp) (by simp) (by simp))).mono fun e w' h => by
    rw [o_first] at h
    obtain ⟨ao, cap, h1, h2⟩ := h
    obtain ⟨q, rfl⟩ := h2.some
    exact ⟨q, cap, h1, h2⟩
theorem oc2 {i : Nat} (hi : 1 ≤ i) (hb : i ≤ 1000) (h : CntSt w0 w g (ordO 1 i) R) : Calls Try.prog 12 #[.pointer (some ⟨g, 0, none⟩), .agg #[.int .i64 11, .int .i64 ((i : Int) + 1), .int .i64 1, .string ⟨#[97]⟩, .int .i64 0]] w fun e w' => ∃ ao cap, e = .returned (.tuple #[.slice ao 0 cap, .bool true]) ∧ CntSt w0 w' g (ordO 1 (i + 1)) R :=
  (once_c w0 w R g _ ⟨11, (i : Int) + 1, 1, la, 0⟩ h (ordO_ok hb)).mono fun e w' h => by
    rw [o_next hi] at h
    obtain ⟨ao, cap, h1, h2⟩ := h
    exact ⟨ao, cap, h1, h2.sub (List.sublist_cons_self _ _)⟩
theorem oc3 {a n : Nat} {A : Int} (hA : A = a) (h0 : 1 ≤ a) (h1 : a < n) (hb : n ≤ 1000) (h : CntSt w0 w g (ordO a n) R) : Calls Try.prog 14 #[.pointer (some ⟨g, 0, none⟩), .int .i64 A] w fun e w' => ∃ q cap, e = .returned (.slice (some ⟨q, 0, none⟩) 1 cap) ∧ CntSt w0 w' g (ordO (a + 1) n) (.row 32 5 (some ⟨q, 0, none⟩) 1 cap ([.int .i64 (A + 1), .int .i64 1, .int .i64 0, .int .u64 0, .int .i64 1]) :: R) := by
  subst hA
  exact (gone_c w0 w R g _ a h (ordO_ok hb)).mono fun e w' h => by
    rw [o_gone h0 h1] at h
    obtain ⟨ao, cap, h1, h2⟩ := h
    obtain ⟨q, rfl⟩ := h2.some
    exact ⟨q, cap, h1, h2⟩
theorem oc4 {a n : Nat} {A : Int} (hA : A = a) (h0 : 1 ≤ a) (h : CntSt w0 w g (ordO a n) R) : Calls Try.prog 15 #[.pointer (some ⟨g, 0, none⟩), .string ⟨#[97]⟩] w fun e w' => e = .returned (.tuple #[.int .i64 A, .bool false]) ∧ CntSt w0 w' g (ordO a n) R := by
  subst hA
  have h1 := state_c h la
  rw [show stateD (aget (ordO a n).o la) = ((a : Int), (a : Int) == 0) from rfl, show ((a : Int) == 0) = false by simp; omega] at h1
  exact h1
theorem oc5 {a n L : Nat} {A : Int} (hA : A = a) (hLn : L = n - a + 1) (h0 : 1 ≤ a) (hb : n ≤ 1000) (h : CntSt w0 w g (ordO a n) R) : Calls Try.prog 16 #[.pointer (some ⟨g, 0, none⟩), .agg #[.int .i64 12, .int .i64 A, .int .i64 1, .string ⟨#[97]⟩, .int .i64 0]] w fun e w' => ∃ q cap, e = .returned (.slice (some ⟨q, 0, none⟩) L cap) ∧ CntSt w0 w' g (ce [] [⟨0, []⟩]) (.row 32 5 (some ⟨q, 0, none⟩) L cap ((⟨A, 1, 0, 0, 0⟩ :: allR (wq a n) : List RepS).flatMap RepS.cells) :: R) := by
  subst hA hLn
  exact (done_c w0 w R g _ ⟨12, (a : Int), 1, la, 0⟩ h (ordO_ok hb)).mono fun e w' h => by
    rw [o_done h0] at h
    obtain ⟨ao, cap, h1, h2⟩ := h
    have e1 : (⟨(a : Int), 1, 0, 0, 0⟩ :: allR (wq a n) : List RepS).length = n - a + 1 := by rw [List.length_cons, allR_len, wq_len]
    simp only [e1] at h1 h2
    obtain ⟨q, rfl⟩ := h2.some
    exact ⟨q, cap, h1, h2⟩
theorem oc6 (h : CntSt w0 w g (ce [] [⟨0, []⟩]) R) : Calls Try.prog 12 #[.pointer (some ⟨g, 0, none⟩), .agg #[.int .i64 11, .int .i64 99, .int .i64 1, .string ⟨#[97]⟩, .int .i64 0]] w fun e w' => ∃ q cap, e = .returned (.tuple #[.slice (some ⟨q, 0, none⟩) 1 cap, .bool false]) ∧ CntSt w0 w' g (ce [] [⟨0, []⟩]) (.row 32 5 (some ⟨q, 0, none⟩) 1 cap ([.int .i64 99, .int .i64 1, .int .i64 0, .int .u64 0, .int .i64 0]) :: R) :=
  (once_c w0 w R g _ ⟨11, 99, 1, la, 0⟩ h (ok1 (by simp) (by simp) (by simp) (by simp))).mono fun e w' h => by
    rw [o_again] at h
    obtain ⟨ao, cap, h1, h2⟩ := h
    obtain ⟨q, rfl⟩ := h2.some
    exact ⟨q, cap, h1, h2⟩
end

set_option maxRecDepth 100000 in
set_option maxHeartbeats 4000000 in
theorem once_v (w0 : World) (n0 d0 : Int) : Calls Try.prog 4 #[.int .i64 n0, .int .i64 d0] w0 fun e w' => e = .returned (.bool true) ∧ St w0 w' [] := by
  have hS := St.init w0
  obtain ⟨n, hn⟩ : ∃ n : Nat, max 1 (min n0 20) = (n : Int) := ⟨(max 1 (min n0 20)).toNat, by omega⟩
  obtain ⟨d, hd⟩ : ∃ d : Nat, max 0 (min d0 ((n : Int) - 1)) = (d : Int) := ⟨(max 0 (min d0 ((n : Int) - 1))).toNat, by omega⟩
  have hn1 : 1 ≤ n ∧ n ≤ 20 := by omega
  have hd1 : d + 1 ≤ n := by omega
  go_enter Try.func4, Try.ntmps4
  go_upto_block 0 with (first | ((with_reducible show WGd ..); (with_reducible apply wpA_guard); exact rfl; skip) | (go_at_call 8; go_loud (skip); go_loud (with_reducible refine (cnew_c w0 _ [] hS).mono ?_); go_loud (rintro _ _ ⟨g, rfl, hL⟩); go_loud (clear hS)) | ((with_reducible show WLd ..); (with_reducible apply wpA_load); exact rfl; (first | ((with_reducible apply St.cellI hS); (focus repeat constructor); exact rfl) | assumption); kernel_rfl) | ((with_reducible show WSt ..); (with_reducible apply wpA_store1I hS); exact rfl; (focus repeat constructor); exact rfl; exact rfl; exact rfl; exact rfl; kernel_rfl; intro wx hS; (try simp only [Act.put, List.setIfInBounds_toArray, List.set_cons_zero, List.set_cons_succ]); (try simp only [Act.eval, Array.getD_eq_getD_getElem?, List.getElem?_toArray, List.getElem?_cons_succ, List.getElem?_cons_zero, Option.getD_some, List.set_cons_succ, List.set_cons_zero, Value.cells, List.toList_toArray] at hS)) | ((with_reducible show WBx ..); (with_reducible apply wpA_box hS); exact rfl; exact rfl; intro _ wx hS; (try simp only [Act.put, List.setIfInBounds_toArray, List.set_cons_zero, List.set_cons_succ]); (try simp only [Act.eval, Array.getD_eq_getD_getElem?, List.getElem?_toArray, List.getElem?_cons_succ, List.getElem?_cons_zero, Option.getD_some, List.set_cons_succ, List.set_cons_zero, Value.cells, List.toList_toArray] at hS)))
  clear hn hd
  have hL : CntSt w0 _ g (if (0 : Nat) = 0 then ce [] [] else ordO 1 0) [] := hL
  go_cut [] (fun wr => CntSt w0 wr g (ordO 1 n) [])
  case first =>
    go_wp2_with (first | ((with_reducible show WGd ..); (with_reducible apply wpA_guard); exact rfl; skip) | ((with_reducible show WLd ..); (with_reducible apply wpA_load); exact rfl; (first | ((with_reducible apply St.cellI hS); (focus repeat constructor); exact rfl) | assumption); kernel_rfl) | ((with_reducible show WSt ..); (with_reducible apply wpA_store1I hS); exact rfl; (focus repeat constructor); exact rfl; exact rfl; exact rfl; exact rfl; kernel_rfl; intro wx hS; (try simp only [Act.put, List.setIfInBounds_toArray, List.set_cons_zero, List.set_cons_succ]); (try simp only [Act.eval, Array.getD_eq_getD_getElem?, List.getElem?_toArray, List.getElem?_cons_succ, List.getElem?_cons_zero, Option.getD_some, List.set_cons_succ, List.set_cons_zero, Value.cells, List.toList_toArray] at hS)) | ((with_reducible show WBx ..); (with_reducible apply wpA_box hS); exact rfl; exact rfl; intro _ wx hS; (try simp only [Act.put, List.setIfInBounds_toArray, List.set_cons_zero, List.set_cons_succ]); (try simp only [Act.eval, Array.getD_eq_getD_getElem?, List.getElem?_toArray, List.getElem?_cons_succ, List.getElem?_cons_zero, Option.getD_some, List.set_cons_succ, List.set_cons_zero, Value.cells, List.toList_toArray] at hS)))
    go_loopw [6] (fun c wr => ∃ (i : Nat), i ≤ n ∧ c = .int .i64 ((i : Int) + 1) ∧ CntSt w0 wr g (if i = 0 then ce [] [] else ordO 1 i) []) (fun c _ => n + 1 - (intOf c).toNat)
    case atStart => exact ⟨0, Nat.zero_le _, rfl, hL⟩
    case round =>
      clear hL
      obtain ⟨i, hi, rfl, hL⟩ := hrel
      by_cases h1 : i < n
      · have hn20 : n ≤ 20 := hn1.2
        by_cases h0 : i = 0
        · subst h0
          rw [if_pos rfl] at hL
          go_wp2_with (first | ((with_reducible show WGd ..); (with_reducible apply wpA_guard); exact rfl; skip) | (go_at_call 13; (obtain ⟨D, hS, hb⟩ := CntSt.use hL); with_reducible refine (cmd_c _ _ _ w0 _ _ hS).mono ?_; rintro _ _ ⟨rfl, hS⟩; have hL := hb _ _ hS; clear hb hS) | (go_at_call 12; go_loud (skip); go_loud (with_reducible refine (oc1 hL).mono ?_); go_loud (rintro _ _ ⟨q, cap, rfl, hL⟩); go_loud (have hc := row_cell (hL.rest.at_ 0 rfl) 4 (v := .int .i64 1) rfl)) | ((with_reducible show WLd ..); (with_reducible apply wpA_load); exact rfl; (first | ((with_reducible apply St.cellI hS); (focus repeat constructor); exact rfl) | assumption); kernel_rfl) | ((with_reducible show WSt ..); (with_reducible apply wpA_store1I hS); exact rfl; (focus repeat constructor); exact rfl; exact rfl; exact rfl; exact rfl; kernel_rfl; intro wx hS; (try simp only [Act.put, List.setIfInBounds_toArray, List.set_cons_zero, List.set_cons_succ]); (try simp only [Act.eval, Array.getD_eq_getD_getElem?, List.getElem?_toArray, List.getElem?_cons_succ, List.getElem?_cons_zero, Option.getD_some, List.set_cons_succ, List.set_cons_zero, Value.cells, List.toList_toArray] at hS)) | ((with_reducible show WBx ..); (with_reducible apply wpA_box hS); exact rfl; exact rfl; intro _ wx hS; (try simp only [Act.put, List.setIfInBounds_toArray, List.set_cons_zero, List.set_cons_succ]); (try simp only [Act.eval, Array.getD_eq_getD_getElem?, List.getElem?_toArray, List.getElem?_cons_succ, List.getElem?_cons_zero, Option.getD_some, List.set_cons_succ, List.set_cons_zero, Value.cells, List.toList_toArray] at hS)))
          first | go_roundw | (trace_state; sorry)
          case rel => exact ⟨1, by omega, by go_num, hL.sub (List.sublist_cons_self _ _)⟩
          case measure => simp [intOf]; omega
        · rw [if_neg h0] at hL
          have hd2 : decide (1 < (i : Int) + 1) = true := by simp; omega
          have hd3 : ((i : Int) + 1 == 1) = false := by simp; omega
          go_wp2_with (first | ((with_reducible show WGd ..); (with_reducible apply wpA_guard); exact rfl; skip) | (go_at_call 13; (obtain ⟨D, hS, hb⟩ := CntSt.use hL); with_reducible refine (cmd_c _ _ _ w0 _ _ hS).mono ?_; rintro _ _ ⟨rfl, hS⟩; have hL := hb _ _ hS; clear hb hS) | (go_at_call 12; go_loud (skip); go_loud (with_reducible refine (oc2 (by omega) (by omega) hL).mono ?_); go_loud (rintro _ _ ⟨aq, cap, rfl, hL⟩); go_loud (skip)) | ((with_reducible show WLd ..); (with_reducible apply wpA_load); exact rfl; (first | ((with_reducible apply St.cellI hS); (focus repeat constructor); exact rfl) | assumption); kernel_rfl) | ((with_reducible show WSt ..); (with_reducible apply wpA_store1I hS); exact rfl; (focus repeat constructor); exact rfl; exact rfl; exact rfl; exact rfl; kernel_rfl; intro wx hS; (try simp only [Act.put, List.setIfInBounds_toArray, List.set_cons_zero, List.set_cons_succ]); (try simp only [Act.eval, Array.getD_eq_getD_getElem?, List.getElem?_toArray, List.getElem?_cons_succ, List.getElem?_cons_zero, Option.getD_some, List.set_cons_succ, List.set_cons_zero, Value.cells, List.toList_toArray] at hS)) | ((with_reducible show WBx ..); (with_reducible apply wpA_box hS); exact rfl; exact rfl; intro _ wx hS; (try simp only [Act.put, List.setIfInBounds_toArray, List.set_cons_zero, List.set_cons_succ]); (try simp only [Act.eval, Array.getD_eq_getD_getElem?, List.getElem?_toArray, List.getElem?_cons_succ, List.getElem?_cons_zero, Option.getD_some, List.set_cons_succ, List.set_cons_zero, Value.cells, List.toList_toArray] at hS)))
          first | go_roundw | (trace_state; sorry)
          case rel => exact ⟨i + 1, by omega, by go_num, by rw [if_neg (by omega)]; exact hL⟩
          case measure => simp [intOf]; omega
      · obtain rfl : i = n := by omega
        rw [if_neg (by omega)] at hL
        go_wp2_with (first | ((with_reducible show WGd ..); (with_reducible apply wpA_guard); exact rfl; skip) | ((with_reducible show WLd ..); (with_reducible apply wpA_load); exact rfl; (first | ((with_reducible apply St.cellI hS); (focus repeat constructor); exact rfl) | assumption); kernel_rfl) | ((with_reducible show WSt ..); (with_reducible apply wpA_store1I hS); exact rfl; (focus repeat constructor); exact rfl; exact rfl; exact rfl; exact rfl; kernel_rfl; intro wx hS; (try simp only [Act.put, List.setIfInBounds_toArray, List.set_cons_zero, List.set_cons_succ]); (try simp only [Act.eval, Array.getD_eq_getD_getElem?, List.getElem?_toArray, List.getElem?_cons_succ, List.getElem?_cons_zero, Option.getD_some, List.set_cons_succ, List.set_cons_zero, Value.cells, List.toList_toArray] at hS)) | ((with_reducible show WBx ..); (with_reducible apply wpA_box hS); exact rfl; exact rfl; intro _ wx hS; (try simp only [Act.put, List.setIfInBounds_toArray, List.set_cons_zero, List.set_cons_succ]); (try simp only [Act.eval, Array.getD_eq_getD_getElem?, List.getElem?_toArray, List.getElem?_cons_succ, List.getElem?_cons_zero, Option.getD_some, List.set_cons_succ, List.set_cons_zero, Value.cells, List.toList_toArray] at hS)))
        first | go_meet | (trace_state; sorry)
        exact hL
  case rest =>
    clear hL
    have hL := hcut
    clear hcut
    go_upto_block 2 with (first | ((with_reducible show WGd ..); (with_reducible apply wpA_guard); exact rfl; skip) | ((with_reducible show WLd ..); (with_reducible apply wpA_load); exact rfl; (first | ((with_reducible apply St.cellI hS); (focus repeat constructor); exact rfl) | assumption); kernel_rfl) | ((with_reducible show WSt ..); (with_reducible apply wpA_store1I hS); exact rfl; (focus repeat constructor); exact rfl; exact rfl; exact rfl; exact rfl; kernel_rfl; intro wx hS; (try simp only [Act.put, List.setIfInBounds_toArray, List.set_cons_zero, List.set_cons_succ]); (try simp only [Act.eval, Array.getD_eq_getD_getElem?, List.getElem?_toArray, List.getElem?_cons_succ, List.getElem?_cons_zero, Option.getD_some, List.set_cons_succ, List.set_cons_zero, Value.cells, List.toList_toArray] at hS)) | ((with_reducible show WBx ..); (with_reducible apply wpA_box hS); exact rfl; exact rfl; intro _ wx hS; (try simp only [Act.put, List.setIfInBounds_toArray, List.set_cons_zero, List.set_cons_succ]); (try simp only [Act.eval, Array.getD_eq_getD_getElem?, List.getElem?_toArray, List.getElem?_cons_succ, List.getElem?_cons_zero, Option.getD_some, List.set_cons_succ, List.set_cons_zero, Value.cells, List.toList_toArray] at hS)))
    go_cut [] (fun wr => CntSt w0 wr g (ordO (d + 1) n) [])
    case first =>
      go_wp2_with (first | ((with_reducible show WGd ..); (with_reducible apply wpA_guard); exact rfl; skip) | ((with_reducible show WLd ..); (with_reducible apply wpA_load); exact rfl; (first | ((with_reducible apply St.cellI hS); (focus repeat constructor); exact rfl) | assumption); kernel_rfl) | ((with_reducible show WSt ..); (with_reducible apply wpA_store1I hS); exact rfl; (focus repeat constructor); exact rfl; exact rfl; exact rfl; exact rfl; kernel_rfl; intro wx hS; (try simp only [Act.put, List.setIfInBounds_toArray, List.set_cons_zero, List.set_cons_succ]); (try simp only [Act.eval, Array.getD_eq_getD_getElem?, List.getElem?_toArray, List.getElem?_cons_succ, List.getElem?_cons_zero, Option.getD_some, List.set_cons_succ, List.set_cons_zero, Value.cells, List.toList_toArray] at hS)) | ((with_reducible show WBx ..); (with_reducible apply wpA_box hS); exact rfl; exact rfl; intro _ wx hS; (try simp only [Act.put, List.setIfInBounds_toArray, List.set_cons_zero, List.set_cons_succ]); (try simp only [Act.eval, Array.getD_eq_getD_getElem?, List.getElem?_toArray, List.getElem?_cons_succ, List.getElem?_cons_zero, Option.getD_some, List.set_cons_succ, List.set_cons_zero, Value.cells, List.toList_toArray] at hS)))
      go_loopw [9] (fun c wr => ∃ (i : Nat), i ≤ d ∧ c = .int .i64 ((i : Int) + 1) ∧ CntSt w0 wr g (ordO (i + 1) n) []) (fun c _ => d + 1 - (intOf c).toNat)
      case atStart => exact ⟨0, Nat.zero_le _, rfl, hL⟩
      case round =>
        clear hL
        obtain ⟨i, hi, rfl, hL⟩ := hrel
        have hn20 : n ≤ 20 := hn1.2
        by_cases h1 : i < d
        · have e1 : ((i + 1 + 1 : Nat) : Int) = ((i + 1 : Nat) : Int) + 1 := by omega
          go_wp2_with (first | ((with_reducible show WGd ..); (with_reducible apply wpA_guard); exact rfl; skip) | (go_at_call 14; go_loud (skip); go_loud (with_reducible refine (oc3 (a := i + 1) (A := (i : Int) + 1) (by omega) (by omega) (by omega) (by omega) hL).mono ?_); go_loud (rintro _ _ ⟨q, cap, rfl, hL⟩); go_loud (skip)) | (go_at_call 15; go_loud (skip); go_loud (with_reducible refine (oc4 (a := i + 1 + 1) (A := (i : Int) + 1 + 1) (by omega) (by omega) hL).mono ?_); go_loud (rintro _ _ ⟨rfl, hL⟩); go_loud (have hc0 := row_cell (hL.rest.at_ 0 rfl) 0 (v := .int .i64 ((i : Int) + 1 + 1)) rfl; have hc4 := row_cell (hL.rest.at_ 0 rfl) 4 (v := .int .i64 1) rfl)) | ((with_reducible show WLd ..); (with_reducible apply wpA_load); exact rfl; (first | ((with_reducible apply St.cellI hS); (focus repeat constructor); exact rfl) | assumption); kernel_rfl) | ((with_reducible show WSt ..); (with_reducible apply wpA_store1I hS); exact rfl; (focus repeat constructor); exact rfl; exact rfl; exact rfl; exact rfl; kernel_rfl; intro wx hS; (try simp only [Act.put, List.setIfInBounds_toArray, List.set_cons_zero, List.set_cons_succ]); (try simp only [Act.eval, Array.getD_eq_getD_getElem?, List.getElem?_toArray, List.getElem?_cons_succ, List.getElem?_cons_zero, Option.getD_some, List.set_cons_succ, List.set_cons_zero, Value.cells, List.toList_toArray] at hS)) | ((with_reducible show WBx ..); (with_reducible apply wpA_box hS); exact rfl; exact rfl; intro _ wx hS; (try simp only [Act.put, List.setIfInBounds_toArray, List.set_cons_zero, List.set_cons_succ]); (try simp only [Act.eval, Array.getD_eq_getD_getElem?, List.getElem?_toArray, List.getElem?_cons_succ, List.getElem?_cons_zero, Option.getD_some, List.set_cons_succ, List.set_cons_zero, Value.cells, List.toList_toArray] at hS)))
          first | go_roundw | (trace_state; sorry)
          case rel => exact ⟨i + 1, by omega, by go_num, hL.sub (List.sublist_cons_self _ _)⟩
          case measure => simp [intOf]; omega
        · obtain rfl : i = d := by omega
          go_wp2_with (first | ((with_reducible show WGd ..); (with_reducible apply wpA_guard); exact rfl; skip) | ((with_reducible show WLd ..); (with_reducible apply wpA_load); exact rfl; (first | ((with_reducible apply St.cellI hS); (focus repeat constructor); exact rfl) | assumption); kernel_rfl) | ((with_reducible show WSt ..); (with_reducible apply wpA_store1I hS); exact rfl; (focus repeat constructor); exact rfl; exact rfl; exact rfl; exact rfl; kernel_rfl; intro wx hS; (try simp only [Act.put, List.setIfInBounds_toArray, List.set_cons_zero, List.set_cons_succ]); (try simp only [Act.eval, Array.getD_eq_getD_getElem?, List.getElem?_toArray, List.getElem?_cons_succ, List.getElem?_cons_zero, Option.getD_some, List.set_cons_succ, List.set_cons_zero, Value.cells, List.toList_toArray] at hS)) | ((with_reducible show WBx ..); (with_reducible apply wpA_box hS); exact rfl; exact rfl; intro _ wx hS; (try simp only [Act.put, List.setIfInBounds_toArray, List.set_cons_zero, List.set_cons_succ]); (try simp only [Act.eval, Array.getD_eq_getD_getElem?, List.getElem?_toArray, List.getElem?_cons_succ, List.getElem?_cons_zero, Option.getD_some, List.set_cons_succ, List.set_cons_zero, Value.cells, List.toList_toArray] at hS)))
          first | go_meet | (trace_state; sorry)
          exact hL
    case rest =>
      clear hL
      have hL := hcut
      clear hcut
      obtain ⟨L, hLe⟩ : ∃ L : Nat, L = n - d := ⟨_, rfl⟩
      have hLn : ((L : Int) != (n : Int) - (d : Int)) = false := by simp; omega
      go_wp2_with (first | ((with_reducible show WGd ..); (with_reducible apply wpA_guard); exact rfl; skip) | (go_at_call 13; (obtain ⟨D, hS, hb⟩ := CntSt.use hL); with_reducible refine (cmd_c _ _ _ w0 _ _ hS).mono ?_; rintro _ _ ⟨rfl, hS⟩; have hL := hb _ _ hS; clear hb hS) | (go_at_call 16; go_loud (skip); go_loud (with_reducible refine (oc5 (a := d + 1) (n := n) (L := L) (A := (d : Int) + 1) (by omega) (by omega) (by omega) (by omega) hL).mono ?_); go_loud (rintro _ _ ⟨q, cap, rfl, hL⟩); go_loud (have hc2 := row_cell (hL.rest.at_ 0 rfl) 2 (v := .int .i64 0) rfl)) | ((with_reducible show WLd ..); (with_reducible apply wpA_load); exact rfl; (first | ((with_reducible apply St.cellI hS); (focus repeat constructor); exact rfl) | assumption); kernel_rfl) | ((with_reducible show WSt ..); (with_reducible apply wpA_store1I hS); exact rfl; (focus repeat constructor); exact rfl; exact rfl; exact rfl; exact rfl; kernel_rfl; intro wx hS; (try simp only [Act.put, List.setIfInBounds_toArray, List.set_cons_zero, List.set_cons_succ]); (try simp only [Act.eval, Array.getD_eq_getD_getElem?, List.getElem?_toArray, List.getElem?_cons_succ, List.getElem?_cons_zero, Option.getD_some, List.set_cons_succ, List.set_cons_zero, Value.cells, List.toList_toArray] at hS)) | ((with_reducible show WBx ..); (with_reducible apply wpA_box hS); exact rfl; exact rfl; intro _ wx hS; (try simp only [Act.put, List.setIfInBounds_toArray, List.set_cons_zero, List.set_cons_succ]); (try simp only [Act.eval, Array.getD_eq_getD_getElem?, List.getElem?_toArray, List.getElem?_cons_succ, List.getElem?_cons_zero, Option.getD_some, List.set_cons_succ, List.set_cons_zero, Value.cells, List.toList_toArray] at hS)))
      go_loopw [14] (fun c wr => ∃ (k : Nat), k + 1 ≤ L ∧ c = .int .i64 ((k : Int) + 1) ∧ CntSt w0 wr g (ce [] [⟨0, []⟩]) [.row 32 5 (some ⟨q, 0, none⟩) L cap ((⟨(d : Int) + 1, 1, 0, 0, 0⟩ :: allR (wq (d + 1) n) : List RepS).flatMap RepS.cells)]) (fun c _ => L + 1 - (intOf c).toNat)
      case atStart => exact ⟨0, by omega, rfl, hL⟩
      case round =>
        clear hL
        obtain ⟨k, hk, rfl, hL⟩ := hrel
        by_cases h1 : k + 1 < L
        · have hx : (⟨(d : Int) + 1, 1, 0, 0, 0⟩ :: allR (wq (d + 1) n) : List RepS)[k + 1]? = some ⟨(d : Int) + 1 + ((k : Int) + 1), 1, 0, 0, 0⟩ := by
            rw [List.getElem?_cons_succ]
            unfold allR
            rw [List.getElem?_map, wq_get (by omega)]
            simp only [Option.map_some]
            rw [show (((d + 1 + 1 + k : Nat)) : Int) = (d : Int) + 1 + ((k : Int) + 1) by omega]
          have hf0 := row_cell (hL.rest.at_ 0 rfl) ((k + 1) * 5 + 0) (flat_get RepS.cells_length hx 0 _ rfl)
          have hf4 := row_cell (hL.rest.at_ 0 rfl) ((k + 1) * 5 + 4) (flat_get RepS.cells_length hx 4 _ rfl)
          clear hx
          go_wp2_with (first | ((with_reducible show WGd ..); (with_reducible apply wpA_guard); exact rfl; skip) | ((with_reducible show WLd ..); (with_reducible apply wpA_load); exact rfl; (first | ((with_reducible apply St.cellI hS); (focus repeat constructor); exact rfl) | assumption); kernel_rfl) | ((with_reducible show WSt ..); (with_reducible apply wpA_store1I hS); exact rfl; (focus repeat constructor); exact rfl; exact rfl; exact rfl; exact rfl; kernel_rfl; intro wx hS; (try simp only [Act.put, List.setIfInBounds_toArray, List.set_cons_zero, List.set_cons_succ]); (try simp only [Act.eval, Array.getD_eq_getD_getElem?, List.getElem?_toArray, List.getElem?_cons_succ, List.getElem?_cons_zero, Option.getD_some, List.set_cons_succ, List.set_cons_zero, Value.cells, List.toList_toArray] at hS)) | ((with_reducible show WBx ..); (with_reducible apply wpA_box hS); exact rfl; exact rfl; intro _ wx hS; (try simp only [Act.put, List.setIfInBounds_toArray, List.set_cons_zero, List.set_cons_succ]); (try simp only [Act.eval, Array.getD_eq_getD_getElem?, List.getElem?_toArray, List.getElem?_cons_succ, List.getElem?_cons_zero, Option.getD_some, List.set_cons_succ, List.set_cons_zero, Value.cells, List.toList_toArray] at hS)))
          first | go_roundw | (trace_state; sorry)
          case rel => exact ⟨k + 1, by omega, by go_num, hL⟩
          case measure => simp [intOf]; omega
        · have hk1 : k + 1 = L := by omega
          go_wp2_with (first | ((with_reducible show WGd ..); (with_reducible apply wpA_guard); exact rfl; skip) | (go_at_call 13; (obtain ⟨D, hS, hb⟩ := CntSt.use hL); with_reducible refine (cmd_c _ _ _ w0 _ _ hS).mono ?_; rintro _ _ ⟨rfl, hS⟩; have hL := hb _ _ hS; clear hb hS) | (go_at_call 12; go_loud (skip); go_loud (with_reducible refine (oc6 hL).mono ?_); go_loud (rintro _ _ ⟨q6, cap6, rfl, hL⟩); go_loud (have hd4 := row_cell (hL.rest.at_ 0 rfl) 4 (v := .int .i64 0) rfl; have hd2 := row_cell (hL.rest.at_ 0 rfl) 2 (v := .int .i64 0) rfl)) | (go_at_call 11; go_loud (skip); go_loud (with_reducible refine (awake_c w0 _ [] (hL.rest.sub (List.nil_sublist _))).mono ?_); go_loud (rintro _ _ ⟨rfl, hS⟩); go_loud (skip)) | ((with_reducible show WLd ..); (with_reducible apply wpA_load); exact rfl; (first | ((with_reducible apply St.cellI hS); (focus repeat constructor); exact rfl) | assumption); kernel_rfl) | ((with_reducible show WSt ..); (with_reducible apply wpA_store1I hS); exact rfl; (focus repeat constructor); exact rfl; exact rfl; exact rfl; exact rfl; kernel_rfl; intro wx hS; (try simp only [Act.put, List.setIfInBounds_toArray, List.set_cons_zero, List.set_cons_succ]); (try simp only [Act.eval, Array.getD_eq_getD_getElem?, List.getElem?_toArray, List.getElem?_cons_succ, List.getElem?_cons_zero, Option.getD_some, List.set_cons_succ, List.set_cons_zero, Value.cells, List.toList_toArray] at hS)) | ((with_reducible show WBx ..); (with_reducible apply wpA_box hS); exact rfl; exact rfl; intro _ wx hS; (try simp only [Act.put, List.setIfInBounds_toArray, List.set_cons_zero, List.set_cons_succ]); (try simp only [Act.eval, Array.getD_eq_getD_getElem?, List.getElem?_toArray, List.getElem?_cons_succ, List.getElem?_cons_zero, Option.getD_some, List.set_cons_succ, List.set_cons_zero, Value.cells, List.toList_toArray] at hS)))
          first | go_ret | (trace_state; sorry)
          exact ⟨rfl, hS⟩

theorem oncelaw_c (w : World) (v0 v1 : Value) (h0 : RdV Try.prog w 3 v0) (h1 : RdV Try.prog w 3 v1) : Calls Try.prog 4 #[v0, v1] w fun e w' => e = .returned (.bool true) ∧ St w w' [] := by
  obtain ⟨n, rfl, _⟩ := h0.int Try.underlying3
  obtain ⟨d, rfl, _⟩ := h1.int Try.underlying3
  exact once_v w n d
end Go.Proofs.Ytiidlegieenfeaa
