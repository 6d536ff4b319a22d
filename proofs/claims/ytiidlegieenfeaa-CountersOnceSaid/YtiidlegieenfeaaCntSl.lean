/-
  Functions of package slices at the types that the counters use.
-/
import Derived.Test.YtiidlegieenfeaaCntSpec
namespace Go.Proofs.Ytiidlegieenfeaa
set_option linter.unusedVariables false
set_option linter.unusedSimpArgs false
open Go.RowKit
set_option maxRecDepth 100000 in
theorem cloneQ {w0 w : World} {H : List Hp} (hS : St w0 w H) {ad : Addr} {m c : Nat} {news : List Value} (hsrc : ∀ w, St w0 w H → Src Try.prog w 2 (.slice (some ad) m c) m news) (hm : m ≤ 1000000000000) :
    Calls Try.prog 32 #[.slice (some ad) m c] w fun e w' => ∃ ao cap, e = .returned (.slice ao m cap) ∧ St w0 w' (.row 78 2 ao m cap news :: H) := by
  have hap := fun (w : World) (h : St w0 w H) => hsrc w h
  clear hsrc
  have hnil := fun (w : World) (a : Option Addr) (n c n' c' : Nat) => Lib.run_eql_slice_nil (P := Try.prog) w _ _ a n c n' c' Try.underlying67
  go_enter Try.func32, Try.ntmps32
  go_wp2_with (first | ((with_reducible show WGd ..); (with_reducible apply wpA_guard); exact rfl; skip) | ((first | ((with_reducible show WBs ..); (with_reducible apply wpA_build0 2 hS); exact Try.underlying67; kernel_rfl; intro _ wx hS) | ((with_reducible show WAp ..); (with_reducible apply wpA_append hS 0 (z := .agg #[.int .i64 0, .int .i64 0]) (size := 2) (bytes := 16)); exact rfl; exact rfl; exact rfl; exact Try.underlying67; exact .inr Try.underlying67; kernel_rfl; exact rfl; exact (by have := hap _ hS.tail; exact this); exact (by unfold maxLen; omega); exact (by omega); intro ao2 cap2 wx hS)); (try simp only [Act.put, List.setIfInBounds_toArray, List.set_cons_zero, List.set_cons_succ])) | ((with_reducible show WLd ..); (with_reducible apply wpA_load); exact rfl; (first | ((with_reducible apply St.cellI hS); (focus repeat constructor); exact rfl) | assumption); kernel_rfl) | ((with_reducible show WSt ..); (with_reducible apply wpA_store1I hS); exact rfl; (focus repeat constructor); exact rfl; exact rfl; exact rfl; exact rfl; kernel_rfl; intro wx hS; (try simp only [Act.put, List.setIfInBounds_toArray, List.set_cons_zero, List.set_cons_succ]); (try simp only [Act.eval, Array.getD_eq_getD_getElem?, List.getElem?_toArray, List.getElem?_cons_succ, List.getElem?_cons_zero, Option.getD_some, List.set_cons_succ, List.set_cons_zero, Value.cells, List.toList_toArray] at hS)) | ((with_reducible show WBx ..); (with_reducible apply wpA_box hS); exact rfl; exact rfl; intro _ wx hS; (try simp only [Act.put, List.setIfInBounds_toArray, List.set_cons_zero, List.set_cons_succ]); (try simp only [Act.eval, Array.getD_eq_getD_getElem?, List.getElem?_toArray, List.getElem?_cons_succ, List.getElem?_cons_zero, Option.getD_some, List.set_cons_succ, List.set_cons_zero, Value.cells, List.toList_toArray] at hS)))
  first | go_ret | (trace_state; sorry)
  rw [Nat.zero_add] at hS ⊢
  rw [List.nil_append] at hS
  exact ⟨_, _, rfl, hS⟩
theorem cloneQ_nil (w : World) : Calls Try.prog 32 #[.slice none 0 0] w fun e w' => e = .returned (.slice none 0 0) ∧ w = w' := by
  have hnil := fun (w : World) (a : Option Addr) (n c n' c' : Nat) => Lib.run_eql_slice_nil (P := Try.prog) w _ _ a n c n' c' Try.underlying67
  go_enter Try.func32, Try.ntmps32
  go_wp2
  first | go_ret | (trace_state; sorry)
  exact ⟨rfl, rfl⟩


def dropQ_cs (x : QW) : List Value := [.int .i64 x.session, .int .i64 x.seq]
theorem dropQ_len (x : QW) : (dropQ_cs x).length = 2 := rfl
set_option maxRecDepth 100000 in
set_option maxHeartbeats 1000000 in
theorem dropQ_index (w0 w : World) (R : List Hp) (ao : Option Addr) (n cap : Nat) (xs : List Value) (zs : List QW) (p : QW → Bool) (pa : Addr) (hS : St w0 w (.row 78 2 ao n cap xs :: R)) (hxs : xs = zs.flatMap dropQ_cs) (hn : n ≤ 1000000000000)
    (hcl : ∀ (Hs : List Hp) (w : World) (x : QW), St w0 w (Hs ++ R) → Calls Try.prog 63 #[.agg #[.int .i64 x.session, .int .i64 x.seq], .pointer (some pa)] w fun e w' => e = .returned (.bool (p x)) ∧ St w0 w' (Hs ++ R)) :
    Calls Try.prog 76 #[.slice ao n cap, .func (.func 63) #[] #[.pointer (some pa)]] w fun e w' => e = .returned (.int .i64 (idxD p zs)) ∧ St w0 w' (.row 78 2 ao n cap xs :: R) := by
  have hlen : zs.length = n := by have := row_length (hS.at_ 0 rfl); rw [hxs, flat_len dropQ_len] at this; omega
  have HCL := Lib.hid hcl
  have HXS := Lib.hid hxs
  have HL := Lib.hid hlen
  clear hcl hxs hlen
  go_enter Try.func76, Try.ntmps76
  go_wp2_with (first | ((with_reducible show WGd ..); (with_reducible apply wpA_guard); exact rfl; skip) | ((with_reducible show WLd ..); (with_reducible apply wpA_load); exact rfl; (first | ((with_reducible apply St.cellI hS); (focus repeat constructor); exact rfl) | assumption); kernel_rfl) | ((with_reducible show WSt ..); (with_reducible apply wpA_store1I hS); exact rfl; (focus repeat constructor); exact rfl; exact rfl; exact rfl; exact rfl; kernel_rfl; intro wx hS; (try simp only [Act.put, List.setIfInBounds_toArray, List.set_cons_zero, List.set_cons_succ]); (try simp only [Act.eval, Array.getD_eq_getD_getElem?, List.getElem?_toArray, List.getElem?_cons_succ, List.getElem?_cons_zero, Option.getD_some, List.set_cons_succ, List.set_cons_zero, Value.cells, List.toList_toArray] at hS)) | ((with_reducible show WBx ..); (with_reducible apply wpA_box hS); exact rfl; exact rfl; intro _ wx hS; (try simp only [Act.put, List.setIfInBounds_toArray, List.set_cons_zero, List.set_cons_succ]); (try simp only [Act.eval, Array.getD_eq_getD_getElem?, List.getElem?_toArray, List.getElem?_cons_succ, List.getElem?_cons_zero, Option.getD_some, List.set_cons_succ, List.set_cons_zero, Value.cells, List.toList_toArray] at hS)))
  go_loopw [8] (fun c wr => ∃ j : Nat, j ≤ n ∧ c = .int .i64 j ∧ Hid (∀ q y, q < j → zs[q]? = some y → p y = false) ∧ St w0 wr (.row 78 2 ao n cap xs :: R)) (fun c _ => n - (intOf c).toNat)
  case atStart => exact ⟨0, Nat.zero_le _, rfl, Lib.hid (fun q y hq => absurd hq (Nat.not_lt_zero _)), hS⟩
  case round =>
    clear hS
    obtain ⟨j, hj, rfl, HB, hS⟩ := hrel
    by_cases hlt : j < n
    · obtain ⟨x, hx⟩ : ∃ x, zs[j]? = some x := ⟨_, List.getElem?_eq_getElem (by have := HL.out; omega)⟩
      rcases row_head (hS.at_ 0 rfl) with ⟨_, hh, _⟩ | ⟨⟨g1, rfl⟩, _⟩
      · omega
      have hel : wr.rangeAt g1 (j * 2) [.int .i64 x.session, .int .i64 x.seq] := row_range (hS.at_ 0 rfl) (fun i v hv => by rw [HXS.out]; exact flat_get dropQ_len hx i v hv)
      have HEL := Lib.hid hel
      have HX := Lib.hid hx
      clear hel hx
      skip
      by_cases hp : p x = true
      · have HP := Lib.hid hp
        clear hp
        go_wp2_with (first | ((with_reducible show WGd ..); (with_reducible apply wpA_guard); exact rfl; skip) | ((with_reducible show WLd ..); (with_reducible apply wpA_loadN (t := 78)); exact rfl; exact HEL.out; kernel_rfl; kernel_rfl; (try simp only [Act.put, List.setIfInBounds_toArray, List.set_cons_zero, List.set_cons_succ])) | (go_at_call 63; with_reducible refine (HCL.out [_] _ x hS).mono ?_; rintro _ _ ⟨rfl, hS⟩; rw [HP.out]; simp only [List.cons_append, List.nil_append] at hS) | ((with_reducible show WLd ..); (with_reducible apply wpA_load); exact rfl; (first | ((with_reducible apply St.cellI hS); (focus repeat constructor); exact rfl) | assumption); kernel_rfl) | ((with_reducible show WSt ..); (with_reducible apply wpA_store1I hS); exact rfl; (focus repeat constructor); exact rfl; exact rfl; exact rfl; exact rfl; kernel_rfl; intro wx hS; (try simp only [Act.put, List.setIfInBounds_toArray, List.set_cons_zero, List.set_cons_succ]); (try simp only [Act.eval, Array.getD_eq_getD_getElem?, List.getElem?_toArray, List.getElem?_cons_succ, List.getElem?_cons_zero, Option.getD_some, List.set_cons_succ, List.set_cons_zero, Value.cells, List.toList_toArray] at hS)) | ((with_reducible show WBx ..); (with_reducible apply wpA_box hS); exact rfl; exact rfl; intro _ wx hS; (try simp only [Act.put, List.setIfInBounds_toArray, List.set_cons_zero, List.set_cons_succ]); (try simp only [Act.eval, Array.getD_eq_getD_getElem?, List.getElem?_toArray, List.getElem?_cons_succ, List.getElem?_cons_zero, Option.getD_some, List.set_cons_succ, List.set_cons_zero, Value.cells, List.toList_toArray] at hS)))
        first | go_ret | (trace_state; sorry)
        have e := idxD_some HX.out HP.out HB.out
        rw [e]
        exact ⟨rfl, hS⟩
      · have hp' : p x = false := by simpa using hp
        have HP := Lib.hid hp'
        clear hp hp'
        go_wp2_with (first | ((with_reducible show WGd ..); (with_reducible apply wpA_guard); exact rfl; skip) | ((with_reducible show WLd ..); (with_reducible apply wpA_loadN (t := 78)); exact rfl; exact HEL.out; kernel_rfl; kernel_rfl; (try simp only [Act.put, List.setIfInBounds_toArray, List.set_cons_zero, List.set_cons_succ])) | (go_at_call 63; with_reducible refine (HCL.out [_] _ x hS).mono ?_; rintro _ _ ⟨rfl, hS⟩; rw [HP.out]; simp only [List.cons_append, List.nil_append] at hS) | ((with_reducible show WLd ..); (with_reducible apply wpA_load); exact rfl; (first | ((with_reducible apply St.cellI hS); (focus repeat constructor); exact rfl) | assumption); kernel_rfl) | ((with_reducible show WSt ..); (with_reducible apply wpA_store1I hS); exact rfl; (focus repeat constructor); exact rfl; exact rfl; exact rfl; exact rfl; kernel_rfl; intro wx hS; (try simp only [Act.put, List.setIfInBounds_toArray, List.set_cons_zero, List.set_cons_succ]); (try simp only [Act.eval, Array.getD_eq_getD_getElem?, List.getElem?_toArray, List.getElem?_cons_succ, List.getElem?_cons_zero, Option.getD_some, List.set_cons_succ, List.set_cons_zero, Value.cells, List.toList_toArray] at hS)) | ((with_reducible show WBx ..); (with_reducible apply wpA_box hS); exact rfl; exact rfl; intro _ wx hS; (try simp only [Act.put, List.setIfInBounds_toArray, List.set_cons_zero, List.set_cons_succ]); (try simp only [Act.eval, Array.getD_eq_getD_getElem?, List.getElem?_toArray, List.getElem?_cons_succ, List.getElem?_cons_zero, Option.getD_some, List.set_cons_succ, List.set_cons_zero, Value.cells, List.toList_toArray] at hS)))
        first | go_roundw | (trace_state; sorry)
        case rel =>
          refine ⟨j + 1, by omega, by go_num, Lib.hid (fun q y hq hy => ?_), hS⟩
          by_cases hqj : q < j
          · exact HB.out q y hqj hy
          · obtain rfl : q = j := by omega
            have := HX.out
            rw [hy] at this; obtain rfl := Option.some.inj this
            exact HP.out
        case measure => simp [intOf]; omega
    · go_wp2_with (first | ((with_reducible show WGd ..); (with_reducible apply wpA_guard); exact rfl; skip) | ((with_reducible show WLd ..); (with_reducible apply wpA_load); exact rfl; (first | ((with_reducible apply St.cellI hS); (focus repeat constructor); exact rfl) | assumption); kernel_rfl) | ((with_reducible show WSt ..); (with_reducible apply wpA_store1I hS); exact rfl; (focus repeat constructor); exact rfl; exact rfl; exact rfl; exact rfl; kernel_rfl; intro wx hS; (try simp only [Act.put, List.setIfInBounds_toArray, List.set_cons_zero, List.set_cons_succ]); (try simp only [Act.eval, Array.getD_eq_getD_getElem?, List.getElem?_toArray, List.getElem?_cons_succ, List.getElem?_cons_zero, Option.getD_some, List.set_cons_succ, List.set_cons_zero, Value.cells, List.toList_toArray] at hS)) | ((with_reducible show WBx ..); (with_reducible apply wpA_box hS); exact rfl; exact rfl; intro _ wx hS; (try simp only [Act.put, List.setIfInBounds_toArray, List.set_cons_zero, List.set_cons_succ]); (try simp only [Act.eval, Array.getD_eq_getD_getElem?, List.getElem?_toArray, List.getElem?_cons_succ, List.getElem?_cons_zero, Option.getD_some, List.set_cons_succ, List.set_cons_zero, Value.cells, List.toList_toArray] at hS)))
      first | go_ret | (trace_state; sorry)
      have e : idxD p zs = -1 := idxD_none (fun x hx => by
        obtain ⟨q, hq⟩ := List.getElem?_of_mem hx
        exact HB.out q x (by have := (List.getElem?_eq_some_iff.1 hq).1; have := HL.out; omega) hq)
      rw [e]
      exact ⟨rfl, hS⟩

set_option maxRecDepth 100000 in
set_option maxHeartbeats 1000000 in
theorem dropQ_delete (w0 w : World) (R : List Hp) (ao : Option Addr) (n cap : Nat) (xs : List Value) (zs : List QW) (p : QW → Bool) (pa : Addr) (hS : St w0 w (.row 78 2 ao n cap xs :: R)) (hxs : xs = zs.flatMap dropQ_cs) (hn : n ≤ 1000000000000)
    (hcl : ∀ (Hs : List Hp) (w : World) (x : QW), St w0 w (Hs ++ R) → Calls Try.prog 63 #[.agg #[.int .i64 x.session, .int .i64 x.seq], .pointer (some pa)] w fun e w' => e = .returned (.bool (p x)) ∧ St w0 w' (Hs ++ R)) :
    Calls Try.prog 62 #[.slice ao n cap, .func (.func 63) #[] #[.pointer (some pa)]] w fun e w' => e = .returned (.slice ao (zs.filter fun x => !p x).length cap) ∧ St w0 w' (.row 78 2 ao (zs.filter fun x => !p x).length cap ((zs.filter fun x => !p x).flatMap dropQ_cs) :: R) := by
  have hidx := dropQ_index w0 w R ao n cap xs zs p pa hS hxs hn hcl
  have hlen : zs.length = n := by have := row_length (hS.at_ 0 rfl); rw [hxs, flat_len dropQ_len] at this; omega
  have HCL := Lib.hid hcl
  have HXS := Lib.hid hxs
  clear hcl hxs
  rcases idxD_cases p zs with ⟨e1, e2⟩ | ⟨i, x0, e1, e2, e3, e4⟩
  · rw [e1] at hidx
    have ef : (zs.filter fun x => !p x) = zs := by rw [List.filter_eq_self]; intro x hx; rw [e2 x hx]; rfl
    have EF := Lib.hid ef
    have HL := Lib.hid hlen
    clear e1 e2 ef hlen
    go_enter Try.func62, Try.ntmps62
    go_wp2_with (first | ((with_reducible show WGd ..); (with_reducible apply wpA_guard); exact rfl; skip) | (go_at_call 76; with_reducible refine (hidx).mono ?_; rintro _ _ ⟨rfl, hS⟩) | ((with_reducible show WLd ..); (with_reducible apply wpA_load); exact rfl; (first | ((with_reducible apply St.cellI hS); (focus repeat constructor); exact rfl) | assumption); kernel_rfl) | ((with_reducible show WSt ..); (with_reducible apply wpA_store1I hS); exact rfl; (focus repeat constructor); exact rfl; exact rfl; exact rfl; exact rfl; kernel_rfl; intro wx hS; (try simp only [Act.put, List.setIfInBounds_toArray, List.set_cons_zero, List.set_cons_succ]); (try simp only [Act.eval, Array.getD_eq_getD_getElem?, List.getElem?_toArray, List.getElem?_cons_succ, List.getElem?_cons_zero, Option.getD_some, List.set_cons_succ, List.set_cons_zero, Value.cells, List.toList_toArray] at hS)) | ((with_reducible show WBx ..); (with_reducible apply wpA_box hS); exact rfl; exact rfl; intro _ wx hS; (try simp only [Act.put, List.setIfInBounds_toArray, List.set_cons_zero, List.set_cons_succ]); (try simp only [Act.eval, Array.getD_eq_getD_getElem?, List.getElem?_toArray, List.getElem?_cons_succ, List.getElem?_cons_zero, Option.getD_some, List.set_cons_succ, List.set_cons_zero, Value.cells, List.toList_toArray] at hS)))
    first | go_ret | (trace_state; sorry)
    rw [EF.out, HL.out, ← HXS.out]
    exact ⟨rfl, hS⟩
  · rw [e1] at hidx
    have hin : i < n := by have := (List.getElem?_eq_some_iff.1 e2).1; omega
    rcases row_head (hS.at_ 0 rfl) with ⟨_, hh, _⟩ | ⟨⟨g, rfl⟩, _⟩
    · omega
    have H2 := Lib.hid (And.intro e2 (And.intro e3 e4))
    have HL := Lib.hid hlen
    clear e1 e2 e3 e4 hlen
    have hne : ((i : Int) == -1) = false := by simp
    go_enter Try.func62, Try.ntmps62
    go_wp2_with (first | ((with_reducible show WGd ..); (with_reducible apply wpA_guard); exact rfl; skip) | (go_at_call 76; with_reducible refine (hidx).mono ?_; rintro _ _ ⟨rfl, hS⟩) | ((with_reducible show WLd ..); (with_reducible apply wpA_load); exact rfl; (first | ((with_reducible apply St.cellI hS); (focus repeat constructor); exact rfl) | assumption); kernel_rfl) | ((with_reducible show WSt ..); (with_reducible apply wpA_store1I hS); exact rfl; (focus repeat constructor); exact rfl; exact rfl; exact rfl; exact rfl; kernel_rfl; intro wx hS; (try simp only [Act.put, List.setIfInBounds_toArray, List.set_cons_zero, List.set_cons_succ]); (try simp only [Act.eval, Array.getD_eq_getD_getElem?, List.getElem?_toArray, List.getElem?_cons_succ, List.getElem?_cons_zero, Option.getD_some, List.set_cons_succ, List.set_cons_zero, Value.cells, List.toList_toArray] at hS)) | ((with_reducible show WBx ..); (with_reducible apply wpA_box hS); exact rfl; exact rfl; intro _ wx hS; (try simp only [Act.put, List.setIfInBounds_toArray, List.set_cons_zero, List.set_cons_succ]); (try simp only [Act.eval, Array.getD_eq_getD_getElem?, List.getElem?_toArray, List.getElem?_cons_succ, List.getElem?_cons_zero, Option.getD_some, List.set_cons_succ, List.set_cons_zero, Value.cells, List.toList_toArray] at hS)))
    obtain ⟨cur, c1, c2, c3, c4, hS⟩ := hS.rowCells 0 rfl
    rw [HXS.out] at c2
    have hI : DelI 2 dropQ_cs p zs cap (i + 1) i cur := DelI.init dropQ_len c1 c2 HL.out H2.out.1 H2.out.2.1 H2.out.2.2
    simp only [List.set_cons_zero] at hS
    clear c1 c2 hidx
    unfold maxLen at c4
    go_loopw [5, 6] (fun m c wr => ∃ (j q : Nat) (cur : List Value), j ≤ n ∧ c = .int .i64 j ∧ m = .int .i64 q ∧ Hid (DelI 2 dropQ_cs p zs cap j q cur) ∧ St w0 wr (.cells g cur 78 :: R)) (fun _ c _ => n - (intOf c).toNat)
    case atStart => exact ⟨i + 1, i, cur, by omega, by go_num, rfl, Lib.hid hI, hS⟩
    case round =>
      clear hS hI
      obtain ⟨j, q, cur, hj, rfl, rfl, HI, hS⟩ := hrel
      have hqj := HI.out.lt
      have hcl := HI.out.len
      have HCU := Lib.hid hcl
      clear hcl
      by_cases hlt : j < n
      · obtain ⟨x, hx⟩ : ∃ x, zs[j]? = some x := ⟨_, List.getElem?_eq_getElem (by have := HL.out; omega)⟩
        have hel : wr.rangeAt g (j * 2) [.int .i64 x.session, .int .i64 x.seq] := fun r v hv => hS.cell 0 rfl _ (HI.out.rest j x (Nat.le_refl _) hx r v hv)
        have HEL := Lib.hid hel
        have HX := Lib.hid hx
        clear hel hx
        skip
        by_cases hp : p x = true
        · have HP := Lib.hid hp
          clear hp
          go_wp2_with (first | ((with_reducible show WGd ..); (with_reducible apply wpA_guard); exact rfl; skip) | ((with_reducible show WLd ..); (with_reducible apply wpA_loadN (t := 78)); exact rfl; (first | exact HEL.out | exact Hp.range hS 0 rfl _ 2); kernel_rfl; kernel_rfl; (try simp only [Act.put, List.setIfInBounds_toArray, List.set_cons_zero, List.set_cons_succ])) | ((first | ((with_reducible show WAl ..); (with_reducible apply wpA_alloc (t := 78) hS (v := .agg #[.int .i64 0, .int .i64 0])); kernel_rfl; exact rfl; intro vb wx hS) | ((with_reducible show WBx ..); (with_reducible apply wpA_box hS); exact rfl; exact rfl; intro _ wx hS)); (try simp only [Act.put, List.setIfInBounds_toArray, List.set_cons_zero, List.set_cons_succ]); (try simp only [Act.eval, Array.getD_eq_getD_getElem?, List.getElem?_toArray, List.getElem?_cons_succ, List.getElem?_cons_zero, Option.getD_some, List.set_cons_succ, List.set_cons_zero, Value.cells, List.toList_toArray] at hS)) | ((with_reducible show WSt ..); (with_reducible apply wpA_store hS 0); exact rfl; exact rfl; exact rfl; exact rfl; exact rfl; exact (Nat.le_of_ble_eq_true rfl); kernel_rfl; intro wx hS; (try simp only [Act.put, List.setIfInBounds_toArray, List.set_cons_zero, List.set_cons_succ]); (try simp only [Act.eval, Array.getD_eq_getD_getElem?, List.getElem?_toArray, List.getElem?_cons_succ, List.getElem?_cons_zero, Option.getD_some, List.set_cons_succ, List.set_cons_zero, Value.cells, List.toList_toArray] at hS); (try simp only [List.take_zero, List.take_succ_cons, List.nil_append, List.cons_append, List.length_cons, List.length_nil, Nat.reduceAdd, Nat.zero_add, List.drop_succ_cons, List.drop_zero, List.drop_nil, List.append_nil] at hS)) | (go_at_call 63; with_reducible refine (HCL.out [_, _] _ x hS).mono ?_; rintro _ _ ⟨rfl, hS⟩; rw [HP.out]; simp only [List.cons_append, List.nil_append] at hS) | ((with_reducible show WLd ..); (with_reducible apply wpA_load); exact rfl; (first | ((with_reducible apply St.cellI hS); (focus repeat constructor); exact rfl) | assumption); kernel_rfl) | ((with_reducible show WSt ..); (with_reducible apply wpA_store1I hS); exact rfl; (focus repeat constructor); exact rfl; exact rfl; exact rfl; exact rfl; kernel_rfl; intro wx hS; (try simp only [Act.put, List.setIfInBounds_toArray, List.set_cons_zero, List.set_cons_succ]); (try simp only [Act.eval, Array.getD_eq_getD_getElem?, List.getElem?_toArray, List.getElem?_cons_succ, List.getElem?_cons_zero, Option.getD_some, List.set_cons_succ, List.set_cons_zero, Value.cells, List.toList_toArray] at hS)))
          first | go_roundw | (trace_state; sorry)
          case rel => exact ⟨j + 1, q, cur, by omega, by go_num, rfl, Lib.hid (HI.out.skip HX.out HP.out), hS.tail⟩
          case measure => simp [intOf]; omega
        · have hp' : p x = false := by simpa using hp
          have HP := Lib.hid hp'
          clear hp hp'
          have hfit : q * 2 + 2 ≤ cur.length := by rw [HCU.out, ← Nat.succ_mul]; exact Nat.mul_le_mul_right _ (by omega)
          skip
          go_wp2_with (first | ((with_reducible show WGd ..); (with_reducible apply wpA_guard); exact rfl; skip) | ((with_reducible show WLd ..); (with_reducible apply wpA_loadN (t := 78)); exact rfl; (first | exact HEL.out | exact Hp.range hS 0 rfl _ 2 | exact Hp.range hS 1 rfl _ 2); kernel_rfl; kernel_rfl; (try simp only [Act.put, List.setIfInBounds_toArray, List.set_cons_zero, List.set_cons_succ])) | ((first | ((with_reducible show WAl ..); (with_reducible apply wpA_alloc (t := 78) hS (v := .agg #[.int .i64 0, .int .i64 0])); kernel_rfl; exact rfl; intro vb wx hS) | ((with_reducible show WBx ..); (with_reducible apply wpA_box hS); exact rfl; exact rfl; intro _ wx hS)); (try simp only [Act.put, List.setIfInBounds_toArray, List.set_cons_zero, List.set_cons_succ]); (try simp only [Act.eval, Array.getD_eq_getD_getElem?, List.getElem?_toArray, List.getElem?_cons_succ, List.getElem?_cons_zero, Option.getD_some, List.set_cons_succ, List.set_cons_zero, Value.cells, List.toList_toArray] at hS)) | ((with_reducible show WSt ..); (with_reducible apply wpA_store hS 0); exact rfl; exact rfl; exact rfl; exact rfl; exact rfl; exact (Nat.le_of_ble_eq_true rfl); kernel_rfl; intro wx hS; (try simp only [Act.put, List.setIfInBounds_toArray, List.set_cons_zero, List.set_cons_succ]); (try simp only [Act.eval, Array.getD_eq_getD_getElem?, List.getElem?_toArray, List.getElem?_cons_succ, List.getElem?_cons_zero, Option.getD_some, List.set_cons_succ, List.set_cons_zero, Value.cells, List.toList_toArray] at hS); (try simp only [List.take_zero, List.take_succ_cons, List.nil_append, List.cons_append, List.length_cons, List.length_nil, Nat.reduceAdd, Nat.zero_add, List.drop_succ_cons, List.drop_zero, List.drop_nil, List.append_nil] at hS)) | ((with_reducible show WSt ..); (with_reducible apply wpA_store hS 1); exact rfl; exact rfl; exact rfl; exact rfl; exact rfl; exact hfit; kernel_rfl; intro wx hS; (try simp only [Act.put, List.setIfInBounds_toArray, List.set_cons_zero, List.set_cons_succ])) | (go_at_call 63; with_reducible refine (HCL.out [_, _] _ x hS).mono ?_; rintro _ _ ⟨rfl, hS⟩; rw [HP.out]; simp only [List.cons_append, List.nil_append] at hS) | ((with_reducible show WLd ..); (with_reducible apply wpA_load); exact rfl; (first | ((with_reducible apply St.cellI hS); (focus repeat constructor); exact rfl) | assumption); kernel_rfl) | ((with_reducible show WSt ..); (with_reducible apply wpA_store1I hS); exact rfl; (focus repeat constructor); exact rfl; exact rfl; exact rfl; exact rfl; kernel_rfl; intro wx hS; (try simp only [Act.put, List.setIfInBounds_toArray, List.set_cons_zero, List.set_cons_succ]); (try simp only [Act.eval, Array.getD_eq_getD_getElem?, List.getElem?_toArray, List.getElem?_cons_succ, List.getElem?_cons_zero, Option.getD_some, List.set_cons_succ, List.set_cons_zero, Value.cells, List.toList_toArray] at hS)))
          first | go_roundw | (trace_state; sorry)
          case rel => exact ⟨j + 1, q + 1, _, by omega, by go_num, by go_num, Lib.hid (HI.out.keep dropQ_len HX.out HP.out (by have := HL.out; omega)), by exact hS.tail⟩
          case measure => simp [intOf]; omega
      · have e : j = n := by omega
        have hqc : q < cap := by omega
        go_wp2_with (first | ((with_reducible show WGd ..); (with_reducible apply wpA_guard); exact rfl; skip) | ((with_reducible show wpList _ _ _ (⟨_, .call ⟨.builtin .clear, _, _⟩, _, _, _, none⟩ :: _) _ _); (with_reducible apply wpA_clear hS 0 (z := .agg #[.int .i64 0, .int .i64 0])); go_loud (exact rfl); go_loud (exact rfl); go_loud (exact Try.underlying67); go_loud (kernel_rfl); go_loud (kernel_rfl); go_loud (exact (by show q * 2 + 2 * (n - q) ≤ cur.length; rw [HCU.out]; have : n ≤ cap := (by omega); omega)); intro wx ws hws hS; (try simp only [Act.put, List.setIfInBounds_toArray, List.set_cons_zero, List.set_cons_succ])) | ((with_reducible show WLd ..); (with_reducible apply wpA_load); exact rfl; (first | ((with_reducible apply St.cellI hS); (focus repeat constructor); exact rfl) | assumption); kernel_rfl) | ((with_reducible show WSt ..); (with_reducible apply wpA_store1I hS); exact rfl; (focus repeat constructor); exact rfl; exact rfl; exact rfl; exact rfl; kernel_rfl; intro wx hS; (try simp only [Act.put, List.setIfInBounds_toArray, List.set_cons_zero, List.set_cons_succ]); (try simp only [Act.eval, Array.getD_eq_getD_getElem?, List.getElem?_toArray, List.getElem?_cons_succ, List.getElem?_cons_zero, Option.getD_some, List.set_cons_succ, List.set_cons_zero, Value.cells, List.toList_toArray] at hS)) | ((with_reducible show WBx ..); (with_reducible apply wpA_box hS); exact rfl; exact rfl; intro _ wx hS; (try simp only [Act.put, List.setIfInBounds_toArray, List.set_cons_zero, List.set_cons_succ]); (try simp only [Act.eval, Array.getD_eq_getD_getElem?, List.getElem?_toArray, List.getElem?_cons_succ, List.getElem?_cons_zero, Option.getD_some, List.set_cons_succ, List.set_cons_zero, Value.cells, List.toList_toArray] at hS)))
        first | go_ret | (trace_state; sorry)
        have hd := (show DelI 2 dropQ_cs p zs cap zs.length q cur by have := HI.out; rw [e, ← HL.out] at this; exact this).done (ws := ws) (by rw [hws]; show q * 2 + 2 * (n - q) ≤ cap * 2; omega)
        obtain ⟨d1, d2, d3⟩ := hd
        subst d2
        refine ⟨rfl, ?_⟩
        exact hS.cellsRow 0 rfl (by simpa using d3) (by simpa using d1) (by omega) (by unfold maxLen; omega)

end Go.Proofs.Ytiidlegieenfeaa
