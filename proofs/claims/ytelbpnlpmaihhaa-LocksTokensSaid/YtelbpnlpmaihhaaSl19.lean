/-
  Functions of package slices at the types that the locks use.
-/
import Derived.Test.YtelbpnlpmaihhaaSlMore
import Derived.WalkSpells
import Derived.WalkLawsBesides
import Derived.Deep.DeepCutAuto
import Derived.Deep.CutBlock
import Derived.Test.YtelbpnlpmaihhaaProg
namespace Go.Proofs.Ytelbpnlpmaihhaa
set_option linter.unusedVariables false
set_option linter.unusedSimpArgs false
open Go.RowKit

structure WaitS where
  session : Int
  seq : Int
  reader : Bool

set_option maxRecDepth 100000 in
theorem cloneW {w0 w : World} {H : List Hp} (hS : St w0 w H) {ad : Addr} {m c : Nat} {news : List Value} (hsrc : ∀ w, St w0 w H → Src Try.prog w 3 (.slice (some ad) m c) m news) (hm : m ≤ 1000000000000) :
    Calls Try.prog 81 #[.slice (some ad) m c] w fun e w' => ∃ ao cap, e = .returned (.slice ao m cap) ∧ St w0 w' (.row 70 3 ao m cap news :: H) := by
  have hap := fun (w : World) (h : St w0 w H) => hsrc w h
  clear hsrc
  have hnil := fun (w : World) (a : Option Addr) (n c n' c' : Nat) => Lib.run_eql_slice_nil (P := Try.prog) w _ _ a n c n' c' Try.underlying73
  go_enter Try.func81, Try.ntmps81
  go_wp2_with (first | ((with_reducible show WGd ..); (with_reducible apply wpA_guard); exact rfl; skip) | ((first | ((with_reducible show WBs ..); (with_reducible apply wpA_build0 3 hS); exact Try.underlying73; kernel_rfl; intro _ wx hS) | ((with_reducible show WAp ..); (with_reducible apply wpA_append hS 0 (z := .agg #[.int .i64 0, .int .i64 0, .bool false]) (size := 3) (bytes := 24)); exact rfl; exact rfl; exact rfl; exact Try.underlying73; exact .inr Try.underlying73; kernel_rfl; exact rfl; exact (by have := hap _ hS.tail; exact this); exact (by unfold maxLen; omega); exact (by omega); intro ao2 cap2 wx hS)); (try simp only [Act.put, List.setIfInBounds_toArray, List.set_cons_zero, List.set_cons_succ])) | ((with_reducible show WLd ..); (with_reducible apply wpA_load); exact rfl; (first | ((with_reducible apply St.cellI hS); (focus repeat constructor); exact rfl) | assumption); kernel_rfl) | ((with_reducible show WSt ..); (with_reducible apply wpA_store1I hS); exact rfl; (focus repeat constructor); exact rfl; exact rfl; exact rfl; exact rfl; kernel_rfl; intro wx hS; (try simp only [Act.put, List.setIfInBounds_toArray, List.set_cons_zero, List.set_cons_succ]); (try simp only [Act.eval, Array.getD_eq_getD_getElem?, List.getElem?_toArray, List.getElem?_cons_succ, List.getElem?_cons_zero, Option.getD_some, List.set_cons_succ, List.set_cons_zero, Value.cells, List.toList_toArray] at hS)) | ((with_reducible show WBx ..); (with_reducible apply wpA_box hS); exact rfl; exact rfl; intro _ wx hS; (try simp only [Act.put, List.setIfInBounds_toArray, List.set_cons_zero, List.set_cons_succ]); (try simp only [Act.eval, Array.getD_eq_getD_getElem?, List.getElem?_toArray, List.getElem?_cons_succ, List.getElem?_cons_zero, Option.getD_some, List.set_cons_succ, List.set_cons_zero, Value.cells, List.toList_toArray] at hS)))
  go_ret
  rw [Nat.zero_add] at hS ⊢
  rw [List.nil_append] at hS
  exact ⟨_, _, rfl, hS⟩
theorem cloneW_nil (w : World) : Calls Try.prog 81 #[.slice none 0 0] w fun e w' => e = .returned (.slice none 0 0) ∧ w = w' := by
  have hnil := fun (w : World) (a : Option Addr) (n c n' c' : Nat) => Lib.run_eql_slice_nil (P := Try.prog) w _ _ a n c n' c' Try.underlying73
  go_enter Try.func81, Try.ntmps81
  go_wp2
  go_ret
  exact ⟨rfl, rfl⟩


def relI_cs (x : Int) : List Value := [.int .i64 x]
theorem relI_len (x : Int) : (relI_cs x).length = 1 := rfl
set_option maxRecDepth 100000 in
set_option maxHeartbeats 1000000 in
theorem relI_index (w0 w : World) (R : List Hp) (ao : Option Addr) (n cap : Nat) (xs : List Value) (zs : List Int) (p : Int → Bool) (pa : Addr) (hS : St w0 w (.row 3 1 ao n cap xs :: R)) (hxs : xs = zs.flatMap relI_cs) (hn : n ≤ 1000000000000)
    (hcl : ∀ (Hs : List Hp) (w : World) (x : Int), St w0 w (Hs ++ R) → Calls Try.prog 39 #[.int .i64 x, .pointer (some pa)] w fun e w' => e = .returned (.bool (p x)) ∧ St w0 w' (Hs ++ R)) :
    Calls Try.prog 80 #[.slice ao n cap, .func (.func 39) #[] #[.pointer (some pa)]] w fun e w' => e = .returned (.int .i64 (idxD p zs)) ∧ St w0 w' (.row 3 1 ao n cap xs :: R) := by
  have hlen : zs.length = n := by have := row_length (hS.at_ 0 rfl); rw [hxs, flat_len relI_len] at this; omega
  have HCL := Lib.hid hcl
  have HXS := Lib.hid hxs
  have HL := Lib.hid hlen
  clear hcl hxs hlen
  go_enter Try.func80, Try.ntmps80
  go_wp2_with (first | ((with_reducible show WGd ..); (with_reducible apply wpA_guard); exact rfl; skip) | ((with_reducible show WLd ..); (with_reducible apply wpA_load); exact rfl; (first | ((with_reducible apply St.cellI hS); (focus repeat constructor); exact rfl) | assumption); kernel_rfl) | ((with_reducible show WSt ..); (with_reducible apply wpA_store1I hS); exact rfl; (focus repeat constructor); exact rfl; exact rfl; exact rfl; exact rfl; kernel_rfl; intro wx hS; (try simp only [Act.put, List.setIfInBounds_toArray, List.set_cons_zero, List.set_cons_succ]); (try simp only [Act.eval, Array.getD_eq_getD_getElem?, List.getElem?_toArray, List.getElem?_cons_succ, List.getElem?_cons_zero, Option.getD_some, List.set_cons_succ, List.set_cons_zero, Value.cells, List.toList_toArray] at hS)) | ((with_reducible show WBx ..); (with_reducible apply wpA_box hS); exact rfl; exact rfl; intro _ wx hS; (try simp only [Act.put, List.setIfInBounds_toArray, List.set_cons_zero, List.set_cons_succ]); (try simp only [Act.eval, Array.getD_eq_getD_getElem?, List.getElem?_toArray, List.getElem?_cons_succ, List.getElem?_cons_zero, Option.getD_some, List.set_cons_succ, List.set_cons_zero, Value.cells, List.toList_toArray] at hS)))
  go_loopw [8] (fun c wr => ∃ j : Nat, j ≤ n ∧ c = .int .i64 j ∧ Hid (∀ q y, q < j → zs[q]? = some y → p y = false) ∧ St w0 wr (.row 3 1 ao n cap xs :: R)) (fun c _ => n - (intOf c).toNat)
  case atStart => exact ⟨0, Nat.zero_le _, rfl, Lib.hid (fun q y hq => absurd hq (Nat.not_lt_zero _)), hS⟩
  case round =>
    clear hS
    obtain ⟨j, hj, rfl, HB, hS⟩ := hrel
    by_cases hlt : j < n
    · obtain ⟨x, hx⟩ : ∃ x, zs[j]? = some x := ⟨_, List.getElem?_eq_getElem (by have := HL.out; omega)⟩
      rcases row_head (hS.at_ 0 rfl) with ⟨_, hh, _⟩ | ⟨⟨g1, rfl⟩, _⟩
      · omega
      have hel : wr.rangeAt g1 (j * 1) [.int .i64 x] := row_range (hS.at_ 0 rfl) (fun i v hv => by rw [HXS.out]; exact flat_get relI_len hx i v hv)
      have HEL := Lib.hid hel
      have HX := Lib.hid hx
      clear hel hx
      have HEL0 := Lib.hid (show wr.cell? ⟨g1, j, none⟩ = some (.int .i64 x) from by have := HEL.out 0 _ rfl; simpa using this)
      by_cases hp : p x = true
      · have HP := Lib.hid hp
        clear hp
        go_wp2_with (first | ((with_reducible show WGd ..); (with_reducible apply wpA_guard); exact rfl; skip) | ((with_reducible show WLd ..); (with_reducible apply wpA_load); exact rfl; exact HEL0.out; kernel_rfl) | (go_at_call 39; with_reducible refine (HCL.out [_] _ x hS).mono ?_; rintro _ _ ⟨rfl, hS⟩; rw [HP.out]; simp only [List.cons_append, List.nil_append] at hS) | ((with_reducible show WLd ..); (with_reducible apply wpA_load); exact rfl; (first | ((with_reducible apply St.cellI hS); (focus repeat constructor); exact rfl) | assumption); kernel_rfl) | ((with_reducible show WSt ..); (with_reducible apply wpA_store1I hS); exact rfl; (focus repeat constructor); exact rfl; exact rfl; exact rfl; exact rfl; kernel_rfl; intro wx hS; (try simp only [Act.put, List.setIfInBounds_toArray, List.set_cons_zero, List.set_cons_succ]); (try simp only [Act.eval, Array.getD_eq_getD_getElem?, List.getElem?_toArray, List.getElem?_cons_succ, List.getElem?_cons_zero, Option.getD_some, List.set_cons_succ, List.set_cons_zero, Value.cells, List.toList_toArray] at hS)) | ((with_reducible show WBx ..); (with_reducible apply wpA_box hS); exact rfl; exact rfl; intro _ wx hS; (try simp only [Act.put, List.setIfInBounds_toArray, List.set_cons_zero, List.set_cons_succ]); (try simp only [Act.eval, Array.getD_eq_getD_getElem?, List.getElem?_toArray, List.getElem?_cons_succ, List.getElem?_cons_zero, Option.getD_some, List.set_cons_succ, List.set_cons_zero, Value.cells, List.toList_toArray] at hS)))
        go_ret
        have e := idxD_some HX.out HP.out HB.out
        rw [e]
        exact ⟨rfl, hS⟩
      · have hp' : p x = false := by simpa using hp
        have HP := Lib.hid hp'
        clear hp hp'
        go_wp2_with (first | ((with_reducible show WGd ..); (with_reducible apply wpA_guard); exact rfl; skip) | ((with_reducible show WLd ..); (with_reducible apply wpA_load); exact rfl; exact HEL0.out; kernel_rfl) | (go_at_call 39; with_reducible refine (HCL.out [_] _ x hS).mono ?_; rintro _ _ ⟨rfl, hS⟩; rw [HP.out]; simp only [List.cons_append, List.nil_append] at hS) | ((with_reducible show WLd ..); (with_reducible apply wpA_load); exact rfl; (first | ((with_reducible apply St.cellI hS); (focus repeat constructor); exact rfl) | assumption); kernel_rfl) | ((with_reducible show WSt ..); (with_reducible apply wpA_store1I hS); exact rfl; (focus repeat constructor); exact rfl; exact rfl; exact rfl; exact rfl; kernel_rfl; intro wx hS; (try simp only [Act.put, List.setIfInBounds_toArray, List.set_cons_zero, List.set_cons_succ]); (try simp only [Act.eval, Array.getD_eq_getD_getElem?, List.getElem?_toArray, List.getElem?_cons_succ, List.getElem?_cons_zero, Option.getD_some, List.set_cons_succ, List.set_cons_zero, Value.cells, List.toList_toArray] at hS)) | ((with_reducible show WBx ..); (with_reducible apply wpA_box hS); exact rfl; exact rfl; intro _ wx hS; (try simp only [Act.put, List.setIfInBounds_toArray, List.set_cons_zero, List.set_cons_succ]); (try simp only [Act.eval, Array.getD_eq_getD_getElem?, List.getElem?_toArray, List.getElem?_cons_succ, List.getElem?_cons_zero, Option.getD_some, List.set_cons_succ, List.set_cons_zero, Value.cells, List.toList_toArray] at hS)))
        go_roundw
        case rel =>
          refine ⟨j + 1, by omega, by go_num, Lib.hid (fun q y hq hy => ?_), hS⟩
          by_cases hqj : q < j
          · exact HB.out q y hqj hy
          · obtain rfl : q = j := by omega
            have := HX.out
            rw [hy] at this; obtain rfl := Option.some.inj this
            exact HP.out
        case measure => simp [intOf]; omega
    · go_wp2_with (first | ((with_reducible show WGd ..); (with_reducible apply wpA_guard); exact rfl; skip) | ((with_reducible show WLd ..); (with_reducible apply wpA_load); exact rfl; (first | ((with_reducible apply St.cellI hS); (focus repeat constructor); exact rfl) | assumption); kernel_rfl) | ((with_reducible show WSt ..); (with_reducible apply wpA_store1I hS); exact rfl; (focus repeat constructor); exact rfl; exact rfl; exact rfl; exact rfl; kernel_rfl; intro wx hS; (try simp only [Act.put, List.setIfInBounds_toArray, List.set_cons_zero, List.set_cons_succ]); (try simp only [Act.eval, Array.getD_eq_getD_getElem?, List.getElem?_toArray, List.getElem?_cons_succ, List.getElem?_cons_zero, Option.getD_some, List.set_cons_succ, List.set_cons_zero, Value.cells, List.toList_toArray] at hS)) | ((with_reducible show WBx ..); (with_reducible apply wpA_box hS); exact rfl; exact rfl; intro _ wx hS; (try simp only [Act.put, List.setIfInBounds_toArray, List.set_cons_zero, List.set_cons_succ]); (try simp only [Act.eval, Array.getD_eq_getD_getElem?, List.getElem?_toArray, List.getElem?_cons_succ, List.getElem?_cons_zero, Option.getD_some, List.set_cons_succ, List.set_cons_zero, Value.cells, List.toList_toArray] at hS)))
      go_ret
      have e : idxD p zs = -1 := idxD_none (fun x hx => by
        obtain ⟨q, hq⟩ := List.getElem?_of_mem hx
        exact HB.out q x (by have := (List.getElem?_eq_some_iff.1 hq).1; have := HL.out; omega) hq)
      rw [e]
      exact ⟨rfl, hS⟩

set_option maxRecDepth 100000 in
set_option maxHeartbeats 1000000 in
theorem relI_delete (w0 w : World) (R : List Hp) (ao : Option Addr) (n cap : Nat) (xs : List Value) (zs : List Int) (p : Int → Bool) (pa : Addr) (hS : St w0 w (.row 3 1 ao n cap xs :: R)) (hxs : xs = zs.flatMap relI_cs) (hn : n ≤ 1000000000000)
    (hcl : ∀ (Hs : List Hp) (w : World) (x : Int), St w0 w (Hs ++ R) → Calls Try.prog 39 #[.int .i64 x, .pointer (some pa)] w fun e w' => e = .returned (.bool (p x)) ∧ St w0 w' (Hs ++ R)) :
    Calls Try.prog 38 #[.slice ao n cap, .func (.func 39) #[] #[.pointer (some pa)]] w fun e w' => e = .returned (.slice ao (zs.filter fun x => !p x).length cap) ∧ St w0 w' (.row 3 1 ao (zs.filter fun x => !p x).length cap ((zs.filter fun x => !p x).flatMap relI_cs) :: R) := by
  have hidx := relI_index w0 w R ao n cap xs zs p pa hS hxs hn hcl
  have hlen : zs.length = n := by have := row_length (hS.at_ 0 rfl); rw [hxs, flat_len relI_len] at this; omega
  have HCL := Lib.hid hcl
  have HXS := Lib.hid hxs
  clear hcl hxs
  rcases idxD_cases p zs with ⟨e1, e2⟩ | ⟨i, x0, e1, e2, e3, e4⟩
  · rw [e1] at hidx
    have ef : (zs.filter fun x => !p x) = zs := by rw [List.filter_eq_self]; intro x hx; rw [e2 x hx]; rfl
    have EF := Lib.hid ef
    have HL := Lib.hid hlen
    clear e1 e2 ef hlen
    go_enter Try.func38, Try.ntmps38
    go_wp2_with (first | ((with_reducible show WGd ..); (with_reducible apply wpA_guard); exact rfl; skip) | (go_at_call 80; with_reducible refine (hidx).mono ?_; rintro _ _ ⟨rfl, hS⟩) | ((with_reducible show WLd ..); (with_reducible apply wpA_load); exact rfl; (first | ((with_reducible apply St.cellI hS); (focus repeat constructor); exact rfl) | assumption); kernel_rfl) | ((with_reducible show WSt ..); (with_reducible apply wpA_store1I hS); exact rfl; (focus repeat constructor); exact rfl; exact rfl; exact rfl; exact rfl; kernel_rfl; intro wx hS; (try simp only [Act.put, List.setIfInBounds_toArray, List.set_cons_zero, List.set_cons_succ]); (try simp only [Act.eval, Array.getD_eq_getD_getElem?, List.getElem?_toArray, List.getElem?_cons_succ, List.getElem?_cons_zero, Option.getD_some, List.set_cons_succ, List.set_cons_zero, Value.cells, List.toList_toArray] at hS)) | ((with_reducible show WBx ..); (with_reducible apply wpA_box hS); exact rfl; exact rfl; intro _ wx hS; (try simp only [Act.put, List.setIfInBounds_toArray, List.set_cons_zero, List.set_cons_succ]); (try simp only [Act.eval, Array.getD_eq_getD_getElem?, List.getElem?_toArray, List.getElem?_cons_succ, List.getElem?_cons_zero, Option.getD_some, List.set_cons_succ, List.set_cons_zero, Value.cells, List.toList_toArray] at hS)))
    go_ret
    rw [EF.out, HL.out, ← HXS.out]
    exact ⟨rfl, hS⟩
  · rw [e1] at hidx
    have hin : i < n := by have := (List.getElem?_eq_some_iff.1 e2).1; omega
    rcases row_head (hS.at_ 0 rfl) with ⟨_, hh, _⟩ | ⟨⟨g, rfl⟩, _⟩
    · omega
    have H2 := Lib.hid (And.intro e2 (And.intro e3 e4))
    have HL := Lib.hid hlen
    clear e1 e2 e3 e4 hlen
    have hne : ((i : Int) == -1) = false := by simp
    go_enter Try.func38, Try.ntmps38
    go_wp2_with (first | ((with_reducible show WGd ..); (with_reducible apply wpA_guard); exact rfl; skip) | (go_at_call 80; with_reducible refine (hidx).mono ?_; rintro _ _ ⟨rfl, hS⟩) | ((with_reducible show WLd ..); (with_reducible apply wpA_load); exact rfl; (first | ((with_reducible apply St.cellI hS); (focus repeat constructor); exact rfl) | assumption); kernel_rfl) | ((with_reducible show WSt ..); (with_reducible apply wpA_store1I hS); exact rfl; (focus repeat constructor); exact rfl; exact rfl; exact rfl; exact rfl; kernel_rfl; intro wx hS; (try simp only [Act.put, List.setIfInBounds_toArray, List.set_cons_zero, List.set_cons_succ]); (try simp only [Act.eval, Array.getD_eq_getD_getElem?, List.getElem?_toArray, List.getElem?_cons_succ, List.getElem?_cons_zero, Option.getD_some, List.set_cons_succ, List.set_cons_zero, Value.cells, List.toList_toArray] at hS)) | ((with_reducible show WBx ..); (with_reducible apply wpA_box hS); exact rfl; exact rfl; intro _ wx hS; (try simp only [Act.put, List.setIfInBounds_toArray, List.set_cons_zero, List.set_cons_succ]); (try simp only [Act.eval, Array.getD_eq_getD_getElem?, List.getElem?_toArray, List.getElem?_cons_succ, List.getElem?_cons_zero, Option.getD_some, List.set_cons_succ, List.set_cons_zero, Value.cells, List.toList_toArray] at hS)))
    obtain ⟨cur, c1, c2, c3, c4, hS⟩ := hS.rowCells 0 rfl
    rw [HXS.out] at c2
    have hI : DelI 1 relI_cs p zs cap (i + 1) i cur := DelI.init relI_len c1 c2 HL.out H2.out.1 H2.out.2.1 H2.out.2.2
    simp only [List.set_cons_zero] at hS
    clear c1 c2 hidx
    unfold maxLen at c4
    go_loopw [5, 6] (fun m c wr => ∃ (j q : Nat) (cur : List Value), j ≤ n ∧ c = .int .i64 j ∧ m = .int .i64 q ∧ Hid (DelI 1 relI_cs p zs cap j q cur) ∧ St w0 wr (.cells g cur 3 :: R)) (fun _ c _ => n - (intOf c).toNat)
    case atStart => exact ⟨i + 1, i, cur, by omega, by go_num, rfl, Lib.hid hI, hS⟩
    case round =>
      clear hS hI
      obtain ⟨j, q, cur, hj, rfl, rfl, HI, hS⟩ := hrel
      have hqj := HI.out.lt
      have hcl := HI.out.len
      have HCU := Lib.hid hcl
      clear hcl
      by_cases hlt : j < n
      · obtain ⟨x, hx⟩ : ∃ x, zs[j]? = some x := ⟨_, List.getElem?_eq_getElem (by have := HL.out; omega)⟩
        have hel : wr.rangeAt g (j * 1) [.int .i64 x] := fun r v hv => hS.cell 0 rfl _ (HI.out.rest j x (Nat.le_refl _) hx r v hv)
        have HEL := Lib.hid hel
        have HX := Lib.hid hx
        clear hel hx
        have HEL0 := Lib.hid (show wr.cell? ⟨g, j, none⟩ = some (.int .i64 x) from by have := HEL.out 0 _ rfl; simpa using this)
        by_cases hp : p x = true
        · have HP := Lib.hid hp
          clear hp
          go_wp2_with (first | ((with_reducible show WGd ..); (with_reducible apply wpA_guard); exact rfl; skip) | ((with_reducible show WLd ..); (with_reducible apply wpA_load); exact rfl; exact HEL0.out; kernel_rfl) | (go_at_call 39; with_reducible refine (HCL.out [_] _ x hS).mono ?_; rintro _ _ ⟨rfl, hS⟩; rw [HP.out]; simp only [List.cons_append, List.nil_append] at hS) | ((with_reducible show WLd ..); (with_reducible apply wpA_load); exact rfl; (first | ((with_reducible apply St.cellI hS); (focus repeat constructor); exact rfl) | assumption); kernel_rfl) | ((with_reducible show WSt ..); (with_reducible apply wpA_store1I hS); exact rfl; (focus repeat constructor); exact rfl; exact rfl; exact rfl; exact rfl; kernel_rfl; intro wx hS; (try simp only [Act.put, List.setIfInBounds_toArray, List.set_cons_zero, List.set_cons_succ]); (try simp only [Act.eval, Array.getD_eq_getD_getElem?, List.getElem?_toArray, List.getElem?_cons_succ, List.getElem?_cons_zero, Option.getD_some, List.set_cons_succ, List.set_cons_zero, Value.cells, List.toList_toArray] at hS)) | ((with_reducible show WBx ..); (with_reducible apply wpA_box hS); exact rfl; exact rfl; intro _ wx hS; (try simp only [Act.put, List.setIfInBounds_toArray, List.set_cons_zero, List.set_cons_succ]); (try simp only [Act.eval, Array.getD_eq_getD_getElem?, List.getElem?_toArray, List.getElem?_cons_succ, List.getElem?_cons_zero, Option.getD_some, List.set_cons_succ, List.set_cons_zero, Value.cells, List.toList_toArray] at hS)))
          go_roundw
          case rel => exact ⟨j + 1, q, cur, by omega, by go_num, rfl, Lib.hid (HI.out.skip HX.out HP.out), hS⟩
          case measure => simp [intOf]; omega
        · have hp' : p x = false := by simpa using hp
          have HP := Lib.hid hp'
          clear hp hp'
          have hfit : q * 1 + 1 ≤ cur.length := by rw [HCU.out, ← Nat.succ_mul]; exact Nat.mul_le_mul_right _ (by omega)
          have hfit1 : ((cur)[q]?).isSome = true := by rw [List.getElem?_eq_getElem (by omega)]; rfl
          go_wp2_with (first | ((with_reducible show WGd ..); (with_reducible apply wpA_guard); exact rfl; skip) | ((with_reducible show WLd ..); (with_reducible apply wpA_load); exact rfl; exact HEL0.out; kernel_rfl) | (go_at_call 39; with_reducible refine (HCL.out [_] _ x hS).mono ?_; rintro _ _ ⟨rfl, hS⟩; rw [HP.out]; simp only [List.cons_append, List.nil_append] at hS) | ((with_reducible show WSt ..); (with_reducible apply wpA_store1 hS 0); exact rfl; exact rfl; exact rfl; exact rfl; exact rfl; exact hfit1; kernel_rfl; intro wx hS; (try simp only [Act.put, List.setIfInBounds_toArray, List.set_cons_zero, List.set_cons_succ])) | ((with_reducible show WLd ..); (with_reducible apply wpA_load); exact rfl; (first | ((with_reducible apply St.cellI hS); (focus repeat constructor); exact rfl) | assumption); kernel_rfl) | ((with_reducible show WSt ..); (with_reducible apply wpA_store1I hS); exact rfl; (focus repeat constructor); exact rfl; exact rfl; exact rfl; exact rfl; kernel_rfl; intro wx hS; (try simp only [Act.put, List.setIfInBounds_toArray, List.set_cons_zero, List.set_cons_succ]); (try simp only [Act.eval, Array.getD_eq_getD_getElem?, List.getElem?_toArray, List.getElem?_cons_succ, List.getElem?_cons_zero, Option.getD_some, List.set_cons_succ, List.set_cons_zero, Value.cells, List.toList_toArray] at hS)) | ((with_reducible show WBx ..); (with_reducible apply wpA_box hS); exact rfl; exact rfl; intro _ wx hS; (try simp only [Act.put, List.setIfInBounds_toArray, List.set_cons_zero, List.set_cons_succ]); (try simp only [Act.eval, Array.getD_eq_getD_getElem?, List.getElem?_toArray, List.getElem?_cons_succ, List.getElem?_cons_zero, Option.getD_some, List.set_cons_succ, List.set_cons_zero, Value.cells, List.toList_toArray] at hS)))
          go_roundw
          case rel => exact ⟨j + 1, q + 1, _, by omega, by go_num, by go_num, Lib.hid (HI.out.keep relI_len HX.out HP.out (by have := HL.out; omega)), by rw [set_splice _ (by omega)] at hS; exact hS⟩
          case measure => simp [intOf]; omega
      · have e : j = n := by omega
        have hqc : q < cap := by omega
        go_wp2_with (first | ((with_reducible show WGd ..); (with_reducible apply wpA_guard); exact rfl; skip) | ((with_reducible show wpList _ _ _ (⟨_, .call ⟨.builtin .clear, _, _⟩, _, _, _, none⟩ :: _) _ _); (with_reducible apply wpA_clear hS 0 (z := .int .i64 0)); go_loud (exact rfl); go_loud (exact rfl); go_loud (exact Try.underlying25); go_loud (kernel_rfl); go_loud (kernel_rfl); go_loud (exact (by show q + 1 * (n - q) ≤ cur.length; rw [HCU.out]; have : n ≤ cap := (by omega); omega)); intro wx ws hws hS; (try simp only [Act.put, List.setIfInBounds_toArray, List.set_cons_zero, List.set_cons_succ])) | ((with_reducible show WLd ..); (with_reducible apply wpA_load); exact rfl; (first | ((with_reducible apply St.cellI hS); (focus repeat constructor); exact rfl) | assumption); kernel_rfl) | ((with_reducible show WSt ..); (with_reducible apply wpA_store1I hS); exact rfl; (focus repeat constructor); exact rfl; exact rfl; exact rfl; exact rfl; kernel_rfl; intro wx hS; (try simp only [Act.put, List.setIfInBounds_toArray, List.set_cons_zero, List.set_cons_succ]); (try simp only [Act.eval, Array.getD_eq_getD_getElem?, List.getElem?_toArray, List.getElem?_cons_succ, List.getElem?_cons_zero, Option.getD_some, List.set_cons_succ, List.set_cons_zero, Value.cells, List.toList_toArray] at hS)) | ((with_reducible show WBx ..); (with_reducible apply wpA_box hS); exact rfl; exact rfl; intro _ wx hS; (try simp only [Act.put, List.setIfInBounds_toArray, List.set_cons_zero, List.set_cons_succ]); (try simp only [Act.eval, Array.getD_eq_getD_getElem?, List.getElem?_toArray, List.getElem?_cons_succ, List.getElem?_cons_zero, Option.getD_some, List.set_cons_succ, List.set_cons_zero, Value.cells, List.toList_toArray] at hS)))
        go_ret
        have hd := (show DelI 1 relI_cs p zs cap zs.length q cur by have := HI.out; rw [e, ← HL.out] at this; exact this).done (ws := ws) (by rw [hws]; show q * 1 + 1 * (n - q) ≤ cap * 1; omega)
        obtain ⟨d1, d2, d3⟩ := hd
        subst d2
        refine ⟨rfl, ?_⟩
        exact hS.cellsRow 0 rfl (by simpa using d3) (by simpa using d1) (by omega) (by unfold maxLen; omega)


def askW_cs (x : WaitS) : List Value := [.int .i64 x.session, .int .i64 x.seq, .bool x.reader]
theorem askW_len (x : WaitS) : (askW_cs x).length = 3 := rfl
set_option maxRecDepth 100000 in
set_option maxHeartbeats 1000000 in
theorem askW_index (w0 w : World) (R : List Hp) (ao : Option Addr) (n cap : Nat) (xs : List Value) (zs : List WaitS) (p : WaitS → Bool) (pa : Addr) (hS : St w0 w (.row 70 3 ao n cap xs :: R)) (hxs : xs = zs.flatMap askW_cs) (hn : n ≤ 1000000000000)
    (hcl : ∀ (Hs : List Hp) (w : World) (x : WaitS), St w0 w (Hs ++ R) → Calls Try.prog 78 #[.agg #[.int .i64 x.session, .int .i64 x.seq, .bool x.reader], .pointer (some pa)] w fun e w' => e = .returned (.bool (p x)) ∧ St w0 w' (Hs ++ R)) :
    Calls Try.prog 83 #[.slice ao n cap, .func (.func 78) #[] #[.pointer (some pa)]] w fun e w' => e = .returned (.int .i64 (idxD p zs)) ∧ St w0 w' (.row 70 3 ao n cap xs :: R) := by
  have hlen : zs.length = n := by have := row_length (hS.at_ 0 rfl); rw [hxs, flat_len askW_len] at this; omega
  have HCL := Lib.hid hcl
  have HXS := Lib.hid hxs
  have HL := Lib.hid hlen
  clear hcl hxs hlen
  go_enter Try.func83, Try.ntmps83
  go_wp2_with (first | ((with_reducible show WGd ..); (with_reducible apply wpA_guard); exact rfl; skip) | ((with_reducible show WLd ..); (with_reducible apply wpA_load); exact rfl; (first | ((with_reducible apply St.cellI hS); (focus repeat constructor); exact rfl) | assumption); kernel_rfl) | ((with_reducible show WSt ..); (with_reducible apply wpA_store1I hS); exact rfl; (focus repeat constructor); exact rfl; exact rfl; exact rfl; exact rfl; kernel_rfl; intro wx hS; (try simp only [Act.put, List.setIfInBounds_toArray, List.set_cons_zero, List.set_cons_succ]); (try simp only [Act.eval, Array.getD_eq_getD_getElem?, List.getElem?_toArray, List.getElem?_cons_succ, List.getElem?_cons_zero, Option.getD_some, List.set_cons_succ, List.set_cons_zero, Value.cells, List.toList_toArray] at hS)) | ((with_reducible show WBx ..); (with_reducible apply wpA_box hS); exact rfl; exact rfl; intro _ wx hS; (try simp only [Act.put, List.setIfInBounds_toArray, List.set_cons_zero, List.set_cons_succ]); (try simp only [Act.eval, Array.getD_eq_getD_getElem?, List.getElem?_toArray, List.getElem?_cons_succ, List.getElem?_cons_zero, Option.getD_some, List.set_cons_succ, List.set_cons_zero, Value.cells, List.toList_toArray] at hS)))
  go_loopw [8] (fun c wr => ∃ j : Nat, j ≤ n ∧ c = .int .i64 j ∧ Hid (∀ q y, q < j → zs[q]? = some y → p y = false) ∧ St w0 wr (.row 70 3 ao n cap xs :: R)) (fun c _ => n - (intOf c).toNat)
  case atStart => exact ⟨0, Nat.zero_le _, rfl, Lib.hid (fun q y hq => absurd hq (Nat.not_lt_zero _)), hS⟩
  case round =>
    clear hS
    obtain ⟨j, hj, rfl, HB, hS⟩ := hrel
    by_cases hlt : j < n
    · obtain ⟨x, hx⟩ : ∃ x, zs[j]? = some x := ⟨_, List.getElem?_eq_getElem (by have := HL.out; omega)⟩
      rcases row_head (hS.at_ 0 rfl) with ⟨_, hh, _⟩ | ⟨⟨g1, rfl⟩, _⟩
      · omega
      have hel : wr.rangeAt g1 (j * 3) [.int .i64 x.session, .int .i64 x.seq, .bool x.reader] := row_range (hS.at_ 0 rfl) (fun i v hv => by rw [HXS.out]; exact flat_get askW_len hx i v hv)
      have HEL := Lib.hid hel
      have HX := Lib.hid hx
      clear hel hx
      skip
      by_cases hp : p x = true
      · have HP := Lib.hid hp
        clear hp
        go_wp2_with (first | ((with_reducible show WGd ..); (with_reducible apply wpA_guard); exact rfl; skip) | ((with_reducible show WLd ..); (with_reducible apply wpA_loadN (t := 70)); exact rfl; exact HEL.out; kernel_rfl; kernel_rfl; (try simp only [Act.put, List.setIfInBounds_toArray, List.set_cons_zero, List.set_cons_succ])) | (go_at_call 78; with_reducible refine (HCL.out [_] _ x hS).mono ?_; rintro _ _ ⟨rfl, hS⟩; rw [HP.out]; simp only [List.cons_append, List.nil_append] at hS) | ((with_reducible show WLd ..); (with_reducible apply wpA_load); exact rfl; (first | ((with_reducible apply St.cellI hS); (focus repeat constructor); exact rfl) | assumption); kernel_rfl) | ((with_reducible show WSt ..); (with_reducible apply wpA_store1I hS); exact rfl; (focus repeat constructor); exact rfl; exact rfl; exact rfl; exact rfl; kernel_rfl; intro wx hS; (try simp only [Act.put, List.setIfInBounds_toArray, List.set_cons_zero, List.set_cons_succ]); (try simp only [Act.eval, Array.getD_eq_getD_getElem?, List.getElem?_toArray, List.getElem?_cons_succ, List.getElem?_cons_zero, Option.getD_some, List.set_cons_succ, List.set_cons_zero, Value.cells, List.toList_toArray] at hS)) | ((with_reducible show WBx ..); (with_reducible apply wpA_box hS); exact rfl; exact rfl; intro _ wx hS; (try simp only [Act.put, List.setIfInBounds_toArray, List.set_cons_zero, List.set_cons_succ]); (try simp only [Act.eval, Array.getD_eq_getD_getElem?, List.getElem?_toArray, List.getElem?_cons_succ, List.getElem?_cons_zero, Option.getD_some, List.set_cons_succ, List.set_cons_zero, Value.cells, List.toList_toArray] at hS)))
        go_ret
        have e := idxD_some HX.out HP.out HB.out
        rw [e]
        exact ⟨rfl, hS⟩
      · have hp' : p x = false := by simpa using hp
        have HP := Lib.hid hp'
        clear hp hp'
        go_wp2_with (first | ((with_reducible show WGd ..); (with_reducible apply wpA_guard); exact rfl; skip) | ((with_reducible show WLd ..); (with_reducible apply wpA_loadN (t := 70)); exact rfl; exact HEL.out; kernel_rfl; kernel_rfl; (try simp only [Act.put, List.setIfInBounds_toArray, List.set_cons_zero, List.set_cons_succ])) | (go_at_call 78; with_reducible refine (HCL.out [_] _ x hS).mono ?_; rintro _ _ ⟨rfl, hS⟩; rw [HP.out]; simp only [List.cons_append, List.nil_append] at hS) | ((with_reducible show WLd ..); (with_reducible apply wpA_load); exact rfl; (first | ((with_reducible apply St.cellI hS); (focus repeat constructor); exact rfl) | assumption); kernel_rfl) | ((with_reducible show WSt ..); (with_reducible apply wpA_store1I hS); exact rfl; (focus repeat constructor); exact rfl; exact rfl; exact rfl; exact rfl; kernel_rfl; intro wx hS; (try simp only [Act.put, List.setIfInBounds_toArray, List.set_cons_zero, List.set_cons_succ]); (try simp only [Act.eval, Array.getD_eq_getD_getElem?, List.getElem?_toArray, List.getElem?_cons_succ, List.getElem?_cons_zero, Option.getD_some, List.set_cons_succ, List.set_cons_zero, Value.cells, List.toList_toArray] at hS)) | ((with_reducible show WBx ..); (with_reducible apply wpA_box hS); exact rfl; exact rfl; intro _ wx hS; (try simp only [Act.put, List.setIfInBounds_toArray, List.set_cons_zero, List.set_cons_succ]); (try simp only [Act.eval, Array.getD_eq_getD_getElem?, List.getElem?_toArray, List.getElem?_cons_succ, List.getElem?_cons_zero, Option.getD_some, List.set_cons_succ, List.set_cons_zero, Value.cells, List.toList_toArray] at hS)))
        go_roundw
        case rel =>
          refine ⟨j + 1, by omega, by go_num, Lib.hid (fun q y hq hy => ?_), hS⟩
          by_cases hqj : q < j
          · exact HB.out q y hqj hy
          · obtain rfl : q = j := by omega
            have := HX.out
            rw [hy] at this; obtain rfl := Option.some.inj this
            exact HP.out
        case measure => simp [intOf]; omega
    · go_wp2_with (first | ((with_reducible show WGd ..); (with_reducible apply wpA_guard); exact rfl; skip) | ((with_reducible show WLd ..); (with_reducible apply wpA_load); exact rfl; (first | ((with_reducible apply St.cellI hS); (focus repeat constructor); exact rfl) | assumption); kernel_rfl) | ((with_reducible show WSt ..); (with_reducible apply wpA_store1I hS); exact rfl; (focus repeat constructor); exact rfl; exact rfl; exact rfl; exact rfl; kernel_rfl; intro wx hS; (try simp only [Act.put, List.setIfInBounds_toArray, List.set_cons_zero, List.set_cons_succ]); (try simp only [Act.eval, Array.getD_eq_getD_getElem?, List.getElem?_toArray, List.getElem?_cons_succ, List.getElem?_cons_zero, Option.getD_some, List.set_cons_succ, List.set_cons_zero, Value.cells, List.toList_toArray] at hS)) | ((with_reducible show WBx ..); (with_reducible apply wpA_box hS); exact rfl; exact rfl; intro _ wx hS; (try simp only [Act.put, List.setIfInBounds_toArray, List.set_cons_zero, List.set_cons_succ]); (try simp only [Act.eval, Array.getD_eq_getD_getElem?, List.getElem?_toArray, List.getElem?_cons_succ, List.getElem?_cons_zero, Option.getD_some, List.set_cons_succ, List.set_cons_zero, Value.cells, List.toList_toArray] at hS)))
      go_ret
      have e : idxD p zs = -1 := idxD_none (fun x hx => by
        obtain ⟨q, hq⟩ := List.getElem?_of_mem hx
        exact HB.out q x (by have := (List.getElem?_eq_some_iff.1 hq).1; have := HL.out; omega) hq)
      rw [e]
      exact ⟨rfl, hS⟩

set_option maxRecDepth 100000 in
set_option maxHeartbeats 1000000 in
theorem askW_contains (w0 w : World) (R : List Hp) (ao : Option Addr) (n cap : Nat) (xs : List Value) (zs : List WaitS) (p : WaitS → Bool) (pa : Addr) (hS : St w0 w (.row 70 3 ao n cap xs :: R)) (hxs : xs = zs.flatMap askW_cs) (hn : n ≤ 1000000000000)
    (hcl : ∀ (Hs : List Hp) (w : World) (x : WaitS), St w0 w (Hs ++ R) → Calls Try.prog 78 #[.agg #[.int .i64 x.session, .int .i64 x.seq, .bool x.reader], .pointer (some pa)] w fun e w' => e = .returned (.bool (p x)) ∧ St w0 w' (Hs ++ R)) :
    Calls Try.prog 77 #[.slice ao n cap, .func (.func 78) #[] #[.pointer (some pa)]] w fun e w' => e = .returned (.bool (zs.any p)) ∧ St w0 w' (.row 70 3 ao n cap xs :: R) := by
  have hidx := askW_index w0 w R ao n cap xs zs p pa hS hxs hn hcl
  rcases idxD_cases p zs with ⟨e1, e2⟩ | ⟨j, x, e1, e2, e3, e4⟩
  · rw [e1] at hidx
    have ea : zs.any p = false := by rw [List.any_eq_false]; intro x hx; rw [e2 x hx]; simp
    rw [ea]
    clear e1 e2 ea hcl hxs
    go_enter Try.func77, Try.ntmps77
    go_wp2_with (first | ((with_reducible show WGd ..); (with_reducible apply wpA_guard); exact rfl; skip) | (go_at_call 83; with_reducible refine (hidx).mono ?_; rintro _ _ ⟨rfl, hS⟩) | ((with_reducible show WLd ..); (with_reducible apply wpA_load); exact rfl; (first | ((with_reducible apply St.cellI hS); (focus repeat constructor); exact rfl) | assumption); kernel_rfl) | ((with_reducible show WSt ..); (with_reducible apply wpA_store1I hS); exact rfl; (focus repeat constructor); exact rfl; exact rfl; exact rfl; exact rfl; kernel_rfl; intro wx hS; (try simp only [Act.put, List.setIfInBounds_toArray, List.set_cons_zero, List.set_cons_succ]); (try simp only [Act.eval, Array.getD_eq_getD_getElem?, List.getElem?_toArray, List.getElem?_cons_succ, List.getElem?_cons_zero, Option.getD_some, List.set_cons_succ, List.set_cons_zero, Value.cells, List.toList_toArray] at hS)) | ((with_reducible show WBx ..); (with_reducible apply wpA_box hS); exact rfl; exact rfl; intro _ wx hS; (try simp only [Act.put, List.setIfInBounds_toArray, List.set_cons_zero, List.set_cons_succ]); (try simp only [Act.eval, Array.getD_eq_getD_getElem?, List.getElem?_toArray, List.getElem?_cons_succ, List.getElem?_cons_zero, Option.getD_some, List.set_cons_succ, List.set_cons_zero, Value.cells, List.toList_toArray] at hS)))
    go_ret
    exact ⟨rfl, hS⟩
  · rw [e1] at hidx
    have ea : zs.any p = true := List.any_eq_true.2 ⟨x, List.mem_of_getElem? e2, e3⟩
    rw [ea]
    clear e1 e2 e3 e4 ea hcl hxs
    have h0 : (0 : Int) ≤ (j : Int) := by omega
    go_enter Try.func77, Try.ntmps77
    go_wp2_with (first | ((with_reducible show WGd ..); (with_reducible apply wpA_guard); exact rfl; skip) | (go_at_call 83; with_reducible refine (hidx).mono ?_; rintro _ _ ⟨rfl, hS⟩) | ((with_reducible show WLd ..); (with_reducible apply wpA_load); exact rfl; (first | ((with_reducible apply St.cellI hS); (focus repeat constructor); exact rfl) | assumption); kernel_rfl) | ((with_reducible show WSt ..); (with_reducible apply wpA_store1I hS); exact rfl; (focus repeat constructor); exact rfl; exact rfl; exact rfl; exact rfl; kernel_rfl; intro wx hS; (try simp only [Act.put, List.setIfInBounds_toArray, List.set_cons_zero, List.set_cons_succ]); (try simp only [Act.eval, Array.getD_eq_getD_getElem?, List.getElem?_toArray, List.getElem?_cons_succ, List.getElem?_cons_zero, Option.getD_some, List.set_cons_succ, List.set_cons_zero, Value.cells, List.toList_toArray] at hS)) | ((with_reducible show WBx ..); (with_reducible apply wpA_box hS); exact rfl; exact rfl; intro _ wx hS; (try simp only [Act.put, List.setIfInBounds_toArray, List.set_cons_zero, List.set_cons_succ]); (try simp only [Act.eval, Array.getD_eq_getD_getElem?, List.getElem?_toArray, List.getElem?_cons_succ, List.getElem?_cons_zero, Option.getD_some, List.set_cons_succ, List.set_cons_zero, Value.cells, List.toList_toArray] at hS)))
    go_ret
    exact ⟨rfl, hS⟩

end Go.Proofs.Ytelbpnlpmaihhaa
