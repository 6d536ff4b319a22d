/-
  A proposer's Values, Accepted, Open, walked.
-/
import Derived.Test.YtkhjkicnalnibaaPropW
namespace Go.Proofs.Ytkhjkicnalnibaa
set_option linter.unusedVariables false
set_option linter.unusedSimpArgs false
open Go.RowKit

theorem cloneE {w0 w : World} {H : List Hp} (hS : St w0 w H) {ad : Addr} {m c : Nat} {news : List Value} (hsrc : ∀ w, St w0 w H → Src Try.prog w 7 (.slice (some ad) m c) m news) (hm : m ≤ 1000000000000) :
    Calls Try.prog 29 #[.slice (some ad) m c] w fun e w' => ∃ ao cap, e = .returned (.slice ao m cap) ∧ St w0 w' (.row 30 7 ao m cap news :: H) := by
  have hap := fun (w : World) (h : St w0 w H) => hsrc w h
  clear hsrc
  have hnil := fun (w : World) (a : Option Addr) (n c n' c' : Nat) => Lib.run_eql_slice_nil (P := Try.prog) w _ _ a n c n' c' Try.underlying26
  go_enter Try.func29, Try.ntmps29
  go_wp2_with (first | ((with_reducible show WGd ..); (with_reducible apply wpA_guard); exact rfl; skip) | ((first | ((with_reducible show WBs ..); (with_reducible apply wpA_build0 7 hS); exact Try.underlying26; kernel_rfl; intro _ wx hS) | ((with_reducible show WAp ..); (with_reducible apply wpA_append hS 0 (z := .agg #[.int .i64 0, .int .i64 0, .int .i64 0, .int .i64 0, .int .i64 0, .string ⟨#[]⟩, .int .i64 0]) (size := 7) (bytes := 64)); exact rfl; exact rfl; exact rfl; exact Try.underlying26; exact .inr Try.underlying26; kernel_rfl; exact rfl; exact (by have := hap _ hS.tail; exact this); exact (by unfold maxLen; omega); exact (by omega); intro ao2 cap2 wx hS)); (try simp only [Act.put, List.setIfInBounds_toArray, List.set_cons_zero, List.set_cons_succ])) | ((with_reducible show WLd ..); (with_reducible apply wpA_load); exact rfl; (first | ((with_reducible apply St.cellI hS); (focus repeat constructor); exact rfl) | assumption); kernel_rfl) | ((with_reducible show WSt ..); (with_reducible apply wpA_store1I hS); exact rfl; (focus repeat constructor); exact rfl; exact rfl; exact rfl; exact rfl; kernel_rfl; intro wx hS; (try simp only [Act.put, List.setIfInBounds_toArray, List.set_cons_zero, List.set_cons_succ]); (try simp only [Act.eval, Array.getD_eq_getD_getElem?, List.getElem?_toArray, List.getElem?_cons_succ, List.getElem?_cons_zero, Option.getD_some, List.set_cons_succ, List.set_cons_zero, Value.cells, List.toList_toArray] at hS)) | ((with_reducible show WBx ..); (with_reducible apply wpA_box hS); exact rfl; exact rfl; intro _ wx hS; (try simp only [Act.put, List.setIfInBounds_toArray, List.set_cons_zero, List.set_cons_succ]); (try simp only [Act.eval, Array.getD_eq_getD_getElem?, List.getElem?_toArray, List.getElem?_cons_succ, List.getElem?_cons_zero, Option.getD_some, List.set_cons_succ, List.set_cons_zero, Value.cells, List.toList_toArray] at hS)))
  go_ret
  rw [Nat.zero_add] at hS ⊢
  rw [List.nil_append] at hS
  exact ⟨_, _, rfl, hS⟩
theorem cloneE_nil (w : World) : Calls Try.prog 29 #[.slice none 0 0] w fun e w' => e = .returned (.slice none 0 0) ∧ w = w' := by
  have hnil := fun (w : World) (a : Option Addr) (n c n' c' : Nat) => Lib.run_eql_slice_nil (P := Try.prog) w _ _ a n c n' c' Try.underlying26
  go_enter Try.func29, Try.ntmps29
  go_wp2
  go_ret
  exact ⟨rfl, rfl⟩


theorem ents_one (l : List EntS) : ∀ u ∈ l.flatMap EntS.cells, u.oneCell' = true := by
  intro u hu
  obtain ⟨x, _, hx⟩ := List.mem_flatMap.1 hu
  simp [EntS.cells] at hx
  rcases hx with rfl | rfl | rfl | rfl | rfl | rfl | rfl <;> rfl

section
variable {w0 w : World} {R : List Hp} {p : Nat} {σ : PropS}

set_option maxRecDepth 100000 in
set_option maxHeartbeats 4000000 in
theorem values_c (h : PropSt w0 w p σ R) (hl : σ.vals.length ≤ 100000000) : Calls Try.prog 11 #[.pointer (some ⟨p, 0, none⟩)] w fun e w' => ∃ ao cap, e = .returned (.slice ao σ.vals.length cap) ∧ PropSt w0 w' p σ (vrow ao cap σ.vals :: R) := by
  obtain ⟨mw, mb, mo, va, vc, O, hO, hS⟩ := h
  obtain ⟨D, hD⟩ : ∃ D, O.flatMap ohp ++ R = D := ⟨_, rfl⟩
  rw [hD] at hS
  have HZ := Lib.hid (And.intro hO hD)
  clear hO hD
  have hfin : ∀ ao cap w', St w0 w' (vrow ao cap σ.vals :: pc p mw mb mo σ va σ.vals.length vc :: .mp mw (.int .i64) (σ.who.map kvW) :: .mp mb (.int .i64) (σ.best.map kvB) :: vrow va vc σ.vals :: .mp mo (.int .i64) (O.map kvO) :: D) → PropSt w0 w' p σ (vrow ao cap σ.vals :: R) := fun ao cap w' h => by
    obtain ⟨hO, hD⟩ := HZ.out
    refine ⟨mw, mb, mo, va, vc, O, hO, ?_⟩
    rw [← hD] at h
    exact h.perm (List.perm_middle (l₁ := [_, _, _, _, _] ++ O.flatMap ohp)).symm
  have HF := Lib.hid hfin
  clear hfin
  rcases row_head (hS.at_ 3 rfl) with ⟨rfl, hh, rfl⟩ | ⟨⟨g, rfl⟩, _⟩
  · have hv : σ.vals = [] := List.length_eq_zero_iff.1 hh
    have HV := Lib.hid hv
    obtain ⟨n, ballot, frm, next, who, best, ready, vals, opn⟩ := σ
    simp only at hv hS HF ⊢
    subst hv
    simp only [List.length_nil] at hS ⊢
    clear hh hl
    go_enter Try.func11, Try.ntmps11
    go_wp2_with (first | ((with_reducible show WGd ..); (with_reducible apply wpA_guard); exact rfl; skip) | (go_at_call 29; with_reducible refine (cloneE_nil _).mono ?_; rintro _ _ ⟨rfl, rfl⟩) | ((with_reducible show WLd ..); (with_reducible apply wpA_load); exact rfl; (first | ((with_reducible apply St.cellI hS); (focus repeat constructor); exact rfl) | assumption); kernel_rfl) | ((with_reducible show WSt ..); (with_reducible apply wpA_store1I hS); exact rfl; (focus repeat constructor); exact rfl; exact rfl; exact rfl; exact rfl; kernel_rfl; intro wx hS; (try simp only [Act.put, List.setIfInBounds_toArray, List.set_cons_zero, List.set_cons_succ]); (try simp only [Act.eval, Array.getD_eq_getD_getElem?, List.getElem?_toArray, List.getElem?_cons_succ, List.getElem?_cons_zero, Option.getD_some, List.set_cons_succ, List.set_cons_zero, Value.cells, List.toList_toArray] at hS)) | ((with_reducible show WBx ..); (with_reducible apply wpA_box hS); exact rfl; exact rfl; intro _ wx hS; (try simp only [Act.put, List.setIfInBounds_toArray, List.set_cons_zero, List.set_cons_succ]); (try simp only [Act.eval, Array.getD_eq_getD_getElem?, List.getElem?_toArray, List.getElem?_cons_succ, List.getElem?_cons_zero, Option.getD_some, List.set_cons_succ, List.set_cons_zero, Value.cells, List.toList_toArray] at hS)))
    go_ret
    exact ⟨none, 0, rfl, HF.out none 0 _ (hS.nilRow 30 7)⟩
  · obtain ⟨n, ballot, frm, next, who, best, ready, vals, opn⟩ := σ
    simp only at hS HF hl ⊢
    go_enter Try.func11, Try.ntmps11
    go_wp2_with (first | ((with_reducible show WGd ..); (with_reducible apply wpA_guard); exact rfl; skip) | (go_at_call 29; with_reducible refine (cloneE hS (ad := ⟨g, 0, none⟩) (news := vals.flatMap EntS.cells) (fun w h => Src.row (h.at_ 3 rfl) (ents_one _)) (by omega)).mono ?_; rintro _ _ ⟨ao, cap, rfl, hS⟩) | ((with_reducible show WLd ..); (with_reducible apply wpA_load); exact rfl; (first | ((with_reducible apply St.cellI hS); (focus repeat constructor); exact rfl) | assumption); kernel_rfl) | ((with_reducible show WSt ..); (with_reducible apply wpA_store1I hS); exact rfl; (focus repeat constructor); exact rfl; exact rfl; exact rfl; exact rfl; kernel_rfl; intro wx hS; (try simp only [Act.put, List.setIfInBounds_toArray, List.set_cons_zero, List.set_cons_succ]); (try simp only [Act.eval, Array.getD_eq_getD_getElem?, List.getElem?_toArray, List.getElem?_cons_succ, List.getElem?_cons_zero, Option.getD_some, List.set_cons_succ, List.set_cons_zero, Value.cells, List.toList_toArray] at hS)) | ((with_reducible show WBx ..); (with_reducible apply wpA_box hS); exact rfl; exact rfl; intro _ wx hS; (try simp only [Act.put, List.setIfInBounds_toArray, List.set_cons_zero, List.set_cons_succ]); (try simp only [Act.eval, Array.getD_eq_getD_getElem?, List.getElem?_toArray, List.getElem?_cons_succ, List.getElem?_cons_zero, Option.getD_some, List.set_cons_succ, List.set_cons_zero, Value.cells, List.toList_toArray] at hS)))
    go_ret
    exact ⟨ao, cap, rfl, HF.out _ _ _ hS⟩

theorem lenMap_val {P : Program} {H : List Hp} {a : Act} {dst : Option Tmp} {ty : TypeId} {pos : String} {after : Array Edge} {gd : Option (Nat × Bool)} {t k e : TypeId} {m : Operand} {b : Nat} {d : TypeDesc} {kvs : List (Value × Value)} (hS : St w0 w H) (i : Nat) (hm : a.eval m = .map (some b)) (hi : H[i]? = some (.mp b d kvs)) (ht : P.underlying t = some (.map k e)) :
    (execOp a.eval ⟨dst, .call { callee := .builtin .len, args := #[m], argTypes := #[t] }, ty, pos, after, gd⟩).run P w = .ok (.value (.int .i64 kvs.length)) w := by
  have hrun := run_len_mp (P := P) (ty := ty) ht (hS.at_ i hi)
  simp [execOp, resolve, invoke, builtin, hm, hrun, Result.andThen]

theorem srv_n {H : List Hp} {mw mb mo : Nat} {va : Option Addr} {vl vc : Nat} (k : Int) {n ballot frm next : Int} {who : List Int} {best : List EntS} {ready : Bool} {vals : List EntS} {opn : List SlotS} (hS : St w0 w (pc p mw mb mo ⟨n, ballot, frm, next, who, best, ready, vals, opn⟩ va vl vc :: H)) :
    Calls Try.prog 25 #[.pointer (some ⟨p, 0, none⟩), .int .i64 k] w fun e w' => e = .returned (.bool (srvD n k)) ∧ St w0 w' (pc p mw mb mo ⟨n, ballot, frm, next, who, best, ready, vals, opn⟩ va vl vc :: H) :=
  srv_c hS p n k (fun w h => h.cell 0 rfl 0 rfl)
theorem srv_b {H : List Hp} {mw mb mo : Nat} {va : Option Addr} {vl vc : Nat} (k : Int) {n ballot frm next : Int} {who : List Int} {best : List EntS} {ready : Bool} {vals : List EntS} {opn : List SlotS} (hS : St w0 w (pc p mw mb mo ⟨n, ballot, frm, next, who, best, ready, vals, opn⟩ va vl vc :: H)) {b : Bool} (hb : srvD n k = b) :
    Calls Try.prog 25 #[.pointer (some ⟨p, 0, none⟩), .int .i64 k] w fun e w' => e = .returned (.bool b) ∧ St w0 w' (pc p mw mb mo ⟨n, ballot, frm, next, who, best, ready, vals, opn⟩ va vl vc :: H) := by
  subst hb
  exact srv_n k hS
end
section
variable {w0 w : World} {R : List Hp} {p : Nat} {σ : PropS}

set_option maxRecDepth 100000 in
set_option maxHeartbeats 4000000 in
theorem accepted_c (h : PropSt w0 w p σ R) (k s : Int) (hn : σ.n ≤ 1000000000000) (hw : ∀ x ∈ σ.opn, x.who.length ≤ 1000000000000) : Calls Try.prog 13 #[.pointer (some ⟨p, 0, none⟩), .int .i64 k, .int .i64 s] w fun e w' => e = .returned (.bool (acceptedD σ k s).1) ∧ PropSt w0 w' p (acceptedD σ k s).2 R := by
  obtain ⟨mw, mb, mo, va, vc, O, hO, hS⟩ := h
  obtain ⟨kvs, hkv⟩ : ∃ kvs, O.map kvO = kvs := ⟨_, rfl⟩
  cases hv : srvD σ.n k with
  | false =>
    have e : acceptedD σ k s = (false, σ) := by unfold acceptedD; rw [if_pos hv]
    rw [e]
    obtain ⟨D, hD⟩ : ∃ D, O.flatMap ohp ++ R = D := ⟨_, rfl⟩
    rw [hkv, hD] at hS
    have HZ := Lib.hid (And.intro hO (And.intro hkv hD))
    have HV := Lib.hid hv
    clear hO hkv hD e hv hw
    obtain ⟨n, ballot, frm, next, who, best, ready, vals, opn⟩ := σ
    simp only at hS HV ⊢
    go_enter Try.func13, Try.ntmps13
    go_wp2_with (first | ((with_reducible show WGd ..); (with_reducible apply wpA_guard); exact rfl; skip) | (go_at_call 25; with_reducible refine (srv_b k hS HV.out).mono ?_; rintro _ _ ⟨rfl, hS⟩) | ((with_reducible show WLd ..); (with_reducible apply wpA_load); exact rfl; (first | ((with_reducible apply St.cellI hS); (focus repeat constructor); exact rfl) | assumption); kernel_rfl) | ((with_reducible show WSt ..); (with_reducible apply wpA_store1I hS); exact rfl; (focus repeat constructor); exact rfl; exact rfl; exact rfl; exact rfl; kernel_rfl; intro wx hS; (try simp only [Act.put, List.setIfInBounds_toArray, List.set_cons_zero, List.set_cons_succ]); (try simp only [Act.eval, Array.getD_eq_getD_getElem?, List.getElem?_toArray, List.getElem?_cons_succ, List.getElem?_cons_zero, Option.getD_some, List.set_cons_succ, List.set_cons_zero, Value.cells, List.toList_toArray] at hS)) | ((with_reducible show WBx ..); (with_reducible apply wpA_box hS); exact rfl; exact rfl; intro _ wx hS; (try simp only [Act.put, List.setIfInBounds_toArray, List.set_cons_zero, List.set_cons_succ]); (try simp only [Act.eval, Array.getD_eq_getD_getElem?, List.getElem?_toArray, List.getElem?_cons_succ, List.getElem?_cons_zero, Option.getD_some, List.set_cons_succ, List.set_cons_zero, Value.cells, List.toList_toArray] at hS)))
    go_ret
    obtain ⟨hO, hkv, hD⟩ := HZ.out
    rw [← hkv, ← hD] at hS
    exact ⟨rfl, mw, mb, mo, va, vc, O, hO, hS⟩
  | true =>
    have HV := Lib.hid hv
    cases hx : slotAt σ.opn s with
    | none =>
      have e : acceptedD σ k s = (false, σ) := by unfold acceptedD; rw [if_neg (by simp [hv]), hx]
      rw [e]
      have hno : ∀ q ∈ kvs, q.1 ≠ Value.int .i64 s := by rw [← hkv]; exact kvO_none hO hx
      obtain ⟨D, hD⟩ : ∃ D, O.flatMap ohp ++ R = D := ⟨_, rfl⟩
      rw [hkv, hD] at hS
      have HZ := Lib.hid (And.intro hO (And.intro hkv hD))
      have HJ := Lib.hid hno
      clear hO hkv hD e hv hw hno hx
      obtain ⟨n, ballot, frm, next, who, best, ready, vals, opn⟩ := σ
      simp only at hS HV ⊢
      go_enter Try.func13, Try.ntmps13
      go_wp2_with (first | ((with_reducible show WGd ..); (with_reducible apply wpA_guard); exact rfl; skip) | (go_at_call 25; with_reducible refine (srv_b k hS HV.out).mono ?_; rintro _ _ ⟨rfl, hS⟩) | ((with_reducible show WLk ..); (with_reducible apply wpA_lookup hS 4 (z := .pointer none) (r := none)); exact rfl; exact rfl; exact rfl; exact Try.underlying56; exact Try.underlying3; exact rfl; kernel_rfl; exact HJ.out; dsimp only [Option.getD, Option.isSome, if_true, Bool.false_eq_true, if_false]) | ((with_reducible show WLd ..); (with_reducible apply wpA_load); exact rfl; (first | ((with_reducible apply St.cellI hS); (focus repeat constructor); exact rfl) | assumption); kernel_rfl) | ((with_reducible show WSt ..); (with_reducible apply wpA_store1I hS); exact rfl; (focus repeat constructor); exact rfl; exact rfl; exact rfl; exact rfl; kernel_rfl; intro wx hS; (try simp only [Act.put, List.setIfInBounds_toArray, List.set_cons_zero, List.set_cons_succ]); (try simp only [Act.eval, Array.getD_eq_getD_getElem?, List.getElem?_toArray, List.getElem?_cons_succ, List.getElem?_cons_zero, Option.getD_some, List.set_cons_succ, List.set_cons_zero, Value.cells, List.toList_toArray] at hS)) | ((with_reducible show WBx ..); (with_reducible apply wpA_box hS); exact rfl; exact rfl; intro _ wx hS; (try simp only [Act.put, List.setIfInBounds_toArray, List.set_cons_zero, List.set_cons_succ]); (try simp only [Act.eval, Array.getD_eq_getD_getElem?, List.getElem?_toArray, List.getElem?_cons_succ, List.getElem?_cons_zero, Option.getD_some, List.set_cons_succ, List.set_cons_zero, Value.cells, List.toList_toArray] at hS)))
      go_ret
      obtain ⟨hO, hkv, hD⟩ := HZ.out
      rw [← hkv, ← hD] at hS
      exact ⟨rfl, mw, mb, mo, va, vc, O, hO, hS⟩
    | some i =>
      obtain ⟨x, hi, hs⟩ := idx_some hx
      have e : acceptedD σ k s = if x.most = true ∨ k ∈ x.who then (false, σ)
          else (decide (majD σ.n ≤ ((x.who ++ [k]).length : Int)), { σ with opn := σ.opn.set i ⟨x.e, x.who ++ [k], decide (majD σ.n ≤ ((x.who ++ [k]).length : Int))⟩ }) := by
        unfold acceptedD
        rw [if_neg (by simp [hv]), hx]
        simp only [getD_of hi]
      rw [e]
      have hwl := hw x (List.mem_of_getElem? hi)
      have hi0 := hi
      rw [← hO, List.getElem?_map] at hi
      obtain ⟨z, hz, rfl⟩ := Option.map_eq_some_iff.1 hi
      obtain ⟨blk, mw1, x⟩ := z
      simp only at hs hi0 hwl ⊢
      have hki : ∃ j : Nat, kvs[j]? = some (Value.int .i64 s, Value.pointer (some ⟨blk, 0, none⟩)) := ⟨i, by rw [← hkv, List.getElem?_map, hz]; simp [kvO, hs]⟩
      have hS2 := St.takeOut (f := ohp) (A := [_, _, _, _, _]) (R := R) hz hS
      obtain ⟨D, hD⟩ : ∃ D, (O.eraseIdx i).flatMap ohp ++ R = D := ⟨_, rfl⟩
      rw [hkv, hD] at hS2
      have hfin : ∀ x' w', x'.e = x.e → St w0 w' (pc p mw mb mo σ va σ.vals.length vc :: .mp mw (.int .i64) (σ.who.map kvW) :: .mp mb (.int .i64) (σ.best.map kvB) :: vrow va vc σ.vals :: .mp mo (.int .i64) kvs :: (ohp ⟨blk, mw1, x'⟩ ++ D)) → PropSt w0 w' p { σ with opn := σ.opn.set i x' } R := by
        intro x' w' hx' h
        refine ⟨mw, mb, mo, va, vc, O.set i ⟨blk, mw1, x'⟩, by rw [List.map_set, hO], ?_⟩
        rw [← hkv, ← hD] at h
        rw [map_set_same hz (by simp [kvO, hx'])]
        exact St.putIn (f := ohp) (A := [_, _, _, _, _]) (R := R) (z' := ⟨blk, mw1, x'⟩) hz h
      have hsame : { σ with opn := σ.opn.set i x } = σ := by rw [set_same hi0]
      have HF := Lib.hid hfin
      have HSM := Lib.hid hsame
      have HJ := Lib.hid hki
      clear hfin hsame hki hD hz hi hi0 hkv hO hx e hv hw hS
      have hS := hS2
      clear hS2
      obtain ⟨en, xw, most⟩ := x
      obtain ⟨sl, bl, ⟨ck, cs, cq, cn, c5⟩⟩ := en
      simp only [ohp, sCells, List.cons_append, List.nil_append] at hS
      simp only at hwl
      obtain ⟨n, ballot, frm, next, who, best, ready, vals, opn⟩ := σ
      simp only at hS HV HSM HF hn ⊢
      cases most with
      | true =>
        rw [if_pos (.inl rfl)]
        go_enter Try.func13, Try.ntmps13
        go_wp2_with (first | ((with_reducible show WGd ..); (with_reducible apply wpA_guard); exact rfl; skip) | (go_at_call 25; with_reducible refine (srv_b k hS HV.out).mono ?_; rintro _ _ ⟨rfl, hS⟩) | ((with_reducible apply wpA_lookup hS 4 (z := .pointer none) (r := some (.pointer (some ⟨blk, 0, none⟩)))); exact rfl; exact rfl; exact rfl; exact Try.underlying56; exact Try.underlying3; exact rfl; kernel_rfl; exact HJ.out; dsimp only [Option.getD, Option.isSome, if_true, Bool.false_eq_true, if_false]) | ((with_reducible show WLd ..); (with_reducible apply wpA_load); exact rfl; (first | ((with_reducible apply St.cellI hS); (focus repeat constructor); exact rfl) | assumption); kernel_rfl) | ((with_reducible show WSt ..); (with_reducible apply wpA_store1I hS); exact rfl; (focus repeat constructor); exact rfl; exact rfl; exact rfl; exact rfl; kernel_rfl; intro wx hS; (try simp only [Act.put, List.setIfInBounds_toArray, List.set_cons_zero, List.set_cons_succ]); (try simp only [Act.eval, Array.getD_eq_getD_getElem?, List.getElem?_toArray, List.getElem?_cons_succ, List.getElem?_cons_zero, Option.getD_some, List.set_cons_succ, List.set_cons_zero, Value.cells, List.toList_toArray] at hS)) | ((with_reducible show WBx ..); (with_reducible apply wpA_box hS); exact rfl; exact rfl; intro _ wx hS; (try simp only [Act.put, List.setIfInBounds_toArray, List.set_cons_zero, List.set_cons_succ]); (try simp only [Act.eval, Array.getD_eq_getD_getElem?, List.getElem?_toArray, List.getElem?_cons_succ, List.getElem?_cons_zero, Option.getD_some, List.set_cons_succ, List.set_cons_zero, Value.cells, List.toList_toArray] at hS)))
        go_ret
        exact ⟨rfl, by have h2 := HF.out ⟨⟨sl, bl, ⟨ck, cs, cq, cn, c5⟩⟩, xw, true⟩ _ rfl hS; rwa [HSM.out] at h2⟩
      | false =>
        by_cases hkw : k ∈ xw
        · rw [if_pos (.inr hkw)]
          have HW := Lib.hid (kvW_some hkw)
          clear hkw
          go_enter Try.func13, Try.ntmps13
          go_wp2_with (first | ((with_reducible show WGd ..); (with_reducible apply wpA_guard); exact rfl; skip) | (go_at_call 25; with_reducible refine (srv_b k hS HV.out).mono ?_; rintro _ _ ⟨rfl, hS⟩) | ((with_reducible apply wpA_lookup hS 4 (z := .pointer none) (r := some (.pointer (some ⟨blk, 0, none⟩)))); exact rfl; exact rfl; exact rfl; exact Try.underlying56; exact Try.underlying3; exact rfl; kernel_rfl; exact HJ.out; dsimp only [Option.getD, Option.isSome, if_true, Bool.false_eq_true, if_false]) | ((with_reducible show WLk ..); (with_reducible apply wpA_lookup hS 6 (z := .bool false) (r := some (.bool true))); exact rfl; exact rfl; exact rfl; exact Try.underlying54; exact Try.underlying3; exact rfl; kernel_rfl; exact HW.out; dsimp only [Option.getD, Option.isSome, if_true, Bool.false_eq_true, if_false]) | ((with_reducible show WLd ..); (with_reducible apply wpA_load); exact rfl; (first | ((with_reducible apply St.cellI hS); (focus repeat constructor); exact rfl) | assumption); kernel_rfl) | ((with_reducible show WSt ..); (with_reducible apply wpA_store1I hS); exact rfl; (focus repeat constructor); exact rfl; exact rfl; exact rfl; exact rfl; kernel_rfl; intro wx hS; (try simp only [Act.put, List.setIfInBounds_toArray, List.set_cons_zero, List.set_cons_succ]); (try simp only [Act.eval, Array.getD_eq_getD_getElem?, List.getElem?_toArray, List.getElem?_cons_succ, List.getElem?_cons_zero, Option.getD_some, List.set_cons_succ, List.set_cons_zero, Value.cells, List.toList_toArray] at hS)) | ((with_reducible show WBx ..); (with_reducible apply wpA_box hS); exact rfl; exact rfl; intro _ wx hS; (try simp only [Act.put, List.setIfInBounds_toArray, List.set_cons_zero, List.set_cons_succ]); (try simp only [Act.eval, Array.getD_eq_getD_getElem?, List.getElem?_toArray, List.getElem?_cons_succ, List.getElem?_cons_zero, Option.getD_some, List.set_cons_succ, List.set_cons_zero, Value.cells, List.toList_toArray] at hS)))
          go_ret
          exact ⟨rfl, by have h2 := HF.out ⟨⟨sl, bl, ⟨ck, cs, cq, cn, c5⟩⟩, xw, false⟩ _ rfl hS; rwa [HSM.out] at h2⟩
        · rw [if_neg (by rintro (h | h); cases h; exact hkw h)]
          have HW := Lib.hid (kvW_none hkw)
          clear hkw
          go_enter Try.func13, Try.ntmps13
          go_wp2_with (first | ((with_reducible show WGd ..); (with_reducible apply wpA_guard); exact rfl; skip) | (go_at_call 25; with_reducible refine (srv_b k hS HV.out).mono ?_; rintro _ _ ⟨rfl, hS⟩) | ((with_reducible apply wpA_lookup hS 4 (z := .pointer none) (r := some (.pointer (some ⟨blk, 0, none⟩)))); exact rfl; exact rfl; exact rfl; exact Try.underlying56; exact Try.underlying3; exact rfl; kernel_rfl; exact HJ.out; dsimp only [Option.getD, Option.isSome, if_true, Bool.false_eq_true, if_false]) | ((with_reducible show WLk ..); (with_reducible apply wpA_lookup hS 6 (z := .bool false) (r := none)); exact rfl; exact rfl; exact rfl; exact Try.underlying54; exact Try.underlying3; exact rfl; kernel_rfl; exact HW.out; dsimp only [Option.getD, Option.isSome, if_true, Bool.false_eq_true, if_false]) | ((with_reducible show WUp ..); (with_reducible apply wpA_update_new hS 6); exact rfl; exact rfl; exact rfl; exact rfl; exact Try.underlying54; exact Try.underlying3; exact rfl; exact HW.out; intro wx hS; (try simp only [Act.put, List.setIfInBounds_toArray, List.set_cons_zero, List.set_cons_succ]); (try simp only [Act.eval, Array.getD_eq_getD_getElem?, List.getElem?_toArray, List.getElem?_cons_succ, List.getElem?_cons_zero, Option.getD_some, List.set_cons_succ, List.set_cons_zero, Value.cells, List.toList_toArray] at hS)) | ((with_reducible show WLd ..); (with_reducible apply wpA_load); exact rfl; (first | ((with_reducible apply St.cellI hS); (focus repeat constructor); exact rfl) | assumption); kernel_rfl) | ((with_reducible show WSt ..); (with_reducible apply wpA_store1I hS); exact rfl; (focus repeat constructor); exact rfl; exact rfl; exact rfl; exact rfl; kernel_rfl; intro wx hS; (try simp only [Act.put, List.setIfInBounds_toArray, List.set_cons_zero, List.set_cons_succ]); (try simp only [Act.eval, Array.getD_eq_getD_getElem?, List.getElem?_toArray, List.getElem?_cons_succ, List.getElem?_cons_zero, Option.getD_some, List.set_cons_succ, List.set_cons_zero, Value.cells, List.toList_toArray] at hS)) | ((with_reducible show WBx ..); (with_reducible apply wpA_box hS); exact rfl; exact rfl; intro _ wx hS; (try simp only [Act.put, List.setIfInBounds_toArray, List.set_cons_zero, List.set_cons_succ]); (try simp only [Act.eval, Array.getD_eq_getD_getElem?, List.getElem?_toArray, List.getElem?_cons_succ, List.getElem?_cons_zero, Option.getD_some, List.set_cons_succ, List.set_cons_zero, Value.cells, List.toList_toArray] at hS)))
          refine wp_region_E 14 hS (by kernel_rfl) (fun _ hR hS => ?_)
          simp only [List.length_cons, List.length_nil, Nat.reduceAdd]
          refine takeP_val (i := 0) ?_ rfl (by exact rfl) (by kernel_rfl) (fun _ _ _ h => h) ?_ hR (fun hR => ?_)
          rotate_left
          · intro w; go_simp; (first | done | (with_reducible rfl) | (refine (if_pos ?_).trans ?_; (focus omega); with_reducible rfl) | skip)
          (simp only [Act.put, List.setIfInBounds_toArray, List.set_cons_zero, List.set_cons_succ])
          refine takeP_val (i := 1) ?_ rfl (by exact rfl) (by kernel_rfl) (fun _ _ _ h => h) ?_ hR (fun hR => ?_)
          rotate_left
          · intro w; go_simp; (first | done | (with_reducible rfl) | (refine (if_pos ?_).trans ?_; (focus omega); with_reducible rfl) | skip)
          (simp only [Act.put, List.setIfInBounds_toArray, List.set_cons_zero, List.set_cons_succ])
          refine takeP_val (i := 2) ?_ rfl (by exact rfl) (by kernel_rfl) (fun _ _ _ h => h) ?_ hR (fun hR => ?_)
          rotate_left
          · intro w; go_simp; (first | done | (with_reducible rfl) | (refine (if_pos ?_).trans ?_; (focus omega); with_reducible rfl) | skip)
          (simp only [Act.put, List.setIfInBounds_toArray, List.set_cons_zero, List.set_cons_succ])
          refine takeP_val (i := 3) ?_ rfl (by exact rfl) (by kernel_rfl) (fun _ _ _ h => h) ?_ hR (fun hR => ?_)
          rotate_left
          · intro w; go_simp; (first | done | (with_reducible rfl) | (refine (if_pos ?_).trans ?_; (focus omega); with_reducible rfl) | skip)
          (simp only [Act.put, List.setIfInBounds_toArray, List.set_cons_zero, List.set_cons_succ])
          refine takeE_load (i := 4) [14] rfl (by exact rfl) (by kernel_rfl) (fun _ _ _ h => h) (by decide) rfl (fun w hS => by (first | ((with_reducible apply St.cellI hS); (focus repeat constructor); exact rfl) | assumption)) (by kernel_rfl) hR (fun hR => ?_)
          (simp only [Act.put, List.setIfInBounds_toArray, List.set_cons_zero, List.set_cons_succ])
          refine takeE_val (i := 5) [14] (.int .i64 ((xw.map kvW ++ [(Value.int .i64 k, Value.bool true)]).length : Nat)) rfl (by exact rfl) (by kernel_rfl) (fun _ _ _ h => h) (by decide) (fun w hS => by exact lenMap_val hS 6 rfl rfl Try.underlying54) hR (fun hR => ?_)
          (simp only [Act.put, List.setIfInBounds_toArray, List.set_cons_zero, List.set_cons_succ])
          refine takeP_val (i := 6) ?_ rfl (by exact rfl) (by kernel_rfl) (fun _ _ _ h => h) ?_ hR (fun hR => ?_)
          rotate_left
          · intro w; go_simp; (first | done | (with_reducible rfl) | (refine (if_pos ?_).trans ?_; (focus omega); with_reducible rfl) | skip)
          (simp only [Act.put, List.setIfInBounds_toArray, List.set_cons_zero, List.set_cons_succ])
          refine takeP_val (i := 7) ?_ rfl (by exact rfl) (by kernel_rfl) (fun _ _ _ h => h) ?_ hR (fun hR => ?_)
          rotate_left
          · intro w; go_simp; (first | done | (with_reducible rfl) | (refine (if_pos ?_).trans ?_; (focus omega); with_reducible rfl) | skip)
          (simp only [Act.put, List.setIfInBounds_toArray, List.set_cons_zero, List.set_cons_succ])
          refine takeP_val (i := 8) ?_ rfl (by exact rfl) (by kernel_rfl) (fun _ _ _ h => h) ?_ hR (fun hR => ?_)
          rotate_left
          · intro w; go_simp; (first | done | (with_reducible rfl) | (refine (if_pos ?_).trans ?_; (focus omega); with_reducible rfl) | skip)
          (simp only [Act.put, List.setIfInBounds_toArray, List.set_cons_zero, List.set_cons_succ])
          refine takeE_load (i := 9) [14] rfl (by exact rfl) (by kernel_rfl) (fun _ _ _ h => h) (by decide) rfl (fun w hS => by (first | ((with_reducible apply St.cellI hS); (focus repeat constructor); exact rfl) | assumption)) (by kernel_rfl) hR (fun hR => ?_)
          (simp only [Act.put, List.setIfInBounds_toArray, List.set_cons_zero, List.set_cons_succ])
          refine oneE (i := 10) (by kernel_rfl) rfl (by exact rfl) (fun K_ hK_ => ?_)
          (apply opA_call (f := 26) Try.func26 (by kernel_rfl); (focus ((try simp only [List.map_toArray, List.map_cons, List.map_nil, Act.eval, Array.getD_eq_getD_getElem?, List.getElem?_toArray, List.getElem?_cons_succ, List.getElem?_cons_zero, Option.getD_some]); exact rfl)); (focus (with_reducible exact (maj_c hS n hn))); rintro _ _ ⟨rfl, hS⟩; refine ⟨_, rfl, ?_⟩; skip)
          refine hK_ _ _ (fun _ => (hS)) ?_; clear hK_ K_
          (simp only [Act.put, List.setIfInBounds_toArray, List.set_cons_zero, List.set_cons_succ])
          refine takeP_val (i := 11) ?_ rfl (by exact rfl) (by kernel_rfl) (fun _ _ _ h => h) ?_ (fun _ => hS) (fun hR => ?_)
          rotate_left
          · intro w; go_simp; (first | done | (with_reducible rfl) | (refine (if_pos ?_).trans ?_; (focus omega); with_reducible rfl) | skip)
          (simp only [Act.put, List.setIfInBounds_toArray, List.set_cons_zero, List.set_cons_succ])
          refine takeP_val (i := 12) ?_ rfl (by exact rfl) (by kernel_rfl) (fun _ _ _ h => h) ?_ hR (fun hR => ?_)
          rotate_left
          · intro w; go_simp; (first | done | (with_reducible rfl) | (refine (if_pos ?_).trans ?_; (focus omega); with_reducible rfl) | skip)
          (simp only [Act.put, List.setIfInBounds_toArray, List.set_cons_zero, List.set_cons_succ])
          refine takeP_val (i := 13) ?_ rfl (by exact rfl) (by kernel_rfl) (fun _ _ _ h => h) ?_ hR (fun hR => ?_)
          rotate_left
          · intro w; go_simp; (first | done | (with_reducible rfl) | (refine (if_pos ?_).trans ?_; (focus omega); with_reducible rfl) | skip)
          (simp only [Act.put, List.setIfInBounds_toArray, List.set_cons_zero, List.set_cons_succ])
          refine oneE (i := 14) (by kernel_rfl) rfl (by exact rfl) (fun K_ hK_ => ?_)
          ((with_reducible apply opA_store1I hS); exact rfl; (focus repeat constructor); exact rfl; exact rfl; exact rfl; exact rfl; kernel_rfl; intro wx hS; (try simp only [Act.eval, Array.getD_eq_getD_getElem?, List.getElem?_toArray, List.getElem?_cons_succ, List.getElem?_cons_zero, Option.getD_some, List.set_cons_succ, List.set_cons_zero, Value.cells, List.toList_toArray] at hS))
          refine hK_ _ _ (fun h => by cases h) ?_; clear hK_ K_
          (simp only [Act.put, List.setIfInBounds_toArray, List.set_cons_zero, List.set_cons_succ])
          refine wpAnyR_done (by kernel_rfl) ?_ _
          go_wp2_with (first | ((with_reducible show WGd ..); (with_reducible apply wpA_guard); exact rfl; skip) | ((with_reducible show WLd ..); (with_reducible apply wpA_load); exact rfl; (first | ((with_reducible apply St.cellI hS); (focus repeat constructor); exact rfl) | assumption); kernel_rfl) | ((with_reducible show WSt ..); (with_reducible apply wpA_store1I hS); exact rfl; (focus repeat constructor); exact rfl; exact rfl; exact rfl; exact rfl; kernel_rfl; intro wx hS; (try simp only [Act.put, List.setIfInBounds_toArray, List.set_cons_zero, List.set_cons_succ]); (try simp only [Act.eval, Array.getD_eq_getD_getElem?, List.getElem?_toArray, List.getElem?_cons_succ, List.getElem?_cons_zero, Option.getD_some, List.set_cons_succ, List.set_cons_zero, Value.cells, List.toList_toArray] at hS)) | ((with_reducible show WBx ..); (with_reducible apply wpA_box hS); exact rfl; exact rfl; intro _ wx hS; (try simp only [Act.put, List.setIfInBounds_toArray, List.set_cons_zero, List.set_cons_succ]); (try simp only [Act.eval, Array.getD_eq_getD_getElem?, List.getElem?_toArray, List.getElem?_cons_succ, List.getElem?_cons_zero, Option.getD_some, List.set_cons_succ, List.set_cons_zero, Value.cells, List.toList_toArray] at hS)))
          go_ret
          simp only [List.length_append, List.length_map, List.length_cons, List.length_nil] at hS ⊢
          refine ⟨rfl, HF.out ⟨⟨sl, bl, ⟨ck, cs, cq, cn, c5⟩⟩, xw ++ [k], _⟩ _ rfl ?_⟩
          simpa [kvW] using hS

end
end Go.Proofs.Ytkhjkicnalnibaa
