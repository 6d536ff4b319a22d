/-
  Sessions: one deed, beside a reference that has none yet.
-/
import Derived.Test.YtodojllclghoiaaSesGr
import Derived.Test.YtodojllclghoiaaSesGo
import Derived.Test.YtodojllclghoiaaGen2
namespace Go.Proofs.Ytodojllclghoiaa
set_option linter.unusedVariables false
set_option linter.unusedSimpArgs false
open Go.RowKit

theorem SesSt.opn {w0 w : World} {p : Nat} {A R : List Hp} {σ : SesS} (h : SesSt w0 w p σ (A ++ R)) : ∃ D : List Hp, St w0 w (A ++ D) ∧ ∀ w' A', St w0 w' (A' ++ D) → SesSt w0 w' p σ (A' ++ R) := opn_of_use h.use
theorem begin_reply {n : Nat} {σ σ' : SesS} (h : SG n σ) {id q m : Int} {r : RepS} (e : beginS σ id q = (r, m, σ')) : r = rep0 ∨ 1 ≤ r.session := by
  unfold beginS at e
  cases ha : atS σ id with
  | none => rw [ha] at e; simp only [Prod.mk.injEq] at e; exact .inl e.1.symm
  | some kx =>
    obtain ⟨k, x⟩ := kx
    rw [ha] at e
    simp only at e
    obtain ⟨hx, hid⟩ := atS_some ha
    have hw := (h.i.w k x hx).1
    split at e
    · rename_i hc
      simp only [Prod.mk.injEq] at e
      have := (hw.r hc.1).2.1
      exact .inr (by rw [← e.1, this]; omega)
    all_goals (try split at e)
    all_goals (try split at e)
    all_goals (try split at e)
    all_goals (try split at e)
    all_goals (simp only [Prod.mk.injEq] at e; exact .inl e.1.symm)

section
variable {w0 w : World} {p x : Nat} {σ σ' : SesS} {R H : List Hp}
theorem kclose {id : Int} {b : Bool} (h : SesSt w0 w p σ R) (e : closeS σ id = (b, σ')) : Calls Try.prog 23 #[.pointer (some ⟨p, 0, none⟩), .int .i64 id] w fun e w' => e = .returned (.bool b) ∧ SesSt w0 w' p σ' R := by
  have h1 := close_c w0 w R p σ id h
  rw [e] at h1
  exact h1
theorem kend {r1 r2 r3 r4 r5 : Int} {b : Bool} (h : SesSt w0 w p σ R) (e : endS σ ⟨r1, r2, r3, r4, r5⟩ = (b, σ')) : Calls Try.prog 11 #[.pointer (some ⟨p, 0, none⟩), .agg #[.int .i64 r1, .int .i64 r2, .int .i64 r3, .int .u64 r4, .int .i64 r5]] w fun e w' => e = .returned (.bool b) ∧ SesSt w0 w' p σ' R := by
  have h1 := end_c w0 w R p σ ⟨r1, r2, r3, r4, r5⟩ h
  rw [e] at h1
  exact h1
theorem ropen_e {n q a c : Int} {b : Bool} (hS : St w0 w (xc x :: H)) (e : ropD n q = (a, b, c)) : Calls Try.prog 25 #[.pointer (some ⟨x, 0, none⟩), .int .i64 n, .int .i64 q] w fun e w' => e = .returned (.tuple #[.int .i64 a, .bool b, .int .i64 c]) ∧ St w0 w' H := by
  have h1 := ropen_f hS n q
  rw [e] at h1
  exact h1

set_option maxRecDepth 100000 in
set_option maxHeartbeats 8000000 in
theorem do_f (h : SesSt w0 w p σ (xc x :: R)) {n : Nat} (hg : SG n σ) (hn : n ≤ 1000) (d : DeedG) :
    Calls Try.prog 14 #[.pointer (some ⟨p, 0, none⟩), .pointer (some ⟨x, 0, none⟩), .agg #[.int .i64 d.k, .int .i64 d.n, .int .i64 d.q, .int .i64 d.r.session, .int .i64 d.r.seq, .int .i64 d.r.err, .int .u64 d.r.token, .int .i64 d.r.n]] w fun e w' => (∃ v, e = .returned v) ∧ SesSt w0 w' p (doG σ d) R := by
  have hl : σ.l.length ≤ 1000000000 := by have := hg.len; omega
  obtain ⟨dk, dn, dq, ⟨r1, r2, r3, r4, r5⟩⟩ := d
  obtain ⟨D_, hS, hfin⟩ := SesSt.opn (A := [_]) h
  simp only [List.cons_append, List.nil_append] at hS
  have HF := Lib.hid hfin
  have HG := Lib.hid hg
  clear hfin h hg
  unfold doG
  simp only
  by_cases d0 : dk = 0
  · subst d0
    rw [if_pos rfl]
    obtain ⟨⟨⟨a, b, c⟩, σ'⟩, hq⟩ : ∃ q, openS σ dn dq = q := ⟨_, rfl⟩
    obtain ⟨⟨a', b', c'⟩, hr⟩ : ∃ q, ropD dn dq = q := ⟨_, rfl⟩
    obtain ⟨b1, hb1⟩ : ∃ b1, (a == a') = b1 := ⟨_, rfl⟩
    obtain ⟨b3, hb3⟩ : ∃ b3, (c == c') = b3 := ⟨_, rfl⟩
    rw [hq]
    have HQ := Lib.hid hq
    have HR := Lib.hid hr
    clear hq hr
    go_enter Try.func14, Try.ntmps14
    go_upto_region 5 with (first | ((with_reducible show WGd ..); (with_reducible apply wpA_guard); exact rfl; skip) | (go_at_call 9; skip; have hL := HF.out _ [_, _] hS; clear hS HF; (with_reducible refine (ko hL hl HQ.out).mono ?_); rintro _ _ ⟨rfl, hL⟩; (obtain ⟨D_, hS, hfin⟩ := SesSt.opn (A := [_, _]) hL); have HF := Lib.hid hfin; clear hfin hL; (try simp only [List.cons_append, List.nil_append] at hS); skip) | (go_at_call 25; ((try simp only [List.set_cons_succ, List.set_cons_zero] at hS); replace hS := hS.sel [1, 0] 2 (by decide) (by decide) (by simp); simp only [List.filterMap_cons, List.filterMap_nil, List.getElem?_cons_succ, List.getElem?_cons_zero, List.drop_succ_cons, List.drop_zero, List.cons_append, List.nil_append] at hS); with_reducible refine (ropen_e hS HR.out).mono ?_; rintro _ _ ⟨rfl, hS⟩; skip) | ((first | ((with_reducible show WAl ..); (with_reducible apply wpA_alloc (t := 30) hS (v := .agg #[.int .i64 0, .int .i64 0, .int .i64 0, .int .u64 0, .int .i64 0])); kernel_rfl; exact rfl; intro _ wx hS) | ((with_reducible show WBx ..); (with_reducible apply wpA_box hS); exact rfl; exact rfl; intro _ wx hS)); (try simp only [Act.put, List.setIfInBounds_toArray, List.set_cons_zero, List.set_cons_succ]); (try simp only [Act.eval, Array.getD_eq_getD_getElem?, List.getElem?_toArray, List.getElem?_cons_succ, List.getElem?_cons_zero, Option.getD_some, List.set_cons_succ, List.set_cons_zero, Value.cells, List.toList_toArray] at hS)) | ((with_reducible show WLd ..); (with_reducible apply wpA_loadN (t := 30)); exact rfl; ((with_reducible apply Hp.rangeI hS (n := 5)); (focus repeat constructor)); kernel_rfl; kernel_rfl; (try simp only [Act.put, List.setIfInBounds_toArray, List.set_cons_zero, List.set_cons_succ])) | ((with_reducible show WSt ..); (with_reducible apply wpA_storeI hS); exact rfl; (focus repeat constructor); exact rfl; exact rfl; exact rfl; exact (Nat.le_of_ble_eq_true rfl); kernel_rfl; intro wx hS; (try simp only [Act.put, List.setIfInBounds_toArray, List.set_cons_zero, List.set_cons_succ]); (try simp only [Act.eval, Array.getD_eq_getD_getElem?, List.getElem?_toArray, List.getElem?_cons_succ, List.getElem?_cons_zero, Option.getD_some, List.set_cons_succ, List.set_cons_zero, Value.cells, List.toList_toArray] at hS); (try simp only [List.take_zero, List.take_succ_cons, List.nil_append, List.cons_append, List.length_cons, List.length_nil, Nat.reduceAdd, Nat.zero_add, List.drop_succ_cons, List.drop_zero, List.drop_nil, List.append_nil] at hS)) | ((with_reducible show WLd ..); (with_reducible apply wpA_load); exact rfl; (first | ((with_reducible apply St.cellI hS); (focus repeat constructor); exact rfl) | assumption); kernel_rfl) | ((with_reducible show WSt ..); (with_reducible apply wpA_store1I hS); exact rfl; (focus repeat constructor); exact rfl; exact rfl; exact rfl; exact rfl; kernel_rfl; intro wx hS; (try simp only [Act.put, List.setIfInBounds_toArray, List.set_cons_zero, List.set_cons_succ]); (try simp only [Act.eval, Array.getD_eq_getD_getElem?, List.getElem?_toArray, List.getElem?_cons_succ, List.getElem?_cons_zero, Option.getD_some, List.set_cons_succ, List.set_cons_zero, Value.cells, List.toList_toArray] at hS)))
    have hL := HF.out _ [_] hS
    have hL2 := hL.sub (List.sublist_cons_self _ _)
    clear hS HF HQ HR
    cases b1 <;> cases b <;> cases b' <;> cases b3
    all_goals (go_wp2_with (first | ((with_reducible show WGd ..); (with_reducible apply wpA_guard); exact rfl; skip) | ((with_reducible show WLd ..); (with_reducible apply wpA_load); exact rfl; (first | ((with_reducible apply St.cellI hS); (focus repeat constructor); exact rfl) | assumption); kernel_rfl) | ((with_reducible show WSt ..); (with_reducible apply wpA_store1I hS); exact rfl; (focus repeat constructor); exact rfl; exact rfl; exact rfl; exact rfl; kernel_rfl; intro wx hS; (try simp only [Act.put, List.setIfInBounds_toArray, List.set_cons_zero, List.set_cons_succ]); (try simp only [Act.eval, Array.getD_eq_getD_getElem?, List.getElem?_toArray, List.getElem?_cons_succ, List.getElem?_cons_zero, Option.getD_some, List.set_cons_succ, List.set_cons_zero, Value.cells, List.toList_toArray] at hS)) | ((with_reducible show WBx ..); (with_reducible apply wpA_box hS); exact rfl; exact rfl; intro _ wx hS; (try simp only [Act.put, List.setIfInBounds_toArray, List.set_cons_zero, List.set_cons_succ]); (try simp only [Act.eval, Array.getD_eq_getD_getElem?, List.getElem?_toArray, List.getElem?_cons_succ, List.getElem?_cons_zero, Option.getD_some, List.set_cons_succ, List.set_cons_zero, Value.cells, List.toList_toArray] at hS))))
    all_goals (go_ret; exact ⟨⟨_, rfl⟩, hL2⟩)
  have e0 : (dk == 0) = false := by simpa using d0
  rw [if_neg d0]
  by_cases d1 : dk = 1
  · subst d1
    rw [if_pos rfl]
    obtain ⟨⟨b, σ'⟩, hq⟩ : ∃ q, closeS σ dn = q := ⟨_, rfl⟩
    rw [hq]
    have HQ := Lib.hid hq
    clear hq
    go_enter Try.func14, Try.ntmps14
    go_upto_region 7 with (first | ((with_reducible show WGd ..); (with_reducible apply wpA_guard); exact rfl; skip) | ((first | ((with_reducible show WAl ..); (with_reducible apply wpA_alloc (t := 30) hS (v := .agg #[.int .i64 0, .int .i64 0, .int .i64 0, .int .u64 0, .int .i64 0])); kernel_rfl; exact rfl; intro _ wx hS) | ((with_reducible show WBx ..); (with_reducible apply wpA_box hS); exact rfl; exact rfl; intro _ wx hS)); (try simp only [Act.put, List.setIfInBounds_toArray, List.set_cons_zero, List.set_cons_succ]); (try simp only [Act.eval, Array.getD_eq_getD_getElem?, List.getElem?_toArray, List.getElem?_cons_succ, List.getElem?_cons_zero, Option.getD_some, List.set_cons_succ, List.set_cons_zero, Value.cells, List.toList_toArray] at hS)) | ((with_reducible show WLd ..); (with_reducible apply wpA_loadN (t := 30)); exact rfl; ((with_reducible apply Hp.rangeI hS (n := 5)); (focus repeat constructor)); kernel_rfl; kernel_rfl; (try simp only [Act.put, List.setIfInBounds_toArray, List.set_cons_zero, List.set_cons_succ])) | ((with_reducible show WSt ..); (with_reducible apply wpA_storeI hS); exact rfl; (focus repeat constructor); exact rfl; exact rfl; exact rfl; exact (Nat.le_of_ble_eq_true rfl); kernel_rfl; intro wx hS; (try simp only [Act.put, List.setIfInBounds_toArray, List.set_cons_zero, List.set_cons_succ]); (try simp only [Act.eval, Array.getD_eq_getD_getElem?, List.getElem?_toArray, List.getElem?_cons_succ, List.getElem?_cons_zero, Option.getD_some, List.set_cons_succ, List.set_cons_zero, Value.cells, List.toList_toArray] at hS); (try simp only [List.take_zero, List.take_succ_cons, List.nil_append, List.cons_append, List.length_cons, List.length_nil, Nat.reduceAdd, Nat.zero_add, List.drop_succ_cons, List.drop_zero, List.drop_nil, List.append_nil] at hS)) | ((with_reducible show WLd ..); (with_reducible apply wpA_load); exact rfl; (first | ((with_reducible apply St.cellI hS); (focus repeat constructor); exact rfl) | assumption); kernel_rfl) | ((with_reducible show WSt ..); (with_reducible apply wpA_store1I hS); exact rfl; (focus repeat constructor); exact rfl; exact rfl; exact rfl; exact rfl; kernel_rfl; intro wx hS; (try simp only [Act.put, List.setIfInBounds_toArray, List.set_cons_zero, List.set_cons_succ]); (try simp only [Act.eval, Array.getD_eq_getD_getElem?, List.getElem?_toArray, List.getElem?_cons_succ, List.getElem?_cons_zero, Option.getD_some, List.set_cons_succ, List.set_cons_zero, Value.cells, List.toList_toArray] at hS)))
    refine wp_region_A2 (fun _ h => St.sub h (.cons_cons _ (.cons _ (List.nil_sublist _)))) hS (by kernel_rfl) (fun _ hR hS => ?_)
    simp only [List.length_cons, List.length_nil, Nat.reduceAdd]
    refine takeAP_val (i := 0) ?_ rfl (by exact rfl) (by kernel_rfl) (fun _ _ _ h => h) ?_ hR (fun hR => ?_)
    rotate_left
    · intro w; go_simp; (first | done | (with_reducible rfl) | (refine (if_pos ?_).trans ?_; (focus omega); with_reducible rfl) | skip)
    (simp only [Act.put, List.setIfInBounds_toArray, List.set_cons_zero, List.set_cons_succ])
    refine takeAP_val (i := 1) ?_ rfl (by exact rfl) (by kernel_rfl) (fun _ _ _ h => h) ?_ hR (fun hR => ?_)
    rotate_left
    · intro w; go_simp; (first | done | (with_reducible rfl) | (refine (if_pos ?_).trans ?_; (focus omega); with_reducible rfl) | skip)
    (simp only [Act.put, List.setIfInBounds_toArray, List.set_cons_zero, List.set_cons_succ])
    refine takeA_load (i := 2) [] rfl (by exact rfl) (by kernel_rfl) (fun _ _ _ h => h) (by decide) rfl (fun w hS => by (first | ((with_reducible apply St.cellI hS); (focus repeat constructor); exact rfl) | assumption)) (by kernel_rfl) hR (fun hR => ?_)
    (simp only [Act.put, List.setIfInBounds_toArray, List.set_cons_zero, List.set_cons_succ])
    refine takeAP_val (i := 4) ?_ rfl (by exact rfl) (by kernel_rfl) (fun _ _ _ h => h) ?_ hR (fun hR => ?_)
    rotate_left
    · intro w; go_simp; (first | done | (with_reducible rfl) | (refine (if_pos ?_).trans ?_; (focus omega); with_reducible rfl) | skip)
    (simp only [Act.put, List.setIfInBounds_toArray, List.set_cons_zero, List.set_cons_succ])
    refine takeAP_val (i := 5) ?_ rfl (by exact rfl) (by kernel_rfl) (fun _ _ _ h => h) ?_ hR (fun hR => ?_)
    rotate_left
    · intro w; go_simp; (first | done | (with_reducible rfl) | (refine (if_pos ?_).trans ?_; (focus omega); with_reducible rfl) | skip)
    (simp only [Act.put, List.setIfInBounds_toArray, List.set_cons_zero, List.set_cons_succ])
    refine takeA_load (i := 6) [] rfl (by exact rfl) (by kernel_rfl) (fun _ _ _ h => h) (by decide) rfl (fun w hS => by (first | ((with_reducible apply St.cellI hS); (focus repeat constructor); exact rfl) | assumption)) (by kernel_rfl) hR (fun hR => ?_)
    (simp only [Act.put, List.setIfInBounds_toArray, List.set_cons_zero, List.set_cons_succ])
    refine oneA (i := 3) (by kernel_rfl) rfl (by exact rfl) (fun K_ hK_ => ?_)
    (apply opA_call (f := 23) Try.func23 (by kernel_rfl); (focus ((try simp only [List.map_toArray, List.map_cons, List.map_nil, Act.eval, Array.getD_eq_getD_getElem?, List.getElem?_toArray, List.getElem?_cons_succ, List.getElem?_cons_zero, Option.getD_some]); exact rfl)); (focus (with_reducible exact (kclose (by with_unfolding_all exact HF.out _ [_, _] hS) HQ.out))); rintro _ _ ⟨rfl, hL⟩; refine ⟨_, rfl, ?_⟩; (obtain ⟨D_, hS, hfin⟩ := SesSt.opn (A := [_, _]) hL); have HF := Lib.hid hfin; clear hfin hL; (try simp only [List.cons_append, List.nil_append] at hS); skip)
    refine hK_ _ _ (id ((St.sub hS (.cons_cons _ (.cons _ (List.nil_sublist _)))))) ?_; clear hK_ K_
    (simp only [Act.put, List.setIfInBounds_toArray, List.set_cons_zero, List.set_cons_succ])
    refine oneA (i := 7) (by kernel_rfl) rfl (by exact rfl) (fun K_ hK_ => ?_)
    (((try simp only [List.set_cons_succ, List.set_cons_zero] at hS); replace hS := hS.sel [1, 0] 2 (by decide) (by decide) (by simp); simp only [List.filterMap_cons, List.filterMap_nil, List.getElem?_cons_succ, List.getElem?_cons_zero, List.drop_succ_cons, List.drop_zero, List.cons_append, List.nil_append] at hS); (apply opA_call (f := 26) Try.func26 (by kernel_rfl); (focus ((try simp only [List.map_toArray, List.map_cons, List.map_nil, Act.eval, Array.getD_eq_getD_getElem?, List.getElem?_toArray, List.getElem?_cons_succ, List.getElem?_cons_zero, Option.getD_some]); exact rfl)); (focus (with_reducible exact (rclose_f hS dn))); rintro _ _ ⟨rfl, hS⟩; refine ⟨_, rfl, ?_⟩; ((try simp only [List.set_cons_succ, List.set_cons_zero] at hS); replace hS := hS.sel [1, 0] 2 (by decide) (by decide) (by simp); simp only [List.filterMap_cons, List.filterMap_nil, List.getElem?_cons_succ, List.getElem?_cons_zero, List.drop_succ_cons, List.drop_zero, List.cons_append, List.nil_append] at hS)))
    refine hK_ _ _ (id ((St.sub hS (.cons_cons _ (.cons _ (List.nil_sublist _)))))) ?_; clear hK_ K_
    (simp only [Act.put, List.setIfInBounds_toArray, List.set_cons_zero, List.set_cons_succ])
    refine takeAP_val (i := 8) ?_ rfl (by exact rfl) (by kernel_rfl) (fun _ _ _ h => h) ?_ (id (St.sub hS (.cons_cons _ (.cons _ (List.nil_sublist _))))) (fun hR => ?_)
    rotate_left
    · intro w; go_simp; (first | done | (with_reducible rfl) | (refine (if_pos ?_).trans ?_; (focus omega); with_reducible rfl) | skip)
    (simp only [Act.put, List.setIfInBounds_toArray, List.set_cons_zero, List.set_cons_succ])
    refine takeAP_val (i := 9) ?_ rfl (by exact rfl) (by kernel_rfl) (fun _ _ _ h => h) ?_ hR (fun hR => ?_)
    rotate_left
    · intro w; go_simp; (first | done | (with_reducible rfl) | (refine (if_pos ?_).trans ?_; (focus omega); with_reducible rfl) | skip)
    (simp only [Act.put, List.setIfInBounds_toArray, List.set_cons_zero, List.set_cons_succ])
    refine wpAnyR_done (by kernel_rfl) ?_ _
    go_wp2_with (first | ((with_reducible show WGd ..); (with_reducible apply wpA_guard); exact rfl; skip) | ((with_reducible show WLd ..); (with_reducible apply wpA_load); exact rfl; (first | ((with_reducible apply St.cellI hS); (focus repeat constructor); exact rfl) | assumption); kernel_rfl) | ((with_reducible show WSt ..); (with_reducible apply wpA_store1I hS); exact rfl; (focus repeat constructor); exact rfl; exact rfl; exact rfl; exact rfl; kernel_rfl; intro wx hS; (try simp only [Act.put, List.setIfInBounds_toArray, List.set_cons_zero, List.set_cons_succ]); (try simp only [Act.eval, Array.getD_eq_getD_getElem?, List.getElem?_toArray, List.getElem?_cons_succ, List.getElem?_cons_zero, Option.getD_some, List.set_cons_succ, List.set_cons_zero, Value.cells, List.toList_toArray] at hS)) | ((with_reducible show WBx ..); (with_reducible apply wpA_box hS); exact rfl; exact rfl; intro _ wx hS; (try simp only [Act.put, List.setIfInBounds_toArray, List.set_cons_zero, List.set_cons_succ]); (try simp only [Act.eval, Array.getD_eq_getD_getElem?, List.getElem?_toArray, List.getElem?_cons_succ, List.getElem?_cons_zero, Option.getD_some, List.set_cons_succ, List.set_cons_zero, Value.cells, List.toList_toArray] at hS)))
    go_ret
    have hL := HF.out _ [_, _] hS
    exact ⟨⟨_, rfl⟩, (hL.sub (.cons _ (.cons _ (List.Sublist.refl _))))⟩
  have e1 : (dk == 1) = false := by simpa using d1
  rw [if_neg d1]
  by_cases d2 : dk = 2
  · subst d2
    rw [if_pos rfl]
    obtain ⟨⟨r, m, σ'⟩, hq⟩ : ∃ q, beginS σ dn dq = q := ⟨_, rfl⟩
    have hrep := begin_reply HG.out hq
    obtain ⟨b3, hb3⟩ : ∃ b3, (m == 4) = b3 := ⟨_, rfl⟩
    rw [hq]
    have HQ := Lib.hid hq
    clear hq
    rcases hrep with hrep | hrep
    · rw [show rep0 = ⟨0, 0, 0, 0, 0⟩ from rfl] at hrep
      subst hrep
      go_enter Try.func14, Try.ntmps14
      go_upto_region 11 with (first | ((with_reducible show WGd ..); (with_reducible apply wpA_guard); exact rfl; skip) | (go_at_call 10; skip; have hL := HF.out _ [_, _] hS; clear hS HF; (with_reducible refine (kb hL HQ.out).mono ?_); rintro _ _ ⟨rfl, hL⟩; (obtain ⟨D_, hS, hfin⟩ := SesSt.opn (A := [_, _]) hL); have HF := Lib.hid hfin; clear hfin hL; (try simp only [List.cons_append, List.nil_append] at hS); skip) | (go_at_call 27; ((try simp only [List.set_cons_succ, List.set_cons_zero] at hS); replace hS := hS.sel [2, 0, 1] 3 (by decide) (by decide) (by simp); simp only [List.filterMap_cons, List.filterMap_nil, List.getElem?_cons_succ, List.getElem?_cons_zero, List.drop_succ_cons, List.drop_zero, List.cons_append, List.nil_append] at hS); with_reducible refine (rbegin_f hS dn dq).mono ?_; rintro _ _ ⟨rfl, hS⟩; ((try simp only [List.set_cons_succ, List.set_cons_zero] at hS); replace hS := hS.sel [1, 2, 0] 3 (by decide) (by decide) (by simp); simp only [List.filterMap_cons, List.filterMap_nil, List.getElem?_cons_succ, List.getElem?_cons_zero, List.drop_succ_cons, List.drop_zero, List.cons_append, List.nil_append] at hS)) | ((first | ((with_reducible show WAl ..); (with_reducible apply wpA_alloc (t := 30) hS (v := .agg #[.int .i64 0, .int .i64 0, .int .i64 0, .int .u64 0, .int .i64 0])); kernel_rfl; exact rfl; intro _ wx hS) | ((with_reducible show WBx ..); (with_reducible apply wpA_box hS); exact rfl; exact rfl; intro _ wx hS)); (try simp only [Act.put, List.setIfInBounds_toArray, List.set_cons_zero, List.set_cons_succ]); (try simp only [Act.eval, Array.getD_eq_getD_getElem?, List.getElem?_toArray, List.getElem?_cons_succ, List.getElem?_cons_zero, Option.getD_some, List.set_cons_succ, List.set_cons_zero, Value.cells, List.toList_toArray] at hS)) | ((with_reducible show WLd ..); (with_reducible apply wpA_loadN (t := 30)); exact rfl; ((with_reducible apply Hp.rangeI hS (n := 5)); (focus repeat constructor)); kernel_rfl; kernel_rfl; (try simp only [Act.put, List.setIfInBounds_toArray, List.set_cons_zero, List.set_cons_succ])) | ((with_reducible show WSt ..); (with_reducible apply wpA_storeI hS); exact rfl; (focus repeat constructor); exact rfl; exact rfl; exact rfl; exact (Nat.le_of_ble_eq_true rfl); kernel_rfl; intro wx hS; (try simp only [Act.put, List.setIfInBounds_toArray, List.set_cons_zero, List.set_cons_succ]); (try simp only [Act.eval, Array.getD_eq_getD_getElem?, List.getElem?_toArray, List.getElem?_cons_succ, List.getElem?_cons_zero, Option.getD_some, List.set_cons_succ, List.set_cons_zero, Value.cells, List.toList_toArray] at hS); (try simp only [List.take_zero, List.take_succ_cons, List.nil_append, List.cons_append, List.length_cons, List.length_nil, Nat.reduceAdd, Nat.zero_add, List.drop_succ_cons, List.drop_zero, List.drop_nil, List.append_nil] at hS)) | ((with_reducible show WLd ..); (with_reducible apply wpA_load); exact rfl; (first | ((with_reducible apply St.cellI hS); (focus repeat constructor); exact rfl) | assumption); kernel_rfl) | ((with_reducible show WSt ..); (with_reducible apply wpA_store1I hS); exact rfl; (focus repeat constructor); exact rfl; exact rfl; exact rfl; exact rfl; kernel_rfl; intro wx hS; (try simp only [Act.put, List.setIfInBounds_toArray, List.set_cons_zero, List.set_cons_succ]); (try simp only [Act.eval, Array.getD_eq_getD_getElem?, List.getElem?_toArray, List.getElem?_cons_succ, List.getElem?_cons_zero, Option.getD_some, List.set_cons_succ, List.set_cons_zero, Value.cells, List.toList_toArray] at hS)))
      have hL := HF.out _ [_, _, _, _] hS
      have hL2 := hL.sub (.cons _ (.cons _ (.cons _ (.cons _ (List.Sublist.refl _)))))
      clear HF HQ HG hL
      cases b3
      all_goals (go_wp2_with (first | ((with_reducible show WGd ..); (with_reducible apply wpA_guard); exact rfl; skip) | ((first | ((with_reducible show WAl ..); (with_reducible apply wpA_alloc (t := 30) hS (v := .agg #[.int .i64 0, .int .i64 0, .int .i64 0, .int .u64 0, .int .i64 0])); kernel_rfl; exact rfl; intro _ wx hS) | ((with_reducible show WBx ..); (with_reducible apply wpA_box hS); exact rfl; exact rfl; intro _ wx hS)); (try simp only [Act.put, List.setIfInBounds_toArray, List.set_cons_zero, List.set_cons_succ]); (try simp only [Act.eval, Array.getD_eq_getD_getElem?, List.getElem?_toArray, List.getElem?_cons_succ, List.getElem?_cons_zero, Option.getD_some, List.set_cons_succ, List.set_cons_zero, Value.cells, List.toList_toArray] at hS)) | ((with_reducible show WLd ..); (with_reducible apply wpA_loadN (t := 30)); exact rfl; ((with_reducible apply Hp.rangeI hS (n := 5)); (focus repeat constructor)); kernel_rfl; kernel_rfl; (try simp only [Act.put, List.setIfInBounds_toArray, List.set_cons_zero, List.set_cons_succ])) | ((with_reducible show WSt ..); (with_reducible apply wpA_storeI hS); exact rfl; (focus repeat constructor); exact rfl; exact rfl; exact rfl; exact (Nat.le_of_ble_eq_true rfl); kernel_rfl; intro wx hS; (try simp only [Act.put, List.setIfInBounds_toArray, List.set_cons_zero, List.set_cons_succ]); (try simp only [Act.eval, Array.getD_eq_getD_getElem?, List.getElem?_toArray, List.getElem?_cons_succ, List.getElem?_cons_zero, Option.getD_some, List.set_cons_succ, List.set_cons_zero, Value.cells, List.toList_toArray] at hS); (try simp only [List.take_zero, List.take_succ_cons, List.nil_append, List.cons_append, List.length_cons, List.length_nil, Nat.reduceAdd, Nat.zero_add, List.drop_succ_cons, List.drop_zero, List.drop_nil, List.append_nil] at hS)) | ((with_reducible show WLd ..); (with_reducible apply wpA_load); exact rfl; (first | ((with_reducible apply St.cellI hS); (focus repeat constructor); exact rfl) | assumption); kernel_rfl) | ((with_reducible show WSt ..); (with_reducible apply wpA_store1I hS); exact rfl; (focus repeat constructor); exact rfl; exact rfl; exact rfl; exact rfl; kernel_rfl; intro wx hS; (try simp only [Act.put, List.setIfInBounds_toArray, List.set_cons_zero, List.set_cons_succ]); (try simp only [Act.eval, Array.getD_eq_getD_getElem?, List.getElem?_toArray, List.getElem?_cons_succ, List.getElem?_cons_zero, Option.getD_some, List.set_cons_succ, List.set_cons_zero, Value.cells, List.toList_toArray] at hS))))
      all_goals (go_ret; exact ⟨⟨_, rfl⟩, hL2⟩)
    · obtain ⟨s1, s2, s3, s4, s5⟩ := r
      simp only at hrep
      have hs1 : (s1 == 0) = false := by simp; omega
      go_enter Try.func14, Try.ntmps14
      go_upto_region 11 with (first | ((with_reducible show WGd ..); (with_reducible apply wpA_guard); exact rfl; skip) | (go_at_call 10; skip; have hL := HF.out _ [_, _] hS; clear hS HF; (with_reducible refine (kb hL HQ.out).mono ?_); rintro _ _ ⟨rfl, hL⟩; (obtain ⟨D_, hS, hfin⟩ := SesSt.opn (A := [_, _]) hL); have HF := Lib.hid hfin; clear hfin hL; (try simp only [List.cons_append, List.nil_append] at hS); skip) | (go_at_call 27; ((try simp only [List.set_cons_succ, List.set_cons_zero] at hS); replace hS := hS.sel [2, 0, 1] 3 (by decide) (by decide) (by simp); simp only [List.filterMap_cons, List.filterMap_nil, List.getElem?_cons_succ, List.getElem?_cons_zero, List.drop_succ_cons, List.drop_zero, List.cons_append, List.nil_append] at hS); with_reducible refine (rbegin_f hS dn dq).mono ?_; rintro _ _ ⟨rfl, hS⟩; ((try simp only [List.set_cons_succ, List.set_cons_zero] at hS); replace hS := hS.sel [1, 2, 0] 3 (by decide) (by decide) (by simp); simp only [List.filterMap_cons, List.filterMap_nil, List.getElem?_cons_succ, List.getElem?_cons_zero, List.drop_succ_cons, List.drop_zero, List.cons_append, List.nil_append] at hS)) | ((first | ((with_reducible show WAl ..); (with_reducible apply wpA_alloc (t := 30) hS (v := .agg #[.int .i64 0, .int .i64 0, .int .i64 0, .int .u64 0, .int .i64 0])); kernel_rfl; exact rfl; intro _ wx hS) | ((with_reducible show WBx ..); (with_reducible apply wpA_box hS); exact rfl; exact rfl; intro _ wx hS)); (try simp only [Act.put, List.setIfInBounds_toArray, List.set_cons_zero, List.set_cons_succ]); (try simp only [Act.eval, Array.getD_eq_getD_getElem?, List.getElem?_toArray, List.getElem?_cons_succ, List.getElem?_cons_zero, Option.getD_some, List.set_cons_succ, List.set_cons_zero, Value.cells, List.toList_toArray] at hS)) | ((with_reducible show WLd ..); (with_reducible apply wpA_loadN (t := 30)); exact rfl; ((with_reducible apply Hp.rangeI hS (n := 5)); (focus repeat constructor)); kernel_rfl; kernel_rfl; (try simp only [Act.put, List.setIfInBounds_toArray, List.set_cons_zero, List.set_cons_succ])) | ((with_reducible show WSt ..); (with_reducible apply wpA_storeI hS); exact rfl; (focus repeat constructor); exact rfl; exact rfl; exact rfl; exact (Nat.le_of_ble_eq_true rfl); kernel_rfl; intro wx hS; (try simp only [Act.put, List.setIfInBounds_toArray, List.set_cons_zero, List.set_cons_succ]); (try simp only [Act.eval, Array.getD_eq_getD_getElem?, List.getElem?_toArray, List.getElem?_cons_succ, List.getElem?_cons_zero, Option.getD_some, List.set_cons_succ, List.set_cons_zero, Value.cells, List.toList_toArray] at hS); (try simp only [List.take_zero, List.take_succ_cons, List.nil_append, List.cons_append, List.length_cons, List.length_nil, Nat.reduceAdd, Nat.zero_add, List.drop_succ_cons, List.drop_zero, List.drop_nil, List.append_nil] at hS)) | ((with_reducible show WLd ..); (with_reducible apply wpA_load); exact rfl; (first | ((with_reducible apply St.cellI hS); (focus repeat constructor); exact rfl) | assumption); kernel_rfl) | ((with_reducible show WSt ..); (with_reducible apply wpA_store1I hS); exact rfl; (focus repeat constructor); exact rfl; exact rfl; exact rfl; exact rfl; kernel_rfl; intro wx hS; (try simp only [Act.put, List.setIfInBounds_toArray, List.set_cons_zero, List.set_cons_succ]); (try simp only [Act.eval, Array.getD_eq_getD_getElem?, List.getElem?_toArray, List.getElem?_cons_succ, List.getElem?_cons_zero, Option.getD_some, List.set_cons_succ, List.set_cons_zero, Value.cells, List.toList_toArray] at hS)))
      have hL := HF.out _ [_, _, _, _] hS
      have hL2 := hL.sub (.cons _ (.cons _ (.cons _ (.cons _ (List.Sublist.refl _)))))
      clear HF HQ HG hL
      go_wp2_with (first | ((with_reducible show WGd ..); (with_reducible apply wpA_guard); exact rfl; skip) | ((first | ((with_reducible show WAl ..); (with_reducible apply wpA_alloc (t := 30) hS (v := .agg #[.int .i64 0, .int .i64 0, .int .i64 0, .int .u64 0, .int .i64 0])); kernel_rfl; exact rfl; intro _ wx hS) | ((with_reducible show WBx ..); (with_reducible apply wpA_box hS); exact rfl; exact rfl; intro _ wx hS)); (try simp only [Act.put, List.setIfInBounds_toArray, List.set_cons_zero, List.set_cons_succ]); (try simp only [Act.eval, Array.getD_eq_getD_getElem?, List.getElem?_toArray, List.getElem?_cons_succ, List.getElem?_cons_zero, Option.getD_some, List.set_cons_succ, List.set_cons_zero, Value.cells, List.toList_toArray] at hS)) | ((with_reducible show WLd ..); (with_reducible apply wpA_loadN (t := 30)); exact rfl; ((with_reducible apply Hp.rangeI hS (n := 5)); (focus repeat constructor)); kernel_rfl; kernel_rfl; (try simp only [Act.put, List.setIfInBounds_toArray, List.set_cons_zero, List.set_cons_succ])) | ((with_reducible show WSt ..); (with_reducible apply wpA_storeI hS); exact rfl; (focus repeat constructor); exact rfl; exact rfl; exact rfl; exact (Nat.le_of_ble_eq_true rfl); kernel_rfl; intro wx hS; (try simp only [Act.put, List.setIfInBounds_toArray, List.set_cons_zero, List.set_cons_succ]); (try simp only [Act.eval, Array.getD_eq_getD_getElem?, List.getElem?_toArray, List.getElem?_cons_succ, List.getElem?_cons_zero, Option.getD_some, List.set_cons_succ, List.set_cons_zero, Value.cells, List.toList_toArray] at hS); (try simp only [List.take_zero, List.take_succ_cons, List.nil_append, List.cons_append, List.length_cons, List.length_nil, Nat.reduceAdd, Nat.zero_add, List.drop_succ_cons, List.drop_zero, List.drop_nil, List.append_nil] at hS)) | ((with_reducible show WLd ..); (with_reducible apply wpA_load); exact rfl; (first | ((with_reducible apply St.cellI hS); (focus repeat constructor); exact rfl) | assumption); kernel_rfl) | ((with_reducible show WSt ..); (with_reducible apply wpA_store1I hS); exact rfl; (focus repeat constructor); exact rfl; exact rfl; exact rfl; exact rfl; kernel_rfl; intro wx hS; (try simp only [Act.put, List.setIfInBounds_toArray, List.set_cons_zero, List.set_cons_succ]); (try simp only [Act.eval, Array.getD_eq_getD_getElem?, List.getElem?_toArray, List.getElem?_cons_succ, List.getElem?_cons_zero, Option.getD_some, List.set_cons_succ, List.set_cons_zero, Value.cells, List.toList_toArray] at hS)))
      go_ret
      exact ⟨⟨_, rfl⟩, hL2⟩
  have e2 : (dk == 2) = false := by simpa using d2
  rw [if_neg d2]
  by_cases d3 : dk = 3
  · subst d3
    rw [if_pos rfl]
    obtain ⟨⟨b, σ'⟩, hq⟩ : ∃ q, endS σ ⟨r1, r2, r3, r4, r5⟩ = q := ⟨_, rfl⟩
    rw [hq]
    have HQ := Lib.hid hq
    clear hq
    go_enter Try.func14, Try.ntmps14
    go_upto_region 13 with (first | ((with_reducible show WGd ..); (with_reducible apply wpA_guard); exact rfl; skip) | ((first | ((with_reducible show WAl ..); (with_reducible apply wpA_alloc (t := 30) hS (v := .agg #[.int .i64 0, .int .i64 0, .int .i64 0, .int .u64 0, .int .i64 0])); kernel_rfl; exact rfl; intro _ wx hS) | ((with_reducible show WBx ..); (with_reducible apply wpA_box hS); exact rfl; exact rfl; intro _ wx hS)); (try simp only [Act.put, List.setIfInBounds_toArray, List.set_cons_zero, List.set_cons_succ]); (try simp only [Act.eval, Array.getD_eq_getD_getElem?, List.getElem?_toArray, List.getElem?_cons_succ, List.getElem?_cons_zero, Option.getD_some, List.set_cons_succ, List.set_cons_zero, Value.cells, List.toList_toArray] at hS)) | ((with_reducible show WLd ..); (with_reducible apply wpA_loadN (t := 30)); exact rfl; ((with_reducible apply Hp.rangeI hS (n := 5)); (focus repeat constructor)); kernel_rfl; kernel_rfl; (try simp only [Act.put, List.setIfInBounds_toArray, List.set_cons_zero, List.set_cons_succ])) | ((with_reducible show WSt ..); (with_reducible apply wpA_storeI hS); exact rfl; (focus repeat constructor); exact rfl; exact rfl; exact rfl; exact (Nat.le_of_ble_eq_true rfl); kernel_rfl; intro wx hS; (try simp only [Act.put, List.setIfInBounds_toArray, List.set_cons_zero, List.set_cons_succ]); (try simp only [Act.eval, Array.getD_eq_getD_getElem?, List.getElem?_toArray, List.getElem?_cons_succ, List.getElem?_cons_zero, Option.getD_some, List.set_cons_succ, List.set_cons_zero, Value.cells, List.toList_toArray] at hS); (try simp only [List.take_zero, List.take_succ_cons, List.nil_append, List.cons_append, List.length_cons, List.length_nil, Nat.reduceAdd, Nat.zero_add, List.drop_succ_cons, List.drop_zero, List.drop_nil, List.append_nil] at hS)) | ((with_reducible show WLd ..); (with_reducible apply wpA_load); exact rfl; (first | ((with_reducible apply St.cellI hS); (focus repeat constructor); exact rfl) | assumption); kernel_rfl) | ((with_reducible show WSt ..); (with_reducible apply wpA_store1I hS); exact rfl; (focus repeat constructor); exact rfl; exact rfl; exact rfl; exact rfl; kernel_rfl; intro wx hS; (try simp only [Act.put, List.setIfInBounds_toArray, List.set_cons_zero, List.set_cons_succ]); (try simp only [Act.eval, Array.getD_eq_getD_getElem?, List.getElem?_toArray, List.getElem?_cons_succ, List.getElem?_cons_zero, Option.getD_some, List.set_cons_succ, List.set_cons_zero, Value.cells, List.toList_toArray] at hS)))
    refine wp_region_A2 (fun _ h => St.sub h (.cons_cons _ (.cons _ (List.nil_sublist _)))) hS (by kernel_rfl) (fun _ hR hS => ?_)
    simp only [List.length_cons, List.length_nil, Nat.reduceAdd]
    refine takeAP_val (i := 0) ?_ rfl (by exact rfl) (by kernel_rfl) (fun _ _ _ h => h) ?_ hR (fun hR => ?_)
    rotate_left
    · intro w; go_simp; (first | done | (with_reducible rfl) | (refine (if_pos ?_).trans ?_; (focus omega); with_reducible rfl) | skip)
    (simp only [Act.put, List.setIfInBounds_toArray, List.set_cons_zero, List.set_cons_succ])
    refine takeAP_val (i := 1) ?_ rfl (by exact rfl) (by kernel_rfl) (fun _ _ _ h => h) ?_ hR (fun hR => ?_)
    rotate_left
    · intro w; go_simp; (first | done | (with_reducible rfl) | (refine (if_pos ?_).trans ?_; (focus omega); with_reducible rfl) | skip)
    (simp only [Act.put, List.setIfInBounds_toArray, List.set_cons_zero, List.set_cons_succ])
    refine takeA_loadN (i := 2) [] rfl (by exact rfl) (by kernel_rfl) (fun _ _ _ h => h) (by decide) rfl (fun w hS => by (first | exact Hp.range hS 0 rfl _ 5 | exact Hp.range hS 1 rfl _ 5 | exact Hp.range hS 2 rfl _ 5 | exact Hp.range hS 3 rfl _ 5 | exact Hp.range hS 4 rfl _ 5 | exact Hp.range hS 5 rfl _ 5 | exact Hp.range hS 6 rfl _ 5 | exact Hp.range hS 7 rfl _ 5 | exact Hp.range hS 8 rfl _ 5 | exact Hp.range hS 9 rfl _ 5)) (by kernel_rfl) (by kernel_rfl) hR (fun hR => ?_)
    (simp only [Act.put, List.setIfInBounds_toArray, List.set_cons_zero, List.set_cons_succ])
    (try simp only [List.drop_zero, List.drop_succ_cons, List.take_succ_cons, List.take_zero])
    refine takeAP_val (i := 4) ?_ rfl (by exact rfl) (by kernel_rfl) (fun _ _ _ h => h) ?_ hR (fun hR => ?_)
    rotate_left
    · intro w; go_simp; (first | done | (with_reducible rfl) | (refine (if_pos ?_).trans ?_; (focus omega); with_reducible rfl) | skip)
    (simp only [Act.put, List.setIfInBounds_toArray, List.set_cons_zero, List.set_cons_succ])
    refine takeAP_val (i := 5) ?_ rfl (by exact rfl) (by kernel_rfl) (fun _ _ _ h => h) ?_ hR (fun hR => ?_)
    rotate_left
    · intro w; go_simp; (first | done | (with_reducible rfl) | (refine (if_pos ?_).trans ?_; (focus omega); with_reducible rfl) | skip)
    (simp only [Act.put, List.setIfInBounds_toArray, List.set_cons_zero, List.set_cons_succ])
    refine takeA_loadN (i := 6) [] rfl (by exact rfl) (by kernel_rfl) (fun _ _ _ h => h) (by decide) rfl (fun w hS => by (first | exact Hp.range hS 0 rfl _ 5 | exact Hp.range hS 1 rfl _ 5 | exact Hp.range hS 2 rfl _ 5 | exact Hp.range hS 3 rfl _ 5 | exact Hp.range hS 4 rfl _ 5 | exact Hp.range hS 5 rfl _ 5 | exact Hp.range hS 6 rfl _ 5 | exact Hp.range hS 7 rfl _ 5 | exact Hp.range hS 8 rfl _ 5 | exact Hp.range hS 9 rfl _ 5)) (by kernel_rfl) (by kernel_rfl) hR (fun hR => ?_)
    (simp only [Act.put, List.setIfInBounds_toArray, List.set_cons_zero, List.set_cons_succ])
    (try simp only [List.drop_zero, List.drop_succ_cons, List.take_succ_cons, List.take_zero])
    refine oneA (i := 3) (by kernel_rfl) rfl (by exact rfl) (fun K_ hK_ => ?_)
    (apply opA_call (f := 11) Try.func11 (by kernel_rfl); (focus ((try simp only [List.map_toArray, List.map_cons, List.map_nil, Act.eval, Array.getD_eq_getD_getElem?, List.getElem?_toArray, List.getElem?_cons_succ, List.getElem?_cons_zero, Option.getD_some]); exact rfl)); (focus (with_reducible exact (kend (by with_unfolding_all exact HF.out _ [_, _] hS) HQ.out))); rintro _ _ ⟨rfl, hL⟩; refine ⟨_, rfl, ?_⟩; (obtain ⟨D_, hS, hfin⟩ := SesSt.opn (A := [_, _]) hL); have HF := Lib.hid hfin; clear hfin hL; (try simp only [List.cons_append, List.nil_append] at hS); skip)
    refine hK_ _ _ (id ((St.sub hS (.cons_cons _ (.cons _ (List.nil_sublist _)))))) ?_; clear hK_ K_
    (simp only [Act.put, List.setIfInBounds_toArray, List.set_cons_zero, List.set_cons_succ])
    refine oneA (i := 7) (by kernel_rfl) rfl (by exact rfl) (fun K_ hK_ => ?_)
    (((try simp only [List.set_cons_succ, List.set_cons_zero] at hS); replace hS := hS.sel [1, 0] 2 (by decide) (by decide) (by simp); simp only [List.filterMap_cons, List.filterMap_nil, List.getElem?_cons_succ, List.getElem?_cons_zero, List.drop_succ_cons, List.drop_zero, List.cons_append, List.nil_append] at hS); (apply opA_call (f := 28) Try.func28 (by kernel_rfl); (focus ((try simp only [List.map_toArray, List.map_cons, List.map_nil, Act.eval, Array.getD_eq_getD_getElem?, List.getElem?_toArray, List.getElem?_cons_succ, List.getElem?_cons_zero, Option.getD_some]); exact rfl)); (focus (with_reducible exact (rend_f hS ⟨r1, r2, r3, r4, r5⟩))); rintro _ _ ⟨rfl, hS⟩; refine ⟨_, rfl, ?_⟩; ((try simp only [List.set_cons_succ, List.set_cons_zero] at hS); replace hS := hS.sel [1, 0] 2 (by decide) (by decide) (by simp); simp only [List.filterMap_cons, List.filterMap_nil, List.getElem?_cons_succ, List.getElem?_cons_zero, List.drop_succ_cons, List.drop_zero, List.cons_append, List.nil_append] at hS)))
    refine hK_ _ _ (id ((St.sub hS (.cons_cons _ (.cons _ (List.nil_sublist _)))))) ?_; clear hK_ K_
    (simp only [Act.put, List.setIfInBounds_toArray, List.set_cons_zero, List.set_cons_succ])
    refine takeAP_val (i := 8) ?_ rfl (by exact rfl) (by kernel_rfl) (fun _ _ _ h => h) ?_ (id (St.sub hS (.cons_cons _ (.cons _ (List.nil_sublist _))))) (fun hR => ?_)
    rotate_left
    · intro w; go_simp; (first | done | (with_reducible rfl) | (refine (if_pos ?_).trans ?_; (focus omega); with_reducible rfl) | skip)
    (simp only [Act.put, List.setIfInBounds_toArray, List.set_cons_zero, List.set_cons_succ])
    refine takeAP_val (i := 9) ?_ rfl (by exact rfl) (by kernel_rfl) (fun _ _ _ h => h) ?_ hR (fun hR => ?_)
    rotate_left
    · intro w; go_simp; (first | done | (with_reducible rfl) | (refine (if_pos ?_).trans ?_; (focus omega); with_reducible rfl) | skip)
    (simp only [Act.put, List.setIfInBounds_toArray, List.set_cons_zero, List.set_cons_succ])
    refine wpAnyR_done (by kernel_rfl) ?_ _
    go_wp2_with (first | ((with_reducible show WGd ..); (with_reducible apply wpA_guard); exact rfl; skip) | ((with_reducible show WLd ..); (with_reducible apply wpA_load); exact rfl; (first | ((with_reducible apply St.cellI hS); (focus repeat constructor); exact rfl) | assumption); kernel_rfl) | ((with_reducible show WSt ..); (with_reducible apply wpA_store1I hS); exact rfl; (focus repeat constructor); exact rfl; exact rfl; exact rfl; exact rfl; kernel_rfl; intro wx hS; (try simp only [Act.put, List.setIfInBounds_toArray, List.set_cons_zero, List.set_cons_succ]); (try simp only [Act.eval, Array.getD_eq_getD_getElem?, List.getElem?_toArray, List.getElem?_cons_succ, List.getElem?_cons_zero, Option.getD_some, List.set_cons_succ, List.set_cons_zero, Value.cells, List.toList_toArray] at hS)) | ((with_reducible show WBx ..); (with_reducible apply wpA_box hS); exact rfl; exact rfl; intro _ wx hS; (try simp only [Act.put, List.setIfInBounds_toArray, List.set_cons_zero, List.set_cons_succ]); (try simp only [Act.eval, Array.getD_eq_getD_getElem?, List.getElem?_toArray, List.getElem?_cons_succ, List.getElem?_cons_zero, Option.getD_some, List.set_cons_succ, List.set_cons_zero, Value.cells, List.toList_toArray] at hS)))
    go_ret
    have hL := HF.out _ [_, _] hS
    exact ⟨⟨_, rfl⟩, (hL.sub (.cons _ (.cons _ (List.Sublist.refl _))))⟩
  have e3 : (dk == 3) = false := by simpa using d3
  rw [if_neg d3]
  go_enter Try.func14, Try.ntmps14
  go_wp2_with (first | ((with_reducible show WGd ..); (with_reducible apply wpA_guard); exact rfl; skip) | ((first | ((with_reducible show WAl ..); (with_reducible apply wpA_alloc (t := 30) hS (v := .agg #[.int .i64 0, .int .i64 0, .int .i64 0, .int .u64 0, .int .i64 0])); kernel_rfl; exact rfl; intro _ wx hS) | ((with_reducible show WBx ..); (with_reducible apply wpA_box hS); exact rfl; exact rfl; intro _ wx hS)); (try simp only [Act.put, List.setIfInBounds_toArray, List.set_cons_zero, List.set_cons_succ]); (try simp only [Act.eval, Array.getD_eq_getD_getElem?, List.getElem?_toArray, List.getElem?_cons_succ, List.getElem?_cons_zero, Option.getD_some, List.set_cons_succ, List.set_cons_zero, Value.cells, List.toList_toArray] at hS)) | ((with_reducible show WLd ..); (with_reducible apply wpA_loadN (t := 30)); exact rfl; ((with_reducible apply Hp.rangeI hS (n := 5)); (focus repeat constructor)); kernel_rfl; kernel_rfl; (try simp only [Act.put, List.setIfInBounds_toArray, List.set_cons_zero, List.set_cons_succ])) | ((with_reducible show WSt ..); (with_reducible apply wpA_storeI hS); exact rfl; (focus repeat constructor); exact rfl; exact rfl; exact rfl; exact (Nat.le_of_ble_eq_true rfl); kernel_rfl; intro wx hS; (try simp only [Act.put, List.setIfInBounds_toArray, List.set_cons_zero, List.set_cons_succ]); (try simp only [Act.eval, Array.getD_eq_getD_getElem?, List.getElem?_toArray, List.getElem?_cons_succ, List.getElem?_cons_zero, Option.getD_some, List.set_cons_succ, List.set_cons_zero, Value.cells, List.toList_toArray] at hS); (try simp only [List.take_zero, List.take_succ_cons, List.nil_append, List.cons_append, List.length_cons, List.length_nil, Nat.reduceAdd, Nat.zero_add, List.drop_succ_cons, List.drop_zero, List.drop_nil, List.append_nil] at hS)) | ((with_reducible show WLd ..); (with_reducible apply wpA_load); exact rfl; (first | ((with_reducible apply St.cellI hS); (focus repeat constructor); exact rfl) | assumption); kernel_rfl) | ((with_reducible show WSt ..); (with_reducible apply wpA_store1I hS); exact rfl; (focus repeat constructor); exact rfl; exact rfl; exact rfl; exact rfl; kernel_rfl; intro wx hS; (try simp only [Act.put, List.setIfInBounds_toArray, List.set_cons_zero, List.set_cons_succ]); (try simp only [Act.eval, Array.getD_eq_getD_getElem?, List.getElem?_toArray, List.getElem?_cons_succ, List.getElem?_cons_zero, Option.getD_some, List.set_cons_succ, List.set_cons_zero, Value.cells, List.toList_toArray] at hS)))
  go_ret
  have hL := HF.out _ [_, _] hS
  exact ⟨⟨_, rfl⟩, (hL.sub (.cons _ (.cons _ (List.Sublist.refl _))))⟩
end
end Go.Proofs.Ytodojllclghoiaa
