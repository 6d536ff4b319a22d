/-
  A proposer's Promise, walked.
-/
import Derived.Test.YtkhjkicnalnibaaPropW2
import Derived.Test.YtkhjkicnalnibaaMapIter
import Derived.Deep.LoopGhost
import Derived.Shelf.Abstract
namespace Go.Proofs.Ytkhjkicnalnibaa
set_option linter.unusedVariables false
set_option linter.unusedSimpArgs false
open Go.RowKit

theorem slots_c {w0 w : World} {H : List Hp} (hS : St w0 w H) (p : Nat) (last : Int) : Calls Try.prog 27 #[.pointer (some ⟨p, 0, none⟩), .int .i64 last] w fun e w' => ∃ b1 b2, e = .returned (.func (.func 35) #[] #[.pointer (some ⟨b1, 0, none⟩), .pointer (some ⟨b2, 0, none⟩)]) ∧
    St w0 w' (.cells b2 [.int .i64 last] 3 :: .cells b1 [.pointer (some ⟨p, 0, none⟩)] 24 :: H) := by
  go_enter Try.func27, Try.ntmps27
  go_wp2_with (first | ((with_reducible show WGd ..); (with_reducible apply wpA_guard); exact rfl; skip) | ((first | ((with_reducible show WBx ..); (with_reducible apply wpA_box hS); exact rfl; exact rfl; intro b1 wx hS) | ((with_reducible show WBx ..); (with_reducible apply wpA_box hS); exact rfl; exact rfl; intro _ wx hS)); (try simp only [Act.put, List.setIfInBounds_toArray, List.set_cons_zero, List.set_cons_succ]); (try simp only [Act.eval, Array.getD_eq_getD_getElem?, List.getElem?_toArray, List.getElem?_cons_succ, List.getElem?_cons_zero, Option.getD_some, List.set_cons_succ, List.set_cons_zero, Value.cells, List.toList_toArray] at hS)) | ((with_reducible show WLd ..); (with_reducible apply wpA_load); exact rfl; (first | ((with_reducible apply St.cellI hS); (focus repeat constructor); exact rfl) | assumption); kernel_rfl) | ((with_reducible show WSt ..); (with_reducible apply wpA_store1I hS); exact rfl; (focus repeat constructor); exact rfl; exact rfl; exact rfl; exact rfl; kernel_rfl; intro wx hS; (try simp only [Act.put, List.setIfInBounds_toArray, List.set_cons_zero, List.set_cons_succ]); (try simp only [Act.eval, Array.getD_eq_getD_getElem?, List.getElem?_toArray, List.getElem?_cons_succ, List.getElem?_cons_zero, Option.getD_some, List.set_cons_succ, List.set_cons_zero, Value.cells, List.toList_toArray] at hS)))
  go_ret
  exact ⟨_, _, rfl, hS⟩

attribute [local go_sem] Oper.semAt_some in
theorem slots1_c {l b1 b2 p N : Nat} {frm last : Int} (J : Nat → World → Prop) (hN : N = (last + 1 - frm).toNat) (hbig : last ≤ 4611686018427387904) (h1 : 1 ≤ frm)
    (hf : ∀ k w, J k w → w.cell? ⟨b1, 0, none⟩ = some (.pointer (some ⟨p, 0, none⟩)) ∧ w.cell? ⟨b2, 0, none⟩ = some (.int .i64 last) ∧ w.cell? ⟨p, 2, none⟩ = some (.int .i64 frm))
    (hY : ∀ k w, k < N → J k w → YieldAt Fence.wide 1 Try.prog l #[.int .i64 (frm + k)] w fun e w' => e = .returned (.bool true) ∧ J (k + 1) w') (w : World) (h : J 0 w) :
    CallsIn Fence.wide 2 Try.prog 35 #[.func (.yield l) #[] #[], .pointer (some ⟨b1, 0, none⟩), .pointer (some ⟨b2, 0, none⟩)] w fun e w' => (∃ v, e = .returned v) ∧ J N w' := by
  have hro : Fence.wide.round = none := rfl
  refine callsIn_of_wp Try.func35 rfl trivial ?_ hro
  simp only [Try.ntmps35, List.size_toArray, List.length_cons, List.length_nil, Nat.reduceAdd, Nat.reduceSub, Array.replicate_succ, Array.replicate_zero, List.push_toArray, List.append_toArray, List.nil_append, List.cons_append]
  obtain ⟨c1, c2, c3⟩ := hf 0 w h
  gi_wp2
  gi_loopw [4] (fun s wr => ∃ k : Nat, k ≤ N ∧ s = .int .i64 (frm + k) ∧ J k wr) (fun s _ => (last + 1 - intOf s).toNat)
  case atStart => exact ⟨0, Nat.zero_le _, by simp, h⟩
  case round =>
    obtain ⟨k, hk, rfl, hJ⟩ := hrel
    obtain ⟨c1, c2, c3⟩ := hf k wr hJ
    by_cases hlt : k < N
    · obtain ⟨fn, tmps, assign, body, hy, hR⟩ := hY k wr hlt hJ
      have hle : frm + (k : Int) ≤ last := by omega
      have hw : wrap64 (frm + (k : Int) + 1) = frm + (k : Int) + 1 := by unfold wrap64; omega
      gi_wp2
      refine hR.mono ?_
      rintro e W' ⟨rfl, hJ'⟩
      gi_wp2
      go_roundw
      case rel => exact ⟨k + 1, by omega, by go_num, hJ'⟩
      case measure => simp [intOf]; omega
    · obtain rfl : k = N := by omega
      have hle : ¬ frm + (k : Int) ≤ last := by omega
      gi_wp2
      refine ⟨fun _ h => (by cases h), ?_⟩
      gi_wp2
      (first | go_end0 | (refine bodyPost_ret (results_none rfl _ _ _) rfl ?_))
      exact ⟨⟨_, rfl⟩, hJ⟩

theorem srv_cb {w0 w : World} {H : List Hp} (hS : St w0 w H) (p : Nat) (n k : Int) {b : Bool} (hn : ∀ w, St w0 w H → w.cell? ⟨p, 0, none⟩ = some (.int .i64 n)) (hb : srvD n k = b) : Calls Try.prog 25 #[.pointer (some ⟨p, 0, none⟩), .int .i64 k] w fun e w' => e = .returned (.bool b) ∧ St w0 w' H := by
  subst hb
  exact srv_c hS p n k hn
section
variable {w0 w : World} {R : List Hp} {p : Nat} {σ : PropS}

set_option maxRecDepth 100000 in
set_option maxHeartbeats 4000000 in
theorem promise_no (h : PropSt w0 w p σ R) (k : Int) (ad : Option Addr) (m cap : Nat) (hno : srvD σ.n k = false ∨ σ.ready = true ∨ k ∈ σ.who) : Calls Try.prog 9 #[.pointer (some ⟨p, 0, none⟩), .int .i64 k, .slice ad m cap] w fun e w' => e = .returned (.bool false) ∧ PropSt w0 w' p σ R := by
  obtain ⟨mw, mb, mo, va, vc, O, hO, hS⟩ := h
  obtain ⟨D, hD⟩ : ∃ D, O.flatMap ohp ++ R = D := ⟨_, rfl⟩
  obtain ⟨kvs, hkv⟩ : ∃ kvs, O.map kvO = kvs := ⟨_, rfl⟩
  rw [hkv, hD] at hS
  have HZ := Lib.hid (And.intro hO (And.intro hkv hD))
  clear hO hkv hD
  obtain ⟨n, ballot, frm, next, who, best, ready, vals, opn⟩ := σ
  simp only at hS hno ⊢
  cases hv : srvD n k with
  | false =>
    have HV := Lib.hid hv
    clear hv hno
    go_enter Try.func9, Try.ntmps9
    go_wp2_with (first | ((with_reducible show WGd ..); (with_reducible apply wpA_guard); exact rfl; skip) | (go_at_call 25; with_reducible refine (srv_cb hS p n k (fun w h => h.cell 1 rfl 0 rfl) HV.out).mono ?_; rintro _ _ ⟨rfl, hS⟩) | ((with_reducible show WLd ..); (with_reducible apply wpA_load); exact rfl; (first | ((with_reducible apply St.cellI hS); (focus repeat constructor); exact rfl) | assumption); kernel_rfl) | ((with_reducible show WSt ..); (with_reducible apply wpA_store1I hS); exact rfl; (focus repeat constructor); exact rfl; exact rfl; exact rfl; exact rfl; kernel_rfl; intro wx hS; (try simp only [Act.put, List.setIfInBounds_toArray, List.set_cons_zero, List.set_cons_succ]); (try simp only [Act.eval, Array.getD_eq_getD_getElem?, List.getElem?_toArray, List.getElem?_cons_succ, List.getElem?_cons_zero, Option.getD_some, List.set_cons_succ, List.set_cons_zero, Value.cells, List.toList_toArray] at hS)) | ((with_reducible show WBx ..); (with_reducible apply wpA_box hS); exact rfl; exact rfl; intro _ wx hS; (try simp only [Act.put, List.setIfInBounds_toArray, List.set_cons_zero, List.set_cons_succ]); (try simp only [Act.eval, Array.getD_eq_getD_getElem?, List.getElem?_toArray, List.getElem?_cons_succ, List.getElem?_cons_zero, Option.getD_some, List.set_cons_succ, List.set_cons_zero, Value.cells, List.toList_toArray] at hS)))
    go_ret
    obtain ⟨hO, hkv, hD⟩ := HZ.out
    rw [← hkv, ← hD] at hS
    exact ⟨rfl, mw, mb, mo, va, vc, O, hO, hS.tail⟩
  | true =>
    have HV := Lib.hid hv
    cases ready with
    | true =>
      clear hv hno
      go_enter Try.func9, Try.ntmps9
      go_wp2_with (first | ((with_reducible show WGd ..); (with_reducible apply wpA_guard); exact rfl; skip) | (go_at_call 25; with_reducible refine (srv_cb hS p n k (fun w h => h.cell 1 rfl 0 rfl) HV.out).mono ?_; rintro _ _ ⟨rfl, hS⟩) | ((with_reducible show WLd ..); (with_reducible apply wpA_load); exact rfl; (first | ((with_reducible apply St.cellI hS); (focus repeat constructor); exact rfl) | assumption); kernel_rfl) | ((with_reducible show WSt ..); (with_reducible apply wpA_store1I hS); exact rfl; (focus repeat constructor); exact rfl; exact rfl; exact rfl; exact rfl; kernel_rfl; intro wx hS; (try simp only [Act.put, List.setIfInBounds_toArray, List.set_cons_zero, List.set_cons_succ]); (try simp only [Act.eval, Array.getD_eq_getD_getElem?, List.getElem?_toArray, List.getElem?_cons_succ, List.getElem?_cons_zero, Option.getD_some, List.set_cons_succ, List.set_cons_zero, Value.cells, List.toList_toArray] at hS)) | ((with_reducible show WBx ..); (with_reducible apply wpA_box hS); exact rfl; exact rfl; intro _ wx hS; (try simp only [Act.put, List.setIfInBounds_toArray, List.set_cons_zero, List.set_cons_succ]); (try simp only [Act.eval, Array.getD_eq_getD_getElem?, List.getElem?_toArray, List.getElem?_cons_succ, List.getElem?_cons_zero, Option.getD_some, List.set_cons_succ, List.set_cons_zero, Value.cells, List.toList_toArray] at hS)))
      go_ret
      obtain ⟨hO, hkv, hD⟩ := HZ.out
      rw [← hkv, ← hD] at hS
      exact ⟨rfl, mw, mb, mo, va, vc, O, hO, hS.tail⟩
    | false =>
      have hk : k ∈ who := by
        rcases hno with h | h | h
        · rw [hv] at h; cases h
        · cases h
        · exact h
      have HW := Lib.hid (kvW_some hk)
      clear hv hno hk
      go_enter Try.func9, Try.ntmps9
      go_wp2_with (first | ((with_reducible show WGd ..); (with_reducible apply wpA_guard); exact rfl; skip) | (go_at_call 25; with_reducible refine (srv_cb hS p n k (fun w h => h.cell 1 rfl 0 rfl) HV.out).mono ?_; rintro _ _ ⟨rfl, hS⟩) | ((with_reducible show WLk ..); (with_reducible apply wpA_lookup hS 2 (z := .bool false) (r := some (.bool true))); exact rfl; exact rfl; exact rfl; exact Try.underlying54; exact Try.underlying3; exact rfl; kernel_rfl; exact HW.out; dsimp only [Option.getD, Option.isSome, if_true, Bool.false_eq_true, if_false]) | ((with_reducible show WLd ..); (with_reducible apply wpA_load); exact rfl; (first | ((with_reducible apply St.cellI hS); (focus repeat constructor); exact rfl) | assumption); kernel_rfl) | ((with_reducible show WSt ..); (with_reducible apply wpA_store1I hS); exact rfl; (focus repeat constructor); exact rfl; exact rfl; exact rfl; exact rfl; kernel_rfl; intro wx hS; (try simp only [Act.put, List.setIfInBounds_toArray, List.set_cons_zero, List.set_cons_succ]); (try simp only [Act.eval, Array.getD_eq_getD_getElem?, List.getElem?_toArray, List.getElem?_cons_succ, List.getElem?_cons_zero, Option.getD_some, List.set_cons_succ, List.set_cons_zero, Value.cells, List.toList_toArray] at hS)) | ((with_reducible show WBx ..); (with_reducible apply wpA_box hS); exact rfl; exact rfl; intro _ wx hS; (try simp only [Act.put, List.setIfInBounds_toArray, List.set_cons_zero, List.set_cons_succ]); (try simp only [Act.eval, Array.getD_eq_getD_getElem?, List.getElem?_toArray, List.getElem?_cons_succ, List.getElem?_cons_zero, Option.getD_some, List.set_cons_succ, List.set_cons_zero, Value.cells, List.toList_toArray] at hS)))
      go_ret
      obtain ⟨hO, hkv, hD⟩ := HZ.out
      rw [← hkv, ← hD] at hS
      exact ⟨rfl, mw, mb, mo, va, vc, O, hO, hS.tail⟩
end

/-! the entries that came -/
theorem keepD_old {frm : Int} {best : List EntS} {e : EntS} (h : e.slot < frm) : keepD frm best e = best := by unfold keepD; rw [if_pos h]
theorem keepD_new {frm : Int} {best : List EntS} {e : EntS} (h : ¬ e.slot < frm) (hx : best.findIdx? (fun x => decide (x.slot = e.slot)) = none) : keepD frm best e = best ++ [e] := by unfold keepD; rw [if_neg h, hx]
theorem keepD_less {frm : Int} {best : List EntS} {e x : EntS} {i : Nat} (h : ¬ e.slot < frm) (hx : best.findIdx? (fun x => decide (x.slot = e.slot)) = some i) (hi : best[i]? = some x) (hb : ¬ x.ballot < e.ballot) : keepD frm best e = best := by
  unfold keepD; rw [if_neg h, hx]; simp only [getD_of hi]; rw [if_neg hb]
theorem keepD_more {frm : Int} {best : List EntS} {e x : EntS} {i : Nat} (h : ¬ e.slot < frm) (hx : best.findIdx? (fun x => decide (x.slot = e.slot)) = some i) (hi : best[i]? = some x) (hb : x.ballot < e.ballot) : keepD frm best e = best.set i e := by
  unfold keepD; rw [if_neg h, hx]; simp only [getD_of hi]; rw [if_pos hb]
theorem keep_take {frm : Int} {best : List EntS} {es : List EntS} {i : Nat} {e : EntS} (h : es[i]? = some e) : (es.take (i + 1)).foldl (keepD frm) best = keepD frm ((es.take i).foldl (keepD frm) best) e := by
  rw [List.take_add_one, h]; simp
theorem Ents.elem {w : World} {ad : Option Addr} {es : List EntS} (h : Ents w ad es) {i : Nat} {e : EntS} (hi : es[i]? = some e) : ∃ g j, ad = some ⟨g, j, none⟩ ∧ w.rangeAt g (j + i * 7) e.cells := h i e hi

/-- The state while entries are taken. -/
abbrev pst (g3 p mw mb mo : Nat) (n ballot frm next : Int) (who : List Int) (best : List EntS) (ready : Bool) (vals : List EntS) (va : Option Addr) (vc : Nat) (kvs : List (Value × Value)) (D : List Hp) : List Hp :=
  .cells g3 [.pointer (some ⟨p, 0, none⟩)] 24 :: pc p mw mb mo ⟨n, ballot, frm, next, who, best, ready, vals, []⟩ va vals.length vc :: .mp mw (.int .i64) (who.map kvW) :: .mp mb (.int .i64) (best.map kvB) :: vrow va vc vals :: .mp mo (.int .i64) kvs :: D

/-! the greatest slot -/
theorem last_foldl (l : List EntS) : ∀ m : Int, m ≤ l.foldl (fun m e => max m e.slot) m ∧ (∀ e ∈ l, e.slot ≤ l.foldl (fun m e => max m e.slot) m) ∧ ∀ b, m ≤ b → (∀ e ∈ l, e.slot ≤ b) → l.foldl (fun m e => max m e.slot) m ≤ b := by
  induction l with
  | nil => intro m; exact ⟨Int.le_refl _, by simp, fun b h _ => h⟩
  | cons x r ih =>
    intro m
    obtain ⟨h1, h2, h3⟩ := ih (max m x.slot)
    refine ⟨by simp only [List.foldl_cons]; omega, ?_, ?_⟩
    · intro e he
      rcases List.mem_cons.1 he with rfl | he
      · simp only [List.foldl_cons]; omega
      · exact h2 e he
    · intro b hb hall
      refine h3 b ?_ (fun e he => hall e (List.mem_cons_of_mem _ he))
      have := hall x (by simp)
      omega
theorem lastD_frm (frm : Int) (l : List EntS) : frm - 1 ≤ lastD frm l := (last_foldl l _).1
theorem lastD_mem {frm : Int} {l : List EntS} {e : EntS} (h : e ∈ l) : e.slot ≤ lastD frm l := (last_foldl l _).2.1 e h
theorem lastD_le {frm b : Int} {l : List EntS} (h1 : frm - 1 ≤ b) (h2 : ∀ e ∈ l, e.slot ≤ b) : lastD frm l ≤ b := (last_foldl l _).2.2 b h1 h2

theorem toFront (A Z B : List Hp) (g : Hp) (R : List Hp) : (A ++ (Z ++ (B ++ g :: R))).Perm (g :: (A ++ (Z ++ (B ++ R)))) := by
  have := List.perm_middle (l₁ := A ++ (Z ++ B)) (a := g) (l₂ := R)
  simpa [List.append_assoc] using this

theorem PropSt.frmCell {w0 w : World} {p : Nat} {σ : PropS} {R : List Hp} (h : PropSt w0 w p σ R) : w.cell? ⟨p, 2, none⟩ = some (.int .i64 σ.frm) := by
  obtain ⟨mw, mb, mo, va, vc, O, hO, hS⟩ := h
  exact hS.cell 0 rfl 2 rfl
theorem PropSt.recd {w0 : World} {p l : Nat} {σ : PropS} {X : List Hp} : Rec w0 l (fun o w => PropSt w0 w p σ (.obj l o :: X)) :=
  ⟨fun _ _ h => h.rest.at_ 0 rfl, fun o o' w h => by
    obtain ⟨D, hS, hb⟩ := h.use
    have h1 : St w0 w (.obj l o :: (D ++ X)) := hS.perm List.perm_middle
    exact hb _ _ ((h1.putObj o').perm List.perm_middle.symm)⟩

/-- The state of the loop that lays the values. -/
abbrev σL (n ballot frm : Int) (who : List Int) (B : List EntS) (k : Nat) : PropS := ⟨n, ballot, frm, frm + k, who, B, true, fillD ballot B frm k, (fillD ballot B frm k).map newS⟩
theorem fillD_length (ballot s : Int) (B : List EntS) (k : Nat) : (fillD ballot B s k).length = k := by simp [fillD]
theorem fillD_succ (ballot s : Int) (B : List EntS) (k : Nat) : fillD ballot B s (k + 1) = fillD ballot B s k ++ [⟨s + k, ballot, bcmd B (s + k)⟩] := by simp [fillD, List.range_succ]
theorem fillD_mem {ballot s : Int} {B : List EntS} {k : Nat} {e : EntS} (h : e ∈ fillD ballot B s k) : s ≤ e.slot ∧ e.slot < s + k := by
  unfold fillD at h
  obtain ⟨i, hi, rfl⟩ := List.mem_map.1 h
  have := List.mem_range.1 hi
  simp only
  omega
theorem best_look {w : World} {mb : Nat} {B : List EntS} (h : Hp.on w (.mp mb (.int .i64) (B.map kvB))) (s : Int) :
    (Instr.lookup 55 (.map (some mb)) (.int .i64 s) false).run Try.prog w = .ok (.agg ((bestD B s).getD ent0).cells.toArray) w := by
  cases hx : bestD B s with
  | none =>
    have hno : ∀ p ∈ B.map kvB, p.1 ≠ Value.int .i64 s := by
      intro p hp e
      obtain ⟨x, hx', rfl⟩ := List.mem_map.1 hp
      simp only [kvB] at e
      injection e with _ e
      have := List.find?_eq_none.1 hx x hx'
      simp [e] at this
    exact run_lookup_none (key := .int .i64 s) (z := .agg ent0.cells.toArray) Try.underlying55 Try.underlying3 h rfl (by kernel_rfl) hno false
  | some e =>
    have hm := List.mem_of_find?_eq_some hx
    have hs : e.slot = s := by have := List.find?_some hx; simpa using this
    obtain ⟨j, hj⟩ := List.getElem?_of_mem hm
    exact run_lookup_some (key := .int .i64 s) Try.underlying55 Try.underlying3 h rfl (i := j) (v := .agg e.cells.toArray) (by rw [List.getElem?_map, hj, ← hs]; rfl) false
theorem bcmd_eq (B : List EntS) (s : Int) : bcmd B s = ((bestD B s).getD ent0).cmd := by
  unfold bcmd
  cases bestD B s <;> rfl

section
variable {w0 w : World} {R : List Hp} {p : Nat} {σ : PropS}

set_option maxRecDepth 100000 in
set_option maxHeartbeats 8000000 in
attribute [local go_sem] Oper.semAt_some in
theorem promise_yes (h : PropSt w0 w p σ R) (k : Int) (ad : Option Addr) (cap : Nat) (es : List EntS) (hl : ∀ w, St w0 w R → Ents w ad es) (hn : σ.n ≤ 1000000000000) (hes : es.length ≤ 1000000) (hw : σ.who.length ≤ 1000000)
    (hv : srvD σ.n k = true) (hr : σ.ready = false) (hk : k ∉ σ.who) (hvl : σ.vals = []) (hop : σ.opn = []) (f1 : 1 ≤ σ.frm) (f2 : σ.frm ≤ 1099511627776) (hlast : lastD σ.frm (es.foldl (keepD σ.frm) σ.best) ≤ σ.frm + 1000) (hbl : (es.foldl (keepD σ.frm) σ.best).length ≤ 1000000) :
    Calls Try.prog 9 #[.pointer (some ⟨p, 0, none⟩), .int .i64 k, .slice ad es.length cap] w fun e w' => e = .returned (.bool (promiseD σ k es).1) ∧ PropSt w0 w' p (promiseD σ k es).2 R := by
  have e0 : promiseD σ k es = if ((σ.who ++ [k]).length : Int) < majD σ.n then (false, { σ with who := σ.who ++ [k], best := es.foldl (keepD σ.frm) σ.best })
    else (true, { σ with who := σ.who ++ [k], best := es.foldl (keepD σ.frm) σ.best, ready := true, vals := σ.vals ++ valsD σ.frm σ.ballot (es.foldl (keepD σ.frm) σ.best), opn := σ.opn ++ (valsD σ.frm σ.ballot (es.foldl (keepD σ.frm) σ.best)).map newS, next := lastD σ.frm (es.foldl (keepD σ.frm) σ.best) + 2 }) := by
    unfold promiseD
    rw [if_neg (by rintro (h | h | h); rw [hv] at h; cases h; rw [hr] at h; cases h; exact hk h)]
  rw [e0]
  clear e0
  obtain ⟨n, ballot, frm, next, who, best, ready, vals, opn⟩ := σ
  simp only at hn hw hv hr hk hvl hop f1 f2 hlast hbl ⊢
  subst hr hvl hop
  generalize hres : (if ((who ++ [k]).length : Int) < majD n then _ else _) = res
  have HRES := Lib.hid hres
  clear hres
  have hrest : ∀ w (A : List Hp), St w0 w (A ++ R) → St w0 w R := fun w A h => h.dropA
  obtain ⟨mw, mb, mo, va, vc, O, hO, hS⟩ := h
  have hO' : O = [] := List.map_eq_nil_iff.1 hO
  subst hO'
  simp only [List.map_nil, List.flatMap_nil, List.nil_append] at hS
  have HL := Lib.hid hl
  have HV := Lib.hid hv
  have HW := Lib.hid (kvW_none hk)
  clear hO hl hv hk hrest
  refine calls_of_marks Try.func9 rfl ?_
  simp only [Try.ntmps9, List.size_toArray, List.length_cons, List.length_nil, Nat.reduceAdd, Nat.reduceSub, Array.replicate_succ, Array.replicate_zero, List.push_toArray, List.append_toArray, List.nil_append, List.cons_append]
  go_upto_block 0 with (first | ((with_reducible show WGd ..); (with_reducible apply wpA_guard); exact rfl; skip) | (go_at_call 25; with_reducible refine (srv_cb hS p n k (fun w h => h.cell 1 rfl 0 rfl) HV.out).mono ?_; rintro _ _ ⟨rfl, hS⟩) | ((with_reducible show WLk ..); (with_reducible apply wpA_lookup hS 2 (z := .bool false) (r := none)); exact rfl; exact rfl; exact rfl; exact Try.underlying54; exact Try.underlying3; exact rfl; kernel_rfl; exact HW.out; dsimp only [Option.getD, Option.isSome, if_true, Bool.false_eq_true, if_false]) | ((with_reducible show WUp ..); (with_reducible apply wpA_update_new hS 2); exact rfl; exact rfl; exact rfl; exact rfl; exact Try.underlying54; exact Try.underlying3; exact rfl; exact HW.out; intro wx hS; (try simp only [Act.put, List.setIfInBounds_toArray, List.set_cons_zero, List.set_cons_succ]); (try simp only [Act.eval, Array.getD_eq_getD_getElem?, List.getElem?_toArray, List.getElem?_cons_succ, List.getElem?_cons_zero, Option.getD_some, List.set_cons_succ, List.set_cons_zero, Value.cells, List.toList_toArray] at hS)) | ((first | ((with_reducible show WBx ..); (with_reducible apply wpA_box hS); exact rfl; exact rfl; intro g3 wx hS) | ((with_reducible show WBx ..); (with_reducible apply wpA_box hS); exact rfl; exact rfl; intro _ wx hS)); (try simp only [Act.put, List.setIfInBounds_toArray, List.set_cons_zero, List.set_cons_succ]); (try simp only [Act.eval, Array.getD_eq_getD_getElem?, List.getElem?_toArray, List.getElem?_cons_succ, List.getElem?_cons_zero, Option.getD_some, List.set_cons_succ, List.set_cons_zero, Value.cells, List.toList_toArray] at hS)) | ((with_reducible show WLd ..); (with_reducible apply wpA_load); exact rfl; (first | ((with_reducible apply St.cellI hS); (focus repeat constructor); exact rfl) | assumption); kernel_rfl) | ((with_reducible show WSt ..); (with_reducible apply wpA_store1I hS); exact rfl; (focus repeat constructor); exact rfl; exact rfl; exact rfl; exact rfl; kernel_rfl; intro wx hS; (try simp only [Act.put, List.setIfInBounds_toArray, List.set_cons_zero, List.set_cons_succ]); (try simp only [Act.eval, Array.getD_eq_getD_getElem?, List.getElem?_toArray, List.getElem?_cons_succ, List.getElem?_cons_zero, Option.getD_some, List.set_cons_succ, List.set_cons_zero, Value.cells, List.toList_toArray] at hS)))
  (try simp only [Act.eval, Array.getD_eq_getD_getElem?, List.getElem?_toArray, List.getElem?_cons_succ, List.getElem?_cons_zero, Option.getD_some, List.set_cons_succ, List.set_cons_zero, Value.cells, List.toList_toArray] at hS)
  rw [show who.map kvW ++ [(Value.int .i64 k, Value.bool true)] = (who ++ [k]).map kvW by simp [kvW]] at hS
  let HDUM : Exit → Act → World → Prop := bodyPost Try.prog Try.f9 (fun _ _ => True)
  go_cut [] (fun wr => St w0 wr (pst g3 p mw mb mo n ballot frm next (who ++ [k]) (es.foldl (keepD frm) best) false [] va vc [] R))
  case first =>
    go_wp2_with (first | ((with_reducible show WGd ..); (with_reducible apply wpA_guard); exact rfl; skip) | ((with_reducible show WLd ..); (with_reducible apply wpA_load); exact rfl; (first | ((with_reducible apply St.cellI hS); (focus repeat constructor); exact rfl) | assumption); kernel_rfl) | ((with_reducible show WSt ..); (with_reducible apply wpA_store1I hS); exact rfl; (focus repeat constructor); exact rfl; exact rfl; exact rfl; exact rfl; kernel_rfl; intro wx hS; (try simp only [Act.put, List.setIfInBounds_toArray, List.set_cons_zero, List.set_cons_succ]); (try simp only [Act.eval, Array.getD_eq_getD_getElem?, List.getElem?_toArray, List.getElem?_cons_succ, List.getElem?_cons_zero, Option.getD_some, List.set_cons_succ, List.set_cons_zero, Value.cells, List.toList_toArray] at hS)) | ((with_reducible show WBx ..); (with_reducible apply wpA_box hS); exact rfl; exact rfl; intro _ wx hS; (try simp only [Act.put, List.setIfInBounds_toArray, List.set_cons_zero, List.set_cons_succ]); (try simp only [Act.eval, Array.getD_eq_getD_getElem?, List.getElem?_toArray, List.getElem?_cons_succ, List.getElem?_cons_zero, Option.getD_some, List.set_cons_succ, List.set_cons_zero, Value.cells, List.toList_toArray] at hS)))
    go_loopw [39] (fun c wr => ∃ i : Nat, i ≤ es.length ∧ c = .int .i64 i ∧ St w0 wr (pst g3 p mw mb mo n ballot frm next (who ++ [k]) ((es.take i).foldl (keepD frm) best) false [] va vc [] R)) (fun c _ => es.length - (intOf c).toNat)
    case atStart => exact ⟨0, Nat.zero_le _, rfl, hS⟩
    case round =>
      clear hS
      obtain ⟨i, hi, rfl, hS⟩ := hrel
      by_cases hlt : i < es.length
      · obtain ⟨e, he⟩ : ∃ e, es[i]? = some e := ⟨_, List.getElem?_eq_getElem hlt⟩
        obtain ⟨ga, ja, rfl, hel⟩ := HL.out wr hS.tail.tail.tail.tail.tail.tail i e he
        have htk := keep_take (frm := frm) (best := best) he
        have HEL := Lib.hid hel
        have HT := Lib.hid htk
        obtain ⟨B0, hB0⟩ : ∃ B0, (es.take i).foldl (keepD frm) best = B0 := ⟨_, rfl⟩
        rw [hB0] at hS HT
        obtain ⟨es_, eb, ⟨ek, ee, eq_, en, e5⟩⟩ := e
        simp only [EntS.cells] at HEL
        clear hel htk hB0 he
        simp only [pst] at hS
        by_cases h1 : es_ < frm
        · have hd : decide (frm ≤ es_) = false := by simp; omega
          cases hx : B0.findIdx? (fun x => decide (x.slot = es_)) with
          | none =>
            have HJ := Lib.hid (kvB_none hx)
            have HK := Lib.hid (keepD_old (best := B0) (e := ⟨es_, eb, ⟨ek, ee, eq_, en, e5⟩⟩) h1)
            clear hx
            go_upto_region 7 with (first | ((with_reducible show WGd ..); (with_reducible apply wpA_guard); exact rfl; skip) | ((with_reducible show WLd ..); (with_reducible apply wpA_loadN (t := 30)); exact rfl; exact HEL.out; kernel_rfl; kernel_rfl; (try simp only [Act.put, List.setIfInBounds_toArray, List.set_cons_zero, List.set_cons_succ])) | ((with_reducible show WLd ..); (with_reducible apply wpA_loadN (t := 30)); exact rfl; ((with_reducible apply Hp.rangeI hS (n := 7)); (focus repeat constructor)); kernel_rfl; kernel_rfl; (try simp only [Act.put, List.setIfInBounds_toArray, List.set_cons_zero, List.set_cons_succ])) | ((first | ((with_reducible show WAl ..); (with_reducible apply wpA_alloc (t := 30) hS (v := .agg #[.int .i64 0, .int .i64 0, .int .i64 0, .int .i64 0, .int .i64 0, .string ⟨#[]⟩, .int .i64 0])); kernel_rfl; exact rfl; intro _ wx hS) | ((with_reducible show WBs ..); (with_reducible apply wpA_oneN hS (z := .agg #[.int .i64 0, .int .i64 0, .int .i64 0, .int .i64 0, .int .i64 0, .string ⟨#[]⟩, .int .i64 0]) (bytes := 64) (size := 7)); exact Try.underlying26; kernel_rfl; exact rfl; exact rfl; exact rfl; exact (by decide); exact (by decide); intro _ wx hS) | ((with_reducible show WBx ..); (with_reducible apply wpA_box hS); exact rfl; exact rfl; intro _ wx hS)); (try simp only [Act.put, List.setIfInBounds_toArray, List.set_cons_zero, List.set_cons_succ]); (try simp only [Act.eval, Array.getD_eq_getD_getElem?, List.getElem?_toArray, List.getElem?_cons_succ, List.getElem?_cons_zero, Option.getD_some, List.set_cons_succ, List.set_cons_zero, Value.cells, List.toList_toArray] at hS)) | ((with_reducible show WAp ..); (with_reducible apply wpA_appendI hS (e := 30) (z := .agg #[.int .i64 0, .int .i64 0, .int .i64 0, .int .i64 0, .int .i64 0, .string ⟨#[]⟩, .int .i64 0]) (size := 7) (bytes := 64)); exact rfl; exact rfl; exact Try.underlying26; (focus repeat constructor); exact .inr Try.underlying26; kernel_rfl; exact rfl; exact (Src.freshN (m := 1) hS 0 rfl rfl (by rfl)); exact (by unfold maxLen; omega); exact (by omega); intro _ _ wx hS; (try simp only [Act.put, List.setIfInBounds_toArray, List.set_cons_zero, List.set_cons_succ])) | ((with_reducible show WSt ..); (with_reducible apply wpA_storeI hS); exact rfl; (focus repeat constructor); exact rfl; exact rfl; exact rfl; exact (Nat.le_of_ble_eq_true rfl); kernel_rfl; intro wx hS; (try simp only [Act.put, List.setIfInBounds_toArray, List.set_cons_zero, List.set_cons_succ]); (try simp only [Act.eval, Array.getD_eq_getD_getElem?, List.getElem?_toArray, List.getElem?_cons_succ, List.getElem?_cons_zero, Option.getD_some, List.set_cons_succ, List.set_cons_zero, Value.cells, List.toList_toArray] at hS); (try simp only [List.take_zero, List.take_succ_cons, List.nil_append, List.cons_append, List.length_cons, List.length_nil, Nat.reduceAdd, Nat.zero_add, List.drop_succ_cons, List.drop_zero, List.drop_nil, List.append_nil] at hS)) | ((with_reducible show WLd ..); (with_reducible apply wpA_load); exact rfl; (first | ((with_reducible apply St.cellI hS); (focus repeat constructor); exact rfl) | assumption); kernel_rfl) | ((with_reducible show WSt ..); (with_reducible apply wpA_store1I hS); exact rfl; (focus repeat constructor); exact rfl; exact rfl; exact rfl; exact rfl; kernel_rfl; intro wx hS; (try simp only [Act.put, List.setIfInBounds_toArray, List.set_cons_zero, List.set_cons_succ]); (try simp only [Act.eval, Array.getD_eq_getD_getElem?, List.getElem?_toArray, List.getElem?_cons_succ, List.getElem?_cons_zero, Option.getD_some, List.set_cons_succ, List.set_cons_zero, Value.cells, List.toList_toArray] at hS)))
            refine wp_region_A hS (by kernel_rfl) (fun _ hR hS => ?_)
            simp only [List.length_cons, List.length_nil, Nat.reduceAdd]
            refine takeA_load (i := 0) [] rfl (by exact rfl) (by kernel_rfl) (fun _ _ _ h => h) (by decide) rfl (fun w hS => by (first | ((with_reducible apply St.cellI hS); (focus repeat constructor); exact rfl) | assumption)) (by kernel_rfl) hR (fun hR => ?_)
            (simp only [Act.put, List.setIfInBounds_toArray, List.set_cons_zero, List.set_cons_succ])
            refine takeAP_val (i := 1) ?_ rfl (by exact rfl) (by kernel_rfl) (fun _ _ _ h => h) ?_ hR (fun hR => ?_)
            rotate_left
            · intro w; go_simp; (first | done | (with_reducible rfl) | (refine (if_pos ?_).trans ?_; (focus omega); with_reducible rfl) | skip)
            (simp only [Act.put, List.setIfInBounds_toArray, List.set_cons_zero, List.set_cons_succ])
            refine takeAP_val (i := 2) ?_ rfl (by exact rfl) (by kernel_rfl) (fun _ _ _ h => h) ?_ hR (fun hR => ?_)
            rotate_left
            · intro w; go_simp; (first | done | (with_reducible rfl) | (refine (if_pos ?_).trans ?_; (focus omega); with_reducible rfl) | skip)
            (simp only [Act.put, List.setIfInBounds_toArray, List.set_cons_zero, List.set_cons_succ])
            refine takeA_load (i := 3) [] rfl (by exact rfl) (by kernel_rfl) (fun _ _ _ h => h) (by decide) rfl (fun w hS => by (first | ((with_reducible apply St.cellI hS); (focus repeat constructor); exact rfl) | assumption)) (by kernel_rfl) hR (fun hR => ?_)
            (simp only [Act.put, List.setIfInBounds_toArray, List.set_cons_zero, List.set_cons_succ])
            refine takeAP_val (i := 4) ?_ rfl (by exact rfl) (by kernel_rfl) (fun _ _ _ h => h) ?_ hR (fun hR => ?_)
            rotate_left
            · intro w; go_simp; (first | done | (with_reducible rfl) | (refine (if_pos ?_).trans ?_; (focus omega); with_reducible rfl) | skip)
            (simp only [Act.put, List.setIfInBounds_toArray, List.set_cons_zero, List.set_cons_succ])
            refine takeA_load (i := 5) [] rfl (by exact rfl) (by kernel_rfl) (fun _ _ _ h => h) (by decide) rfl (fun w hS => by (first | ((with_reducible apply St.cellI hS); (focus repeat constructor); exact rfl) | assumption)) (by kernel_rfl) hR (fun hR => ?_)
            (simp only [Act.put, List.setIfInBounds_toArray, List.set_cons_zero, List.set_cons_succ])
            refine takeA_lookup (i := 6) [] 4 rfl (by exact rfl) (by kernel_rfl) (z := .agg #[.int .i64 0, .int .i64 0, .int .i64 0, .int .i64 0, .int .i64 0, .string ⟨#[]⟩, .int .i64 0]) (none) (fun _ _ _ h => h) (by decide) rfl rfl rfl Try.underlying55 Try.underlying3 rfl (by kernel_rfl) HJ.out hR (fun hR => ?_)
            dsimp only [Option.getD, Option.isSome, if_true, Bool.false_eq_true, if_false]
            (simp only [Act.put, List.setIfInBounds_toArray, List.set_cons_zero, List.set_cons_succ])
            refine takeAP_val (i := 7) ?_ rfl (by exact rfl) (by kernel_rfl) (fun _ _ _ h => h) ?_ hR (fun hR => ?_)
            rotate_left
            · intro w; go_simp; (first | done | (with_reducible rfl) | (refine (if_pos ?_).trans ?_; (focus omega); with_reducible rfl) | skip)
            (simp only [Act.put, List.setIfInBounds_toArray, List.set_cons_zero, List.set_cons_succ])
            refine takeAP_val (i := 8) ?_ rfl (by exact rfl) (by kernel_rfl) (fun _ _ _ h => h) ?_ hR (fun hR => ?_)
            rotate_left
            · intro w; go_simp; (first | done | (with_reducible rfl) | (refine (if_pos ?_).trans ?_; (focus omega); with_reducible rfl) | skip)
            (simp only [Act.put, List.setIfInBounds_toArray, List.set_cons_zero, List.set_cons_succ])
            refine takeAP_val (i := 9) ?_ rfl (by exact rfl) (by kernel_rfl) (fun _ _ _ h => h) ?_ hR (fun hR => ?_)
            rotate_left
            · intro w; go_simp; (first | done | (with_reducible rfl) | (refine (if_pos ?_).trans ?_; (focus omega); with_reducible rfl) | skip)
            (simp only [Act.put, List.setIfInBounds_toArray, List.set_cons_zero, List.set_cons_succ])
            refine oneA (i := 10) (by kernel_rfl) rfl (by exact rfl) (fun K_ hK_ => ?_)
            ((with_reducible apply opA_alloc (t := 30) hS (v := .agg #[.int .i64 0, .int .i64 0, .int .i64 0, .int .i64 0, .int .i64 0, .string ⟨#[]⟩, .int .i64 0])); kernel_rfl; exact rfl; intro _ wx hS; (try simp only [Act.eval, Array.getD_eq_getD_getElem?, List.getElem?_toArray, List.getElem?_cons_succ, List.getElem?_cons_zero, Option.getD_some, List.set_cons_succ, List.set_cons_zero, Value.cells, List.toList_toArray] at hS))
            refine hK_ _ _ (id (hS.tail)) ?_; clear hK_ K_
            (simp only [Act.put, List.setIfInBounds_toArray, List.set_cons_zero, List.set_cons_succ])
            refine oneA (i := 11) (by kernel_rfl) rfl (by exact rfl) (fun K_ hK_ => ?_)
            ((with_reducible apply opA_storeI hS); exact rfl; (focus repeat constructor); exact rfl; exact rfl; exact rfl; exact (Nat.le_of_ble_eq_true rfl); kernel_rfl; intro wx hS; (try simp only [Act.eval, Array.getD_eq_getD_getElem?, List.getElem?_toArray, List.getElem?_cons_succ, List.getElem?_cons_zero, Option.getD_some, List.set_cons_succ, List.set_cons_zero, Value.cells, List.toList_toArray] at hS); (try simp only [List.take_zero, List.take_succ_cons, List.nil_append, List.cons_append, List.length_cons, List.length_nil, Nat.reduceAdd, Nat.zero_add, List.drop_succ_cons, List.drop_zero, List.drop_nil, List.append_nil] at hS))
            refine hK_ _ _ (id (hS.tail)) ?_; clear hK_ K_
            (simp only [Act.put, List.setIfInBounds_toArray, List.set_cons_zero, List.set_cons_succ])
            refine takeAP_val (i := 12) ?_ rfl (by exact rfl) (by kernel_rfl) (fun _ _ _ h => h) ?_ (id hS.tail) (fun hR => ?_)
            rotate_left
            · intro w; go_simp; (first | done | (with_reducible rfl) | (refine (if_pos ?_).trans ?_; (focus omega); with_reducible rfl) | skip)
            (simp only [Act.put, List.setIfInBounds_toArray, List.set_cons_zero, List.set_cons_succ])
            refine wpAnyR_done (by kernel_rfl) ?_ _
            go_wp2_with (first | ((with_reducible show WGd ..); (with_reducible apply wpA_guard); exact rfl; skip) | ((with_reducible show WLd ..); (with_reducible apply wpA_loadN (t := 30)); exact rfl; ((with_reducible apply Hp.rangeI hS (n := 7)); (focus repeat constructor)); kernel_rfl; kernel_rfl; (try simp only [Act.put, List.setIfInBounds_toArray, List.set_cons_zero, List.set_cons_succ])) | ((first | ((with_reducible show WAl ..); (with_reducible apply wpA_alloc (t := 30) hS (v := .agg #[.int .i64 0, .int .i64 0, .int .i64 0, .int .i64 0, .int .i64 0, .string ⟨#[]⟩, .int .i64 0])); kernel_rfl; exact rfl; intro _ wx hS) | ((with_reducible show WBs ..); (with_reducible apply wpA_oneN hS (z := .agg #[.int .i64 0, .int .i64 0, .int .i64 0, .int .i64 0, .int .i64 0, .string ⟨#[]⟩, .int .i64 0]) (bytes := 64) (size := 7)); exact Try.underlying26; kernel_rfl; exact rfl; exact rfl; exact rfl; exact (by decide); exact (by decide); intro _ wx hS) | ((with_reducible show WBx ..); (with_reducible apply wpA_box hS); exact rfl; exact rfl; intro _ wx hS)); (try simp only [Act.put, List.setIfInBounds_toArray, List.set_cons_zero, List.set_cons_succ]); (try simp only [Act.eval, Array.getD_eq_getD_getElem?, List.getElem?_toArray, List.getElem?_cons_succ, List.getElem?_cons_zero, Option.getD_some, List.set_cons_succ, List.set_cons_zero, Value.cells, List.toList_toArray] at hS)) | ((with_reducible show WAp ..); (with_reducible apply wpA_appendI hS (e := 30) (z := .agg #[.int .i64 0, .int .i64 0, .int .i64 0, .int .i64 0, .int .i64 0, .string ⟨#[]⟩, .int .i64 0]) (size := 7) (bytes := 64)); exact rfl; exact rfl; exact Try.underlying26; (focus repeat constructor); exact .inr Try.underlying26; kernel_rfl; exact rfl; exact (Src.freshN (m := 1) hS 0 rfl rfl (by rfl)); exact (by unfold maxLen; omega); exact (by omega); intro _ _ wx hS; (try simp only [Act.put, List.setIfInBounds_toArray, List.set_cons_zero, List.set_cons_succ])) | ((with_reducible show WSt ..); (with_reducible apply wpA_storeI hS); exact rfl; (focus repeat constructor); exact rfl; exact rfl; exact rfl; exact (Nat.le_of_ble_eq_true rfl); kernel_rfl; intro wx hS; (try simp only [Act.put, List.setIfInBounds_toArray, List.set_cons_zero, List.set_cons_succ]); (try simp only [Act.eval, Array.getD_eq_getD_getElem?, List.getElem?_toArray, List.getElem?_cons_succ, List.getElem?_cons_zero, Option.getD_some, List.set_cons_succ, List.set_cons_zero, Value.cells, List.toList_toArray] at hS); (try simp only [List.take_zero, List.take_succ_cons, List.nil_append, List.cons_append, List.length_cons, List.length_nil, Nat.reduceAdd, Nat.zero_add, List.drop_succ_cons, List.drop_zero, List.drop_nil, List.append_nil] at hS)) | ((with_reducible show WLd ..); (with_reducible apply wpA_load); exact rfl; (first | ((with_reducible apply St.cellI hS); (focus repeat constructor); exact rfl) | assumption); kernel_rfl) | ((with_reducible show WSt ..); (with_reducible apply wpA_store1I hS); exact rfl; (focus repeat constructor); exact rfl; exact rfl; exact rfl; exact rfl; kernel_rfl; intro wx hS; (try simp only [Act.put, List.setIfInBounds_toArray, List.set_cons_zero, List.set_cons_succ]); (try simp only [Act.eval, Array.getD_eq_getD_getElem?, List.getElem?_toArray, List.getElem?_cons_succ, List.getElem?_cons_zero, Option.getD_some, List.set_cons_succ, List.set_cons_zero, Value.cells, List.toList_toArray] at hS)))
            refine wp_region_St hS (by kernel_rfl) (by kernel_rfl) (Bx.out ?_)
            refine bQ_val ?_ rfl ?_ ?_
            rotate_left
            · intro w hS; go_simp; (first | done | (with_reducible rfl) | (refine (if_pos ?_).trans ?_; (focus omega); with_reducible rfl) | skip)
            (simp only [Act.put, List.setIfInBounds_toArray, List.set_cons_zero, List.set_cons_succ])
            refine bQ_load rfl (fun w hS => by (first | ((with_reducible apply St.cellI hS); (focus repeat constructor); exact rfl) | assumption)) (by kernel_rfl) ?_
            (simp only [Act.put, List.setIfInBounds_toArray, List.set_cons_zero, List.set_cons_succ])
            refine bQ_load rfl (fun w hS => by (first | ((with_reducible apply St.cellI hS); (focus repeat constructor); exact rfl) | assumption)) (by kernel_rfl) ?_
            (simp only [Act.put, List.setIfInBounds_toArray, List.set_cons_zero, List.set_cons_succ])
            refine bQ_val ?_ rfl ?_ ?_
            rotate_left
            · intro w hS; go_simp; (first | done | (with_reducible rfl) | (refine (if_pos ?_).trans ?_; (focus omega); with_reducible rfl) | skip)
            (simp only [Act.put, List.setIfInBounds_toArray, List.set_cons_zero, List.set_cons_succ])
            refine bQ_val ?_ rfl ?_ ?_
            rotate_left
            · intro w hS; go_simp; (first | done | (with_reducible rfl) | (refine (if_pos ?_).trans ?_; (focus omega); with_reducible rfl) | skip)
            (simp only [Act.put, List.setIfInBounds_toArray, List.set_cons_zero, List.set_cons_succ])
            refine bQ_load rfl (fun w hS => by (first | ((with_reducible apply St.cellI hS); (focus repeat constructor); exact rfl) | assumption)) (by kernel_rfl) ?_
            (simp only [Act.put, List.setIfInBounds_toArray, List.set_cons_zero, List.set_cons_succ])
            refine bQ_val (.bool false) rfl (fun w hS => by go_simp; (first | done | simp [*] | omega)) ?_
            (simp only [Act.put, List.setIfInBounds_toArray, List.set_cons_zero, List.set_cons_succ])
            refine bQ_val ?_ rfl ?_ ?_
            rotate_left
            · intro w hS; go_simp; (first | done | (with_reducible rfl) | (refine (if_pos ?_).trans ?_; (focus omega); with_reducible rfl) | skip)
            (simp only [Act.put, List.setIfInBounds_toArray, List.set_cons_zero, List.set_cons_succ])
            refine bQ_skip (by exact rfl) ?_
            (simp only [Act.put, List.setIfInBounds_toArray, List.set_cons_zero, List.set_cons_succ])
            refine bQ_skip (by exact rfl) ?_
            (simp only [Act.put, List.setIfInBounds_toArray, List.set_cons_zero, List.set_cons_succ])
            refine bQ_skip (by exact rfl) ?_
            (simp only [Act.put, List.setIfInBounds_toArray, List.set_cons_zero, List.set_cons_succ])
            refine bQ_skip (by exact rfl) ?_
            (simp only [Act.put, List.setIfInBounds_toArray, List.set_cons_zero, List.set_cons_succ])
            refine bQ_skip (by exact rfl) ?_
            (simp only [Act.put, List.setIfInBounds_toArray, List.set_cons_zero, List.set_cons_succ])
            refine bQ_skip (by exact rfl) ?_
            (simp only [Act.put, List.setIfInBounds_toArray, List.set_cons_zero, List.set_cons_succ])
            refine bQ_skip (by exact rfl) ?_
            (simp only [Act.put, List.setIfInBounds_toArray, List.set_cons_zero, List.set_cons_succ])
            refine bQ_skip (by exact rfl) ?_
            (simp only [Act.put, List.setIfInBounds_toArray, List.set_cons_zero, List.set_cons_succ])
            refine bQ_skip (by exact rfl) ?_
            (simp only [Act.put, List.setIfInBounds_toArray, List.set_cons_zero, List.set_cons_succ])
            refine bQ_val ?_ rfl ?_ ?_
            rotate_left
            · intro w hS; go_simp; (first | done | (with_reducible rfl) | (refine (if_pos ?_).trans ?_; (focus omega); with_reducible rfl) | skip)
            (simp only [Act.put, List.setIfInBounds_toArray, List.set_cons_zero, List.set_cons_succ])
            refine ⟨wpQuiet_nil ?_⟩
            intro wx hS
            go_wp2_with (first | ((with_reducible show WGd ..); (with_reducible apply wpA_guard); exact rfl; skip) | ((with_reducible show WLd ..); (with_reducible apply wpA_loadN (t := 30)); exact rfl; ((with_reducible apply Hp.rangeI hS (n := 7)); (focus repeat constructor)); kernel_rfl; kernel_rfl; (try simp only [Act.put, List.setIfInBounds_toArray, List.set_cons_zero, List.set_cons_succ])) | ((first | ((with_reducible show WAl ..); (with_reducible apply wpA_alloc (t := 30) hS (v := .agg #[.int .i64 0, .int .i64 0, .int .i64 0, .int .i64 0, .int .i64 0, .string ⟨#[]⟩, .int .i64 0])); kernel_rfl; exact rfl; intro _ wx hS) | ((with_reducible show WBs ..); (with_reducible apply wpA_oneN hS (z := .agg #[.int .i64 0, .int .i64 0, .int .i64 0, .int .i64 0, .int .i64 0, .string ⟨#[]⟩, .int .i64 0]) (bytes := 64) (size := 7)); exact Try.underlying26; kernel_rfl; exact rfl; exact rfl; exact rfl; exact (by decide); exact (by decide); intro _ wx hS) | ((with_reducible show WBx ..); (with_reducible apply wpA_box hS); exact rfl; exact rfl; intro _ wx hS)); (try simp only [Act.put, List.setIfInBounds_toArray, List.set_cons_zero, List.set_cons_succ]); (try simp only [Act.eval, Array.getD_eq_getD_getElem?, List.getElem?_toArray, List.getElem?_cons_succ, List.getElem?_cons_zero, Option.getD_some, List.set_cons_succ, List.set_cons_zero, Value.cells, List.toList_toArray] at hS)) | ((with_reducible show WAp ..); (with_reducible apply wpA_appendI hS (e := 30) (z := .agg #[.int .i64 0, .int .i64 0, .int .i64 0, .int .i64 0, .int .i64 0, .string ⟨#[]⟩, .int .i64 0]) (size := 7) (bytes := 64)); exact rfl; exact rfl; exact Try.underlying26; (focus repeat constructor); exact .inr Try.underlying26; kernel_rfl; exact rfl; exact (Src.freshN (m := 1) hS 0 rfl rfl (by rfl)); exact (by unfold maxLen; omega); exact (by omega); intro _ _ wx hS; (try simp only [Act.put, List.setIfInBounds_toArray, List.set_cons_zero, List.set_cons_succ])) | ((with_reducible show WSt ..); (with_reducible apply wpA_storeI hS); exact rfl; (focus repeat constructor); exact rfl; exact rfl; exact rfl; exact (Nat.le_of_ble_eq_true rfl); kernel_rfl; intro wx hS; (try simp only [Act.put, List.setIfInBounds_toArray, List.set_cons_zero, List.set_cons_succ]); (try simp only [Act.eval, Array.getD_eq_getD_getElem?, List.getElem?_toArray, List.getElem?_cons_succ, List.getElem?_cons_zero, Option.getD_some, List.set_cons_succ, List.set_cons_zero, Value.cells, List.toList_toArray] at hS); (try simp only [List.take_zero, List.take_succ_cons, List.nil_append, List.cons_append, List.length_cons, List.length_nil, Nat.reduceAdd, Nat.zero_add, List.drop_succ_cons, List.drop_zero, List.drop_nil, List.append_nil] at hS)) | ((with_reducible show WLd ..); (with_reducible apply wpA_load); exact rfl; (first | ((with_reducible apply St.cellI hS); (focus repeat constructor); exact rfl) | assumption); kernel_rfl) | ((with_reducible show WSt ..); (with_reducible apply wpA_store1I hS); exact rfl; (focus repeat constructor); exact rfl; exact rfl; exact rfl; exact rfl; kernel_rfl; intro wx hS; (try simp only [Act.put, List.setIfInBounds_toArray, List.set_cons_zero, List.set_cons_succ]); (try simp only [Act.eval, Array.getD_eq_getD_getElem?, List.getElem?_toArray, List.getElem?_cons_succ, List.getElem?_cons_zero, Option.getD_some, List.set_cons_succ, List.set_cons_zero, Value.cells, List.toList_toArray] at hS)))
            go_roundw
            case rel => exact ⟨i + 1, by omega, by go_num, by rw [HT.out, HK.out]; exact hS.tail.tail⟩
            case measure => simp [intOf]; omega
          | some q =>
            obtain ⟨x, hq, hqs⟩ := idx_some hx
            obtain ⟨xs, xb, ⟨xk, xe, xq, xn, x5⟩⟩ := x
            simp only at hqs
            have HJ := Lib.hid (show ∃ j : Nat, (B0.map kvB)[j]? = some (Value.int .i64 es_, .agg #[.int .i64 xs, .int .i64 xb, .int .i64 xk, .int .i64 xe, .int .i64 xq, .string xn, .int .i64 x5]) from ⟨q, by rw [List.getElem?_map, hq, ← hqs]; rfl⟩)
            have HJ2 := Lib.hid (show (B0.map kvB)[q]? = some (Value.int .i64 es_, .agg #[.int .i64 xs, .int .i64 xb, .int .i64 xk, .int .i64 xe, .int .i64 xq, .string xn, .int .i64 x5]) from (by rw [List.getElem?_map, hq, ← hqs]; rfl))
            have HK := Lib.hid (keepD_old (best := B0) (e := ⟨es_, eb, ⟨ek, ee, eq_, en, e5⟩⟩) h1)
            clear hx hq hqs
            go_upto_region 7 with (first | ((with_reducible show WGd ..); (with_reducible apply wpA_guard); exact rfl; skip) | ((with_reducible show WLd ..); (with_reducible apply wpA_loadN (t := 30)); exact rfl; exact HEL.out; kernel_rfl; kernel_rfl; (try simp only [Act.put, List.setIfInBounds_toArray, List.set_cons_zero, List.set_cons_succ])) | ((with_reducible show WLd ..); (with_reducible apply wpA_loadN (t := 30)); exact rfl; ((with_reducible apply Hp.rangeI hS (n := 7)); (focus repeat constructor)); kernel_rfl; kernel_rfl; (try simp only [Act.put, List.setIfInBounds_toArray, List.set_cons_zero, List.set_cons_succ])) | ((first | ((with_reducible show WAl ..); (with_reducible apply wpA_alloc (t := 30) hS (v := .agg #[.int .i64 0, .int .i64 0, .int .i64 0, .int .i64 0, .int .i64 0, .string ⟨#[]⟩, .int .i64 0])); kernel_rfl; exact rfl; intro _ wx hS) | ((with_reducible show WBs ..); (with_reducible apply wpA_oneN hS (z := .agg #[.int .i64 0, .int .i64 0, .int .i64 0, .int .i64 0, .int .i64 0, .string ⟨#[]⟩, .int .i64 0]) (bytes := 64) (size := 7)); exact Try.underlying26; kernel_rfl; exact rfl; exact rfl; exact rfl; exact (by decide); exact (by decide); intro _ wx hS) | ((with_reducible show WBx ..); (with_reducible apply wpA_box hS); exact rfl; exact rfl; intro _ wx hS)); (try simp only [Act.put, List.setIfInBounds_toArray, List.set_cons_zero, List.set_cons_succ]); (try simp only [Act.eval, Array.getD_eq_getD_getElem?, List.getElem?_toArray, List.getElem?_cons_succ, List.getElem?_cons_zero, Option.getD_some, List.set_cons_succ, List.set_cons_zero, Value.cells, List.toList_toArray] at hS)) | ((with_reducible show WAp ..); (with_reducible apply wpA_appendI hS (e := 30) (z := .agg #[.int .i64 0, .int .i64 0, .int .i64 0, .int .i64 0, .int .i64 0, .string ⟨#[]⟩, .int .i64 0]) (size := 7) (bytes := 64)); exact rfl; exact rfl; exact Try.underlying26; (focus repeat constructor); exact .inr Try.underlying26; kernel_rfl; exact rfl; exact (Src.freshN (m := 1) hS 0 rfl rfl (by rfl)); exact (by unfold maxLen; omega); exact (by omega); intro _ _ wx hS; (try simp only [Act.put, List.setIfInBounds_toArray, List.set_cons_zero, List.set_cons_succ])) | ((with_reducible show WSt ..); (with_reducible apply wpA_storeI hS); exact rfl; (focus repeat constructor); exact rfl; exact rfl; exact rfl; exact (Nat.le_of_ble_eq_true rfl); kernel_rfl; intro wx hS; (try simp only [Act.put, List.setIfInBounds_toArray, List.set_cons_zero, List.set_cons_succ]); (try simp only [Act.eval, Array.getD_eq_getD_getElem?, List.getElem?_toArray, List.getElem?_cons_succ, List.getElem?_cons_zero, Option.getD_some, List.set_cons_succ, List.set_cons_zero, Value.cells, List.toList_toArray] at hS); (try simp only [List.take_zero, List.take_succ_cons, List.nil_append, List.cons_append, List.length_cons, List.length_nil, Nat.reduceAdd, Nat.zero_add, List.drop_succ_cons, List.drop_zero, List.drop_nil, List.append_nil] at hS)) | ((with_reducible show WLd ..); (with_reducible apply wpA_load); exact rfl; (first | ((with_reducible apply St.cellI hS); (focus repeat constructor); exact rfl) | assumption); kernel_rfl) | ((with_reducible show WSt ..); (with_reducible apply wpA_store1I hS); exact rfl; (focus repeat constructor); exact rfl; exact rfl; exact rfl; exact rfl; kernel_rfl; intro wx hS; (try simp only [Act.put, List.setIfInBounds_toArray, List.set_cons_zero, List.set_cons_succ]); (try simp only [Act.eval, Array.getD_eq_getD_getElem?, List.getElem?_toArray, List.getElem?_cons_succ, List.getElem?_cons_zero, Option.getD_some, List.set_cons_succ, List.set_cons_zero, Value.cells, List.toList_toArray] at hS)))
            refine wp_region_A hS (by kernel_rfl) (fun _ hR hS => ?_)
            simp only [List.length_cons, List.length_nil, Nat.reduceAdd]
            refine takeA_load (i := 0) [] rfl (by exact rfl) (by kernel_rfl) (fun _ _ _ h => h) (by decide) rfl (fun w hS => by (first | ((with_reducible apply St.cellI hS); (focus repeat constructor); exact rfl) | assumption)) (by kernel_rfl) hR (fun hR => ?_)
            (simp only [Act.put, List.setIfInBounds_toArray, List.set_cons_zero, List.set_cons_succ])
            refine takeAP_val (i := 1) ?_ rfl (by exact rfl) (by kernel_rfl) (fun _ _ _ h => h) ?_ hR (fun hR => ?_)
            rotate_left
            · intro w; go_simp; (first | done | (with_reducible rfl) | (refine (if_pos ?_).trans ?_; (focus omega); with_reducible rfl) | skip)
            (simp only [Act.put, List.setIfInBounds_toArray, List.set_cons_zero, List.set_cons_succ])
            refine takeAP_val (i := 2) ?_ rfl (by exact rfl) (by kernel_rfl) (fun _ _ _ h => h) ?_ hR (fun hR => ?_)
            rotate_left
            · intro w; go_simp; (first | done | (with_reducible rfl) | (refine (if_pos ?_).trans ?_; (focus omega); with_reducible rfl) | skip)
            (simp only [Act.put, List.setIfInBounds_toArray, List.set_cons_zero, List.set_cons_succ])
            refine takeA_load (i := 3) [] rfl (by exact rfl) (by kernel_rfl) (fun _ _ _ h => h) (by decide) rfl (fun w hS => by (first | ((with_reducible apply St.cellI hS); (focus repeat constructor); exact rfl) | assumption)) (by kernel_rfl) hR (fun hR => ?_)
            (simp only [Act.put, List.setIfInBounds_toArray, List.set_cons_zero, List.set_cons_succ])
            refine takeAP_val (i := 4) ?_ rfl (by exact rfl) (by kernel_rfl) (fun _ _ _ h => h) ?_ hR (fun hR => ?_)
            rotate_left
            · intro w; go_simp; (first | done | (with_reducible rfl) | (refine (if_pos ?_).trans ?_; (focus omega); with_reducible rfl) | skip)
            (simp only [Act.put, List.setIfInBounds_toArray, List.set_cons_zero, List.set_cons_succ])
            refine takeA_load (i := 5) [] rfl (by exact rfl) (by kernel_rfl) (fun _ _ _ h => h) (by decide) rfl (fun w hS => by (first | ((with_reducible apply St.cellI hS); (focus repeat constructor); exact rfl) | assumption)) (by kernel_rfl) hR (fun hR => ?_)
            (simp only [Act.put, List.setIfInBounds_toArray, List.set_cons_zero, List.set_cons_succ])
            refine takeA_lookup (i := 6) [] 4 rfl (by exact rfl) (by kernel_rfl) (z := .agg #[.int .i64 0, .int .i64 0, .int .i64 0, .int .i64 0, .int .i64 0, .string ⟨#[]⟩, .int .i64 0]) (some (.agg #[.int .i64 xs, .int .i64 xb, .int .i64 xk, .int .i64 xe, .int .i64 xq, .string xn, .int .i64 x5])) (fun _ _ _ h => h) (by decide) rfl rfl rfl Try.underlying55 Try.underlying3 rfl (by kernel_rfl) HJ.out hR (fun hR => ?_)
            dsimp only [Option.getD, Option.isSome, if_true, Bool.false_eq_true, if_false]
            (simp only [Act.put, List.setIfInBounds_toArray, List.set_cons_zero, List.set_cons_succ])
            refine takeAP_val (i := 7) ?_ rfl (by exact rfl) (by kernel_rfl) (fun _ _ _ h => h) ?_ hR (fun hR => ?_)
            rotate_left
            · intro w; go_simp; (first | done | (with_reducible rfl) | (refine (if_pos ?_).trans ?_; (focus omega); with_reducible rfl) | skip)
            (simp only [Act.put, List.setIfInBounds_toArray, List.set_cons_zero, List.set_cons_succ])
            refine takeAP_val (i := 8) ?_ rfl (by exact rfl) (by kernel_rfl) (fun _ _ _ h => h) ?_ hR (fun hR => ?_)
            rotate_left
            · intro w; go_simp; (first | done | (with_reducible rfl) | (refine (if_pos ?_).trans ?_; (focus omega); with_reducible rfl) | skip)
            (simp only [Act.put, List.setIfInBounds_toArray, List.set_cons_zero, List.set_cons_succ])
            refine takeAP_val (i := 9) ?_ rfl (by exact rfl) (by kernel_rfl) (fun _ _ _ h => h) ?_ hR (fun hR => ?_)
            rotate_left
            · intro w; go_simp; (first | done | (with_reducible rfl) | (refine (if_pos ?_).trans ?_; (focus omega); with_reducible rfl) | skip)
            (simp only [Act.put, List.setIfInBounds_toArray, List.set_cons_zero, List.set_cons_succ])
            refine oneA (i := 10) (by kernel_rfl) rfl (by exact rfl) (fun K_ hK_ => ?_)
            ((with_reducible apply opA_alloc (t := 30) hS (v := .agg #[.int .i64 0, .int .i64 0, .int .i64 0, .int .i64 0, .int .i64 0, .string ⟨#[]⟩, .int .i64 0])); kernel_rfl; exact rfl; intro _ wx hS; (try simp only [Act.eval, Array.getD_eq_getD_getElem?, List.getElem?_toArray, List.getElem?_cons_succ, List.getElem?_cons_zero, Option.getD_some, List.set_cons_succ, List.set_cons_zero, Value.cells, List.toList_toArray] at hS))
            refine hK_ _ _ (id (hS.tail)) ?_; clear hK_ K_
            (simp only [Act.put, List.setIfInBounds_toArray, List.set_cons_zero, List.set_cons_succ])
            refine oneA (i := 11) (by kernel_rfl) rfl (by exact rfl) (fun K_ hK_ => ?_)
            ((with_reducible apply opA_storeI hS); exact rfl; (focus repeat constructor); exact rfl; exact rfl; exact rfl; exact (Nat.le_of_ble_eq_true rfl); kernel_rfl; intro wx hS; (try simp only [Act.eval, Array.getD_eq_getD_getElem?, List.getElem?_toArray, List.getElem?_cons_succ, List.getElem?_cons_zero, Option.getD_some, List.set_cons_succ, List.set_cons_zero, Value.cells, List.toList_toArray] at hS); (try simp only [List.take_zero, List.take_succ_cons, List.nil_append, List.cons_append, List.length_cons, List.length_nil, Nat.reduceAdd, Nat.zero_add, List.drop_succ_cons, List.drop_zero, List.drop_nil, List.append_nil] at hS))
            refine hK_ _ _ (id (hS.tail)) ?_; clear hK_ K_
            (simp only [Act.put, List.setIfInBounds_toArray, List.set_cons_zero, List.set_cons_succ])
            refine takeAP_val (i := 12) ?_ rfl (by exact rfl) (by kernel_rfl) (fun _ _ _ h => h) ?_ (id hS.tail) (fun hR => ?_)
            rotate_left
            · intro w; go_simp; (first | done | (with_reducible rfl) | (refine (if_pos ?_).trans ?_; (focus omega); with_reducible rfl) | skip)
            (simp only [Act.put, List.setIfInBounds_toArray, List.set_cons_zero, List.set_cons_succ])
            refine wpAnyR_done (by kernel_rfl) ?_ _
            go_wp2_with (first | ((with_reducible show WGd ..); (with_reducible apply wpA_guard); exact rfl; skip) | ((with_reducible show WLd ..); (with_reducible apply wpA_loadN (t := 30)); exact rfl; ((with_reducible apply Hp.rangeI hS (n := 7)); (focus repeat constructor)); kernel_rfl; kernel_rfl; (try simp only [Act.put, List.setIfInBounds_toArray, List.set_cons_zero, List.set_cons_succ])) | ((first | ((with_reducible show WAl ..); (with_reducible apply wpA_alloc (t := 30) hS (v := .agg #[.int .i64 0, .int .i64 0, .int .i64 0, .int .i64 0, .int .i64 0, .string ⟨#[]⟩, .int .i64 0])); kernel_rfl; exact rfl; intro _ wx hS) | ((with_reducible show WBs ..); (with_reducible apply wpA_oneN hS (z := .agg #[.int .i64 0, .int .i64 0, .int .i64 0, .int .i64 0, .int .i64 0, .string ⟨#[]⟩, .int .i64 0]) (bytes := 64) (size := 7)); exact Try.underlying26; kernel_rfl; exact rfl; exact rfl; exact rfl; exact (by decide); exact (by decide); intro _ wx hS) | ((with_reducible show WBx ..); (with_reducible apply wpA_box hS); exact rfl; exact rfl; intro _ wx hS)); (try simp only [Act.put, List.setIfInBounds_toArray, List.set_cons_zero, List.set_cons_succ]); (try simp only [Act.eval, Array.getD_eq_getD_getElem?, List.getElem?_toArray, List.getElem?_cons_succ, List.getElem?_cons_zero, Option.getD_some, List.set_cons_succ, List.set_cons_zero, Value.cells, List.toList_toArray] at hS)) | ((with_reducible show WAp ..); (with_reducible apply wpA_appendI hS (e := 30) (z := .agg #[.int .i64 0, .int .i64 0, .int .i64 0, .int .i64 0, .int .i64 0, .string ⟨#[]⟩, .int .i64 0]) (size := 7) (bytes := 64)); exact rfl; exact rfl; exact Try.underlying26; (focus repeat constructor); exact .inr Try.underlying26; kernel_rfl; exact rfl; exact (Src.freshN (m := 1) hS 0 rfl rfl (by rfl)); exact (by unfold maxLen; omega); exact (by omega); intro _ _ wx hS; (try simp only [Act.put, List.setIfInBounds_toArray, List.set_cons_zero, List.set_cons_succ])) | ((with_reducible show WSt ..); (with_reducible apply wpA_storeI hS); exact rfl; (focus repeat constructor); exact rfl; exact rfl; exact rfl; exact (Nat.le_of_ble_eq_true rfl); kernel_rfl; intro wx hS; (try simp only [Act.put, List.setIfInBounds_toArray, List.set_cons_zero, List.set_cons_succ]); (try simp only [Act.eval, Array.getD_eq_getD_getElem?, List.getElem?_toArray, List.getElem?_cons_succ, List.getElem?_cons_zero, Option.getD_some, List.set_cons_succ, List.set_cons_zero, Value.cells, List.toList_toArray] at hS); (try simp only [List.take_zero, List.take_succ_cons, List.nil_append, List.cons_append, List.length_cons, List.length_nil, Nat.reduceAdd, Nat.zero_add, List.drop_succ_cons, List.drop_zero, List.drop_nil, List.append_nil] at hS)) | ((with_reducible show WLd ..); (with_reducible apply wpA_load); exact rfl; (first | ((with_reducible apply St.cellI hS); (focus repeat constructor); exact rfl) | assumption); kernel_rfl) | ((with_reducible show WSt ..); (with_reducible apply wpA_store1I hS); exact rfl; (focus repeat constructor); exact rfl; exact rfl; exact rfl; exact rfl; kernel_rfl; intro wx hS; (try simp only [Act.put, List.setIfInBounds_toArray, List.set_cons_zero, List.set_cons_succ]); (try simp only [Act.eval, Array.getD_eq_getD_getElem?, List.getElem?_toArray, List.getElem?_cons_succ, List.getElem?_cons_zero, Option.getD_some, List.set_cons_succ, List.set_cons_zero, Value.cells, List.toList_toArray] at hS)))
            refine wp_region_St hS (by kernel_rfl) (by kernel_rfl) (Bx.out ?_)
            refine bQ_val ?_ rfl ?_ ?_
            rotate_left
            · intro w hS; go_simp; (first | done | (with_reducible rfl) | (refine (if_pos ?_).trans ?_; (focus omega); with_reducible rfl) | skip)
            (simp only [Act.put, List.setIfInBounds_toArray, List.set_cons_zero, List.set_cons_succ])
            refine bQ_load rfl (fun w hS => by (first | ((with_reducible apply St.cellI hS); (focus repeat constructor); exact rfl) | assumption)) (by kernel_rfl) ?_
            (simp only [Act.put, List.setIfInBounds_toArray, List.set_cons_zero, List.set_cons_succ])
            refine bQ_load rfl (fun w hS => by (first | ((with_reducible apply St.cellI hS); (focus repeat constructor); exact rfl) | assumption)) (by kernel_rfl) ?_
            (simp only [Act.put, List.setIfInBounds_toArray, List.set_cons_zero, List.set_cons_succ])
            refine bQ_val ?_ rfl ?_ ?_
            rotate_left
            · intro w hS; go_simp; (first | done | (with_reducible rfl) | (refine (if_pos ?_).trans ?_; (focus omega); with_reducible rfl) | skip)
            (simp only [Act.put, List.setIfInBounds_toArray, List.set_cons_zero, List.set_cons_succ])
            refine bQ_val ?_ rfl ?_ ?_
            rotate_left
            · intro w hS; go_simp; (first | done | (with_reducible rfl) | (refine (if_pos ?_).trans ?_; (focus omega); with_reducible rfl) | skip)
            (simp only [Act.put, List.setIfInBounds_toArray, List.set_cons_zero, List.set_cons_succ])
            refine bQ_load rfl (fun w hS => by (first | ((with_reducible apply St.cellI hS); (focus repeat constructor); exact rfl) | assumption)) (by kernel_rfl) ?_
            (simp only [Act.put, List.setIfInBounds_toArray, List.set_cons_zero, List.set_cons_succ])
            refine bQ_val (.bool false) rfl (fun w hS => by go_simp; (first | done | simp [*] | omega)) ?_
            (simp only [Act.put, List.setIfInBounds_toArray, List.set_cons_zero, List.set_cons_succ])
            refine bQ_val ?_ rfl ?_ ?_
            rotate_left
            · intro w hS; go_simp; (first | done | (with_reducible rfl) | (refine (if_pos ?_).trans ?_; (focus omega); with_reducible rfl) | skip)
            (simp only [Act.put, List.setIfInBounds_toArray, List.set_cons_zero, List.set_cons_succ])
            refine bQ_skip (by exact rfl) ?_
            (simp only [Act.put, List.setIfInBounds_toArray, List.set_cons_zero, List.set_cons_succ])
            refine bQ_skip (by exact rfl) ?_
            (simp only [Act.put, List.setIfInBounds_toArray, List.set_cons_zero, List.set_cons_succ])
            refine bQ_skip (by exact rfl) ?_
            (simp only [Act.put, List.setIfInBounds_toArray, List.set_cons_zero, List.set_cons_succ])
            refine bQ_skip (by exact rfl) ?_
            (simp only [Act.put, List.setIfInBounds_toArray, List.set_cons_zero, List.set_cons_succ])
            refine bQ_skip (by exact rfl) ?_
            (simp only [Act.put, List.setIfInBounds_toArray, List.set_cons_zero, List.set_cons_succ])
            refine bQ_skip (by exact rfl) ?_
            (simp only [Act.put, List.setIfInBounds_toArray, List.set_cons_zero, List.set_cons_succ])
            refine bQ_skip (by exact rfl) ?_
            (simp only [Act.put, List.setIfInBounds_toArray, List.set_cons_zero, List.set_cons_succ])
            refine bQ_skip (by exact rfl) ?_
            (simp only [Act.put, List.setIfInBounds_toArray, List.set_cons_zero, List.set_cons_succ])
            refine bQ_skip (by exact rfl) ?_
            (simp only [Act.put, List.setIfInBounds_toArray, List.set_cons_zero, List.set_cons_succ])
            refine bQ_val ?_ rfl ?_ ?_
            rotate_left
            · intro w hS; go_simp; (first | done | (with_reducible rfl) | (refine (if_pos ?_).trans ?_; (focus omega); with_reducible rfl) | skip)
            (simp only [Act.put, List.setIfInBounds_toArray, List.set_cons_zero, List.set_cons_succ])
            refine ⟨wpQuiet_nil ?_⟩
            intro wx hS
            go_wp2_with (first | ((with_reducible show WGd ..); (with_reducible apply wpA_guard); exact rfl; skip) | ((with_reducible show WLd ..); (with_reducible apply wpA_loadN (t := 30)); exact rfl; ((with_reducible apply Hp.rangeI hS (n := 7)); (focus repeat constructor)); kernel_rfl; kernel_rfl; (try simp only [Act.put, List.setIfInBounds_toArray, List.set_cons_zero, List.set_cons_succ])) | ((first | ((with_reducible show WAl ..); (with_reducible apply wpA_alloc (t := 30) hS (v := .agg #[.int .i64 0, .int .i64 0, .int .i64 0, .int .i64 0, .int .i64 0, .string ⟨#[]⟩, .int .i64 0])); kernel_rfl; exact rfl; intro _ wx hS) | ((with_reducible show WBs ..); (with_reducible apply wpA_oneN hS (z := .agg #[.int .i64 0, .int .i64 0, .int .i64 0, .int .i64 0, .int .i64 0, .string ⟨#[]⟩, .int .i64 0]) (bytes := 64) (size := 7)); exact Try.underlying26; kernel_rfl; exact rfl; exact rfl; exact rfl; exact (by decide); exact (by decide); intro _ wx hS) | ((with_reducible show WBx ..); (with_reducible apply wpA_box hS); exact rfl; exact rfl; intro _ wx hS)); (try simp only [Act.put, List.setIfInBounds_toArray, List.set_cons_zero, List.set_cons_succ]); (try simp only [Act.eval, Array.getD_eq_getD_getElem?, List.getElem?_toArray, List.getElem?_cons_succ, List.getElem?_cons_zero, Option.getD_some, List.set_cons_succ, List.set_cons_zero, Value.cells, List.toList_toArray] at hS)) | ((with_reducible show WAp ..); (with_reducible apply wpA_appendI hS (e := 30) (z := .agg #[.int .i64 0, .int .i64 0, .int .i64 0, .int .i64 0, .int .i64 0, .string ⟨#[]⟩, .int .i64 0]) (size := 7) (bytes := 64)); exact rfl; exact rfl; exact Try.underlying26; (focus repeat constructor); exact .inr Try.underlying26; kernel_rfl; exact rfl; exact (Src.freshN (m := 1) hS 0 rfl rfl (by rfl)); exact (by unfold maxLen; omega); exact (by omega); intro _ _ wx hS; (try simp only [Act.put, List.setIfInBounds_toArray, List.set_cons_zero, List.set_cons_succ])) | ((with_reducible show WSt ..); (with_reducible apply wpA_storeI hS); exact rfl; (focus repeat constructor); exact rfl; exact rfl; exact rfl; exact (Nat.le_of_ble_eq_true rfl); kernel_rfl; intro wx hS; (try simp only [Act.put, List.setIfInBounds_toArray, List.set_cons_zero, List.set_cons_succ]); (try simp only [Act.eval, Array.getD_eq_getD_getElem?, List.getElem?_toArray, List.getElem?_cons_succ, List.getElem?_cons_zero, Option.getD_some, List.set_cons_succ, List.set_cons_zero, Value.cells, List.toList_toArray] at hS); (try simp only [List.take_zero, List.take_succ_cons, List.nil_append, List.cons_append, List.length_cons, List.length_nil, Nat.reduceAdd, Nat.zero_add, List.drop_succ_cons, List.drop_zero, List.drop_nil, List.append_nil] at hS)) | ((with_reducible show WLd ..); (with_reducible apply wpA_load); exact rfl; (first | ((with_reducible apply St.cellI hS); (focus repeat constructor); exact rfl) | assumption); kernel_rfl) | ((with_reducible show WSt ..); (with_reducible apply wpA_store1I hS); exact rfl; (focus repeat constructor); exact rfl; exact rfl; exact rfl; exact rfl; kernel_rfl; intro wx hS; (try simp only [Act.put, List.setIfInBounds_toArray, List.set_cons_zero, List.set_cons_succ]); (try simp only [Act.eval, Array.getD_eq_getD_getElem?, List.getElem?_toArray, List.getElem?_cons_succ, List.getElem?_cons_zero, Option.getD_some, List.set_cons_succ, List.set_cons_zero, Value.cells, List.toList_toArray] at hS)))
            go_roundw
            case rel => exact ⟨i + 1, by omega, by go_num, by rw [HT.out, HK.out]; exact hS.tail.tail⟩
            case measure => simp [intOf]; omega
        · have hd : decide (frm ≤ es_) = true := by simp; omega
          cases hx : B0.findIdx? (fun x => decide (x.slot = es_)) with
          | none =>
            have HJ := Lib.hid (kvB_none hx)
            have HK := Lib.hid (keepD_new (best := B0) (e := ⟨es_, eb, ⟨ek, ee, eq_, en, e5⟩⟩) h1 hx)
            clear hx
            go_upto_region 7 with (first | ((with_reducible show WGd ..); (with_reducible apply wpA_guard); exact rfl; skip) | ((with_reducible show WLd ..); (with_reducible apply wpA_loadN (t := 30)); exact rfl; exact HEL.out; kernel_rfl; kernel_rfl; (try simp only [Act.put, List.setIfInBounds_toArray, List.set_cons_zero, List.set_cons_succ])) | ((with_reducible show WLd ..); (with_reducible apply wpA_loadN (t := 30)); exact rfl; ((with_reducible apply Hp.rangeI hS (n := 7)); (focus repeat constructor)); kernel_rfl; kernel_rfl; (try simp only [Act.put, List.setIfInBounds_toArray, List.set_cons_zero, List.set_cons_succ])) | ((first | ((with_reducible show WAl ..); (with_reducible apply wpA_alloc (t := 30) hS (v := .agg #[.int .i64 0, .int .i64 0, .int .i64 0, .int .i64 0, .int .i64 0, .string ⟨#[]⟩, .int .i64 0])); kernel_rfl; exact rfl; intro _ wx hS) | ((with_reducible show WBs ..); (with_reducible apply wpA_oneN hS (z := .agg #[.int .i64 0, .int .i64 0, .int .i64 0, .int .i64 0, .int .i64 0, .string ⟨#[]⟩, .int .i64 0]) (bytes := 64) (size := 7)); exact Try.underlying26; kernel_rfl; exact rfl; exact rfl; exact rfl; exact (by decide); exact (by decide); intro _ wx hS) | ((with_reducible show WBx ..); (with_reducible apply wpA_box hS); exact rfl; exact rfl; intro _ wx hS)); (try simp only [Act.put, List.setIfInBounds_toArray, List.set_cons_zero, List.set_cons_succ]); (try simp only [Act.eval, Array.getD_eq_getD_getElem?, List.getElem?_toArray, List.getElem?_cons_succ, List.getElem?_cons_zero, Option.getD_some, List.set_cons_succ, List.set_cons_zero, Value.cells, List.toList_toArray] at hS)) | ((with_reducible show WAp ..); (with_reducible apply wpA_appendI hS (e := 30) (z := .agg #[.int .i64 0, .int .i64 0, .int .i64 0, .int .i64 0, .int .i64 0, .string ⟨#[]⟩, .int .i64 0]) (size := 7) (bytes := 64)); exact rfl; exact rfl; exact Try.underlying26; (focus repeat constructor); exact .inr Try.underlying26; kernel_rfl; exact rfl; exact (Src.freshN (m := 1) hS 0 rfl rfl (by rfl)); exact (by unfold maxLen; omega); exact (by omega); intro _ _ wx hS; (try simp only [Act.put, List.setIfInBounds_toArray, List.set_cons_zero, List.set_cons_succ])) | ((with_reducible show WSt ..); (with_reducible apply wpA_storeI hS); exact rfl; (focus repeat constructor); exact rfl; exact rfl; exact rfl; exact (Nat.le_of_ble_eq_true rfl); kernel_rfl; intro wx hS; (try simp only [Act.put, List.setIfInBounds_toArray, List.set_cons_zero, List.set_cons_succ]); (try simp only [Act.eval, Array.getD_eq_getD_getElem?, List.getElem?_toArray, List.getElem?_cons_succ, List.getElem?_cons_zero, Option.getD_some, List.set_cons_succ, List.set_cons_zero, Value.cells, List.toList_toArray] at hS); (try simp only [List.take_zero, List.take_succ_cons, List.nil_append, List.cons_append, List.length_cons, List.length_nil, Nat.reduceAdd, Nat.zero_add, List.drop_succ_cons, List.drop_zero, List.drop_nil, List.append_nil] at hS)) | ((with_reducible show WLd ..); (with_reducible apply wpA_load); exact rfl; (first | ((with_reducible apply St.cellI hS); (focus repeat constructor); exact rfl) | assumption); kernel_rfl) | ((with_reducible show WSt ..); (with_reducible apply wpA_store1I hS); exact rfl; (focus repeat constructor); exact rfl; exact rfl; exact rfl; exact rfl; kernel_rfl; intro wx hS; (try simp only [Act.put, List.setIfInBounds_toArray, List.set_cons_zero, List.set_cons_succ]); (try simp only [Act.eval, Array.getD_eq_getD_getElem?, List.getElem?_toArray, List.getElem?_cons_succ, List.getElem?_cons_zero, Option.getD_some, List.set_cons_succ, List.set_cons_zero, Value.cells, List.toList_toArray] at hS)))
            refine wp_region_A hS (by kernel_rfl) (fun _ hR hS => ?_)
            simp only [List.length_cons, List.length_nil, Nat.reduceAdd]
            refine takeA_load (i := 0) [] rfl (by exact rfl) (by kernel_rfl) (fun _ _ _ h => h) (by decide) rfl (fun w hS => by (first | ((with_reducible apply St.cellI hS); (focus repeat constructor); exact rfl) | assumption)) (by kernel_rfl) hR (fun hR => ?_)
            (simp only [Act.put, List.setIfInBounds_toArray, List.set_cons_zero, List.set_cons_succ])
            refine takeAP_val (i := 1) ?_ rfl (by exact rfl) (by kernel_rfl) (fun _ _ _ h => h) ?_ hR (fun hR => ?_)
            rotate_left
            · intro w; go_simp; (first | done | (with_reducible rfl) | (refine (if_pos ?_).trans ?_; (focus omega); with_reducible rfl) | skip)
            (simp only [Act.put, List.setIfInBounds_toArray, List.set_cons_zero, List.set_cons_succ])
            refine takeAP_val (i := 2) ?_ rfl (by exact rfl) (by kernel_rfl) (fun _ _ _ h => h) ?_ hR (fun hR => ?_)
            rotate_left
            · intro w; go_simp; (first | done | (with_reducible rfl) | (refine (if_pos ?_).trans ?_; (focus omega); with_reducible rfl) | skip)
            (simp only [Act.put, List.setIfInBounds_toArray, List.set_cons_zero, List.set_cons_succ])
            refine takeA_load (i := 3) [] rfl (by exact rfl) (by kernel_rfl) (fun _ _ _ h => h) (by decide) rfl (fun w hS => by (first | ((with_reducible apply St.cellI hS); (focus repeat constructor); exact rfl) | assumption)) (by kernel_rfl) hR (fun hR => ?_)
            (simp only [Act.put, List.setIfInBounds_toArray, List.set_cons_zero, List.set_cons_succ])
            refine takeAP_val (i := 4) ?_ rfl (by exact rfl) (by kernel_rfl) (fun _ _ _ h => h) ?_ hR (fun hR => ?_)
            rotate_left
            · intro w; go_simp; (first | done | (with_reducible rfl) | (refine (if_pos ?_).trans ?_; (focus omega); with_reducible rfl) | skip)
            (simp only [Act.put, List.setIfInBounds_toArray, List.set_cons_zero, List.set_cons_succ])
            refine takeA_load (i := 5) [] rfl (by exact rfl) (by kernel_rfl) (fun _ _ _ h => h) (by decide) rfl (fun w hS => by (first | ((with_reducible apply St.cellI hS); (focus repeat constructor); exact rfl) | assumption)) (by kernel_rfl) hR (fun hR => ?_)
            (simp only [Act.put, List.setIfInBounds_toArray, List.set_cons_zero, List.set_cons_succ])
            refine takeA_lookup (i := 6) [] 4 rfl (by exact rfl) (by kernel_rfl) (z := .agg #[.int .i64 0, .int .i64 0, .int .i64 0, .int .i64 0, .int .i64 0, .string ⟨#[]⟩, .int .i64 0]) (none) (fun _ _ _ h => h) (by decide) rfl rfl rfl Try.underlying55 Try.underlying3 rfl (by kernel_rfl) HJ.out hR (fun hR => ?_)
            dsimp only [Option.getD, Option.isSome, if_true, Bool.false_eq_true, if_false]
            (simp only [Act.put, List.setIfInBounds_toArray, List.set_cons_zero, List.set_cons_succ])
            refine takeAP_val (i := 7) ?_ rfl (by exact rfl) (by kernel_rfl) (fun _ _ _ h => h) ?_ hR (fun hR => ?_)
            rotate_left
            · intro w; go_simp; (first | done | (with_reducible rfl) | (refine (if_pos ?_).trans ?_; (focus omega); with_reducible rfl) | skip)
            (simp only [Act.put, List.setIfInBounds_toArray, List.set_cons_zero, List.set_cons_succ])
            refine takeAP_val (i := 8) ?_ rfl (by exact rfl) (by kernel_rfl) (fun _ _ _ h => h) ?_ hR (fun hR => ?_)
            rotate_left
            · intro w; go_simp; (first | done | (with_reducible rfl) | (refine (if_pos ?_).trans ?_; (focus omega); with_reducible rfl) | skip)
            (simp only [Act.put, List.setIfInBounds_toArray, List.set_cons_zero, List.set_cons_succ])
            refine takeAP_val (i := 9) ?_ rfl (by exact rfl) (by kernel_rfl) (fun _ _ _ h => h) ?_ hR (fun hR => ?_)
            rotate_left
            · intro w; go_simp; (first | done | (with_reducible rfl) | (refine (if_pos ?_).trans ?_; (focus omega); with_reducible rfl) | skip)
            (simp only [Act.put, List.setIfInBounds_toArray, List.set_cons_zero, List.set_cons_succ])
            refine oneA (i := 10) (by kernel_rfl) rfl (by exact rfl) (fun K_ hK_ => ?_)
            ((with_reducible apply opA_alloc (t := 30) hS (v := .agg #[.int .i64 0, .int .i64 0, .int .i64 0, .int .i64 0, .int .i64 0, .string ⟨#[]⟩, .int .i64 0])); kernel_rfl; exact rfl; intro _ wx hS; (try simp only [Act.eval, Array.getD_eq_getD_getElem?, List.getElem?_toArray, List.getElem?_cons_succ, List.getElem?_cons_zero, Option.getD_some, List.set_cons_succ, List.set_cons_zero, Value.cells, List.toList_toArray] at hS))
            refine hK_ _ _ (id (hS.tail)) ?_; clear hK_ K_
            (simp only [Act.put, List.setIfInBounds_toArray, List.set_cons_zero, List.set_cons_succ])
            refine oneA (i := 11) (by kernel_rfl) rfl (by exact rfl) (fun K_ hK_ => ?_)
            ((with_reducible apply opA_storeI hS); exact rfl; (focus repeat constructor); exact rfl; exact rfl; exact rfl; exact (Nat.le_of_ble_eq_true rfl); kernel_rfl; intro wx hS; (try simp only [Act.eval, Array.getD_eq_getD_getElem?, List.getElem?_toArray, List.getElem?_cons_succ, List.getElem?_cons_zero, Option.getD_some, List.set_cons_succ, List.set_cons_zero, Value.cells, List.toList_toArray] at hS); (try simp only [List.take_zero, List.take_succ_cons, List.nil_append, List.cons_append, List.length_cons, List.length_nil, Nat.reduceAdd, Nat.zero_add, List.drop_succ_cons, List.drop_zero, List.drop_nil, List.append_nil] at hS))
            refine hK_ _ _ (id (hS.tail)) ?_; clear hK_ K_
            (simp only [Act.put, List.setIfInBounds_toArray, List.set_cons_zero, List.set_cons_succ])
            refine takeAP_val (i := 12) ?_ rfl (by exact rfl) (by kernel_rfl) (fun _ _ _ h => h) ?_ (id hS.tail) (fun hR => ?_)
            rotate_left
            · intro w; go_simp; (first | done | (with_reducible rfl) | (refine (if_pos ?_).trans ?_; (focus omega); with_reducible rfl) | skip)
            (simp only [Act.put, List.setIfInBounds_toArray, List.set_cons_zero, List.set_cons_succ])
            refine wpAnyR_done (by kernel_rfl) ?_ _
            go_wp2_with (first | ((with_reducible show WGd ..); (with_reducible apply wpA_guard); exact rfl; skip) | ((with_reducible show WLd ..); (with_reducible apply wpA_loadN (t := 30)); exact rfl; ((with_reducible apply Hp.rangeI hS (n := 7)); (focus repeat constructor)); kernel_rfl; kernel_rfl; (try simp only [Act.put, List.setIfInBounds_toArray, List.set_cons_zero, List.set_cons_succ])) | ((first | ((with_reducible show WAl ..); (with_reducible apply wpA_alloc (t := 30) hS (v := .agg #[.int .i64 0, .int .i64 0, .int .i64 0, .int .i64 0, .int .i64 0, .string ⟨#[]⟩, .int .i64 0])); kernel_rfl; exact rfl; intro _ wx hS) | ((with_reducible show WBs ..); (with_reducible apply wpA_oneN hS (z := .agg #[.int .i64 0, .int .i64 0, .int .i64 0, .int .i64 0, .int .i64 0, .string ⟨#[]⟩, .int .i64 0]) (bytes := 64) (size := 7)); exact Try.underlying26; kernel_rfl; exact rfl; exact rfl; exact rfl; exact (by decide); exact (by decide); intro _ wx hS) | ((with_reducible show WBx ..); (with_reducible apply wpA_box hS); exact rfl; exact rfl; intro _ wx hS)); (try simp only [Act.put, List.setIfInBounds_toArray, List.set_cons_zero, List.set_cons_succ]); (try simp only [Act.eval, Array.getD_eq_getD_getElem?, List.getElem?_toArray, List.getElem?_cons_succ, List.getElem?_cons_zero, Option.getD_some, List.set_cons_succ, List.set_cons_zero, Value.cells, List.toList_toArray] at hS)) | ((with_reducible show WAp ..); (with_reducible apply wpA_appendI hS (e := 30) (z := .agg #[.int .i64 0, .int .i64 0, .int .i64 0, .int .i64 0, .int .i64 0, .string ⟨#[]⟩, .int .i64 0]) (size := 7) (bytes := 64)); exact rfl; exact rfl; exact Try.underlying26; (focus repeat constructor); exact .inr Try.underlying26; kernel_rfl; exact rfl; exact (Src.freshN (m := 1) hS 0 rfl rfl (by rfl)); exact (by unfold maxLen; omega); exact (by omega); intro _ _ wx hS; (try simp only [Act.put, List.setIfInBounds_toArray, List.set_cons_zero, List.set_cons_succ])) | ((with_reducible show WSt ..); (with_reducible apply wpA_storeI hS); exact rfl; (focus repeat constructor); exact rfl; exact rfl; exact rfl; exact (Nat.le_of_ble_eq_true rfl); kernel_rfl; intro wx hS; (try simp only [Act.put, List.setIfInBounds_toArray, List.set_cons_zero, List.set_cons_succ]); (try simp only [Act.eval, Array.getD_eq_getD_getElem?, List.getElem?_toArray, List.getElem?_cons_succ, List.getElem?_cons_zero, Option.getD_some, List.set_cons_succ, List.set_cons_zero, Value.cells, List.toList_toArray] at hS); (try simp only [List.take_zero, List.take_succ_cons, List.nil_append, List.cons_append, List.length_cons, List.length_nil, Nat.reduceAdd, Nat.zero_add, List.drop_succ_cons, List.drop_zero, List.drop_nil, List.append_nil] at hS)) | ((with_reducible show WLd ..); (with_reducible apply wpA_load); exact rfl; (first | ((with_reducible apply St.cellI hS); (focus repeat constructor); exact rfl) | assumption); kernel_rfl) | ((with_reducible show WSt ..); (with_reducible apply wpA_store1I hS); exact rfl; (focus repeat constructor); exact rfl; exact rfl; exact rfl; exact rfl; kernel_rfl; intro wx hS; (try simp only [Act.put, List.setIfInBounds_toArray, List.set_cons_zero, List.set_cons_succ]); (try simp only [Act.eval, Array.getD_eq_getD_getElem?, List.getElem?_toArray, List.getElem?_cons_succ, List.getElem?_cons_zero, Option.getD_some, List.set_cons_succ, List.set_cons_zero, Value.cells, List.toList_toArray] at hS)))
            refine wp_region_St hS (by kernel_rfl) (by kernel_rfl) (Bx.out ?_)
            refine bQ_val ?_ rfl ?_ ?_
            rotate_left
            · intro w hS; go_simp; (first | done | (with_reducible rfl) | (refine (if_pos ?_).trans ?_; (focus omega); with_reducible rfl) | skip)
            (simp only [Act.put, List.setIfInBounds_toArray, List.set_cons_zero, List.set_cons_succ])
            refine bQ_load rfl (fun w hS => by (first | ((with_reducible apply St.cellI hS); (focus repeat constructor); exact rfl) | assumption)) (by kernel_rfl) ?_
            (simp only [Act.put, List.setIfInBounds_toArray, List.set_cons_zero, List.set_cons_succ])
            refine bQ_load rfl (fun w hS => by (first | ((with_reducible apply St.cellI hS); (focus repeat constructor); exact rfl) | assumption)) (by kernel_rfl) ?_
            (simp only [Act.put, List.setIfInBounds_toArray, List.set_cons_zero, List.set_cons_succ])
            refine bQ_val ?_ rfl ?_ ?_
            rotate_left
            · intro w hS; go_simp; (first | done | (with_reducible rfl) | (refine (if_pos ?_).trans ?_; (focus omega); with_reducible rfl) | skip)
            (simp only [Act.put, List.setIfInBounds_toArray, List.set_cons_zero, List.set_cons_succ])
            refine bQ_val ?_ rfl ?_ ?_
            rotate_left
            · intro w hS; go_simp; (first | done | (with_reducible rfl) | (refine (if_pos ?_).trans ?_; (focus omega); with_reducible rfl) | skip)
            (simp only [Act.put, List.setIfInBounds_toArray, List.set_cons_zero, List.set_cons_succ])
            refine bQ_load rfl (fun w hS => by (first | ((with_reducible apply St.cellI hS); (focus repeat constructor); exact rfl) | assumption)) (by kernel_rfl) ?_
            (simp only [Act.put, List.setIfInBounds_toArray, List.set_cons_zero, List.set_cons_succ])
            refine bQ_val (.bool true) rfl (fun w hS => by go_simp; (first | done | simp [*] | omega)) ?_
            (simp only [Act.put, List.setIfInBounds_toArray, List.set_cons_zero, List.set_cons_succ])
            refine bQ_val ?_ rfl ?_ ?_
            rotate_left
            · intro w hS; go_simp; (first | done | (with_reducible rfl) | (refine (if_pos ?_).trans ?_; (focus omega); with_reducible rfl) | skip)
            (simp only [Act.put, List.setIfInBounds_toArray, List.set_cons_zero, List.set_cons_succ])
            refine bQ_guard (by exact rfl) ?_
            refine bQ_val ?_ rfl ?_ ?_
            rotate_left
            · intro w hS; go_simp; (first | done | (with_reducible rfl) | (refine (if_pos ?_).trans ?_; (focus omega); with_reducible rfl) | skip)
            (simp only [Act.put, List.setIfInBounds_toArray, List.set_cons_zero, List.set_cons_succ])
            refine bQ_guard (by exact rfl) ?_
            refine bQ_val ?_ rfl ?_ ?_
            rotate_left
            · intro w hS; go_simp; (first | done | (with_reducible rfl) | (refine (if_pos ?_).trans ?_; (focus omega); with_reducible rfl) | skip)
            (simp only [Act.put, List.setIfInBounds_toArray, List.set_cons_zero, List.set_cons_succ])
            refine bQ_guard (by exact rfl) ?_
            refine bQ_val ?_ rfl ?_ ?_
            rotate_left
            · intro w hS; go_simp; (first | done | (with_reducible rfl) | (refine (if_pos ?_).trans ?_; (focus omega); with_reducible rfl) | skip)
            (simp only [Act.put, List.setIfInBounds_toArray, List.set_cons_zero, List.set_cons_succ])
            refine bQ_skip (by exact rfl) ?_
            (simp only [Act.put, List.setIfInBounds_toArray, List.set_cons_zero, List.set_cons_succ])
            refine bQ_skip (by exact rfl) ?_
            (simp only [Act.put, List.setIfInBounds_toArray, List.set_cons_zero, List.set_cons_succ])
            refine bQ_skip (by exact rfl) ?_
            (simp only [Act.put, List.setIfInBounds_toArray, List.set_cons_zero, List.set_cons_succ])
            refine bQ_skip (by exact rfl) ?_
            (simp only [Act.put, List.setIfInBounds_toArray, List.set_cons_zero, List.set_cons_succ])
            refine bQ_skip (by exact rfl) ?_
            (simp only [Act.put, List.setIfInBounds_toArray, List.set_cons_zero, List.set_cons_succ])
            refine bQ_guard (by exact rfl) ?_
            refine bQ_val ?_ rfl ?_ ?_
            rotate_left
            · intro w hS; go_simp; (first | done | (with_reducible rfl) | (refine (if_pos ?_).trans ?_; (focus omega); with_reducible rfl) | skip)
            (simp only [Act.put, List.setIfInBounds_toArray, List.set_cons_zero, List.set_cons_succ])
            refine bQ_val ?_ rfl ?_ ?_
            rotate_left
            · intro w hS; go_simp; (first | done | (with_reducible rfl) | (refine (if_pos ?_).trans ?_; (focus omega); with_reducible rfl) | skip)
            (simp only [Act.put, List.setIfInBounds_toArray, List.set_cons_zero, List.set_cons_succ])
            refine ⟨wpQuiet_nil ?_⟩
            intro wx hS
            go_wp2_with (first | ((with_reducible show WGd ..); (with_reducible apply wpA_guard); exact rfl; skip) | ((with_reducible show WLd ..); (with_reducible apply wpA_loadN (t := 30)); exact rfl; ((with_reducible apply Hp.rangeI hS (n := 7)); (focus repeat constructor)); kernel_rfl; kernel_rfl; (try simp only [Act.put, List.setIfInBounds_toArray, List.set_cons_zero, List.set_cons_succ])) | ((first | ((with_reducible show WAl ..); (with_reducible apply wpA_alloc (t := 30) hS (v := .agg #[.int .i64 0, .int .i64 0, .int .i64 0, .int .i64 0, .int .i64 0, .string ⟨#[]⟩, .int .i64 0])); kernel_rfl; exact rfl; intro _ wx hS) | ((with_reducible show WBs ..); (with_reducible apply wpA_oneN hS (z := .agg #[.int .i64 0, .int .i64 0, .int .i64 0, .int .i64 0, .int .i64 0, .string ⟨#[]⟩, .int .i64 0]) (bytes := 64) (size := 7)); exact Try.underlying26; kernel_rfl; exact rfl; exact rfl; exact rfl; exact (by decide); exact (by decide); intro _ wx hS) | ((with_reducible show WBx ..); (with_reducible apply wpA_box hS); exact rfl; exact rfl; intro _ wx hS)); (try simp only [Act.put, List.setIfInBounds_toArray, List.set_cons_zero, List.set_cons_succ]); (try simp only [Act.eval, Array.getD_eq_getD_getElem?, List.getElem?_toArray, List.getElem?_cons_succ, List.getElem?_cons_zero, Option.getD_some, List.set_cons_succ, List.set_cons_zero, Value.cells, List.toList_toArray] at hS)) | ((with_reducible show WAp ..); (with_reducible apply wpA_appendI hS (e := 30) (z := .agg #[.int .i64 0, .int .i64 0, .int .i64 0, .int .i64 0, .int .i64 0, .string ⟨#[]⟩, .int .i64 0]) (size := 7) (bytes := 64)); exact rfl; exact rfl; exact Try.underlying26; (focus repeat constructor); exact .inr Try.underlying26; kernel_rfl; exact rfl; exact (Src.freshN (m := 1) hS 0 rfl rfl (by rfl)); exact (by unfold maxLen; omega); exact (by omega); intro _ _ wx hS; (try simp only [Act.put, List.setIfInBounds_toArray, List.set_cons_zero, List.set_cons_succ])) | ((with_reducible show WSt ..); (with_reducible apply wpA_storeI hS); exact rfl; (focus repeat constructor); exact rfl; exact rfl; exact rfl; exact (Nat.le_of_ble_eq_true rfl); kernel_rfl; intro wx hS; (try simp only [Act.put, List.setIfInBounds_toArray, List.set_cons_zero, List.set_cons_succ]); (try simp only [Act.eval, Array.getD_eq_getD_getElem?, List.getElem?_toArray, List.getElem?_cons_succ, List.getElem?_cons_zero, Option.getD_some, List.set_cons_succ, List.set_cons_zero, Value.cells, List.toList_toArray] at hS); (try simp only [List.take_zero, List.take_succ_cons, List.nil_append, List.cons_append, List.length_cons, List.length_nil, Nat.reduceAdd, Nat.zero_add, List.drop_succ_cons, List.drop_zero, List.drop_nil, List.append_nil] at hS)) | ((with_reducible show WLd ..); (with_reducible apply wpA_load); exact rfl; (first | ((with_reducible apply St.cellI hS); (focus repeat constructor); exact rfl) | assumption); kernel_rfl) | ((with_reducible show WSt ..); (with_reducible apply wpA_store1I hS); exact rfl; (focus repeat constructor); exact rfl; exact rfl; exact rfl; exact rfl; kernel_rfl; intro wx hS; (try simp only [Act.put, List.setIfInBounds_toArray, List.set_cons_zero, List.set_cons_succ]); (try simp only [Act.eval, Array.getD_eq_getD_getElem?, List.getElem?_toArray, List.getElem?_cons_succ, List.getElem?_cons_zero, Option.getD_some, List.set_cons_succ, List.set_cons_zero, Value.cells, List.toList_toArray] at hS)))
            refine wp_region_E 7 hS (by kernel_rfl) (fun _ hR hS => ?_)
            simp only [List.length_cons, List.length_nil, Nat.reduceAdd]
            refine takeE_load (i := 0) [7] rfl (by exact rfl) (by kernel_rfl) (fun _ _ _ h => h) (by decide) rfl (fun w hS => by (first | ((with_reducible apply St.cellI hS); (focus repeat constructor); exact rfl) | assumption)) (by kernel_rfl) hR (fun hR => ?_)
            (simp only [Act.put, List.setIfInBounds_toArray, List.set_cons_zero, List.set_cons_succ])
            refine takeP_val (i := 1) ?_ rfl (by exact rfl) (by kernel_rfl) (fun _ _ _ h => h) ?_ hR (fun hR => ?_)
            rotate_left
            · intro w; go_simp; (first | done | (with_reducible rfl) | (refine (if_pos ?_).trans ?_; (focus omega); with_reducible rfl) | skip)
            (simp only [Act.put, List.setIfInBounds_toArray, List.set_cons_zero, List.set_cons_succ])
            refine takeP_val (i := 2) ?_ rfl (by exact rfl) (by kernel_rfl) (fun _ _ _ h => h) ?_ hR (fun hR => ?_)
            rotate_left
            · intro w; go_simp; (first | done | (with_reducible rfl) | (refine (if_pos ?_).trans ?_; (focus omega); with_reducible rfl) | skip)
            (simp only [Act.put, List.setIfInBounds_toArray, List.set_cons_zero, List.set_cons_succ])
            refine takeE_load (i := 3) [7] rfl (by exact rfl) (by kernel_rfl) (fun _ _ _ h => h) (by decide) rfl (fun w hS => by (first | ((with_reducible apply St.cellI hS); (focus repeat constructor); exact rfl) | assumption)) (by kernel_rfl) hR (fun hR => ?_)
            (simp only [Act.put, List.setIfInBounds_toArray, List.set_cons_zero, List.set_cons_succ])
            refine takeP_val (i := 4) ?_ rfl (by exact rfl) (by kernel_rfl) (fun _ _ _ h => h) ?_ hR (fun hR => ?_)
            rotate_left
            · intro w; go_simp; (first | done | (with_reducible rfl) | (refine (if_pos ?_).trans ?_; (focus omega); with_reducible rfl) | skip)
            (simp only [Act.put, List.setIfInBounds_toArray, List.set_cons_zero, List.set_cons_succ])
            refine takeE_load (i := 5) [7] rfl (by exact rfl) (by kernel_rfl) (fun _ _ _ h => h) (by decide) rfl (fun w hS => by (first | ((with_reducible apply St.cellI hS); (focus repeat constructor); exact rfl) | assumption)) (by kernel_rfl) hR (fun hR => ?_)
            (simp only [Act.put, List.setIfInBounds_toArray, List.set_cons_zero, List.set_cons_succ])
            refine takeE_loadN (i := 6) [7] rfl (by exact rfl) (by kernel_rfl) (fun _ _ _ h => h) (by decide) rfl (fun w hS => by (first | exact Hp.range hS 0 rfl _ 7 | exact Hp.range hS 1 rfl _ 7 | exact Hp.range hS 2 rfl _ 7 | exact Hp.range hS 3 rfl _ 7 | exact Hp.range hS 4 rfl _ 7 | exact Hp.range hS 5 rfl _ 7 | exact Hp.range hS 6 rfl _ 7 | exact Hp.range hS 7 rfl _ 7 | exact Hp.range hS 8 rfl _ 7 | exact Hp.range hS 9 rfl _ 7)) (by kernel_rfl) (by kernel_rfl) hR (fun hR => ?_)
            (simp only [Act.put, List.setIfInBounds_toArray, List.set_cons_zero, List.set_cons_succ])
            (try simp only [List.drop_zero, List.drop_succ_cons, List.take_succ_cons, List.take_zero])
            refine oneE (i := 7) (by kernel_rfl) rfl (by exact rfl) (fun K_ hK_ => ?_)
            ((with_reducible apply opA_update_new hS 5); exact rfl; exact rfl; exact rfl; exact rfl; exact Try.underlying55; exact Try.underlying3; exact rfl; exact HJ.out; intro wx hS; (try simp only [Act.eval, Array.getD_eq_getD_getElem?, List.getElem?_toArray, List.getElem?_cons_succ, List.getElem?_cons_zero, Option.getD_some, List.set_cons_succ, List.set_cons_zero, Value.cells, List.toList_toArray] at hS))
            refine hK_ _ _ (fun h => by cases h) ?_; clear hK_ K_
            (simp only [Act.put, List.setIfInBounds_toArray, List.set_cons_zero, List.set_cons_succ])
            refine wpAnyR_done (by kernel_rfl) ?_ _
            go_wp2_with (first | ((with_reducible show WGd ..); (with_reducible apply wpA_guard); exact rfl; skip) | ((with_reducible show WLd ..); (with_reducible apply wpA_loadN (t := 30)); exact rfl; ((with_reducible apply Hp.rangeI hS (n := 7)); (focus repeat constructor)); kernel_rfl; kernel_rfl; (try simp only [Act.put, List.setIfInBounds_toArray, List.set_cons_zero, List.set_cons_succ])) | ((first | ((with_reducible show WAl ..); (with_reducible apply wpA_alloc (t := 30) hS (v := .agg #[.int .i64 0, .int .i64 0, .int .i64 0, .int .i64 0, .int .i64 0, .string ⟨#[]⟩, .int .i64 0])); kernel_rfl; exact rfl; intro _ wx hS) | ((with_reducible show WBs ..); (with_reducible apply wpA_oneN hS (z := .agg #[.int .i64 0, .int .i64 0, .int .i64 0, .int .i64 0, .int .i64 0, .string ⟨#[]⟩, .int .i64 0]) (bytes := 64) (size := 7)); exact Try.underlying26; kernel_rfl; exact rfl; exact rfl; exact rfl; exact (by decide); exact (by decide); intro _ wx hS) | ((with_reducible show WBx ..); (with_reducible apply wpA_box hS); exact rfl; exact rfl; intro _ wx hS)); (try simp only [Act.put, List.setIfInBounds_toArray, List.set_cons_zero, List.set_cons_succ]); (try simp only [Act.eval, Array.getD_eq_getD_getElem?, List.getElem?_toArray, List.getElem?_cons_succ, List.getElem?_cons_zero, Option.getD_some, List.set_cons_succ, List.set_cons_zero, Value.cells, List.toList_toArray] at hS)) | ((with_reducible show WAp ..); (with_reducible apply wpA_appendI hS (e := 30) (z := .agg #[.int .i64 0, .int .i64 0, .int .i64 0, .int .i64 0, .int .i64 0, .string ⟨#[]⟩, .int .i64 0]) (size := 7) (bytes := 64)); exact rfl; exact rfl; exact Try.underlying26; (focus repeat constructor); exact .inr Try.underlying26; kernel_rfl; exact rfl; exact (Src.freshN (m := 1) hS 0 rfl rfl (by rfl)); exact (by unfold maxLen; omega); exact (by omega); intro _ _ wx hS; (try simp only [Act.put, List.setIfInBounds_toArray, List.set_cons_zero, List.set_cons_succ])) | ((with_reducible show WSt ..); (with_reducible apply wpA_storeI hS); exact rfl; (focus repeat constructor); exact rfl; exact rfl; exact rfl; exact (Nat.le_of_ble_eq_true rfl); kernel_rfl; intro wx hS; (try simp only [Act.put, List.setIfInBounds_toArray, List.set_cons_zero, List.set_cons_succ]); (try simp only [Act.eval, Array.getD_eq_getD_getElem?, List.getElem?_toArray, List.getElem?_cons_succ, List.getElem?_cons_zero, Option.getD_some, List.set_cons_succ, List.set_cons_zero, Value.cells, List.toList_toArray] at hS); (try simp only [List.take_zero, List.take_succ_cons, List.nil_append, List.cons_append, List.length_cons, List.length_nil, Nat.reduceAdd, Nat.zero_add, List.drop_succ_cons, List.drop_zero, List.drop_nil, List.append_nil] at hS)) | ((with_reducible show WLd ..); (with_reducible apply wpA_load); exact rfl; (first | ((with_reducible apply St.cellI hS); (focus repeat constructor); exact rfl) | assumption); kernel_rfl) | ((with_reducible show WSt ..); (with_reducible apply wpA_store1I hS); exact rfl; (focus repeat constructor); exact rfl; exact rfl; exact rfl; exact rfl; kernel_rfl; intro wx hS; (try simp only [Act.put, List.setIfInBounds_toArray, List.set_cons_zero, List.set_cons_succ]); (try simp only [Act.eval, Array.getD_eq_getD_getElem?, List.getElem?_toArray, List.getElem?_cons_succ, List.getElem?_cons_zero, Option.getD_some, List.set_cons_succ, List.set_cons_zero, Value.cells, List.toList_toArray] at hS)))
            rw [show B0.map kvB ++ [(Value.int .i64 es_, Value.agg #[.int .i64 es_, .int .i64 eb, .int .i64 ek, .int .i64 ee, .int .i64 eq_, .string en, .int .i64 e5])] = (B0 ++ [(⟨es_, eb, ⟨ek, ee, eq_, en, e5⟩⟩ : EntS)]).map kvB by simp [kvB, EntS.cells]] at hS
            go_roundw
            case rel => exact ⟨i + 1, by omega, by go_num, by rw [HT.out, HK.out]; exact hS.tail.tail⟩
            case measure => simp [intOf]; omega
          | some q =>
            obtain ⟨x, hq, hqs⟩ := idx_some hx
            obtain ⟨xs, xb, ⟨xk, xe, xq, xn, x5⟩⟩ := x
            simp only at hqs
            have HJ := Lib.hid (show ∃ j : Nat, (B0.map kvB)[j]? = some (Value.int .i64 es_, .agg #[.int .i64 xs, .int .i64 xb, .int .i64 xk, .int .i64 xe, .int .i64 xq, .string xn, .int .i64 x5]) from ⟨q, by rw [List.getElem?_map, hq, ← hqs]; rfl⟩)
            have HJ2 := Lib.hid (show (B0.map kvB)[q]? = some (Value.int .i64 es_, .agg #[.int .i64 xs, .int .i64 xb, .int .i64 xk, .int .i64 xe, .int .i64 xq, .string xn, .int .i64 x5]) from (by rw [List.getElem?_map, hq, ← hqs]; rfl))
            by_cases h2 : xb < eb
            · have hd2 : decide (xb < eb) = true := by simpa using h2
              have HK := Lib.hid (keepD_more (best := B0) (e := ⟨es_, eb, ⟨ek, ee, eq_, en, e5⟩⟩) h1 hx hq h2)
              clear hx hq hqs
              go_upto_region 7 with (first | ((with_reducible show WGd ..); (with_reducible apply wpA_guard); exact rfl; skip) | ((with_reducible show WLd ..); (with_reducible apply wpA_loadN (t := 30)); exact rfl; exact HEL.out; kernel_rfl; kernel_rfl; (try simp only [Act.put, List.setIfInBounds_toArray, List.set_cons_zero, List.set_cons_succ])) | ((with_reducible show WLd ..); (with_reducible apply wpA_loadN (t := 30)); exact rfl; ((with_reducible apply Hp.rangeI hS (n := 7)); (focus repeat constructor)); kernel_rfl; kernel_rfl; (try simp only [Act.put, List.setIfInBounds_toArray, List.set_cons_zero, List.set_cons_succ])) | ((first | ((with_reducible show WAl ..); (with_reducible apply wpA_alloc (t := 30) hS (v := .agg #[.int .i64 0, .int .i64 0, .int .i64 0, .int .i64 0, .int .i64 0, .string ⟨#[]⟩, .int .i64 0])); kernel_rfl; exact rfl; intro _ wx hS) | ((with_reducible show WBs ..); (with_reducible apply wpA_oneN hS (z := .agg #[.int .i64 0, .int .i64 0, .int .i64 0, .int .i64 0, .int .i64 0, .string ⟨#[]⟩, .int .i64 0]) (bytes := 64) (size := 7)); exact Try.underlying26; kernel_rfl; exact rfl; exact rfl; exact rfl; exact (by decide); exact (by decide); intro _ wx hS) | ((with_reducible show WBx ..); (with_reducible apply wpA_box hS); exact rfl; exact rfl; intro _ wx hS)); (try simp only [Act.put, List.setIfInBounds_toArray, List.set_cons_zero, List.set_cons_succ]); (try simp only [Act.eval, Array.getD_eq_getD_getElem?, List.getElem?_toArray, List.getElem?_cons_succ, List.getElem?_cons_zero, Option.getD_some, List.set_cons_succ, List.set_cons_zero, Value.cells, List.toList_toArray] at hS)) | ((with_reducible show WAp ..); (with_reducible apply wpA_appendI hS (e := 30) (z := .agg #[.int .i64 0, .int .i64 0, .int .i64 0, .int .i64 0, .int .i64 0, .string ⟨#[]⟩, .int .i64 0]) (size := 7) (bytes := 64)); exact rfl; exact rfl; exact Try.underlying26; (focus repeat constructor); exact .inr Try.underlying26; kernel_rfl; exact rfl; exact (Src.freshN (m := 1) hS 0 rfl rfl (by rfl)); exact (by unfold maxLen; omega); exact (by omega); intro _ _ wx hS; (try simp only [Act.put, List.setIfInBounds_toArray, List.set_cons_zero, List.set_cons_succ])) | ((with_reducible show WSt ..); (with_reducible apply wpA_storeI hS); exact rfl; (focus repeat constructor); exact rfl; exact rfl; exact rfl; exact (Nat.le_of_ble_eq_true rfl); kernel_rfl; intro wx hS; (try simp only [Act.put, List.setIfInBounds_toArray, List.set_cons_zero, List.set_cons_succ]); (try simp only [Act.eval, Array.getD_eq_getD_getElem?, List.getElem?_toArray, List.getElem?_cons_succ, List.getElem?_cons_zero, Option.getD_some, List.set_cons_succ, List.set_cons_zero, Value.cells, List.toList_toArray] at hS); (try simp only [List.take_zero, List.take_succ_cons, List.nil_append, List.cons_append, List.length_cons, List.length_nil, Nat.reduceAdd, Nat.zero_add, List.drop_succ_cons, List.drop_zero, List.drop_nil, List.append_nil] at hS)) | ((with_reducible show WLd ..); (with_reducible apply wpA_load); exact rfl; (first | ((with_reducible apply St.cellI hS); (focus repeat constructor); exact rfl) | assumption); kernel_rfl) | ((with_reducible show WSt ..); (with_reducible apply wpA_store1I hS); exact rfl; (focus repeat constructor); exact rfl; exact rfl; exact rfl; exact rfl; kernel_rfl; intro wx hS; (try simp only [Act.put, List.setIfInBounds_toArray, List.set_cons_zero, List.set_cons_succ]); (try simp only [Act.eval, Array.getD_eq_getD_getElem?, List.getElem?_toArray, List.getElem?_cons_succ, List.getElem?_cons_zero, Option.getD_some, List.set_cons_succ, List.set_cons_zero, Value.cells, List.toList_toArray] at hS)))
              refine wp_region_A hS (by kernel_rfl) (fun _ hR hS => ?_)
              simp only [List.length_cons, List.length_nil, Nat.reduceAdd]
              refine takeA_load (i := 0) [] rfl (by exact rfl) (by kernel_rfl) (fun _ _ _ h => h) (by decide) rfl (fun w hS => by (first | ((with_reducible apply St.cellI hS); (focus repeat constructor); exact rfl) | assumption)) (by kernel_rfl) hR (fun hR => ?_)
              (simp only [Act.put, List.setIfInBounds_toArray, List.set_cons_zero, List.set_cons_succ])
              refine takeAP_val (i := 1) ?_ rfl (by exact rfl) (by kernel_rfl) (fun _ _ _ h => h) ?_ hR (fun hR => ?_)
              rotate_left
              · intro w; go_simp; (first | done | (with_reducible rfl) | (refine (if_pos ?_).trans ?_; (focus omega); with_reducible rfl) | skip)
              (simp only [Act.put, List.setIfInBounds_toArray, List.set_cons_zero, List.set_cons_succ])
              refine takeAP_val (i := 2) ?_ rfl (by exact rfl) (by kernel_rfl) (fun _ _ _ h => h) ?_ hR (fun hR => ?_)
              rotate_left
              · intro w; go_simp; (first | done | (with_reducible rfl) | (refine (if_pos ?_).trans ?_; (focus omega); with_reducible rfl) | skip)
              (simp only [Act.put, List.setIfInBounds_toArray, List.set_cons_zero, List.set_cons_succ])
              refine takeA_load (i := 3) [] rfl (by exact rfl) (by kernel_rfl) (fun _ _ _ h => h) (by decide) rfl (fun w hS => by (first | ((with_reducible apply St.cellI hS); (focus repeat constructor); exact rfl) | assumption)) (by kernel_rfl) hR (fun hR => ?_)
              (simp only [Act.put, List.setIfInBounds_toArray, List.set_cons_zero, List.set_cons_succ])
              refine takeAP_val (i := 4) ?_ rfl (by exact rfl) (by kernel_rfl) (fun _ _ _ h => h) ?_ hR (fun hR => ?_)
              rotate_left
              · intro w; go_simp; (first | done | (with_reducible rfl) | (refine (if_pos ?_).trans ?_; (focus omega); with_reducible rfl) | skip)
              (simp only [Act.put, List.setIfInBounds_toArray, List.set_cons_zero, List.set_cons_succ])
              refine takeA_load (i := 5) [] rfl (by exact rfl) (by kernel_rfl) (fun _ _ _ h => h) (by decide) rfl (fun w hS => by (first | ((with_reducible apply St.cellI hS); (focus repeat constructor); exact rfl) | assumption)) (by kernel_rfl) hR (fun hR => ?_)
              (simp only [Act.put, List.setIfInBounds_toArray, List.set_cons_zero, List.set_cons_succ])
              refine takeA_lookup (i := 6) [] 4 rfl (by exact rfl) (by kernel_rfl) (z := .agg #[.int .i64 0, .int .i64 0, .int .i64 0, .int .i64 0, .int .i64 0, .string ⟨#[]⟩, .int .i64 0]) (some (.agg #[.int .i64 xs, .int .i64 xb, .int .i64 xk, .int .i64 xe, .int .i64 xq, .string xn, .int .i64 x5])) (fun _ _ _ h => h) (by decide) rfl rfl rfl Try.underlying55 Try.underlying3 rfl (by kernel_rfl) HJ.out hR (fun hR => ?_)
              dsimp only [Option.getD, Option.isSome, if_true, Bool.false_eq_true, if_false]
              (simp only [Act.put, List.setIfInBounds_toArray, List.set_cons_zero, List.set_cons_succ])
              refine takeAP_val (i := 7) ?_ rfl (by exact rfl) (by kernel_rfl) (fun _ _ _ h => h) ?_ hR (fun hR => ?_)
              rotate_left
              · intro w; go_simp; (first | done | (with_reducible rfl) | (refine (if_pos ?_).trans ?_; (focus omega); with_reducible rfl) | skip)
              (simp only [Act.put, List.setIfInBounds_toArray, List.set_cons_zero, List.set_cons_succ])
              refine takeAP_val (i := 8) ?_ rfl (by exact rfl) (by kernel_rfl) (fun _ _ _ h => h) ?_ hR (fun hR => ?_)
              rotate_left
              · intro w; go_simp; (first | done | (with_reducible rfl) | (refine (if_pos ?_).trans ?_; (focus omega); with_reducible rfl) | skip)
              (simp only [Act.put, List.setIfInBounds_toArray, List.set_cons_zero, List.set_cons_succ])
              refine takeAP_val (i := 9) ?_ rfl (by exact rfl) (by kernel_rfl) (fun _ _ _ h => h) ?_ hR (fun hR => ?_)
              rotate_left
              · intro w; go_simp; (first | done | (with_reducible rfl) | (refine (if_pos ?_).trans ?_; (focus omega); with_reducible rfl) | skip)
              (simp only [Act.put, List.setIfInBounds_toArray, List.set_cons_zero, List.set_cons_succ])
              refine oneA (i := 10) (by kernel_rfl) rfl (by exact rfl) (fun K_ hK_ => ?_)
              ((with_reducible apply opA_alloc (t := 30) hS (v := .agg #[.int .i64 0, .int .i64 0, .int .i64 0, .int .i64 0, .int .i64 0, .string ⟨#[]⟩, .int .i64 0])); kernel_rfl; exact rfl; intro _ wx hS; (try simp only [Act.eval, Array.getD_eq_getD_getElem?, List.getElem?_toArray, List.getElem?_cons_succ, List.getElem?_cons_zero, Option.getD_some, List.set_cons_succ, List.set_cons_zero, Value.cells, List.toList_toArray] at hS))
              refine hK_ _ _ (id (hS.tail)) ?_; clear hK_ K_
              (simp only [Act.put, List.setIfInBounds_toArray, List.set_cons_zero, List.set_cons_succ])
              refine oneA (i := 11) (by kernel_rfl) rfl (by exact rfl) (fun K_ hK_ => ?_)
              ((with_reducible apply opA_storeI hS); exact rfl; (focus repeat constructor); exact rfl; exact rfl; exact rfl; exact (Nat.le_of_ble_eq_true rfl); kernel_rfl; intro wx hS; (try simp only [Act.eval, Array.getD_eq_getD_getElem?, List.getElem?_toArray, List.getElem?_cons_succ, List.getElem?_cons_zero, Option.getD_some, List.set_cons_succ, List.set_cons_zero, Value.cells, List.toList_toArray] at hS); (try simp only [List.take_zero, List.take_succ_cons, List.nil_append, List.cons_append, List.length_cons, List.length_nil, Nat.reduceAdd, Nat.zero_add, List.drop_succ_cons, List.drop_zero, List.drop_nil, List.append_nil] at hS))
              refine hK_ _ _ (id (hS.tail)) ?_; clear hK_ K_
              (simp only [Act.put, List.setIfInBounds_toArray, List.set_cons_zero, List.set_cons_succ])
              refine takeAP_val (i := 12) ?_ rfl (by exact rfl) (by kernel_rfl) (fun _ _ _ h => h) ?_ (id hS.tail) (fun hR => ?_)
              rotate_left
              · intro w; go_simp; (first | done | (with_reducible rfl) | (refine (if_pos ?_).trans ?_; (focus omega); with_reducible rfl) | skip)
              (simp only [Act.put, List.setIfInBounds_toArray, List.set_cons_zero, List.set_cons_succ])
              refine wpAnyR_done (by kernel_rfl) ?_ _
              go_wp2_with (first | ((with_reducible show WGd ..); (with_reducible apply wpA_guard); exact rfl; skip) | ((with_reducible show WLd ..); (with_reducible apply wpA_loadN (t := 30)); exact rfl; ((with_reducible apply Hp.rangeI hS (n := 7)); (focus repeat constructor)); kernel_rfl; kernel_rfl; (try simp only [Act.put, List.setIfInBounds_toArray, List.set_cons_zero, List.set_cons_succ])) | ((first | ((with_reducible show WAl ..); (with_reducible apply wpA_alloc (t := 30) hS (v := .agg #[.int .i64 0, .int .i64 0, .int .i64 0, .int .i64 0, .int .i64 0, .string ⟨#[]⟩, .int .i64 0])); kernel_rfl; exact rfl; intro _ wx hS) | ((with_reducible show WBs ..); (with_reducible apply wpA_oneN hS (z := .agg #[.int .i64 0, .int .i64 0, .int .i64 0, .int .i64 0, .int .i64 0, .string ⟨#[]⟩, .int .i64 0]) (bytes := 64) (size := 7)); exact Try.underlying26; kernel_rfl; exact rfl; exact rfl; exact rfl; exact (by decide); exact (by decide); intro _ wx hS) | ((with_reducible show WBx ..); (with_reducible apply wpA_box hS); exact rfl; exact rfl; intro _ wx hS)); (try simp only [Act.put, List.setIfInBounds_toArray, List.set_cons_zero, List.set_cons_succ]); (try simp only [Act.eval, Array.getD_eq_getD_getElem?, List.getElem?_toArray, List.getElem?_cons_succ, List.getElem?_cons_zero, Option.getD_some, List.set_cons_succ, List.set_cons_zero, Value.cells, List.toList_toArray] at hS)) | ((with_reducible show WAp ..); (with_reducible apply wpA_appendI hS (e := 30) (z := .agg #[.int .i64 0, .int .i64 0, .int .i64 0, .int .i64 0, .int .i64 0, .string ⟨#[]⟩, .int .i64 0]) (size := 7) (bytes := 64)); exact rfl; exact rfl; exact Try.underlying26; (focus repeat constructor); exact .inr Try.underlying26; kernel_rfl; exact rfl; exact (Src.freshN (m := 1) hS 0 rfl rfl (by rfl)); exact (by unfold maxLen; omega); exact (by omega); intro _ _ wx hS; (try simp only [Act.put, List.setIfInBounds_toArray, List.set_cons_zero, List.set_cons_succ])) | ((with_reducible show WSt ..); (with_reducible apply wpA_storeI hS); exact rfl; (focus repeat constructor); exact rfl; exact rfl; exact rfl; exact (Nat.le_of_ble_eq_true rfl); kernel_rfl; intro wx hS; (try simp only [Act.put, List.setIfInBounds_toArray, List.set_cons_zero, List.set_cons_succ]); (try simp only [Act.eval, Array.getD_eq_getD_getElem?, List.getElem?_toArray, List.getElem?_cons_succ, List.getElem?_cons_zero, Option.getD_some, List.set_cons_succ, List.set_cons_zero, Value.cells, List.toList_toArray] at hS); (try simp only [List.take_zero, List.take_succ_cons, List.nil_append, List.cons_append, List.length_cons, List.length_nil, Nat.reduceAdd, Nat.zero_add, List.drop_succ_cons, List.drop_zero, List.drop_nil, List.append_nil] at hS)) | ((with_reducible show WLd ..); (with_reducible apply wpA_load); exact rfl; (first | ((with_reducible apply St.cellI hS); (focus repeat constructor); exact rfl) | assumption); kernel_rfl) | ((with_reducible show WSt ..); (with_reducible apply wpA_store1I hS); exact rfl; (focus repeat constructor); exact rfl; exact rfl; exact rfl; exact rfl; kernel_rfl; intro wx hS; (try simp only [Act.put, List.setIfInBounds_toArray, List.set_cons_zero, List.set_cons_succ]); (try simp only [Act.eval, Array.getD_eq_getD_getElem?, List.getElem?_toArray, List.getElem?_cons_succ, List.getElem?_cons_zero, Option.getD_some, List.set_cons_succ, List.set_cons_zero, Value.cells, List.toList_toArray] at hS)))
              refine wp_region_St hS (by kernel_rfl) (by kernel_rfl) (Bx.out ?_)
              refine bQ_val ?_ rfl ?_ ?_
              rotate_left
              · intro w hS; go_simp; (first | done | (with_reducible rfl) | (refine (if_pos ?_).trans ?_; (focus omega); with_reducible rfl) | skip)
              (simp only [Act.put, List.setIfInBounds_toArray, List.set_cons_zero, List.set_cons_succ])
              refine bQ_load rfl (fun w hS => by (first | ((with_reducible apply St.cellI hS); (focus repeat constructor); exact rfl) | assumption)) (by kernel_rfl) ?_
              (simp only [Act.put, List.setIfInBounds_toArray, List.set_cons_zero, List.set_cons_succ])
              refine bQ_load rfl (fun w hS => by (first | ((with_reducible apply St.cellI hS); (focus repeat constructor); exact rfl) | assumption)) (by kernel_rfl) ?_
              (simp only [Act.put, List.setIfInBounds_toArray, List.set_cons_zero, List.set_cons_succ])
              refine bQ_val ?_ rfl ?_ ?_
              rotate_left
              · intro w hS; go_simp; (first | done | (with_reducible rfl) | (refine (if_pos ?_).trans ?_; (focus omega); with_reducible rfl) | skip)
              (simp only [Act.put, List.setIfInBounds_toArray, List.set_cons_zero, List.set_cons_succ])
              refine bQ_val ?_ rfl ?_ ?_
              rotate_left
              · intro w hS; go_simp; (first | done | (with_reducible rfl) | (refine (if_pos ?_).trans ?_; (focus omega); with_reducible rfl) | skip)
              (simp only [Act.put, List.setIfInBounds_toArray, List.set_cons_zero, List.set_cons_succ])
              refine bQ_load rfl (fun w hS => by (first | ((with_reducible apply St.cellI hS); (focus repeat constructor); exact rfl) | assumption)) (by kernel_rfl) ?_
              (simp only [Act.put, List.setIfInBounds_toArray, List.set_cons_zero, List.set_cons_succ])
              refine bQ_val (.bool true) rfl (fun w hS => by go_simp; (first | done | simp [*] | omega)) ?_
              (simp only [Act.put, List.setIfInBounds_toArray, List.set_cons_zero, List.set_cons_succ])
              refine bQ_val ?_ rfl ?_ ?_
              rotate_left
              · intro w hS; go_simp; (first | done | (with_reducible rfl) | (refine (if_pos ?_).trans ?_; (focus omega); with_reducible rfl) | skip)
              (simp only [Act.put, List.setIfInBounds_toArray, List.set_cons_zero, List.set_cons_succ])
              refine bQ_guard (by exact rfl) ?_
              refine bQ_val ?_ rfl ?_ ?_
              rotate_left
              · intro w hS; go_simp; (first | done | (with_reducible rfl) | (refine (if_pos ?_).trans ?_; (focus omega); with_reducible rfl) | skip)
              (simp only [Act.put, List.setIfInBounds_toArray, List.set_cons_zero, List.set_cons_succ])
              refine bQ_guard (by exact rfl) ?_
              refine bQ_val ?_ rfl ?_ ?_
              rotate_left
              · intro w hS; go_simp; (first | done | (with_reducible rfl) | (refine (if_pos ?_).trans ?_; (focus omega); with_reducible rfl) | skip)
              (simp only [Act.put, List.setIfInBounds_toArray, List.set_cons_zero, List.set_cons_succ])
              refine bQ_guard (by exact rfl) ?_
              refine bQ_val ?_ rfl ?_ ?_
              rotate_left
              · intro w hS; go_simp; (first | done | (with_reducible rfl) | (refine (if_pos ?_).trans ?_; (focus omega); with_reducible rfl) | skip)
              (simp only [Act.put, List.setIfInBounds_toArray, List.set_cons_zero, List.set_cons_succ])
              refine bQ_guard (by exact rfl) ?_
              refine bQ_val ?_ rfl ?_ ?_
              rotate_left
              · intro w hS; go_simp; (first | done | (with_reducible rfl) | (refine (if_pos ?_).trans ?_; (focus omega); with_reducible rfl) | skip)
              (simp only [Act.put, List.setIfInBounds_toArray, List.set_cons_zero, List.set_cons_succ])
              refine bQ_guard (by exact rfl) ?_
              refine bQ_load rfl (fun w hS => by (first | ((with_reducible apply St.cellI hS); (focus repeat constructor); exact rfl) | assumption)) (by kernel_rfl) ?_
              (simp only [Act.put, List.setIfInBounds_toArray, List.set_cons_zero, List.set_cons_succ])
              refine bQ_guard (by exact rfl) ?_
              refine bQ_val ?_ rfl ?_ ?_
              rotate_left
              · intro w hS; go_simp; (first | done | (with_reducible rfl) | (refine (if_pos ?_).trans ?_; (focus omega); with_reducible rfl) | skip)
              (simp only [Act.put, List.setIfInBounds_toArray, List.set_cons_zero, List.set_cons_succ])
              refine bQ_guard (by exact rfl) ?_
              refine bQ_load rfl (fun w hS => by (first | ((with_reducible apply St.cellI hS); (focus repeat constructor); exact rfl) | assumption)) (by kernel_rfl) ?_
              (simp only [Act.put, List.setIfInBounds_toArray, List.set_cons_zero, List.set_cons_succ])
              refine bQ_guard (by exact rfl) ?_
              refine bQ_val (.bool true) rfl (fun w hS => by go_simp; (first | done | simp [*] | omega)) ?_
              (simp only [Act.put, List.setIfInBounds_toArray, List.set_cons_zero, List.set_cons_succ])
              refine bQ_guard (by exact rfl) ?_
              refine bQ_val ?_ rfl ?_ ?_
              rotate_left
              · intro w hS; go_simp; (first | done | (with_reducible rfl) | (refine (if_pos ?_).trans ?_; (focus omega); with_reducible rfl) | skip)
              (simp only [Act.put, List.setIfInBounds_toArray, List.set_cons_zero, List.set_cons_succ])
              refine bQ_val ?_ rfl ?_ ?_
              rotate_left
              · intro w hS; go_simp; (first | done | (with_reducible rfl) | (refine (if_pos ?_).trans ?_; (focus omega); with_reducible rfl) | skip)
              (simp only [Act.put, List.setIfInBounds_toArray, List.set_cons_zero, List.set_cons_succ])
              refine ⟨wpQuiet_nil ?_⟩
              intro wx hS
              go_wp2_with (first | ((with_reducible show WGd ..); (with_reducible apply wpA_guard); exact rfl; skip) | ((with_reducible show WLd ..); (with_reducible apply wpA_loadN (t := 30)); exact rfl; ((with_reducible apply Hp.rangeI hS (n := 7)); (focus repeat constructor)); kernel_rfl; kernel_rfl; (try simp only [Act.put, List.setIfInBounds_toArray, List.set_cons_zero, List.set_cons_succ])) | ((first | ((with_reducible show WAl ..); (with_reducible apply wpA_alloc (t := 30) hS (v := .agg #[.int .i64 0, .int .i64 0, .int .i64 0, .int .i64 0, .int .i64 0, .string ⟨#[]⟩, .int .i64 0])); kernel_rfl; exact rfl; intro _ wx hS) | ((with_reducible show WBs ..); (with_reducible apply wpA_oneN hS (z := .agg #[.int .i64 0, .int .i64 0, .int .i64 0, .int .i64 0, .int .i64 0, .string ⟨#[]⟩, .int .i64 0]) (bytes := 64) (size := 7)); exact Try.underlying26; kernel_rfl; exact rfl; exact rfl; exact rfl; exact (by decide); exact (by decide); intro _ wx hS) | ((with_reducible show WBx ..); (with_reducible apply wpA_box hS); exact rfl; exact rfl; intro _ wx hS)); (try simp only [Act.put, List.setIfInBounds_toArray, List.set_cons_zero, List.set_cons_succ]); (try simp only [Act.eval, Array.getD_eq_getD_getElem?, List.getElem?_toArray, List.getElem?_cons_succ, List.getElem?_cons_zero, Option.getD_some, List.set_cons_succ, List.set_cons_zero, Value.cells, List.toList_toArray] at hS)) | ((with_reducible show WAp ..); (with_reducible apply wpA_appendI hS (e := 30) (z := .agg #[.int .i64 0, .int .i64 0, .int .i64 0, .int .i64 0, .int .i64 0, .string ⟨#[]⟩, .int .i64 0]) (size := 7) (bytes := 64)); exact rfl; exact rfl; exact Try.underlying26; (focus repeat constructor); exact .inr Try.underlying26; kernel_rfl; exact rfl; exact (Src.freshN (m := 1) hS 0 rfl rfl (by rfl)); exact (by unfold maxLen; omega); exact (by omega); intro _ _ wx hS; (try simp only [Act.put, List.setIfInBounds_toArray, List.set_cons_zero, List.set_cons_succ])) | ((with_reducible show WSt ..); (with_reducible apply wpA_storeI hS); exact rfl; (focus repeat constructor); exact rfl; exact rfl; exact rfl; exact (Nat.le_of_ble_eq_true rfl); kernel_rfl; intro wx hS; (try simp only [Act.put, List.setIfInBounds_toArray, List.set_cons_zero, List.set_cons_succ]); (try simp only [Act.eval, Array.getD_eq_getD_getElem?, List.getElem?_toArray, List.getElem?_cons_succ, List.getElem?_cons_zero, Option.getD_some, List.set_cons_succ, List.set_cons_zero, Value.cells, List.toList_toArray] at hS); (try simp only [List.take_zero, List.take_succ_cons, List.nil_append, List.cons_append, List.length_cons, List.length_nil, Nat.reduceAdd, Nat.zero_add, List.drop_succ_cons, List.drop_zero, List.drop_nil, List.append_nil] at hS)) | ((with_reducible show WLd ..); (with_reducible apply wpA_load); exact rfl; (first | ((with_reducible apply St.cellI hS); (focus repeat constructor); exact rfl) | assumption); kernel_rfl) | ((with_reducible show WSt ..); (with_reducible apply wpA_store1I hS); exact rfl; (focus repeat constructor); exact rfl; exact rfl; exact rfl; exact rfl; kernel_rfl; intro wx hS; (try simp only [Act.put, List.setIfInBounds_toArray, List.set_cons_zero, List.set_cons_succ]); (try simp only [Act.eval, Array.getD_eq_getD_getElem?, List.getElem?_toArray, List.getElem?_cons_succ, List.getElem?_cons_zero, Option.getD_some, List.set_cons_succ, List.set_cons_zero, Value.cells, List.toList_toArray] at hS)))
              refine wp_region_E 7 hS (by kernel_rfl) (fun _ hR hS => ?_)
              simp only [List.length_cons, List.length_nil, Nat.reduceAdd]
              refine takeE_load (i := 0) [7] rfl (by exact rfl) (by kernel_rfl) (fun _ _ _ h => h) (by decide) rfl (fun w hS => by (first | ((with_reducible apply St.cellI hS); (focus repeat constructor); exact rfl) | assumption)) (by kernel_rfl) hR (fun hR => ?_)
              (simp only [Act.put, List.setIfInBounds_toArray, List.set_cons_zero, List.set_cons_succ])
              refine takeP_val (i := 1) ?_ rfl (by exact rfl) (by kernel_rfl) (fun _ _ _ h => h) ?_ hR (fun hR => ?_)
              rotate_left
              · intro w; go_simp; (first | done | (with_reducible rfl) | (refine (if_pos ?_).trans ?_; (focus omega); with_reducible rfl) | skip)
              (simp only [Act.put, List.setIfInBounds_toArray, List.set_cons_zero, List.set_cons_succ])
              refine takeP_val (i := 2) ?_ rfl (by exact rfl) (by kernel_rfl) (fun _ _ _ h => h) ?_ hR (fun hR => ?_)
              rotate_left
              · intro w; go_simp; (first | done | (with_reducible rfl) | (refine (if_pos ?_).trans ?_; (focus omega); with_reducible rfl) | skip)
              (simp only [Act.put, List.setIfInBounds_toArray, List.set_cons_zero, List.set_cons_succ])
              refine takeE_load (i := 3) [7] rfl (by exact rfl) (by kernel_rfl) (fun _ _ _ h => h) (by decide) rfl (fun w hS => by (first | ((with_reducible apply St.cellI hS); (focus repeat constructor); exact rfl) | assumption)) (by kernel_rfl) hR (fun hR => ?_)
              (simp only [Act.put, List.setIfInBounds_toArray, List.set_cons_zero, List.set_cons_succ])
              refine takeP_val (i := 4) ?_ rfl (by exact rfl) (by kernel_rfl) (fun _ _ _ h => h) ?_ hR (fun hR => ?_)
              rotate_left
              · intro w; go_simp; (first | done | (with_reducible rfl) | (refine (if_pos ?_).trans ?_; (focus omega); with_reducible rfl) | skip)
              (simp only [Act.put, List.setIfInBounds_toArray, List.set_cons_zero, List.set_cons_succ])
              refine takeE_load (i := 5) [7] rfl (by exact rfl) (by kernel_rfl) (fun _ _ _ h => h) (by decide) rfl (fun w hS => by (first | ((with_reducible apply St.cellI hS); (focus repeat constructor); exact rfl) | assumption)) (by kernel_rfl) hR (fun hR => ?_)
              (simp only [Act.put, List.setIfInBounds_toArray, List.set_cons_zero, List.set_cons_succ])
              refine takeE_loadN (i := 6) [7] rfl (by exact rfl) (by kernel_rfl) (fun _ _ _ h => h) (by decide) rfl (fun w hS => by (first | exact Hp.range hS 0 rfl _ 7 | exact Hp.range hS 1 rfl _ 7 | exact Hp.range hS 2 rfl _ 7 | exact Hp.range hS 3 rfl _ 7 | exact Hp.range hS 4 rfl _ 7 | exact Hp.range hS 5 rfl _ 7 | exact Hp.range hS 6 rfl _ 7 | exact Hp.range hS 7 rfl _ 7 | exact Hp.range hS 8 rfl _ 7 | exact Hp.range hS 9 rfl _ 7)) (by kernel_rfl) (by kernel_rfl) hR (fun hR => ?_)
              (simp only [Act.put, List.setIfInBounds_toArray, List.set_cons_zero, List.set_cons_succ])
              (try simp only [List.drop_zero, List.drop_succ_cons, List.take_succ_cons, List.take_zero])
              refine oneE (i := 7) (by kernel_rfl) rfl (by exact rfl) (fun K_ hK_ => ?_)
              ((with_reducible apply opA_update_old hS 5); exact rfl; exact rfl; exact rfl; exact rfl; exact Try.underlying55; exact Try.underlying3; exact rfl; exact HJ2.out; intro wx hS; (try simp only [Act.eval, Array.getD_eq_getD_getElem?, List.getElem?_toArray, List.getElem?_cons_succ, List.getElem?_cons_zero, Option.getD_some, List.set_cons_succ, List.set_cons_zero, Value.cells, List.toList_toArray] at hS))
              refine hK_ _ _ (fun h => by cases h) ?_; clear hK_ K_
              (simp only [Act.put, List.setIfInBounds_toArray, List.set_cons_zero, List.set_cons_succ])
              refine wpAnyR_done (by kernel_rfl) ?_ _
              go_wp2_with (first | ((with_reducible show WGd ..); (with_reducible apply wpA_guard); exact rfl; skip) | ((with_reducible show WLd ..); (with_reducible apply wpA_loadN (t := 30)); exact rfl; ((with_reducible apply Hp.rangeI hS (n := 7)); (focus repeat constructor)); kernel_rfl; kernel_rfl; (try simp only [Act.put, List.setIfInBounds_toArray, List.set_cons_zero, List.set_cons_succ])) | ((first | ((with_reducible show WAl ..); (with_reducible apply wpA_alloc (t := 30) hS (v := .agg #[.int .i64 0, .int .i64 0, .int .i64 0, .int .i64 0, .int .i64 0, .string ⟨#[]⟩, .int .i64 0])); kernel_rfl; exact rfl; intro _ wx hS) | ((with_reducible show WBs ..); (with_reducible apply wpA_oneN hS (z := .agg #[.int .i64 0, .int .i64 0, .int .i64 0, .int .i64 0, .int .i64 0, .string ⟨#[]⟩, .int .i64 0]) (bytes := 64) (size := 7)); exact Try.underlying26; kernel_rfl; exact rfl; exact rfl; exact rfl; exact (by decide); exact (by decide); intro _ wx hS) | ((with_reducible show WBx ..); (with_reducible apply wpA_box hS); exact rfl; exact rfl; intro _ wx hS)); (try simp only [Act.put, List.setIfInBounds_toArray, List.set_cons_zero, List.set_cons_succ]); (try simp only [Act.eval, Array.getD_eq_getD_getElem?, List.getElem?_toArray, List.getElem?_cons_succ, List.getElem?_cons_zero, Option.getD_some, List.set_cons_succ, List.set_cons_zero, Value.cells, List.toList_toArray] at hS)) | ((with_reducible show WAp ..); (with_reducible apply wpA_appendI hS (e := 30) (z := .agg #[.int .i64 0, .int .i64 0, .int .i64 0, .int .i64 0, .int .i64 0, .string ⟨#[]⟩, .int .i64 0]) (size := 7) (bytes := 64)); exact rfl; exact rfl; exact Try.underlying26; (focus repeat constructor); exact .inr Try.underlying26; kernel_rfl; exact rfl; exact (Src.freshN (m := 1) hS 0 rfl rfl (by rfl)); exact (by unfold maxLen; omega); exact (by omega); intro _ _ wx hS; (try simp only [Act.put, List.setIfInBounds_toArray, List.set_cons_zero, List.set_cons_succ])) | ((with_reducible show WSt ..); (with_reducible apply wpA_storeI hS); exact rfl; (focus repeat constructor); exact rfl; exact rfl; exact rfl; exact (Nat.le_of_ble_eq_true rfl); kernel_rfl; intro wx hS; (try simp only [Act.put, List.setIfInBounds_toArray, List.set_cons_zero, List.set_cons_succ]); (try simp only [Act.eval, Array.getD_eq_getD_getElem?, List.getElem?_toArray, List.getElem?_cons_succ, List.getElem?_cons_zero, Option.getD_some, List.set_cons_succ, List.set_cons_zero, Value.cells, List.toList_toArray] at hS); (try simp only [List.take_zero, List.take_succ_cons, List.nil_append, List.cons_append, List.length_cons, List.length_nil, Nat.reduceAdd, Nat.zero_add, List.drop_succ_cons, List.drop_zero, List.drop_nil, List.append_nil] at hS)) | ((with_reducible show WLd ..); (with_reducible apply wpA_load); exact rfl; (first | ((with_reducible apply St.cellI hS); (focus repeat constructor); exact rfl) | assumption); kernel_rfl) | ((with_reducible show WSt ..); (with_reducible apply wpA_store1I hS); exact rfl; (focus repeat constructor); exact rfl; exact rfl; exact rfl; exact rfl; kernel_rfl; intro wx hS; (try simp only [Act.put, List.setIfInBounds_toArray, List.set_cons_zero, List.set_cons_succ]); (try simp only [Act.eval, Array.getD_eq_getD_getElem?, List.getElem?_toArray, List.getElem?_cons_succ, List.getElem?_cons_zero, Option.getD_some, List.set_cons_succ, List.set_cons_zero, Value.cells, List.toList_toArray] at hS)))
              rw [show (B0.map kvB).set q (Value.int .i64 es_, Value.agg #[.int .i64 es_, .int .i64 eb, .int .i64 ek, .int .i64 ee, .int .i64 eq_, .string en, .int .i64 e5]) = (B0.set q ⟨es_, eb, ⟨ek, ee, eq_, en, e5⟩⟩).map kvB by rw [List.map_set]; rfl] at hS
              go_roundw
              case rel => exact ⟨i + 1, by omega, by go_num, by rw [HT.out, HK.out]; exact hS.tail.tail⟩
              case measure => simp [intOf]; omega
            · have hd2 : decide (xb < eb) = false := by simpa using h2
              have HK := Lib.hid (keepD_less (best := B0) (e := ⟨es_, eb, ⟨ek, ee, eq_, en, e5⟩⟩) h1 hx hq h2)
              clear hx hq hqs
              go_upto_region 7 with (first | ((with_reducible show WGd ..); (with_reducible apply wpA_guard); exact rfl; skip) | ((with_reducible show WLd ..); (with_reducible apply wpA_loadN (t := 30)); exact rfl; exact HEL.out; kernel_rfl; kernel_rfl; (try simp only [Act.put, List.setIfInBounds_toArray, List.set_cons_zero, List.set_cons_succ])) | ((with_reducible show WLd ..); (with_reducible apply wpA_loadN (t := 30)); exact rfl; ((with_reducible apply Hp.rangeI hS (n := 7)); (focus repeat constructor)); kernel_rfl; kernel_rfl; (try simp only [Act.put, List.setIfInBounds_toArray, List.set_cons_zero, List.set_cons_succ])) | ((first | ((with_reducible show WAl ..); (with_reducible apply wpA_alloc (t := 30) hS (v := .agg #[.int .i64 0, .int .i64 0, .int .i64 0, .int .i64 0, .int .i64 0, .string ⟨#[]⟩, .int .i64 0])); kernel_rfl; exact rfl; intro _ wx hS) | ((with_reducible show WBs ..); (with_reducible apply wpA_oneN hS (z := .agg #[.int .i64 0, .int .i64 0, .int .i64 0, .int .i64 0, .int .i64 0, .string ⟨#[]⟩, .int .i64 0]) (bytes := 64) (size := 7)); exact Try.underlying26; kernel_rfl; exact rfl; exact rfl; exact rfl; exact (by decide); exact (by decide); intro _ wx hS) | ((with_reducible show WBx ..); (with_reducible apply wpA_box hS); exact rfl; exact rfl; intro _ wx hS)); (try simp only [Act.put, List.setIfInBounds_toArray, List.set_cons_zero, List.set_cons_succ]); (try simp only [Act.eval, Array.getD_eq_getD_getElem?, List.getElem?_toArray, List.getElem?_cons_succ, List.getElem?_cons_zero, Option.getD_some, List.set_cons_succ, List.set_cons_zero, Value.cells, List.toList_toArray] at hS)) | ((with_reducible show WAp ..); (with_reducible apply wpA_appendI hS (e := 30) (z := .agg #[.int .i64 0, .int .i64 0, .int .i64 0, .int .i64 0, .int .i64 0, .string ⟨#[]⟩, .int .i64 0]) (size := 7) (bytes := 64)); exact rfl; exact rfl; exact Try.underlying26; (focus repeat constructor); exact .inr Try.underlying26; kernel_rfl; exact rfl; exact (Src.freshN (m := 1) hS 0 rfl rfl (by rfl)); exact (by unfold maxLen; omega); exact (by omega); intro _ _ wx hS; (try simp only [Act.put, List.setIfInBounds_toArray, List.set_cons_zero, List.set_cons_succ])) | ((with_reducible show WSt ..); (with_reducible apply wpA_storeI hS); exact rfl; (focus repeat constructor); exact rfl; exact rfl; exact rfl; exact (Nat.le_of_ble_eq_true rfl); kernel_rfl; intro wx hS; (try simp only [Act.put, List.setIfInBounds_toArray, List.set_cons_zero, List.set_cons_succ]); (try simp only [Act.eval, Array.getD_eq_getD_getElem?, List.getElem?_toArray, List.getElem?_cons_succ, List.getElem?_cons_zero, Option.getD_some, List.set_cons_succ, List.set_cons_zero, Value.cells, List.toList_toArray] at hS); (try simp only [List.take_zero, List.take_succ_cons, List.nil_append, List.cons_append, List.length_cons, List.length_nil, Nat.reduceAdd, Nat.zero_add, List.drop_succ_cons, List.drop_zero, List.drop_nil, List.append_nil] at hS)) | ((with_reducible show WLd ..); (with_reducible apply wpA_load); exact rfl; (first | ((with_reducible apply St.cellI hS); (focus repeat constructor); exact rfl) | assumption); kernel_rfl) | ((with_reducible show WSt ..); (with_reducible apply wpA_store1I hS); exact rfl; (focus repeat constructor); exact rfl; exact rfl; exact rfl; exact rfl; kernel_rfl; intro wx hS; (try simp only [Act.put, List.setIfInBounds_toArray, List.set_cons_zero, List.set_cons_succ]); (try simp only [Act.eval, Array.getD_eq_getD_getElem?, List.getElem?_toArray, List.getElem?_cons_succ, List.getElem?_cons_zero, Option.getD_some, List.set_cons_succ, List.set_cons_zero, Value.cells, List.toList_toArray] at hS)))
              refine wp_region_A hS (by kernel_rfl) (fun _ hR hS => ?_)
              simp only [List.length_cons, List.length_nil, Nat.reduceAdd]
              refine takeA_load (i := 0) [] rfl (by exact rfl) (by kernel_rfl) (fun _ _ _ h => h) (by decide) rfl (fun w hS => by (first | ((with_reducible apply St.cellI hS); (focus repeat constructor); exact rfl) | assumption)) (by kernel_rfl) hR (fun hR => ?_)
              (simp only [Act.put, List.setIfInBounds_toArray, List.set_cons_zero, List.set_cons_succ])
              refine takeAP_val (i := 1) ?_ rfl (by exact rfl) (by kernel_rfl) (fun _ _ _ h => h) ?_ hR (fun hR => ?_)
              rotate_left
              · intro w; go_simp; (first | done | (with_reducible rfl) | (refine (if_pos ?_).trans ?_; (focus omega); with_reducible rfl) | skip)
              (simp only [Act.put, List.setIfInBounds_toArray, List.set_cons_zero, List.set_cons_succ])
              refine takeAP_val (i := 2) ?_ rfl (by exact rfl) (by kernel_rfl) (fun _ _ _ h => h) ?_ hR (fun hR => ?_)
              rotate_left
              · intro w; go_simp; (first | done | (with_reducible rfl) | (refine (if_pos ?_).trans ?_; (focus omega); with_reducible rfl) | skip)
              (simp only [Act.put, List.setIfInBounds_toArray, List.set_cons_zero, List.set_cons_succ])
              refine takeA_load (i := 3) [] rfl (by exact rfl) (by kernel_rfl) (fun _ _ _ h => h) (by decide) rfl (fun w hS => by (first | ((with_reducible apply St.cellI hS); (focus repeat constructor); exact rfl) | assumption)) (by kernel_rfl) hR (fun hR => ?_)
              (simp only [Act.put, List.setIfInBounds_toArray, List.set_cons_zero, List.set_cons_succ])
              refine takeAP_val (i := 4) ?_ rfl (by exact rfl) (by kernel_rfl) (fun _ _ _ h => h) ?_ hR (fun hR => ?_)
              rotate_left
              · intro w; go_simp; (first | done | (with_reducible rfl) | (refine (if_pos ?_).trans ?_; (focus omega); with_reducible rfl) | skip)
              (simp only [Act.put, List.setIfInBounds_toArray, List.set_cons_zero, List.set_cons_succ])
              refine takeA_load (i := 5) [] rfl (by exact rfl) (by kernel_rfl) (fun _ _ _ h => h) (by decide) rfl (fun w hS => by (first | ((with_reducible apply St.cellI hS); (focus repeat constructor); exact rfl) | assumption)) (by kernel_rfl) hR (fun hR => ?_)
              (simp only [Act.put, List.setIfInBounds_toArray, List.set_cons_zero, List.set_cons_succ])
              refine takeA_lookup (i := 6) [] 4 rfl (by exact rfl) (by kernel_rfl) (z := .agg #[.int .i64 0, .int .i64 0, .int .i64 0, .int .i64 0, .int .i64 0, .string ⟨#[]⟩, .int .i64 0]) (some (.agg #[.int .i64 xs, .int .i64 xb, .int .i64 xk, .int .i64 xe, .int .i64 xq, .string xn, .int .i64 x5])) (fun _ _ _ h => h) (by decide) rfl rfl rfl Try.underlying55 Try.underlying3 rfl (by kernel_rfl) HJ.out hR (fun hR => ?_)
              dsimp only [Option.getD, Option.isSome, if_true, Bool.false_eq_true, if_false]
              (simp only [Act.put, List.setIfInBounds_toArray, List.set_cons_zero, List.set_cons_succ])
              refine takeAP_val (i := 7) ?_ rfl (by exact rfl) (by kernel_rfl) (fun _ _ _ h => h) ?_ hR (fun hR => ?_)
              rotate_left
              · intro w; go_simp; (first | done | (with_reducible rfl) | (refine (if_pos ?_).trans ?_; (focus omega); with_reducible rfl) | skip)
              (simp only [Act.put, List.setIfInBounds_toArray, List.set_cons_zero, List.set_cons_succ])
              refine takeAP_val (i := 8) ?_ rfl (by exact rfl) (by kernel_rfl) (fun _ _ _ h => h) ?_ hR (fun hR => ?_)
              rotate_left
              · intro w; go_simp; (first | done | (with_reducible rfl) | (refine (if_pos ?_).trans ?_; (focus omega); with_reducible rfl) | skip)
              (simp only [Act.put, List.setIfInBounds_toArray, List.set_cons_zero, List.set_cons_succ])
              refine takeAP_val (i := 9) ?_ rfl (by exact rfl) (by kernel_rfl) (fun _ _ _ h => h) ?_ hR (fun hR => ?_)
              rotate_left
              · intro w; go_simp; (first | done | (with_reducible rfl) | (refine (if_pos ?_).trans ?_; (focus omega); with_reducible rfl) | skip)
              (simp only [Act.put, List.setIfInBounds_toArray, List.set_cons_zero, List.set_cons_succ])
              refine oneA (i := 10) (by kernel_rfl) rfl (by exact rfl) (fun K_ hK_ => ?_)
              ((with_reducible apply opA_alloc (t := 30) hS (v := .agg #[.int .i64 0, .int .i64 0, .int .i64 0, .int .i64 0, .int .i64 0, .string ⟨#[]⟩, .int .i64 0])); kernel_rfl; exact rfl; intro _ wx hS; (try simp only [Act.eval, Array.getD_eq_getD_getElem?, List.getElem?_toArray, List.getElem?_cons_succ, List.getElem?_cons_zero, Option.getD_some, List.set_cons_succ, List.set_cons_zero, Value.cells, List.toList_toArray] at hS))
              refine hK_ _ _ (id (hS.tail)) ?_; clear hK_ K_
              (simp only [Act.put, List.setIfInBounds_toArray, List.set_cons_zero, List.set_cons_succ])
              refine oneA (i := 11) (by kernel_rfl) rfl (by exact rfl) (fun K_ hK_ => ?_)
              ((with_reducible apply opA_storeI hS); exact rfl; (focus repeat constructor); exact rfl; exact rfl; exact rfl; exact (Nat.le_of_ble_eq_true rfl); kernel_rfl; intro wx hS; (try simp only [Act.eval, Array.getD_eq_getD_getElem?, List.getElem?_toArray, List.getElem?_cons_succ, List.getElem?_cons_zero, Option.getD_some, List.set_cons_succ, List.set_cons_zero, Value.cells, List.toList_toArray] at hS); (try simp only [List.take_zero, List.take_succ_cons, List.nil_append, List.cons_append, List.length_cons, List.length_nil, Nat.reduceAdd, Nat.zero_add, List.drop_succ_cons, List.drop_zero, List.drop_nil, List.append_nil] at hS))
              refine hK_ _ _ (id (hS.tail)) ?_; clear hK_ K_
              (simp only [Act.put, List.setIfInBounds_toArray, List.set_cons_zero, List.set_cons_succ])
              refine takeAP_val (i := 12) ?_ rfl (by exact rfl) (by kernel_rfl) (fun _ _ _ h => h) ?_ (id hS.tail) (fun hR => ?_)
              rotate_left
              · intro w; go_simp; (first | done | (with_reducible rfl) | (refine (if_pos ?_).trans ?_; (focus omega); with_reducible rfl) | skip)
              (simp only [Act.put, List.setIfInBounds_toArray, List.set_cons_zero, List.set_cons_succ])
              refine wpAnyR_done (by kernel_rfl) ?_ _
              go_wp2_with (first | ((with_reducible show WGd ..); (with_reducible apply wpA_guard); exact rfl; skip) | ((with_reducible show WLd ..); (with_reducible apply wpA_loadN (t := 30)); exact rfl; ((with_reducible apply Hp.rangeI hS (n := 7)); (focus repeat constructor)); kernel_rfl; kernel_rfl; (try simp only [Act.put, List.setIfInBounds_toArray, List.set_cons_zero, List.set_cons_succ])) | ((first | ((with_reducible show WAl ..); (with_reducible apply wpA_alloc (t := 30) hS (v := .agg #[.int .i64 0, .int .i64 0, .int .i64 0, .int .i64 0, .int .i64 0, .string ⟨#[]⟩, .int .i64 0])); kernel_rfl; exact rfl; intro _ wx hS) | ((with_reducible show WBs ..); (with_reducible apply wpA_oneN hS (z := .agg #[.int .i64 0, .int .i64 0, .int .i64 0, .int .i64 0, .int .i64 0, .string ⟨#[]⟩, .int .i64 0]) (bytes := 64) (size := 7)); exact Try.underlying26; kernel_rfl; exact rfl; exact rfl; exact rfl; exact (by decide); exact (by decide); intro _ wx hS) | ((with_reducible show WBx ..); (with_reducible apply wpA_box hS); exact rfl; exact rfl; intro _ wx hS)); (try simp only [Act.put, List.setIfInBounds_toArray, List.set_cons_zero, List.set_cons_succ]); (try simp only [Act.eval, Array.getD_eq_getD_getElem?, List.getElem?_toArray, List.getElem?_cons_succ, List.getElem?_cons_zero, Option.getD_some, List.set_cons_succ, List.set_cons_zero, Value.cells, List.toList_toArray] at hS)) | ((with_reducible show WAp ..); (with_reducible apply wpA_appendI hS (e := 30) (z := .agg #[.int .i64 0, .int .i64 0, .int .i64 0, .int .i64 0, .int .i64 0, .string ⟨#[]⟩, .int .i64 0]) (size := 7) (bytes := 64)); exact rfl; exact rfl; exact Try.underlying26; (focus repeat constructor); exact .inr Try.underlying26; kernel_rfl; exact rfl; exact (Src.freshN (m := 1) hS 0 rfl rfl (by rfl)); exact (by unfold maxLen; omega); exact (by omega); intro _ _ wx hS; (try simp only [Act.put, List.setIfInBounds_toArray, List.set_cons_zero, List.set_cons_succ])) | ((with_reducible show WSt ..); (with_reducible apply wpA_storeI hS); exact rfl; (focus repeat constructor); exact rfl; exact rfl; exact rfl; exact (Nat.le_of_ble_eq_true rfl); kernel_rfl; intro wx hS; (try simp only [Act.put, List.setIfInBounds_toArray, List.set_cons_zero, List.set_cons_succ]); (try simp only [Act.eval, Array.getD_eq_getD_getElem?, List.getElem?_toArray, List.getElem?_cons_succ, List.getElem?_cons_zero, Option.getD_some, List.set_cons_succ, List.set_cons_zero, Value.cells, List.toList_toArray] at hS); (try simp only [List.take_zero, List.take_succ_cons, List.nil_append, List.cons_append, List.length_cons, List.length_nil, Nat.reduceAdd, Nat.zero_add, List.drop_succ_cons, List.drop_zero, List.drop_nil, List.append_nil] at hS)) | ((with_reducible show WLd ..); (with_reducible apply wpA_load); exact rfl; (first | ((with_reducible apply St.cellI hS); (focus repeat constructor); exact rfl) | assumption); kernel_rfl) | ((with_reducible show WSt ..); (with_reducible apply wpA_store1I hS); exact rfl; (focus repeat constructor); exact rfl; exact rfl; exact rfl; exact rfl; kernel_rfl; intro wx hS; (try simp only [Act.put, List.setIfInBounds_toArray, List.set_cons_zero, List.set_cons_succ]); (try simp only [Act.eval, Array.getD_eq_getD_getElem?, List.getElem?_toArray, List.getElem?_cons_succ, List.getElem?_cons_zero, Option.getD_some, List.set_cons_succ, List.set_cons_zero, Value.cells, List.toList_toArray] at hS)))
              refine wp_region_St hS (by kernel_rfl) (by kernel_rfl) (Bx.out ?_)
              refine bQ_val ?_ rfl ?_ ?_
              rotate_left
              · intro w hS; go_simp; (first | done | (with_reducible rfl) | (refine (if_pos ?_).trans ?_; (focus omega); with_reducible rfl) | skip)
              (simp only [Act.put, List.setIfInBounds_toArray, List.set_cons_zero, List.set_cons_succ])
              refine bQ_load rfl (fun w hS => by (first | ((with_reducible apply St.cellI hS); (focus repeat constructor); exact rfl) | assumption)) (by kernel_rfl) ?_
              (simp only [Act.put, List.setIfInBounds_toArray, List.set_cons_zero, List.set_cons_succ])
              refine bQ_load rfl (fun w hS => by (first | ((with_reducible apply St.cellI hS); (focus repeat constructor); exact rfl) | assumption)) (by kernel_rfl) ?_
              (simp only [Act.put, List.setIfInBounds_toArray, List.set_cons_zero, List.set_cons_succ])
              refine bQ_val ?_ rfl ?_ ?_
              rotate_left
              · intro w hS; go_simp; (first | done | (with_reducible rfl) | (refine (if_pos ?_).trans ?_; (focus omega); with_reducible rfl) | skip)
              (simp only [Act.put, List.setIfInBounds_toArray, List.set_cons_zero, List.set_cons_succ])
              refine bQ_val ?_ rfl ?_ ?_
              rotate_left
              · intro w hS; go_simp; (first | done | (with_reducible rfl) | (refine (if_pos ?_).trans ?_; (focus omega); with_reducible rfl) | skip)
              (simp only [Act.put, List.setIfInBounds_toArray, List.set_cons_zero, List.set_cons_succ])
              refine bQ_load rfl (fun w hS => by (first | ((with_reducible apply St.cellI hS); (focus repeat constructor); exact rfl) | assumption)) (by kernel_rfl) ?_
              (simp only [Act.put, List.setIfInBounds_toArray, List.set_cons_zero, List.set_cons_succ])
              refine bQ_val (.bool true) rfl (fun w hS => by go_simp; (first | done | simp [*] | omega)) ?_
              (simp only [Act.put, List.setIfInBounds_toArray, List.set_cons_zero, List.set_cons_succ])
              refine bQ_val ?_ rfl ?_ ?_
              rotate_left
              · intro w hS; go_simp; (first | done | (with_reducible rfl) | (refine (if_pos ?_).trans ?_; (focus omega); with_reducible rfl) | skip)
              (simp only [Act.put, List.setIfInBounds_toArray, List.set_cons_zero, List.set_cons_succ])
              refine bQ_guard (by exact rfl) ?_
              refine bQ_val ?_ rfl ?_ ?_
              rotate_left
              · intro w hS; go_simp; (first | done | (with_reducible rfl) | (refine (if_pos ?_).trans ?_; (focus omega); with_reducible rfl) | skip)
              (simp only [Act.put, List.setIfInBounds_toArray, List.set_cons_zero, List.set_cons_succ])
              refine bQ_guard (by exact rfl) ?_
              refine bQ_val ?_ rfl ?_ ?_
              rotate_left
              · intro w hS; go_simp; (first | done | (with_reducible rfl) | (refine (if_pos ?_).trans ?_; (focus omega); with_reducible rfl) | skip)
              (simp only [Act.put, List.setIfInBounds_toArray, List.set_cons_zero, List.set_cons_succ])
              refine bQ_guard (by exact rfl) ?_
              refine bQ_val ?_ rfl ?_ ?_
              rotate_left
              · intro w hS; go_simp; (first | done | (with_reducible rfl) | (refine (if_pos ?_).trans ?_; (focus omega); with_reducible rfl) | skip)
              (simp only [Act.put, List.setIfInBounds_toArray, List.set_cons_zero, List.set_cons_succ])
              refine bQ_guard (by exact rfl) ?_
              refine bQ_val ?_ rfl ?_ ?_
              rotate_left
              · intro w hS; go_simp; (first | done | (with_reducible rfl) | (refine (if_pos ?_).trans ?_; (focus omega); with_reducible rfl) | skip)
              (simp only [Act.put, List.setIfInBounds_toArray, List.set_cons_zero, List.set_cons_succ])
              refine bQ_guard (by exact rfl) ?_
              refine bQ_load rfl (fun w hS => by (first | ((with_reducible apply St.cellI hS); (focus repeat constructor); exact rfl) | assumption)) (by kernel_rfl) ?_
              (simp only [Act.put, List.setIfInBounds_toArray, List.set_cons_zero, List.set_cons_succ])
              refine bQ_guard (by exact rfl) ?_
              refine bQ_val ?_ rfl ?_ ?_
              rotate_left
              · intro w hS; go_simp; (first | done | (with_reducible rfl) | (refine (if_pos ?_).trans ?_; (focus omega); with_reducible rfl) | skip)
              (simp only [Act.put, List.setIfInBounds_toArray, List.set_cons_zero, List.set_cons_succ])
              refine bQ_guard (by exact rfl) ?_
              refine bQ_load rfl (fun w hS => by (first | ((with_reducible apply St.cellI hS); (focus repeat constructor); exact rfl) | assumption)) (by kernel_rfl) ?_
              (simp only [Act.put, List.setIfInBounds_toArray, List.set_cons_zero, List.set_cons_succ])
              refine bQ_guard (by exact rfl) ?_
              refine bQ_val (.bool false) rfl (fun w hS => by go_simp; (first | done | simp [*] | omega)) ?_
              (simp only [Act.put, List.setIfInBounds_toArray, List.set_cons_zero, List.set_cons_succ])
              refine bQ_guard (by exact rfl) ?_
              refine bQ_val ?_ rfl ?_ ?_
              rotate_left
              · intro w hS; go_simp; (first | done | (with_reducible rfl) | (refine (if_pos ?_).trans ?_; (focus omega); with_reducible rfl) | skip)
              (simp only [Act.put, List.setIfInBounds_toArray, List.set_cons_zero, List.set_cons_succ])
              refine bQ_val ?_ rfl ?_ ?_
              rotate_left
              · intro w hS; go_simp; (first | done | (with_reducible rfl) | (refine (if_pos ?_).trans ?_; (focus omega); with_reducible rfl) | skip)
              (simp only [Act.put, List.setIfInBounds_toArray, List.set_cons_zero, List.set_cons_succ])
              refine ⟨wpQuiet_nil ?_⟩
              intro wx hS
              go_wp2_with (first | ((with_reducible show WGd ..); (with_reducible apply wpA_guard); exact rfl; skip) | ((with_reducible show WLd ..); (with_reducible apply wpA_loadN (t := 30)); exact rfl; ((with_reducible apply Hp.rangeI hS (n := 7)); (focus repeat constructor)); kernel_rfl; kernel_rfl; (try simp only [Act.put, List.setIfInBounds_toArray, List.set_cons_zero, List.set_cons_succ])) | ((first | ((with_reducible show WAl ..); (with_reducible apply wpA_alloc (t := 30) hS (v := .agg #[.int .i64 0, .int .i64 0, .int .i64 0, .int .i64 0, .int .i64 0, .string ⟨#[]⟩, .int .i64 0])); kernel_rfl; exact rfl; intro _ wx hS) | ((with_reducible show WBs ..); (with_reducible apply wpA_oneN hS (z := .agg #[.int .i64 0, .int .i64 0, .int .i64 0, .int .i64 0, .int .i64 0, .string ⟨#[]⟩, .int .i64 0]) (bytes := 64) (size := 7)); exact Try.underlying26; kernel_rfl; exact rfl; exact rfl; exact rfl; exact (by decide); exact (by decide); intro _ wx hS) | ((with_reducible show WBx ..); (with_reducible apply wpA_box hS); exact rfl; exact rfl; intro _ wx hS)); (try simp only [Act.put, List.setIfInBounds_toArray, List.set_cons_zero, List.set_cons_succ]); (try simp only [Act.eval, Array.getD_eq_getD_getElem?, List.getElem?_toArray, List.getElem?_cons_succ, List.getElem?_cons_zero, Option.getD_some, List.set_cons_succ, List.set_cons_zero, Value.cells, List.toList_toArray] at hS)) | ((with_reducible show WAp ..); (with_reducible apply wpA_appendI hS (e := 30) (z := .agg #[.int .i64 0, .int .i64 0, .int .i64 0, .int .i64 0, .int .i64 0, .string ⟨#[]⟩, .int .i64 0]) (size := 7) (bytes := 64)); exact rfl; exact rfl; exact Try.underlying26; (focus repeat constructor); exact .inr Try.underlying26; kernel_rfl; exact rfl; exact (Src.freshN (m := 1) hS 0 rfl rfl (by rfl)); exact (by unfold maxLen; omega); exact (by omega); intro _ _ wx hS; (try simp only [Act.put, List.setIfInBounds_toArray, List.set_cons_zero, List.set_cons_succ])) | ((with_reducible show WSt ..); (with_reducible apply wpA_storeI hS); exact rfl; (focus repeat constructor); exact rfl; exact rfl; exact rfl; exact (Nat.le_of_ble_eq_true rfl); kernel_rfl; intro wx hS; (try simp only [Act.put, List.setIfInBounds_toArray, List.set_cons_zero, List.set_cons_succ]); (try simp only [Act.eval, Array.getD_eq_getD_getElem?, List.getElem?_toArray, List.getElem?_cons_succ, List.getElem?_cons_zero, Option.getD_some, List.set_cons_succ, List.set_cons_zero, Value.cells, List.toList_toArray] at hS); (try simp only [List.take_zero, List.take_succ_cons, List.nil_append, List.cons_append, List.length_cons, List.length_nil, Nat.reduceAdd, Nat.zero_add, List.drop_succ_cons, List.drop_zero, List.drop_nil, List.append_nil] at hS)) | ((with_reducible show WLd ..); (with_reducible apply wpA_load); exact rfl; (first | ((with_reducible apply St.cellI hS); (focus repeat constructor); exact rfl) | assumption); kernel_rfl) | ((with_reducible show WSt ..); (with_reducible apply wpA_store1I hS); exact rfl; (focus repeat constructor); exact rfl; exact rfl; exact rfl; exact rfl; kernel_rfl; intro wx hS; (try simp only [Act.put, List.setIfInBounds_toArray, List.set_cons_zero, List.set_cons_succ]); (try simp only [Act.eval, Array.getD_eq_getD_getElem?, List.getElem?_toArray, List.getElem?_cons_succ, List.getElem?_cons_zero, Option.getD_some, List.set_cons_succ, List.set_cons_zero, Value.cells, List.toList_toArray] at hS)))
              go_roundw
              case rel => exact ⟨i + 1, by omega, by go_num, by rw [HT.out, HK.out]; exact hS.tail.tail⟩
              case measure => simp [intOf]; omega
      · obtain rfl : i = es.length := by omega
        rw [List.take_length] at hS
        go_wp2_with (first | ((with_reducible show WGd ..); (with_reducible apply wpA_guard); exact rfl; skip) | ((with_reducible show WLd ..); (with_reducible apply wpA_load); exact rfl; (first | ((with_reducible apply St.cellI hS); (focus repeat constructor); exact rfl) | assumption); kernel_rfl) | ((with_reducible show WSt ..); (with_reducible apply wpA_store1I hS); exact rfl; (focus repeat constructor); exact rfl; exact rfl; exact rfl; exact rfl; kernel_rfl; intro wx hS; (try simp only [Act.put, List.setIfInBounds_toArray, List.set_cons_zero, List.set_cons_succ]); (try simp only [Act.eval, Array.getD_eq_getD_getElem?, List.getElem?_toArray, List.getElem?_cons_succ, List.getElem?_cons_zero, Option.getD_some, List.set_cons_succ, List.set_cons_zero, Value.cells, List.toList_toArray] at hS)) | ((with_reducible show WBx ..); (with_reducible apply wpA_box hS); exact rfl; exact rfl; intro _ wx hS; (try simp only [Act.put, List.setIfInBounds_toArray, List.set_cons_zero, List.set_cons_succ]); (try simp only [Act.eval, Array.getD_eq_getD_getElem?, List.getElem?_toArray, List.getElem?_cons_succ, List.getElem?_cons_zero, Option.getD_some, List.set_cons_succ, List.set_cons_zero, Value.cells, List.toList_toArray] at hS)))
        go_meet
        exact hS
  case rest =>
    clear hS
    have hS := hcut
    clear hcut
    obtain ⟨B, hB⟩ : ∃ B, es.foldl (keepD frm) best = B := ⟨_, rfl⟩
    rw [hB] at hS
    simp only [hB] at hlast hbl
    have HBE := Lib.hid hB
    clear hB
    simp only [pst] at hS
    by_cases hm : ((who ++ [k]).length : Int) < majD n
    · have hmd : decide (((who ++ [k]).length : Int) < majD n) = true := by simpa using hm
      go_upto_region 11 with (first | ((with_reducible show WGd ..); (with_reducible apply wpA_guard); exact rfl; skip) | ((with_reducible show WLd ..); (with_reducible apply wpA_loadN (t := 30)); exact rfl; ((with_reducible apply Hp.rangeI hS (n := 7)); (focus repeat constructor)); kernel_rfl; kernel_rfl; (try simp only [Act.put, List.setIfInBounds_toArray, List.set_cons_zero, List.set_cons_succ])) | ((first | ((with_reducible show WAl ..); (with_reducible apply wpA_alloc (t := 30) hS (v := .agg #[.int .i64 0, .int .i64 0, .int .i64 0, .int .i64 0, .int .i64 0, .string ⟨#[]⟩, .int .i64 0])); kernel_rfl; exact rfl; intro _ wx hS) | ((with_reducible show WBs ..); (with_reducible apply wpA_oneN hS (z := .agg #[.int .i64 0, .int .i64 0, .int .i64 0, .int .i64 0, .int .i64 0, .string ⟨#[]⟩, .int .i64 0]) (bytes := 64) (size := 7)); exact Try.underlying26; kernel_rfl; exact rfl; exact rfl; exact rfl; exact (by decide); exact (by decide); intro _ wx hS) | ((with_reducible show WBx ..); (with_reducible apply wpA_box hS); exact rfl; exact rfl; intro _ wx hS)); (try simp only [Act.put, List.setIfInBounds_toArray, List.set_cons_zero, List.set_cons_succ]); (try simp only [Act.eval, Array.getD_eq_getD_getElem?, List.getElem?_toArray, List.getElem?_cons_succ, List.getElem?_cons_zero, Option.getD_some, List.set_cons_succ, List.set_cons_zero, Value.cells, List.toList_toArray] at hS)) | ((with_reducible show WAp ..); (with_reducible apply wpA_appendI hS (e := 30) (z := .agg #[.int .i64 0, .int .i64 0, .int .i64 0, .int .i64 0, .int .i64 0, .string ⟨#[]⟩, .int .i64 0]) (size := 7) (bytes := 64)); exact rfl; exact rfl; exact Try.underlying26; (focus repeat constructor); exact .inr Try.underlying26; kernel_rfl; exact rfl; exact (Src.freshN (m := 1) hS 0 rfl rfl (by rfl)); exact (by unfold maxLen; omega); exact (by omega); intro _ _ wx hS; (try simp only [Act.put, List.setIfInBounds_toArray, List.set_cons_zero, List.set_cons_succ])) | ((with_reducible show WSt ..); (with_reducible apply wpA_storeI hS); exact rfl; (focus repeat constructor); exact rfl; exact rfl; exact rfl; exact (Nat.le_of_ble_eq_true rfl); kernel_rfl; intro wx hS; (try simp only [Act.put, List.setIfInBounds_toArray, List.set_cons_zero, List.set_cons_succ]); (try simp only [Act.eval, Array.getD_eq_getD_getElem?, List.getElem?_toArray, List.getElem?_cons_succ, List.getElem?_cons_zero, Option.getD_some, List.set_cons_succ, List.set_cons_zero, Value.cells, List.toList_toArray] at hS); (try simp only [List.take_zero, List.take_succ_cons, List.nil_append, List.cons_append, List.length_cons, List.length_nil, Nat.reduceAdd, Nat.zero_add, List.drop_succ_cons, List.drop_zero, List.drop_nil, List.append_nil] at hS)) | ((with_reducible show WLd ..); (with_reducible apply wpA_load); exact rfl; (first | ((with_reducible apply St.cellI hS); (focus repeat constructor); exact rfl) | assumption); kernel_rfl) | ((with_reducible show WSt ..); (with_reducible apply wpA_store1I hS); exact rfl; (focus repeat constructor); exact rfl; exact rfl; exact rfl; exact rfl; kernel_rfl; intro wx hS; (try simp only [Act.put, List.setIfInBounds_toArray, List.set_cons_zero, List.set_cons_succ]); (try simp only [Act.eval, Array.getD_eq_getD_getElem?, List.getElem?_toArray, List.getElem?_cons_succ, List.getElem?_cons_zero, Option.getD_some, List.set_cons_succ, List.set_cons_zero, Value.cells, List.toList_toArray] at hS)))
      refine wp_region_St hS (by kernel_rfl) (by kernel_rfl) (Bx.out ?_)
      refine bQ_load rfl (fun w hS => by (first | ((with_reducible apply St.cellI hS); (focus repeat constructor); exact rfl) | assumption)) (by kernel_rfl) ?_
      (simp only [Act.put, List.setIfInBounds_toArray, List.set_cons_zero, List.set_cons_succ])
      refine bQ_val ?_ rfl ?_ ?_
      rotate_left
      · intro w hS; go_simp; (first | done | (with_reducible rfl) | (refine (if_pos ?_).trans ?_; (focus omega); with_reducible rfl) | skip)
      (simp only [Act.put, List.setIfInBounds_toArray, List.set_cons_zero, List.set_cons_succ])
      refine bQ_val ?_ rfl ?_ ?_
      rotate_left
      · intro w hS; go_simp; (first | done | (with_reducible rfl) | (refine (if_pos ?_).trans ?_; (focus omega); with_reducible rfl) | skip)
      (simp only [Act.put, List.setIfInBounds_toArray, List.set_cons_zero, List.set_cons_succ])
      refine bQ_load rfl (fun w hS => by (first | ((with_reducible apply St.cellI hS); (focus repeat constructor); exact rfl) | assumption)) (by kernel_rfl) ?_
      (simp only [Act.put, List.setIfInBounds_toArray, List.set_cons_zero, List.set_cons_succ])
      refine bQ_val (.int .i64 (((who ++ [k]).length : Nat) : Int)) rfl (fun w hS => by rw [show (((who ++ [k]).length : Nat) : Int) = (((who ++ [k]).map kvW).length : Nat) by simp]; exact lenMap_val hS 2 rfl rfl Try.underlying54) ?_
      (simp only [Act.put, List.setIfInBounds_toArray, List.set_cons_zero, List.set_cons_succ])
      refine bQ_load rfl (fun w hS => by (first | ((with_reducible apply St.cellI hS); (focus repeat constructor); exact rfl) | assumption)) (by kernel_rfl) ?_
      (simp only [Act.put, List.setIfInBounds_toArray, List.set_cons_zero, List.set_cons_succ])
      refine bQ_val ?_ rfl ?_ ?_
      rotate_left
      · intro w hS; go_simp; (first | done | (with_reducible rfl) | (refine (if_pos ?_).trans ?_; (focus omega); with_reducible rfl) | skip)
      (simp only [Act.put, List.setIfInBounds_toArray, List.set_cons_zero, List.set_cons_succ])
      refine bQ_val ?_ rfl ?_ ?_
      rotate_left
      · intro w hS; go_simp; (first | done | (with_reducible rfl) | (refine (if_pos ?_).trans ?_; (focus omega); with_reducible rfl) | skip)
      (simp only [Act.put, List.setIfInBounds_toArray, List.set_cons_zero, List.set_cons_succ])
      refine bQ_load rfl (fun w hS => by (first | ((with_reducible apply St.cellI hS); (focus repeat constructor); exact rfl) | assumption)) (by kernel_rfl) ?_
      (simp only [Act.put, List.setIfInBounds_toArray, List.set_cons_zero, List.set_cons_succ])
      apply bQ_call (f := 26) Try.func26 (by kernel_rfl) (.int .i64 (majD n))
      · (try simp only [List.map_toArray, List.map_cons, List.map_nil, Act.eval, Array.getD_eq_getD_getElem?, List.getElem?_toArray, List.getElem?_cons_succ, List.getElem?_cons_zero, Option.getD_some]); exact rfl
      · intro w hS; with_reducible exact (maj_c hS n hn)
      (simp only [Act.put, List.setIfInBounds_toArray, List.set_cons_zero, List.set_cons_succ])
      refine bQ_val (.bool true) rfl (fun w hS => by go_simp; (first | done | (simp at hmd ⊢; first | done | omega | exact hmd))) ?_
      (simp only [Act.put, List.setIfInBounds_toArray, List.set_cons_zero, List.set_cons_succ])
      refine ⟨wpQuiet_nil ?_⟩
      intro wx hS
      go_wp2_with (first | ((with_reducible show WGd ..); (with_reducible apply wpA_guard); exact rfl; skip) | ((with_reducible show WLd ..); (with_reducible apply wpA_load); exact rfl; (first | ((with_reducible apply St.cellI hS); (focus repeat constructor); exact rfl) | assumption); kernel_rfl) | ((with_reducible show WSt ..); (with_reducible apply wpA_store1I hS); exact rfl; (focus repeat constructor); exact rfl; exact rfl; exact rfl; exact rfl; kernel_rfl; intro wx hS; (try simp only [Act.put, List.setIfInBounds_toArray, List.set_cons_zero, List.set_cons_succ]); (try simp only [Act.eval, Array.getD_eq_getD_getElem?, List.getElem?_toArray, List.getElem?_cons_succ, List.getElem?_cons_zero, Option.getD_some, List.set_cons_succ, List.set_cons_zero, Value.cells, List.toList_toArray] at hS)) | ((with_reducible show WBx ..); (with_reducible apply wpA_box hS); exact rfl; exact rfl; intro _ wx hS; (try simp only [Act.put, List.setIfInBounds_toArray, List.set_cons_zero, List.set_cons_succ]); (try simp only [Act.eval, Array.getD_eq_getD_getElem?, List.getElem?_toArray, List.getElem?_cons_succ, List.getElem?_cons_zero, Option.getD_some, List.set_cons_succ, List.set_cons_zero, Value.cells, List.toList_toArray] at hS)))
      refine ⟨_, results_tmp rfl _ _ _, ?_⟩
      have hres := HRES.out
      rw [if_pos hm] at hres
      subst hres
      rw [HBE.out]
      exact ⟨rfl, mw, mb, mo, va, vc, [], rfl, hS.tail⟩
    · have hmd : decide (((who ++ [k]).length : Int) < majD n) = false := by simpa using hm
      have HM := Lib.hid hm
      clear hm
      go_upto_region 11 with (first | ((with_reducible show WGd ..); (with_reducible apply wpA_guard); exact rfl; skip) | ((with_reducible show WLd ..); (with_reducible apply wpA_loadN (t := 30)); exact rfl; ((with_reducible apply Hp.rangeI hS (n := 7)); (focus repeat constructor)); kernel_rfl; kernel_rfl; (try simp only [Act.put, List.setIfInBounds_toArray, List.set_cons_zero, List.set_cons_succ])) | ((first | ((with_reducible show WAl ..); (with_reducible apply wpA_alloc (t := 30) hS (v := .agg #[.int .i64 0, .int .i64 0, .int .i64 0, .int .i64 0, .int .i64 0, .string ⟨#[]⟩, .int .i64 0])); kernel_rfl; exact rfl; intro _ wx hS) | ((with_reducible show WBs ..); (with_reducible apply wpA_oneN hS (z := .agg #[.int .i64 0, .int .i64 0, .int .i64 0, .int .i64 0, .int .i64 0, .string ⟨#[]⟩, .int .i64 0]) (bytes := 64) (size := 7)); exact Try.underlying26; kernel_rfl; exact rfl; exact rfl; exact rfl; exact (by decide); exact (by decide); intro _ wx hS) | ((with_reducible show WBx ..); (with_reducible apply wpA_box hS); exact rfl; exact rfl; intro _ wx hS)); (try simp only [Act.put, List.setIfInBounds_toArray, List.set_cons_zero, List.set_cons_succ]); (try simp only [Act.eval, Array.getD_eq_getD_getElem?, List.getElem?_toArray, List.getElem?_cons_succ, List.getElem?_cons_zero, Option.getD_some, List.set_cons_succ, List.set_cons_zero, Value.cells, List.toList_toArray] at hS)) | ((with_reducible show WAp ..); (with_reducible apply wpA_appendI hS (e := 30) (z := .agg #[.int .i64 0, .int .i64 0, .int .i64 0, .int .i64 0, .int .i64 0, .string ⟨#[]⟩, .int .i64 0]) (size := 7) (bytes := 64)); exact rfl; exact rfl; exact Try.underlying26; (focus repeat constructor); exact .inr Try.underlying26; kernel_rfl; exact rfl; exact (Src.freshN (m := 1) hS 0 rfl rfl (by rfl)); exact (by unfold maxLen; omega); exact (by omega); intro _ _ wx hS; (try simp only [Act.put, List.setIfInBounds_toArray, List.set_cons_zero, List.set_cons_succ])) | ((with_reducible show WSt ..); (with_reducible apply wpA_storeI hS); exact rfl; (focus repeat constructor); exact rfl; exact rfl; exact rfl; exact (Nat.le_of_ble_eq_true rfl); kernel_rfl; intro wx hS; (try simp only [Act.put, List.setIfInBounds_toArray, List.set_cons_zero, List.set_cons_succ]); (try simp only [Act.eval, Array.getD_eq_getD_getElem?, List.getElem?_toArray, List.getElem?_cons_succ, List.getElem?_cons_zero, Option.getD_some, List.set_cons_succ, List.set_cons_zero, Value.cells, List.toList_toArray] at hS); (try simp only [List.take_zero, List.take_succ_cons, List.nil_append, List.cons_append, List.length_cons, List.length_nil, Nat.reduceAdd, Nat.zero_add, List.drop_succ_cons, List.drop_zero, List.drop_nil, List.append_nil] at hS)) | ((with_reducible show WLd ..); (with_reducible apply wpA_load); exact rfl; (first | ((with_reducible apply St.cellI hS); (focus repeat constructor); exact rfl) | assumption); kernel_rfl) | ((with_reducible show WSt ..); (with_reducible apply wpA_store1I hS); exact rfl; (focus repeat constructor); exact rfl; exact rfl; exact rfl; exact rfl; kernel_rfl; intro wx hS; (try simp only [Act.put, List.setIfInBounds_toArray, List.set_cons_zero, List.set_cons_succ]); (try simp only [Act.eval, Array.getD_eq_getD_getElem?, List.getElem?_toArray, List.getElem?_cons_succ, List.getElem?_cons_zero, Option.getD_some, List.set_cons_succ, List.set_cons_zero, Value.cells, List.toList_toArray] at hS)))
      refine wp_region_St hS (by kernel_rfl) (by kernel_rfl) (Bx.out ?_)
      refine bQ_load rfl (fun w hS => by (first | ((with_reducible apply St.cellI hS); (focus repeat constructor); exact rfl) | assumption)) (by kernel_rfl) ?_
      (simp only [Act.put, List.setIfInBounds_toArray, List.set_cons_zero, List.set_cons_succ])
      refine bQ_val ?_ rfl ?_ ?_
      rotate_left
      · intro w hS; go_simp; (first | done | (with_reducible rfl) | (refine (if_pos ?_).trans ?_; (focus omega); with_reducible rfl) | skip)
      (simp only [Act.put, List.setIfInBounds_toArray, List.set_cons_zero, List.set_cons_succ])
      refine bQ_val ?_ rfl ?_ ?_
      rotate_left
      · intro w hS; go_simp; (first | done | (with_reducible rfl) | (refine (if_pos ?_).trans ?_; (focus omega); with_reducible rfl) | skip)
      (simp only [Act.put, List.setIfInBounds_toArray, List.set_cons_zero, List.set_cons_succ])
      refine bQ_load rfl (fun w hS => by (first | ((with_reducible apply St.cellI hS); (focus repeat constructor); exact rfl) | assumption)) (by kernel_rfl) ?_
      (simp only [Act.put, List.setIfInBounds_toArray, List.set_cons_zero, List.set_cons_succ])
      refine bQ_val (.int .i64 (((who ++ [k]).length : Nat) : Int)) rfl (fun w hS => by rw [show (((who ++ [k]).length : Nat) : Int) = (((who ++ [k]).map kvW).length : Nat) by simp]; exact lenMap_val hS 2 rfl rfl Try.underlying54) ?_
      (simp only [Act.put, List.setIfInBounds_toArray, List.set_cons_zero, List.set_cons_succ])
      refine bQ_load rfl (fun w hS => by (first | ((with_reducible apply St.cellI hS); (focus repeat constructor); exact rfl) | assumption)) (by kernel_rfl) ?_
      (simp only [Act.put, List.setIfInBounds_toArray, List.set_cons_zero, List.set_cons_succ])
      refine bQ_val ?_ rfl ?_ ?_
      rotate_left
      · intro w hS; go_simp; (first | done | (with_reducible rfl) | (refine (if_pos ?_).trans ?_; (focus omega); with_reducible rfl) | skip)
      (simp only [Act.put, List.setIfInBounds_toArray, List.set_cons_zero, List.set_cons_succ])
      refine bQ_val ?_ rfl ?_ ?_
      rotate_left
      · intro w hS; go_simp; (first | done | (with_reducible rfl) | (refine (if_pos ?_).trans ?_; (focus omega); with_reducible rfl) | skip)
      (simp only [Act.put, List.setIfInBounds_toArray, List.set_cons_zero, List.set_cons_succ])
      refine bQ_load rfl (fun w hS => by (first | ((with_reducible apply St.cellI hS); (focus repeat constructor); exact rfl) | assumption)) (by kernel_rfl) ?_
      (simp only [Act.put, List.setIfInBounds_toArray, List.set_cons_zero, List.set_cons_succ])
      apply bQ_call (f := 26) Try.func26 (by kernel_rfl) (.int .i64 (majD n))
      · (try simp only [List.map_toArray, List.map_cons, List.map_nil, Act.eval, Array.getD_eq_getD_getElem?, List.getElem?_toArray, List.getElem?_cons_succ, List.getElem?_cons_zero, Option.getD_some]); exact rfl
      · intro w hS; with_reducible exact (maj_c hS n hn)
      (simp only [Act.put, List.setIfInBounds_toArray, List.set_cons_zero, List.set_cons_succ])
      refine bQ_val (.bool false) rfl (fun w hS => by go_simp; (first | done | (simp at hmd ⊢; first | done | omega | exact hmd))) ?_
      (simp only [Act.put, List.setIfInBounds_toArray, List.set_cons_zero, List.set_cons_succ])
      refine ⟨wpQuiet_nil ?_⟩
      intro wx hS
      go_upto_block 2 with (first | ((with_reducible show WGd ..); (with_reducible apply wpA_guard); exact rfl; skip) | ((with_reducible show wpList _ _ _ (⟨_, .range _ _, _, _, _, none⟩ :: _) _ _); (with_reducible apply wpA_range hS 3); exact rfl; exact rfl; exact Try.underlying55; intro r wx hS; (try simp only [Act.put, List.setIfInBounds_toArray, List.set_cons_zero, List.set_cons_succ])) | ((with_reducible show WLd ..); (with_reducible apply wpA_load); exact rfl; (first | ((with_reducible apply St.cellI hS); (focus repeat constructor); exact rfl) | assumption); kernel_rfl) | ((with_reducible show WSt ..); (with_reducible apply wpA_store1I hS); exact rfl; (focus repeat constructor); exact rfl; exact rfl; exact rfl; exact rfl; kernel_rfl; intro wx hS; (try simp only [Act.put, List.setIfInBounds_toArray, List.set_cons_zero, List.set_cons_succ]); (try simp only [Act.eval, Array.getD_eq_getD_getElem?, List.getElem?_toArray, List.getElem?_cons_succ, List.getElem?_cons_zero, Option.getD_some, List.set_cons_succ, List.set_cons_zero, Value.cells, List.toList_toArray] at hS)) | ((with_reducible show WBx ..); (with_reducible apply wpA_box hS); exact rfl; exact rfl; intro _ wx hS; (try simp only [Act.put, List.setIfInBounds_toArray, List.set_cons_zero, List.set_cons_succ]); (try simp only [Act.eval, Array.getD_eq_getD_getElem?, List.getElem?_toArray, List.getElem?_cons_succ, List.getElem?_cons_zero, Option.getD_some, List.set_cons_succ, List.set_cons_zero, Value.cells, List.toList_toArray] at hS)))
      (try simp only [Act.eval, Array.getD_eq_getD_getElem?, List.getElem?_toArray, List.getElem?_cons_succ, List.getElem?_cons_zero, Option.getD_some, List.set_cons_succ, List.set_cons_zero, Value.cells, List.toList_toArray] at hS)
      go_cut [11] (fun v wr => v = .int .i64 (lastD frm B) ∧ St w0 wr (pst g3 p mw mb mo n ballot frm next (who ++ [k]) B true [] va vc [] R))
      case first =>
        go_wp2_with (first | ((with_reducible show WGd ..); (with_reducible apply wpA_guard); exact rfl; skip) | ((with_reducible show WLd ..); (with_reducible apply wpA_load); exact rfl; (first | ((with_reducible apply St.cellI hS); (focus repeat constructor); exact rfl) | assumption); kernel_rfl) | ((with_reducible show WSt ..); (with_reducible apply wpA_store1I hS); exact rfl; (focus repeat constructor); exact rfl; exact rfl; exact rfl; exact rfl; kernel_rfl; intro wx hS; (try simp only [Act.put, List.setIfInBounds_toArray, List.set_cons_zero, List.set_cons_succ]); (try simp only [Act.eval, Array.getD_eq_getD_getElem?, List.getElem?_toArray, List.getElem?_cons_succ, List.getElem?_cons_zero, Option.getD_some, List.set_cons_succ, List.set_cons_zero, Value.cells, List.toList_toArray] at hS)) | ((with_reducible show WBx ..); (with_reducible apply wpA_box hS); exact rfl; exact rfl; intro _ wx hS; (try simp only [Act.put, List.setIfInBounds_toArray, List.set_cons_zero, List.set_cons_succ]); (try simp only [Act.eval, Array.getD_eq_getD_getElem?, List.getElem?_toArray, List.getElem?_cons_succ, List.getElem?_cons_zero, Option.getD_some, List.set_cons_succ, List.set_cons_zero, Value.cells, List.toList_toArray] at hS)))
        go_loopg [11] B.length (fun gk v wr => ∃ (L0 : List EntS) (cur : Option (Value × Value)) (m : Int), v = .int .i64 m ∧ frm - 1 ≤ m ∧ m ≤ lastD frm B ∧ Hid (∀ e ∈ B, e.slot ≤ m ∨ e ∈ L0) ∧ Hid (∀ e ∈ L0, e ∈ B) ∧ L0.length ≤ gk ∧
          St w0 wr (.cells g3 [.pointer (some ⟨p, 0, none⟩)] 24 :: pc p mw mb mo ⟨n, ballot, frm, next, who ++ [k], B, true, [], []⟩ va ([] : List EntS).length vc :: .mp mw (.int .i64) ((who ++ [k]).map kvW) :: .mpi mb (.int .i64) (B.map kvB) r (L0.map kvB) cur :: vrow va vc [] :: .mp mo (.int .i64) [] :: R))
        case atStart => exact ⟨B, none, frm - 1, by go_num, Int.le_refl _, lastD_frm _ _, Lib.hid (fun e he => .inr he), Lib.hid (fun e he => he), Nat.le_refl _, hS⟩
        case round =>
          clear hS
          obtain ⟨L0, cur, m, rfl, hm1, hm2, HA, HB, hgk, hS⟩ := hrel
          by_cases hL : L0 = []
          · subst hL
            go_wp2_with (first | ((with_reducible show WGd ..); (with_reducible apply wpA_guard); exact rfl; skip) | ((with_reducible show wpList _ _ _ (⟨_, .next _ _, _, _, _, none⟩ :: _) _ _); (with_reducible apply wpA_next hS 3); exact rfl; exact rfl; rotate_left; (intro j p wx hj; simp at hj); intro _; replace hS := hS.unrange 3 rfl; (try simp only [Act.put, List.setIfInBounds_toArray, List.set_cons_zero, List.set_cons_succ])) | ((with_reducible show WLd ..); (with_reducible apply wpA_load); exact rfl; (first | ((with_reducible apply St.cellI hS); (focus repeat constructor); exact rfl) | assumption); kernel_rfl) | ((with_reducible show WSt ..); (with_reducible apply wpA_store1I hS); exact rfl; (focus repeat constructor); exact rfl; exact rfl; exact rfl; exact rfl; kernel_rfl; intro wx hS; (try simp only [Act.put, List.setIfInBounds_toArray, List.set_cons_zero, List.set_cons_succ]); (try simp only [Act.eval, Array.getD_eq_getD_getElem?, List.getElem?_toArray, List.getElem?_cons_succ, List.getElem?_cons_zero, Option.getD_some, List.set_cons_succ, List.set_cons_zero, Value.cells, List.toList_toArray] at hS)) | ((with_reducible show WBx ..); (with_reducible apply wpA_box hS); exact rfl; exact rfl; intro _ wx hS; (try simp only [Act.put, List.setIfInBounds_toArray, List.set_cons_zero, List.set_cons_succ]); (try simp only [Act.eval, Array.getD_eq_getD_getElem?, List.getElem?_toArray, List.getElem?_cons_succ, List.getElem?_cons_zero, Option.getD_some, List.set_cons_succ, List.set_cons_zero, Value.cells, List.toList_toArray] at hS)))
            go_meet
            refine ⟨?_, hS⟩
            have : lastD frm B = m := Int.le_antisymm (lastD_le hm1 (fun e he => (HA.out e he).resolve_right (by simp))) hm2
            rw [this]
          · have hne : L0.map kvB ≠ [] := by simpa using hL
            go_upto_region 18 with (first | ((with_reducible show WGd ..); (with_reducible apply wpA_guard); exact rfl; skip) | ((with_reducible show wpList _ _ _ (⟨_, .next _ _, _, _, _, none⟩ :: _) _ _); (with_reducible apply wpA_next hS 3); exact rfl; exact rfl; (intro h0_; exact absurd h0_ hne); intro j pv wx hj0 hS; rw [List.getElem?_map] at hj0; obtain ⟨z, hz, rfl⟩ := Option.map_eq_some_iff.1 hj0; simp only [eraseIdx_map] at hS; dsimp only [kvB]; (try simp only [Act.put, List.setIfInBounds_toArray, List.set_cons_zero, List.set_cons_succ])) | ((with_reducible show wpList _ _ _ (⟨_, .entry _, _, _, _, none⟩ :: _) _ _); (with_reducible apply wpA_entry hS 3); exact rfl; exact rfl; dsimp only [kvB]; (try simp only [Act.put, List.setIfInBounds_toArray, List.set_cons_zero, List.set_cons_succ])) | ((with_reducible show WLd ..); (with_reducible apply wpA_load); exact rfl; (first | ((with_reducible apply St.cellI hS); (focus repeat constructor); exact rfl) | assumption); kernel_rfl) | ((with_reducible show WSt ..); (with_reducible apply wpA_store1I hS); exact rfl; (focus repeat constructor); exact rfl; exact rfl; exact rfl; exact rfl; kernel_rfl; intro wx hS; (try simp only [Act.put, List.setIfInBounds_toArray, List.set_cons_zero, List.set_cons_succ]); (try simp only [Act.eval, Array.getD_eq_getD_getElem?, List.getElem?_toArray, List.getElem?_cons_succ, List.getElem?_cons_zero, Option.getD_some, List.set_cons_succ, List.set_cons_zero, Value.cells, List.toList_toArray] at hS)) | ((with_reducible show WBx ..); (with_reducible apply wpA_box hS); exact rfl; exact rfl; intro _ wx hS; (try simp only [Act.put, List.setIfInBounds_toArray, List.set_cons_zero, List.set_cons_succ]); (try simp only [Act.eval, Array.getD_eq_getD_getElem?, List.getElem?_toArray, List.getElem?_cons_succ, List.getElem?_cons_zero, Option.getD_some, List.set_cons_succ, List.set_cons_zero, Value.cells, List.toList_toArray] at hS)))
            have hjl : j < L0.length := (List.getElem?_eq_some_iff.1 hz).1
            have hel := List.length_eraseIdx_of_lt hjl
            have hez := lastD_mem (frm := frm) (HB.out z (List.mem_of_getElem? hz))
            have hA2 : ∀ m', m ≤ m' → z.slot ≤ m' → ∀ e ∈ B, e.slot ≤ m' ∨ e ∈ L0.eraseIdx j := by
              intro m' h1 h2 e he
              rcases HA.out e he with h | h
              · exact .inl (by omega)
              · by_cases hq : e = z
                · subst hq; exact .inl h2
                · refine .inr ?_
                  have := (perm_front L0 j z hz).mem_iff.2 h
                  rcases List.mem_cons.1 this with h | h
                  · exact absurd h hq
                  · exact h
            have hB2 : ∀ e ∈ L0.eraseIdx j, e ∈ B := fun e he => HB.out e (List.mem_of_mem_eraseIdx he)
            have HA2 := Lib.hid hA2
            have HB2 := Lib.hid hB2
            obtain ⟨zs, zb, zc⟩ := z
            simp only at hez HA2
            clear hA2 hB2 HA HB hz
            by_cases hms : zs ≤ m
            · go_wp2_with (first | ((with_reducible show WGd ..); (with_reducible apply wpA_guard); exact rfl; skip) | ((with_reducible show WLd ..); (with_reducible apply wpA_load); exact rfl; (first | ((with_reducible apply St.cellI hS); (focus repeat constructor); exact rfl) | assumption); kernel_rfl) | ((with_reducible show WSt ..); (with_reducible apply wpA_store1I hS); exact rfl; (focus repeat constructor); exact rfl; exact rfl; exact rfl; exact rfl; kernel_rfl; intro wx hS; (try simp only [Act.put, List.setIfInBounds_toArray, List.set_cons_zero, List.set_cons_succ]); (try simp only [Act.eval, Array.getD_eq_getD_getElem?, List.getElem?_toArray, List.getElem?_cons_succ, List.getElem?_cons_zero, Option.getD_some, List.set_cons_succ, List.set_cons_zero, Value.cells, List.toList_toArray] at hS)) | ((with_reducible show WBx ..); (with_reducible apply wpA_box hS); exact rfl; exact rfl; intro _ wx hS; (try simp only [Act.put, List.setIfInBounds_toArray, List.set_cons_zero, List.set_cons_succ]); (try simp only [Act.eval, Array.getD_eq_getD_getElem?, List.getElem?_toArray, List.getElem?_cons_succ, List.getElem?_cons_zero, Option.getD_some, List.set_cons_succ, List.set_cons_zero, Value.cells, List.toList_toArray] at hS)))
              go_roundg (L0.eraseIdx j).length
              case rel => exact ⟨L0.eraseIdx j, _, m, rfl, hm1, hm2, Lib.hid (HA2.out m (Int.le_refl _) hms), HB2, Nat.le_refl _, hS⟩
              case measure => omega
            · go_wp2_with (first | ((with_reducible show WGd ..); (with_reducible apply wpA_guard); exact rfl; skip) | ((with_reducible show WLd ..); (with_reducible apply wpA_load); exact rfl; (first | ((with_reducible apply St.cellI hS); (focus repeat constructor); exact rfl) | assumption); kernel_rfl) | ((with_reducible show WSt ..); (with_reducible apply wpA_store1I hS); exact rfl; (focus repeat constructor); exact rfl; exact rfl; exact rfl; exact rfl; kernel_rfl; intro wx hS; (try simp only [Act.put, List.setIfInBounds_toArray, List.set_cons_zero, List.set_cons_succ]); (try simp only [Act.eval, Array.getD_eq_getD_getElem?, List.getElem?_toArray, List.getElem?_cons_succ, List.getElem?_cons_zero, Option.getD_some, List.set_cons_succ, List.set_cons_zero, Value.cells, List.toList_toArray] at hS)) | ((with_reducible show WBx ..); (with_reducible apply wpA_box hS); exact rfl; exact rfl; intro _ wx hS; (try simp only [Act.put, List.setIfInBounds_toArray, List.set_cons_zero, List.set_cons_succ]); (try simp only [Act.eval, Array.getD_eq_getD_getElem?, List.getElem?_toArray, List.getElem?_cons_succ, List.getElem?_cons_zero, Option.getD_some, List.set_cons_succ, List.set_cons_zero, Value.cells, List.toList_toArray] at hS)))
              go_roundg (L0.eraseIdx j).length
              case rel => exact ⟨L0.eraseIdx j, _, zs, rfl, by omega, hez, Lib.hid (HA2.out zs (by omega) (Int.le_refl _)), HB2, Nat.le_refl _, hS⟩
              case measure => omega
      case rest =>
        clear hS
        obtain ⟨rfl, hS⟩ := hcut
        obtain ⟨last, hla⟩ : ∃ q, lastD frm B = q := ⟨_, rfl⟩
        rw [hla] at hlast ⊢
        have hlf := lastD_frm frm B
        rw [hla] at hlf
        have HLA := Lib.hid hla
        clear hla
        simp only [pst] at hS
        go_wp2_with (first | ((with_reducible show WGd ..); (with_reducible apply wpA_guard); exact rfl; skip) | ((with_reducible show WLd ..); (with_reducible apply wpA_load); exact rfl; (first | ((with_reducible apply St.cellI hS); (focus repeat constructor); exact rfl) | assumption); kernel_rfl) | ((with_reducible show WSt ..); (with_reducible apply wpA_store1I hS); exact rfl; (focus repeat constructor); exact rfl; exact rfl; exact rfl; exact rfl; kernel_rfl; intro wx hS; (try simp only [Act.put, List.setIfInBounds_toArray, List.set_cons_zero, List.set_cons_succ]); (try simp only [Act.eval, Array.getD_eq_getD_getElem?, List.getElem?_toArray, List.getElem?_cons_succ, List.getElem?_cons_zero, Option.getD_some, List.set_cons_succ, List.set_cons_zero, Value.cells, List.toList_toArray] at hS)) | ((with_reducible show WBx ..); (with_reducible apply wpA_box hS); exact rfl; exact rfl; intro _ wx hS; (try simp only [Act.put, List.setIfInBounds_toArray, List.set_cons_zero, List.set_cons_succ]); (try simp only [Act.eval, Array.getD_eq_getD_getElem?, List.getElem?_toArray, List.getElem?_cons_succ, List.getElem?_cons_zero, Option.getD_some, List.set_cons_succ, List.set_cons_zero, Value.cells, List.toList_toArray] at hS)))
        refine wp_region_E 7 hS (by kernel_rfl) (fun _ hR hS => ?_)
        simp only [List.length_cons, List.length_nil, Nat.reduceAdd]
        refine takeE_load (i := 0) [7] rfl (by exact rfl) (by kernel_rfl) (fun _ _ _ h => h) (by decide) rfl (fun w hS => by (first | ((with_reducible apply St.cellI hS); (focus repeat constructor); exact rfl) | assumption)) (by kernel_rfl) hR (fun hR => ?_)
        (simp only [Act.put, List.setIfInBounds_toArray, List.set_cons_zero, List.set_cons_succ])
        refine takeE_load (i := 1) [7] rfl (by exact rfl) (by kernel_rfl) (fun _ _ _ h => h) (by decide) rfl (fun w hS => by (first | ((with_reducible apply St.cellI hS); (focus repeat constructor); exact rfl) | assumption)) (by kernel_rfl) hR (fun hR => ?_)
        (simp only [Act.put, List.setIfInBounds_toArray, List.set_cons_zero, List.set_cons_succ])
        refine takeP_val (i := 2) ?_ rfl (by exact rfl) (by kernel_rfl) (fun _ _ _ h => h) ?_ hR (fun hR => ?_)
        rotate_left
        · intro w; go_simp; (first | done | (with_reducible rfl) | (refine (if_pos ?_).trans ?_; (focus omega); with_reducible rfl) | skip)
        (simp only [Act.put, List.setIfInBounds_toArray, List.set_cons_zero, List.set_cons_succ])
        refine takeP_val (i := 3) ?_ rfl (by exact rfl) (by kernel_rfl) (fun _ _ _ h => h) ?_ hR (fun hR => ?_)
        rotate_left
        · intro w; go_simp; (first | done | (with_reducible rfl) | (refine (if_pos ?_).trans ?_; (focus omega); with_reducible rfl) | skip)
        (simp only [Act.put, List.setIfInBounds_toArray, List.set_cons_zero, List.set_cons_succ])
        refine takeE_load (i := 4) [7] rfl (by exact rfl) (by kernel_rfl) (fun _ _ _ h => h) (by decide) rfl (fun w hS => by (first | ((with_reducible apply St.cellI hS); (focus repeat constructor); exact rfl) | assumption)) (by kernel_rfl) hR (fun hR => ?_)
        (simp only [Act.put, List.setIfInBounds_toArray, List.set_cons_zero, List.set_cons_succ])
        refine takeP_val (i := 5) ?_ rfl (by exact rfl) (by kernel_rfl) (fun _ _ _ h => h) ?_ hR (fun hR => ?_)
        rotate_left
        · intro w; go_simp; (first | done | (with_reducible rfl) | (refine (if_pos ?_).trans ?_; (focus omega); with_reducible rfl) | skip)
        (simp only [Act.put, List.setIfInBounds_toArray, List.set_cons_zero, List.set_cons_succ])
        refine takeP_val (i := 6) ?_ rfl (by exact rfl) (by kernel_rfl) (fun _ _ _ h => h) ?_ hR (fun hR => ?_)
        rotate_left
        · intro w; go_simp; (first | done | (with_reducible rfl) | (refine (if_pos ?_).trans ?_; (focus omega); with_reducible rfl) | skip)
        (simp only [Act.put, List.setIfInBounds_toArray, List.set_cons_zero, List.set_cons_succ])
        refine oneE (i := 7) (by kernel_rfl) rfl (by exact rfl) (fun K_ hK_ => ?_)
        ((with_reducible apply opA_store1I hS); exact rfl; (focus repeat constructor); exact rfl; exact rfl; exact rfl; exact rfl; kernel_rfl; intro wx hS; (try simp only [Act.eval, Array.getD_eq_getD_getElem?, List.getElem?_toArray, List.getElem?_cons_succ, List.getElem?_cons_zero, Option.getD_some, List.set_cons_succ, List.set_cons_zero, Value.cells, List.toList_toArray] at hS))
        refine hK_ _ _ (fun h => by cases h) ?_; clear hK_ K_
        (simp only [Act.put, List.setIfInBounds_toArray, List.set_cons_zero, List.set_cons_succ])
        refine wpAnyR_done (by kernel_rfl) ?_ _
        go_upto_block 4 with (first | ((with_reducible show WGd ..); (with_reducible apply wpA_guard); exact rfl; skip) | (go_at_call 27; with_reducible refine (slots_c hS p last).mono ?_; rintro _ _ ⟨b1, b2, rfl, hS⟩) | ((with_reducible show WLd ..); (with_reducible apply wpA_load); exact rfl; (first | ((with_reducible apply St.cellI hS); (focus repeat constructor); exact rfl) | assumption); kernel_rfl) | ((with_reducible show WSt ..); (with_reducible apply wpA_store1I hS); exact rfl; (focus repeat constructor); exact rfl; exact rfl; exact rfl; exact rfl; kernel_rfl; intro wx hS; (try simp only [Act.put, List.setIfInBounds_toArray, List.set_cons_zero, List.set_cons_succ]); (try simp only [Act.eval, Array.getD_eq_getD_getElem?, List.getElem?_toArray, List.getElem?_cons_succ, List.getElem?_cons_zero, Option.getD_some, List.set_cons_succ, List.set_cons_zero, Value.cells, List.toList_toArray] at hS)) | ((with_reducible show WBx ..); (with_reducible apply wpA_box hS); exact rfl; exact rfl; intro _ wx hS; (try simp only [Act.put, List.setIfInBounds_toArray, List.set_cons_zero, List.set_cons_succ]); (try simp only [Act.eval, Array.getD_eq_getD_getElem?, List.getElem?_toArray, List.getElem?_cons_succ, List.getElem?_cons_zero, Option.getD_some, List.set_cons_succ, List.set_cons_zero, Value.cells, List.toList_toArray] at hS)))
        (try simp only [Act.eval, Array.getD_eq_getD_getElem?, List.getElem?_toArray, List.getElem?_cons_succ, List.getElem?_cons_zero, Option.getD_some, List.set_cons_succ, List.set_cons_zero, Value.cells, List.toList_toArray] at hS)
        have hS : St w0 _ (.cells b2 [.int .i64 last] 3 :: .cells b1 [.pointer (some ⟨p, 0, none⟩)] 24 :: pst g3 p mw mb mo n ballot frm frm (who ++ [k]) B true [] va vc [] R) := hS
        refine wp_block ?_
        refine wp_range_St hS rfl (enters_of Try.func35 (by kernel_rfl) rfl)
          (fun l d o W => PropSt w0 W p (σL n ballot frm (who ++ [k]) B (last + 1 - frm).toNat) (.obj l o :: .obj d (.deferred (some [])) :: .cells b2 [.int .i64 last] 3 :: .cells b1 [.pointer (some ⟨p, 0, none⟩)] 24 :: .cells g3 [.pointer (some ⟨p, 0, none⟩)] 24 :: R)) (fun l d => PropSt.recd) ?hit ?hdone
        case hit =>
          intro fn l d o W ho hW
          have h0 : PropSt w0 W p (σL n ballot frm (who ++ [k]) B 0) (.obj l o :: .obj d (.deferred (some [])) :: .cells b2 [.int .i64 last] 3 :: .cells b1 [.pointer (some ⟨p, 0, none⟩)] 24 :: .cells g3 [.pointer (some ⟨p, 0, none⟩)] 24 :: R) := by
            refine ⟨mw, mb, mo, va, vc, [], rfl, ?_⟩
            have h1 := St.perm hW (show (([Hp.obj l o, .obj d (.deferred (some [])), .cells b2 [.int .i64 last] 3, .cells b1 [.pointer (some ⟨p, 0, none⟩)] 24, .cells g3 [.pointer (some ⟨p, 0, none⟩)] 24] : List Hp) ++ _).Perm _ from swapL _ [_, _, _, _, _] _)
            simpa [σL, fillD, pst] using h1
          refine slots1_c (N := (last + 1 - frm).toNat) (fun q W => PropSt w0 W p (σL n ballot frm (who ++ [k]) B q) (.obj l o :: .obj d (.deferred (some [])) :: .cells b2 [.int .i64 last] 3 :: .cells b1 [.pointer (some ⟨p, 0, none⟩)] 24 :: .cells g3 [.pointer (some ⟨p, 0, none⟩)] 24 :: R)) rfl (by omega) f1
            (fun q W h => ⟨h.rest.cell 3 rfl 0 rfl, h.rest.cell 2 rfl 0 rfl, h.frmCell⟩) ?hY W h0
          intro q W hq hJ
          refine yield_St (A := fun o W => PropSt w0 W p (σL n ballot frm (who ++ [k]) B q) (.obj l o :: .obj d (.deferred (some [])) :: .cells b2 [.int .i64 last] 3 :: .cells b1 [.pointer (some ⟨p, 0, none⟩)] 24 :: .cells g3 [.pointer (some ⟨p, 0, none⟩)] 24 :: R)) (B := fun o W => PropSt w0 W p (σL n ballot frm (who ++ [k]) B (q + 1)) (.obj l o :: .obj d (.deferred (some [])) :: .cells b2 [.int .i64 last] 3 :: .cells b1 [.pointer (some ⟨p, 0, none⟩)] 24 :: .cells g3 [.pointer (some ⟨p, 0, none⟩)] 24 :: R)) PropSt.recd PropSt.recd ho hJ rfl ⟨?a1, ?ha, ?hb⟩
          case ha =>
            intro K hK
            gi_wp2
            exact hK
          case hb =>
            intro w2 h2
            refine wpIn_block ?_
            generalize (Obj.loop (lrec fn _ _ _ _ d .busy)) = ob at h2 ⊢
            obtain ⟨mw1, mb1, mo1, va1, vc1, O, hO, hS⟩ := h2
            have hO : O.map (·.s) = (fillD ballot B frm q).map newS := hO
            obtain ⟨kvs, hkv⟩ : ∃ kvs, O.map kvO = kvs := ⟨_, rfl⟩
            obtain ⟨V, hV⟩ : ∃ V, fillD ballot B frm q = V := ⟨_, rfl⟩
            have hVl := Lib.hid (show V.length = q by rw [← hV]; exact fillD_length _ _ _ _)
            have hVb : V.length ≤ 100000 := by rw [← hV, fillD_length]; omega
            have hno : ∀ x ∈ kvs, x.1 ≠ Value.int .i64 (frm + (q : Int)) := by
              intro x hx e
              rw [← hkv] at hx
              obtain ⟨z, hz, rfl⟩ := List.mem_map.1 hx
              simp only [kvO] at e
              injection e with _ e
              have h3 : z.s ∈ (fillD ballot B frm q).map newS := by rw [← hO]; exact List.mem_map.2 ⟨z, hz, rfl⟩
              obtain ⟨e', h4, h5⟩ := List.mem_map.1 h3
              have h6 := fillD_mem h4
              rw [← h5] at e
              simp only [newS] at e
              omega
            obtain ⟨E, hE⟩ : ∃ E, (bestD B (frm + (q : Int))).getD ent0 = E := ⟨_, rfl⟩
            have hlk : ∀ w, Hp.on w (.mp mb1 (.int .i64) (B.map kvB)) → (Instr.lookup 55 (.map (some mb1)) (.int .i64 (frm + (q : Int))) false).run Try.prog w = .ok (.agg E.cells.toArray) w := fun w h => by rw [← hE]; exact best_look h _
            have hbc : bcmd B (frm + (q : Int)) = E.cmd := by rw [bcmd_eq, hE]
            replace hS := hS.perm (toFront [_, _, _, _, _] _ [_, _, _, _] _ _)
            simp only [List.cons_append, List.nil_append] at hS
            obtain ⟨Y, hY⟩ : ∃ Y, O.flatMap ohp ++ (.obj l ob :: .obj d (.deferred (some [])) :: .cells b2 [.int .i64 last] 3 :: .cells b1 [.pointer (some ⟨p, 0, none⟩)] 24 :: R) = Y := ⟨_, rfl⟩
            simp only [σL] at hS
            rw [hY, hkv, hV] at hS
            have HNO := Lib.hid hno
            have HLK := Lib.hid hlk
            have HZZ := Lib.hid (And.intro hO (And.intro hkv (And.intro hV (And.intro hbc hY))))
            obtain ⟨Es, Eb, ⟨Ek, Ee, Eq_, En, E5⟩⟩ := E
            simp only [EntS.cells] at HLK
            clear hno hlk hO hkv hV hbc hY hE
            refine wpIn_region_R l (fun ⟨_, _, h⟩ => h) (by kernel_rfl) (R := fun l w => (w.cell? ⟨g3, 0, none⟩ = some (.pointer (some ⟨p, 0, none⟩))) ∧ (w.cell? ⟨g3, 0, none⟩ = some (.pointer (some ⟨p, 0, none⟩))) ∧ (l.getD 18 true = false → w.cell? ⟨p, 7, none⟩ = some (.slice va1 V.length vc1)) ∧ (w.cell? ⟨g3, 0, none⟩ = some (.pointer (some ⟨p, 0, none⟩))) ∧ (w.cell? ⟨g3, 0, none⟩ = some (.pointer (some ⟨p, 0, none⟩))) ∧ (w.cell? ⟨p, 5, none⟩ = some (.map (some mb1))) ∧ (Hp.on w (.mp mb1 (.int .i64) (B.map kvB)))) (by kernel_rfl) ?_
            replace hS := hS.drew
            refine wpAnyR_takeL (i := 0) (v := ?_) (F := (fun w => w.cell? ⟨g3, 0, none⟩ = some (.pointer (some ⟨p, 0, none⟩)))) [] rfl (by kernel_rfl) (by kernel_rfl) (by kernel_rfl) (by kernel_rfl) (by kernel_rfl) (fun _ _ _ h => h) (fun l w => by simp only [getD_set_ne _ (show (0 : Nat) ≠ 18 by decide)]) (fun _ _ hD_ hR_ => hR_.1) rfl ?_ (by exact ⟨(by (with_reducible apply St.cellI hS); (focus repeat constructor); exact rfl), (by (with_reducible apply St.cellI hS); (focus repeat constructor); exact rfl), (fun _ => (by (with_reducible apply St.cellI hS); (focus repeat constructor); exact rfl)), (by (with_reducible apply St.cellI hS); (focus repeat constructor); exact rfl), (by (with_reducible apply St.cellI hS); (focus repeat constructor); exact rfl), (by (with_reducible apply St.cellI hS); (focus repeat constructor); exact rfl), (by (with_reducible apply St.mapI hS); (focus repeat constructor))⟩) ?_
            rotate_left
            · intro w hF_; go_simp; (first | done | (with_reducible rfl) | (refine (if_pos ?_).trans ?_; (focus omega); with_reducible rfl) | skip)
            simp only [Act.put, List.setIfInBounds_toArray, List.set_cons_zero, List.set_cons_succ]
            refine wpAnyR_takeL (i := 1) (v := ?_) (F := (fun w => w.cell? ⟨g3, 0, none⟩ = some (.pointer (some ⟨p, 0, none⟩)))) [] rfl (by kernel_rfl) (by kernel_rfl) (by kernel_rfl) (by kernel_rfl) (by kernel_rfl) (fun _ _ _ h => h) (fun l w => by simp only [getD_set_ne _ (show (1 : Nat) ≠ 18 by decide)]) (fun _ _ hD_ hR_ => hR_.2.1) rfl ?_ (by exact ⟨(by (with_reducible apply St.cellI hS); (focus repeat constructor); exact rfl), (by (with_reducible apply St.cellI hS); (focus repeat constructor); exact rfl), (fun _ => (by (with_reducible apply St.cellI hS); (focus repeat constructor); exact rfl)), (by (with_reducible apply St.cellI hS); (focus repeat constructor); exact rfl), (by (with_reducible apply St.cellI hS); (focus repeat constructor); exact rfl), (by (with_reducible apply St.cellI hS); (focus repeat constructor); exact rfl), (by (with_reducible apply St.mapI hS); (focus repeat constructor))⟩) ?_
            rotate_left
            · intro w hF_; go_simp; (first | done | (with_reducible rfl) | (refine (if_pos ?_).trans ?_; (focus omega); with_reducible rfl) | skip)
            simp only [Act.put, List.setIfInBounds_toArray, List.set_cons_zero, List.set_cons_succ]
            refine wpAnyR_takeL (i := 2) (v := ?_) (F := (fun _ => True)) [] rfl (by kernel_rfl) (by kernel_rfl) (by kernel_rfl) (by kernel_rfl) (by kernel_rfl) (fun _ _ _ h => h) (fun l w => by simp only [getD_set_ne _ (show (2 : Nat) ≠ 18 by decide)]) (fun _ _ _ _ => trivial) rfl ?_ (by exact ⟨(by (with_reducible apply St.cellI hS); (focus repeat constructor); exact rfl), (by (with_reducible apply St.cellI hS); (focus repeat constructor); exact rfl), (fun _ => (by (with_reducible apply St.cellI hS); (focus repeat constructor); exact rfl)), (by (with_reducible apply St.cellI hS); (focus repeat constructor); exact rfl), (by (with_reducible apply St.cellI hS); (focus repeat constructor); exact rfl), (by (with_reducible apply St.cellI hS); (focus repeat constructor); exact rfl), (by (with_reducible apply St.mapI hS); (focus repeat constructor))⟩) ?_
            rotate_left
            · intro w hF_; go_simp; (first | done | (with_reducible rfl) | (refine (if_pos ?_).trans ?_; (focus omega); with_reducible rfl) | skip)
            simp only [Act.put, List.setIfInBounds_toArray, List.set_cons_zero, List.set_cons_succ]
            refine wpAnyR_takeL (i := 3) (v := ?_) (F := (fun _ => True)) [] rfl (by kernel_rfl) (by kernel_rfl) (by kernel_rfl) (by kernel_rfl) (by kernel_rfl) (fun _ _ _ h => h) (fun l w => by simp only [getD_set_ne _ (show (3 : Nat) ≠ 18 by decide)]) (fun _ _ _ _ => trivial) rfl ?_ (by exact ⟨(by (with_reducible apply St.cellI hS); (focus repeat constructor); exact rfl), (by (with_reducible apply St.cellI hS); (focus repeat constructor); exact rfl), (fun _ => (by (with_reducible apply St.cellI hS); (focus repeat constructor); exact rfl)), (by (with_reducible apply St.cellI hS); (focus repeat constructor); exact rfl), (by (with_reducible apply St.cellI hS); (focus repeat constructor); exact rfl), (by (with_reducible apply St.cellI hS); (focus repeat constructor); exact rfl), (by (with_reducible apply St.mapI hS); (focus repeat constructor))⟩) ?_
            rotate_left
            · intro w hF_; go_simp; (first | done | (with_reducible rfl) | (refine (if_pos ?_).trans ?_; (focus omega); with_reducible rfl) | skip)
            simp only [Act.put, List.setIfInBounds_toArray, List.set_cons_zero, List.set_cons_succ]
            refine wpAnyR_takeL (i := 4) (v := ?_) (F := (fun w => w.cell? ⟨p, 7, none⟩ = some (.slice va1 V.length vc1))) [15, 18] rfl (by kernel_rfl) (by kernel_rfl) (by kernel_rfl) (by kernel_rfl) (by kernel_rfl) (fun _ _ _ h => h) (fun l w => by simp only [getD_set_ne _ (show (4 : Nat) ≠ 18 by decide)]) (fun _ _ hD_ hR_ => (hR_.2.2.1) (hD_ _ (by simp))) rfl ?_ (by exact ⟨(by (with_reducible apply St.cellI hS); (focus repeat constructor); exact rfl), (by (with_reducible apply St.cellI hS); (focus repeat constructor); exact rfl), (fun _ => (by (with_reducible apply St.cellI hS); (focus repeat constructor); exact rfl)), (by (with_reducible apply St.cellI hS); (focus repeat constructor); exact rfl), (by (with_reducible apply St.cellI hS); (focus repeat constructor); exact rfl), (by (with_reducible apply St.cellI hS); (focus repeat constructor); exact rfl), (by (with_reducible apply St.mapI hS); (focus repeat constructor))⟩) ?_
            rotate_left
            · intro w hF_; go_simp; (first | done | (with_reducible rfl) | (refine (if_pos ?_).trans ?_; (focus omega); with_reducible rfl) | skip)
            simp only [Act.put, List.setIfInBounds_toArray, List.set_cons_zero, List.set_cons_succ]
            refine wpAnyR_takeL (i := 5) (v := ?_) (F := (fun w => w.cell? ⟨g3, 0, none⟩ = some (.pointer (some ⟨p, 0, none⟩)))) [] rfl (by kernel_rfl) (by kernel_rfl) (by kernel_rfl) (by kernel_rfl) (by kernel_rfl) (fun _ _ _ h => h) (fun l w => by simp only [getD_set_ne _ (show (5 : Nat) ≠ 18 by decide)]) (fun _ _ hD_ hR_ => hR_.2.2.2.1) rfl ?_ (by exact ⟨(by (with_reducible apply St.cellI hS); (focus repeat constructor); exact rfl), (by (with_reducible apply St.cellI hS); (focus repeat constructor); exact rfl), (fun _ => (by (with_reducible apply St.cellI hS); (focus repeat constructor); exact rfl)), (by (with_reducible apply St.cellI hS); (focus repeat constructor); exact rfl), (by (with_reducible apply St.cellI hS); (focus repeat constructor); exact rfl), (by (with_reducible apply St.cellI hS); (focus repeat constructor); exact rfl), (by (with_reducible apply St.mapI hS); (focus repeat constructor))⟩) ?_
            rotate_left
            · intro w hF_; go_simp; (first | done | (with_reducible rfl) | (refine (if_pos ?_).trans ?_; (focus omega); with_reducible rfl) | skip)
            simp only [Act.put, List.setIfInBounds_toArray, List.set_cons_zero, List.set_cons_succ]
            refine wpAnyR_takeL (i := 6) (v := ?_) (F := (fun w => w.cell? ⟨g3, 0, none⟩ = some (.pointer (some ⟨p, 0, none⟩)))) [] rfl (by kernel_rfl) (by kernel_rfl) (by kernel_rfl) (by kernel_rfl) (by kernel_rfl) (fun _ _ _ h => h) (fun l w => by simp only [getD_set_ne _ (show (6 : Nat) ≠ 18 by decide)]) (fun _ _ hD_ hR_ => hR_.2.2.2.2.1) rfl ?_ (by exact ⟨(by (with_reducible apply St.cellI hS); (focus repeat constructor); exact rfl), (by (with_reducible apply St.cellI hS); (focus repeat constructor); exact rfl), (fun _ => (by (with_reducible apply St.cellI hS); (focus repeat constructor); exact rfl)), (by (with_reducible apply St.cellI hS); (focus repeat constructor); exact rfl), (by (with_reducible apply St.cellI hS); (focus repeat constructor); exact rfl), (by (with_reducible apply St.cellI hS); (focus repeat constructor); exact rfl), (by (with_reducible apply St.mapI hS); (focus repeat constructor))⟩) ?_
            rotate_left
            · intro w hF_; go_simp; (first | done | (with_reducible rfl) | (refine (if_pos ?_).trans ?_; (focus omega); with_reducible rfl) | skip)
            simp only [Act.put, List.setIfInBounds_toArray, List.set_cons_zero, List.set_cons_succ]
            refine wpAnyR_takeL (i := 7) (v := ?_) (F := (fun _ => True)) [] rfl (by kernel_rfl) (by kernel_rfl) (by kernel_rfl) (by kernel_rfl) (by kernel_rfl) (fun _ _ _ h => h) (fun l w => by simp only [getD_set_ne _ (show (7 : Nat) ≠ 18 by decide)]) (fun _ _ _ _ => trivial) rfl ?_ (by exact ⟨(by (with_reducible apply St.cellI hS); (focus repeat constructor); exact rfl), (by (with_reducible apply St.cellI hS); (focus repeat constructor); exact rfl), (fun _ => (by (with_reducible apply St.cellI hS); (focus repeat constructor); exact rfl)), (by (with_reducible apply St.cellI hS); (focus repeat constructor); exact rfl), (by (with_reducible apply St.cellI hS); (focus repeat constructor); exact rfl), (by (with_reducible apply St.cellI hS); (focus repeat constructor); exact rfl), (by (with_reducible apply St.mapI hS); (focus repeat constructor))⟩) ?_
            rotate_left
            · intro w hF_; go_simp; (first | done | (with_reducible rfl) | (refine (if_pos ?_).trans ?_; (focus omega); with_reducible rfl) | skip)
            simp only [Act.put, List.setIfInBounds_toArray, List.set_cons_zero, List.set_cons_succ]
            refine wpAnyR_takeL (i := 8) (v := ?_) (F := (fun _ => True)) [] rfl (by kernel_rfl) (by kernel_rfl) (by kernel_rfl) (by kernel_rfl) (by kernel_rfl) (fun _ _ _ h => h) (fun l w => by simp only [getD_set_ne _ (show (8 : Nat) ≠ 18 by decide)]) (fun _ _ _ _ => trivial) rfl ?_ (by exact ⟨(by (with_reducible apply St.cellI hS); (focus repeat constructor); exact rfl), (by (with_reducible apply St.cellI hS); (focus repeat constructor); exact rfl), (fun _ => (by (with_reducible apply St.cellI hS); (focus repeat constructor); exact rfl)), (by (with_reducible apply St.cellI hS); (focus repeat constructor); exact rfl), (by (with_reducible apply St.cellI hS); (focus repeat constructor); exact rfl), (by (with_reducible apply St.cellI hS); (focus repeat constructor); exact rfl), (by (with_reducible apply St.mapI hS); (focus repeat constructor))⟩) ?_
            rotate_left
            · intro w hF_; go_simp; (first | done | (with_reducible rfl) | (refine (if_pos ?_).trans ?_; (focus omega); with_reducible rfl) | skip)
            simp only [Act.put, List.setIfInBounds_toArray, List.set_cons_zero, List.set_cons_succ]
            refine wpAnyR_takeL (i := 9) (v := ?_) (F := (fun w => w.cell? ⟨p, 5, none⟩ = some (.map (some mb1)))) [] rfl (by kernel_rfl) (by kernel_rfl) (by kernel_rfl) (by kernel_rfl) (by kernel_rfl) (fun _ _ _ h => h) (fun l w => by simp only [getD_set_ne _ (show (9 : Nat) ≠ 18 by decide)]) (fun _ _ hD_ hR_ => hR_.2.2.2.2.2.1) rfl ?_ (by exact ⟨(by (with_reducible apply St.cellI hS); (focus repeat constructor); exact rfl), (by (with_reducible apply St.cellI hS); (focus repeat constructor); exact rfl), (fun _ => (by (with_reducible apply St.cellI hS); (focus repeat constructor); exact rfl)), (by (with_reducible apply St.cellI hS); (focus repeat constructor); exact rfl), (by (with_reducible apply St.cellI hS); (focus repeat constructor); exact rfl), (by (with_reducible apply St.cellI hS); (focus repeat constructor); exact rfl), (by (with_reducible apply St.mapI hS); (focus repeat constructor))⟩) ?_
            rotate_left
            · intro w hF_; go_simp; (first | done | (with_reducible rfl) | (refine (if_pos ?_).trans ?_; (focus omega); with_reducible rfl) | skip)
            simp only [Act.put, List.setIfInBounds_toArray, List.set_cons_zero, List.set_cons_succ]
            refine wpAnyR_takeL (i := 10) (v := ?_) (F := (fun _ => True)) [] rfl (by kernel_rfl) (by kernel_rfl) (by kernel_rfl) (by kernel_rfl) (by kernel_rfl) (fun _ _ _ h => h) (fun l w => by simp only [getD_set_ne _ (show (10 : Nat) ≠ 18 by decide)]) (fun _ _ _ _ => trivial) rfl ?_ (by exact ⟨(by (with_reducible apply St.cellI hS); (focus repeat constructor); exact rfl), (by (with_reducible apply St.cellI hS); (focus repeat constructor); exact rfl), (fun _ => (by (with_reducible apply St.cellI hS); (focus repeat constructor); exact rfl)), (by (with_reducible apply St.cellI hS); (focus repeat constructor); exact rfl), (by (with_reducible apply St.cellI hS); (focus repeat constructor); exact rfl), (by (with_reducible apply St.cellI hS); (focus repeat constructor); exact rfl), (by (with_reducible apply St.mapI hS); (focus repeat constructor))⟩) ?_
            rotate_left
            · intro w hF_; go_simp; (first | done | (with_reducible rfl) | (refine (if_pos ?_).trans ?_; (focus omega); with_reducible rfl) | skip)
            simp only [Act.put, List.setIfInBounds_toArray, List.set_cons_zero, List.set_cons_succ]
            refine wpAnyR_takeL (i := 11) (v := (.agg #[.int .i64 Es, .int .i64 Eb, .int .i64 Ek, .int .i64 Ee, .int .i64 Eq_, .string En, .int .i64 E5])) (F := (fun w => Hp.on w (.mp mb1 (.int .i64) (B.map kvB)))) [] rfl (by kernel_rfl) (by kernel_rfl) (by kernel_rfl) (by kernel_rfl) (by kernel_rfl) (fun _ _ _ h => h) (fun l w => by simp only [getD_set_ne _ (show (11 : Nat) ≠ 18 by decide)]) (fun _ _ hD_ hR_ => hR_.2.2.2.2.2.2) rfl ?_ (by exact ⟨(by (with_reducible apply St.cellI hS); (focus repeat constructor); exact rfl), (by (with_reducible apply St.cellI hS); (focus repeat constructor); exact rfl), (fun _ => (by (with_reducible apply St.cellI hS); (focus repeat constructor); exact rfl)), (by (with_reducible apply St.cellI hS); (focus repeat constructor); exact rfl), (by (with_reducible apply St.cellI hS); (focus repeat constructor); exact rfl), (by (with_reducible apply St.cellI hS); (focus repeat constructor); exact rfl), (by (with_reducible apply St.mapI hS); (focus repeat constructor))⟩) ?_
            · intro w hF_; exact exec_lookup_val rfl rfl (HLK.out _ hF_)
            simp only [Act.put, List.setIfInBounds_toArray, List.set_cons_zero, List.set_cons_succ]
            refine wpAnyR_takeL (i := 12) (v := (.agg #[.int .i64 Ek, .int .i64 Ee, .int .i64 Eq_, .string En, .int .i64 E5])) (F := (fun _ => True)) [] rfl (by kernel_rfl) (by kernel_rfl) (by kernel_rfl) (by kernel_rfl) (by kernel_rfl) (fun _ _ _ h => h) (fun l w => by simp only [getD_set_ne _ (show (12 : Nat) ≠ 18 by decide)]) (fun _ _ _ _ => trivial) rfl ?_ (by exact ⟨(by (with_reducible apply St.cellI hS); (focus repeat constructor); exact rfl), (by (with_reducible apply St.cellI hS); (focus repeat constructor); exact rfl), (fun _ => (by (with_reducible apply St.cellI hS); (focus repeat constructor); exact rfl)), (by (with_reducible apply St.cellI hS); (focus repeat constructor); exact rfl), (by (with_reducible apply St.cellI hS); (focus repeat constructor); exact rfl), (by (with_reducible apply St.cellI hS); (focus repeat constructor); exact rfl), (by (with_reducible apply St.mapI hS); (focus repeat constructor))⟩) ?_
            · intro w hF_; exact exec_fieldN_val (cs := #[.int .i64 Es, .int .i64 Eb, .int .i64 Ek, .int .i64 Ee, .int .i64 Eq_, .string En, .int .i64 E5]) 2 5 rfl (by kernel_rfl)
            simp only [Act.put, List.setIfInBounds_toArray, List.set_cons_zero, List.set_cons_succ]
            refine wpAnyR_oneL (i := 13) (by kernel_rfl) rfl rfl (fun K_ hK_ => ?_)
            ((try simp only [List.set_cons_succ, List.set_cons_zero] at hS); replace hS := hS.sel [1, 5, 0, 2, 3, 4] 6 (by decide) (by decide) (by simp); simp only [List.filterMap_cons, List.filterMap_nil, List.getElem?_cons_succ, List.getElem?_cons_zero, List.drop_succ_cons, List.drop_zero, List.cons_append, List.nil_append] at hS); (apply opA_call (f := 28) Try.func28 (by kernel_rfl); (focus ((try simp only [List.map_toArray, List.map_cons, List.map_nil, Act.eval, Array.getD_eq_getD_getElem?, List.getElem?_toArray, List.getElem?_cons_succ, List.getElem?_cons_zero, Option.getD_some]); exact rfl)); (focus (with_reducible exact (put_s hS ⟨Ek, Ee, Eq_, En, E5⟩ HNO.out (by omega) (by omega)))); rintro _ _ ⟨gb, mw2, rfl, hS⟩; refine ⟨_, rfl, ?_⟩; skip)
            refine hK_ _ _ (by exact ⟨(by (with_reducible apply St.cellI hS); (focus repeat constructor); exact rfl), (by (with_reducible apply St.cellI hS); (focus repeat constructor); exact rfl), (fun _ => (by (with_reducible apply St.cellI hS); (focus repeat constructor); exact rfl)), (by (with_reducible apply St.cellI hS); (focus repeat constructor); exact rfl), (by (with_reducible apply St.cellI hS); (focus repeat constructor); exact rfl), (by (with_reducible apply St.cellI hS); (focus repeat constructor); exact rfl), (by (with_reducible apply St.mapI hS); (focus repeat constructor))⟩) ?_; clear hK_ K_
            simp only [Act.put, List.setIfInBounds_toArray, List.set_cons_zero, List.set_cons_succ]
            refine wpAnyR_oneL (i := 14) (by kernel_rfl) rfl rfl (fun K_ hK_ => ?_)
            ((with_reducible apply opA_oneN hS (z := .agg #[.int .i64 0, .int .i64 0, .int .i64 0, .int .i64 0, .int .i64 0, .string ⟨#[]⟩, .int .i64 0]) (bytes := 64) (size := 7)); exact Try.underlying26; kernel_rfl; exact rfl; exact rfl; exact rfl; exact (by decide); exact (by decide); intro _ wx hS; (try simp only [Act.eval, Array.getD_eq_getD_getElem?, List.getElem?_toArray, List.getElem?_cons_succ, List.getElem?_cons_zero, Option.getD_some, List.set_cons_succ, List.set_cons_zero, Value.cells, List.toList_toArray] at hS))
            refine hK_ _ _ (by exact ⟨(by (with_reducible apply St.cellI hS); (focus repeat constructor); exact rfl), (by (with_reducible apply St.cellI hS); (focus repeat constructor); exact rfl), (fun _ => (by (with_reducible apply St.cellI hS); (focus repeat constructor); exact rfl)), (by (with_reducible apply St.cellI hS); (focus repeat constructor); exact rfl), (by (with_reducible apply St.cellI hS); (focus repeat constructor); exact rfl), (by (with_reducible apply St.cellI hS); (focus repeat constructor); exact rfl), (by (with_reducible apply St.mapI hS); (focus repeat constructor))⟩) ?_; clear hK_ K_
            simp only [Act.put, List.setIfInBounds_toArray, List.set_cons_zero, List.set_cons_succ]
            refine wpAnyR_oneL (i := 15) (by kernel_rfl) rfl rfl (fun K_ hK_ => ?_)
            ((with_reducible apply opA_appendI hS (e := 30) (z := .agg #[.int .i64 0, .int .i64 0, .int .i64 0, .int .i64 0, .int .i64 0, .string ⟨#[]⟩, .int .i64 0]) (size := 7) (bytes := 64)); exact rfl; exact rfl; exact Try.underlying26; (focus repeat constructor); exact .inr Try.underlying26; kernel_rfl; exact rfl; exact (Src.freshN (m := 1) hS 0 rfl rfl (by rfl)); exact (by unfold maxLen; omega); exact (by omega); intro ao2 cap2 wx hS)
            refine hK_ _ _ (by exact ⟨(by (with_reducible apply St.cellI hS); (focus repeat constructor); exact rfl), (by (with_reducible apply St.cellI hS); (focus repeat constructor); exact rfl), (fun _ => (by (with_reducible apply St.cellI hS); (focus repeat constructor); exact rfl)), (by (with_reducible apply St.cellI hS); (focus repeat constructor); exact rfl), (by (with_reducible apply St.cellI hS); (focus repeat constructor); exact rfl), (by (with_reducible apply St.cellI hS); (focus repeat constructor); exact rfl), (by (with_reducible apply St.mapI hS); (focus repeat constructor))⟩) ?_; clear hK_ K_
            simp only [Act.put, List.setIfInBounds_toArray, List.set_cons_zero, List.set_cons_succ]
            refine wpAnyR_takeL (i := 16) (v := ?_) (F := (fun _ => True)) [] rfl (by kernel_rfl) (by kernel_rfl) (by kernel_rfl) (by kernel_rfl) (by kernel_rfl) (fun _ _ _ h => h) (fun l w => by simp only [getD_set_ne _ (show (16 : Nat) ≠ 18 by decide)]) (fun _ _ _ _ => trivial) rfl ?_ (by exact ⟨(by (with_reducible apply St.cellI hS); (focus repeat constructor); exact rfl), (by (with_reducible apply St.cellI hS); (focus repeat constructor); exact rfl), (fun _ => (by (with_reducible apply St.cellI hS); (focus repeat constructor); exact rfl)), (by (with_reducible apply St.cellI hS); (focus repeat constructor); exact rfl), (by (with_reducible apply St.cellI hS); (focus repeat constructor); exact rfl), (by (with_reducible apply St.cellI hS); (focus repeat constructor); exact rfl), (by (with_reducible apply St.mapI hS); (focus repeat constructor))⟩) ?_
            rotate_left
            · intro w hF_; go_simp; (first | done | (with_reducible rfl) | (refine (if_pos ?_).trans ?_; (focus omega); with_reducible rfl) | skip)
            simp only [Act.put, List.setIfInBounds_toArray, List.set_cons_zero, List.set_cons_succ]
            refine wpAnyR_takeL (i := 17) (v := ?_) (F := (fun _ => True)) [] rfl (by kernel_rfl) (by kernel_rfl) (by kernel_rfl) (by kernel_rfl) (by kernel_rfl) (fun _ _ _ h => h) (fun l w => by simp only [getD_set_ne _ (show (17 : Nat) ≠ 18 by decide)]) (fun _ _ _ _ => trivial) rfl ?_ (by exact ⟨(by (with_reducible apply St.cellI hS); (focus repeat constructor); exact rfl), (by (with_reducible apply St.cellI hS); (focus repeat constructor); exact rfl), (fun _ => (by (with_reducible apply St.cellI hS); (focus repeat constructor); exact rfl)), (by (with_reducible apply St.cellI hS); (focus repeat constructor); exact rfl), (by (with_reducible apply St.cellI hS); (focus repeat constructor); exact rfl), (by (with_reducible apply St.cellI hS); (focus repeat constructor); exact rfl), (by (with_reducible apply St.mapI hS); (focus repeat constructor))⟩) ?_
            rotate_left
            · intro w hF_; go_simp; (first | done | (with_reducible rfl) | (refine (if_pos ?_).trans ?_; (focus omega); with_reducible rfl) | skip)
            simp only [Act.put, List.setIfInBounds_toArray, List.set_cons_zero, List.set_cons_succ]
            refine wpAnyR_oneL (i := 18) (by kernel_rfl) rfl rfl (fun K_ hK_ => ?_)
            ((with_reducible apply opA_store1I hS); exact rfl; (focus repeat constructor); exact rfl; exact rfl; exact rfl; exact rfl; kernel_rfl; intro wx hS; (try simp only [Act.eval, Array.getD_eq_getD_getElem?, List.getElem?_toArray, List.getElem?_cons_succ, List.getElem?_cons_zero, Option.getD_some, List.set_cons_succ, List.set_cons_zero, Value.cells, List.toList_toArray] at hS))
            refine hK_ _ _ (by exact ⟨(by (with_reducible apply St.cellI hS); (focus repeat constructor); exact rfl), (by (with_reducible apply St.cellI hS); (focus repeat constructor); exact rfl), (fun h => by cases h), (by (with_reducible apply St.cellI hS); (focus repeat constructor); exact rfl), (by (with_reducible apply St.cellI hS); (focus repeat constructor); exact rfl), (by (with_reducible apply St.cellI hS); (focus repeat constructor); exact rfl), (by (with_reducible apply St.mapI hS); (focus repeat constructor))⟩) ?_; clear hK_ K_
            simp only [Act.put, List.setIfInBounds_toArray, List.set_cons_zero, List.set_cons_succ]
            refine wpAnyR_done (by kernel_rfl) ?_ _
            obtain ⟨hO, hkv, hV, hbc, hY⟩ := HZZ.out
            have e1 : fillD ballot B frm (q + 1) = V ++ [⟨frm + (q : Int), ballot, ⟨Ek, Ee, Eq_, En, E5⟩⟩] := by rw [fillD_succ, hV, hbc]
            ((try simp only [List.set_cons_succ, List.set_cons_zero] at hS); replace hS := hS.sel [5, 1, 6, 7, 8, 2, 3, 4] 9 (by decide) (by decide) (by simp); simp only [List.filterMap_cons, List.filterMap_nil, List.getElem?_cons_succ, List.getElem?_cons_zero, List.drop_succ_cons, List.drop_zero, List.cons_append, List.nil_append] at hS)
            rw [← hY] at hS
            replace hS := hS.perm (toFront [_, _, _, _, _, _, _] _ [_, _, _, _] _ _).symm
            have h3 := St.addOne (f := ohp) (A := [_, _, _, _, _]) (z := ⟨gb, mw2, newS ⟨frm + (q : Int), ballot, ⟨Ek, Ee, Eq_, En, E5⟩⟩⟩) hS
            refine ⟨mw1, mb1, mo1, ao2, cap2, O ++ [⟨gb, mw2, newS ⟨frm + (q : Int), ballot, ⟨Ek, Ee, Eq_, En, E5⟩⟩⟩], ?_, ?_⟩
            · show (O ++ _).map (·.s) = (fillD ballot B frm (q + 1)).map newS
              rw [e1, List.map_append, hO, hV]
              simp
            · have e2 : frm + ((q + 1 : Nat) : Int) = frm + (q : Int) + 1 := by omega
              have e3 : (O ++ [(⟨gb, mw2, newS ⟨frm + (q : Int), ballot, ⟨Ek, Ee, Eq_, En, E5⟩⟩⟩ : SlotM)]).map kvO = kvs ++ [(Value.int .i64 (frm + (q : Int)), Value.pointer (some ⟨gb, 0, none⟩))] := by rw [List.map_append, hkv]; rfl
              rw [e3]
              simp only [vrow, σL, e1, e2, List.length_append, List.length_cons, List.length_nil, Nat.zero_add, List.flatMap_append, List.flatMap_cons, List.flatMap_nil, List.append_nil] at h3 ⊢
              exact h3
        case hdone =>
          intro l d o W h
          simp only [Exit.inBlock]
          obtain ⟨N, hN⟩ : ∃ N, (last + 1 - frm).toNat = N := ⟨_, rfl⟩
          have hfN : frm + (N : Int) = last + 1 := by omega
          rw [hN] at h
          obtain ⟨mw1, mb1, mo1, va1, vc1, O, hO, hS⟩ := h
          have hO : O.map (·.s) = (fillD ballot B frm N).map newS := hO
          obtain ⟨kvs, hkv⟩ : ∃ kvs, O.map kvO = kvs := ⟨_, rfl⟩
          obtain ⟨V, hV⟩ : ∃ V, fillD ballot B frm N = V := ⟨_, rfl⟩
          have hVb : V.length ≤ 100000 := by rw [← hV, fillD_length]; omega
          have hno : ∀ x ∈ kvs, x.1 ≠ Value.int .i64 (last + 1) := by
            intro x hx e
            rw [← hkv] at hx
            obtain ⟨z, hz, rfl⟩ := List.mem_map.1 hx
            simp only [kvO] at e
            injection e with _ e
            have h3 : z.s ∈ (fillD ballot B frm N).map newS := by rw [← hO]; exact List.mem_map.2 ⟨z, hz, rfl⟩
            obtain ⟨e', h4, h5⟩ := List.mem_map.1 h3
            have h6 := fillD_mem h4
            rw [← h5] at e
            simp only [newS] at e
            omega
          replace hS := hS.perm (toFront [_, _, _, _, _] _ [_, _, _, _] _ _)
          simp only [List.cons_append, List.nil_append] at hS
          obtain ⟨Y, hY⟩ : ∃ Y, O.flatMap ohp ++ (.obj l o :: .obj d (.deferred (some [])) :: .cells b2 [.int .i64 last] 3 :: .cells b1 [.pointer (some ⟨p, 0, none⟩)] 24 :: R) = Y := ⟨_, rfl⟩
          simp only [σL] at hS
          rw [hY, hkv, hV, hfN] at hS
          have HNO := Lib.hid hno
          have HZZ := Lib.hid (And.intro hO (And.intro hkv (And.intro hV (And.intro hN (And.intro hfN hY)))))
          clear hno hO hkv hV hN hY hfN
          go_wp2_with (first | ((with_reducible show WGd ..); (with_reducible apply wpA_guard); exact rfl; skip) | ((with_reducible show WLd ..); (with_reducible apply wpA_load); exact rfl; (first | ((with_reducible apply St.cellI hS); (focus repeat constructor); exact rfl) | assumption); kernel_rfl) | ((with_reducible show WSt ..); (with_reducible apply wpA_store1I hS); exact rfl; (focus repeat constructor); exact rfl; exact rfl; exact rfl; exact rfl; kernel_rfl; intro wx hS; (try simp only [Act.put, List.setIfInBounds_toArray, List.set_cons_zero, List.set_cons_succ]); (try simp only [Act.eval, Array.getD_eq_getD_getElem?, List.getElem?_toArray, List.getElem?_cons_succ, List.getElem?_cons_zero, Option.getD_some, List.set_cons_succ, List.set_cons_zero, Value.cells, List.toList_toArray] at hS)) | ((with_reducible show WBx ..); (with_reducible apply wpA_box hS); exact rfl; exact rfl; intro _ wx hS; (try simp only [Act.put, List.setIfInBounds_toArray, List.set_cons_zero, List.set_cons_succ]); (try simp only [Act.eval, Array.getD_eq_getD_getElem?, List.getElem?_toArray, List.getElem?_cons_succ, List.getElem?_cons_zero, Option.getD_some, List.set_cons_succ, List.set_cons_zero, Value.cells, List.toList_toArray] at hS)))
          refine wp_region_R (R := fun l w => (w.cell? ⟨g3, 0, none⟩ = some (.pointer (some ⟨p, 0, none⟩))) ∧ (w.cell? ⟨g3, 0, none⟩ = some (.pointer (some ⟨p, 0, none⟩))) ∧ (l.getD 16 true = false → w.cell? ⟨p, 7, none⟩ = some (.slice va1 V.length vc1)) ∧ (w.cell? ⟨g3, 0, none⟩ = some (.pointer (some ⟨p, 0, none⟩))) ∧ (w.cell? ⟨g3, 0, none⟩ = some (.pointer (some ⟨p, 0, none⟩))) ∧ (w.cell? ⟨p, 1, none⟩ = some (.int .i64 ballot))) (by kernel_rfl) ?_
          replace hS := hS.drew
          refine wpAnyR_takeL (i := 0) (v := ?_) (F := (fun w => w.cell? ⟨g3, 0, none⟩ = some (.pointer (some ⟨p, 0, none⟩)))) [] rfl (by kernel_rfl) (by kernel_rfl) (by kernel_rfl) (by kernel_rfl) (by kernel_rfl) (fun _ _ _ h => h) (fun l w => by simp only [getD_set_ne _ (show (0 : Nat) ≠ 16 by decide)]) (fun _ _ hD_ hR_ => hR_.1) rfl ?_ (by exact ⟨(by (with_reducible apply St.cellI hS); (focus repeat constructor); exact rfl), (by (with_reducible apply St.cellI hS); (focus repeat constructor); exact rfl), (fun _ => (by (with_reducible apply St.cellI hS); (focus repeat constructor); exact rfl)), (by (with_reducible apply St.cellI hS); (focus repeat constructor); exact rfl), (by (with_reducible apply St.cellI hS); (focus repeat constructor); exact rfl), (by (with_reducible apply St.cellI hS); (focus repeat constructor); exact rfl)⟩) ?_
          rotate_left
          · intro w hF_; go_simp; (first | done | (with_reducible rfl) | (refine (if_pos ?_).trans ?_; (focus omega); with_reducible rfl) | skip)
          simp only [Act.put, List.setIfInBounds_toArray, List.set_cons_zero, List.set_cons_succ]
          refine wpAnyR_takeL (i := 1) (v := ?_) (F := (fun w => w.cell? ⟨g3, 0, none⟩ = some (.pointer (some ⟨p, 0, none⟩)))) [] rfl (by kernel_rfl) (by kernel_rfl) (by kernel_rfl) (by kernel_rfl) (by kernel_rfl) (fun _ _ _ h => h) (fun l w => by simp only [getD_set_ne _ (show (1 : Nat) ≠ 16 by decide)]) (fun _ _ hD_ hR_ => hR_.2.1) rfl ?_ (by exact ⟨(by (with_reducible apply St.cellI hS); (focus repeat constructor); exact rfl), (by (with_reducible apply St.cellI hS); (focus repeat constructor); exact rfl), (fun _ => (by (with_reducible apply St.cellI hS); (focus repeat constructor); exact rfl)), (by (with_reducible apply St.cellI hS); (focus repeat constructor); exact rfl), (by (with_reducible apply St.cellI hS); (focus repeat constructor); exact rfl), (by (with_reducible apply St.cellI hS); (focus repeat constructor); exact rfl)⟩) ?_
          rotate_left
          · intro w hF_; go_simp; (first | done | (with_reducible rfl) | (refine (if_pos ?_).trans ?_; (focus omega); with_reducible rfl) | skip)
          simp only [Act.put, List.setIfInBounds_toArray, List.set_cons_zero, List.set_cons_succ]
          refine wpAnyR_takeL (i := 2) (v := ?_) (F := (fun _ => True)) [] rfl (by kernel_rfl) (by kernel_rfl) (by kernel_rfl) (by kernel_rfl) (by kernel_rfl) (fun _ _ _ h => h) (fun l w => by simp only [getD_set_ne _ (show (2 : Nat) ≠ 16 by decide)]) (fun _ _ _ _ => trivial) rfl ?_ (by exact ⟨(by (with_reducible apply St.cellI hS); (focus repeat constructor); exact rfl), (by (with_reducible apply St.cellI hS); (focus repeat constructor); exact rfl), (fun _ => (by (with_reducible apply St.cellI hS); (focus repeat constructor); exact rfl)), (by (with_reducible apply St.cellI hS); (focus repeat constructor); exact rfl), (by (with_reducible apply St.cellI hS); (focus repeat constructor); exact rfl), (by (with_reducible apply St.cellI hS); (focus repeat constructor); exact rfl)⟩) ?_
          rotate_left
          · intro w hF_; go_simp; (first | done | (with_reducible rfl) | (refine (if_pos ?_).trans ?_; (focus omega); with_reducible rfl) | skip)
          simp only [Act.put, List.setIfInBounds_toArray, List.set_cons_zero, List.set_cons_succ]
          refine wpAnyR_takeL (i := 3) (v := ?_) (F := (fun _ => True)) [] rfl (by kernel_rfl) (by kernel_rfl) (by kernel_rfl) (by kernel_rfl) (by kernel_rfl) (fun _ _ _ h => h) (fun l w => by simp only [getD_set_ne _ (show (3 : Nat) ≠ 16 by decide)]) (fun _ _ _ _ => trivial) rfl ?_ (by exact ⟨(by (with_reducible apply St.cellI hS); (focus repeat constructor); exact rfl), (by (with_reducible apply St.cellI hS); (focus repeat constructor); exact rfl), (fun _ => (by (with_reducible apply St.cellI hS); (focus repeat constructor); exact rfl)), (by (with_reducible apply St.cellI hS); (focus repeat constructor); exact rfl), (by (with_reducible apply St.cellI hS); (focus repeat constructor); exact rfl), (by (with_reducible apply St.cellI hS); (focus repeat constructor); exact rfl)⟩) ?_
          rotate_left
          · intro w hF_; go_simp; (first | done | (with_reducible rfl) | (refine (if_pos ?_).trans ?_; (focus omega); with_reducible rfl) | skip)
          simp only [Act.put, List.setIfInBounds_toArray, List.set_cons_zero, List.set_cons_succ]
          refine wpAnyR_takeL (i := 4) (v := ?_) (F := (fun w => w.cell? ⟨p, 7, none⟩ = some (.slice va1 V.length vc1))) [13, 16] rfl (by kernel_rfl) (by kernel_rfl) (by kernel_rfl) (by kernel_rfl) (by kernel_rfl) (fun _ _ _ h => h) (fun l w => by simp only [getD_set_ne _ (show (4 : Nat) ≠ 16 by decide)]) (fun _ _ hD_ hR_ => (hR_.2.2.1) (hD_ _ (by simp))) rfl ?_ (by exact ⟨(by (with_reducible apply St.cellI hS); (focus repeat constructor); exact rfl), (by (with_reducible apply St.cellI hS); (focus repeat constructor); exact rfl), (fun _ => (by (with_reducible apply St.cellI hS); (focus repeat constructor); exact rfl)), (by (with_reducible apply St.cellI hS); (focus repeat constructor); exact rfl), (by (with_reducible apply St.cellI hS); (focus repeat constructor); exact rfl), (by (with_reducible apply St.cellI hS); (focus repeat constructor); exact rfl)⟩) ?_
          rotate_left
          · intro w hF_; go_simp; (first | done | (with_reducible rfl) | (refine (if_pos ?_).trans ?_; (focus omega); with_reducible rfl) | skip)
          simp only [Act.put, List.setIfInBounds_toArray, List.set_cons_zero, List.set_cons_succ]
          refine wpAnyR_takeL (i := 5) (v := ?_) (F := (fun w => w.cell? ⟨g3, 0, none⟩ = some (.pointer (some ⟨p, 0, none⟩)))) [] rfl (by kernel_rfl) (by kernel_rfl) (by kernel_rfl) (by kernel_rfl) (by kernel_rfl) (fun _ _ _ h => h) (fun l w => by simp only [getD_set_ne _ (show (5 : Nat) ≠ 16 by decide)]) (fun _ _ hD_ hR_ => hR_.2.2.2.1) rfl ?_ (by exact ⟨(by (with_reducible apply St.cellI hS); (focus repeat constructor); exact rfl), (by (with_reducible apply St.cellI hS); (focus repeat constructor); exact rfl), (fun _ => (by (with_reducible apply St.cellI hS); (focus repeat constructor); exact rfl)), (by (with_reducible apply St.cellI hS); (focus repeat constructor); exact rfl), (by (with_reducible apply St.cellI hS); (focus repeat constructor); exact rfl), (by (with_reducible apply St.cellI hS); (focus repeat constructor); exact rfl)⟩) ?_
          rotate_left
          · intro w hF_; go_simp; (first | done | (with_reducible rfl) | (refine (if_pos ?_).trans ?_; (focus omega); with_reducible rfl) | skip)
          simp only [Act.put, List.setIfInBounds_toArray, List.set_cons_zero, List.set_cons_succ]
          refine wpAnyR_takeL (i := 6) (v := ?_) (F := (fun w => w.cell? ⟨g3, 0, none⟩ = some (.pointer (some ⟨p, 0, none⟩)))) [] rfl (by kernel_rfl) (by kernel_rfl) (by kernel_rfl) (by kernel_rfl) (by kernel_rfl) (fun _ _ _ h => h) (fun l w => by simp only [getD_set_ne _ (show (6 : Nat) ≠ 16 by decide)]) (fun _ _ hD_ hR_ => hR_.2.2.2.2.1) rfl ?_ (by exact ⟨(by (with_reducible apply St.cellI hS); (focus repeat constructor); exact rfl), (by (with_reducible apply St.cellI hS); (focus repeat constructor); exact rfl), (fun _ => (by (with_reducible apply St.cellI hS); (focus repeat constructor); exact rfl)), (by (with_reducible apply St.cellI hS); (focus repeat constructor); exact rfl), (by (with_reducible apply St.cellI hS); (focus repeat constructor); exact rfl), (by (with_reducible apply St.cellI hS); (focus repeat constructor); exact rfl)⟩) ?_
          rotate_left
          · intro w hF_; go_simp; (first | done | (with_reducible rfl) | (refine (if_pos ?_).trans ?_; (focus omega); with_reducible rfl) | skip)
          simp only [Act.put, List.setIfInBounds_toArray, List.set_cons_zero, List.set_cons_succ]
          refine wpAnyR_takeL (i := 7) (v := ?_) (F := (fun _ => True)) [] rfl (by kernel_rfl) (by kernel_rfl) (by kernel_rfl) (by kernel_rfl) (by kernel_rfl) (fun _ _ _ h => h) (fun l w => by simp only [getD_set_ne _ (show (7 : Nat) ≠ 16 by decide)]) (fun _ _ _ _ => trivial) rfl ?_ (by exact ⟨(by (with_reducible apply St.cellI hS); (focus repeat constructor); exact rfl), (by (with_reducible apply St.cellI hS); (focus repeat constructor); exact rfl), (fun _ => (by (with_reducible apply St.cellI hS); (focus repeat constructor); exact rfl)), (by (with_reducible apply St.cellI hS); (focus repeat constructor); exact rfl), (by (with_reducible apply St.cellI hS); (focus repeat constructor); exact rfl), (by (with_reducible apply St.cellI hS); (focus repeat constructor); exact rfl)⟩) ?_
          rotate_left
          · intro w hF_; go_simp; (first | done | (with_reducible rfl) | (refine (if_pos ?_).trans ?_; (focus omega); with_reducible rfl) | skip)
          simp only [Act.put, List.setIfInBounds_toArray, List.set_cons_zero, List.set_cons_succ]
          refine wpAnyR_takeL (i := 8) (v := ?_) (F := (fun _ => True)) [] rfl (by kernel_rfl) (by kernel_rfl) (by kernel_rfl) (by kernel_rfl) (by kernel_rfl) (fun _ _ _ h => h) (fun l w => by simp only [getD_set_ne _ (show (8 : Nat) ≠ 16 by decide)]) (fun _ _ _ _ => trivial) rfl ?_ (by exact ⟨(by (with_reducible apply St.cellI hS); (focus repeat constructor); exact rfl), (by (with_reducible apply St.cellI hS); (focus repeat constructor); exact rfl), (fun _ => (by (with_reducible apply St.cellI hS); (focus repeat constructor); exact rfl)), (by (with_reducible apply St.cellI hS); (focus repeat constructor); exact rfl), (by (with_reducible apply St.cellI hS); (focus repeat constructor); exact rfl), (by (with_reducible apply St.cellI hS); (focus repeat constructor); exact rfl)⟩) ?_
          rotate_left
          · intro w hF_; go_simp; (first | done | (with_reducible rfl) | (refine (if_pos ?_).trans ?_; (focus omega); with_reducible rfl) | skip)
          simp only [Act.put, List.setIfInBounds_toArray, List.set_cons_zero, List.set_cons_succ]
          refine wpAnyR_takeL (i := 9) (v := ?_) (F := (fun w => w.cell? ⟨p, 1, none⟩ = some (.int .i64 ballot))) [] rfl (by kernel_rfl) (by kernel_rfl) (by kernel_rfl) (by kernel_rfl) (by kernel_rfl) (fun _ _ _ h => h) (fun l w => by simp only [getD_set_ne _ (show (9 : Nat) ≠ 16 by decide)]) (fun _ _ hD_ hR_ => hR_.2.2.2.2.2) rfl ?_ (by exact ⟨(by (with_reducible apply St.cellI hS); (focus repeat constructor); exact rfl), (by (with_reducible apply St.cellI hS); (focus repeat constructor); exact rfl), (fun _ => (by (with_reducible apply St.cellI hS); (focus repeat constructor); exact rfl)), (by (with_reducible apply St.cellI hS); (focus repeat constructor); exact rfl), (by (with_reducible apply St.cellI hS); (focus repeat constructor); exact rfl), (by (with_reducible apply St.cellI hS); (focus repeat constructor); exact rfl)⟩) ?_
          rotate_left
          · intro w hF_; go_simp; (first | done | (with_reducible rfl) | (refine (if_pos ?_).trans ?_; (focus omega); with_reducible rfl) | skip)
          simp only [Act.put, List.setIfInBounds_toArray, List.set_cons_zero, List.set_cons_succ]
          refine wpAnyR_takeL (i := 10) (v := ?_) (F := (fun _ => True)) [] rfl (by kernel_rfl) (by kernel_rfl) (by kernel_rfl) (by kernel_rfl) (by kernel_rfl) (fun _ _ _ h => h) (fun l w => by simp only [getD_set_ne _ (show (10 : Nat) ≠ 16 by decide)]) (fun _ _ _ _ => trivial) rfl ?_ (by exact ⟨(by (with_reducible apply St.cellI hS); (focus repeat constructor); exact rfl), (by (with_reducible apply St.cellI hS); (focus repeat constructor); exact rfl), (fun _ => (by (with_reducible apply St.cellI hS); (focus repeat constructor); exact rfl)), (by (with_reducible apply St.cellI hS); (focus repeat constructor); exact rfl), (by (with_reducible apply St.cellI hS); (focus repeat constructor); exact rfl), (by (with_reducible apply St.cellI hS); (focus repeat constructor); exact rfl)⟩) ?_
          rotate_left
          · intro w hF_; go_simp; (first | done | (with_reducible rfl) | (refine (if_pos ?_).trans ?_; (focus omega); with_reducible rfl) | skip)
          simp only [Act.put, List.setIfInBounds_toArray, List.set_cons_zero, List.set_cons_succ]
          refine wpAnyR_oneL (i := 11) (by kernel_rfl) rfl rfl (fun K_ hK_ => ?_)
          ((try simp only [List.set_cons_succ, List.set_cons_zero] at hS); replace hS := hS.sel [1, 5, 0, 2, 3, 4] 6 (by decide) (by decide) (by simp); simp only [List.filterMap_cons, List.filterMap_nil, List.getElem?_cons_succ, List.getElem?_cons_zero, List.drop_succ_cons, List.drop_zero, List.cons_append, List.nil_append] at hS); (apply opA_call (f := 28) Try.func28 (by kernel_rfl); (focus ((try simp only [List.map_toArray, List.map_cons, List.map_nil, Act.eval, Array.getD_eq_getD_getElem?, List.getElem?_toArray, List.getElem?_cons_succ, List.getElem?_cons_zero, Option.getD_some]); exact rfl)); (focus (with_reducible exact (put_s hS ⟨1, 0, 0, ⟨#[]⟩, ballot⟩ HNO.out (by omega) (by omega)))); rintro _ _ ⟨gb, mw2, rfl, hS⟩; refine ⟨_, rfl, ?_⟩; skip)
          refine hK_ _ _ (by exact ⟨(by (with_reducible apply St.cellI hS); (focus repeat constructor); exact rfl), (by (with_reducible apply St.cellI hS); (focus repeat constructor); exact rfl), (fun _ => (by (with_reducible apply St.cellI hS); (focus repeat constructor); exact rfl)), (by (with_reducible apply St.cellI hS); (focus repeat constructor); exact rfl), (by (with_reducible apply St.cellI hS); (focus repeat constructor); exact rfl), (by (with_reducible apply St.cellI hS); (focus repeat constructor); exact rfl)⟩) ?_; clear hK_ K_
          simp only [Act.put, List.setIfInBounds_toArray, List.set_cons_zero, List.set_cons_succ]
          refine wpAnyR_oneL (i := 12) (by kernel_rfl) rfl rfl (fun K_ hK_ => ?_)
          ((with_reducible apply opA_oneN hS (z := .agg #[.int .i64 0, .int .i64 0, .int .i64 0, .int .i64 0, .int .i64 0, .string ⟨#[]⟩, .int .i64 0]) (bytes := 64) (size := 7)); exact Try.underlying26; kernel_rfl; exact rfl; exact rfl; exact rfl; exact (by decide); exact (by decide); intro _ wx hS; (try simp only [Act.eval, Array.getD_eq_getD_getElem?, List.getElem?_toArray, List.getElem?_cons_succ, List.getElem?_cons_zero, Option.getD_some, List.set_cons_succ, List.set_cons_zero, Value.cells, List.toList_toArray] at hS))
          refine hK_ _ _ (by exact ⟨(by (with_reducible apply St.cellI hS); (focus repeat constructor); exact rfl), (by (with_reducible apply St.cellI hS); (focus repeat constructor); exact rfl), (fun _ => (by (with_reducible apply St.cellI hS); (focus repeat constructor); exact rfl)), (by (with_reducible apply St.cellI hS); (focus repeat constructor); exact rfl), (by (with_reducible apply St.cellI hS); (focus repeat constructor); exact rfl), (by (with_reducible apply St.cellI hS); (focus repeat constructor); exact rfl)⟩) ?_; clear hK_ K_
          simp only [Act.put, List.setIfInBounds_toArray, List.set_cons_zero, List.set_cons_succ]
          refine wpAnyR_oneL (i := 13) (by kernel_rfl) rfl rfl (fun K_ hK_ => ?_)
          ((with_reducible apply opA_appendI hS (e := 30) (z := .agg #[.int .i64 0, .int .i64 0, .int .i64 0, .int .i64 0, .int .i64 0, .string ⟨#[]⟩, .int .i64 0]) (size := 7) (bytes := 64)); exact rfl; exact rfl; exact Try.underlying26; (focus repeat constructor); exact .inr Try.underlying26; kernel_rfl; exact rfl; exact (Src.freshN (m := 1) hS 0 rfl rfl (by rfl)); exact (by unfold maxLen; omega); exact (by omega); intro ao2 cap2 wx hS)
          refine hK_ _ _ (by exact ⟨(by (with_reducible apply St.cellI hS); (focus repeat constructor); exact rfl), (by (with_reducible apply St.cellI hS); (focus repeat constructor); exact rfl), (fun _ => (by (with_reducible apply St.cellI hS); (focus repeat constructor); exact rfl)), (by (with_reducible apply St.cellI hS); (focus repeat constructor); exact rfl), (by (with_reducible apply St.cellI hS); (focus repeat constructor); exact rfl), (by (with_reducible apply St.cellI hS); (focus repeat constructor); exact rfl)⟩) ?_; clear hK_ K_
          simp only [Act.put, List.setIfInBounds_toArray, List.set_cons_zero, List.set_cons_succ]
          refine wpAnyR_takeL (i := 14) (v := ?_) (F := (fun _ => True)) [] rfl (by kernel_rfl) (by kernel_rfl) (by kernel_rfl) (by kernel_rfl) (by kernel_rfl) (fun _ _ _ h => h) (fun l w => by simp only [getD_set_ne _ (show (14 : Nat) ≠ 16 by decide)]) (fun _ _ _ _ => trivial) rfl ?_ (by exact ⟨(by (with_reducible apply St.cellI hS); (focus repeat constructor); exact rfl), (by (with_reducible apply St.cellI hS); (focus repeat constructor); exact rfl), (fun _ => (by (with_reducible apply St.cellI hS); (focus repeat constructor); exact rfl)), (by (with_reducible apply St.cellI hS); (focus repeat constructor); exact rfl), (by (with_reducible apply St.cellI hS); (focus repeat constructor); exact rfl), (by (with_reducible apply St.cellI hS); (focus repeat constructor); exact rfl)⟩) ?_
          rotate_left
          · intro w hF_; go_simp; (first | done | (with_reducible rfl) | (refine (if_pos ?_).trans ?_; (focus omega); with_reducible rfl) | skip)
          simp only [Act.put, List.setIfInBounds_toArray, List.set_cons_zero, List.set_cons_succ]
          refine wpAnyR_takeL (i := 15) (v := ?_) (F := (fun _ => True)) [] rfl (by kernel_rfl) (by kernel_rfl) (by kernel_rfl) (by kernel_rfl) (by kernel_rfl) (fun _ _ _ h => h) (fun l w => by simp only [getD_set_ne _ (show (15 : Nat) ≠ 16 by decide)]) (fun _ _ _ _ => trivial) rfl ?_ (by exact ⟨(by (with_reducible apply St.cellI hS); (focus repeat constructor); exact rfl), (by (with_reducible apply St.cellI hS); (focus repeat constructor); exact rfl), (fun _ => (by (with_reducible apply St.cellI hS); (focus repeat constructor); exact rfl)), (by (with_reducible apply St.cellI hS); (focus repeat constructor); exact rfl), (by (with_reducible apply St.cellI hS); (focus repeat constructor); exact rfl), (by (with_reducible apply St.cellI hS); (focus repeat constructor); exact rfl)⟩) ?_
          rotate_left
          · intro w hF_; go_simp; (first | done | (with_reducible rfl) | (refine (if_pos ?_).trans ?_; (focus omega); with_reducible rfl) | skip)
          simp only [Act.put, List.setIfInBounds_toArray, List.set_cons_zero, List.set_cons_succ]
          refine wpAnyR_oneL (i := 16) (by kernel_rfl) rfl rfl (fun K_ hK_ => ?_)
          ((with_reducible apply opA_store1I hS); exact rfl; (focus repeat constructor); exact rfl; exact rfl; exact rfl; exact rfl; kernel_rfl; intro wx hS; (try simp only [Act.eval, Array.getD_eq_getD_getElem?, List.getElem?_toArray, List.getElem?_cons_succ, List.getElem?_cons_zero, Option.getD_some, List.set_cons_succ, List.set_cons_zero, Value.cells, List.toList_toArray] at hS))
          refine hK_ _ _ (by exact ⟨(by (with_reducible apply St.cellI hS); (focus repeat constructor); exact rfl), (by (with_reducible apply St.cellI hS); (focus repeat constructor); exact rfl), (fun h => by cases h), (by (with_reducible apply St.cellI hS); (focus repeat constructor); exact rfl), (by (with_reducible apply St.cellI hS); (focus repeat constructor); exact rfl), (by (with_reducible apply St.cellI hS); (focus repeat constructor); exact rfl)⟩) ?_; clear hK_ K_
          simp only [Act.put, List.setIfInBounds_toArray, List.set_cons_zero, List.set_cons_succ]
          refine wpAnyR_done (by kernel_rfl) ?_ _
          go_wp2_with (first | ((with_reducible show WGd ..); (with_reducible apply wpA_guard); exact rfl; skip) | ((with_reducible show WLd ..); (with_reducible apply wpA_load); exact rfl; (first | ((with_reducible apply St.cellI hS); (focus repeat constructor); exact rfl) | assumption); kernel_rfl) | ((with_reducible show WSt ..); (with_reducible apply wpA_store1I hS); exact rfl; (focus repeat constructor); exact rfl; exact rfl; exact rfl; exact rfl; kernel_rfl; intro wx hS; (try simp only [Act.put, List.setIfInBounds_toArray, List.set_cons_zero, List.set_cons_succ]); (try simp only [Act.eval, Array.getD_eq_getD_getElem?, List.getElem?_toArray, List.getElem?_cons_succ, List.getElem?_cons_zero, Option.getD_some, List.set_cons_succ, List.set_cons_zero, Value.cells, List.toList_toArray] at hS)) | ((with_reducible show WBx ..); (with_reducible apply wpA_box hS); exact rfl; exact rfl; intro _ wx hS; (try simp only [Act.put, List.setIfInBounds_toArray, List.set_cons_zero, List.set_cons_succ]); (try simp only [Act.eval, Array.getD_eq_getD_getElem?, List.getElem?_toArray, List.getElem?_cons_succ, List.getElem?_cons_zero, Option.getD_some, List.set_cons_succ, List.set_cons_zero, Value.cells, List.toList_toArray] at hS)))
          obtain ⟨hO, hkv, hV, hN, hfN, hY⟩ := HZZ.out
          ((try simp only [List.set_cons_succ, List.set_cons_zero] at hS); replace hS := hS.sel [5, 1, 6, 7, 8, 2, 3, 4] 9 (by decide) (by decide) (by simp); simp only [List.filterMap_cons, List.filterMap_nil, List.getElem?_cons_succ, List.getElem?_cons_zero, List.drop_succ_cons, List.drop_zero, List.cons_append, List.nil_append] at hS)
          rw [← hY] at hS
          replace hS := hS.perm (toFront [_, _, _, _, _, _, _, _] _ [_] _ _)
          refine ret_mark hS (fun w' => results_tmp rfl _ _ _) (fun w' hS => ?_)
          have hres := HRES.out
          rw [if_neg (by have := HM.out; omega), HBE.out] at hres
          subst hres
          refine ⟨rfl, ?_⟩
          have e1 : valsD frm ballot B = V ++ [termD (last + 1) ballot] := by unfold valsD; rw [HLA.out, hN, hV]
          have hS := St.sub hS (List.sublist_cons_self _ _)
          have hS : St w0 w' (_ :: _ :: _ :: _ :: _ :: ([_, _] ++ (O.flatMap ohp ++ (_ :: _ :: _ :: R)))) := hS
          have h3 := St.addOne (f := ohp) (A := [_, _, _, _, _]) (z := ⟨gb, mw2, newS (termD (last + 1) ballot)⟩) hS
          refine ⟨mw1, mb1, mo1, ao2, cap2, O ++ [⟨gb, mw2, newS (termD (last + 1) ballot)⟩], ?_, ?_⟩
          · show (O ++ _).map (·.s) = [] ++ (valsD frm ballot B).map newS
            rw [e1, List.map_append, hO, hV]
            simp
          · have e3 : (O ++ [(⟨gb, mw2, newS (termD (last + 1) ballot)⟩ : SlotM)]).map kvO = kvs ++ [(Value.int .i64 (last + 1), Value.pointer (some ⟨gb, 0, none⟩))] := by rw [List.map_append, hkv]; rfl
            rw [e3]
            have e4 : lastD frm B + 2 = last + 1 + 1 := by rw [HLA.out]; omega
            simp only [vrow, List.nil_append, e1, e4, List.length_append, List.length_cons, List.length_nil, Nat.zero_add, List.flatMap_append, List.flatMap_cons, List.flatMap_nil, List.append_nil] at h3 ⊢
            refine St.sub (H := _ :: _ :: _ :: _ :: _ :: (_ ++ (_ :: _ :: _ :: R))) h3 ?_
            exact .cons_cons _ (.cons_cons _ (.cons_cons _ (.cons_cons _ (.cons_cons _ (List.Sublist.append_left (.cons _ (.cons _ (.cons _ (List.Sublist.refl _)))) _)))))
end
end Go.Proofs.Ytkhjkicnalnibaa
