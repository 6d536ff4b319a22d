/-
  The locks, walked: Holders, Token, SetToken.
-/
import Derived.Test.YtelbpnlpmaihhaaLocksW7
import Derived.Test.YtelbpnlpmaihhaaRegA
namespace Go.Proofs.Ytelbpnlpmaihhaa
set_option linter.unusedVariables false
set_option linter.unusedSimpArgs false
open Go.RowKit

set_option maxRecDepth 100000 in
theorem holders_nil (w0 w : World) (H : List Hp) (nm : ByteArray) (hS : St w0 w H) : Calls Try.prog 11 #[.pointer none, .string nm] w fun e w' => e = .returned (.tuple #[.slice none 0 0, .bool false]) ∧ St w0 w' H := by
  go_enter Try.func11, Try.ntmps11
  go_wp2_with (first | ((with_reducible show WGd ..); (with_reducible apply wpA_guard); exact rfl; skip) | ((with_reducible show WLd ..); (with_reducible apply wpA_load); exact rfl; (first | ((with_reducible apply St.cellI hS); (focus repeat constructor); exact rfl) | assumption); kernel_rfl) | ((with_reducible show WSt ..); (with_reducible apply wpA_store1I hS); exact rfl; (focus repeat constructor); exact rfl; exact rfl; exact rfl; exact rfl; kernel_rfl; intro wx hS; (try simp only [Act.put, List.setIfInBounds_toArray, List.set_cons_zero, List.set_cons_succ]); (try simp only [Act.eval, Array.getD_eq_getD_getElem?, List.getElem?_toArray, List.getElem?_cons_succ, List.getElem?_cons_zero, Option.getD_some, List.set_cons_succ, List.set_cons_zero, Value.cells, List.toList_toArray] at hS)) | ((with_reducible show WBx ..); (with_reducible apply wpA_box hS); exact rfl; exact rfl; intro _ wx hS; (try simp only [Act.put, List.setIfInBounds_toArray, List.set_cons_zero, List.set_cons_succ]); (try simp only [Act.eval, Array.getD_eq_getD_getElem?, List.getElem?_toArray, List.getElem?_cons_succ, List.getElem?_cons_zero, Option.getD_some, List.set_cons_succ, List.set_cons_zero, Value.cells, List.toList_toArray] at hS)))
  go_ret2
  exact ⟨rfl, hS⟩

set_option maxRecDepth 100000 in
set_option maxHeartbeats 2000000 in
theorem holders_none (w0 w : World) (R : List Hp) (g : Nat) (σ : LocksS) (nm : ByteArray) (h : LocksSt w0 w g σ R) (hx : aget σ.l nm = none) :
    Calls Try.prog 11 #[.pointer (some ⟨g, 0, none⟩), .string nm] w fun e w' => e = .returned (.tuple #[.slice none 0 0, .bool false]) ∧ LocksSt w0 w' g σ R := by
  obtain ⟨m, Z, hZ, hS⟩ := h.front
  have hlk := locks_none hZ hx
  have fin : ∀ w', St w0 w' (.cells g [.map (some m), .int .u64 σ.tok] 68 :: .mp m .string (Z.map kvL) :: (Z.flatMap lhp ++ R)) → LocksSt w0 w' g σ R := fun w' h => ⟨m, Z, hZ, h⟩
  obtain ⟨kvs, hkv⟩ : ∃ kvs, Z.map kvL = kvs := ⟨_, rfl⟩
  rw [hkv] at hS hlk fin
  have FIN := Lib.hid fin
  clear hZ hkv hx h fin
  go_enter Try.func11, Try.ntmps11
  go_wp2_with (first | ((with_reducible show WGd ..); (with_reducible apply wpA_guard); exact rfl; skip) | ((with_reducible show WLk ..); (with_reducible apply wpA_lookup hS 1 (z := .pointer none) (r := none)); exact rfl; exact rfl; exact rfl; exact Try.underlying66; exact Try.underlying9; exact trivial; kernel_rfl; exact hlk; dsimp only [Option.getD, Option.isSome, if_true, Bool.false_eq_true, if_false]) | ((with_reducible show WLd ..); (with_reducible apply wpA_load); exact rfl; (first | ((with_reducible apply St.cellI hS); (focus repeat constructor); exact rfl) | assumption); kernel_rfl) | ((with_reducible show WSt ..); (with_reducible apply wpA_store1I hS); exact rfl; (focus repeat constructor); exact rfl; exact rfl; exact rfl; exact rfl; kernel_rfl; intro wx hS; (try simp only [Act.put, List.setIfInBounds_toArray, List.set_cons_zero, List.set_cons_succ]); (try simp only [Act.eval, Array.getD_eq_getD_getElem?, List.getElem?_toArray, List.getElem?_cons_succ, List.getElem?_cons_zero, Option.getD_some, List.set_cons_succ, List.set_cons_zero, Value.cells, List.toList_toArray] at hS)) | ((with_reducible show WBx ..); (with_reducible apply wpA_box hS); exact rfl; exact rfl; intro _ wx hS; (try simp only [Act.put, List.setIfInBounds_toArray, List.set_cons_zero, List.set_cons_succ]); (try simp only [Act.eval, Array.getD_eq_getD_getElem?, List.getElem?_toArray, List.getElem?_cons_succ, List.getElem?_cons_zero, Option.getD_some, List.set_cons_succ, List.set_cons_zero, Value.cells, List.toList_toArray] at hS)))
  go_ret2
  exact ⟨rfl, FIN.out _ hS⟩

set_option maxRecDepth 100000 in
set_option maxHeartbeats 4000000 in
theorem holders_some (w0 w : World) (R : List Hp) (g : Nat) (σ : LocksS) (nm : ByteArray) (x : LockS) (h : LocksSt w0 w g σ R) (hx : aget σ.l nm = some x) (hb : x.held.length + x.queue.length ≤ 10000000) :
    Calls Try.prog 11 #[.pointer (some ⟨g, 0, none⟩), .string nm] w fun e w' => ∃ ao cap, e = .returned (.tuple #[.slice ao x.held.length cap, .bool x.writer]) ∧ LocksSt w0 w' g σ (.row 3 1 ao x.held.length cap (x.held.map (Value.int .i64)) :: R) := by
  obtain ⟨m, Z, i, z, hZ, hi, hz, rfl, hS⟩ := locks_open h hx
  have hlk := locks_look hz
  have hsame : aput σ.l nm z.s = σ.l := by
    rw [aput, hi]
    have h1 : σ.l[i]? = some (nm, z.s) := by rw [← hZ, List.getElem?_map, hz]; rfl
    apply List.ext_getElem?
    intro q
    by_cases hq : i = q
    · subst hq; rw [List.getElem?_set_self (List.getElem?_eq_some_iff.1 h1).1, h1]
    · rw [List.getElem?_set_ne hq]
  have hfin : ∀ (w' : World) (A : Hp), St w0 w' (A :: .cells g [.map (some m), .int .u64 σ.tok] 68 :: .mp m .string (Z.map kvL) :: (z.hp ++ ((Z.eraseIdx i).flatMap lhp ++ R))) → LocksSt w0 w' g σ (A :: R) := fun w' A h => by
    have h2 := locks_put (z := z) (z' := z) (R := A :: R) hZ hi hz rfl (h.perm ((List.Perm.swap _ _ _).trans (.cons _ ((List.Perm.swap _ _ _).trans (.cons _ (List.perm_middle.symm.trans (.append_left _ List.perm_middle.symm)))))))
    rw [hsame] at h2
    exact h2
  obtain ⟨D, hD⟩ : ∃ D, (Z.eraseIdx i).flatMap lhp ++ R = D := ⟨_, rfl⟩
  rw [hD] at hS hfin
  obtain ⟨kvs, hkv⟩ : ∃ kvs, Z.map kvL = kvs := ⟨_, rfl⟩
  rw [hkv] at hS hlk hfin
  obtain ⟨blk, ha, hc, qa, qc, ⟨held, wr, queue⟩⟩ := z
  simp only [LM.hp, List.cons_append, List.nil_append] at hS hlk hb hfin ⊢
  have HF := Lib.hid hfin
  clear hfin hsame hZ hi hz hD hkv hx h
  go_enter Try.func11, Try.ntmps11
  go_wp2_with (first | ((with_reducible show WGd ..); (with_reducible apply wpA_guard); exact rfl; skip) | ((with_reducible apply wpA_lookup hS 1 (z := .pointer none) (r := some (.pointer (some ⟨blk, 0, none⟩)))); exact rfl; exact rfl; exact rfl; exact Try.underlying66; exact Try.underlying9; exact trivial; kernel_rfl; exact hlk; dsimp only [Option.getD, Option.isSome, if_true, Bool.false_eq_true, if_false]) | ((with_reducible show WLd ..); (with_reducible apply wpA_load); exact rfl; (first | ((with_reducible apply St.cellI hS); (focus repeat constructor); exact rfl) | assumption); kernel_rfl) | ((with_reducible show WSt ..); (with_reducible apply wpA_store1I hS); exact rfl; (focus repeat constructor); exact rfl; exact rfl; exact rfl; exact rfl; kernel_rfl; intro wx hS; (try simp only [Act.put, List.setIfInBounds_toArray, List.set_cons_zero, List.set_cons_succ]); (try simp only [Act.eval, Array.getD_eq_getD_getElem?, List.getElem?_toArray, List.getElem?_cons_succ, List.getElem?_cons_zero, Option.getD_some, List.set_cons_succ, List.set_cons_zero, Value.cells, List.toList_toArray] at hS)) | ((with_reducible show WBx ..); (with_reducible apply wpA_box hS); exact rfl; exact rfl; intro _ wx hS; (try simp only [Act.put, List.setIfInBounds_toArray, List.set_cons_zero, List.set_cons_succ]); (try simp only [Act.eval, Array.getD_eq_getD_getElem?, List.getElem?_toArray, List.getElem?_cons_succ, List.getElem?_cons_zero, Option.getD_some, List.set_cons_succ, List.set_cons_zero, Value.cells, List.toList_toArray] at hS)))
  refine wp_region_A hS (by kernel_rfl) (fun _ hR hS => ?_)
  simp only [List.length_cons, List.length_nil, Nat.reduceAdd]
  refine takeAP_val (i := 0) ?_ rfl (by exact rfl) (by kernel_rfl) (fun _ _ _ h => h) ?_ hR (fun hR => ?_)
  rotate_left
  · intro w; go_simp; (first | done | (with_reducible rfl) | (refine (if_pos ?_).trans ?_; (focus omega); with_reducible rfl) | skip)
  (simp only [Act.put, List.setIfInBounds_toArray, List.set_cons_zero, List.set_cons_succ])
  refine takeAP_val (i := 1) ?_ rfl (by exact rfl) (by kernel_rfl) (fun _ _ _ h => h) ?_ hR (fun hR => ?_)
  rotate_left
  · intro w; go_simp; (first | done | (with_reducible rfl) | (refine (if_pos ?_).trans ?_; (focus omega); with_reducible rfl) | skip)
  (simp only [Act.put, List.setIfInBounds_toArray, List.set_cons_zero, List.set_cons_succ])
  refine takeAP_val (i := 2) ?_ rfl (by exact rfl) (by kernel_rfl) (fun _ _ _ h => h) ?_ hR (fun hR => ?_)
  rotate_left
  · intro w; go_simp; (first | done | (with_reducible rfl) | (refine (if_pos ?_).trans ?_; (focus omega); with_reducible rfl) | skip)
  (simp only [Act.put, List.setIfInBounds_toArray, List.set_cons_zero, List.set_cons_succ])
  refine takeA_load (i := 3) [] rfl (by exact rfl) (by kernel_rfl) (fun _ _ _ h => h) (by decide) rfl (fun w hS => by (first | ((with_reducible apply St.cellI hS); (focus repeat constructor); exact rfl) | assumption)) (by kernel_rfl) hR (fun hR => ?_)
  (simp only [Act.put, List.setIfInBounds_toArray, List.set_cons_zero, List.set_cons_succ])
  refine takeAP_val (i := 4) ?_ rfl (by exact rfl) (by kernel_rfl) (fun _ _ _ h => h) ?_ hR (fun hR => ?_)
  rotate_left
  · intro w; go_simp; (first | done | (with_reducible rfl) | (refine (if_pos ?_).trans ?_; (focus omega); with_reducible rfl) | skip)
  (simp only [Act.put, List.setIfInBounds_toArray, List.set_cons_zero, List.set_cons_succ])
  refine takeA_lookup (i := 5) [] 1 rfl (by exact rfl) (by kernel_rfl) (z := .pointer none) (some (.pointer (some ⟨blk, 0, none⟩))) (fun _ _ _ h => h) (by decide) rfl rfl rfl Try.underlying66 Try.underlying9 trivial (by kernel_rfl) hlk hR (fun hR => ?_)
  dsimp only [Option.getD, Option.isSome, if_true, Bool.false_eq_true, if_false]
  (simp only [Act.put, List.setIfInBounds_toArray, List.set_cons_zero, List.set_cons_succ])
  refine takeAP_val (i := 6) ?_ rfl (by exact rfl) (by kernel_rfl) (fun _ _ _ h => h) ?_ hR (fun hR => ?_)
  rotate_left
  · intro w; go_simp; (first | done | (with_reducible rfl) | (refine (if_pos ?_).trans ?_; (focus omega); with_reducible rfl) | skip)
  (simp only [Act.put, List.setIfInBounds_toArray, List.set_cons_zero, List.set_cons_succ])
  refine takeAP_val (i := 7) ?_ rfl (by exact rfl) (by kernel_rfl) (fun _ _ _ h => h) ?_ hR (fun hR => ?_)
  rotate_left
  · intro w; go_simp; (first | done | (with_reducible rfl) | (refine (if_pos ?_).trans ?_; (focus omega); with_reducible rfl) | skip)
  (simp only [Act.put, List.setIfInBounds_toArray, List.set_cons_zero, List.set_cons_succ])
  refine takeA_load (i := 8) [] rfl (by exact rfl) (by kernel_rfl) (fun _ _ _ h => h) (by decide) rfl (fun w hS => by (first | ((with_reducible apply St.cellI hS); (focus repeat constructor); exact rfl) | assumption)) (by kernel_rfl) hR (fun hR => ?_)
  (simp only [Act.put, List.setIfInBounds_toArray, List.set_cons_zero, List.set_cons_succ])
  refine takeAP_val (i := 10) ?_ rfl (by exact rfl) (by kernel_rfl) (fun _ _ _ h => h) ?_ hR (fun hR => ?_)
  rotate_left
  · intro w; go_simp; (first | done | (with_reducible rfl) | (refine (if_pos ?_).trans ?_; (focus omega); with_reducible rfl) | skip)
  (simp only [Act.put, List.setIfInBounds_toArray, List.set_cons_zero, List.set_cons_succ])
  refine takeAP_val (i := 11) ?_ rfl (by exact rfl) (by kernel_rfl) (fun _ _ _ h => h) ?_ hR (fun hR => ?_)
  rotate_left
  · intro w; go_simp; (first | done | (with_reducible rfl) | (refine (if_pos ?_).trans ?_; (focus omega); with_reducible rfl) | skip)
  (simp only [Act.put, List.setIfInBounds_toArray, List.set_cons_zero, List.set_cons_succ])
  refine takeAP_val (i := 12) ?_ rfl (by exact rfl) (by kernel_rfl) (fun _ _ _ h => h) ?_ hR (fun hR => ?_)
  rotate_left
  · intro w; go_simp; (first | done | (with_reducible rfl) | (refine (if_pos ?_).trans ?_; (focus omega); with_reducible rfl) | skip)
  (simp only [Act.put, List.setIfInBounds_toArray, List.set_cons_zero, List.set_cons_succ])
  refine takeA_load (i := 13) [] rfl (by exact rfl) (by kernel_rfl) (fun _ _ _ h => h) (by decide) rfl (fun w hS => by (first | ((with_reducible apply St.cellI hS); (focus repeat constructor); exact rfl) | assumption)) (by kernel_rfl) hR (fun hR => ?_)
  (simp only [Act.put, List.setIfInBounds_toArray, List.set_cons_zero, List.set_cons_succ])
  refine takeAP_val (i := 14) ?_ rfl (by exact rfl) (by kernel_rfl) (fun _ _ _ h => h) ?_ hR (fun hR => ?_)
  rotate_left
  · intro w; go_simp; (first | done | (with_reducible rfl) | (refine (if_pos ?_).trans ?_; (focus omega); with_reducible rfl) | skip)
  (simp only [Act.put, List.setIfInBounds_toArray, List.set_cons_zero, List.set_cons_succ])
  refine takeA_lookup (i := 15) [] 1 rfl (by exact rfl) (by kernel_rfl) (z := .pointer none) (some (.pointer (some ⟨blk, 0, none⟩))) (fun _ _ _ h => h) (by decide) rfl rfl rfl Try.underlying66 Try.underlying9 trivial (by kernel_rfl) hlk hR (fun hR => ?_)
  dsimp only [Option.getD, Option.isSome, if_true, Bool.false_eq_true, if_false]
  (simp only [Act.put, List.setIfInBounds_toArray, List.set_cons_zero, List.set_cons_succ])
  refine takeAP_val (i := 16) ?_ rfl (by exact rfl) (by kernel_rfl) (fun _ _ _ h => h) ?_ hR (fun hR => ?_)
  rotate_left
  · intro w; go_simp; (first | done | (with_reducible rfl) | (refine (if_pos ?_).trans ?_; (focus omega); with_reducible rfl) | skip)
  (simp only [Act.put, List.setIfInBounds_toArray, List.set_cons_zero, List.set_cons_succ])
  refine takeAP_val (i := 17) ?_ rfl (by exact rfl) (by kernel_rfl) (fun _ _ _ h => h) ?_ hR (fun hR => ?_)
  rotate_left
  · intro w; go_simp; (first | done | (with_reducible rfl) | (refine (if_pos ?_).trans ?_; (focus omega); with_reducible rfl) | skip)
  (simp only [Act.put, List.setIfInBounds_toArray, List.set_cons_zero, List.set_cons_succ])
  refine takeA_load (i := 18) [] rfl (by exact rfl) (by kernel_rfl) (fun _ _ _ h => h) (by decide) rfl (fun w hS => by (first | ((with_reducible apply St.cellI hS); (focus repeat constructor); exact rfl) | assumption)) (by kernel_rfl) hR (fun hR => ?_)
  (simp only [Act.put, List.setIfInBounds_toArray, List.set_cons_zero, List.set_cons_succ])
  refine oneA (i := 9) (by kernel_rfl) rfl (by exact rfl) (fun K_ hK_ => ?_)
  (apply opA_call (f := 35) Try.func35 (by kernel_rfl); (focus ((try simp only [List.map_toArray, List.map_cons, List.map_nil, Act.eval, Array.getD_eq_getD_getElem?, List.getElem?_toArray, List.getElem?_cons_succ, List.getElem?_cons_zero, Option.getD_some]); exact rfl)); (focus (with_reducible exact (clone_c hS 3 rfl (by omega)))); rintro _ _ ⟨ao2, cap2, rfl, hS⟩; refine ⟨_, rfl, ?_⟩; skip)
  refine hK_ _ _ (id (hS.tail)) ?_; clear hK_ K_
  (simp only [Act.put, List.setIfInBounds_toArray, List.set_cons_zero, List.set_cons_succ])
  refine takeAP_val (i := 19) ?_ rfl (by exact rfl) (by kernel_rfl) (fun _ _ _ h => h) ?_ (id hS.tail) (fun hR => ?_)
  rotate_left
  · intro w; go_simp; (first | done | (with_reducible rfl) | (refine (if_pos ?_).trans ?_; (focus omega); with_reducible rfl) | skip)
  (simp only [Act.put, List.setIfInBounds_toArray, List.set_cons_zero, List.set_cons_succ])
  refine takeAP_val (i := 20) ?_ rfl (by exact rfl) (by kernel_rfl) (fun _ _ _ h => h) ?_ hR (fun hR => ?_)
  rotate_left
  · intro w; go_simp; (first | done | (with_reducible rfl) | (refine (if_pos ?_).trans ?_; (focus omega); with_reducible rfl) | skip)
  (simp only [Act.put, List.setIfInBounds_toArray, List.set_cons_zero, List.set_cons_succ])
  refine wpAnyR_done (by kernel_rfl) ?_ _
  go_wp2_with (first | ((with_reducible show WGd ..); (with_reducible apply wpA_guard); exact rfl; skip) | ((with_reducible show WLd ..); (with_reducible apply wpA_load); exact rfl; (first | ((with_reducible apply St.cellI hS); (focus repeat constructor); exact rfl) | assumption); kernel_rfl) | ((with_reducible show WSt ..); (with_reducible apply wpA_store1I hS); exact rfl; (focus repeat constructor); exact rfl; exact rfl; exact rfl; exact rfl; kernel_rfl; intro wx hS; (try simp only [Act.put, List.setIfInBounds_toArray, List.set_cons_zero, List.set_cons_succ]); (try simp only [Act.eval, Array.getD_eq_getD_getElem?, List.getElem?_toArray, List.getElem?_cons_succ, List.getElem?_cons_zero, Option.getD_some, List.set_cons_succ, List.set_cons_zero, Value.cells, List.toList_toArray] at hS)) | ((with_reducible show WBx ..); (with_reducible apply wpA_box hS); exact rfl; exact rfl; intro _ wx hS; (try simp only [Act.put, List.setIfInBounds_toArray, List.set_cons_zero, List.set_cons_succ]); (try simp only [Act.eval, Array.getD_eq_getD_getElem?, List.getElem?_toArray, List.getElem?_cons_succ, List.getElem?_cons_zero, Option.getD_some, List.set_cons_succ, List.set_cons_zero, Value.cells, List.toList_toArray] at hS)))
  go_ret2
  exact ⟨_, _, rfl, HF.out _ _ hS⟩
end Go.Proofs.Ytelbpnlpmaihhaa
