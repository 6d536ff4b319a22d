/-
  The locks, walked: Release of a lock that is there.
-/
import Derived.Test.YtelbpnlpmaihhaaLocksW6
namespace Go.Proofs.Ytelbpnlpmaihhaa
set_option linter.unusedVariables false
set_option linter.unusedSimpArgs false
open Go.RowKit

set_option maxRecDepth 100000 in
set_option maxHeartbeats 4000000 in
theorem rel_bad (w0 w : World) (R : List Hp) (g : Nat) (σ : LocksS) (c : CmdS) (x : LockS) (h : LocksSt w0 w g σ R) (hk : c.kind = 6 ∨ c.kind = 8) (hx : aget σ.l c.name = some x) (hb : x.held.length + x.queue.length ≤ 10000000) (hp : x.held.Pairwise (· ≤ ·)) (hm : x.writer ≠ (c.kind == 6) ∨ x.held.contains c.session = false) :
    Calls Try.prog 13 #[.pointer (some ⟨g, 0, none⟩), .agg #[.int .i64 c.kind, .int .i64 c.session, .int .i64 c.seq, .string c.name, .int .i64 c.n]] w (RelP w0 g R (relD σ c)) := by
  have e : relD σ c = ([⟨c.session, c.seq, 13, 0, 0⟩], σ) := by
    unfold relD; rw [if_neg (by rintro ⟨h1, h2⟩; rcases hk with h | h <;> simp_all), hx]; simp only; rw [if_pos hm]
  rw [e]
  clear e
  obtain ⟨m, Z, i, z, hZ, hi, hz, rfl, hS⟩ := locks_open h hx
  have hlk0 := locks_look hz
  have hfin : ∀ (w' : World) (tok : Int) (z' : LM) (A : Hp), z'.blk = z.blk → St w0 w' (.cells g [.map (some m), .int .u64 tok] 68 :: .mp m .string (Z.map kvL) :: A :: (z'.hp ++ ((Z.eraseIdx i).flatMap lhp ++ R))) → LocksSt w0 w' g ⟨aput σ.l c.name z'.s, tok⟩ (A :: R) := fun w' tok z' A hb h =>
    locks_put (z := z) hZ hi hz hb (h.perm (.cons _ (.cons _ (List.perm_middle.symm.trans (.append_left _ List.perm_middle.symm)))))
  have hfin2 : ∀ (w' : World) (tok : Int) (z' : LM) (A B : Hp), z'.blk = z.blk → St w0 w' (.cells g [.map (some m), .int .u64 tok] 68 :: .mp m .string (Z.map kvL) :: A :: B :: (z'.hp ++ ((Z.eraseIdx i).flatMap lhp ++ R))) → LocksSt w0 w' g ⟨aput σ.l c.name z'.s, tok⟩ (A :: B :: R) := fun w' tok z' A B hb h =>
    locks_put (z := z) hZ hi hz hb (h.perm (.cons _ (.cons _ ((List.Perm.cons _ (List.perm_middle.symm.trans (.append_left _ List.perm_middle.symm))).trans (List.perm_middle.symm.trans (.append_left _ List.perm_middle.symm))))))
  have hsame : aput σ.l c.name z.s = σ.l := by
    rw [aput, hi]
    have h1 : σ.l[i]? = some (c.name, z.s) := by rw [← hZ, List.getElem?_map, hz]; rfl
    apply List.ext_getElem?
    intro q
    by_cases hq : i = q
    · subst hq; rw [List.getElem?_set_self (List.getElem?_eq_some_iff.1 h1).1, h1]
    · rw [List.getElem?_set_ne hq]
  have HI := Lib.hid hi
  obtain ⟨D, hD⟩ : ∃ D, (Z.eraseIdx i).flatMap lhp ++ R = D := ⟨_, rfl⟩
  rw [hD] at hS hfin hfin2
  obtain ⟨kvs, hkv⟩ : ∃ kvs, Z.map kvL = kvs := ⟨_, rfl⟩
  rw [hkv] at hS hlk0 hfin hfin2
  obtain ⟨blk, ha, hc, qa, qc, ⟨held, wr, queue⟩⟩ := z
  obtain ⟨kind, ses, seq, nm, n⟩ := c
  simp only [LM.hp, List.cons_append, List.nil_append] at hS hlk0 hk hb hfin hfin2 hsame hm hp HI ⊢
  have HF := Lib.hid hfin
  have HF2 := Lib.hid hfin2
  have HSM := Lib.hid hsame
  have HP := Lib.hid hp
  have hlk := hlk0
  clear hlk0 hfin hfin2 hsame hZ hi hz hD hkv hx h hp
  have hh : held.length ≤ 1000000000 := by omega
  have hq : queue.length ≤ 1000000000 := by omega
  rcases hk with rfl | rfl
  · cases wr with
    | false =>
      clear hm
      go_enter Try.func13, Try.ntmps13
      go_wp2_with (first | ((with_reducible show WGd ..); (with_reducible apply wpA_guard); exact rfl; skip) | ((with_reducible show WLd ..); (with_reducible apply wpA_loadN (t := 30)); exact rfl; ((with_reducible apply Hp.rangeI hS (n := 5)); (focus repeat constructor)); kernel_rfl; kernel_rfl; (try simp only [Act.put, List.setIfInBounds_toArray, List.set_cons_zero, List.set_cons_succ])) | ((with_reducible show WLd ..); (with_reducible apply wpA_load); exact rfl; (first | ((with_reducible apply St.cellI hS); (focus repeat constructor); exact rfl) | assumption); kernel_rfl) | ((with_reducible show WSt ..); (with_reducible apply wpA_store1I hS); exact rfl; (focus repeat constructor); exact rfl; exact rfl; exact rfl; exact rfl; kernel_rfl; intro wx hS; (try simp only [Act.put, List.setIfInBounds_toArray, List.set_cons_zero, List.set_cons_succ]); (try simp only [Act.eval, Array.getD_eq_getD_getElem?, List.getElem?_toArray, List.getElem?_cons_succ, List.getElem?_cons_zero, Option.getD_some, List.set_cons_succ, List.set_cons_zero, Value.cells, List.toList_toArray] at hS)) | ((with_reducible show WBx ..); (with_reducible apply wpA_box hS); exact rfl; exact rfl; intro _ wx hS; (try simp only [Act.put, List.setIfInBounds_toArray, List.set_cons_zero, List.set_cons_succ]); (try simp only [Act.eval, Array.getD_eq_getD_getElem?, List.getElem?_toArray, List.getElem?_cons_succ, List.getElem?_cons_zero, Option.getD_some, List.set_cons_succ, List.set_cons_zero, Value.cells, List.toList_toArray] at hS)))
      refine wp_region_St hS (by kernel_rfl) (by kernel_rfl) (Bx.out ?_)
      refine bQ_val ?_ rfl ?_ ?_
      rotate_left
      · intro w hS; go_simp; (first | done | (with_reducible rfl) | (refine (if_pos ?_).trans ?_; (focus omega); with_reducible rfl) | skip)
      (simp only [Act.put, List.setIfInBounds_toArray, List.set_cons_zero, List.set_cons_succ])
      refine bQ_val ?_ rfl ?_ ?_
      rotate_left
      · intro w hS; go_simp; (first | done | (with_reducible rfl) | (refine (if_pos ?_).trans ?_; (focus omega); with_reducible rfl) | skip)
      (simp only [Act.put, List.setIfInBounds_toArray, List.set_cons_zero, List.set_cons_succ])
      refine bQ_val ?_ rfl ?_ ?_
      rotate_left
      · intro w hS; go_simp; (first | done | (with_reducible rfl) | (refine (if_pos ?_).trans ?_; (focus omega); with_reducible rfl) | skip)
      (simp only [Act.put, List.setIfInBounds_toArray, List.set_cons_zero, List.set_cons_succ])
      refine bQ_load rfl (fun w hS => by (first | ((with_reducible apply St.cellI hS); (focus repeat constructor); exact rfl) | assumption)) (by kernel_rfl) ?_
      (simp only [Act.put, List.setIfInBounds_toArray, List.set_cons_zero, List.set_cons_succ])
      refine bQ_val ?_ rfl ?_ ?_
      rotate_left
      · intro w hS; go_simp; (first | done | (with_reducible rfl) | (refine (if_pos ?_).trans ?_; (focus omega); with_reducible rfl) | skip)
      (simp only [Act.put, List.setIfInBounds_toArray, List.set_cons_zero, List.set_cons_succ])
      refine bQ_load rfl (fun w hS => by (first | ((with_reducible apply St.cellI hS); (focus repeat constructor); exact rfl) | assumption)) (by kernel_rfl) ?_
      (simp only [Act.put, List.setIfInBounds_toArray, List.set_cons_zero, List.set_cons_succ])
      refine bQ_lookup 2 (z := .pointer none) (r := some (.pointer (some ⟨blk, 0, none⟩))) rfl rfl rfl Try.underlying66 Try.underlying9 trivial (by kernel_rfl) hlk ?_
      dsimp only [Option.getD, Option.isSome, if_true, Bool.false_eq_true, if_false]
      (simp only [Act.put, List.setIfInBounds_toArray, List.set_cons_zero, List.set_cons_succ])
      refine bQ_val ?_ rfl ?_ ?_
      rotate_left
      · intro w hS; go_simp; (first | done | (with_reducible rfl) | (refine (if_pos ?_).trans ?_; (focus omega); with_reducible rfl) | skip)
      (simp only [Act.put, List.setIfInBounds_toArray, List.set_cons_zero, List.set_cons_succ])
      refine ⟨wpQuiet_nil ?_⟩
      intro wx hS
      go_wp2_with (first | ((with_reducible show WGd ..); (with_reducible apply wpA_guard); exact rfl; skip) | ((with_reducible show WLd ..); (with_reducible apply wpA_loadN (t := 30)); exact rfl; ((with_reducible apply Hp.rangeI hS (n := 5)); (focus repeat constructor)); kernel_rfl; kernel_rfl; (try simp only [Act.put, List.setIfInBounds_toArray, List.set_cons_zero, List.set_cons_succ])) | ((with_reducible show WLd ..); (with_reducible apply wpA_load); exact rfl; (first | ((with_reducible apply St.cellI hS); (focus repeat constructor); exact rfl) | assumption); kernel_rfl) | ((with_reducible show WSt ..); (with_reducible apply wpA_store1I hS); exact rfl; (focus repeat constructor); exact rfl; exact rfl; exact rfl; exact rfl; kernel_rfl; intro wx hS; (try simp only [Act.put, List.setIfInBounds_toArray, List.set_cons_zero, List.set_cons_succ]); (try simp only [Act.eval, Array.getD_eq_getD_getElem?, List.getElem?_toArray, List.getElem?_cons_succ, List.getElem?_cons_zero, Option.getD_some, List.set_cons_succ, List.set_cons_zero, Value.cells, List.toList_toArray] at hS)) | ((with_reducible show WBx ..); (with_reducible apply wpA_box hS); exact rfl; exact rfl; intro _ wx hS; (try simp only [Act.put, List.setIfInBounds_toArray, List.set_cons_zero, List.set_cons_succ]); (try simp only [Act.eval, Array.getD_eq_getD_getElem?, List.getElem?_toArray, List.getElem?_cons_succ, List.getElem?_cons_zero, Option.getD_some, List.set_cons_succ, List.set_cons_zero, Value.cells, List.toList_toArray] at hS)))
      refine wp_region_St hS (by kernel_rfl) (by kernel_rfl) (Bx.out ?_)
      refine bQ_val ?_ rfl ?_ ?_
      rotate_left
      · intro w hS; go_simp; (first | done | (with_reducible rfl) | (refine (if_pos ?_).trans ?_; (focus omega); with_reducible rfl) | skip)
      (simp only [Act.put, List.setIfInBounds_toArray, List.set_cons_zero, List.set_cons_succ])
      refine bQ_val ?_ rfl ?_ ?_
      rotate_left
      · intro w hS; go_simp; (first | done | (with_reducible rfl) | (refine (if_pos ?_).trans ?_; (focus omega); with_reducible rfl) | skip)
      (simp only [Act.put, List.setIfInBounds_toArray, List.set_cons_zero, List.set_cons_succ])
      refine bQ_val ?_ rfl ?_ ?_
      rotate_left
      · intro w hS; go_simp; (first | done | (with_reducible rfl) | (refine (if_pos ?_).trans ?_; (focus omega); with_reducible rfl) | skip)
      (simp only [Act.put, List.setIfInBounds_toArray, List.set_cons_zero, List.set_cons_succ])
      refine bQ_guard (by exact rfl) ?_
      refine bQ_val ?_ rfl ?_ ?_
      rotate_left
      · intro w hS; go_simp; (first | done | (with_reducible rfl) | (refine (if_pos ?_).trans ?_; (focus omega); with_reducible rfl) | skip)
      (simp only [Act.put, List.setIfInBounds_toArray, List.set_cons_zero, List.set_cons_succ])
      refine bQ_guard (by exact rfl) ?_
      refine bQ_val ?_ rfl ?_ ?_
      rotate_left
      · intro w hS; go_simp; (first | done | (with_reducible rfl) | (refine (if_pos ?_).trans ?_; (focus omega); with_reducible rfl) | skip)
      (simp only [Act.put, List.setIfInBounds_toArray, List.set_cons_zero, List.set_cons_succ])
      refine bQ_guard (by exact rfl) ?_
      refine bQ_val ?_ rfl ?_ ?_
      rotate_left
      · intro w hS; go_simp; (first | done | (with_reducible rfl) | (refine (if_pos ?_).trans ?_; (focus omega); with_reducible rfl) | skip)
      (simp only [Act.put, List.setIfInBounds_toArray, List.set_cons_zero, List.set_cons_succ])
      refine bQ_guard (by exact rfl) ?_
      refine bQ_load rfl (fun w hS => by (first | ((with_reducible apply St.cellI hS); (focus repeat constructor); exact rfl) | assumption)) (by kernel_rfl) ?_
      (simp only [Act.put, List.setIfInBounds_toArray, List.set_cons_zero, List.set_cons_succ])
      refine bQ_guard (by exact rfl) ?_
      refine bQ_val ?_ rfl ?_ ?_
      rotate_left
      · intro w hS; go_simp; (first | done | (with_reducible rfl) | (refine (if_pos ?_).trans ?_; (focus omega); with_reducible rfl) | skip)
      (simp only [Act.put, List.setIfInBounds_toArray, List.set_cons_zero, List.set_cons_succ])
      refine bQ_guard (by exact rfl) ?_
      refine bQ_load rfl (fun w hS => by (first | ((with_reducible apply St.cellI hS); (focus repeat constructor); exact rfl) | assumption)) (by kernel_rfl) ?_
      (simp only [Act.put, List.setIfInBounds_toArray, List.set_cons_zero, List.set_cons_succ])
      refine bQ_guard (by exact rfl) ?_
      refine bQ_val ?_ rfl ?_ ?_
      rotate_left
      · intro w hS; go_simp; (first | done | (with_reducible rfl) | (refine (if_pos ?_).trans ?_; (focus omega); with_reducible rfl) | skip)
      (simp only [Act.put, List.setIfInBounds_toArray, List.set_cons_zero, List.set_cons_succ])
      refine bQ_guard (by exact rfl) ?_
      refine bQ_val ?_ rfl ?_ ?_
      rotate_left
      · intro w hS; go_simp; (first | done | (with_reducible rfl) | (refine (if_pos ?_).trans ?_; (focus omega); with_reducible rfl) | skip)
      (simp only [Act.put, List.setIfInBounds_toArray, List.set_cons_zero, List.set_cons_succ])
      refine bQ_val ?_ rfl ?_ ?_
      rotate_left
      · intro w hS; go_simp; (first | done | (with_reducible rfl) | (refine (if_pos ?_).trans ?_; (focus omega); with_reducible rfl) | skip)
      (simp only [Act.put, List.setIfInBounds_toArray, List.set_cons_zero, List.set_cons_succ])
      refine bQ_val ?_ rfl ?_ ?_
      rotate_left
      · intro w hS; go_simp; (first | done | (with_reducible rfl) | (refine (if_pos ?_).trans ?_; (focus omega); with_reducible rfl) | skip)
      (simp only [Act.put, List.setIfInBounds_toArray, List.set_cons_zero, List.set_cons_succ])
      refine bQ_skip (by exact rfl) ?_
      (simp only [Act.put, List.setIfInBounds_toArray, List.set_cons_zero, List.set_cons_succ])
      refine bQ_skip (by exact rfl) ?_
      (simp only [Act.put, List.setIfInBounds_toArray, List.set_cons_zero, List.set_cons_succ])
      refine bQ_skip (by exact rfl) ?_
      (simp only [Act.put, List.setIfInBounds_toArray, List.set_cons_zero, List.set_cons_succ])
      refine bQ_skip (by exact rfl) ?_
      (simp only [Act.put, List.setIfInBounds_toArray, List.set_cons_zero, List.set_cons_succ])
      refine bQ_skip (by exact rfl) ?_
      (simp only [Act.put, List.setIfInBounds_toArray, List.set_cons_zero, List.set_cons_succ])
      refine bQ_skip (by exact rfl) ?_
      (simp only [Act.put, List.setIfInBounds_toArray, List.set_cons_zero, List.set_cons_succ])
      refine bQ_skip (by exact rfl) ?_
      (simp only [Act.put, List.setIfInBounds_toArray, List.set_cons_zero, List.set_cons_succ])
      refine bQ_skip (by exact rfl) ?_
      (simp only [Act.put, List.setIfInBounds_toArray, List.set_cons_zero, List.set_cons_succ])
      refine bQ_val ?_ rfl ?_ ?_
      rotate_left
      · intro w hS; go_simp; (first | done | (with_reducible rfl) | (refine (if_pos ?_).trans ?_; (focus omega); with_reducible rfl) | skip)
      (simp only [Act.put, List.setIfInBounds_toArray, List.set_cons_zero, List.set_cons_succ])
      refine ⟨wpQuiet_nil ?_⟩
      intro wx hS
      go_wp2_with (first | ((with_reducible show WGd ..); (with_reducible apply wpA_guard); exact rfl; skip) | (go_at_call 32; with_reducible refine (one_c w0 _ _ hS ⟨_, ses, seq, nm, n⟩ 13).mono ?_; rintro _ _ ⟨gg, rfl, hS⟩) | ((with_reducible show WLd ..); (with_reducible apply wpA_loadN (t := 30)); exact rfl; ((with_reducible apply Hp.rangeI hS (n := 5)); (focus repeat constructor)); kernel_rfl; kernel_rfl; (try simp only [Act.put, List.setIfInBounds_toArray, List.set_cons_zero, List.set_cons_succ])) | ((with_reducible show WLd ..); (with_reducible apply wpA_load); exact rfl; (first | ((with_reducible apply St.cellI hS); (focus repeat constructor); exact rfl) | assumption); kernel_rfl) | ((with_reducible show WSt ..); (with_reducible apply wpA_store1I hS); exact rfl; (focus repeat constructor); exact rfl; exact rfl; exact rfl; exact rfl; kernel_rfl; intro wx hS; (try simp only [Act.put, List.setIfInBounds_toArray, List.set_cons_zero, List.set_cons_succ]); (try simp only [Act.eval, Array.getD_eq_getD_getElem?, List.getElem?_toArray, List.getElem?_cons_succ, List.getElem?_cons_zero, Option.getD_some, List.set_cons_succ, List.set_cons_zero, Value.cells, List.toList_toArray] at hS)) | ((with_reducible show WBx ..); (with_reducible apply wpA_box hS); exact rfl; exact rfl; intro _ wx hS; (try simp only [Act.put, List.setIfInBounds_toArray, List.set_cons_zero, List.set_cons_succ]); (try simp only [Act.eval, Array.getD_eq_getD_getElem?, List.getElem?_toArray, List.getElem?_cons_succ, List.getElem?_cons_zero, Option.getD_some, List.set_cons_succ, List.set_cons_zero, Value.cells, List.toList_toArray] at hS)))
      go_ret
      refine ⟨_, _, rfl, ?_⟩
      have h2 := HF.out _ σ.tok ⟨blk, ha, hc, qa, qc, ⟨held, false, queue⟩⟩ _ rfl ((hS).sel [2, 3, 0, 4, 5, 6] 7 (by decide) (by decide) (by simp))
      rw [HSM.out] at h2
      exact h2
    | true =>
      have hm2 : held.contains ses = false := hm.elim (fun h => absurd rfl h) id
      have HM := Lib.hid hm2
      clear hm hm2
      go_enter Try.func13, Try.ntmps13
      go_wp2_with (first | ((with_reducible show WGd ..); (with_reducible apply wpA_guard); exact rfl; skip) | ((with_reducible show WLd ..); (with_reducible apply wpA_loadN (t := 30)); exact rfl; ((with_reducible apply Hp.rangeI hS (n := 5)); (focus repeat constructor)); kernel_rfl; kernel_rfl; (try simp only [Act.put, List.setIfInBounds_toArray, List.set_cons_zero, List.set_cons_succ])) | ((with_reducible show WLd ..); (with_reducible apply wpA_load); exact rfl; (first | ((with_reducible apply St.cellI hS); (focus repeat constructor); exact rfl) | assumption); kernel_rfl) | ((with_reducible show WSt ..); (with_reducible apply wpA_store1I hS); exact rfl; (focus repeat constructor); exact rfl; exact rfl; exact rfl; exact rfl; kernel_rfl; intro wx hS; (try simp only [Act.put, List.setIfInBounds_toArray, List.set_cons_zero, List.set_cons_succ]); (try simp only [Act.eval, Array.getD_eq_getD_getElem?, List.getElem?_toArray, List.getElem?_cons_succ, List.getElem?_cons_zero, Option.getD_some, List.set_cons_succ, List.set_cons_zero, Value.cells, List.toList_toArray] at hS)) | ((with_reducible show WBx ..); (with_reducible apply wpA_box hS); exact rfl; exact rfl; intro _ wx hS; (try simp only [Act.put, List.setIfInBounds_toArray, List.set_cons_zero, List.set_cons_succ]); (try simp only [Act.eval, Array.getD_eq_getD_getElem?, List.getElem?_toArray, List.getElem?_cons_succ, List.getElem?_cons_zero, Option.getD_some, List.set_cons_succ, List.set_cons_zero, Value.cells, List.toList_toArray] at hS)))
      refine wp_region_St hS (by kernel_rfl) (by kernel_rfl) (Bx.out ?_)
      refine bQ_val ?_ rfl ?_ ?_
      rotate_left
      · intro w hS; go_simp; (first | done | (with_reducible rfl) | (refine (if_pos ?_).trans ?_; (focus omega); with_reducible rfl) | skip)
      (simp only [Act.put, List.setIfInBounds_toArray, List.set_cons_zero, List.set_cons_succ])
      refine bQ_val ?_ rfl ?_ ?_
      rotate_left
      · intro w hS; go_simp; (first | done | (with_reducible rfl) | (refine (if_pos ?_).trans ?_; (focus omega); with_reducible rfl) | skip)
      (simp only [Act.put, List.setIfInBounds_toArray, List.set_cons_zero, List.set_cons_succ])
      refine bQ_val ?_ rfl ?_ ?_
      rotate_left
      · intro w hS; go_simp; (first | done | (with_reducible rfl) | (refine (if_pos ?_).trans ?_; (focus omega); with_reducible rfl) | skip)
      (simp only [Act.put, List.setIfInBounds_toArray, List.set_cons_zero, List.set_cons_succ])
      refine bQ_load rfl (fun w hS => by (first | ((with_reducible apply St.cellI hS); (focus repeat constructor); exact rfl) | assumption)) (by kernel_rfl) ?_
      (simp only [Act.put, List.setIfInBounds_toArray, List.set_cons_zero, List.set_cons_succ])
      refine bQ_val ?_ rfl ?_ ?_
      rotate_left
      · intro w hS; go_simp; (first | done | (with_reducible rfl) | (refine (if_pos ?_).trans ?_; (focus omega); with_reducible rfl) | skip)
      (simp only [Act.put, List.setIfInBounds_toArray, List.set_cons_zero, List.set_cons_succ])
      refine bQ_load rfl (fun w hS => by (first | ((with_reducible apply St.cellI hS); (focus repeat constructor); exact rfl) | assumption)) (by kernel_rfl) ?_
      (simp only [Act.put, List.setIfInBounds_toArray, List.set_cons_zero, List.set_cons_succ])
      refine bQ_lookup 2 (z := .pointer none) (r := some (.pointer (some ⟨blk, 0, none⟩))) rfl rfl rfl Try.underlying66 Try.underlying9 trivial (by kernel_rfl) hlk ?_
      dsimp only [Option.getD, Option.isSome, if_true, Bool.false_eq_true, if_false]
      (simp only [Act.put, List.setIfInBounds_toArray, List.set_cons_zero, List.set_cons_succ])
      refine bQ_val ?_ rfl ?_ ?_
      rotate_left
      · intro w hS; go_simp; (first | done | (with_reducible rfl) | (refine (if_pos ?_).trans ?_; (focus omega); with_reducible rfl) | skip)
      (simp only [Act.put, List.setIfInBounds_toArray, List.set_cons_zero, List.set_cons_succ])
      refine ⟨wpQuiet_nil ?_⟩
      intro wx hS
      go_wp2_with (first | ((with_reducible show WGd ..); (with_reducible apply wpA_guard); exact rfl; skip) | ((with_reducible show WLd ..); (with_reducible apply wpA_loadN (t := 30)); exact rfl; ((with_reducible apply Hp.rangeI hS (n := 5)); (focus repeat constructor)); kernel_rfl; kernel_rfl; (try simp only [Act.put, List.setIfInBounds_toArray, List.set_cons_zero, List.set_cons_succ])) | ((with_reducible show WLd ..); (with_reducible apply wpA_load); exact rfl; (first | ((with_reducible apply St.cellI hS); (focus repeat constructor); exact rfl) | assumption); kernel_rfl) | ((with_reducible show WSt ..); (with_reducible apply wpA_store1I hS); exact rfl; (focus repeat constructor); exact rfl; exact rfl; exact rfl; exact rfl; kernel_rfl; intro wx hS; (try simp only [Act.put, List.setIfInBounds_toArray, List.set_cons_zero, List.set_cons_succ]); (try simp only [Act.eval, Array.getD_eq_getD_getElem?, List.getElem?_toArray, List.getElem?_cons_succ, List.getElem?_cons_zero, Option.getD_some, List.set_cons_succ, List.set_cons_zero, Value.cells, List.toList_toArray] at hS)) | ((with_reducible show WBx ..); (with_reducible apply wpA_box hS); exact rfl; exact rfl; intro _ wx hS; (try simp only [Act.put, List.setIfInBounds_toArray, List.set_cons_zero, List.set_cons_succ]); (try simp only [Act.eval, Array.getD_eq_getD_getElem?, List.getElem?_toArray, List.getElem?_cons_succ, List.getElem?_cons_zero, Option.getD_some, List.set_cons_succ, List.set_cons_zero, Value.cells, List.toList_toArray] at hS)))
      refine wp_region_St hS (by kernel_rfl) (by kernel_rfl) (Bx.out ?_)
      refine bQ_val ?_ rfl ?_ ?_
      rotate_left
      · intro w hS; go_simp; (first | done | (with_reducible rfl) | (refine (if_pos ?_).trans ?_; (focus omega); with_reducible rfl) | skip)
      (simp only [Act.put, List.setIfInBounds_toArray, List.set_cons_zero, List.set_cons_succ])
      refine bQ_val ?_ rfl ?_ ?_
      rotate_left
      · intro w hS; go_simp; (first | done | (with_reducible rfl) | (refine (if_pos ?_).trans ?_; (focus omega); with_reducible rfl) | skip)
      (simp only [Act.put, List.setIfInBounds_toArray, List.set_cons_zero, List.set_cons_succ])
      refine bQ_val ?_ rfl ?_ ?_
      rotate_left
      · intro w hS; go_simp; (first | done | (with_reducible rfl) | (refine (if_pos ?_).trans ?_; (focus omega); with_reducible rfl) | skip)
      (simp only [Act.put, List.setIfInBounds_toArray, List.set_cons_zero, List.set_cons_succ])
      refine bQ_guard (by exact rfl) ?_
      refine bQ_val ?_ rfl ?_ ?_
      rotate_left
      · intro w hS; go_simp; (first | done | (with_reducible rfl) | (refine (if_pos ?_).trans ?_; (focus omega); with_reducible rfl) | skip)
      (simp only [Act.put, List.setIfInBounds_toArray, List.set_cons_zero, List.set_cons_succ])
      refine bQ_guard (by exact rfl) ?_
      refine bQ_val ?_ rfl ?_ ?_
      rotate_left
      · intro w hS; go_simp; (first | done | (with_reducible rfl) | (refine (if_pos ?_).trans ?_; (focus omega); with_reducible rfl) | skip)
      (simp only [Act.put, List.setIfInBounds_toArray, List.set_cons_zero, List.set_cons_succ])
      refine bQ_guard (by exact rfl) ?_
      refine bQ_val ?_ rfl ?_ ?_
      rotate_left
      · intro w hS; go_simp; (first | done | (with_reducible rfl) | (refine (if_pos ?_).trans ?_; (focus omega); with_reducible rfl) | skip)
      (simp only [Act.put, List.setIfInBounds_toArray, List.set_cons_zero, List.set_cons_succ])
      refine bQ_guard (by exact rfl) ?_
      refine bQ_load rfl (fun w hS => by (first | ((with_reducible apply St.cellI hS); (focus repeat constructor); exact rfl) | assumption)) (by kernel_rfl) ?_
      (simp only [Act.put, List.setIfInBounds_toArray, List.set_cons_zero, List.set_cons_succ])
      refine bQ_guard (by exact rfl) ?_
      refine bQ_val ?_ rfl ?_ ?_
      rotate_left
      · intro w hS; go_simp; (first | done | (with_reducible rfl) | (refine (if_pos ?_).trans ?_; (focus omega); with_reducible rfl) | skip)
      (simp only [Act.put, List.setIfInBounds_toArray, List.set_cons_zero, List.set_cons_succ])
      refine bQ_guard (by exact rfl) ?_
      refine bQ_load rfl (fun w hS => by (first | ((with_reducible apply St.cellI hS); (focus repeat constructor); exact rfl) | assumption)) (by kernel_rfl) ?_
      (simp only [Act.put, List.setIfInBounds_toArray, List.set_cons_zero, List.set_cons_succ])
      refine bQ_guard (by exact rfl) ?_
      refine bQ_val ?_ rfl ?_ ?_
      rotate_left
      · intro w hS; go_simp; (first | done | (with_reducible rfl) | (refine (if_pos ?_).trans ?_; (focus omega); with_reducible rfl) | skip)
      (simp only [Act.put, List.setIfInBounds_toArray, List.set_cons_zero, List.set_cons_succ])
      refine bQ_guard (by exact rfl) ?_
      refine bQ_val ?_ rfl ?_ ?_
      rotate_left
      · intro w hS; go_simp; (first | done | (with_reducible rfl) | (refine (if_pos ?_).trans ?_; (focus omega); with_reducible rfl) | skip)
      (simp only [Act.put, List.setIfInBounds_toArray, List.set_cons_zero, List.set_cons_succ])
      refine bQ_val ?_ rfl ?_ ?_
      rotate_left
      · intro w hS; go_simp; (first | done | (with_reducible rfl) | (refine (if_pos ?_).trans ?_; (focus omega); with_reducible rfl) | skip)
      (simp only [Act.put, List.setIfInBounds_toArray, List.set_cons_zero, List.set_cons_succ])
      refine bQ_val ?_ rfl ?_ ?_
      rotate_left
      · intro w hS; go_simp; (first | done | (with_reducible rfl) | (refine (if_pos ?_).trans ?_; (focus omega); with_reducible rfl) | skip)
      (simp only [Act.put, List.setIfInBounds_toArray, List.set_cons_zero, List.set_cons_succ])
      refine bQ_guard (by exact rfl) ?_
      refine bQ_val ?_ rfl ?_ ?_
      rotate_left
      · intro w hS; go_simp; (first | done | (with_reducible rfl) | (refine (if_pos ?_).trans ?_; (focus omega); with_reducible rfl) | skip)
      (simp only [Act.put, List.setIfInBounds_toArray, List.set_cons_zero, List.set_cons_succ])
      refine bQ_guard (by exact rfl) ?_
      refine bQ_val ?_ rfl ?_ ?_
      rotate_left
      · intro w hS; go_simp; (first | done | (with_reducible rfl) | (refine (if_pos ?_).trans ?_; (focus omega); with_reducible rfl) | skip)
      (simp only [Act.put, List.setIfInBounds_toArray, List.set_cons_zero, List.set_cons_succ])
      refine bQ_guard (by exact rfl) ?_
      refine bQ_val ?_ rfl ?_ ?_
      rotate_left
      · intro w hS; go_simp; (first | done | (with_reducible rfl) | (refine (if_pos ?_).trans ?_; (focus omega); with_reducible rfl) | skip)
      (simp only [Act.put, List.setIfInBounds_toArray, List.set_cons_zero, List.set_cons_succ])
      refine bQ_guard (by exact rfl) ?_
      refine bQ_load rfl (fun w hS => by (first | ((with_reducible apply St.cellI hS); (focus repeat constructor); exact rfl) | assumption)) (by kernel_rfl) ?_
      (simp only [Act.put, List.setIfInBounds_toArray, List.set_cons_zero, List.set_cons_succ])
      refine bQ_guard (by exact rfl) ?_
      refine bQ_val ?_ rfl ?_ ?_
      rotate_left
      · intro w hS; go_simp; (first | done | (with_reducible rfl) | (refine (if_pos ?_).trans ?_; (focus omega); with_reducible rfl) | skip)
      (simp only [Act.put, List.setIfInBounds_toArray, List.set_cons_zero, List.set_cons_succ])
      refine bQ_guard (by exact rfl) ?_
      refine bQ_load rfl (fun w hS => by (first | ((with_reducible apply St.cellI hS); (focus repeat constructor); exact rfl) | assumption)) (by kernel_rfl) ?_
      (simp only [Act.put, List.setIfInBounds_toArray, List.set_cons_zero, List.set_cons_succ])
      refine bQ_guard (by exact rfl) ?_
      apply bQ_call (f := 37) Try.func37 (by kernel_rfl) (.bool false)
      · (try simp only [List.map_toArray, List.map_cons, List.map_nil, Act.eval, Array.getD_eq_getD_getElem?, List.getElem?_toArray, List.getElem?_cons_succ, List.getElem?_cons_zero, Option.getD_some]); exact rfl
      · intro w hS; with_reducible exact (calls_same hS (HM.out ▸ contains_c hS 4 ses rfl (by omega)))
      (simp only [Act.put, List.setIfInBounds_toArray, List.set_cons_zero, List.set_cons_succ])
      refine bQ_guard (by exact rfl) ?_
      refine bQ_val ?_ rfl ?_ ?_
      rotate_left
      · intro w hS; go_simp; (first | done | (with_reducible rfl) | (refine (if_pos ?_).trans ?_; (focus omega); with_reducible rfl) | skip)
      (simp only [Act.put, List.setIfInBounds_toArray, List.set_cons_zero, List.set_cons_succ])
      refine bQ_val ?_ rfl ?_ ?_
      rotate_left
      · intro w hS; go_simp; (first | done | (with_reducible rfl) | (refine (if_pos ?_).trans ?_; (focus omega); with_reducible rfl) | skip)
      (simp only [Act.put, List.setIfInBounds_toArray, List.set_cons_zero, List.set_cons_succ])
      refine ⟨wpQuiet_nil ?_⟩
      intro wx hS
      go_wp2_with (first | ((with_reducible show WGd ..); (with_reducible apply wpA_guard); exact rfl; skip) | (go_at_call 32; with_reducible refine (one_c w0 _ _ hS ⟨_, ses, seq, nm, n⟩ 13).mono ?_; rintro _ _ ⟨gg, rfl, hS⟩) | ((with_reducible show WLd ..); (with_reducible apply wpA_loadN (t := 30)); exact rfl; ((with_reducible apply Hp.rangeI hS (n := 5)); (focus repeat constructor)); kernel_rfl; kernel_rfl; (try simp only [Act.put, List.setIfInBounds_toArray, List.set_cons_zero, List.set_cons_succ])) | ((with_reducible show WLd ..); (with_reducible apply wpA_load); exact rfl; (first | ((with_reducible apply St.cellI hS); (focus repeat constructor); exact rfl) | assumption); kernel_rfl) | ((with_reducible show WSt ..); (with_reducible apply wpA_store1I hS); exact rfl; (focus repeat constructor); exact rfl; exact rfl; exact rfl; exact rfl; kernel_rfl; intro wx hS; (try simp only [Act.put, List.setIfInBounds_toArray, List.set_cons_zero, List.set_cons_succ]); (try simp only [Act.eval, Array.getD_eq_getD_getElem?, List.getElem?_toArray, List.getElem?_cons_succ, List.getElem?_cons_zero, Option.getD_some, List.set_cons_succ, List.set_cons_zero, Value.cells, List.toList_toArray] at hS)) | ((with_reducible show WBx ..); (with_reducible apply wpA_box hS); exact rfl; exact rfl; intro _ wx hS; (try simp only [Act.put, List.setIfInBounds_toArray, List.set_cons_zero, List.set_cons_succ]); (try simp only [Act.eval, Array.getD_eq_getD_getElem?, List.getElem?_toArray, List.getElem?_cons_succ, List.getElem?_cons_zero, Option.getD_some, List.set_cons_succ, List.set_cons_zero, Value.cells, List.toList_toArray] at hS)))
      go_ret
      refine ⟨_, _, rfl, ?_⟩
      have h2 := HF.out _ σ.tok ⟨blk, ha, hc, qa, qc, ⟨held, true, queue⟩⟩ _ rfl ((hS).sel [2, 3, 0, 4, 5, 6] 7 (by decide) (by decide) (by simp))
      rw [HSM.out] at h2
      exact h2
  · cases wr with
    | true =>
      clear hm
      go_enter Try.func13, Try.ntmps13
      go_wp2_with (first | ((with_reducible show WGd ..); (with_reducible apply wpA_guard); exact rfl; skip) | ((with_reducible show WLd ..); (with_reducible apply wpA_loadN (t := 30)); exact rfl; ((with_reducible apply Hp.rangeI hS (n := 5)); (focus repeat constructor)); kernel_rfl; kernel_rfl; (try simp only [Act.put, List.setIfInBounds_toArray, List.set_cons_zero, List.set_cons_succ])) | ((with_reducible show WLd ..); (with_reducible apply wpA_load); exact rfl; (first | ((with_reducible apply St.cellI hS); (focus repeat constructor); exact rfl) | assumption); kernel_rfl) | ((with_reducible show WSt ..); (with_reducible apply wpA_store1I hS); exact rfl; (focus repeat constructor); exact rfl; exact rfl; exact rfl; exact rfl; kernel_rfl; intro wx hS; (try simp only [Act.put, List.setIfInBounds_toArray, List.set_cons_zero, List.set_cons_succ]); (try simp only [Act.eval, Array.getD_eq_getD_getElem?, List.getElem?_toArray, List.getElem?_cons_succ, List.getElem?_cons_zero, Option.getD_some, List.set_cons_succ, List.set_cons_zero, Value.cells, List.toList_toArray] at hS)) | ((with_reducible show WBx ..); (with_reducible apply wpA_box hS); exact rfl; exact rfl; intro _ wx hS; (try simp only [Act.put, List.setIfInBounds_toArray, List.set_cons_zero, List.set_cons_succ]); (try simp only [Act.eval, Array.getD_eq_getD_getElem?, List.getElem?_toArray, List.getElem?_cons_succ, List.getElem?_cons_zero, Option.getD_some, List.set_cons_succ, List.set_cons_zero, Value.cells, List.toList_toArray] at hS)))
      refine wp_region_St hS (by kernel_rfl) (by kernel_rfl) (Bx.out ?_)
      refine bQ_val ?_ rfl ?_ ?_
      rotate_left
      · intro w hS; go_simp; (first | done | (with_reducible rfl) | (refine (if_pos ?_).trans ?_; (focus omega); with_reducible rfl) | skip)
      (simp only [Act.put, List.setIfInBounds_toArray, List.set_cons_zero, List.set_cons_succ])
      refine bQ_val ?_ rfl ?_ ?_
      rotate_left
      · intro w hS; go_simp; (first | done | (with_reducible rfl) | (refine (if_pos ?_).trans ?_; (focus omega); with_reducible rfl) | skip)
      (simp only [Act.put, List.setIfInBounds_toArray, List.set_cons_zero, List.set_cons_succ])
      refine bQ_val ?_ rfl ?_ ?_
      rotate_left
      · intro w hS; go_simp; (first | done | (with_reducible rfl) | (refine (if_pos ?_).trans ?_; (focus omega); with_reducible rfl) | skip)
      (simp only [Act.put, List.setIfInBounds_toArray, List.set_cons_zero, List.set_cons_succ])
      refine bQ_load rfl (fun w hS => by (first | ((with_reducible apply St.cellI hS); (focus repeat constructor); exact rfl) | assumption)) (by kernel_rfl) ?_
      (simp only [Act.put, List.setIfInBounds_toArray, List.set_cons_zero, List.set_cons_succ])
      refine bQ_val ?_ rfl ?_ ?_
      rotate_left
      · intro w hS; go_simp; (first | done | (with_reducible rfl) | (refine (if_pos ?_).trans ?_; (focus omega); with_reducible rfl) | skip)
      (simp only [Act.put, List.setIfInBounds_toArray, List.set_cons_zero, List.set_cons_succ])
      refine bQ_load rfl (fun w hS => by (first | ((with_reducible apply St.cellI hS); (focus repeat constructor); exact rfl) | assumption)) (by kernel_rfl) ?_
      (simp only [Act.put, List.setIfInBounds_toArray, List.set_cons_zero, List.set_cons_succ])
      refine bQ_lookup 2 (z := .pointer none) (r := some (.pointer (some ⟨blk, 0, none⟩))) rfl rfl rfl Try.underlying66 Try.underlying9 trivial (by kernel_rfl) hlk ?_
      dsimp only [Option.getD, Option.isSome, if_true, Bool.false_eq_true, if_false]
      (simp only [Act.put, List.setIfInBounds_toArray, List.set_cons_zero, List.set_cons_succ])
      refine bQ_val ?_ rfl ?_ ?_
      rotate_left
      · intro w hS; go_simp; (first | done | (with_reducible rfl) | (refine (if_pos ?_).trans ?_; (focus omega); with_reducible rfl) | skip)
      (simp only [Act.put, List.setIfInBounds_toArray, List.set_cons_zero, List.set_cons_succ])
      refine ⟨wpQuiet_nil ?_⟩
      intro wx hS
      go_wp2_with (first | ((with_reducible show WGd ..); (with_reducible apply wpA_guard); exact rfl; skip) | ((with_reducible show WLd ..); (with_reducible apply wpA_loadN (t := 30)); exact rfl; ((with_reducible apply Hp.rangeI hS (n := 5)); (focus repeat constructor)); kernel_rfl; kernel_rfl; (try simp only [Act.put, List.setIfInBounds_toArray, List.set_cons_zero, List.set_cons_succ])) | ((with_reducible show WLd ..); (with_reducible apply wpA_load); exact rfl; (first | ((with_reducible apply St.cellI hS); (focus repeat constructor); exact rfl) | assumption); kernel_rfl) | ((with_reducible show WSt ..); (with_reducible apply wpA_store1I hS); exact rfl; (focus repeat constructor); exact rfl; exact rfl; exact rfl; exact rfl; kernel_rfl; intro wx hS; (try simp only [Act.put, List.setIfInBounds_toArray, List.set_cons_zero, List.set_cons_succ]); (try simp only [Act.eval, Array.getD_eq_getD_getElem?, List.getElem?_toArray, List.getElem?_cons_succ, List.getElem?_cons_zero, Option.getD_some, List.set_cons_succ, List.set_cons_zero, Value.cells, List.toList_toArray] at hS)) | ((with_reducible show WBx ..); (with_reducible apply wpA_box hS); exact rfl; exact rfl; intro _ wx hS; (try simp only [Act.put, List.setIfInBounds_toArray, List.set_cons_zero, List.set_cons_succ]); (try simp only [Act.eval, Array.getD_eq_getD_getElem?, List.getElem?_toArray, List.getElem?_cons_succ, List.getElem?_cons_zero, Option.getD_some, List.set_cons_succ, List.set_cons_zero, Value.cells, List.toList_toArray] at hS)))
      refine wp_region_St hS (by kernel_rfl) (by kernel_rfl) (Bx.out ?_)
      refine bQ_val ?_ rfl ?_ ?_
      rotate_left
      · intro w hS; go_simp; (first | done | (with_reducible rfl) | (refine (if_pos ?_).trans ?_; (focus omega); with_reducible rfl) | skip)
      (simp only [Act.put, List.setIfInBounds_toArray, List.set_cons_zero, List.set_cons_succ])
      refine bQ_val ?_ rfl ?_ ?_
      rotate_left
      · intro w hS; go_simp; (first | done | (with_reducible rfl) | (refine (if_pos ?_).trans ?_; (focus omega); with_reducible rfl) | skip)
      (simp only [Act.put, List.setIfInBounds_toArray, List.set_cons_zero, List.set_cons_succ])
      refine bQ_val ?_ rfl ?_ ?_
      rotate_left
      · intro w hS; go_simp; (first | done | (with_reducible rfl) | (refine (if_pos ?_).trans ?_; (focus omega); with_reducible rfl) | skip)
      (simp only [Act.put, List.setIfInBounds_toArray, List.set_cons_zero, List.set_cons_succ])
      refine bQ_guard (by exact rfl) ?_
      refine bQ_val ?_ rfl ?_ ?_
      rotate_left
      · intro w hS; go_simp; (first | done | (with_reducible rfl) | (refine (if_pos ?_).trans ?_; (focus omega); with_reducible rfl) | skip)
      (simp only [Act.put, List.setIfInBounds_toArray, List.set_cons_zero, List.set_cons_succ])
      refine bQ_guard (by exact rfl) ?_
      refine bQ_val ?_ rfl ?_ ?_
      rotate_left
      · intro w hS; go_simp; (first | done | (with_reducible rfl) | (refine (if_pos ?_).trans ?_; (focus omega); with_reducible rfl) | skip)
      (simp only [Act.put, List.setIfInBounds_toArray, List.set_cons_zero, List.set_cons_succ])
      refine bQ_guard (by exact rfl) ?_
      refine bQ_val ?_ rfl ?_ ?_
      rotate_left
      · intro w hS; go_simp; (first | done | (with_reducible rfl) | (refine (if_pos ?_).trans ?_; (focus omega); with_reducible rfl) | skip)
      (simp only [Act.put, List.setIfInBounds_toArray, List.set_cons_zero, List.set_cons_succ])
      refine bQ_guard (by exact rfl) ?_
      refine bQ_load rfl (fun w hS => by (first | ((with_reducible apply St.cellI hS); (focus repeat constructor); exact rfl) | assumption)) (by kernel_rfl) ?_
      (simp only [Act.put, List.setIfInBounds_toArray, List.set_cons_zero, List.set_cons_succ])
      refine bQ_guard (by exact rfl) ?_
      refine bQ_val ?_ rfl ?_ ?_
      rotate_left
      · intro w hS; go_simp; (first | done | (with_reducible rfl) | (refine (if_pos ?_).trans ?_; (focus omega); with_reducible rfl) | skip)
      (simp only [Act.put, List.setIfInBounds_toArray, List.set_cons_zero, List.set_cons_succ])
      refine bQ_guard (by exact rfl) ?_
      refine bQ_load rfl (fun w hS => by (first | ((with_reducible apply St.cellI hS); (focus repeat constructor); exact rfl) | assumption)) (by kernel_rfl) ?_
      (simp only [Act.put, List.setIfInBounds_toArray, List.set_cons_zero, List.set_cons_succ])
      refine bQ_guard (by exact rfl) ?_
      refine bQ_val ?_ rfl ?_ ?_
      rotate_left
      · intro w hS; go_simp; (first | done | (with_reducible rfl) | (refine (if_pos ?_).trans ?_; (focus omega); with_reducible rfl) | skip)
      (simp only [Act.put, List.setIfInBounds_toArray, List.set_cons_zero, List.set_cons_succ])
      refine bQ_guard (by exact rfl) ?_
      refine bQ_val ?_ rfl ?_ ?_
      rotate_left
      · intro w hS; go_simp; (first | done | (with_reducible rfl) | (refine (if_pos ?_).trans ?_; (focus omega); with_reducible rfl) | skip)
      (simp only [Act.put, List.setIfInBounds_toArray, List.set_cons_zero, List.set_cons_succ])
      refine bQ_val ?_ rfl ?_ ?_
      rotate_left
      · intro w hS; go_simp; (first | done | (with_reducible rfl) | (refine (if_pos ?_).trans ?_; (focus omega); with_reducible rfl) | skip)
      (simp only [Act.put, List.setIfInBounds_toArray, List.set_cons_zero, List.set_cons_succ])
      refine bQ_val ?_ rfl ?_ ?_
      rotate_left
      · intro w hS; go_simp; (first | done | (with_reducible rfl) | (refine (if_pos ?_).trans ?_; (focus omega); with_reducible rfl) | skip)
      (simp only [Act.put, List.setIfInBounds_toArray, List.set_cons_zero, List.set_cons_succ])
      refine bQ_skip (by exact rfl) ?_
      (simp only [Act.put, List.setIfInBounds_toArray, List.set_cons_zero, List.set_cons_succ])
      refine bQ_skip (by exact rfl) ?_
      (simp only [Act.put, List.setIfInBounds_toArray, List.set_cons_zero, List.set_cons_succ])
      refine bQ_skip (by exact rfl) ?_
      (simp only [Act.put, List.setIfInBounds_toArray, List.set_cons_zero, List.set_cons_succ])
      refine bQ_skip (by exact rfl) ?_
      (simp only [Act.put, List.setIfInBounds_toArray, List.set_cons_zero, List.set_cons_succ])
      refine bQ_skip (by exact rfl) ?_
      (simp only [Act.put, List.setIfInBounds_toArray, List.set_cons_zero, List.set_cons_succ])
      refine bQ_skip (by exact rfl) ?_
      (simp only [Act.put, List.setIfInBounds_toArray, List.set_cons_zero, List.set_cons_succ])
      refine bQ_skip (by exact rfl) ?_
      (simp only [Act.put, List.setIfInBounds_toArray, List.set_cons_zero, List.set_cons_succ])
      refine bQ_skip (by exact rfl) ?_
      (simp only [Act.put, List.setIfInBounds_toArray, List.set_cons_zero, List.set_cons_succ])
      refine bQ_val ?_ rfl ?_ ?_
      rotate_left
      · intro w hS; go_simp; (first | done | (with_reducible rfl) | (refine (if_pos ?_).trans ?_; (focus omega); with_reducible rfl) | skip)
      (simp only [Act.put, List.setIfInBounds_toArray, List.set_cons_zero, List.set_cons_succ])
      refine ⟨wpQuiet_nil ?_⟩
      intro wx hS
      go_wp2_with (first | ((with_reducible show WGd ..); (with_reducible apply wpA_guard); exact rfl; skip) | (go_at_call 32; with_reducible refine (one_c w0 _ _ hS ⟨_, ses, seq, nm, n⟩ 13).mono ?_; rintro _ _ ⟨gg, rfl, hS⟩) | ((with_reducible show WLd ..); (with_reducible apply wpA_loadN (t := 30)); exact rfl; ((with_reducible apply Hp.rangeI hS (n := 5)); (focus repeat constructor)); kernel_rfl; kernel_rfl; (try simp only [Act.put, List.setIfInBounds_toArray, List.set_cons_zero, List.set_cons_succ])) | ((with_reducible show WLd ..); (with_reducible apply wpA_load); exact rfl; (first | ((with_reducible apply St.cellI hS); (focus repeat constructor); exact rfl) | assumption); kernel_rfl) | ((with_reducible show WSt ..); (with_reducible apply wpA_store1I hS); exact rfl; (focus repeat constructor); exact rfl; exact rfl; exact rfl; exact rfl; kernel_rfl; intro wx hS; (try simp only [Act.put, List.setIfInBounds_toArray, List.set_cons_zero, List.set_cons_succ]); (try simp only [Act.eval, Array.getD_eq_getD_getElem?, List.getElem?_toArray, List.getElem?_cons_succ, List.getElem?_cons_zero, Option.getD_some, List.set_cons_succ, List.set_cons_zero, Value.cells, List.toList_toArray] at hS)) | ((with_reducible show WBx ..); (with_reducible apply wpA_box hS); exact rfl; exact rfl; intro _ wx hS; (try simp only [Act.put, List.setIfInBounds_toArray, List.set_cons_zero, List.set_cons_succ]); (try simp only [Act.eval, Array.getD_eq_getD_getElem?, List.getElem?_toArray, List.getElem?_cons_succ, List.getElem?_cons_zero, Option.getD_some, List.set_cons_succ, List.set_cons_zero, Value.cells, List.toList_toArray] at hS)))
      go_ret
      refine ⟨_, _, rfl, ?_⟩
      have h2 := HF.out _ σ.tok ⟨blk, ha, hc, qa, qc, ⟨held, true, queue⟩⟩ _ rfl ((hS).sel [2, 3, 0, 4, 5, 6] 7 (by decide) (by decide) (by simp))
      rw [HSM.out] at h2
      exact h2
    | false =>
      have hm2 : held.contains ses = false := hm.elim (fun h => absurd rfl h) id
      have HM := Lib.hid hm2
      clear hm hm2
      go_enter Try.func13, Try.ntmps13
      go_wp2_with (first | ((with_reducible show WGd ..); (with_reducible apply wpA_guard); exact rfl; skip) | ((with_reducible show WLd ..); (with_reducible apply wpA_loadN (t := 30)); exact rfl; ((with_reducible apply Hp.rangeI hS (n := 5)); (focus repeat constructor)); kernel_rfl; kernel_rfl; (try simp only [Act.put, List.setIfInBounds_toArray, List.set_cons_zero, List.set_cons_succ])) | ((with_reducible show WLd ..); (with_reducible apply wpA_load); exact rfl; (first | ((with_reducible apply St.cellI hS); (focus repeat constructor); exact rfl) | assumption); kernel_rfl) | ((with_reducible show WSt ..); (with_reducible apply wpA_store1I hS); exact rfl; (focus repeat constructor); exact rfl; exact rfl; exact rfl; exact rfl; kernel_rfl; intro wx hS; (try simp only [Act.put, List.setIfInBounds_toArray, List.set_cons_zero, List.set_cons_succ]); (try simp only [Act.eval, Array.getD_eq_getD_getElem?, List.getElem?_toArray, List.getElem?_cons_succ, List.getElem?_cons_zero, Option.getD_some, List.set_cons_succ, List.set_cons_zero, Value.cells, List.toList_toArray] at hS)) | ((with_reducible show WBx ..); (with_reducible apply wpA_box hS); exact rfl; exact rfl; intro _ wx hS; (try simp only [Act.put, List.setIfInBounds_toArray, List.set_cons_zero, List.set_cons_succ]); (try simp only [Act.eval, Array.getD_eq_getD_getElem?, List.getElem?_toArray, List.getElem?_cons_succ, List.getElem?_cons_zero, Option.getD_some, List.set_cons_succ, List.set_cons_zero, Value.cells, List.toList_toArray] at hS)))
      refine wp_region_St hS (by kernel_rfl) (by kernel_rfl) (Bx.out ?_)
      refine bQ_val ?_ rfl ?_ ?_
      rotate_left
      · intro w hS; go_simp; (first | done | (with_reducible rfl) | (refine (if_pos ?_).trans ?_; (focus omega); with_reducible rfl) | skip)
      (simp only [Act.put, List.setIfInBounds_toArray, List.set_cons_zero, List.set_cons_succ])
      refine bQ_val ?_ rfl ?_ ?_
      rotate_left
      · intro w hS; go_simp; (first | done | (with_reducible rfl) | (refine (if_pos ?_).trans ?_; (focus omega); with_reducible rfl) | skip)
      (simp only [Act.put, List.setIfInBounds_toArray, List.set_cons_zero, List.set_cons_succ])
      refine bQ_val ?_ rfl ?_ ?_
      rotate_left
      · intro w hS; go_simp; (first | done | (with_reducible rfl) | (refine (if_pos ?_).trans ?_; (focus omega); with_reducible rfl) | skip)
      (simp only [Act.put, List.setIfInBounds_toArray, List.set_cons_zero, List.set_cons_succ])
      refine bQ_load rfl (fun w hS => by (first | ((with_reducible apply St.cellI hS); (focus repeat constructor); exact rfl) | assumption)) (by kernel_rfl) ?_
      (simp only [Act.put, List.setIfInBounds_toArray, List.set_cons_zero, List.set_cons_succ])
      refine bQ_val ?_ rfl ?_ ?_
      rotate_left
      · intro w hS; go_simp; (first | done | (with_reducible rfl) | (refine (if_pos ?_).trans ?_; (focus omega); with_reducible rfl) | skip)
      (simp only [Act.put, List.setIfInBounds_toArray, List.set_cons_zero, List.set_cons_succ])
      refine bQ_load rfl (fun w hS => by (first | ((with_reducible apply St.cellI hS); (focus repeat constructor); exact rfl) | assumption)) (by kernel_rfl) ?_
      (simp only [Act.put, List.setIfInBounds_toArray, List.set_cons_zero, List.set_cons_succ])
      refine bQ_lookup 2 (z := .pointer none) (r := some (.pointer (some ⟨blk, 0, none⟩))) rfl rfl rfl Try.underlying66 Try.underlying9 trivial (by kernel_rfl) hlk ?_
      dsimp only [Option.getD, Option.isSome, if_true, Bool.false_eq_true, if_false]
      (simp only [Act.put, List.setIfInBounds_toArray, List.set_cons_zero, List.set_cons_succ])
      refine bQ_val ?_ rfl ?_ ?_
      rotate_left
      · intro w hS; go_simp; (first | done | (with_reducible rfl) | (refine (if_pos ?_).trans ?_; (focus omega); with_reducible rfl) | skip)
      (simp only [Act.put, List.setIfInBounds_toArray, List.set_cons_zero, List.set_cons_succ])
      refine ⟨wpQuiet_nil ?_⟩
      intro wx hS
      go_wp2_with (first | ((with_reducible show WGd ..); (with_reducible apply wpA_guard); exact rfl; skip) | ((with_reducible show WLd ..); (with_reducible apply wpA_loadN (t := 30)); exact rfl; ((with_reducible apply Hp.rangeI hS (n := 5)); (focus repeat constructor)); kernel_rfl; kernel_rfl; (try simp only [Act.put, List.setIfInBounds_toArray, List.set_cons_zero, List.set_cons_succ])) | ((with_reducible show WLd ..); (with_reducible apply wpA_load); exact rfl; (first | ((with_reducible apply St.cellI hS); (focus repeat constructor); exact rfl) | assumption); kernel_rfl) | ((with_reducible show WSt ..); (with_reducible apply wpA_store1I hS); exact rfl; (focus repeat constructor); exact rfl; exact rfl; exact rfl; exact rfl; kernel_rfl; intro wx hS; (try simp only [Act.put, List.setIfInBounds_toArray, List.set_cons_zero, List.set_cons_succ]); (try simp only [Act.eval, Array.getD_eq_getD_getElem?, List.getElem?_toArray, List.getElem?_cons_succ, List.getElem?_cons_zero, Option.getD_some, List.set_cons_succ, List.set_cons_zero, Value.cells, List.toList_toArray] at hS)) | ((with_reducible show WBx ..); (with_reducible apply wpA_box hS); exact rfl; exact rfl; intro _ wx hS; (try simp only [Act.put, List.setIfInBounds_toArray, List.set_cons_zero, List.set_cons_succ]); (try simp only [Act.eval, Array.getD_eq_getD_getElem?, List.getElem?_toArray, List.getElem?_cons_succ, List.getElem?_cons_zero, Option.getD_some, List.set_cons_succ, List.set_cons_zero, Value.cells, List.toList_toArray] at hS)))
      refine wp_region_St hS (by kernel_rfl) (by kernel_rfl) (Bx.out ?_)
      refine bQ_val ?_ rfl ?_ ?_
      rotate_left
      · intro w hS; go_simp; (first | done | (with_reducible rfl) | (refine (if_pos ?_).trans ?_; (focus omega); with_reducible rfl) | skip)
      (simp only [Act.put, List.setIfInBounds_toArray, List.set_cons_zero, List.set_cons_succ])
      refine bQ_val ?_ rfl ?_ ?_
      rotate_left
      · intro w hS; go_simp; (first | done | (with_reducible rfl) | (refine (if_pos ?_).trans ?_; (focus omega); with_reducible rfl) | skip)
      (simp only [Act.put, List.setIfInBounds_toArray, List.set_cons_zero, List.set_cons_succ])
      refine bQ_val ?_ rfl ?_ ?_
      rotate_left
      · intro w hS; go_simp; (first | done | (with_reducible rfl) | (refine (if_pos ?_).trans ?_; (focus omega); with_reducible rfl) | skip)
      (simp only [Act.put, List.setIfInBounds_toArray, List.set_cons_zero, List.set_cons_succ])
      refine bQ_guard (by exact rfl) ?_
      refine bQ_val ?_ rfl ?_ ?_
      rotate_left
      · intro w hS; go_simp; (first | done | (with_reducible rfl) | (refine (if_pos ?_).trans ?_; (focus omega); with_reducible rfl) | skip)
      (simp only [Act.put, List.setIfInBounds_toArray, List.set_cons_zero, List.set_cons_succ])
      refine bQ_guard (by exact rfl) ?_
      refine bQ_val ?_ rfl ?_ ?_
      rotate_left
      · intro w hS; go_simp; (first | done | (with_reducible rfl) | (refine (if_pos ?_).trans ?_; (focus omega); with_reducible rfl) | skip)
      (simp only [Act.put, List.setIfInBounds_toArray, List.set_cons_zero, List.set_cons_succ])
      refine bQ_guard (by exact rfl) ?_
      refine bQ_val ?_ rfl ?_ ?_
      rotate_left
      · intro w hS; go_simp; (first | done | (with_reducible rfl) | (refine (if_pos ?_).trans ?_; (focus omega); with_reducible rfl) | skip)
      (simp only [Act.put, List.setIfInBounds_toArray, List.set_cons_zero, List.set_cons_succ])
      refine bQ_guard (by exact rfl) ?_
      refine bQ_load rfl (fun w hS => by (first | ((with_reducible apply St.cellI hS); (focus repeat constructor); exact rfl) | assumption)) (by kernel_rfl) ?_
      (simp only [Act.put, List.setIfInBounds_toArray, List.set_cons_zero, List.set_cons_succ])
      refine bQ_guard (by exact rfl) ?_
      refine bQ_val ?_ rfl ?_ ?_
      rotate_left
      · intro w hS; go_simp; (first | done | (with_reducible rfl) | (refine (if_pos ?_).trans ?_; (focus omega); with_reducible rfl) | skip)
      (simp only [Act.put, List.setIfInBounds_toArray, List.set_cons_zero, List.set_cons_succ])
      refine bQ_guard (by exact rfl) ?_
      refine bQ_load rfl (fun w hS => by (first | ((with_reducible apply St.cellI hS); (focus repeat constructor); exact rfl) | assumption)) (by kernel_rfl) ?_
      (simp only [Act.put, List.setIfInBounds_toArray, List.set_cons_zero, List.set_cons_succ])
      refine bQ_guard (by exact rfl) ?_
      refine bQ_val ?_ rfl ?_ ?_
      rotate_left
      · intro w hS; go_simp; (first | done | (with_reducible rfl) | (refine (if_pos ?_).trans ?_; (focus omega); with_reducible rfl) | skip)
      (simp only [Act.put, List.setIfInBounds_toArray, List.set_cons_zero, List.set_cons_succ])
      refine bQ_guard (by exact rfl) ?_
      refine bQ_val ?_ rfl ?_ ?_
      rotate_left
      · intro w hS; go_simp; (first | done | (with_reducible rfl) | (refine (if_pos ?_).trans ?_; (focus omega); with_reducible rfl) | skip)
      (simp only [Act.put, List.setIfInBounds_toArray, List.set_cons_zero, List.set_cons_succ])
      refine bQ_val ?_ rfl ?_ ?_
      rotate_left
      · intro w hS; go_simp; (first | done | (with_reducible rfl) | (refine (if_pos ?_).trans ?_; (focus omega); with_reducible rfl) | skip)
      (simp only [Act.put, List.setIfInBounds_toArray, List.set_cons_zero, List.set_cons_succ])
      refine bQ_val ?_ rfl ?_ ?_
      rotate_left
      · intro w hS; go_simp; (first | done | (with_reducible rfl) | (refine (if_pos ?_).trans ?_; (focus omega); with_reducible rfl) | skip)
      (simp only [Act.put, List.setIfInBounds_toArray, List.set_cons_zero, List.set_cons_succ])
      refine bQ_guard (by exact rfl) ?_
      refine bQ_val ?_ rfl ?_ ?_
      rotate_left
      · intro w hS; go_simp; (first | done | (with_reducible rfl) | (refine (if_pos ?_).trans ?_; (focus omega); with_reducible rfl) | skip)
      (simp only [Act.put, List.setIfInBounds_toArray, List.set_cons_zero, List.set_cons_succ])
      refine bQ_guard (by exact rfl) ?_
      refine bQ_val ?_ rfl ?_ ?_
      rotate_left
      · intro w hS; go_simp; (first | done | (with_reducible rfl) | (refine (if_pos ?_).trans ?_; (focus omega); with_reducible rfl) | skip)
      (simp only [Act.put, List.setIfInBounds_toArray, List.set_cons_zero, List.set_cons_succ])
      refine bQ_guard (by exact rfl) ?_
      refine bQ_val ?_ rfl ?_ ?_
      rotate_left
      · intro w hS; go_simp; (first | done | (with_reducible rfl) | (refine (if_pos ?_).trans ?_; (focus omega); with_reducible rfl) | skip)
      (simp only [Act.put, List.setIfInBounds_toArray, List.set_cons_zero, List.set_cons_succ])
      refine bQ_guard (by exact rfl) ?_
      refine bQ_load rfl (fun w hS => by (first | ((with_reducible apply St.cellI hS); (focus repeat constructor); exact rfl) | assumption)) (by kernel_rfl) ?_
      (simp only [Act.put, List.setIfInBounds_toArray, List.set_cons_zero, List.set_cons_succ])
      refine bQ_guard (by exact rfl) ?_
      refine bQ_val ?_ rfl ?_ ?_
      rotate_left
      · intro w hS; go_simp; (first | done | (with_reducible rfl) | (refine (if_pos ?_).trans ?_; (focus omega); with_reducible rfl) | skip)
      (simp only [Act.put, List.setIfInBounds_toArray, List.set_cons_zero, List.set_cons_succ])
      refine bQ_guard (by exact rfl) ?_
      refine bQ_load rfl (fun w hS => by (first | ((with_reducible apply St.cellI hS); (focus repeat constructor); exact rfl) | assumption)) (by kernel_rfl) ?_
      (simp only [Act.put, List.setIfInBounds_toArray, List.set_cons_zero, List.set_cons_succ])
      refine bQ_guard (by exact rfl) ?_
      apply bQ_call (f := 37) Try.func37 (by kernel_rfl) (.bool false)
      · (try simp only [List.map_toArray, List.map_cons, List.map_nil, Act.eval, Array.getD_eq_getD_getElem?, List.getElem?_toArray, List.getElem?_cons_succ, List.getElem?_cons_zero, Option.getD_some]); exact rfl
      · intro w hS; with_reducible exact (calls_same hS (HM.out ▸ contains_c hS 4 ses rfl (by omega)))
      (simp only [Act.put, List.setIfInBounds_toArray, List.set_cons_zero, List.set_cons_succ])
      refine bQ_guard (by exact rfl) ?_
      refine bQ_val ?_ rfl ?_ ?_
      rotate_left
      · intro w hS; go_simp; (first | done | (with_reducible rfl) | (refine (if_pos ?_).trans ?_; (focus omega); with_reducible rfl) | skip)
      (simp only [Act.put, List.setIfInBounds_toArray, List.set_cons_zero, List.set_cons_succ])
      refine bQ_val ?_ rfl ?_ ?_
      rotate_left
      · intro w hS; go_simp; (first | done | (with_reducible rfl) | (refine (if_pos ?_).trans ?_; (focus omega); with_reducible rfl) | skip)
      (simp only [Act.put, List.setIfInBounds_toArray, List.set_cons_zero, List.set_cons_succ])
      refine ⟨wpQuiet_nil ?_⟩
      intro wx hS
      go_wp2_with (first | ((with_reducible show WGd ..); (with_reducible apply wpA_guard); exact rfl; skip) | (go_at_call 32; with_reducible refine (one_c w0 _ _ hS ⟨_, ses, seq, nm, n⟩ 13).mono ?_; rintro _ _ ⟨gg, rfl, hS⟩) | ((with_reducible show WLd ..); (with_reducible apply wpA_loadN (t := 30)); exact rfl; ((with_reducible apply Hp.rangeI hS (n := 5)); (focus repeat constructor)); kernel_rfl; kernel_rfl; (try simp only [Act.put, List.setIfInBounds_toArray, List.set_cons_zero, List.set_cons_succ])) | ((with_reducible show WLd ..); (with_reducible apply wpA_load); exact rfl; (first | ((with_reducible apply St.cellI hS); (focus repeat constructor); exact rfl) | assumption); kernel_rfl) | ((with_reducible show WSt ..); (with_reducible apply wpA_store1I hS); exact rfl; (focus repeat constructor); exact rfl; exact rfl; exact rfl; exact rfl; kernel_rfl; intro wx hS; (try simp only [Act.put, List.setIfInBounds_toArray, List.set_cons_zero, List.set_cons_succ]); (try simp only [Act.eval, Array.getD_eq_getD_getElem?, List.getElem?_toArray, List.getElem?_cons_succ, List.getElem?_cons_zero, Option.getD_some, List.set_cons_succ, List.set_cons_zero, Value.cells, List.toList_toArray] at hS)) | ((with_reducible show WBx ..); (with_reducible apply wpA_box hS); exact rfl; exact rfl; intro _ wx hS; (try simp only [Act.put, List.setIfInBounds_toArray, List.set_cons_zero, List.set_cons_succ]); (try simp only [Act.eval, Array.getD_eq_getD_getElem?, List.getElem?_toArray, List.getElem?_cons_succ, List.getElem?_cons_zero, Option.getD_some, List.set_cons_succ, List.set_cons_zero, Value.cells, List.toList_toArray] at hS)))
      go_ret
      refine ⟨_, _, rfl, ?_⟩
      have h2 := HF.out _ σ.tok ⟨blk, ha, hc, qa, qc, ⟨held, false, queue⟩⟩ _ rfl ((hS).sel [2, 3, 0, 4, 5, 6] 7 (by decide) (by decide) (by simp))
      rw [HSM.out] at h2
      exact h2

theorem join1_c (w0 w : World) (R : List Hp) (gl : Nat) (a1 a2 : Option Addr) (c1 c2 : Nat) (r : RepS) (xs2 : List RepS) (hS : St w0 w (.cells gl [.slice a1 1 c1, .slice a2 xs2.length c2] 26 :: .row 38 5 a1 1 c1 ([r].flatMap RepS.cells) :: .row 38 5 a2 (xs2).length c2 ((xs2).flatMap RepS.cells) :: R)) (h2 : xs2.length ≤ 1000000000) :
    Calls Try.prog 40 #[.slice (some ⟨gl, 0, none⟩) 2 2] w fun e w' => ∃ ao cap, e = .returned (.slice ao (r :: xs2).length cap) ∧ St w0 w' (.row 38 5 ao (r :: xs2).length cap ((r :: xs2).flatMap RepS.cells) :: R) :=
  join_c w0 w R gl a1 a2 c1 c2 [r] xs2 hS (by simp) h2

theorem serveL_len : ∀ (q : List WaitS) (tok : Int) (h : List Int) (wr : Bool), (serveL q tok h wr).1.length ≤ q.length
  | [], _, _, _ => Nat.le_refl _
  | w :: q, tok, h, wr => by
    rw [serveL]
    split
    · simp
    · have := serveL_len q (grantD tok ⟨h, wr, []⟩ w).2.1 (grantD tok ⟨h, wr, []⟩ w).2.2.held (grantD tok ⟨h, wr, []⟩ w).2.2.writer
      simp only [List.length_cons]
      omega

set_option maxRecDepth 100000 in
set_option maxHeartbeats 4000000 in
theorem rel_ok (w0 w : World) (R : List Hp) (g : Nat) (σ : LocksS) (c : CmdS) (x : LockS) (h : LocksSt w0 w g σ R) (hk : c.kind = 6 ∨ c.kind = 8) (hx : aget σ.l c.name = some x) (hb : x.held.length + x.queue.length ≤ 10000000) (hp : x.held.Pairwise (· ≤ ·)) (ht0 : 0 ≤ σ.tok) (ht1 : σ.tok ≤ tokLast) (hm : x.writer = (c.kind == 6) ∧ x.held.contains c.session = true) :
    Calls Try.prog 13 #[.pointer (some ⟨g, 0, none⟩), .agg #[.int .i64 c.kind, .int .i64 c.session, .int .i64 c.seq, .string c.name, .int .i64 c.n]] w (RelP w0 g R (relD σ c)) := by
  have e : relD σ c = (⟨c.session, c.seq, 0, 0, 0⟩ :: (serveD σ c.name { x with held := x.held.filter (fun n => !(n == c.session)) }).1, (serveD σ c.name { x with held := x.held.filter (fun n => !(n == c.session)) }).2) := by
    unfold relD; rw [if_neg (by rintro ⟨h1, h2⟩; rcases hk with h | h <;> simp_all), hx]; simp only; rw [if_neg (by rintro (h | h); exact h hm.1; rw [hm.2] at h; cases h)]; rfl
  rw [e]
  clear e
  obtain ⟨m, Z, i, z, hZ, hi, hz, rfl, hS⟩ := locks_open h hx
  have hlk0 := locks_look hz
  have hfin : ∀ (w' : World) (tok : Int) (z' : LM) (A : Hp), z'.blk = z.blk → St w0 w' (.cells g [.map (some m), .int .u64 tok] 68 :: .mp m .string (Z.map kvL) :: A :: (z'.hp ++ ((Z.eraseIdx i).flatMap lhp ++ R))) → LocksSt w0 w' g ⟨aput σ.l c.name z'.s, tok⟩ (A :: R) := fun w' tok z' A hb h =>
    locks_put (z := z) hZ hi hz hb (h.perm (.cons _ (.cons _ (List.perm_middle.symm.trans (.append_left _ List.perm_middle.symm)))))
  have hfin2 : ∀ (w' : World) (tok : Int) (z' : LM) (A B : Hp), z'.blk = z.blk → St w0 w' (.cells g [.map (some m), .int .u64 tok] 68 :: .mp m .string (Z.map kvL) :: A :: B :: (z'.hp ++ ((Z.eraseIdx i).flatMap lhp ++ R))) → LocksSt w0 w' g ⟨aput σ.l c.name z'.s, tok⟩ (A :: B :: R) := fun w' tok z' A B hb h =>
    locks_put (z := z) hZ hi hz hb (h.perm (.cons _ (.cons _ ((List.Perm.cons _ (List.perm_middle.symm.trans (.append_left _ List.perm_middle.symm))).trans (List.perm_middle.symm.trans (.append_left _ List.perm_middle.symm))))))
  have hsame : aput σ.l c.name z.s = σ.l := by
    rw [aput, hi]
    have h1 : σ.l[i]? = some (c.name, z.s) := by rw [← hZ, List.getElem?_map, hz]; rfl
    apply List.ext_getElem?
    intro q
    by_cases hq : i = q
    · subst hq; rw [List.getElem?_set_self (List.getElem?_eq_some_iff.1 h1).1, h1]
    · rw [List.getElem?_set_ne hq]
  have HI := Lib.hid hi
  obtain ⟨D, hD⟩ : ∃ D, (Z.eraseIdx i).flatMap lhp ++ R = D := ⟨_, rfl⟩
  rw [hD] at hS hfin hfin2
  obtain ⟨kvs, hkv⟩ : ∃ kvs, Z.map kvL = kvs := ⟨_, rfl⟩
  rw [hkv] at hS hlk0 hfin hfin2
  obtain ⟨blk, ha, hc, qa, qc, ⟨held, wr, queue⟩⟩ := z
  obtain ⟨kind, ses, seq, nm, n⟩ := c
  simp only [LM.hp, List.cons_append, List.nil_append] at hS hlk0 hk hb hfin hfin2 hsame hm hp HI ⊢
  have HF := Lib.hid hfin
  have HF2 := Lib.hid hfin2
  have HSM := Lib.hid hsame
  have HP := Lib.hid hp
  have hlk := hlk0
  clear hlk0 hfin hfin2 hsame hZ hi hz hD hkv hx h hp
  have hh : held.length ≤ 1000000000 := by omega
  have hq : queue.length ≤ 1000000000 := by omega
  obtain ⟨hm1, hm2⟩ := hm
  have HM := Lib.hid hm2
  obtain ⟨S, hS0⟩ : ∃ S, serveD σ nm ⟨held.filter (fun n => !(n == ses)), wr, queue⟩ = S := ⟨_, rfl⟩
  rw [hS0]
  have hsl : S.1.length ≤ 1000000000 := by
    have := serveL_len queue σ.tok (held.filter (fun n => !(n == ses))) wr
    rw [← hS0]
    show (serveL queue σ.tok (held.filter (fun n => !(n == ses))) wr).1.length ≤ _
    omega
  have HS := Lib.hid hS0
  clear hm2 hS0
  -- the deletion
  have hdel : ∀ (gc : Nat) (w : World), St w0 w (.row 3 1 ha held.length hc (held.map (Value.int .i64)) :: .cells gc [.int .i64 kind, .int .i64 ses, .int .i64 seq, .string nm, .int .i64 n] 30 :: .cells g [.map (some m), .int .u64 σ.tok] 68 :: .mp m .string kvs :: .cells blk [.slice ha held.length hc, .bool wr, .slice qa queue.length qc] 75 :: .row 70 3 qa queue.length qc (queue.flatMap WaitS.cells) :: D) →
      Calls Try.prog 38 #[.slice ha held.length hc, .func (.func 39) #[] #[.pointer (some ⟨gc, 0, none⟩)]] w fun e w' => e = .returned (.slice ha (held.filter fun n => !(n == ses)).length hc) ∧
        St w0 w' (.row 3 1 ha (held.filter fun n => !(n == ses)).length hc ((held.filter fun n => !(n == ses)).map (Value.int .i64)) :: .cells gc [.int .i64 kind, .int .i64 ses, .int .i64 seq, .string nm, .int .i64 n] 30 :: .cells g [.map (some m), .int .u64 σ.tok] 68 :: .mp m .string kvs :: .cells blk [.slice ha held.length hc, .bool wr, .slice qa queue.length qc] 75 :: .row 70 3 qa queue.length qc (queue.flatMap WaitS.cells) :: D) := by
    intro gc w hS
    refine (relI_delete w0 w _ ha held.length hc (held.map (Value.int .i64)) held (fun n => n == ses) ⟨gc, 0, none⟩ hS (flat_map1 _ _) (by omega) ?_).mono ?_
    · intro Hs w x h
      exact relclo_c w0 w _ h Hs.length gc ⟨kind, ses, seq, nm, n⟩ (by simp) x
    · rintro e w' ⟨rfl, h⟩
      refine ⟨rfl, ?_⟩
      rw [flat_map1]
      exact h
  have HDEL := Lib.hid hdel
  have hfl : (held.filter fun n => !(n == ses)).length ≤ held.length := List.length_filter_le _ _
  have hfp : (held.filter fun n => !(n == ses)).Pairwise (· ≤ ·) := HP.out.sublist List.filter_sublist
  -- who waits is served
  have hserve : ∀ (A B : Hp) (w : World), St w0 w (.cells g [.map (some m), .int .u64 σ.tok] 68 :: .mp m .string kvs :: A :: B :: .cells blk [.slice ha (held.filter fun n => !(n == ses)).length hc, .bool wr, .slice qa queue.length qc] 75 :: .row 3 1 ha (held.filter fun n => !(n == ses)).length hc ((held.filter fun n => !(n == ses)).map (Value.int .i64)) :: .row 70 3 qa queue.length qc (queue.flatMap WaitS.cells) :: D) →
      Calls Try.prog 41 #[.pointer (some ⟨g, 0, none⟩), .string nm] w fun e w' => ∃ ao cap D2, e = .returned (.slice ao S.1.length cap) ∧ St w0 w' (.row 38 5 ao (S.1).length cap ((S.1).flatMap RepS.cells) :: A :: B :: (D2 ++ R)) ∧ ∀ w' R', St w0 w' (D2 ++ R') → LocksSt w0 w' g S.2 R' := by
    intro A B w hS
    have hL := HF2.out w σ.tok ⟨blk, ha, hc, qa, qc, ⟨held.filter fun n => !(n == ses), wr, queue⟩⟩ A B rfl hS
    have hi2 := aidx_aput σ.l nm (⟨held.filter fun n => !(n == ses), wr, queue⟩ : LockS) HI.out
    refine (serve_c w0 w (A :: B :: R) g _ nm ⟨held.filter fun n => !(n == ses), wr, queue⟩ hL (aget_put_same _ _ _) hfp (by show (held.filter fun n => !(n == ses)).length + queue.length ≤ _; omega) ⟨ht0, ht1⟩).mono ?_
    rw [serveD_aput σ nm _ _ HI.out, HS.out]
    rintro e w' ⟨ao, cap, rfl, h⟩
    obtain ⟨D2, h1, h2⟩ := h.use
    refine ⟨ao, cap, D2, rfl, h1.perm ?_, h2⟩
    exact List.perm_middle.trans (.cons _ (List.perm_middle.trans (.cons _ List.perm_middle)))
  have HSERVE := Lib.hid hserve
  clear hdel hserve hfl hfp
  have hmf : ∀ (fn : Fn) (first cap : Array Value) (w : World), (Instr.makeFunc fn first cap).run Try.prog w = .ok (.func fn first cap) w := fun _ _ _ _ => rfl
  rcases hk with rfl | rfl
  · obtain rfl : wr = true := hm1
    go_enter Try.func13, Try.ntmps13
    go_wp2_with (first | ((with_reducible show WGd ..); (with_reducible apply wpA_guard); exact rfl; skip) | ((with_reducible show WLd ..); (with_reducible apply wpA_loadN (t := 30)); exact rfl; ((with_reducible apply Hp.rangeI hS (n := 5)); (focus repeat constructor)); kernel_rfl; kernel_rfl; (try simp only [Act.put, List.setIfInBounds_toArray, List.set_cons_zero, List.set_cons_succ])) | ((with_reducible show WLd ..); (with_reducible apply wpA_load); exact rfl; (first | ((with_reducible apply St.cellI hS); (focus repeat constructor); exact rfl) | assumption); kernel_rfl) | ((with_reducible show WSt ..); (with_reducible apply wpA_store1I hS); exact rfl; (focus repeat constructor); exact rfl; exact rfl; exact rfl; exact rfl; kernel_rfl; intro wx hS; (try simp only [Act.put, List.setIfInBounds_toArray, List.set_cons_zero, List.set_cons_succ]); (try simp only [Act.eval, Array.getD_eq_getD_getElem?, List.getElem?_toArray, List.getElem?_cons_succ, List.getElem?_cons_zero, Option.getD_some, List.set_cons_succ, List.set_cons_zero, Value.cells, List.toList_toArray] at hS)) | ((with_reducible show WBx ..); (with_reducible apply wpA_box hS); exact rfl; exact rfl; intro _ wx hS; (try simp only [Act.put, List.setIfInBounds_toArray, List.set_cons_zero, List.set_cons_succ]); (try simp only [Act.eval, Array.getD_eq_getD_getElem?, List.getElem?_toArray, List.getElem?_cons_succ, List.getElem?_cons_zero, Option.getD_some, List.set_cons_succ, List.set_cons_zero, Value.cells, List.toList_toArray] at hS)))
    refine wp_region_St hS (by kernel_rfl) (by kernel_rfl) (Bx.out ?_)
    refine bQ_val ?_ rfl ?_ ?_
    rotate_left
    · intro w hS; go_simp; (first | done | (with_reducible rfl) | (refine (if_pos ?_).trans ?_; (focus omega); with_reducible rfl) | skip)
    (simp only [Act.put, List.setIfInBounds_toArray, List.set_cons_zero, List.set_cons_succ])
    refine bQ_val ?_ rfl ?_ ?_
    rotate_left
    · intro w hS; go_simp; (first | done | (with_reducible rfl) | (refine (if_pos ?_).trans ?_; (focus omega); with_reducible rfl) | skip)
    (simp only [Act.put, List.setIfInBounds_toArray, List.set_cons_zero, List.set_cons_succ])
    refine bQ_val ?_ rfl ?_ ?_
    rotate_left
    · intro w hS; go_simp; (first | done | (with_reducible rfl) | (refine (if_pos ?_).trans ?_; (focus omega); with_reducible rfl) | skip)
    (simp only [Act.put, List.setIfInBounds_toArray, List.set_cons_zero, List.set_cons_succ])
    refine bQ_load rfl (fun w hS => by (first | ((with_reducible apply St.cellI hS); (focus repeat constructor); exact rfl) | assumption)) (by kernel_rfl) ?_
    (simp only [Act.put, List.setIfInBounds_toArray, List.set_cons_zero, List.set_cons_succ])
    refine bQ_val ?_ rfl ?_ ?_
    rotate_left
    · intro w hS; go_simp; (first | done | (with_reducible rfl) | (refine (if_pos ?_).trans ?_; (focus omega); with_reducible rfl) | skip)
    (simp only [Act.put, List.setIfInBounds_toArray, List.set_cons_zero, List.set_cons_succ])
    refine bQ_load rfl (fun w hS => by (first | ((with_reducible apply St.cellI hS); (focus repeat constructor); exact rfl) | assumption)) (by kernel_rfl) ?_
    (simp only [Act.put, List.setIfInBounds_toArray, List.set_cons_zero, List.set_cons_succ])
    refine bQ_lookup 2 (z := .pointer none) (r := some (.pointer (some ⟨blk, 0, none⟩))) rfl rfl rfl Try.underlying66 Try.underlying9 trivial (by kernel_rfl) hlk ?_
    dsimp only [Option.getD, Option.isSome, if_true, Bool.false_eq_true, if_false]
    (simp only [Act.put, List.setIfInBounds_toArray, List.set_cons_zero, List.set_cons_succ])
    refine bQ_val ?_ rfl ?_ ?_
    rotate_left
    · intro w hS; go_simp; (first | done | (with_reducible rfl) | (refine (if_pos ?_).trans ?_; (focus omega); with_reducible rfl) | skip)
    (simp only [Act.put, List.setIfInBounds_toArray, List.set_cons_zero, List.set_cons_succ])
    refine ⟨wpQuiet_nil ?_⟩
    intro wx hS
    go_wp2_with (first | ((with_reducible show WGd ..); (with_reducible apply wpA_guard); exact rfl; skip) | ((with_reducible show WLd ..); (with_reducible apply wpA_loadN (t := 30)); exact rfl; ((with_reducible apply Hp.rangeI hS (n := 5)); (focus repeat constructor)); kernel_rfl; kernel_rfl; (try simp only [Act.put, List.setIfInBounds_toArray, List.set_cons_zero, List.set_cons_succ])) | ((with_reducible show WLd ..); (with_reducible apply wpA_load); exact rfl; (first | ((with_reducible apply St.cellI hS); (focus repeat constructor); exact rfl) | assumption); kernel_rfl) | ((with_reducible show WSt ..); (with_reducible apply wpA_store1I hS); exact rfl; (focus repeat constructor); exact rfl; exact rfl; exact rfl; exact rfl; kernel_rfl; intro wx hS; (try simp only [Act.put, List.setIfInBounds_toArray, List.set_cons_zero, List.set_cons_succ]); (try simp only [Act.eval, Array.getD_eq_getD_getElem?, List.getElem?_toArray, List.getElem?_cons_succ, List.getElem?_cons_zero, Option.getD_some, List.set_cons_succ, List.set_cons_zero, Value.cells, List.toList_toArray] at hS)) | ((with_reducible show WBx ..); (with_reducible apply wpA_box hS); exact rfl; exact rfl; intro _ wx hS; (try simp only [Act.put, List.setIfInBounds_toArray, List.set_cons_zero, List.set_cons_succ]); (try simp only [Act.eval, Array.getD_eq_getD_getElem?, List.getElem?_toArray, List.getElem?_cons_succ, List.getElem?_cons_zero, Option.getD_some, List.set_cons_succ, List.set_cons_zero, Value.cells, List.toList_toArray] at hS)))
    refine wp_region_St hS (by kernel_rfl) (by kernel_rfl) (Bx.out ?_)
    refine bQ_val ?_ rfl ?_ ?_
    rotate_left
    · intro w hS; go_simp; (first | done | (with_reducible rfl) | (refine (if_pos ?_).trans ?_; (focus omega); with_reducible rfl) | skip)
    (simp only [Act.put, List.setIfInBounds_toArray, List.set_cons_zero, List.set_cons_succ])
    refine bQ_val ?_ rfl ?_ ?_
    rotate_left
    · intro w hS; go_simp; (first | done | (with_reducible rfl) | (refine (if_pos ?_).trans ?_; (focus omega); with_reducible rfl) | skip)
    (simp only [Act.put, List.setIfInBounds_toArray, List.set_cons_zero, List.set_cons_succ])
    refine bQ_val ?_ rfl ?_ ?_
    rotate_left
    · intro w hS; go_simp; (first | done | (with_reducible rfl) | (refine (if_pos ?_).trans ?_; (focus omega); with_reducible rfl) | skip)
    (simp only [Act.put, List.setIfInBounds_toArray, List.set_cons_zero, List.set_cons_succ])
    refine bQ_guard (by exact rfl) ?_
    refine bQ_val ?_ rfl ?_ ?_
    rotate_left
    · intro w hS; go_simp; (first | done | (with_reducible rfl) | (refine (if_pos ?_).trans ?_; (focus omega); with_reducible rfl) | skip)
    (simp only [Act.put, List.setIfInBounds_toArray, List.set_cons_zero, List.set_cons_succ])
    refine bQ_guard (by exact rfl) ?_
    refine bQ_val ?_ rfl ?_ ?_
    rotate_left
    · intro w hS; go_simp; (first | done | (with_reducible rfl) | (refine (if_pos ?_).trans ?_; (focus omega); with_reducible rfl) | skip)
    (simp only [Act.put, List.setIfInBounds_toArray, List.set_cons_zero, List.set_cons_succ])
    refine bQ_guard (by exact rfl) ?_
    refine bQ_val ?_ rfl ?_ ?_
    rotate_left
    · intro w hS; go_simp; (first | done | (with_reducible rfl) | (refine (if_pos ?_).trans ?_; (focus omega); with_reducible rfl) | skip)
    (simp only [Act.put, List.setIfInBounds_toArray, List.set_cons_zero, List.set_cons_succ])
    refine bQ_guard (by exact rfl) ?_
    refine bQ_load rfl (fun w hS => by (first | ((with_reducible apply St.cellI hS); (focus repeat constructor); exact rfl) | assumption)) (by kernel_rfl) ?_
    (simp only [Act.put, List.setIfInBounds_toArray, List.set_cons_zero, List.set_cons_succ])
    refine bQ_guard (by exact rfl) ?_
    refine bQ_val ?_ rfl ?_ ?_
    rotate_left
    · intro w hS; go_simp; (first | done | (with_reducible rfl) | (refine (if_pos ?_).trans ?_; (focus omega); with_reducible rfl) | skip)
    (simp only [Act.put, List.setIfInBounds_toArray, List.set_cons_zero, List.set_cons_succ])
    refine bQ_guard (by exact rfl) ?_
    refine bQ_load rfl (fun w hS => by (first | ((with_reducible apply St.cellI hS); (focus repeat constructor); exact rfl) | assumption)) (by kernel_rfl) ?_
    (simp only [Act.put, List.setIfInBounds_toArray, List.set_cons_zero, List.set_cons_succ])
    refine bQ_guard (by exact rfl) ?_
    refine bQ_val ?_ rfl ?_ ?_
    rotate_left
    · intro w hS; go_simp; (first | done | (with_reducible rfl) | (refine (if_pos ?_).trans ?_; (focus omega); with_reducible rfl) | skip)
    (simp only [Act.put, List.setIfInBounds_toArray, List.set_cons_zero, List.set_cons_succ])
    refine bQ_guard (by exact rfl) ?_
    refine bQ_val ?_ rfl ?_ ?_
    rotate_left
    · intro w hS; go_simp; (first | done | (with_reducible rfl) | (refine (if_pos ?_).trans ?_; (focus omega); with_reducible rfl) | skip)
    (simp only [Act.put, List.setIfInBounds_toArray, List.set_cons_zero, List.set_cons_succ])
    refine bQ_val ?_ rfl ?_ ?_
    rotate_left
    · intro w hS; go_simp; (first | done | (with_reducible rfl) | (refine (if_pos ?_).trans ?_; (focus omega); with_reducible rfl) | skip)
    (simp only [Act.put, List.setIfInBounds_toArray, List.set_cons_zero, List.set_cons_succ])
    refine bQ_val ?_ rfl ?_ ?_
    rotate_left
    · intro w hS; go_simp; (first | done | (with_reducible rfl) | (refine (if_pos ?_).trans ?_; (focus omega); with_reducible rfl) | skip)
    (simp only [Act.put, List.setIfInBounds_toArray, List.set_cons_zero, List.set_cons_succ])
    refine bQ_guard (by exact rfl) ?_
    refine bQ_val ?_ rfl ?_ ?_
    rotate_left
    · intro w hS; go_simp; (first | done | (with_reducible rfl) | (refine (if_pos ?_).trans ?_; (focus omega); with_reducible rfl) | skip)
    (simp only [Act.put, List.setIfInBounds_toArray, List.set_cons_zero, List.set_cons_succ])
    refine bQ_guard (by exact rfl) ?_
    refine bQ_val ?_ rfl ?_ ?_
    rotate_left
    · intro w hS; go_simp; (first | done | (with_reducible rfl) | (refine (if_pos ?_).trans ?_; (focus omega); with_reducible rfl) | skip)
    (simp only [Act.put, List.setIfInBounds_toArray, List.set_cons_zero, List.set_cons_succ])
    refine bQ_guard (by exact rfl) ?_
    refine bQ_val ?_ rfl ?_ ?_
    rotate_left
    · intro w hS; go_simp; (first | done | (with_reducible rfl) | (refine (if_pos ?_).trans ?_; (focus omega); with_reducible rfl) | skip)
    (simp only [Act.put, List.setIfInBounds_toArray, List.set_cons_zero, List.set_cons_succ])
    refine bQ_guard (by exact rfl) ?_
    refine bQ_load rfl (fun w hS => by (first | ((with_reducible apply St.cellI hS); (focus repeat constructor); exact rfl) | assumption)) (by kernel_rfl) ?_
    (simp only [Act.put, List.setIfInBounds_toArray, List.set_cons_zero, List.set_cons_succ])
    refine bQ_guard (by exact rfl) ?_
    refine bQ_val ?_ rfl ?_ ?_
    rotate_left
    · intro w hS; go_simp; (first | done | (with_reducible rfl) | (refine (if_pos ?_).trans ?_; (focus omega); with_reducible rfl) | skip)
    (simp only [Act.put, List.setIfInBounds_toArray, List.set_cons_zero, List.set_cons_succ])
    refine bQ_guard (by exact rfl) ?_
    refine bQ_load rfl (fun w hS => by (first | ((with_reducible apply St.cellI hS); (focus repeat constructor); exact rfl) | assumption)) (by kernel_rfl) ?_
    (simp only [Act.put, List.setIfInBounds_toArray, List.set_cons_zero, List.set_cons_succ])
    refine bQ_guard (by exact rfl) ?_
    apply bQ_call (f := 37) Try.func37 (by kernel_rfl) (.bool true)
    · (try simp only [List.map_toArray, List.map_cons, List.map_nil, Act.eval, Array.getD_eq_getD_getElem?, List.getElem?_toArray, List.getElem?_cons_succ, List.getElem?_cons_zero, Option.getD_some]); exact rfl
    · intro w hS; with_reducible exact (calls_same hS (HM.out ▸ contains_c hS 4 ses rfl (by omega)))
    (simp only [Act.put, List.setIfInBounds_toArray, List.set_cons_zero, List.set_cons_succ])
    refine bQ_guard (by exact rfl) ?_
    refine bQ_val ?_ rfl ?_ ?_
    rotate_left
    · intro w hS; go_simp; (first | done | (with_reducible rfl) | (refine (if_pos ?_).trans ?_; (focus omega); with_reducible rfl) | skip)
    (simp only [Act.put, List.setIfInBounds_toArray, List.set_cons_zero, List.set_cons_succ])
    refine bQ_val ?_ rfl ?_ ?_
    rotate_left
    · intro w hS; go_simp; (first | done | (with_reducible rfl) | (refine (if_pos ?_).trans ?_; (focus omega); with_reducible rfl) | skip)
    (simp only [Act.put, List.setIfInBounds_toArray, List.set_cons_zero, List.set_cons_succ])
    refine ⟨wpQuiet_nil ?_⟩
    intro wx hS
    go_wp2_with (first | ((with_reducible show WGd ..); (with_reducible apply wpA_guard); exact rfl; skip) | (go_at_call 38; ((try simp only [List.set_cons_succ, List.set_cons_zero] at hS); replace hS := hS.sel [4, 0, 1, 2, 3, 5] 6 (by decide) (by decide) (by simp); simp only [List.filterMap_cons, List.filterMap_nil, List.getElem?_cons_succ, List.getElem?_cons_zero, List.drop_succ_cons, List.drop_zero, List.cons_append, List.nil_append] at hS); with_reducible refine (HDEL.out _ _ hS).mono ?_; rintro _ _ ⟨rfl, hS⟩) | ((with_reducible show WLd ..); (with_reducible apply wpA_loadN (t := 30)); exact rfl; ((with_reducible apply Hp.rangeI hS (n := 5)); (focus repeat constructor)); kernel_rfl; kernel_rfl; (try simp only [Act.put, List.setIfInBounds_toArray, List.set_cons_zero, List.set_cons_succ])) | ((with_reducible show WLd ..); (with_reducible apply wpA_load); exact rfl; (first | ((with_reducible apply St.cellI hS); (focus repeat constructor); exact rfl) | assumption); kernel_rfl) | ((with_reducible show WSt ..); (with_reducible apply wpA_store1I hS); exact rfl; (focus repeat constructor); exact rfl; exact rfl; exact rfl; exact rfl; kernel_rfl; intro wx hS; (try simp only [Act.put, List.setIfInBounds_toArray, List.set_cons_zero, List.set_cons_succ]); (try simp only [Act.eval, Array.getD_eq_getD_getElem?, List.getElem?_toArray, List.getElem?_cons_succ, List.getElem?_cons_zero, Option.getD_some, List.set_cons_succ, List.set_cons_zero, Value.cells, List.toList_toArray] at hS)) | ((with_reducible show WBx ..); (with_reducible apply wpA_box hS); exact rfl; exact rfl; intro _ wx hS; (try simp only [Act.put, List.setIfInBounds_toArray, List.set_cons_zero, List.set_cons_succ]); (try simp only [Act.eval, Array.getD_eq_getD_getElem?, List.getElem?_toArray, List.getElem?_cons_succ, List.getElem?_cons_zero, Option.getD_some, List.set_cons_succ, List.set_cons_zero, Value.cells, List.toList_toArray] at hS)))
    refine wp_region_E 5 hS (by kernel_rfl) (fun _ hR hS => ?_)
    simp only [List.length_cons, List.length_nil, Nat.reduceAdd]
    refine takeE_loadN (i := 0) [5, 1] rfl (by exact rfl) (by kernel_rfl) (fun _ _ _ h => h) (by decide) rfl (fun w hS => by (first | exact Hp.range hS 0 rfl _ 5 | exact Hp.range hS 1 rfl _ 5 | exact Hp.range hS 2 rfl _ 5 | exact Hp.range hS 3 rfl _ 5 | exact Hp.range hS 4 rfl _ 5 | exact Hp.range hS 5 rfl _ 5 | exact Hp.range hS 6 rfl _ 5 | exact Hp.range hS 7 rfl _ 5 | exact Hp.range hS 8 rfl _ 5 | exact Hp.range hS 9 rfl _ 5)) (by kernel_rfl) (by kernel_rfl) hR (fun hR => ?_)
    (simp only [Act.put, List.setIfInBounds_toArray, List.set_cons_zero, List.set_cons_succ])
    (try simp only [List.drop_zero, List.drop_succ_cons, List.take_succ_cons, List.take_zero])
    refine takeP_val (i := 2) ?_ rfl (by exact rfl) (by kernel_rfl) (fun _ _ _ h => h) ?_ hR (fun hR => ?_)
    rotate_left
    · intro w; go_simp; (first | done | (with_reducible rfl) | (refine (if_pos ?_).trans ?_; (focus omega); with_reducible rfl) | skip)
    (simp only [Act.put, List.setIfInBounds_toArray, List.set_cons_zero, List.set_cons_succ])
    refine takeP_val (i := 3) ?_ rfl (by exact rfl) (by kernel_rfl) (fun _ _ _ h => h) ?_ hR (fun hR => ?_)
    rotate_left
    · intro w; go_simp; (first | done | (with_reducible rfl) | (refine (if_pos ?_).trans ?_; (focus omega); with_reducible rfl) | skip)
    (simp only [Act.put, List.setIfInBounds_toArray, List.set_cons_zero, List.set_cons_succ])
    refine takeE_load (i := 4) [5] rfl (by exact rfl) (by kernel_rfl) (fun _ _ _ h => h) (by decide) rfl (fun w hS => by (first | ((with_reducible apply St.cellI hS); (focus repeat constructor); exact rfl) | assumption)) (by kernel_rfl) hR (fun hR => ?_)
    (simp only [Act.put, List.setIfInBounds_toArray, List.set_cons_zero, List.set_cons_succ])
    refine oneE (i := 1) (by kernel_rfl) rfl (by exact rfl) (fun K_ hK_ => ?_)
    (apply opA_call (f := 32) Try.func32 (by kernel_rfl); (focus ((try simp only [List.map_toArray, List.map_cons, List.map_nil, Act.eval, Array.getD_eq_getD_getElem?, List.getElem?_toArray, List.getElem?_cons_succ, List.getElem?_cons_zero, Option.getD_some]); exact rfl)); (focus (with_reducible exact (one_c w0 _ _ hS ⟨6, ses, seq, nm, n⟩ 0))); rintro _ _ ⟨gg, rfl, hS⟩; refine ⟨_, rfl, ?_⟩; skip)
    refine hK_ _ _ (fun _ => (hS.tail)) ?_; clear hK_ K_
    (simp only [Act.put, List.setIfInBounds_toArray, List.set_cons_zero, List.set_cons_succ])
    refine oneE (i := 5) (by kernel_rfl) rfl (by exact rfl) (fun K_ hK_ => ?_)
    ((try simp only [List.set_cons_succ, List.set_cons_zero] at hS); replace hS := hS.sel [3, 4, 0, 2, 5, 1, 6] 7 (by decide) (by decide) (by simp); simp only [List.filterMap_cons, List.filterMap_nil, List.getElem?_cons_succ, List.getElem?_cons_zero, List.drop_succ_cons, List.drop_zero, List.cons_append, List.nil_append] at hS); (apply opA_call (f := 41) Try.func41 (by kernel_rfl); (focus ((try simp only [List.map_toArray, List.map_cons, List.map_nil, Act.eval, Array.getD_eq_getD_getElem?, List.getElem?_toArray, List.getElem?_cons_succ, List.getElem?_cons_zero, Option.getD_some]); exact rfl)); (focus (with_reducible exact (HSERVE.out _ _ _ hS))); rintro _ _ ⟨ao2, cap2, D2, rfl, hS, hb2⟩; refine ⟨_, rfl, ?_⟩; skip)
    refine hK_ _ _ (fun h => by cases h) ?_; clear hK_ K_
    (simp only [Act.put, List.setIfInBounds_toArray, List.set_cons_zero, List.set_cons_succ])
    refine oneE (i := 6) (by kernel_rfl) rfl (by exact rfl) (fun K_ hK_ => ?_)
    (refine opA_two hS (z := .slice none 0 0) (bytes := 24) Try.underlying127 (by kernel_rfl) rfl rfl rfl rfl (fun gl wx hS => ?_)); (try simp only [Act.eval, Array.getD_eq_getD_getElem?, List.getElem?_toArray, List.getElem?_cons_succ, List.getElem?_cons_zero, Option.getD_some, List.set_cons_succ, List.set_cons_zero, Value.cells, List.toList_toArray] at hS)
    refine hK_ _ _ (fun h => by cases h) ?_; clear hK_ K_
    (simp only [Act.put, List.setIfInBounds_toArray, List.set_cons_zero, List.set_cons_succ])
    refine oneE (i := 7) (by kernel_rfl) rfl (by exact rfl) (fun K_ hK_ => ?_)
    ((try simp only [List.set_cons_succ, List.set_cons_zero] at hS); replace hS := hS.sel [0, 2, 1, 3] 4 (by decide) (by decide) (by simp); simp only [List.filterMap_cons, List.filterMap_nil, List.getElem?_cons_succ, List.getElem?_cons_zero, List.drop_succ_cons, List.drop_zero, List.cons_append, List.nil_append] at hS); (apply opA_call (f := 40) Try.func40 (by kernel_rfl); (focus ((try simp only [List.map_toArray, List.map_cons, List.map_nil, Act.eval, Array.getD_eq_getD_getElem?, List.getElem?_toArray, List.getElem?_cons_succ, List.getElem?_cons_zero, Option.getD_some]); exact rfl)); (focus (with_reducible exact (join1_c w0 _ _ gl _ ao2 _ cap2 ⟨ses, seq, 0, 0, 0⟩ S.1 hS hsl))); rintro _ _ ⟨ao3, cap3, rfl, hS⟩; refine ⟨_, rfl, ?_⟩; skip)
    refine hK_ _ _ (fun h => by cases h) ?_; clear hK_ K_
    (simp only [Act.put, List.setIfInBounds_toArray, List.set_cons_zero, List.set_cons_succ])
    refine takeP_val (i := 8) ?_ rfl (by exact rfl) (by kernel_rfl) (fun _ _ _ h => h) ?_ (fun h => by cases h) (fun hR => ?_)
    rotate_left
    · intro w; go_simp; (first | done | (with_reducible rfl) | (refine (if_pos ?_).trans ?_; (focus omega); with_reducible rfl) | skip)
    (simp only [Act.put, List.setIfInBounds_toArray, List.set_cons_zero, List.set_cons_succ])
    refine wpAnyR_done (by kernel_rfl) ?_ _
    go_wp2_with (first | ((with_reducible show WGd ..); (with_reducible apply wpA_guard); exact rfl; skip) | ((with_reducible show WLd ..); (with_reducible apply wpA_loadN (t := 30)); exact rfl; ((with_reducible apply Hp.rangeI hS (n := 5)); (focus repeat constructor)); kernel_rfl; kernel_rfl; (try simp only [Act.put, List.setIfInBounds_toArray, List.set_cons_zero, List.set_cons_succ])) | ((with_reducible show WLd ..); (with_reducible apply wpA_load); exact rfl; (first | ((with_reducible apply St.cellI hS); (focus repeat constructor); exact rfl) | assumption); kernel_rfl) | ((with_reducible show WSt ..); (with_reducible apply wpA_store1I hS); exact rfl; (focus repeat constructor); exact rfl; exact rfl; exact rfl; exact rfl; kernel_rfl; intro wx hS; (try simp only [Act.put, List.setIfInBounds_toArray, List.set_cons_zero, List.set_cons_succ]); (try simp only [Act.eval, Array.getD_eq_getD_getElem?, List.getElem?_toArray, List.getElem?_cons_succ, List.getElem?_cons_zero, Option.getD_some, List.set_cons_succ, List.set_cons_zero, Value.cells, List.toList_toArray] at hS)) | ((with_reducible show WBx ..); (with_reducible apply wpA_box hS); exact rfl; exact rfl; intro _ wx hS; (try simp only [Act.put, List.setIfInBounds_toArray, List.set_cons_zero, List.set_cons_succ]); (try simp only [Act.eval, Array.getD_eq_getD_getElem?, List.getElem?_toArray, List.getElem?_cons_succ, List.getElem?_cons_zero, Option.getD_some, List.set_cons_succ, List.set_cons_zero, Value.cells, List.toList_toArray] at hS)))
    go_ret
    ((try simp only [List.set_cons_succ, List.set_cons_zero] at hS); replace hS := hS.sel [0] 2 (by decide) (by decide) (by simp); simp only [List.filterMap_cons, List.filterMap_nil, List.getElem?_cons_succ, List.getElem?_cons_zero, List.drop_succ_cons, List.drop_zero, List.cons_append, List.nil_append] at hS)
    exact ⟨_, _, rfl, hb2 _ _ (hS.perm List.perm_middle.symm)⟩
  · obtain rfl : wr = false := hm1
    go_enter Try.func13, Try.ntmps13
    go_wp2_with (first | ((with_reducible show WGd ..); (with_reducible apply wpA_guard); exact rfl; skip) | ((with_reducible show WLd ..); (with_reducible apply wpA_loadN (t := 30)); exact rfl; ((with_reducible apply Hp.rangeI hS (n := 5)); (focus repeat constructor)); kernel_rfl; kernel_rfl; (try simp only [Act.put, List.setIfInBounds_toArray, List.set_cons_zero, List.set_cons_succ])) | ((with_reducible show WLd ..); (with_reducible apply wpA_load); exact rfl; (first | ((with_reducible apply St.cellI hS); (focus repeat constructor); exact rfl) | assumption); kernel_rfl) | ((with_reducible show WSt ..); (with_reducible apply wpA_store1I hS); exact rfl; (focus repeat constructor); exact rfl; exact rfl; exact rfl; exact rfl; kernel_rfl; intro wx hS; (try simp only [Act.put, List.setIfInBounds_toArray, List.set_cons_zero, List.set_cons_succ]); (try simp only [Act.eval, Array.getD_eq_getD_getElem?, List.getElem?_toArray, List.getElem?_cons_succ, List.getElem?_cons_zero, Option.getD_some, List.set_cons_succ, List.set_cons_zero, Value.cells, List.toList_toArray] at hS)) | ((with_reducible show WBx ..); (with_reducible apply wpA_box hS); exact rfl; exact rfl; intro _ wx hS; (try simp only [Act.put, List.setIfInBounds_toArray, List.set_cons_zero, List.set_cons_succ]); (try simp only [Act.eval, Array.getD_eq_getD_getElem?, List.getElem?_toArray, List.getElem?_cons_succ, List.getElem?_cons_zero, Option.getD_some, List.set_cons_succ, List.set_cons_zero, Value.cells, List.toList_toArray] at hS)))
    refine wp_region_St hS (by kernel_rfl) (by kernel_rfl) (Bx.out ?_)
    refine bQ_val ?_ rfl ?_ ?_
    rotate_left
    · intro w hS; go_simp; (first | done | (with_reducible rfl) | (refine (if_pos ?_).trans ?_; (focus omega); with_reducible rfl) | skip)
    (simp only [Act.put, List.setIfInBounds_toArray, List.set_cons_zero, List.set_cons_succ])
    refine bQ_val ?_ rfl ?_ ?_
    rotate_left
    · intro w hS; go_simp; (first | done | (with_reducible rfl) | (refine (if_pos ?_).trans ?_; (focus omega); with_reducible rfl) | skip)
    (simp only [Act.put, List.setIfInBounds_toArray, List.set_cons_zero, List.set_cons_succ])
    refine bQ_val ?_ rfl ?_ ?_
    rotate_left
    · intro w hS; go_simp; (first | done | (with_reducible rfl) | (refine (if_pos ?_).trans ?_; (focus omega); with_reducible rfl) | skip)
    (simp only [Act.put, List.setIfInBounds_toArray, List.set_cons_zero, List.set_cons_succ])
    refine bQ_load rfl (fun w hS => by (first | ((with_reducible apply St.cellI hS); (focus repeat constructor); exact rfl) | assumption)) (by kernel_rfl) ?_
    (simp only [Act.put, List.setIfInBounds_toArray, List.set_cons_zero, List.set_cons_succ])
    refine bQ_val ?_ rfl ?_ ?_
    rotate_left
    · intro w hS; go_simp; (first | done | (with_reducible rfl) | (refine (if_pos ?_).trans ?_; (focus omega); with_reducible rfl) | skip)
    (simp only [Act.put, List.setIfInBounds_toArray, List.set_cons_zero, List.set_cons_succ])
    refine bQ_load rfl (fun w hS => by (first | ((with_reducible apply St.cellI hS); (focus repeat constructor); exact rfl) | assumption)) (by kernel_rfl) ?_
    (simp only [Act.put, List.setIfInBounds_toArray, List.set_cons_zero, List.set_cons_succ])
    refine bQ_lookup 2 (z := .pointer none) (r := some (.pointer (some ⟨blk, 0, none⟩))) rfl rfl rfl Try.underlying66 Try.underlying9 trivial (by kernel_rfl) hlk ?_
    dsimp only [Option.getD, Option.isSome, if_true, Bool.false_eq_true, if_false]
    (simp only [Act.put, List.setIfInBounds_toArray, List.set_cons_zero, List.set_cons_succ])
    refine bQ_val ?_ rfl ?_ ?_
    rotate_left
    · intro w hS; go_simp; (first | done | (with_reducible rfl) | (refine (if_pos ?_).trans ?_; (focus omega); with_reducible rfl) | skip)
    (simp only [Act.put, List.setIfInBounds_toArray, List.set_cons_zero, List.set_cons_succ])
    refine ⟨wpQuiet_nil ?_⟩
    intro wx hS
    go_wp2_with (first | ((with_reducible show WGd ..); (with_reducible apply wpA_guard); exact rfl; skip) | ((with_reducible show WLd ..); (with_reducible apply wpA_loadN (t := 30)); exact rfl; ((with_reducible apply Hp.rangeI hS (n := 5)); (focus repeat constructor)); kernel_rfl; kernel_rfl; (try simp only [Act.put, List.setIfInBounds_toArray, List.set_cons_zero, List.set_cons_succ])) | ((with_reducible show WLd ..); (with_reducible apply wpA_load); exact rfl; (first | ((with_reducible apply St.cellI hS); (focus repeat constructor); exact rfl) | assumption); kernel_rfl) | ((with_reducible show WSt ..); (with_reducible apply wpA_store1I hS); exact rfl; (focus repeat constructor); exact rfl; exact rfl; exact rfl; exact rfl; kernel_rfl; intro wx hS; (try simp only [Act.put, List.setIfInBounds_toArray, List.set_cons_zero, List.set_cons_succ]); (try simp only [Act.eval, Array.getD_eq_getD_getElem?, List.getElem?_toArray, List.getElem?_cons_succ, List.getElem?_cons_zero, Option.getD_some, List.set_cons_succ, List.set_cons_zero, Value.cells, List.toList_toArray] at hS)) | ((with_reducible show WBx ..); (with_reducible apply wpA_box hS); exact rfl; exact rfl; intro _ wx hS; (try simp only [Act.put, List.setIfInBounds_toArray, List.set_cons_zero, List.set_cons_succ]); (try simp only [Act.eval, Array.getD_eq_getD_getElem?, List.getElem?_toArray, List.getElem?_cons_succ, List.getElem?_cons_zero, Option.getD_some, List.set_cons_succ, List.set_cons_zero, Value.cells, List.toList_toArray] at hS)))
    refine wp_region_St hS (by kernel_rfl) (by kernel_rfl) (Bx.out ?_)
    refine bQ_val ?_ rfl ?_ ?_
    rotate_left
    · intro w hS; go_simp; (first | done | (with_reducible rfl) | (refine (if_pos ?_).trans ?_; (focus omega); with_reducible rfl) | skip)
    (simp only [Act.put, List.setIfInBounds_toArray, List.set_cons_zero, List.set_cons_succ])
    refine bQ_val ?_ rfl ?_ ?_
    rotate_left
    · intro w hS; go_simp; (first | done | (with_reducible rfl) | (refine (if_pos ?_).trans ?_; (focus omega); with_reducible rfl) | skip)
    (simp only [Act.put, List.setIfInBounds_toArray, List.set_cons_zero, List.set_cons_succ])
    refine bQ_val ?_ rfl ?_ ?_
    rotate_left
    · intro w hS; go_simp; (first | done | (with_reducible rfl) | (refine (if_pos ?_).trans ?_; (focus omega); with_reducible rfl) | skip)
    (simp only [Act.put, List.setIfInBounds_toArray, List.set_cons_zero, List.set_cons_succ])
    refine bQ_guard (by exact rfl) ?_
    refine bQ_val ?_ rfl ?_ ?_
    rotate_left
    · intro w hS; go_simp; (first | done | (with_reducible rfl) | (refine (if_pos ?_).trans ?_; (focus omega); with_reducible rfl) | skip)
    (simp only [Act.put, List.setIfInBounds_toArray, List.set_cons_zero, List.set_cons_succ])
    refine bQ_guard (by exact rfl) ?_
    refine bQ_val ?_ rfl ?_ ?_
    rotate_left
    · intro w hS; go_simp; (first | done | (with_reducible rfl) | (refine (if_pos ?_).trans ?_; (focus omega); with_reducible rfl) | skip)
    (simp only [Act.put, List.setIfInBounds_toArray, List.set_cons_zero, List.set_cons_succ])
    refine bQ_guard (by exact rfl) ?_
    refine bQ_val ?_ rfl ?_ ?_
    rotate_left
    · intro w hS; go_simp; (first | done | (with_reducible rfl) | (refine (if_pos ?_).trans ?_; (focus omega); with_reducible rfl) | skip)
    (simp only [Act.put, List.setIfInBounds_toArray, List.set_cons_zero, List.set_cons_succ])
    refine bQ_guard (by exact rfl) ?_
    refine bQ_load rfl (fun w hS => by (first | ((with_reducible apply St.cellI hS); (focus repeat constructor); exact rfl) | assumption)) (by kernel_rfl) ?_
    (simp only [Act.put, List.setIfInBounds_toArray, List.set_cons_zero, List.set_cons_succ])
    refine bQ_guard (by exact rfl) ?_
    refine bQ_val ?_ rfl ?_ ?_
    rotate_left
    · intro w hS; go_simp; (first | done | (with_reducible rfl) | (refine (if_pos ?_).trans ?_; (focus omega); with_reducible rfl) | skip)
    (simp only [Act.put, List.setIfInBounds_toArray, List.set_cons_zero, List.set_cons_succ])
    refine bQ_guard (by exact rfl) ?_
    refine bQ_load rfl (fun w hS => by (first | ((with_reducible apply St.cellI hS); (focus repeat constructor); exact rfl) | assumption)) (by kernel_rfl) ?_
    (simp only [Act.put, List.setIfInBounds_toArray, List.set_cons_zero, List.set_cons_succ])
    refine bQ_guard (by exact rfl) ?_
    refine bQ_val ?_ rfl ?_ ?_
    rotate_left
    · intro w hS; go_simp; (first | done | (with_reducible rfl) | (refine (if_pos ?_).trans ?_; (focus omega); with_reducible rfl) | skip)
    (simp only [Act.put, List.setIfInBounds_toArray, List.set_cons_zero, List.set_cons_succ])
    refine bQ_guard (by exact rfl) ?_
    refine bQ_val ?_ rfl ?_ ?_
    rotate_left
    · intro w hS; go_simp; (first | done | (with_reducible rfl) | (refine (if_pos ?_).trans ?_; (focus omega); with_reducible rfl) | skip)
    (simp only [Act.put, List.setIfInBounds_toArray, List.set_cons_zero, List.set_cons_succ])
    refine bQ_val ?_ rfl ?_ ?_
    rotate_left
    · intro w hS; go_simp; (first | done | (with_reducible rfl) | (refine (if_pos ?_).trans ?_; (focus omega); with_reducible rfl) | skip)
    (simp only [Act.put, List.setIfInBounds_toArray, List.set_cons_zero, List.set_cons_succ])
    refine bQ_val ?_ rfl ?_ ?_
    rotate_left
    · intro w hS; go_simp; (first | done | (with_reducible rfl) | (refine (if_pos ?_).trans ?_; (focus omega); with_reducible rfl) | skip)
    (simp only [Act.put, List.setIfInBounds_toArray, List.set_cons_zero, List.set_cons_succ])
    refine bQ_guard (by exact rfl) ?_
    refine bQ_val ?_ rfl ?_ ?_
    rotate_left
    · intro w hS; go_simp; (first | done | (with_reducible rfl) | (refine (if_pos ?_).trans ?_; (focus omega); with_reducible rfl) | skip)
    (simp only [Act.put, List.setIfInBounds_toArray, List.set_cons_zero, List.set_cons_succ])
    refine bQ_guard (by exact rfl) ?_
    refine bQ_val ?_ rfl ?_ ?_
    rotate_left
    · intro w hS; go_simp; (first | done | (with_reducible rfl) | (refine (if_pos ?_).trans ?_; (focus omega); with_reducible rfl) | skip)
    (simp only [Act.put, List.setIfInBounds_toArray, List.set_cons_zero, List.set_cons_succ])
    refine bQ_guard (by exact rfl) ?_
    refine bQ_val ?_ rfl ?_ ?_
    rotate_left
    · intro w hS; go_simp; (first | done | (with_reducible rfl) | (refine (if_pos ?_).trans ?_; (focus omega); with_reducible rfl) | skip)
    (simp only [Act.put, List.setIfInBounds_toArray, List.set_cons_zero, List.set_cons_succ])
    refine bQ_guard (by exact rfl) ?_
    refine bQ_load rfl (fun w hS => by (first | ((with_reducible apply St.cellI hS); (focus repeat constructor); exact rfl) | assumption)) (by kernel_rfl) ?_
    (simp only [Act.put, List.setIfInBounds_toArray, List.set_cons_zero, List.set_cons_succ])
    refine bQ_guard (by exact rfl) ?_
    refine bQ_val ?_ rfl ?_ ?_
    rotate_left
    · intro w hS; go_simp; (first | done | (with_reducible rfl) | (refine (if_pos ?_).trans ?_; (focus omega); with_reducible rfl) | skip)
    (simp only [Act.put, List.setIfInBounds_toArray, List.set_cons_zero, List.set_cons_succ])
    refine bQ_guard (by exact rfl) ?_
    refine bQ_load rfl (fun w hS => by (first | ((with_reducible apply St.cellI hS); (focus repeat constructor); exact rfl) | assumption)) (by kernel_rfl) ?_
    (simp only [Act.put, List.setIfInBounds_toArray, List.set_cons_zero, List.set_cons_succ])
    refine bQ_guard (by exact rfl) ?_
    apply bQ_call (f := 37) Try.func37 (by kernel_rfl) (.bool true)
    · (try simp only [List.map_toArray, List.map_cons, List.map_nil, Act.eval, Array.getD_eq_getD_getElem?, List.getElem?_toArray, List.getElem?_cons_succ, List.getElem?_cons_zero, Option.getD_some]); exact rfl
    · intro w hS; with_reducible exact (calls_same hS (HM.out ▸ contains_c hS 4 ses rfl (by omega)))
    (simp only [Act.put, List.setIfInBounds_toArray, List.set_cons_zero, List.set_cons_succ])
    refine bQ_guard (by exact rfl) ?_
    refine bQ_val ?_ rfl ?_ ?_
    rotate_left
    · intro w hS; go_simp; (first | done | (with_reducible rfl) | (refine (if_pos ?_).trans ?_; (focus omega); with_reducible rfl) | skip)
    (simp only [Act.put, List.setIfInBounds_toArray, List.set_cons_zero, List.set_cons_succ])
    refine bQ_val ?_ rfl ?_ ?_
    rotate_left
    · intro w hS; go_simp; (first | done | (with_reducible rfl) | (refine (if_pos ?_).trans ?_; (focus omega); with_reducible rfl) | skip)
    (simp only [Act.put, List.setIfInBounds_toArray, List.set_cons_zero, List.set_cons_succ])
    refine ⟨wpQuiet_nil ?_⟩
    intro wx hS
    go_wp2_with (first | ((with_reducible show WGd ..); (with_reducible apply wpA_guard); exact rfl; skip) | (go_at_call 38; ((try simp only [List.set_cons_succ, List.set_cons_zero] at hS); replace hS := hS.sel [4, 0, 1, 2, 3, 5] 6 (by decide) (by decide) (by simp); simp only [List.filterMap_cons, List.filterMap_nil, List.getElem?_cons_succ, List.getElem?_cons_zero, List.drop_succ_cons, List.drop_zero, List.cons_append, List.nil_append] at hS); with_reducible refine (HDEL.out _ _ hS).mono ?_; rintro _ _ ⟨rfl, hS⟩) | ((with_reducible show WLd ..); (with_reducible apply wpA_loadN (t := 30)); exact rfl; ((with_reducible apply Hp.rangeI hS (n := 5)); (focus repeat constructor)); kernel_rfl; kernel_rfl; (try simp only [Act.put, List.setIfInBounds_toArray, List.set_cons_zero, List.set_cons_succ])) | ((with_reducible show WLd ..); (with_reducible apply wpA_load); exact rfl; (first | ((with_reducible apply St.cellI hS); (focus repeat constructor); exact rfl) | assumption); kernel_rfl) | ((with_reducible show WSt ..); (with_reducible apply wpA_store1I hS); exact rfl; (focus repeat constructor); exact rfl; exact rfl; exact rfl; exact rfl; kernel_rfl; intro wx hS; (try simp only [Act.put, List.setIfInBounds_toArray, List.set_cons_zero, List.set_cons_succ]); (try simp only [Act.eval, Array.getD_eq_getD_getElem?, List.getElem?_toArray, List.getElem?_cons_succ, List.getElem?_cons_zero, Option.getD_some, List.set_cons_succ, List.set_cons_zero, Value.cells, List.toList_toArray] at hS)) | ((with_reducible show WBx ..); (with_reducible apply wpA_box hS); exact rfl; exact rfl; intro _ wx hS; (try simp only [Act.put, List.setIfInBounds_toArray, List.set_cons_zero, List.set_cons_succ]); (try simp only [Act.eval, Array.getD_eq_getD_getElem?, List.getElem?_toArray, List.getElem?_cons_succ, List.getElem?_cons_zero, Option.getD_some, List.set_cons_succ, List.set_cons_zero, Value.cells, List.toList_toArray] at hS)))
    refine wp_region_E 5 hS (by kernel_rfl) (fun _ hR hS => ?_)
    simp only [List.length_cons, List.length_nil, Nat.reduceAdd]
    refine takeE_loadN (i := 0) [5, 1] rfl (by exact rfl) (by kernel_rfl) (fun _ _ _ h => h) (by decide) rfl (fun w hS => by (first | exact Hp.range hS 0 rfl _ 5 | exact Hp.range hS 1 rfl _ 5 | exact Hp.range hS 2 rfl _ 5 | exact Hp.range hS 3 rfl _ 5 | exact Hp.range hS 4 rfl _ 5 | exact Hp.range hS 5 rfl _ 5 | exact Hp.range hS 6 rfl _ 5 | exact Hp.range hS 7 rfl _ 5 | exact Hp.range hS 8 rfl _ 5 | exact Hp.range hS 9 rfl _ 5)) (by kernel_rfl) (by kernel_rfl) hR (fun hR => ?_)
    (simp only [Act.put, List.setIfInBounds_toArray, List.set_cons_zero, List.set_cons_succ])
    (try simp only [List.drop_zero, List.drop_succ_cons, List.take_succ_cons, List.take_zero])
    refine takeP_val (i := 2) ?_ rfl (by exact rfl) (by kernel_rfl) (fun _ _ _ h => h) ?_ hR (fun hR => ?_)
    rotate_left
    · intro w; go_simp; (first | done | (with_reducible rfl) | (refine (if_pos ?_).trans ?_; (focus omega); with_reducible rfl) | skip)
    (simp only [Act.put, List.setIfInBounds_toArray, List.set_cons_zero, List.set_cons_succ])
    refine takeP_val (i := 3) ?_ rfl (by exact rfl) (by kernel_rfl) (fun _ _ _ h => h) ?_ hR (fun hR => ?_)
    rotate_left
    · intro w; go_simp; (first | done | (with_reducible rfl) | (refine (if_pos ?_).trans ?_; (focus omega); with_reducible rfl) | skip)
    (simp only [Act.put, List.setIfInBounds_toArray, List.set_cons_zero, List.set_cons_succ])
    refine takeE_load (i := 4) [5] rfl (by exact rfl) (by kernel_rfl) (fun _ _ _ h => h) (by decide) rfl (fun w hS => by (first | ((with_reducible apply St.cellI hS); (focus repeat constructor); exact rfl) | assumption)) (by kernel_rfl) hR (fun hR => ?_)
    (simp only [Act.put, List.setIfInBounds_toArray, List.set_cons_zero, List.set_cons_succ])
    refine oneE (i := 1) (by kernel_rfl) rfl (by exact rfl) (fun K_ hK_ => ?_)
    (apply opA_call (f := 32) Try.func32 (by kernel_rfl); (focus ((try simp only [List.map_toArray, List.map_cons, List.map_nil, Act.eval, Array.getD_eq_getD_getElem?, List.getElem?_toArray, List.getElem?_cons_succ, List.getElem?_cons_zero, Option.getD_some]); exact rfl)); (focus (with_reducible exact (one_c w0 _ _ hS ⟨8, ses, seq, nm, n⟩ 0))); rintro _ _ ⟨gg, rfl, hS⟩; refine ⟨_, rfl, ?_⟩; skip)
    refine hK_ _ _ (fun _ => (hS.tail)) ?_; clear hK_ K_
    (simp only [Act.put, List.setIfInBounds_toArray, List.set_cons_zero, List.set_cons_succ])
    refine oneE (i := 5) (by kernel_rfl) rfl (by exact rfl) (fun K_ hK_ => ?_)
    ((try simp only [List.set_cons_succ, List.set_cons_zero] at hS); replace hS := hS.sel [3, 4, 0, 2, 5, 1, 6] 7 (by decide) (by decide) (by simp); simp only [List.filterMap_cons, List.filterMap_nil, List.getElem?_cons_succ, List.getElem?_cons_zero, List.drop_succ_cons, List.drop_zero, List.cons_append, List.nil_append] at hS); (apply opA_call (f := 41) Try.func41 (by kernel_rfl); (focus ((try simp only [List.map_toArray, List.map_cons, List.map_nil, Act.eval, Array.getD_eq_getD_getElem?, List.getElem?_toArray, List.getElem?_cons_succ, List.getElem?_cons_zero, Option.getD_some]); exact rfl)); (focus (with_reducible exact (HSERVE.out _ _ _ hS))); rintro _ _ ⟨ao2, cap2, D2, rfl, hS, hb2⟩; refine ⟨_, rfl, ?_⟩; skip)
    refine hK_ _ _ (fun h => by cases h) ?_; clear hK_ K_
    (simp only [Act.put, List.setIfInBounds_toArray, List.set_cons_zero, List.set_cons_succ])
    refine oneE (i := 6) (by kernel_rfl) rfl (by exact rfl) (fun K_ hK_ => ?_)
    (refine opA_two hS (z := .slice none 0 0) (bytes := 24) Try.underlying127 (by kernel_rfl) rfl rfl rfl rfl (fun gl wx hS => ?_)); (try simp only [Act.eval, Array.getD_eq_getD_getElem?, List.getElem?_toArray, List.getElem?_cons_succ, List.getElem?_cons_zero, Option.getD_some, List.set_cons_succ, List.set_cons_zero, Value.cells, List.toList_toArray] at hS)
    refine hK_ _ _ (fun h => by cases h) ?_; clear hK_ K_
    (simp only [Act.put, List.setIfInBounds_toArray, List.set_cons_zero, List.set_cons_succ])
    refine oneE (i := 7) (by kernel_rfl) rfl (by exact rfl) (fun K_ hK_ => ?_)
    ((try simp only [List.set_cons_succ, List.set_cons_zero] at hS); replace hS := hS.sel [0, 2, 1, 3] 4 (by decide) (by decide) (by simp); simp only [List.filterMap_cons, List.filterMap_nil, List.getElem?_cons_succ, List.getElem?_cons_zero, List.drop_succ_cons, List.drop_zero, List.cons_append, List.nil_append] at hS); (apply opA_call (f := 40) Try.func40 (by kernel_rfl); (focus ((try simp only [List.map_toArray, List.map_cons, List.map_nil, Act.eval, Array.getD_eq_getD_getElem?, List.getElem?_toArray, List.getElem?_cons_succ, List.getElem?_cons_zero, Option.getD_some]); exact rfl)); (focus (with_reducible exact (join1_c w0 _ _ gl _ ao2 _ cap2 ⟨ses, seq, 0, 0, 0⟩ S.1 hS hsl))); rintro _ _ ⟨ao3, cap3, rfl, hS⟩; refine ⟨_, rfl, ?_⟩; skip)
    refine hK_ _ _ (fun h => by cases h) ?_; clear hK_ K_
    (simp only [Act.put, List.setIfInBounds_toArray, List.set_cons_zero, List.set_cons_succ])
    refine takeP_val (i := 8) ?_ rfl (by exact rfl) (by kernel_rfl) (fun _ _ _ h => h) ?_ (fun h => by cases h) (fun hR => ?_)
    rotate_left
    · intro w; go_simp; (first | done | (with_reducible rfl) | (refine (if_pos ?_).trans ?_; (focus omega); with_reducible rfl) | skip)
    (simp only [Act.put, List.setIfInBounds_toArray, List.set_cons_zero, List.set_cons_succ])
    refine wpAnyR_done (by kernel_rfl) ?_ _
    go_wp2_with (first | ((with_reducible show WGd ..); (with_reducible apply wpA_guard); exact rfl; skip) | ((with_reducible show WLd ..); (with_reducible apply wpA_loadN (t := 30)); exact rfl; ((with_reducible apply Hp.rangeI hS (n := 5)); (focus repeat constructor)); kernel_rfl; kernel_rfl; (try simp only [Act.put, List.setIfInBounds_toArray, List.set_cons_zero, List.set_cons_succ])) | ((with_reducible show WLd ..); (with_reducible apply wpA_load); exact rfl; (first | ((with_reducible apply St.cellI hS); (focus repeat constructor); exact rfl) | assumption); kernel_rfl) | ((with_reducible show WSt ..); (with_reducible apply wpA_store1I hS); exact rfl; (focus repeat constructor); exact rfl; exact rfl; exact rfl; exact rfl; kernel_rfl; intro wx hS; (try simp only [Act.put, List.setIfInBounds_toArray, List.set_cons_zero, List.set_cons_succ]); (try simp only [Act.eval, Array.getD_eq_getD_getElem?, List.getElem?_toArray, List.getElem?_cons_succ, List.getElem?_cons_zero, Option.getD_some, List.set_cons_succ, List.set_cons_zero, Value.cells, List.toList_toArray] at hS)) | ((with_reducible show WBx ..); (with_reducible apply wpA_box hS); exact rfl; exact rfl; intro _ wx hS; (try simp only [Act.put, List.setIfInBounds_toArray, List.set_cons_zero, List.set_cons_succ]); (try simp only [Act.eval, Array.getD_eq_getD_getElem?, List.getElem?_toArray, List.getElem?_cons_succ, List.getElem?_cons_zero, Option.getD_some, List.set_cons_succ, List.set_cons_zero, Value.cells, List.toList_toArray] at hS)))
    go_ret
    ((try simp only [List.set_cons_succ, List.set_cons_zero] at hS); replace hS := hS.sel [0] 2 (by decide) (by decide) (by simp); simp only [List.filterMap_cons, List.filterMap_nil, List.getElem?_cons_succ, List.getElem?_cons_zero, List.drop_succ_cons, List.drop_zero, List.cons_append, List.nil_append] at hS)
    exact ⟨_, _, rfl, hb2 _ _ (hS.perm List.perm_middle.symm)⟩

theorem release_c (w0 w : World) (R : List Hp) (g : Nat) (σ : LocksS) (c : CmdS) (h : LocksSt w0 w g σ R) (ok : σ.ok 10000000) :
    Calls Try.prog 13 #[.pointer (some ⟨g, 0, none⟩), .agg #[.int .i64 c.kind, .int .i64 c.session, .int .i64 c.seq, .string c.name, .int .i64 c.n]] w (RelP w0 g R (relD σ c)) := by
  by_cases hk : c.kind = 6 ∨ c.kind = 8
  · cases hx : aget σ.l c.name with
    | none => exact rel_absent w0 w R g σ c h hk hx
    | some x =>
      obtain ⟨hp, hb⟩ := ok_at ok hx
      by_cases hm : x.writer = (c.kind == 6) ∧ x.held.contains c.session = true
      · exact rel_ok w0 w R g σ c x h hk hx hb hp ok.t0 ok.t1 hm
      · refine rel_bad w0 w R g σ c x h hk hx hb hp ?_
        by_cases h1 : x.writer = (c.kind == 6)
        · right
          cases h2 : x.held.contains c.session with
          | true => exact absurd ⟨h1, h2⟩ hm
          | false => rfl
        · exact .inl h1
  · exact rel_not w0 w R g σ c h (fun e => hk (.inl e)) (fun e => hk (.inr e))
end Go.Proofs.Ytelbpnlpmaihhaa
