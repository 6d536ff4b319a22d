/-
  The locks, walked: Ask of a lock that is there.
-/
import Derived.Test.YtelbpnlpmaihhaaLocksW4
namespace Go.Proofs.Ytelbpnlpmaihhaa
set_option linter.unusedVariables false
set_option linter.unusedSimpArgs false
open Go.RowKit

theorem asks_x (w0 w : World) (R : List Hp) (blk : Nat) (ha : Option Addr) (hc : Nat) (qa : Option Addr) (qc : Nat) (held : List Int) (wr : Bool) (queue : List WaitS) (s : Int)
    (hS : St w0 w (.cells blk [.slice ha held.length hc, .bool wr, .slice qa queue.length qc] 75 :: .row 3 1 ha held.length hc (held.map (Value.int .i64)) :: .row 70 3 qa queue.length qc (queue.flatMap WaitS.cells) :: R)) (hh : held.length ≤ 1000000000) (hq : queue.length ≤ 1000000000) :
    Calls Try.prog 34 #[.pointer (some ⟨blk, 0, none⟩), .int .i64 s] w fun e w' => e = .returned (.bool (asksD ⟨held, wr, queue⟩ s)) ∧ St w0 w' (.cells blk [.slice ha held.length hc, .bool wr, .slice qa queue.length qc] 75 :: .row 3 1 ha held.length hc (held.map (Value.int .i64)) :: .row 70 3 qa queue.length qc (queue.flatMap WaitS.cells) :: R) :=
  asks_c w0 w R ⟨blk, ha, hc, qa, qc, ⟨held, wr, queue⟩⟩ s hS hh hq

set_option maxRecDepth 100000 in
set_option maxHeartbeats 4000000 in
theorem ask_held (w0 w : World) (R : List Hp) (g : Nat) (σ : LocksS) (c : CmdS) (x : LockS) (h : LocksSt w0 w g σ R) (hk : c.kind = 5 ∨ c.kind = 7) (hx : aget σ.l c.name = some x) (hb : x.held.length + x.queue.length ≤ 10000000) (ha0 : asksD x c.session = true) :
    Calls Try.prog 10 #[.pointer (some ⟨g, 0, none⟩), .agg #[.int .i64 c.kind, .int .i64 c.session, .int .i64 c.seq, .string c.name, .int .i64 c.n]] w (AskP w0 g R (askD σ c)) := by
  have e : askD σ c = ([⟨c.session, c.seq, 12, 0, 0⟩], false, σ) := by
    unfold askD; rw [if_neg (by rintro ⟨h1, h2⟩; rcases hk with h | h <;> simp_all), hx]; simp only; rw [if_pos ha0]
  rw [e]
  clear e
  obtain ⟨m, Z, i, z, hZ, hi, hz, rfl, hS⟩ := locks_open h hx
  have hlk0 := locks_look hz
  have hfin : ∀ (w' : World) (tok : Int) (z' : LM) (A : Hp), z'.blk = z.blk → St w0 w' (.cells g [.map (some m), .int .u64 tok] 68 :: .mp m .string (Z.map kvL) :: A :: (z'.hp ++ ((Z.eraseIdx i).flatMap lhp ++ R))) → LocksSt w0 w' g ⟨aput σ.l c.name z'.s, tok⟩ (A :: R) := fun w' tok z' A hb h =>
    locks_put (z := z) hZ hi hz hb (h.perm (.cons _ (.cons _ (List.perm_middle.symm.trans (.append_left _ List.perm_middle.symm)))))
  have hsame : aput σ.l c.name z.s = σ.l := by
    rw [aput, hi]
    have h1 : σ.l[i]? = some (c.name, z.s) := by rw [← hZ, List.getElem?_map, hz]; rfl
    apply List.ext_getElem?
    intro q
    by_cases hq : i = q
    · subst hq; rw [List.getElem?_set_self (List.getElem?_eq_some_iff.1 h1).1, h1]
    · rw [List.getElem?_set_ne hq]
  obtain ⟨D, hD⟩ : ∃ D, (Z.eraseIdx i).flatMap lhp ++ R = D := ⟨_, rfl⟩
  rw [hD] at hS hfin
  obtain ⟨kvs, hkv⟩ : ∃ kvs, Z.map kvL = kvs := ⟨_, rfl⟩
  rw [hkv] at hS hlk0 hfin
  obtain ⟨blk, ha, hc, qa, qc, ⟨held, wr, queue⟩⟩ := z
  obtain ⟨kind, ses, seq, nm, n⟩ := c
  simp only [LM.hp, List.cons_append, List.nil_append] at hS hlk0 hk hb ha0 hfin hsame ⊢
  have HF := Lib.hid hfin
  have HSM := Lib.hid hsame
  have HA := Lib.hid ha0
  have hlk := hlk0
  clear hlk0 hfin hsame hZ hi hz hD hkv hx h ha0
  have hh : held.length ≤ 1000000000 := by omega
  have hq : queue.length ≤ 1000000000 := by omega
  rcases hk with rfl | rfl
  all_goals
    go_enter Try.func10, Try.ntmps10
    go_wp2_with (first | ((with_reducible show WGd ..); (with_reducible apply wpA_guard); exact rfl; skip) | ((first | ((with_reducible show WAl ..); (with_reducible apply wpA_alloc (t := 70) hS (v := .agg #[.int .i64 0, .int .i64 0, .bool false])); kernel_rfl; exact rfl; intro _ wx hS) | ((with_reducible show WAl ..); (with_reducible apply wpA_alloc (t := 38) hS (v := .agg #[.int .i64 0, .int .i64 0, .int .i64 0, .int .u64 0, .int .i64 0])); kernel_rfl; exact rfl; intro _ wx hS) | ((with_reducible show WBs ..); (with_reducible apply wpA_oneN hS (z := .agg #[.int .i64 0, .int .i64 0, .int .i64 0, .int .u64 0, .int .i64 0]) (bytes := 40) (size := 5)); exact Try.underlying26; kernel_rfl; exact rfl; exact rfl; exact rfl; exact (by decide); exact (by decide); intro _ wx hS) | ((with_reducible show WBs ..); (with_reducible apply wpA_oneN hS (z := .agg #[.int .i64 0, .int .i64 0, .bool false]) (bytes := 24) (size := 3)); exact Try.underlying73; kernel_rfl; exact rfl; exact rfl; exact rfl; exact (by decide); exact (by decide); intro _ wx hS) | ((with_reducible show WBx ..); (with_reducible apply wpA_box hS); exact rfl; exact rfl; intro _ wx hS)); (try simp only [Act.put, List.setIfInBounds_toArray, List.set_cons_zero, List.set_cons_succ]); (try simp only [Act.eval, Array.getD_eq_getD_getElem?, List.getElem?_toArray, List.getElem?_cons_succ, List.getElem?_cons_zero, Option.getD_some, List.set_cons_succ, List.set_cons_zero, Value.cells, List.toList_toArray] at hS)) | ((with_reducible show WLd ..); (with_reducible apply wpA_loadN (t := 30)); exact rfl; ((with_reducible apply Hp.rangeI hS (n := 5)); (focus repeat constructor)); kernel_rfl; kernel_rfl; (try simp only [Act.put, List.setIfInBounds_toArray, List.set_cons_zero, List.set_cons_succ])) | ((with_reducible show WLd ..); (with_reducible apply wpA_loadN (t := 70)); exact rfl; ((with_reducible apply Hp.rangeI hS (n := 3)); (focus repeat constructor)); kernel_rfl; kernel_rfl; (try simp only [Act.put, List.setIfInBounds_toArray, List.set_cons_zero, List.set_cons_succ])) | ((with_reducible show WLd ..); (with_reducible apply wpA_loadN (t := 38)); exact rfl; ((with_reducible apply Hp.rangeI hS (n := 5)); (focus repeat constructor)); kernel_rfl; kernel_rfl; (try simp only [Act.put, List.setIfInBounds_toArray, List.set_cons_zero, List.set_cons_succ])) | ((with_reducible show WAp ..); (with_reducible apply wpA_appendI hS (e := 70) (z := .agg #[.int .i64 0, .int .i64 0, .bool false]) (size := 3) (bytes := 24)); exact rfl; exact rfl; exact Try.underlying73; (focus repeat constructor); exact .inr Try.underlying73; kernel_rfl; exact rfl; exact (Src.freshN (m := 1) hS 0 rfl rfl (by rfl)); exact (by unfold maxLen; omega); exact (by omega); intro _ _ wx hS; (try simp only [Act.put, List.setIfInBounds_toArray, List.set_cons_zero, List.set_cons_succ])) | ((with_reducible show WSt ..); (with_reducible apply wpA_storeI hS); exact rfl; (focus repeat constructor); exact rfl; exact rfl; exact rfl; exact (Nat.le_of_ble_eq_true rfl); kernel_rfl; intro wx hS; (try simp only [Act.put, List.setIfInBounds_toArray, List.set_cons_zero, List.set_cons_succ]); (try simp only [Act.eval, Array.getD_eq_getD_getElem?, List.getElem?_toArray, List.getElem?_cons_succ, List.getElem?_cons_zero, Option.getD_some, List.set_cons_succ, List.set_cons_zero, Value.cells, List.toList_toArray] at hS); (try simp only [List.take_zero, List.take_succ_cons, List.nil_append, List.cons_append, List.length_cons, List.length_nil, Nat.reduceAdd, Nat.zero_add, List.drop_succ_cons, List.drop_zero, List.drop_nil, List.append_nil] at hS)) | ((with_reducible show WLd ..); (with_reducible apply wpA_load); exact rfl; (first | ((with_reducible apply St.cellI hS); (focus repeat constructor); exact rfl) | assumption); kernel_rfl) | ((with_reducible show WSt ..); (with_reducible apply wpA_store1I hS); exact rfl; (focus repeat constructor); exact rfl; exact rfl; exact rfl; exact rfl; kernel_rfl; intro wx hS; (try simp only [Act.put, List.setIfInBounds_toArray, List.set_cons_zero, List.set_cons_succ]); (try simp only [Act.eval, Array.getD_eq_getD_getElem?, List.getElem?_toArray, List.getElem?_cons_succ, List.getElem?_cons_zero, Option.getD_some, List.set_cons_succ, List.set_cons_zero, Value.cells, List.toList_toArray] at hS)))
    refine wp_region_St hS (by kernel_rfl) (by kernel_rfl) (Bx.out ?_)
    refine bQ_val ?_ rfl ?_ ?_
    rotate_left
    · intro w hS; go_simp; (first | done | (with_reducible rfl) | (refine (if_pos ?_).trans ?_; (focus omega); with_reducible rfl) | skip)
    (simp only [Act.put, List.setIfInBounds_toArray, List.set_cons_zero, List.set_cons_succ])
    refine bQ_val ?_ rfl ?_ ?_
    rotate_left
    · intro w hS; go_simp; (first | done | (with_reducible rfl) | (refine (if_pos ?_).trans ?_; (focus omega); with_reducible rfl) | skip)
    (simp only [Act.put, List.setIfInBounds_toArray, List.set_cons_zero, List.set_cons_succ])
    refine bQ_val ?_ rfl ?_ ?_
    rotate_left
    · intro w hS; go_simp; (first | done | (with_reducible rfl) | (refine (if_pos ?_).trans ?_; (focus omega); with_reducible rfl) | skip)
    (simp only [Act.put, List.setIfInBounds_toArray, List.set_cons_zero, List.set_cons_succ])
    refine bQ_load rfl (fun w hS => by (first | ((with_reducible apply St.cellI hS); (focus repeat constructor); exact rfl) | assumption)) (by kernel_rfl) ?_
    (simp only [Act.put, List.setIfInBounds_toArray, List.set_cons_zero, List.set_cons_succ])
    refine bQ_val ?_ rfl ?_ ?_
    rotate_left
    · intro w hS; go_simp; (first | done | (with_reducible rfl) | (refine (if_pos ?_).trans ?_; (focus omega); with_reducible rfl) | skip)
    (simp only [Act.put, List.setIfInBounds_toArray, List.set_cons_zero, List.set_cons_succ])
    refine bQ_load rfl (fun w hS => by (first | ((with_reducible apply St.cellI hS); (focus repeat constructor); exact rfl) | assumption)) (by kernel_rfl) ?_
    (simp only [Act.put, List.setIfInBounds_toArray, List.set_cons_zero, List.set_cons_succ])
    refine bQ_lookup 3 (z := .pointer none) (r := some (.pointer (some ⟨blk, 0, none⟩))) rfl rfl rfl Try.underlying66 Try.underlying9 trivial (by kernel_rfl) hlk ?_
    dsimp only [Option.getD, Option.isSome, if_true, Bool.false_eq_true, if_false]
    (simp only [Act.put, List.setIfInBounds_toArray, List.set_cons_zero, List.set_cons_succ])
    refine bQ_val ?_ rfl ?_ ?_
    rotate_left
    · intro w hS; go_simp; (first | done | (with_reducible rfl) | (refine (if_pos ?_).trans ?_; (focus omega); with_reducible rfl) | skip)
    (simp only [Act.put, List.setIfInBounds_toArray, List.set_cons_zero, List.set_cons_succ])
    refine ⟨wpQuiet_nil ?_⟩
    intro wx hS
    go_wp2_with (first | ((with_reducible show WGd ..); (with_reducible apply wpA_guard); exact rfl; skip) | (go_at_call 34; ((try simp only [List.set_cons_succ, List.set_cons_zero] at hS); replace hS := hS.sel [4, 5, 6, 0, 1, 2, 3] 7 (by decide) (by decide) (by simp); simp only [List.filterMap_cons, List.filterMap_nil, List.getElem?_cons_succ, List.getElem?_cons_zero, List.drop_succ_cons, List.drop_zero, List.cons_append, List.nil_append] at hS); with_reducible refine (asks_x w0 _ _ blk ha hc qa qc held _ queue ses hS hh hq).mono ?_; rintro _ _ ⟨rfl, hS⟩; rw [HA.out]) | (go_at_call 32; with_reducible refine (one_c w0 _ _ hS ⟨_, ses, seq, nm, n⟩ 12).mono ?_; rintro _ _ ⟨gg, rfl, hS⟩) | ((first | ((with_reducible show WAl ..); (with_reducible apply wpA_alloc (t := 70) hS (v := .agg #[.int .i64 0, .int .i64 0, .bool false])); kernel_rfl; exact rfl; intro _ wx hS) | ((with_reducible show WAl ..); (with_reducible apply wpA_alloc (t := 38) hS (v := .agg #[.int .i64 0, .int .i64 0, .int .i64 0, .int .u64 0, .int .i64 0])); kernel_rfl; exact rfl; intro _ wx hS) | ((with_reducible show WBs ..); (with_reducible apply wpA_oneN hS (z := .agg #[.int .i64 0, .int .i64 0, .int .i64 0, .int .u64 0, .int .i64 0]) (bytes := 40) (size := 5)); exact Try.underlying26; kernel_rfl; exact rfl; exact rfl; exact rfl; exact (by decide); exact (by decide); intro _ wx hS) | ((with_reducible show WBs ..); (with_reducible apply wpA_oneN hS (z := .agg #[.int .i64 0, .int .i64 0, .bool false]) (bytes := 24) (size := 3)); exact Try.underlying73; kernel_rfl; exact rfl; exact rfl; exact rfl; exact (by decide); exact (by decide); intro _ wx hS) | ((with_reducible show WBx ..); (with_reducible apply wpA_box hS); exact rfl; exact rfl; intro _ wx hS)); (try simp only [Act.put, List.setIfInBounds_toArray, List.set_cons_zero, List.set_cons_succ]); (try simp only [Act.eval, Array.getD_eq_getD_getElem?, List.getElem?_toArray, List.getElem?_cons_succ, List.getElem?_cons_zero, Option.getD_some, List.set_cons_succ, List.set_cons_zero, Value.cells, List.toList_toArray] at hS)) | ((with_reducible show WLd ..); (with_reducible apply wpA_loadN (t := 30)); exact rfl; ((with_reducible apply Hp.rangeI hS (n := 5)); (focus repeat constructor)); kernel_rfl; kernel_rfl; (try simp only [Act.put, List.setIfInBounds_toArray, List.set_cons_zero, List.set_cons_succ])) | ((with_reducible show WLd ..); (with_reducible apply wpA_loadN (t := 70)); exact rfl; ((with_reducible apply Hp.rangeI hS (n := 3)); (focus repeat constructor)); kernel_rfl; kernel_rfl; (try simp only [Act.put, List.setIfInBounds_toArray, List.set_cons_zero, List.set_cons_succ])) | ((with_reducible show WLd ..); (with_reducible apply wpA_loadN (t := 38)); exact rfl; ((with_reducible apply Hp.rangeI hS (n := 5)); (focus repeat constructor)); kernel_rfl; kernel_rfl; (try simp only [Act.put, List.setIfInBounds_toArray, List.set_cons_zero, List.set_cons_succ])) | ((with_reducible show WAp ..); (with_reducible apply wpA_appendI hS (e := 70) (z := .agg #[.int .i64 0, .int .i64 0, .bool false]) (size := 3) (bytes := 24)); exact rfl; exact rfl; exact Try.underlying73; (focus repeat constructor); exact .inr Try.underlying73; kernel_rfl; exact rfl; exact (Src.freshN (m := 1) hS 0 rfl rfl (by rfl)); exact (by unfold maxLen; omega); exact (by omega); intro _ _ wx hS; (try simp only [Act.put, List.setIfInBounds_toArray, List.set_cons_zero, List.set_cons_succ])) | ((with_reducible show WSt ..); (with_reducible apply wpA_storeI hS); exact rfl; (focus repeat constructor); exact rfl; exact rfl; exact rfl; exact (Nat.le_of_ble_eq_true rfl); kernel_rfl; intro wx hS; (try simp only [Act.put, List.setIfInBounds_toArray, List.set_cons_zero, List.set_cons_succ]); (try simp only [Act.eval, Array.getD_eq_getD_getElem?, List.getElem?_toArray, List.getElem?_cons_succ, List.getElem?_cons_zero, Option.getD_some, List.set_cons_succ, List.set_cons_zero, Value.cells, List.toList_toArray] at hS); (try simp only [List.take_zero, List.take_succ_cons, List.nil_append, List.cons_append, List.length_cons, List.length_nil, Nat.reduceAdd, Nat.zero_add, List.drop_succ_cons, List.drop_zero, List.drop_nil, List.append_nil] at hS)) | ((with_reducible show WLd ..); (with_reducible apply wpA_load); exact rfl; (first | ((with_reducible apply St.cellI hS); (focus repeat constructor); exact rfl) | assumption); kernel_rfl) | ((with_reducible show WSt ..); (with_reducible apply wpA_store1I hS); exact rfl; (focus repeat constructor); exact rfl; exact rfl; exact rfl; exact rfl; kernel_rfl; intro wx hS; (try simp only [Act.put, List.setIfInBounds_toArray, List.set_cons_zero, List.set_cons_succ]); (try simp only [Act.eval, Array.getD_eq_getD_getElem?, List.getElem?_toArray, List.getElem?_cons_succ, List.getElem?_cons_zero, Option.getD_some, List.set_cons_succ, List.set_cons_zero, Value.cells, List.toList_toArray] at hS)))
    go_ret2
    refine ⟨_, _, rfl, ?_⟩
    have h2 := HF.out _ σ.tok ⟨blk, ha, hc, qa, qc, ⟨held, wr, queue⟩⟩ _ rfl ((hS).sel [6, 7, 0, 1, 2, 3] 8 (by decide) (by decide) (by simp))
    rw [HSM.out] at h2
    exact h2

set_option maxRecDepth 100000 in
set_option maxHeartbeats 4000000 in
theorem ask_queue (w0 w : World) (R : List Hp) (g : Nat) (σ : LocksS) (c : CmdS) (x : LockS) (h : LocksSt w0 w g σ R) (hk : c.kind = 5 ∨ c.kind = 7) (hx : aget σ.l c.name = some x) (hb : x.held.length + x.queue.length ≤ 10000000) (ha0 : asksD x c.session = false) (hnb : ¬ ((c.kind == 7) = true ∧ x.writer = false ∧ x.queue = [])) :
    Calls Try.prog 10 #[.pointer (some ⟨g, 0, none⟩), .agg #[.int .i64 c.kind, .int .i64 c.session, .int .i64 c.seq, .string c.name, .int .i64 c.n]] w (AskP w0 g R (askD σ c)) := by
  have e : askD σ c = ([], true, ⟨aput σ.l c.name { x with queue := x.queue ++ [⟨c.session, c.seq, c.kind == 7⟩] }, σ.tok⟩) := by
    unfold askD; rw [if_neg (by rintro ⟨h1, h2⟩; rcases hk with h | h <;> simp_all), hx]; simp only; rw [if_neg (by rw [ha0]; simp), if_neg hnb]
  rw [e]
  clear e
  obtain ⟨m, Z, i, z, hZ, hi, hz, rfl, hS⟩ := locks_open h hx
  have hlk0 := locks_look hz
  have hfin : ∀ (w' : World) (tok : Int) (z' : LM) (A : Hp), z'.blk = z.blk → St w0 w' (.cells g [.map (some m), .int .u64 tok] 68 :: .mp m .string (Z.map kvL) :: A :: (z'.hp ++ ((Z.eraseIdx i).flatMap lhp ++ R))) → LocksSt w0 w' g ⟨aput σ.l c.name z'.s, tok⟩ (A :: R) := fun w' tok z' A hb h =>
    locks_put (z := z) hZ hi hz hb (h.perm (.cons _ (.cons _ (List.perm_middle.symm.trans (.append_left _ List.perm_middle.symm)))))
  have hsame : aput σ.l c.name z.s = σ.l := by
    rw [aput, hi]
    have h1 : σ.l[i]? = some (c.name, z.s) := by rw [← hZ, List.getElem?_map, hz]; rfl
    apply List.ext_getElem?
    intro q
    by_cases hq : i = q
    · subst hq; rw [List.getElem?_set_self (List.getElem?_eq_some_iff.1 h1).1, h1]
    · rw [List.getElem?_set_ne hq]
  obtain ⟨D, hD⟩ : ∃ D, (Z.eraseIdx i).flatMap lhp ++ R = D := ⟨_, rfl⟩
  rw [hD] at hS hfin
  obtain ⟨kvs, hkv⟩ : ∃ kvs, Z.map kvL = kvs := ⟨_, rfl⟩
  rw [hkv] at hS hlk0 hfin
  obtain ⟨blk, ha, hc, qa, qc, ⟨held, wr, queue⟩⟩ := z
  obtain ⟨kind, ses, seq, nm, n⟩ := c
  simp only [LM.hp, List.cons_append, List.nil_append] at hS hlk0 hk hb ha0 hfin hsame ⊢
  have HF := Lib.hid hfin
  have HSM := Lib.hid hsame
  have HA := Lib.hid ha0
  have hlk := hlk0
  clear hlk0 hfin hsame hZ hi hz hD hkv hx h ha0
  have hh : held.length ≤ 1000000000 := by omega
  have hq : queue.length ≤ 1000000000 := by omega
  simp only at hnb
  rcases hk with rfl | rfl
  · rw [show ((5 : Int) == 7) = false from rfl]
    clear hnb
    skip
    go_enter Try.func10, Try.ntmps10
    go_wp2_with (first | ((with_reducible show WGd ..); (with_reducible apply wpA_guard); exact rfl; skip) | ((first | ((with_reducible show WAl ..); (with_reducible apply wpA_alloc (t := 70) hS (v := .agg #[.int .i64 0, .int .i64 0, .bool false])); kernel_rfl; exact rfl; intro _ wx hS) | ((with_reducible show WAl ..); (with_reducible apply wpA_alloc (t := 38) hS (v := .agg #[.int .i64 0, .int .i64 0, .int .i64 0, .int .u64 0, .int .i64 0])); kernel_rfl; exact rfl; intro _ wx hS) | ((with_reducible show WBs ..); (with_reducible apply wpA_oneN hS (z := .agg #[.int .i64 0, .int .i64 0, .int .i64 0, .int .u64 0, .int .i64 0]) (bytes := 40) (size := 5)); exact Try.underlying26; kernel_rfl; exact rfl; exact rfl; exact rfl; exact (by decide); exact (by decide); intro _ wx hS) | ((with_reducible show WBs ..); (with_reducible apply wpA_oneN hS (z := .agg #[.int .i64 0, .int .i64 0, .bool false]) (bytes := 24) (size := 3)); exact Try.underlying73; kernel_rfl; exact rfl; exact rfl; exact rfl; exact (by decide); exact (by decide); intro _ wx hS) | ((with_reducible show WBx ..); (with_reducible apply wpA_box hS); exact rfl; exact rfl; intro _ wx hS)); (try simp only [Act.put, List.setIfInBounds_toArray, List.set_cons_zero, List.set_cons_succ]); (try simp only [Act.eval, Array.getD_eq_getD_getElem?, List.getElem?_toArray, List.getElem?_cons_succ, List.getElem?_cons_zero, Option.getD_some, List.set_cons_succ, List.set_cons_zero, Value.cells, List.toList_toArray] at hS)) | ((with_reducible show WLd ..); (with_reducible apply wpA_loadN (t := 30)); exact rfl; ((with_reducible apply Hp.rangeI hS (n := 5)); (focus repeat constructor)); kernel_rfl; kernel_rfl; (try simp only [Act.put, List.setIfInBounds_toArray, List.set_cons_zero, List.set_cons_succ])) | ((with_reducible show WLd ..); (with_reducible apply wpA_loadN (t := 70)); exact rfl; ((with_reducible apply Hp.rangeI hS (n := 3)); (focus repeat constructor)); kernel_rfl; kernel_rfl; (try simp only [Act.put, List.setIfInBounds_toArray, List.set_cons_zero, List.set_cons_succ])) | ((with_reducible show WLd ..); (with_reducible apply wpA_loadN (t := 38)); exact rfl; ((with_reducible apply Hp.rangeI hS (n := 5)); (focus repeat constructor)); kernel_rfl; kernel_rfl; (try simp only [Act.put, List.setIfInBounds_toArray, List.set_cons_zero, List.set_cons_succ])) | ((with_reducible show WAp ..); (with_reducible apply wpA_appendI hS (e := 70) (z := .agg #[.int .i64 0, .int .i64 0, .bool false]) (size := 3) (bytes := 24)); exact rfl; exact rfl; exact Try.underlying73; (focus repeat constructor); exact .inr Try.underlying73; kernel_rfl; exact rfl; exact (Src.freshN (m := 1) hS 0 rfl rfl (by rfl)); exact (by unfold maxLen; omega); exact (by omega); intro _ _ wx hS; (try simp only [Act.put, List.setIfInBounds_toArray, List.set_cons_zero, List.set_cons_succ])) | ((with_reducible show WSt ..); (with_reducible apply wpA_storeI hS); exact rfl; (focus repeat constructor); exact rfl; exact rfl; exact rfl; exact (Nat.le_of_ble_eq_true rfl); kernel_rfl; intro wx hS; (try simp only [Act.put, List.setIfInBounds_toArray, List.set_cons_zero, List.set_cons_succ]); (try simp only [Act.eval, Array.getD_eq_getD_getElem?, List.getElem?_toArray, List.getElem?_cons_succ, List.getElem?_cons_zero, Option.getD_some, List.set_cons_succ, List.set_cons_zero, Value.cells, List.toList_toArray] at hS); (try simp only [List.take_zero, List.take_succ_cons, List.nil_append, List.cons_append, List.length_cons, List.length_nil, Nat.reduceAdd, Nat.zero_add, List.drop_succ_cons, List.drop_zero, List.drop_nil, List.append_nil] at hS)) | ((with_reducible show WLd ..); (with_reducible apply wpA_load); exact rfl; (first | ((with_reducible apply St.cellI hS); (focus repeat constructor); exact rfl) | assumption); kernel_rfl) | ((with_reducible show WSt ..); (with_reducible apply wpA_store1I hS); exact rfl; (focus repeat constructor); exact rfl; exact rfl; exact rfl; exact rfl; kernel_rfl; intro wx hS; (try simp only [Act.put, List.setIfInBounds_toArray, List.set_cons_zero, List.set_cons_succ]); (try simp only [Act.eval, Array.getD_eq_getD_getElem?, List.getElem?_toArray, List.getElem?_cons_succ, List.getElem?_cons_zero, Option.getD_some, List.set_cons_succ, List.set_cons_zero, Value.cells, List.toList_toArray] at hS)))
    refine wp_region_St hS (by kernel_rfl) (by kernel_rfl) (Bx.out ?_)
    refine bQ_val ?_ rfl ?_ ?_
    rotate_left
    · intro w hS; go_simp; (first | done | (with_reducible rfl) | (refine (if_pos ?_).trans ?_; (focus omega); with_reducible rfl) | skip)
    (simp only [Act.put, List.setIfInBounds_toArray, List.set_cons_zero, List.set_cons_succ])
    refine bQ_val ?_ rfl ?_ ?_
    rotate_left
    · intro w hS; go_simp; (first | done | (with_reducible rfl) | (refine (if_pos ?_).trans ?_; (focus omega); with_reducible rfl) | skip)
    (simp only [Act.put, List.setIfInBounds_toArray, List.set_cons_zero, List.set_cons_succ])
    refine bQ_val ?_ rfl ?_ ?_
    rotate_left
    · intro w hS; go_simp; (first | done | (with_reducible rfl) | (refine (if_pos ?_).trans ?_; (focus omega); with_reducible rfl) | skip)
    (simp only [Act.put, List.setIfInBounds_toArray, List.set_cons_zero, List.set_cons_succ])
    refine bQ_load rfl (fun w hS => by (first | ((with_reducible apply St.cellI hS); (focus repeat constructor); exact rfl) | assumption)) (by kernel_rfl) ?_
    (simp only [Act.put, List.setIfInBounds_toArray, List.set_cons_zero, List.set_cons_succ])
    refine bQ_val ?_ rfl ?_ ?_
    rotate_left
    · intro w hS; go_simp; (first | done | (with_reducible rfl) | (refine (if_pos ?_).trans ?_; (focus omega); with_reducible rfl) | skip)
    (simp only [Act.put, List.setIfInBounds_toArray, List.set_cons_zero, List.set_cons_succ])
    refine bQ_load rfl (fun w hS => by (first | ((with_reducible apply St.cellI hS); (focus repeat constructor); exact rfl) | assumption)) (by kernel_rfl) ?_
    (simp only [Act.put, List.setIfInBounds_toArray, List.set_cons_zero, List.set_cons_succ])
    refine bQ_lookup 3 (z := .pointer none) (r := some (.pointer (some ⟨blk, 0, none⟩))) rfl rfl rfl Try.underlying66 Try.underlying9 trivial (by kernel_rfl) hlk ?_
    dsimp only [Option.getD, Option.isSome, if_true, Bool.false_eq_true, if_false]
    (simp only [Act.put, List.setIfInBounds_toArray, List.set_cons_zero, List.set_cons_succ])
    refine bQ_val ?_ rfl ?_ ?_
    rotate_left
    · intro w hS; go_simp; (first | done | (with_reducible rfl) | (refine (if_pos ?_).trans ?_; (focus omega); with_reducible rfl) | skip)
    (simp only [Act.put, List.setIfInBounds_toArray, List.set_cons_zero, List.set_cons_succ])
    refine ⟨wpQuiet_nil ?_⟩
    intro wx hS
    go_wp2_with (first | ((with_reducible show WGd ..); (with_reducible apply wpA_guard); exact rfl; skip) | (go_at_call 34; ((try simp only [List.set_cons_succ, List.set_cons_zero] at hS); replace hS := hS.sel [4, 5, 6, 0, 1, 2, 3] 7 (by decide) (by decide) (by simp); simp only [List.filterMap_cons, List.filterMap_nil, List.getElem?_cons_succ, List.getElem?_cons_zero, List.drop_succ_cons, List.drop_zero, List.cons_append, List.nil_append] at hS); with_reducible refine (asks_x w0 _ _ blk ha hc qa qc held _ queue ses hS hh hq).mono ?_; rintro _ _ ⟨rfl, hS⟩; rw [HA.out]) | ((first | ((with_reducible show WAl ..); (with_reducible apply wpA_alloc (t := 70) hS (v := .agg #[.int .i64 0, .int .i64 0, .bool false])); kernel_rfl; exact rfl; intro _ wx hS) | ((with_reducible show WAl ..); (with_reducible apply wpA_alloc (t := 38) hS (v := .agg #[.int .i64 0, .int .i64 0, .int .i64 0, .int .u64 0, .int .i64 0])); kernel_rfl; exact rfl; intro _ wx hS) | ((with_reducible show WBs ..); (with_reducible apply wpA_oneN hS (z := .agg #[.int .i64 0, .int .i64 0, .int .i64 0, .int .u64 0, .int .i64 0]) (bytes := 40) (size := 5)); exact Try.underlying26; kernel_rfl; exact rfl; exact rfl; exact rfl; exact (by decide); exact (by decide); intro _ wx hS) | ((with_reducible show WBs ..); (with_reducible apply wpA_oneN hS (z := .agg #[.int .i64 0, .int .i64 0, .bool false]) (bytes := 24) (size := 3)); exact Try.underlying73; kernel_rfl; exact rfl; exact rfl; exact rfl; exact (by decide); exact (by decide); intro _ wx hS) | ((with_reducible show WBx ..); (with_reducible apply wpA_box hS); exact rfl; exact rfl; intro _ wx hS)); (try simp only [Act.put, List.setIfInBounds_toArray, List.set_cons_zero, List.set_cons_succ]); (try simp only [Act.eval, Array.getD_eq_getD_getElem?, List.getElem?_toArray, List.getElem?_cons_succ, List.getElem?_cons_zero, Option.getD_some, List.set_cons_succ, List.set_cons_zero, Value.cells, List.toList_toArray] at hS)) | ((with_reducible show WLd ..); (with_reducible apply wpA_loadN (t := 30)); exact rfl; ((with_reducible apply Hp.rangeI hS (n := 5)); (focus repeat constructor)); kernel_rfl; kernel_rfl; (try simp only [Act.put, List.setIfInBounds_toArray, List.set_cons_zero, List.set_cons_succ])) | ((with_reducible show WLd ..); (with_reducible apply wpA_loadN (t := 70)); exact rfl; ((with_reducible apply Hp.rangeI hS (n := 3)); (focus repeat constructor)); kernel_rfl; kernel_rfl; (try simp only [Act.put, List.setIfInBounds_toArray, List.set_cons_zero, List.set_cons_succ])) | ((with_reducible show WLd ..); (with_reducible apply wpA_loadN (t := 38)); exact rfl; ((with_reducible apply Hp.rangeI hS (n := 5)); (focus repeat constructor)); kernel_rfl; kernel_rfl; (try simp only [Act.put, List.setIfInBounds_toArray, List.set_cons_zero, List.set_cons_succ])) | ((with_reducible show WAp ..); (with_reducible apply wpA_appendI hS (e := 70) (z := .agg #[.int .i64 0, .int .i64 0, .bool false]) (size := 3) (bytes := 24)); exact rfl; exact rfl; exact Try.underlying73; (focus repeat constructor); exact .inr Try.underlying73; kernel_rfl; exact rfl; exact (Src.freshN (m := 1) hS 0 rfl rfl (by rfl)); exact (by unfold maxLen; omega); exact (by omega); intro _ _ wx hS; (try simp only [Act.put, List.setIfInBounds_toArray, List.set_cons_zero, List.set_cons_succ])) | ((with_reducible show WSt ..); (with_reducible apply wpA_storeI hS); exact rfl; (focus repeat constructor); exact rfl; exact rfl; exact rfl; exact (Nat.le_of_ble_eq_true rfl); kernel_rfl; intro wx hS; (try simp only [Act.put, List.setIfInBounds_toArray, List.set_cons_zero, List.set_cons_succ]); (try simp only [Act.eval, Array.getD_eq_getD_getElem?, List.getElem?_toArray, List.getElem?_cons_succ, List.getElem?_cons_zero, Option.getD_some, List.set_cons_succ, List.set_cons_zero, Value.cells, List.toList_toArray] at hS); (try simp only [List.take_zero, List.take_succ_cons, List.nil_append, List.cons_append, List.length_cons, List.length_nil, Nat.reduceAdd, Nat.zero_add, List.drop_succ_cons, List.drop_zero, List.drop_nil, List.append_nil] at hS)) | ((with_reducible show WLd ..); (with_reducible apply wpA_load); exact rfl; (first | ((with_reducible apply St.cellI hS); (focus repeat constructor); exact rfl) | assumption); kernel_rfl) | ((with_reducible show WSt ..); (with_reducible apply wpA_store1I hS); exact rfl; (focus repeat constructor); exact rfl; exact rfl; exact rfl; exact rfl; kernel_rfl; intro wx hS; (try simp only [Act.put, List.setIfInBounds_toArray, List.set_cons_zero, List.set_cons_succ]); (try simp only [Act.eval, Array.getD_eq_getD_getElem?, List.getElem?_toArray, List.getElem?_cons_succ, List.getElem?_cons_zero, Option.getD_some, List.set_cons_succ, List.set_cons_zero, Value.cells, List.toList_toArray] at hS)))
    refine wp_region_E 7 hS (by kernel_rfl) (fun _ hR hS => ?_)
    simp only [List.length_cons, List.length_nil, Nat.reduceAdd]
    refine takeP_val (i := 0) ?_ rfl (by exact rfl) (by kernel_rfl) (fun _ _ _ h => h) ?_ hR (fun hR => ?_)
    rotate_left
    · intro w; go_simp; (first | done | (with_reducible rfl) | (refine (if_pos ?_).trans ?_; (focus omega); with_reducible rfl) | skip)
    (simp only [Act.put, List.setIfInBounds_toArray, List.set_cons_zero, List.set_cons_succ])
    refine takeP_val (i := 1) ?_ rfl (by exact rfl) (by kernel_rfl) (fun _ _ _ h => h) ?_ hR (fun hR => ?_)
    rotate_left
    · intro w; go_simp; (first | done | (with_reducible rfl) | (refine (if_pos ?_).trans ?_; (focus omega); with_reducible rfl) | skip)
    (simp only [Act.put, List.setIfInBounds_toArray, List.set_cons_zero, List.set_cons_succ])
    refine takeP_val (i := 2) ?_ rfl (by exact rfl) (by kernel_rfl) (fun _ _ _ h => h) ?_ hR (fun hR => ?_)
    rotate_left
    · intro w; go_simp; (first | done | (with_reducible rfl) | (refine (if_pos ?_).trans ?_; (focus omega); with_reducible rfl) | skip)
    (simp only [Act.put, List.setIfInBounds_toArray, List.set_cons_zero, List.set_cons_succ])
    refine takeP_val (i := 3) ?_ rfl (by exact rfl) (by kernel_rfl) (fun _ _ _ h => h) ?_ hR (fun hR => ?_)
    rotate_left
    · intro w; go_simp; (first | done | (with_reducible rfl) | (refine (if_pos ?_).trans ?_; (focus omega); with_reducible rfl) | skip)
    (simp only [Act.put, List.setIfInBounds_toArray, List.set_cons_zero, List.set_cons_succ])
    refine takeE_load (i := 4) [7] rfl (by exact rfl) (by kernel_rfl) (fun _ _ _ h => h) (by decide) rfl (fun w hS => by (first | ((with_reducible apply St.cellI hS); (focus repeat constructor); exact rfl) | assumption)) (by kernel_rfl) hR (fun hR => ?_)
    (simp only [Act.put, List.setIfInBounds_toArray, List.set_cons_zero, List.set_cons_succ])
    refine takeE_loadN (i := 5) [7, 6] rfl (by exact rfl) (by kernel_rfl) (fun _ _ _ h => h) (by decide) rfl (fun w hS => by (first | exact Hp.range hS 0 rfl _ 3 | exact Hp.range hS 1 rfl _ 3 | exact Hp.range hS 2 rfl _ 3 | exact Hp.range hS 3 rfl _ 3 | exact Hp.range hS 4 rfl _ 3 | exact Hp.range hS 5 rfl _ 3 | exact Hp.range hS 6 rfl _ 3 | exact Hp.range hS 7 rfl _ 3 | exact Hp.range hS 8 rfl _ 3 | exact Hp.range hS 9 rfl _ 3)) (by kernel_rfl) (by kernel_rfl) hR (fun hR => ?_)
    (simp only [Act.put, List.setIfInBounds_toArray, List.set_cons_zero, List.set_cons_succ])
    (try simp only [List.drop_zero, List.drop_succ_cons, List.take_succ_cons, List.take_zero])
    refine oneE (i := 6) (by kernel_rfl) rfl (by exact rfl) (fun K_ hK_ => ?_)
    ((with_reducible apply opA_oneN hS (z := .agg #[.int .i64 0, .int .i64 0, .bool false]) (bytes := 24) (size := 3)); exact Try.underlying73; kernel_rfl; exact rfl; exact rfl; exact rfl; exact (by decide); exact (by decide); intro _ wx hS; (try simp only [Act.eval, Array.getD_eq_getD_getElem?, List.getElem?_toArray, List.getElem?_cons_succ, List.getElem?_cons_zero, Option.getD_some, List.set_cons_succ, List.set_cons_zero, Value.cells, List.toList_toArray] at hS))
    refine hK_ _ _ (fun _ => (hS.tail)) ?_; clear hK_ K_
    (simp only [Act.put, List.setIfInBounds_toArray, List.set_cons_zero, List.set_cons_succ])
    refine oneE (i := 7) (by kernel_rfl) rfl (by exact rfl) (fun K_ hK_ => ?_)
    ((with_reducible apply opA_append hS 3 (z := .agg #[.int .i64 0, .int .i64 0, .bool false]) (size := 3) (bytes := 24)); exact rfl; exact rfl; exact rfl; exact Try.underlying73; exact .inr Try.underlying73; kernel_rfl; exact rfl; exact (Src.freshN (m := 1) hS 0 rfl rfl (by rfl)); exact (by unfold maxLen; omega); exact (by omega); intro qa2 qc2 wx hS)
    refine hK_ _ _ (fun h => by cases h) ?_; clear hK_ K_
    (simp only [Act.put, List.setIfInBounds_toArray, List.set_cons_zero, List.set_cons_succ])
    refine takeP_val (i := 8) ?_ rfl (by exact rfl) (by kernel_rfl) (fun _ _ _ h => h) ?_ (fun h => by cases h) (fun hR => ?_)
    rotate_left
    · intro w; go_simp; (first | done | (with_reducible rfl) | (refine (if_pos ?_).trans ?_; (focus omega); with_reducible rfl) | skip)
    (simp only [Act.put, List.setIfInBounds_toArray, List.set_cons_zero, List.set_cons_succ])
    refine takeP_val (i := 9) ?_ rfl (by exact rfl) (by kernel_rfl) (fun _ _ _ h => h) ?_ (fun h => by cases h) (fun hR => ?_)
    rotate_left
    · intro w; go_simp; (first | done | (with_reducible rfl) | (refine (if_pos ?_).trans ?_; (focus omega); with_reducible rfl) | skip)
    (simp only [Act.put, List.setIfInBounds_toArray, List.set_cons_zero, List.set_cons_succ])
    refine oneE (i := 10) (by kernel_rfl) rfl (by exact rfl) (fun K_ hK_ => ?_)
    ((with_reducible apply opA_store1I hS); exact rfl; (focus repeat constructor); exact rfl; exact rfl; exact rfl; exact rfl; kernel_rfl; intro wx hS; (try simp only [Act.eval, Array.getD_eq_getD_getElem?, List.getElem?_toArray, List.getElem?_cons_succ, List.getElem?_cons_zero, Option.getD_some, List.set_cons_succ, List.set_cons_zero, Value.cells, List.toList_toArray] at hS))
    refine hK_ _ _ (fun h => by cases h) ?_; clear hK_ K_
    (simp only [Act.put, List.setIfInBounds_toArray, List.set_cons_zero, List.set_cons_succ])
    refine wpAnyR_done (by kernel_rfl) ?_ _
    go_wp2_with (first | ((with_reducible show WGd ..); (with_reducible apply wpA_guard); exact rfl; skip) | ((first | ((with_reducible show WAl ..); (with_reducible apply wpA_alloc (t := 70) hS (v := .agg #[.int .i64 0, .int .i64 0, .bool false])); kernel_rfl; exact rfl; intro _ wx hS) | ((with_reducible show WAl ..); (with_reducible apply wpA_alloc (t := 38) hS (v := .agg #[.int .i64 0, .int .i64 0, .int .i64 0, .int .u64 0, .int .i64 0])); kernel_rfl; exact rfl; intro _ wx hS) | ((with_reducible show WBs ..); (with_reducible apply wpA_oneN hS (z := .agg #[.int .i64 0, .int .i64 0, .int .i64 0, .int .u64 0, .int .i64 0]) (bytes := 40) (size := 5)); exact Try.underlying26; kernel_rfl; exact rfl; exact rfl; exact rfl; exact (by decide); exact (by decide); intro _ wx hS) | ((with_reducible show WBs ..); (with_reducible apply wpA_oneN hS (z := .agg #[.int .i64 0, .int .i64 0, .bool false]) (bytes := 24) (size := 3)); exact Try.underlying73; kernel_rfl; exact rfl; exact rfl; exact rfl; exact (by decide); exact (by decide); intro _ wx hS) | ((with_reducible show WBx ..); (with_reducible apply wpA_box hS); exact rfl; exact rfl; intro _ wx hS)); (try simp only [Act.put, List.setIfInBounds_toArray, List.set_cons_zero, List.set_cons_succ]); (try simp only [Act.eval, Array.getD_eq_getD_getElem?, List.getElem?_toArray, List.getElem?_cons_succ, List.getElem?_cons_zero, Option.getD_some, List.set_cons_succ, List.set_cons_zero, Value.cells, List.toList_toArray] at hS)) | ((with_reducible show WLd ..); (with_reducible apply wpA_loadN (t := 30)); exact rfl; ((with_reducible apply Hp.rangeI hS (n := 5)); (focus repeat constructor)); kernel_rfl; kernel_rfl; (try simp only [Act.put, List.setIfInBounds_toArray, List.set_cons_zero, List.set_cons_succ])) | ((with_reducible show WLd ..); (with_reducible apply wpA_loadN (t := 70)); exact rfl; ((with_reducible apply Hp.rangeI hS (n := 3)); (focus repeat constructor)); kernel_rfl; kernel_rfl; (try simp only [Act.put, List.setIfInBounds_toArray, List.set_cons_zero, List.set_cons_succ])) | ((with_reducible show WLd ..); (with_reducible apply wpA_loadN (t := 38)); exact rfl; ((with_reducible apply Hp.rangeI hS (n := 5)); (focus repeat constructor)); kernel_rfl; kernel_rfl; (try simp only [Act.put, List.setIfInBounds_toArray, List.set_cons_zero, List.set_cons_succ])) | ((with_reducible show WAp ..); (with_reducible apply wpA_appendI hS (e := 70) (z := .agg #[.int .i64 0, .int .i64 0, .bool false]) (size := 3) (bytes := 24)); exact rfl; exact rfl; exact Try.underlying73; (focus repeat constructor); exact .inr Try.underlying73; kernel_rfl; exact rfl; exact (Src.freshN (m := 1) hS 0 rfl rfl (by rfl)); exact (by unfold maxLen; omega); exact (by omega); intro _ _ wx hS; (try simp only [Act.put, List.setIfInBounds_toArray, List.set_cons_zero, List.set_cons_succ])) | ((with_reducible show WSt ..); (with_reducible apply wpA_storeI hS); exact rfl; (focus repeat constructor); exact rfl; exact rfl; exact rfl; exact (Nat.le_of_ble_eq_true rfl); kernel_rfl; intro wx hS; (try simp only [Act.put, List.setIfInBounds_toArray, List.set_cons_zero, List.set_cons_succ]); (try simp only [Act.eval, Array.getD_eq_getD_getElem?, List.getElem?_toArray, List.getElem?_cons_succ, List.getElem?_cons_zero, Option.getD_some, List.set_cons_succ, List.set_cons_zero, Value.cells, List.toList_toArray] at hS); (try simp only [List.take_zero, List.take_succ_cons, List.nil_append, List.cons_append, List.length_cons, List.length_nil, Nat.reduceAdd, Nat.zero_add, List.drop_succ_cons, List.drop_zero, List.drop_nil, List.append_nil] at hS)) | ((with_reducible show WLd ..); (with_reducible apply wpA_load); exact rfl; (first | ((with_reducible apply St.cellI hS); (focus repeat constructor); exact rfl) | assumption); kernel_rfl) | ((with_reducible show WSt ..); (with_reducible apply wpA_store1I hS); exact rfl; (focus repeat constructor); exact rfl; exact rfl; exact rfl; exact rfl; kernel_rfl; intro wx hS; (try simp only [Act.put, List.setIfInBounds_toArray, List.set_cons_zero, List.set_cons_succ]); (try simp only [Act.eval, Array.getD_eq_getD_getElem?, List.getElem?_toArray, List.getElem?_cons_succ, List.getElem?_cons_zero, Option.getD_some, List.set_cons_succ, List.set_cons_zero, Value.cells, List.toList_toArray] at hS)))
    go_ret2
    refine ⟨none, 0, rfl, ?_⟩
    have hS := hS.nilRow 38 5
    have h2 := HF.out _ σ.tok ⟨blk, ha, hc, qa2, qc2, ⟨held, wr, queue ++ [⟨ses, seq, false⟩]⟩⟩ (.row 38 5 none 0 0 []) rfl (by
      simp only [List.length_append, List.length_cons, List.length_nil, Nat.zero_add, List.flatMap_append, List.flatMap_cons, List.flatMap_nil, List.append_nil]
      exact ((hS).sel [7, 8, 0, 2, 3, 4] 9 (by decide) (by decide) (by simp)))
    exact h2
  · rw [show ((7 : Int) == 7) = true from rfl]
    cases wr with
    | true =>
      clear hnb
      skip
      go_enter Try.func10, Try.ntmps10
      go_wp2_with (first | ((with_reducible show WGd ..); (with_reducible apply wpA_guard); exact rfl; skip) | ((first | ((with_reducible show WAl ..); (with_reducible apply wpA_alloc (t := 70) hS (v := .agg #[.int .i64 0, .int .i64 0, .bool false])); kernel_rfl; exact rfl; intro _ wx hS) | ((with_reducible show WAl ..); (with_reducible apply wpA_alloc (t := 38) hS (v := .agg #[.int .i64 0, .int .i64 0, .int .i64 0, .int .u64 0, .int .i64 0])); kernel_rfl; exact rfl; intro _ wx hS) | ((with_reducible show WBs ..); (with_reducible apply wpA_oneN hS (z := .agg #[.int .i64 0, .int .i64 0, .int .i64 0, .int .u64 0, .int .i64 0]) (bytes := 40) (size := 5)); exact Try.underlying26; kernel_rfl; exact rfl; exact rfl; exact rfl; exact (by decide); exact (by decide); intro _ wx hS) | ((with_reducible show WBs ..); (with_reducible apply wpA_oneN hS (z := .agg #[.int .i64 0, .int .i64 0, .bool false]) (bytes := 24) (size := 3)); exact Try.underlying73; kernel_rfl; exact rfl; exact rfl; exact rfl; exact (by decide); exact (by decide); intro _ wx hS) | ((with_reducible show WBx ..); (with_reducible apply wpA_box hS); exact rfl; exact rfl; intro _ wx hS)); (try simp only [Act.put, List.setIfInBounds_toArray, List.set_cons_zero, List.set_cons_succ]); (try simp only [Act.eval, Array.getD_eq_getD_getElem?, List.getElem?_toArray, List.getElem?_cons_succ, List.getElem?_cons_zero, Option.getD_some, List.set_cons_succ, List.set_cons_zero, Value.cells, List.toList_toArray] at hS)) | ((with_reducible show WLd ..); (with_reducible apply wpA_loadN (t := 30)); exact rfl; ((with_reducible apply Hp.rangeI hS (n := 5)); (focus repeat constructor)); kernel_rfl; kernel_rfl; (try simp only [Act.put, List.setIfInBounds_toArray, List.set_cons_zero, List.set_cons_succ])) | ((with_reducible show WLd ..); (with_reducible apply wpA_loadN (t := 70)); exact rfl; ((with_reducible apply Hp.rangeI hS (n := 3)); (focus repeat constructor)); kernel_rfl; kernel_rfl; (try simp only [Act.put, List.setIfInBounds_toArray, List.set_cons_zero, List.set_cons_succ])) | ((with_reducible show WLd ..); (with_reducible apply wpA_loadN (t := 38)); exact rfl; ((with_reducible apply Hp.rangeI hS (n := 5)); (focus repeat constructor)); kernel_rfl; kernel_rfl; (try simp only [Act.put, List.setIfInBounds_toArray, List.set_cons_zero, List.set_cons_succ])) | ((with_reducible show WAp ..); (with_reducible apply wpA_appendI hS (e := 70) (z := .agg #[.int .i64 0, .int .i64 0, .bool false]) (size := 3) (bytes := 24)); exact rfl; exact rfl; exact Try.underlying73; (focus repeat constructor); exact .inr Try.underlying73; kernel_rfl; exact rfl; exact (Src.freshN (m := 1) hS 0 rfl rfl (by rfl)); exact (by unfold maxLen; omega); exact (by omega); intro _ _ wx hS; (try simp only [Act.put, List.setIfInBounds_toArray, List.set_cons_zero, List.set_cons_succ])) | ((with_reducible show WSt ..); (with_reducible apply wpA_storeI hS); exact rfl; (focus repeat constructor); exact rfl; exact rfl; exact rfl; exact (Nat.le_of_ble_eq_true rfl); kernel_rfl; intro wx hS; (try simp only [Act.put, List.setIfInBounds_toArray, List.set_cons_zero, List.set_cons_succ]); (try simp only [Act.eval, Array.getD_eq_getD_getElem?, List.getElem?_toArray, List.getElem?_cons_succ, List.getElem?_cons_zero, Option.getD_some, List.set_cons_succ, List.set_cons_zero, Value.cells, List.toList_toArray] at hS); (try simp only [List.take_zero, List.take_succ_cons, List.nil_append, List.cons_append, List.length_cons, List.length_nil, Nat.reduceAdd, Nat.zero_add, List.drop_succ_cons, List.drop_zero, List.drop_nil, List.append_nil] at hS)) | ((with_reducible show WLd ..); (with_reducible apply wpA_load); exact rfl; (first | ((with_reducible apply St.cellI hS); (focus repeat constructor); exact rfl) | assumption); kernel_rfl) | ((with_reducible show WSt ..); (with_reducible apply wpA_store1I hS); exact rfl; (focus repeat constructor); exact rfl; exact rfl; exact rfl; exact rfl; kernel_rfl; intro wx hS; (try simp only [Act.put, List.setIfInBounds_toArray, List.set_cons_zero, List.set_cons_succ]); (try simp only [Act.eval, Array.getD_eq_getD_getElem?, List.getElem?_toArray, List.getElem?_cons_succ, List.getElem?_cons_zero, Option.getD_some, List.set_cons_succ, List.set_cons_zero, Value.cells, List.toList_toArray] at hS)))
      refine wp_region_St hS (by kernel_rfl) (by kernel_rfl) (Bx.out ?_)
      refine bQ_val ?_ rfl ?_ ?_
      rotate_left
      · intro w hS; go_simp; (first | done | (with_reducible rfl) | (refine (if_pos ?_).trans ?_; (focus omega); with_reducible rfl) | skip)
      (simp only [Act.put, List.setIfInBounds_toArray, List.set_cons_zero, List.set_cons_succ])
      refine bQ_val ?_ rfl ?_ ?_
      rotate_left
      · intro w hS; go_simp; (first | done | (with_reducible rfl) | (refine (if_pos ?_).trans ?_; (focus omega); with_reducible rfl) | skip)
      (simp only [Act.put, List.setIfInBounds_toArray, List.set_cons_zero, List.set_cons_succ])
      refine bQ_val ?_ rfl ?_ ?_
      rotate_left
      · intro w hS; go_simp; (first | done | (with_reducible rfl) | (refine (if_pos ?_).trans ?_; (focus omega); with_reducible rfl) | skip)
      (simp only [Act.put, List.setIfInBounds_toArray, List.set_cons_zero, List.set_cons_succ])
      refine bQ_load rfl (fun w hS => by (first | ((with_reducible apply St.cellI hS); (focus repeat constructor); exact rfl) | assumption)) (by kernel_rfl) ?_
      (simp only [Act.put, List.setIfInBounds_toArray, List.set_cons_zero, List.set_cons_succ])
      refine bQ_val ?_ rfl ?_ ?_
      rotate_left
      · intro w hS; go_simp; (first | done | (with_reducible rfl) | (refine (if_pos ?_).trans ?_; (focus omega); with_reducible rfl) | skip)
      (simp only [Act.put, List.setIfInBounds_toArray, List.set_cons_zero, List.set_cons_succ])
      refine bQ_load rfl (fun w hS => by (first | ((with_reducible apply St.cellI hS); (focus repeat constructor); exact rfl) | assumption)) (by kernel_rfl) ?_
      (simp only [Act.put, List.setIfInBounds_toArray, List.set_cons_zero, List.set_cons_succ])
      refine bQ_lookup 3 (z := .pointer none) (r := some (.pointer (some ⟨blk, 0, none⟩))) rfl rfl rfl Try.underlying66 Try.underlying9 trivial (by kernel_rfl) hlk ?_
      dsimp only [Option.getD, Option.isSome, if_true, Bool.false_eq_true, if_false]
      (simp only [Act.put, List.setIfInBounds_toArray, List.set_cons_zero, List.set_cons_succ])
      refine bQ_val ?_ rfl ?_ ?_
      rotate_left
      · intro w hS; go_simp; (first | done | (with_reducible rfl) | (refine (if_pos ?_).trans ?_; (focus omega); with_reducible rfl) | skip)
      (simp only [Act.put, List.setIfInBounds_toArray, List.set_cons_zero, List.set_cons_succ])
      refine ⟨wpQuiet_nil ?_⟩
      intro wx hS
      go_wp2_with (first | ((with_reducible show WGd ..); (with_reducible apply wpA_guard); exact rfl; skip) | (go_at_call 34; ((try simp only [List.set_cons_succ, List.set_cons_zero] at hS); replace hS := hS.sel [4, 5, 6, 0, 1, 2, 3] 7 (by decide) (by decide) (by simp); simp only [List.filterMap_cons, List.filterMap_nil, List.getElem?_cons_succ, List.getElem?_cons_zero, List.drop_succ_cons, List.drop_zero, List.cons_append, List.nil_append] at hS); with_reducible refine (asks_x w0 _ _ blk ha hc qa qc held _ queue ses hS hh hq).mono ?_; rintro _ _ ⟨rfl, hS⟩; rw [HA.out]) | ((first | ((with_reducible show WAl ..); (with_reducible apply wpA_alloc (t := 70) hS (v := .agg #[.int .i64 0, .int .i64 0, .bool false])); kernel_rfl; exact rfl; intro _ wx hS) | ((with_reducible show WAl ..); (with_reducible apply wpA_alloc (t := 38) hS (v := .agg #[.int .i64 0, .int .i64 0, .int .i64 0, .int .u64 0, .int .i64 0])); kernel_rfl; exact rfl; intro _ wx hS) | ((with_reducible show WBs ..); (with_reducible apply wpA_oneN hS (z := .agg #[.int .i64 0, .int .i64 0, .int .i64 0, .int .u64 0, .int .i64 0]) (bytes := 40) (size := 5)); exact Try.underlying26; kernel_rfl; exact rfl; exact rfl; exact rfl; exact (by decide); exact (by decide); intro _ wx hS) | ((with_reducible show WBs ..); (with_reducible apply wpA_oneN hS (z := .agg #[.int .i64 0, .int .i64 0, .bool false]) (bytes := 24) (size := 3)); exact Try.underlying73; kernel_rfl; exact rfl; exact rfl; exact rfl; exact (by decide); exact (by decide); intro _ wx hS) | ((with_reducible show WBx ..); (with_reducible apply wpA_box hS); exact rfl; exact rfl; intro _ wx hS)); (try simp only [Act.put, List.setIfInBounds_toArray, List.set_cons_zero, List.set_cons_succ]); (try simp only [Act.eval, Array.getD_eq_getD_getElem?, List.getElem?_toArray, List.getElem?_cons_succ, List.getElem?_cons_zero, Option.getD_some, List.set_cons_succ, List.set_cons_zero, Value.cells, List.toList_toArray] at hS)) | ((with_reducible show WLd ..); (with_reducible apply wpA_loadN (t := 30)); exact rfl; ((with_reducible apply Hp.rangeI hS (n := 5)); (focus repeat constructor)); kernel_rfl; kernel_rfl; (try simp only [Act.put, List.setIfInBounds_toArray, List.set_cons_zero, List.set_cons_succ])) | ((with_reducible show WLd ..); (with_reducible apply wpA_loadN (t := 70)); exact rfl; ((with_reducible apply Hp.rangeI hS (n := 3)); (focus repeat constructor)); kernel_rfl; kernel_rfl; (try simp only [Act.put, List.setIfInBounds_toArray, List.set_cons_zero, List.set_cons_succ])) | ((with_reducible show WLd ..); (with_reducible apply wpA_loadN (t := 38)); exact rfl; ((with_reducible apply Hp.rangeI hS (n := 5)); (focus repeat constructor)); kernel_rfl; kernel_rfl; (try simp only [Act.put, List.setIfInBounds_toArray, List.set_cons_zero, List.set_cons_succ])) | ((with_reducible show WAp ..); (with_reducible apply wpA_appendI hS (e := 70) (z := .agg #[.int .i64 0, .int .i64 0, .bool false]) (size := 3) (bytes := 24)); exact rfl; exact rfl; exact Try.underlying73; (focus repeat constructor); exact .inr Try.underlying73; kernel_rfl; exact rfl; exact (Src.freshN (m := 1) hS 0 rfl rfl (by rfl)); exact (by unfold maxLen; omega); exact (by omega); intro _ _ wx hS; (try simp only [Act.put, List.setIfInBounds_toArray, List.set_cons_zero, List.set_cons_succ])) | ((with_reducible show WSt ..); (with_reducible apply wpA_storeI hS); exact rfl; (focus repeat constructor); exact rfl; exact rfl; exact rfl; exact (Nat.le_of_ble_eq_true rfl); kernel_rfl; intro wx hS; (try simp only [Act.put, List.setIfInBounds_toArray, List.set_cons_zero, List.set_cons_succ]); (try simp only [Act.eval, Array.getD_eq_getD_getElem?, List.getElem?_toArray, List.getElem?_cons_succ, List.getElem?_cons_zero, Option.getD_some, List.set_cons_succ, List.set_cons_zero, Value.cells, List.toList_toArray] at hS); (try simp only [List.take_zero, List.take_succ_cons, List.nil_append, List.cons_append, List.length_cons, List.length_nil, Nat.reduceAdd, Nat.zero_add, List.drop_succ_cons, List.drop_zero, List.drop_nil, List.append_nil] at hS)) | ((with_reducible show WLd ..); (with_reducible apply wpA_load); exact rfl; (first | ((with_reducible apply St.cellI hS); (focus repeat constructor); exact rfl) | assumption); kernel_rfl) | ((with_reducible show WSt ..); (with_reducible apply wpA_store1I hS); exact rfl; (focus repeat constructor); exact rfl; exact rfl; exact rfl; exact rfl; kernel_rfl; intro wx hS; (try simp only [Act.put, List.setIfInBounds_toArray, List.set_cons_zero, List.set_cons_succ]); (try simp only [Act.eval, Array.getD_eq_getD_getElem?, List.getElem?_toArray, List.getElem?_cons_succ, List.getElem?_cons_zero, Option.getD_some, List.set_cons_succ, List.set_cons_zero, Value.cells, List.toList_toArray] at hS)))
      refine wp_region_E 7 hS (by kernel_rfl) (fun _ hR hS => ?_)
      simp only [List.length_cons, List.length_nil, Nat.reduceAdd]
      refine takeP_val (i := 0) ?_ rfl (by exact rfl) (by kernel_rfl) (fun _ _ _ h => h) ?_ hR (fun hR => ?_)
      rotate_left
      · intro w; go_simp; (first | done | (with_reducible rfl) | (refine (if_pos ?_).trans ?_; (focus omega); with_reducible rfl) | skip)
      (simp only [Act.put, List.setIfInBounds_toArray, List.set_cons_zero, List.set_cons_succ])
      refine takeP_val (i := 1) ?_ rfl (by exact rfl) (by kernel_rfl) (fun _ _ _ h => h) ?_ hR (fun hR => ?_)
      rotate_left
      · intro w; go_simp; (first | done | (with_reducible rfl) | (refine (if_pos ?_).trans ?_; (focus omega); with_reducible rfl) | skip)
      (simp only [Act.put, List.setIfInBounds_toArray, List.set_cons_zero, List.set_cons_succ])
      refine takeP_val (i := 2) ?_ rfl (by exact rfl) (by kernel_rfl) (fun _ _ _ h => h) ?_ hR (fun hR => ?_)
      rotate_left
      · intro w; go_simp; (first | done | (with_reducible rfl) | (refine (if_pos ?_).trans ?_; (focus omega); with_reducible rfl) | skip)
      (simp only [Act.put, List.setIfInBounds_toArray, List.set_cons_zero, List.set_cons_succ])
      refine takeP_val (i := 3) ?_ rfl (by exact rfl) (by kernel_rfl) (fun _ _ _ h => h) ?_ hR (fun hR => ?_)
      rotate_left
      · intro w; go_simp; (first | done | (with_reducible rfl) | (refine (if_pos ?_).trans ?_; (focus omega); with_reducible rfl) | skip)
      (simp only [Act.put, List.setIfInBounds_toArray, List.set_cons_zero, List.set_cons_succ])
      refine takeE_load (i := 4) [7] rfl (by exact rfl) (by kernel_rfl) (fun _ _ _ h => h) (by decide) rfl (fun w hS => by (first | ((with_reducible apply St.cellI hS); (focus repeat constructor); exact rfl) | assumption)) (by kernel_rfl) hR (fun hR => ?_)
      (simp only [Act.put, List.setIfInBounds_toArray, List.set_cons_zero, List.set_cons_succ])
      refine takeE_loadN (i := 5) [7, 6] rfl (by exact rfl) (by kernel_rfl) (fun _ _ _ h => h) (by decide) rfl (fun w hS => by (first | exact Hp.range hS 0 rfl _ 3 | exact Hp.range hS 1 rfl _ 3 | exact Hp.range hS 2 rfl _ 3 | exact Hp.range hS 3 rfl _ 3 | exact Hp.range hS 4 rfl _ 3 | exact Hp.range hS 5 rfl _ 3 | exact Hp.range hS 6 rfl _ 3 | exact Hp.range hS 7 rfl _ 3 | exact Hp.range hS 8 rfl _ 3 | exact Hp.range hS 9 rfl _ 3)) (by kernel_rfl) (by kernel_rfl) hR (fun hR => ?_)
      (simp only [Act.put, List.setIfInBounds_toArray, List.set_cons_zero, List.set_cons_succ])
      (try simp only [List.drop_zero, List.drop_succ_cons, List.take_succ_cons, List.take_zero])
      refine oneE (i := 6) (by kernel_rfl) rfl (by exact rfl) (fun K_ hK_ => ?_)
      ((with_reducible apply opA_oneN hS (z := .agg #[.int .i64 0, .int .i64 0, .bool false]) (bytes := 24) (size := 3)); exact Try.underlying73; kernel_rfl; exact rfl; exact rfl; exact rfl; exact (by decide); exact (by decide); intro _ wx hS; (try simp only [Act.eval, Array.getD_eq_getD_getElem?, List.getElem?_toArray, List.getElem?_cons_succ, List.getElem?_cons_zero, Option.getD_some, List.set_cons_succ, List.set_cons_zero, Value.cells, List.toList_toArray] at hS))
      refine hK_ _ _ (fun _ => (hS.tail)) ?_; clear hK_ K_
      (simp only [Act.put, List.setIfInBounds_toArray, List.set_cons_zero, List.set_cons_succ])
      refine oneE (i := 7) (by kernel_rfl) rfl (by exact rfl) (fun K_ hK_ => ?_)
      ((with_reducible apply opA_append hS 3 (z := .agg #[.int .i64 0, .int .i64 0, .bool false]) (size := 3) (bytes := 24)); exact rfl; exact rfl; exact rfl; exact Try.underlying73; exact .inr Try.underlying73; kernel_rfl; exact rfl; exact (Src.freshN (m := 1) hS 0 rfl rfl (by rfl)); exact (by unfold maxLen; omega); exact (by omega); intro qa2 qc2 wx hS)
      refine hK_ _ _ (fun h => by cases h) ?_; clear hK_ K_
      (simp only [Act.put, List.setIfInBounds_toArray, List.set_cons_zero, List.set_cons_succ])
      refine takeP_val (i := 8) ?_ rfl (by exact rfl) (by kernel_rfl) (fun _ _ _ h => h) ?_ (fun h => by cases h) (fun hR => ?_)
      rotate_left
      · intro w; go_simp; (first | done | (with_reducible rfl) | (refine (if_pos ?_).trans ?_; (focus omega); with_reducible rfl) | skip)
      (simp only [Act.put, List.setIfInBounds_toArray, List.set_cons_zero, List.set_cons_succ])
      refine takeP_val (i := 9) ?_ rfl (by exact rfl) (by kernel_rfl) (fun _ _ _ h => h) ?_ (fun h => by cases h) (fun hR => ?_)
      rotate_left
      · intro w; go_simp; (first | done | (with_reducible rfl) | (refine (if_pos ?_).trans ?_; (focus omega); with_reducible rfl) | skip)
      (simp only [Act.put, List.setIfInBounds_toArray, List.set_cons_zero, List.set_cons_succ])
      refine oneE (i := 10) (by kernel_rfl) rfl (by exact rfl) (fun K_ hK_ => ?_)
      ((with_reducible apply opA_store1I hS); exact rfl; (focus repeat constructor); exact rfl; exact rfl; exact rfl; exact rfl; kernel_rfl; intro wx hS; (try simp only [Act.eval, Array.getD_eq_getD_getElem?, List.getElem?_toArray, List.getElem?_cons_succ, List.getElem?_cons_zero, Option.getD_some, List.set_cons_succ, List.set_cons_zero, Value.cells, List.toList_toArray] at hS))
      refine hK_ _ _ (fun h => by cases h) ?_; clear hK_ K_
      (simp only [Act.put, List.setIfInBounds_toArray, List.set_cons_zero, List.set_cons_succ])
      refine wpAnyR_done (by kernel_rfl) ?_ _
      go_wp2_with (first | ((with_reducible show WGd ..); (with_reducible apply wpA_guard); exact rfl; skip) | ((first | ((with_reducible show WAl ..); (with_reducible apply wpA_alloc (t := 70) hS (v := .agg #[.int .i64 0, .int .i64 0, .bool false])); kernel_rfl; exact rfl; intro _ wx hS) | ((with_reducible show WAl ..); (with_reducible apply wpA_alloc (t := 38) hS (v := .agg #[.int .i64 0, .int .i64 0, .int .i64 0, .int .u64 0, .int .i64 0])); kernel_rfl; exact rfl; intro _ wx hS) | ((with_reducible show WBs ..); (with_reducible apply wpA_oneN hS (z := .agg #[.int .i64 0, .int .i64 0, .int .i64 0, .int .u64 0, .int .i64 0]) (bytes := 40) (size := 5)); exact Try.underlying26; kernel_rfl; exact rfl; exact rfl; exact rfl; exact (by decide); exact (by decide); intro _ wx hS) | ((with_reducible show WBs ..); (with_reducible apply wpA_oneN hS (z := .agg #[.int .i64 0, .int .i64 0, .bool false]) (bytes := 24) (size := 3)); exact Try.underlying73; kernel_rfl; exact rfl; exact rfl; exact rfl; exact (by decide); exact (by decide); intro _ wx hS) | ((with_reducible show WBx ..); (with_reducible apply wpA_box hS); exact rfl; exact rfl; intro _ wx hS)); (try simp only [Act.put, List.setIfInBounds_toArray, List.set_cons_zero, List.set_cons_succ]); (try simp only [Act.eval, Array.getD_eq_getD_getElem?, List.getElem?_toArray, List.getElem?_cons_succ, List.getElem?_cons_zero, Option.getD_some, List.set_cons_succ, List.set_cons_zero, Value.cells, List.toList_toArray] at hS)) | ((with_reducible show WLd ..); (with_reducible apply wpA_loadN (t := 30)); exact rfl; ((with_reducible apply Hp.rangeI hS (n := 5)); (focus repeat constructor)); kernel_rfl; kernel_rfl; (try simp only [Act.put, List.setIfInBounds_toArray, List.set_cons_zero, List.set_cons_succ])) | ((with_reducible show WLd ..); (with_reducible apply wpA_loadN (t := 70)); exact rfl; ((with_reducible apply Hp.rangeI hS (n := 3)); (focus repeat constructor)); kernel_rfl; kernel_rfl; (try simp only [Act.put, List.setIfInBounds_toArray, List.set_cons_zero, List.set_cons_succ])) | ((with_reducible show WLd ..); (with_reducible apply wpA_loadN (t := 38)); exact rfl; ((with_reducible apply Hp.rangeI hS (n := 5)); (focus repeat constructor)); kernel_rfl; kernel_rfl; (try simp only [Act.put, List.setIfInBounds_toArray, List.set_cons_zero, List.set_cons_succ])) | ((with_reducible show WAp ..); (with_reducible apply wpA_appendI hS (e := 70) (z := .agg #[.int .i64 0, .int .i64 0, .bool false]) (size := 3) (bytes := 24)); exact rfl; exact rfl; exact Try.underlying73; (focus repeat constructor); exact .inr Try.underlying73; kernel_rfl; exact rfl; exact (Src.freshN (m := 1) hS 0 rfl rfl (by rfl)); exact (by unfold maxLen; omega); exact (by omega); intro _ _ wx hS; (try simp only [Act.put, List.setIfInBounds_toArray, List.set_cons_zero, List.set_cons_succ])) | ((with_reducible show WSt ..); (with_reducible apply wpA_storeI hS); exact rfl; (focus repeat constructor); exact rfl; exact rfl; exact rfl; exact (Nat.le_of_ble_eq_true rfl); kernel_rfl; intro wx hS; (try simp only [Act.put, List.setIfInBounds_toArray, List.set_cons_zero, List.set_cons_succ]); (try simp only [Act.eval, Array.getD_eq_getD_getElem?, List.getElem?_toArray, List.getElem?_cons_succ, List.getElem?_cons_zero, Option.getD_some, List.set_cons_succ, List.set_cons_zero, Value.cells, List.toList_toArray] at hS); (try simp only [List.take_zero, List.take_succ_cons, List.nil_append, List.cons_append, List.length_cons, List.length_nil, Nat.reduceAdd, Nat.zero_add, List.drop_succ_cons, List.drop_zero, List.drop_nil, List.append_nil] at hS)) | ((with_reducible show WLd ..); (with_reducible apply wpA_load); exact rfl; (first | ((with_reducible apply St.cellI hS); (focus repeat constructor); exact rfl) | assumption); kernel_rfl) | ((with_reducible show WSt ..); (with_reducible apply wpA_store1I hS); exact rfl; (focus repeat constructor); exact rfl; exact rfl; exact rfl; exact rfl; kernel_rfl; intro wx hS; (try simp only [Act.put, List.setIfInBounds_toArray, List.set_cons_zero, List.set_cons_succ]); (try simp only [Act.eval, Array.getD_eq_getD_getElem?, List.getElem?_toArray, List.getElem?_cons_succ, List.getElem?_cons_zero, Option.getD_some, List.set_cons_succ, List.set_cons_zero, Value.cells, List.toList_toArray] at hS)))
      go_ret2
      refine ⟨none, 0, rfl, ?_⟩
      have hS := hS.nilRow 38 5
      have h2 := HF.out _ σ.tok ⟨blk, ha, hc, qa2, qc2, ⟨held, true, queue ++ [⟨ses, seq, true⟩]⟩⟩ (.row 38 5 none 0 0 []) rfl (by
        simp only [List.length_append, List.length_cons, List.length_nil, Nat.zero_add, List.flatMap_append, List.flatMap_cons, List.flatMap_nil, List.append_nil]
        exact ((hS).sel [7, 8, 0, 2, 3, 4] 9 (by decide) (by decide) (by simp)))
      exact h2
    | false =>
      have hql : ((queue.length : Int) == 0) = false := by
        simp only [beq_eq_false_iff_ne, ne_eq, Int.natCast_eq_zero]
        intro h0
        exact hnb ⟨rfl, rfl, List.eq_nil_of_length_eq_zero h0⟩
      clear hnb
      skip
      go_enter Try.func10, Try.ntmps10
      go_wp2_with (first | ((with_reducible show WGd ..); (with_reducible apply wpA_guard); exact rfl; skip) | ((first | ((with_reducible show WAl ..); (with_reducible apply wpA_alloc (t := 70) hS (v := .agg #[.int .i64 0, .int .i64 0, .bool false])); kernel_rfl; exact rfl; intro _ wx hS) | ((with_reducible show WAl ..); (with_reducible apply wpA_alloc (t := 38) hS (v := .agg #[.int .i64 0, .int .i64 0, .int .i64 0, .int .u64 0, .int .i64 0])); kernel_rfl; exact rfl; intro _ wx hS) | ((with_reducible show WBs ..); (with_reducible apply wpA_oneN hS (z := .agg #[.int .i64 0, .int .i64 0, .int .i64 0, .int .u64 0, .int .i64 0]) (bytes := 40) (size := 5)); exact Try.underlying26; kernel_rfl; exact rfl; exact rfl; exact rfl; exact (by decide); exact (by decide); intro _ wx hS) | ((with_reducible show WBs ..); (with_reducible apply wpA_oneN hS (z := .agg #[.int .i64 0, .int .i64 0, .bool false]) (bytes := 24) (size := 3)); exact Try.underlying73; kernel_rfl; exact rfl; exact rfl; exact rfl; exact (by decide); exact (by decide); intro _ wx hS) | ((with_reducible show WBx ..); (with_reducible apply wpA_box hS); exact rfl; exact rfl; intro _ wx hS)); (try simp only [Act.put, List.setIfInBounds_toArray, List.set_cons_zero, List.set_cons_succ]); (try simp only [Act.eval, Array.getD_eq_getD_getElem?, List.getElem?_toArray, List.getElem?_cons_succ, List.getElem?_cons_zero, Option.getD_some, List.set_cons_succ, List.set_cons_zero, Value.cells, List.toList_toArray] at hS)) | ((with_reducible show WLd ..); (with_reducible apply wpA_loadN (t := 30)); exact rfl; ((with_reducible apply Hp.rangeI hS (n := 5)); (focus repeat constructor)); kernel_rfl; kernel_rfl; (try simp only [Act.put, List.setIfInBounds_toArray, List.set_cons_zero, List.set_cons_succ])) | ((with_reducible show WLd ..); (with_reducible apply wpA_loadN (t := 70)); exact rfl; ((with_reducible apply Hp.rangeI hS (n := 3)); (focus repeat constructor)); kernel_rfl; kernel_rfl; (try simp only [Act.put, List.setIfInBounds_toArray, List.set_cons_zero, List.set_cons_succ])) | ((with_reducible show WLd ..); (with_reducible apply wpA_loadN (t := 38)); exact rfl; ((with_reducible apply Hp.rangeI hS (n := 5)); (focus repeat constructor)); kernel_rfl; kernel_rfl; (try simp only [Act.put, List.setIfInBounds_toArray, List.set_cons_zero, List.set_cons_succ])) | ((with_reducible show WAp ..); (with_reducible apply wpA_appendI hS (e := 70) (z := .agg #[.int .i64 0, .int .i64 0, .bool false]) (size := 3) (bytes := 24)); exact rfl; exact rfl; exact Try.underlying73; (focus repeat constructor); exact .inr Try.underlying73; kernel_rfl; exact rfl; exact (Src.freshN (m := 1) hS 0 rfl rfl (by rfl)); exact (by unfold maxLen; omega); exact (by omega); intro _ _ wx hS; (try simp only [Act.put, List.setIfInBounds_toArray, List.set_cons_zero, List.set_cons_succ])) | ((with_reducible show WSt ..); (with_reducible apply wpA_storeI hS); exact rfl; (focus repeat constructor); exact rfl; exact rfl; exact rfl; exact (Nat.le_of_ble_eq_true rfl); kernel_rfl; intro wx hS; (try simp only [Act.put, List.setIfInBounds_toArray, List.set_cons_zero, List.set_cons_succ]); (try simp only [Act.eval, Array.getD_eq_getD_getElem?, List.getElem?_toArray, List.getElem?_cons_succ, List.getElem?_cons_zero, Option.getD_some, List.set_cons_succ, List.set_cons_zero, Value.cells, List.toList_toArray] at hS); (try simp only [List.take_zero, List.take_succ_cons, List.nil_append, List.cons_append, List.length_cons, List.length_nil, Nat.reduceAdd, Nat.zero_add, List.drop_succ_cons, List.drop_zero, List.drop_nil, List.append_nil] at hS)) | ((with_reducible show WLd ..); (with_reducible apply wpA_load); exact rfl; (first | ((with_reducible apply St.cellI hS); (focus repeat constructor); exact rfl) | assumption); kernel_rfl) | ((with_reducible show WSt ..); (with_reducible apply wpA_store1I hS); exact rfl; (focus repeat constructor); exact rfl; exact rfl; exact rfl; exact rfl; kernel_rfl; intro wx hS; (try simp only [Act.put, List.setIfInBounds_toArray, List.set_cons_zero, List.set_cons_succ]); (try simp only [Act.eval, Array.getD_eq_getD_getElem?, List.getElem?_toArray, List.getElem?_cons_succ, List.getElem?_cons_zero, Option.getD_some, List.set_cons_succ, List.set_cons_zero, Value.cells, List.toList_toArray] at hS)))
      refine wp_region_St hS (by kernel_rfl) (by kernel_rfl) (Bx.out ?_)
      refine bQ_val ?_ rfl ?_ ?_
      rotate_left
      · intro w hS; go_simp; (first | done | (with_reducible rfl) | (refine (if_pos ?_).trans ?_; (focus omega); with_reducible rfl) | skip)
      (simp only [Act.put, List.setIfInBounds_toArray, List.set_cons_zero, List.set_cons_succ])
      refine bQ_val ?_ rfl ?_ ?_
      rotate_left
      · intro w hS; go_simp; (first | done | (with_reducible rfl) | (refine (if_pos ?_).trans ?_; (focus omega); with_reducible rfl) | skip)
      (simp only [Act.put, List.setIfInBounds_toArray, List.set_cons_zero, List.set_cons_succ])
      refine bQ_val ?_ rfl ?_ ?_
      rotate_left
      · intro w hS; go_simp; (first | done | (with_reducible rfl) | (refine (if_pos ?_).trans ?_; (focus omega); with_reducible rfl) | skip)
      (simp only [Act.put, List.setIfInBounds_toArray, List.set_cons_zero, List.set_cons_succ])
      refine bQ_load rfl (fun w hS => by (first | ((with_reducible apply St.cellI hS); (focus repeat constructor); exact rfl) | assumption)) (by kernel_rfl) ?_
      (simp only [Act.put, List.setIfInBounds_toArray, List.set_cons_zero, List.set_cons_succ])
      refine bQ_val ?_ rfl ?_ ?_
      rotate_left
      · intro w hS; go_simp; (first | done | (with_reducible rfl) | (refine (if_pos ?_).trans ?_; (focus omega); with_reducible rfl) | skip)
      (simp only [Act.put, List.setIfInBounds_toArray, List.set_cons_zero, List.set_cons_succ])
      refine bQ_load rfl (fun w hS => by (first | ((with_reducible apply St.cellI hS); (focus repeat constructor); exact rfl) | assumption)) (by kernel_rfl) ?_
      (simp only [Act.put, List.setIfInBounds_toArray, List.set_cons_zero, List.set_cons_succ])
      refine bQ_lookup 3 (z := .pointer none) (r := some (.pointer (some ⟨blk, 0, none⟩))) rfl rfl rfl Try.underlying66 Try.underlying9 trivial (by kernel_rfl) hlk ?_
      dsimp only [Option.getD, Option.isSome, if_true, Bool.false_eq_true, if_false]
      (simp only [Act.put, List.setIfInBounds_toArray, List.set_cons_zero, List.set_cons_succ])
      refine bQ_val ?_ rfl ?_ ?_
      rotate_left
      · intro w hS; go_simp; (first | done | (with_reducible rfl) | (refine (if_pos ?_).trans ?_; (focus omega); with_reducible rfl) | skip)
      (simp only [Act.put, List.setIfInBounds_toArray, List.set_cons_zero, List.set_cons_succ])
      refine ⟨wpQuiet_nil ?_⟩
      intro wx hS
      go_wp2_with (first | ((with_reducible show WGd ..); (with_reducible apply wpA_guard); exact rfl; skip) | (go_at_call 34; ((try simp only [List.set_cons_succ, List.set_cons_zero] at hS); replace hS := hS.sel [4, 5, 6, 0, 1, 2, 3] 7 (by decide) (by decide) (by simp); simp only [List.filterMap_cons, List.filterMap_nil, List.getElem?_cons_succ, List.getElem?_cons_zero, List.drop_succ_cons, List.drop_zero, List.cons_append, List.nil_append] at hS); with_reducible refine (asks_x w0 _ _ blk ha hc qa qc held _ queue ses hS hh hq).mono ?_; rintro _ _ ⟨rfl, hS⟩; rw [HA.out]) | ((first | ((with_reducible show WAl ..); (with_reducible apply wpA_alloc (t := 70) hS (v := .agg #[.int .i64 0, .int .i64 0, .bool false])); kernel_rfl; exact rfl; intro _ wx hS) | ((with_reducible show WAl ..); (with_reducible apply wpA_alloc (t := 38) hS (v := .agg #[.int .i64 0, .int .i64 0, .int .i64 0, .int .u64 0, .int .i64 0])); kernel_rfl; exact rfl; intro _ wx hS) | ((with_reducible show WBs ..); (with_reducible apply wpA_oneN hS (z := .agg #[.int .i64 0, .int .i64 0, .int .i64 0, .int .u64 0, .int .i64 0]) (bytes := 40) (size := 5)); exact Try.underlying26; kernel_rfl; exact rfl; exact rfl; exact rfl; exact (by decide); exact (by decide); intro _ wx hS) | ((with_reducible show WBs ..); (with_reducible apply wpA_oneN hS (z := .agg #[.int .i64 0, .int .i64 0, .bool false]) (bytes := 24) (size := 3)); exact Try.underlying73; kernel_rfl; exact rfl; exact rfl; exact rfl; exact (by decide); exact (by decide); intro _ wx hS) | ((with_reducible show WBx ..); (with_reducible apply wpA_box hS); exact rfl; exact rfl; intro _ wx hS)); (try simp only [Act.put, List.setIfInBounds_toArray, List.set_cons_zero, List.set_cons_succ]); (try simp only [Act.eval, Array.getD_eq_getD_getElem?, List.getElem?_toArray, List.getElem?_cons_succ, List.getElem?_cons_zero, Option.getD_some, List.set_cons_succ, List.set_cons_zero, Value.cells, List.toList_toArray] at hS)) | ((with_reducible show WLd ..); (with_reducible apply wpA_loadN (t := 30)); exact rfl; ((with_reducible apply Hp.rangeI hS (n := 5)); (focus repeat constructor)); kernel_rfl; kernel_rfl; (try simp only [Act.put, List.setIfInBounds_toArray, List.set_cons_zero, List.set_cons_succ])) | ((with_reducible show WLd ..); (with_reducible apply wpA_loadN (t := 70)); exact rfl; ((with_reducible apply Hp.rangeI hS (n := 3)); (focus repeat constructor)); kernel_rfl; kernel_rfl; (try simp only [Act.put, List.setIfInBounds_toArray, List.set_cons_zero, List.set_cons_succ])) | ((with_reducible show WLd ..); (with_reducible apply wpA_loadN (t := 38)); exact rfl; ((with_reducible apply Hp.rangeI hS (n := 5)); (focus repeat constructor)); kernel_rfl; kernel_rfl; (try simp only [Act.put, List.setIfInBounds_toArray, List.set_cons_zero, List.set_cons_succ])) | ((with_reducible show WAp ..); (with_reducible apply wpA_appendI hS (e := 70) (z := .agg #[.int .i64 0, .int .i64 0, .bool false]) (size := 3) (bytes := 24)); exact rfl; exact rfl; exact Try.underlying73; (focus repeat constructor); exact .inr Try.underlying73; kernel_rfl; exact rfl; exact (Src.freshN (m := 1) hS 0 rfl rfl (by rfl)); exact (by unfold maxLen; omega); exact (by omega); intro _ _ wx hS; (try simp only [Act.put, List.setIfInBounds_toArray, List.set_cons_zero, List.set_cons_succ])) | ((with_reducible show WSt ..); (with_reducible apply wpA_storeI hS); exact rfl; (focus repeat constructor); exact rfl; exact rfl; exact rfl; exact (Nat.le_of_ble_eq_true rfl); kernel_rfl; intro wx hS; (try simp only [Act.put, List.setIfInBounds_toArray, List.set_cons_zero, List.set_cons_succ]); (try simp only [Act.eval, Array.getD_eq_getD_getElem?, List.getElem?_toArray, List.getElem?_cons_succ, List.getElem?_cons_zero, Option.getD_some, List.set_cons_succ, List.set_cons_zero, Value.cells, List.toList_toArray] at hS); (try simp only [List.take_zero, List.take_succ_cons, List.nil_append, List.cons_append, List.length_cons, List.length_nil, Nat.reduceAdd, Nat.zero_add, List.drop_succ_cons, List.drop_zero, List.drop_nil, List.append_nil] at hS)) | ((with_reducible show WLd ..); (with_reducible apply wpA_load); exact rfl; (first | ((with_reducible apply St.cellI hS); (focus repeat constructor); exact rfl) | assumption); kernel_rfl) | ((with_reducible show WSt ..); (with_reducible apply wpA_store1I hS); exact rfl; (focus repeat constructor); exact rfl; exact rfl; exact rfl; exact rfl; kernel_rfl; intro wx hS; (try simp only [Act.put, List.setIfInBounds_toArray, List.set_cons_zero, List.set_cons_succ]); (try simp only [Act.eval, Array.getD_eq_getD_getElem?, List.getElem?_toArray, List.getElem?_cons_succ, List.getElem?_cons_zero, Option.getD_some, List.set_cons_succ, List.set_cons_zero, Value.cells, List.toList_toArray] at hS)))
      refine wp_region_E 7 hS (by kernel_rfl) (fun _ hR hS => ?_)
      simp only [List.length_cons, List.length_nil, Nat.reduceAdd]
      refine takeP_val (i := 0) ?_ rfl (by exact rfl) (by kernel_rfl) (fun _ _ _ h => h) ?_ hR (fun hR => ?_)
      rotate_left
      · intro w; go_simp; (first | done | (with_reducible rfl) | (refine (if_pos ?_).trans ?_; (focus omega); with_reducible rfl) | skip)
      (simp only [Act.put, List.setIfInBounds_toArray, List.set_cons_zero, List.set_cons_succ])
      refine takeP_val (i := 1) ?_ rfl (by exact rfl) (by kernel_rfl) (fun _ _ _ h => h) ?_ hR (fun hR => ?_)
      rotate_left
      · intro w; go_simp; (first | done | (with_reducible rfl) | (refine (if_pos ?_).trans ?_; (focus omega); with_reducible rfl) | skip)
      (simp only [Act.put, List.setIfInBounds_toArray, List.set_cons_zero, List.set_cons_succ])
      refine takeP_val (i := 2) ?_ rfl (by exact rfl) (by kernel_rfl) (fun _ _ _ h => h) ?_ hR (fun hR => ?_)
      rotate_left
      · intro w; go_simp; (first | done | (with_reducible rfl) | (refine (if_pos ?_).trans ?_; (focus omega); with_reducible rfl) | skip)
      (simp only [Act.put, List.setIfInBounds_toArray, List.set_cons_zero, List.set_cons_succ])
      refine takeP_val (i := 3) ?_ rfl (by exact rfl) (by kernel_rfl) (fun _ _ _ h => h) ?_ hR (fun hR => ?_)
      rotate_left
      · intro w; go_simp; (first | done | (with_reducible rfl) | (refine (if_pos ?_).trans ?_; (focus omega); with_reducible rfl) | skip)
      (simp only [Act.put, List.setIfInBounds_toArray, List.set_cons_zero, List.set_cons_succ])
      refine takeE_load (i := 4) [7] rfl (by exact rfl) (by kernel_rfl) (fun _ _ _ h => h) (by decide) rfl (fun w hS => by (first | ((with_reducible apply St.cellI hS); (focus repeat constructor); exact rfl) | assumption)) (by kernel_rfl) hR (fun hR => ?_)
      (simp only [Act.put, List.setIfInBounds_toArray, List.set_cons_zero, List.set_cons_succ])
      refine takeE_loadN (i := 5) [7, 6] rfl (by exact rfl) (by kernel_rfl) (fun _ _ _ h => h) (by decide) rfl (fun w hS => by (first | exact Hp.range hS 0 rfl _ 3 | exact Hp.range hS 1 rfl _ 3 | exact Hp.range hS 2 rfl _ 3 | exact Hp.range hS 3 rfl _ 3 | exact Hp.range hS 4 rfl _ 3 | exact Hp.range hS 5 rfl _ 3 | exact Hp.range hS 6 rfl _ 3 | exact Hp.range hS 7 rfl _ 3 | exact Hp.range hS 8 rfl _ 3 | exact Hp.range hS 9 rfl _ 3)) (by kernel_rfl) (by kernel_rfl) hR (fun hR => ?_)
      (simp only [Act.put, List.setIfInBounds_toArray, List.set_cons_zero, List.set_cons_succ])
      (try simp only [List.drop_zero, List.drop_succ_cons, List.take_succ_cons, List.take_zero])
      refine oneE (i := 6) (by kernel_rfl) rfl (by exact rfl) (fun K_ hK_ => ?_)
      ((with_reducible apply opA_oneN hS (z := .agg #[.int .i64 0, .int .i64 0, .bool false]) (bytes := 24) (size := 3)); exact Try.underlying73; kernel_rfl; exact rfl; exact rfl; exact rfl; exact (by decide); exact (by decide); intro _ wx hS; (try simp only [Act.eval, Array.getD_eq_getD_getElem?, List.getElem?_toArray, List.getElem?_cons_succ, List.getElem?_cons_zero, Option.getD_some, List.set_cons_succ, List.set_cons_zero, Value.cells, List.toList_toArray] at hS))
      refine hK_ _ _ (fun _ => (hS.tail)) ?_; clear hK_ K_
      (simp only [Act.put, List.setIfInBounds_toArray, List.set_cons_zero, List.set_cons_succ])
      refine oneE (i := 7) (by kernel_rfl) rfl (by exact rfl) (fun K_ hK_ => ?_)
      ((with_reducible apply opA_append hS 3 (z := .agg #[.int .i64 0, .int .i64 0, .bool false]) (size := 3) (bytes := 24)); exact rfl; exact rfl; exact rfl; exact Try.underlying73; exact .inr Try.underlying73; kernel_rfl; exact rfl; exact (Src.freshN (m := 1) hS 0 rfl rfl (by rfl)); exact (by unfold maxLen; omega); exact (by omega); intro qa2 qc2 wx hS)
      refine hK_ _ _ (fun h => by cases h) ?_; clear hK_ K_
      (simp only [Act.put, List.setIfInBounds_toArray, List.set_cons_zero, List.set_cons_succ])
      refine takeP_val (i := 8) ?_ rfl (by exact rfl) (by kernel_rfl) (fun _ _ _ h => h) ?_ (fun h => by cases h) (fun hR => ?_)
      rotate_left
      · intro w; go_simp; (first | done | (with_reducible rfl) | (refine (if_pos ?_).trans ?_; (focus omega); with_reducible rfl) | skip)
      (simp only [Act.put, List.setIfInBounds_toArray, List.set_cons_zero, List.set_cons_succ])
      refine takeP_val (i := 9) ?_ rfl (by exact rfl) (by kernel_rfl) (fun _ _ _ h => h) ?_ (fun h => by cases h) (fun hR => ?_)
      rotate_left
      · intro w; go_simp; (first | done | (with_reducible rfl) | (refine (if_pos ?_).trans ?_; (focus omega); with_reducible rfl) | skip)
      (simp only [Act.put, List.setIfInBounds_toArray, List.set_cons_zero, List.set_cons_succ])
      refine oneE (i := 10) (by kernel_rfl) rfl (by exact rfl) (fun K_ hK_ => ?_)
      ((with_reducible apply opA_store1I hS); exact rfl; (focus repeat constructor); exact rfl; exact rfl; exact rfl; exact rfl; kernel_rfl; intro wx hS; (try simp only [Act.eval, Array.getD_eq_getD_getElem?, List.getElem?_toArray, List.getElem?_cons_succ, List.getElem?_cons_zero, Option.getD_some, List.set_cons_succ, List.set_cons_zero, Value.cells, List.toList_toArray] at hS))
      refine hK_ _ _ (fun h => by cases h) ?_; clear hK_ K_
      (simp only [Act.put, List.setIfInBounds_toArray, List.set_cons_zero, List.set_cons_succ])
      refine wpAnyR_done (by kernel_rfl) ?_ _
      go_wp2_with (first | ((with_reducible show WGd ..); (with_reducible apply wpA_guard); exact rfl; skip) | ((first | ((with_reducible show WAl ..); (with_reducible apply wpA_alloc (t := 70) hS (v := .agg #[.int .i64 0, .int .i64 0, .bool false])); kernel_rfl; exact rfl; intro _ wx hS) | ((with_reducible show WAl ..); (with_reducible apply wpA_alloc (t := 38) hS (v := .agg #[.int .i64 0, .int .i64 0, .int .i64 0, .int .u64 0, .int .i64 0])); kernel_rfl; exact rfl; intro _ wx hS) | ((with_reducible show WBs ..); (with_reducible apply wpA_oneN hS (z := .agg #[.int .i64 0, .int .i64 0, .int .i64 0, .int .u64 0, .int .i64 0]) (bytes := 40) (size := 5)); exact Try.underlying26; kernel_rfl; exact rfl; exact rfl; exact rfl; exact (by decide); exact (by decide); intro _ wx hS) | ((with_reducible show WBs ..); (with_reducible apply wpA_oneN hS (z := .agg #[.int .i64 0, .int .i64 0, .bool false]) (bytes := 24) (size := 3)); exact Try.underlying73; kernel_rfl; exact rfl; exact rfl; exact rfl; exact (by decide); exact (by decide); intro _ wx hS) | ((with_reducible show WBx ..); (with_reducible apply wpA_box hS); exact rfl; exact rfl; intro _ wx hS)); (try simp only [Act.put, List.setIfInBounds_toArray, List.set_cons_zero, List.set_cons_succ]); (try simp only [Act.eval, Array.getD_eq_getD_getElem?, List.getElem?_toArray, List.getElem?_cons_succ, List.getElem?_cons_zero, Option.getD_some, List.set_cons_succ, List.set_cons_zero, Value.cells, List.toList_toArray] at hS)) | ((with_reducible show WLd ..); (with_reducible apply wpA_loadN (t := 30)); exact rfl; ((with_reducible apply Hp.rangeI hS (n := 5)); (focus repeat constructor)); kernel_rfl; kernel_rfl; (try simp only [Act.put, List.setIfInBounds_toArray, List.set_cons_zero, List.set_cons_succ])) | ((with_reducible show WLd ..); (with_reducible apply wpA_loadN (t := 70)); exact rfl; ((with_reducible apply Hp.rangeI hS (n := 3)); (focus repeat constructor)); kernel_rfl; kernel_rfl; (try simp only [Act.put, List.setIfInBounds_toArray, List.set_cons_zero, List.set_cons_succ])) | ((with_reducible show WLd ..); (with_reducible apply wpA_loadN (t := 38)); exact rfl; ((with_reducible apply Hp.rangeI hS (n := 5)); (focus repeat constructor)); kernel_rfl; kernel_rfl; (try simp only [Act.put, List.setIfInBounds_toArray, List.set_cons_zero, List.set_cons_succ])) | ((with_reducible show WAp ..); (with_reducible apply wpA_appendI hS (e := 70) (z := .agg #[.int .i64 0, .int .i64 0, .bool false]) (size := 3) (bytes := 24)); exact rfl; exact rfl; exact Try.underlying73; (focus repeat constructor); exact .inr Try.underlying73; kernel_rfl; exact rfl; exact (Src.freshN (m := 1) hS 0 rfl rfl (by rfl)); exact (by unfold maxLen; omega); exact (by omega); intro _ _ wx hS; (try simp only [Act.put, List.setIfInBounds_toArray, List.set_cons_zero, List.set_cons_succ])) | ((with_reducible show WSt ..); (with_reducible apply wpA_storeI hS); exact rfl; (focus repeat constructor); exact rfl; exact rfl; exact rfl; exact (Nat.le_of_ble_eq_true rfl); kernel_rfl; intro wx hS; (try simp only [Act.put, List.setIfInBounds_toArray, List.set_cons_zero, List.set_cons_succ]); (try simp only [Act.eval, Array.getD_eq_getD_getElem?, List.getElem?_toArray, List.getElem?_cons_succ, List.getElem?_cons_zero, Option.getD_some, List.set_cons_succ, List.set_cons_zero, Value.cells, List.toList_toArray] at hS); (try simp only [List.take_zero, List.take_succ_cons, List.nil_append, List.cons_append, List.length_cons, List.length_nil, Nat.reduceAdd, Nat.zero_add, List.drop_succ_cons, List.drop_zero, List.drop_nil, List.append_nil] at hS)) | ((with_reducible show WLd ..); (with_reducible apply wpA_load); exact rfl; (first | ((with_reducible apply St.cellI hS); (focus repeat constructor); exact rfl) | assumption); kernel_rfl) | ((with_reducible show WSt ..); (with_reducible apply wpA_store1I hS); exact rfl; (focus repeat constructor); exact rfl; exact rfl; exact rfl; exact rfl; kernel_rfl; intro wx hS; (try simp only [Act.put, List.setIfInBounds_toArray, List.set_cons_zero, List.set_cons_succ]); (try simp only [Act.eval, Array.getD_eq_getD_getElem?, List.getElem?_toArray, List.getElem?_cons_succ, List.getElem?_cons_zero, Option.getD_some, List.set_cons_succ, List.set_cons_zero, Value.cells, List.toList_toArray] at hS)))
      go_ret2
      refine ⟨none, 0, rfl, ?_⟩
      have hS := hS.nilRow 38 5
      have h2 := HF.out _ σ.tok ⟨blk, ha, hc, qa2, qc2, ⟨held, false, queue ++ [⟨ses, seq, true⟩]⟩⟩ (.row 38 5 none 0 0 []) rfl (by
        simp only [List.length_append, List.length_cons, List.length_nil, Nat.zero_add, List.flatMap_append, List.flatMap_cons, List.flatMap_nil, List.append_nil]
        exact ((hS).sel [7, 8, 0, 2, 3, 4] 9 (by decide) (by decide) (by simp)))
      exact h2

set_option maxRecDepth 100000 in
set_option maxHeartbeats 4000000 in
theorem ask_grant (w0 w : World) (R : List Hp) (g : Nat) (σ : LocksS) (c : CmdS) (x : LockS) (h : LocksSt w0 w g σ R) (hk : c.kind = 7) (hx : aget σ.l c.name = some x) (hb : x.held.length + x.queue.length ≤ 10000000) (ha0 : asksD x c.session = false) (hw : x.writer = false) (hqe : x.queue = []) (hp : x.held.Pairwise (· ≤ ·)) (ht0 : 0 ≤ σ.tok) (ht1 : σ.tok ≤ tokLast) :
    Calls Try.prog 10 #[.pointer (some ⟨g, 0, none⟩), .agg #[.int .i64 c.kind, .int .i64 c.session, .int .i64 c.seq, .string c.name, .int .i64 c.n]] w (AskP w0 g R (askD σ c)) := by
  have e : askD σ c = ([(grantD σ.tok x ⟨c.session, c.seq, true⟩).1], false, ⟨aput σ.l c.name (grantD σ.tok x ⟨c.session, c.seq, true⟩).2.2, (grantD σ.tok x ⟨c.session, c.seq, true⟩).2.1⟩) := by
    unfold askD; rw [if_neg (by rintro ⟨h1, h2⟩; exact h2 hk), hx]; simp only; rw [if_neg (by rw [ha0]; simp), if_pos ⟨by simpa using hk, hw, hqe⟩]
  rw [e]
  clear e
  obtain ⟨G, hG⟩ : ∃ G, grantD σ.tok x ⟨c.session, c.seq, true⟩ = G := ⟨_, rfl⟩
  rw [hG]
  obtain ⟨m, Z, i, z, hZ, hi, hz, rfl, hS⟩ := locks_open h hx
  have hlk0 := locks_look hz
  have hfin : ∀ (w' : World) (tok : Int) (z' : LM) (A : Hp), z'.blk = z.blk → St w0 w' (.cells g [.map (some m), .int .u64 tok] 68 :: .mp m .string (Z.map kvL) :: A :: (z'.hp ++ ((Z.eraseIdx i).flatMap lhp ++ R))) → LocksSt w0 w' g ⟨aput σ.l c.name z'.s, tok⟩ (A :: R) := fun w' tok z' A hb h =>
    locks_put (z := z) hZ hi hz hb (h.perm (.cons _ (.cons _ (List.perm_middle.symm.trans (.append_left _ List.perm_middle.symm)))))
  have hsame : aput σ.l c.name z.s = σ.l := by
    rw [aput, hi]
    have h1 : σ.l[i]? = some (c.name, z.s) := by rw [← hZ, List.getElem?_map, hz]; rfl
    apply List.ext_getElem?
    intro q
    by_cases hq : i = q
    · subst hq; rw [List.getElem?_set_self (List.getElem?_eq_some_iff.1 h1).1, h1]
    · rw [List.getElem?_set_ne hq]
  obtain ⟨D, hD⟩ : ∃ D, (Z.eraseIdx i).flatMap lhp ++ R = D := ⟨_, rfl⟩
  rw [hD] at hS hfin
  obtain ⟨kvs, hkv⟩ : ∃ kvs, Z.map kvL = kvs := ⟨_, rfl⟩
  rw [hkv] at hS hlk0 hfin
  obtain ⟨blk, ha, hc, qa, qc, ⟨held, wr, queue⟩⟩ := z
  obtain ⟨kind, ses, seq, nm, n⟩ := c
  simp only [LM.hp, List.cons_append, List.nil_append] at hS hlk0 hk hb ha0 hfin hsame hG hw hqe hp ⊢
  have HF := Lib.hid hfin
  have HSM := Lib.hid hsame
  have HA := Lib.hid ha0
  have hlk := hlk0
  clear hlk0 hfin hsame hZ hi hz hD hkv hx h ha0
  have hh : held.length ≤ 1000000000 := by omega
  have hq : queue.length ≤ 1000000000 := by omega
  subst hk
  subst hw
  subst hqe
  have HG := Lib.hid hG
  have HP := Lib.hid hp
  clear hG hp
  have hgr : ∀ (w : World) (R : List Hp), St w0 w (.cells g [.map (some m), .int .u64 σ.tok] 68 :: .cells blk [.slice ha held.length hc, .bool false, .slice qa 0 qc] 75 :: .row 3 1 ha held.length hc (held.map (Value.int .i64)) :: .row 70 3 qa 0 qc [] :: R) →
      Calls Try.prog 33 #[.pointer (some ⟨g, 0, none⟩), .pointer (some ⟨blk, 0, none⟩), .agg #[.int .i64 ses, .int .i64 seq, .bool true]] w fun e w' => ∃ (ha : Option Addr) (hc : Nat) (qa : Option Addr) (qc : Nat),
      e = .returned (.agg #[.int .i64 G.1.session, .int .i64 G.1.seq, .int .i64 G.1.err, .int .u64 G.1.token, .int .i64 G.1.n]) ∧ St w0 w' (.cells g [.map (some m), .int .u64 G.2.1] 68 :: .cells blk [.slice ha G.2.2.held.length hc, .bool G.2.2.writer, .slice qa G.2.2.queue.length qc] 75 :: .row 3 1 ha G.2.2.held.length hc (G.2.2.held.map (Value.int .i64)) :: .row 70 3 qa G.2.2.queue.length qc (G.2.2.queue.flatMap WaitS.cells) :: R) := by
    intro w R hS
    refine (grant_c w0 w R g m σ.tok ⟨blk, ha, hc, qa, qc, ⟨held, false, []⟩⟩ ⟨ses, seq, true⟩ hS (by show held.length ≤ _; omega) HP.out ⟨ht0, ht1⟩).mono ?_
    rintro e w' ⟨⟨b2, ha, hc, qa, qc, s2⟩, hz1, hz2, rfl, h⟩
    simp only at hz1 hz2
    subst hz1
    subst hz2
    rw [← HG.out]
    exact ⟨ha, hc, qa, qc, rfl, h⟩
  have HGR := Lib.hid hgr
  clear hgr
  simp only [List.length_nil, List.flatMap_nil] at hS
  have hax : ∀ (w : World) (R : List Hp), St w0 w (.cells blk [.slice ha held.length hc, .bool false, .slice qa 0 qc] 75 :: .row 3 1 ha held.length hc (held.map (Value.int .i64)) :: .row 70 3 qa 0 qc [] :: R) →
    Calls Try.prog 34 #[.pointer (some ⟨blk, 0, none⟩), .int .i64 ses] w fun e w' => e = .returned (.bool false) ∧ St w0 w' (.cells blk [.slice ha held.length hc, .bool false, .slice qa 0 qc] 75 :: .row 3 1 ha held.length hc (held.map (Value.int .i64)) :: .row 70 3 qa 0 qc [] :: R) := fun w R hS => by
    have := asks_c w0 w R ⟨blk, ha, hc, qa, qc, ⟨held, false, []⟩⟩ ses hS hh (Nat.zero_le _)
    rw [HA.out] at this
    exact this
  have HAX := Lib.hid hax
  clear hax
  go_enter Try.func10, Try.ntmps10
  go_wp2_with (first | ((with_reducible show WGd ..); (with_reducible apply wpA_guard); exact rfl; skip) | ((first | ((with_reducible show WAl ..); (with_reducible apply wpA_alloc (t := 70) hS (v := .agg #[.int .i64 0, .int .i64 0, .bool false])); kernel_rfl; exact rfl; intro _ wx hS) | ((with_reducible show WAl ..); (with_reducible apply wpA_alloc (t := 38) hS (v := .agg #[.int .i64 0, .int .i64 0, .int .i64 0, .int .u64 0, .int .i64 0])); kernel_rfl; exact rfl; intro _ wx hS) | ((with_reducible show WBs ..); (with_reducible apply wpA_oneN hS (z := .agg #[.int .i64 0, .int .i64 0, .int .i64 0, .int .u64 0, .int .i64 0]) (bytes := 40) (size := 5)); exact Try.underlying26; kernel_rfl; exact rfl; exact rfl; exact rfl; exact (by decide); exact (by decide); intro _ wx hS) | ((with_reducible show WBs ..); (with_reducible apply wpA_oneN hS (z := .agg #[.int .i64 0, .int .i64 0, .bool false]) (bytes := 24) (size := 3)); exact Try.underlying73; kernel_rfl; exact rfl; exact rfl; exact rfl; exact (by decide); exact (by decide); intro _ wx hS) | ((with_reducible show WBx ..); (with_reducible apply wpA_box hS); exact rfl; exact rfl; intro _ wx hS)); (try simp only [Act.put, List.setIfInBounds_toArray, List.set_cons_zero, List.set_cons_succ]); (try simp only [Act.eval, Array.getD_eq_getD_getElem?, List.getElem?_toArray, List.getElem?_cons_succ, List.getElem?_cons_zero, Option.getD_some, List.set_cons_succ, List.set_cons_zero, Value.cells, List.toList_toArray] at hS)) | ((with_reducible show WLd ..); (with_reducible apply wpA_loadN (t := 30)); exact rfl; ((with_reducible apply Hp.rangeI hS (n := 5)); (focus repeat constructor)); kernel_rfl; kernel_rfl; (try simp only [Act.put, List.setIfInBounds_toArray, List.set_cons_zero, List.set_cons_succ])) | ((with_reducible show WLd ..); (with_reducible apply wpA_loadN (t := 70)); exact rfl; ((with_reducible apply Hp.rangeI hS (n := 3)); (focus repeat constructor)); kernel_rfl; kernel_rfl; (try simp only [Act.put, List.setIfInBounds_toArray, List.set_cons_zero, List.set_cons_succ])) | ((with_reducible show WLd ..); (with_reducible apply wpA_loadN (t := 38)); exact rfl; ((with_reducible apply Hp.rangeI hS (n := 5)); (focus repeat constructor)); kernel_rfl; kernel_rfl; (try simp only [Act.put, List.setIfInBounds_toArray, List.set_cons_zero, List.set_cons_succ])) | ((with_reducible show WAp ..); (with_reducible apply wpA_appendI hS (e := 70) (z := .agg #[.int .i64 0, .int .i64 0, .bool false]) (size := 3) (bytes := 24)); exact rfl; exact rfl; exact Try.underlying73; (focus repeat constructor); exact .inr Try.underlying73; kernel_rfl; exact rfl; exact (Src.freshN (m := 1) hS 0 rfl rfl (by rfl)); exact (by unfold maxLen; omega); exact (by omega); intro _ _ wx hS; (try simp only [Act.put, List.setIfInBounds_toArray, List.set_cons_zero, List.set_cons_succ])) | ((with_reducible show WSt ..); (with_reducible apply wpA_storeI hS); exact rfl; (focus repeat constructor); exact rfl; exact rfl; exact rfl; exact (Nat.le_of_ble_eq_true rfl); kernel_rfl; intro wx hS; (try simp only [Act.put, List.setIfInBounds_toArray, List.set_cons_zero, List.set_cons_succ]); (try simp only [Act.eval, Array.getD_eq_getD_getElem?, List.getElem?_toArray, List.getElem?_cons_succ, List.getElem?_cons_zero, Option.getD_some, List.set_cons_succ, List.set_cons_zero, Value.cells, List.toList_toArray] at hS); (try simp only [List.take_zero, List.take_succ_cons, List.nil_append, List.cons_append, List.length_cons, List.length_nil, Nat.reduceAdd, Nat.zero_add, List.drop_succ_cons, List.drop_zero, List.drop_nil, List.append_nil] at hS)) | ((with_reducible show WLd ..); (with_reducible apply wpA_load); exact rfl; (first | ((with_reducible apply St.cellI hS); (focus repeat constructor); exact rfl) | assumption); kernel_rfl) | ((with_reducible show WSt ..); (with_reducible apply wpA_store1I hS); exact rfl; (focus repeat constructor); exact rfl; exact rfl; exact rfl; exact rfl; kernel_rfl; intro wx hS; (try simp only [Act.put, List.setIfInBounds_toArray, List.set_cons_zero, List.set_cons_succ]); (try simp only [Act.eval, Array.getD_eq_getD_getElem?, List.getElem?_toArray, List.getElem?_cons_succ, List.getElem?_cons_zero, Option.getD_some, List.set_cons_succ, List.set_cons_zero, Value.cells, List.toList_toArray] at hS)))
  refine wp_region_St hS (by kernel_rfl) (by kernel_rfl) (Bx.out ?_)
  refine bQ_val ?_ rfl ?_ ?_
  rotate_left
  · intro w hS; go_simp; (first | done | (with_reducible rfl) | (refine (if_pos ?_).trans ?_; (focus omega); with_reducible rfl) | skip)
  (simp only [Act.put, List.setIfInBounds_toArray, List.set_cons_zero, List.set_cons_succ])
  refine bQ_val ?_ rfl ?_ ?_
  rotate_left
  · intro w hS; go_simp; (first | done | (with_reducible rfl) | (refine (if_pos ?_).trans ?_; (focus omega); with_reducible rfl) | skip)
  (simp only [Act.put, List.setIfInBounds_toArray, List.set_cons_zero, List.set_cons_succ])
  refine bQ_val ?_ rfl ?_ ?_
  rotate_left
  · intro w hS; go_simp; (first | done | (with_reducible rfl) | (refine (if_pos ?_).trans ?_; (focus omega); with_reducible rfl) | skip)
  (simp only [Act.put, List.setIfInBounds_toArray, List.set_cons_zero, List.set_cons_succ])
  refine bQ_load rfl (fun w hS => by (first | ((with_reducible apply St.cellI hS); (focus repeat constructor); exact rfl) | assumption)) (by kernel_rfl) ?_
  (simp only [Act.put, List.setIfInBounds_toArray, List.set_cons_zero, List.set_cons_succ])
  refine bQ_val ?_ rfl ?_ ?_
  rotate_left
  · intro w hS; go_simp; (first | done | (with_reducible rfl) | (refine (if_pos ?_).trans ?_; (focus omega); with_reducible rfl) | skip)
  (simp only [Act.put, List.setIfInBounds_toArray, List.set_cons_zero, List.set_cons_succ])
  refine bQ_load rfl (fun w hS => by (first | ((with_reducible apply St.cellI hS); (focus repeat constructor); exact rfl) | assumption)) (by kernel_rfl) ?_
  (simp only [Act.put, List.setIfInBounds_toArray, List.set_cons_zero, List.set_cons_succ])
  refine bQ_lookup 3 (z := .pointer none) (r := some (.pointer (some ⟨blk, 0, none⟩))) rfl rfl rfl Try.underlying66 Try.underlying9 trivial (by kernel_rfl) hlk ?_
  dsimp only [Option.getD, Option.isSome, if_true, Bool.false_eq_true, if_false]
  (simp only [Act.put, List.setIfInBounds_toArray, List.set_cons_zero, List.set_cons_succ])
  refine bQ_val ?_ rfl ?_ ?_
  rotate_left
  · intro w hS; go_simp; (first | done | (with_reducible rfl) | (refine (if_pos ?_).trans ?_; (focus omega); with_reducible rfl) | skip)
  (simp only [Act.put, List.setIfInBounds_toArray, List.set_cons_zero, List.set_cons_succ])
  refine ⟨wpQuiet_nil ?_⟩
  intro wx hS
  go_wp2_with (first | ((with_reducible show WGd ..); (with_reducible apply wpA_guard); exact rfl; skip) | (go_at_call 34; ((try simp only [List.set_cons_succ, List.set_cons_zero] at hS); replace hS := hS.sel [4, 5, 6, 0, 1, 2, 3] 7 (by decide) (by decide) (by simp); simp only [List.filterMap_cons, List.filterMap_nil, List.getElem?_cons_succ, List.getElem?_cons_zero, List.drop_succ_cons, List.drop_zero, List.cons_append, List.nil_append] at hS); with_reducible refine (HAX.out _ _ hS).mono ?_; rintro _ _ ⟨rfl, hS⟩) | (go_at_call 33; ((try simp only [List.set_cons_succ, List.set_cons_zero] at hS); replace hS := hS.sel [5, 0, 1, 2, 3, 4, 6] 7 (by decide) (by decide) (by simp); simp only [List.filterMap_cons, List.filterMap_nil, List.getElem?_cons_succ, List.getElem?_cons_zero, List.drop_succ_cons, List.drop_zero, List.cons_append, List.nil_append] at hS); with_reducible refine (HGR.out _ _ hS).mono ?_; rintro _ _ ⟨ha2, hc2, qa2, qc2, rfl, hS⟩) | ((first | ((with_reducible show WAl ..); (with_reducible apply wpA_alloc (t := 70) hS (v := .agg #[.int .i64 0, .int .i64 0, .bool false])); kernel_rfl; exact rfl; intro _ wx hS) | ((with_reducible show WAl ..); (with_reducible apply wpA_alloc (t := 38) hS (v := .agg #[.int .i64 0, .int .i64 0, .int .i64 0, .int .u64 0, .int .i64 0])); kernel_rfl; exact rfl; intro _ wx hS) | ((with_reducible show WBs ..); (with_reducible apply wpA_oneN hS (z := .agg #[.int .i64 0, .int .i64 0, .int .i64 0, .int .u64 0, .int .i64 0]) (bytes := 40) (size := 5)); exact Try.underlying26; kernel_rfl; exact rfl; exact rfl; exact rfl; exact (by decide); exact (by decide); intro _ wx hS) | ((with_reducible show WBs ..); (with_reducible apply wpA_oneN hS (z := .agg #[.int .i64 0, .int .i64 0, .bool false]) (bytes := 24) (size := 3)); exact Try.underlying73; kernel_rfl; exact rfl; exact rfl; exact rfl; exact (by decide); exact (by decide); intro _ wx hS) | ((with_reducible show WBx ..); (with_reducible apply wpA_box hS); exact rfl; exact rfl; intro _ wx hS)); (try simp only [Act.put, List.setIfInBounds_toArray, List.set_cons_zero, List.set_cons_succ]); (try simp only [Act.eval, Array.getD_eq_getD_getElem?, List.getElem?_toArray, List.getElem?_cons_succ, List.getElem?_cons_zero, Option.getD_some, List.set_cons_succ, List.set_cons_zero, Value.cells, List.toList_toArray] at hS)) | ((with_reducible show WLd ..); (with_reducible apply wpA_loadN (t := 30)); exact rfl; ((with_reducible apply Hp.rangeI hS (n := 5)); (focus repeat constructor)); kernel_rfl; kernel_rfl; (try simp only [Act.put, List.setIfInBounds_toArray, List.set_cons_zero, List.set_cons_succ])) | ((with_reducible show WLd ..); (with_reducible apply wpA_loadN (t := 70)); exact rfl; ((with_reducible apply Hp.rangeI hS (n := 3)); (focus repeat constructor)); kernel_rfl; kernel_rfl; (try simp only [Act.put, List.setIfInBounds_toArray, List.set_cons_zero, List.set_cons_succ])) | ((with_reducible show WLd ..); (with_reducible apply wpA_loadN (t := 38)); exact rfl; ((with_reducible apply Hp.rangeI hS (n := 5)); (focus repeat constructor)); kernel_rfl; kernel_rfl; (try simp only [Act.put, List.setIfInBounds_toArray, List.set_cons_zero, List.set_cons_succ])) | ((with_reducible show WAp ..); (with_reducible apply wpA_appendI hS (e := 70) (z := .agg #[.int .i64 0, .int .i64 0, .bool false]) (size := 3) (bytes := 24)); exact rfl; exact rfl; exact Try.underlying73; (focus repeat constructor); exact .inr Try.underlying73; kernel_rfl; exact rfl; exact (Src.freshN (m := 1) hS 0 rfl rfl (by rfl)); exact (by unfold maxLen; omega); exact (by omega); intro _ _ wx hS; (try simp only [Act.put, List.setIfInBounds_toArray, List.set_cons_zero, List.set_cons_succ])) | ((with_reducible show WSt ..); (with_reducible apply wpA_storeI hS); exact rfl; (focus repeat constructor); exact rfl; exact rfl; exact rfl; exact (Nat.le_of_ble_eq_true rfl); kernel_rfl; intro wx hS; (try simp only [Act.put, List.setIfInBounds_toArray, List.set_cons_zero, List.set_cons_succ]); (try simp only [Act.eval, Array.getD_eq_getD_getElem?, List.getElem?_toArray, List.getElem?_cons_succ, List.getElem?_cons_zero, Option.getD_some, List.set_cons_succ, List.set_cons_zero, Value.cells, List.toList_toArray] at hS); (try simp only [List.take_zero, List.take_succ_cons, List.nil_append, List.cons_append, List.length_cons, List.length_nil, Nat.reduceAdd, Nat.zero_add, List.drop_succ_cons, List.drop_zero, List.drop_nil, List.append_nil] at hS)) | ((with_reducible show WLd ..); (with_reducible apply wpA_load); exact rfl; (first | ((with_reducible apply St.cellI hS); (focus repeat constructor); exact rfl) | assumption); kernel_rfl) | ((with_reducible show WSt ..); (with_reducible apply wpA_store1I hS); exact rfl; (focus repeat constructor); exact rfl; exact rfl; exact rfl; exact rfl; kernel_rfl; intro wx hS; (try simp only [Act.put, List.setIfInBounds_toArray, List.set_cons_zero, List.set_cons_succ]); (try simp only [Act.eval, Array.getD_eq_getD_getElem?, List.getElem?_toArray, List.getElem?_cons_succ, List.getElem?_cons_zero, Option.getD_some, List.set_cons_succ, List.set_cons_zero, Value.cells, List.toList_toArray] at hS)))
  trace_state
  go_ret2
  refine ⟨_, _, rfl, ?_⟩
  have hS2 := hS
  ((try simp only [List.set_cons_succ, List.set_cons_zero] at hS2); replace hS2 := hS2.sel [1, 7, 0, 2, 3, 4] 8 (by decide) (by decide) (by simp); simp only [List.filterMap_cons, List.filterMap_nil, List.getElem?_cons_succ, List.getElem?_cons_zero, List.drop_succ_cons, List.drop_zero, List.cons_append, List.nil_append] at hS2)
  replace hS2 := hS2.litRow 2 rfl 1 5 rfl (by decide)
  simp only [List.set_cons_succ, List.set_cons_zero] at hS2
  exact HF.out _ G.2.1 ⟨blk, ha2, hc2, qa2, qc2, G.2.2⟩ _ rfl hS2
end Go.Proofs.Ytelbpnlpmaihhaa
