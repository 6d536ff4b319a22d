/-
  The disk's functions, walked: a file that is there.
-/
import Derived.Test.YtbigkonbdnbnpaaDiskW
namespace Go.Proofs.Ytbigkonbdnbnpaa
set_option linter.unusedVariables false
set_option linter.unusedSimpArgs false
open Go.RowKit

/-- The disk, opened at the file i. -/
theorem DiskSt.open_ {w0 w : World} {g : Nat} {σ : DiskS} {R : List Hp} (hD : DiskSt w0 w g σ R) {i : Nat} {s : ByteArray} {f : FileS} (hi : σ.l[i]? = some (s, f)) :
    ∃ m kvs p ao cap ao2 cap2 Hr, kvs[i]? = some (.string s, .pointer (some ⟨p, 0, none⟩)) ∧
      St w0 w (.cells g [.map (some m), .int .i64 σ.clock] 51 :: .mp m .string kvs :: .cells p [.slice ao f.b.length cap, .int .i64 f.sure, .slice ao2 f.came.length cap2] 56 ::
        .row 5 1 ao f.b.length cap (f.b.map u8v) :: .row 3 1 ao2 f.came.length cap2 (f.came.map (Value.int .i64)) :: (Hr ++ R)) ∧
      (∀ (w' : World) c f' (Hf' : List Hp), FileH p f' Hf' → St w0 w' (.cells g [.map (some m), .int .i64 c] 51 :: .mp m .string kvs :: (Hf' ++ (Hr ++ R))) → DiskSt w0 w' g ⟨σ.l.set i (s, f'), c⟩ R) ∧
      (∀ (w' : World), St w0 w' (.cells g [.map (some m), .int .i64 σ.clock] 51 :: .mp m .string (kvs.eraseIdx i) :: (Hr ++ R)) → DiskSt w0 w' g ⟨σ.l.eraseIdx i, σ.clock⟩ R) := by
  obtain ⟨m, kvs, H, hF, hS⟩ := hD
  obtain ⟨p, Hf, Hr, h1, ⟨ao, cap, ao2, cap2, rfl⟩, h3, h4, H5, h5, h6⟩ := hF.get hi
  refine ⟨m, kvs, p, ao, cap, ao2, cap2, Hr, h1, ?_, ?_, ?_⟩
  · refine hS.perm (.cons _ (.cons _ ((h3.append_right R).trans ?_)))
    simp
  · intro w' c f' Hf' hf' hS'
    obtain ⟨H', g1, g2⟩ := h4 s f' Hf' hf'
    refine ⟨m, _, H', ?_, hS'.perm (.cons _ (.cons _ (((g2.append_right R).trans (by simp)).symm)))⟩
    have e : kvs.set i (.string s, .pointer (some ⟨p, 0, none⟩)) = kvs := by
      obtain ⟨hl, e⟩ := List.getElem?_eq_some_iff.1 h1
      rw [← e]; exact List.set_getElem_self hl
    rw [e] at g1
    exact g1
  · intro w' hS'
    exact ⟨m, _, H5, h5, hS'.perm (.cons _ (.cons _ ((h6.append_right R).symm)))⟩

/-- Read, Unsynced of a file that is there: nothing turns. -/
theorem reads_c (w0 w : World) (R : List Hp) (g : Nat) (σ : DiskS) (s : ByteArray) (hD : DiskSt w0 w g σ R) (i : Nat) (f : FileS) (hi : σ.l[i]? = some (s, f)) :
    (Calls Try.prog 13 #[.pointer (some ⟨g, 0, none⟩), .string s] w fun e w' => e = .returned (.tuple #[.string ⟨f.b.toArray⟩, .int .i64 0]) ∧ w = w') ∧
    (Calls Try.prog 14 #[.pointer (some ⟨g, 0, none⟩), .string s] w fun e w' => e = .returned (.int .i64 f.came.length) ∧ w = w') := by
  obtain ⟨m, kvs, p, ao, cap, ao2, cap2, Hr, h1, hS, _, _⟩ := hD.open_ hi
  have hf := find_c w0 w _ g m σ.clock kvs s hS (some ⟨p, 0, none⟩) ⟨i, h1⟩
  refine ⟨?_, ?_⟩
  · go_enter Try.func13, Try.ntmps13
    go_wp2_with (first | ((with_reducible show WGd ..); (with_reducible apply wpA_guard); exact rfl; skip) | (go_at_call 21; refine (hf).mono ?_; rintro _ _ ⟨rfl, rfl⟩) | ((with_reducible show wpList _ _ _ (⟨_, .convert _ _ _, _, _, _, none⟩ :: _) _ _); (with_reducible apply wpA_toString hS 3); exact rfl; exact rfl; exact Try.underlying33; exact Try.underlying5; exact Try.underlying9) | ((with_reducible show WLd ..); (with_reducible apply wpA_load); exact rfl; (first | ((with_reducible apply St.cellI hS); (focus repeat constructor); exact rfl) | assumption); kernel_rfl) | ((with_reducible show WSt ..); (with_reducible apply wpA_store1I hS); exact rfl; (focus repeat constructor); exact rfl; exact rfl; exact rfl; exact rfl; kernel_rfl; intro wx hS; (try simp only [Act.put, List.setIfInBounds_toArray, List.set_cons_zero, List.set_cons_succ]); (try simp only [Act.eval, Array.getD_eq_getD_getElem?, List.getElem?_toArray, List.getElem?_cons_succ, List.getElem?_cons_zero, Option.getD_some, List.set_cons_succ, List.set_cons_zero, Value.cells, List.toList_toArray] at hS)) | ((with_reducible show WBx ..); (with_reducible apply wpA_box hS); exact rfl; exact rfl; intro _ wx hS; (try simp only [Act.put, List.setIfInBounds_toArray, List.set_cons_zero, List.set_cons_succ]); (try simp only [Act.eval, Array.getD_eq_getD_getElem?, List.getElem?_toArray, List.getElem?_cons_succ, List.getElem?_cons_zero, Option.getD_some, List.set_cons_succ, List.set_cons_zero, Value.cells, List.toList_toArray] at hS)))
    go_ret2
    exact ⟨rfl, rfl⟩
  · go_enter Try.func14, Try.ntmps14
    go_wp2_with (first | ((with_reducible show WGd ..); (with_reducible apply wpA_guard); exact rfl; skip) | (go_at_call 21; refine (hf).mono ?_; rintro _ _ ⟨rfl, rfl⟩) | ((with_reducible show WLd ..); (with_reducible apply wpA_load); exact rfl; (first | ((with_reducible apply St.cellI hS); (focus repeat constructor); exact rfl) | assumption); kernel_rfl) | ((with_reducible show WSt ..); (with_reducible apply wpA_store1I hS); exact rfl; (focus repeat constructor); exact rfl; exact rfl; exact rfl; exact rfl; kernel_rfl; intro wx hS; (try simp only [Act.put, List.setIfInBounds_toArray, List.set_cons_zero, List.set_cons_succ]); (try simp only [Act.eval, Array.getD_eq_getD_getElem?, List.getElem?_toArray, List.getElem?_cons_succ, List.getElem?_cons_zero, Option.getD_some, List.set_cons_succ, List.set_cons_zero, Value.cells, List.toList_toArray] at hS)) | ((with_reducible show WBx ..); (with_reducible apply wpA_box hS); exact rfl; exact rfl; intro _ wx hS; (try simp only [Act.put, List.setIfInBounds_toArray, List.set_cons_zero, List.set_cons_succ]); (try simp only [Act.eval, Array.getD_eq_getD_getElem?, List.getElem?_toArray, List.getElem?_cons_succ, List.getElem?_cons_zero, Option.getD_some, List.set_cons_succ, List.set_cons_zero, Value.cells, List.toList_toArray] at hS)))
    go_ret
    exact ⟨rfl, rfl⟩

/-- Sync of a file that is there. -/
theorem sync_c (w0 w : World) (R : List Hp) (g : Nat) (σ : DiskS) (s : ByteArray) (hD : DiskSt w0 w g σ R) (i : Nat) (f : FileS) (hi : σ.l[i]? = some (s, f)) :
    Calls Try.prog 11 #[.pointer (some ⟨g, 0, none⟩), .string s] w fun e w' => e = .returned (.int .i64 0) ∧ DiskSt w0 w' g ⟨σ.l.set i (s, ⟨f.b, f.b.length, []⟩), σ.clock⟩ R := by
  obtain ⟨m, kvs, p, ao, cap, ao2, cap2, Hr, h1, hS, hset, _⟩ := hD.open_ hi
  have hf := find_c w0 w _ g m σ.clock kvs s hS (some ⟨p, 0, none⟩) ⟨i, h1⟩
  go_enter Try.func11, Try.ntmps11
  go_wp2_with (first | ((with_reducible show WGd ..); (with_reducible apply wpA_guard); exact rfl; skip) | (go_at_call 21; refine (hf).mono ?_; rintro _ _ ⟨rfl, rfl⟩) | ((with_reducible show WLd ..); (with_reducible apply wpA_load); exact rfl; (first | ((with_reducible apply St.cellI hS); (focus repeat constructor); exact rfl) | assumption); kernel_rfl) | ((with_reducible show WSt ..); (with_reducible apply wpA_store1I hS); exact rfl; (focus repeat constructor); exact rfl; exact rfl; exact rfl; exact rfl; kernel_rfl; intro wx hS; (try simp only [Act.put, List.setIfInBounds_toArray, List.set_cons_zero, List.set_cons_succ]); (try simp only [Act.eval, Array.getD_eq_getD_getElem?, List.getElem?_toArray, List.getElem?_cons_succ, List.getElem?_cons_zero, Option.getD_some, List.set_cons_succ, List.set_cons_zero, Value.cells, List.toList_toArray] at hS)) | ((with_reducible show WBx ..); (with_reducible apply wpA_box hS); exact rfl; exact rfl; intro _ wx hS; (try simp only [Act.put, List.setIfInBounds_toArray, List.set_cons_zero, List.set_cons_succ]); (try simp only [Act.eval, Array.getD_eq_getD_getElem?, List.getElem?_toArray, List.getElem?_cons_succ, List.getElem?_cons_zero, Option.getD_some, List.set_cons_succ, List.set_cons_zero, Value.cells, List.toList_toArray] at hS)))
  go_ret
  exact ⟨rfl, hset _ _ _ _ ⟨ao, cap, none, 0, rfl⟩ ((hS.nilRow 3 1).sel [1, 2, 3, 4, 0] 6 (by decide) (by decide) (by simp))⟩

theorem remove_c (w0 w : World) (R : List Hp) (g : Nat) (σ : DiskS) (s : ByteArray) (hD : DiskSt w0 w g σ R) (i : Nat) (f : FileS) (hi : σ.l[i]? = some (s, f)) :
    Calls Try.prog 17 #[.pointer (some ⟨g, 0, none⟩), .string s] w fun e w' => e = .returned (.int .i64 0) ∧ DiskSt w0 w' g ⟨σ.l.eraseIdx i, σ.clock⟩ R := by
  obtain ⟨m, kvs, p, ao, cap, ao2, cap2, Hr, h1, hS, _, hdel⟩ := hD.open_ hi
  have hf := find_c w0 w _ g m σ.clock kvs s hS (some ⟨p, 0, none⟩) ⟨i, h1⟩
  go_enter Try.func17, Try.ntmps17
  go_wp2_with (first | ((with_reducible show WGd ..); (with_reducible apply wpA_guard); exact rfl; skip) | (go_at_call 21; refine (hf).mono ?_; rintro _ _ ⟨rfl, rfl⟩) | ((with_reducible show WDe ..); (with_reducible apply wpA_delete hS 1); exact rfl; exact rfl; exact rfl; exact Try.underlying49; exact Try.underlying9; exact trivial; exact (.inr ⟨i, _, h1, rfl⟩); intro wx hS; (try simp only [Act.put, List.setIfInBounds_toArray, List.set_cons_zero, List.set_cons_succ])) | ((with_reducible show WLd ..); (with_reducible apply wpA_load); exact rfl; (first | ((with_reducible apply St.cellI hS); (focus repeat constructor); exact rfl) | assumption); kernel_rfl) | ((with_reducible show WSt ..); (with_reducible apply wpA_store1I hS); exact rfl; (focus repeat constructor); exact rfl; exact rfl; exact rfl; exact rfl; kernel_rfl; intro wx hS; (try simp only [Act.put, List.setIfInBounds_toArray, List.set_cons_zero, List.set_cons_succ]); (try simp only [Act.eval, Array.getD_eq_getD_getElem?, List.getElem?_toArray, List.getElem?_cons_succ, List.getElem?_cons_zero, Option.getD_some, List.set_cons_succ, List.set_cons_zero, Value.cells, List.toList_toArray] at hS)) | ((with_reducible show WBx ..); (with_reducible apply wpA_box hS); exact rfl; exact rfl; intro _ wx hS; (try simp only [Act.put, List.setIfInBounds_toArray, List.set_cons_zero, List.set_cons_succ]); (try simp only [Act.eval, Array.getD_eq_getD_getElem?, List.getElem?_toArray, List.getElem?_cons_succ, List.getElem?_cons_zero, Option.getD_some, List.set_cons_succ, List.set_cons_zero, Value.cells, List.toList_toArray] at hS)))
  go_ret
  exact ⟨rfl, hdel _ ((hS).sel [0, 1] 5 (by decide) (by decide) (by simp))⟩
end Go.Proofs.Ytbigkonbdnbnpaa
