/-
  The disk's Append, walked.
-/
import Derived.Test.YtbigkonbdnbnpaaDiskW2
namespace Go.Proofs.Ytbigkonbdnbnpaa
set_option linter.unusedVariables false
set_option linter.unusedSimpArgs false
open Go.RowKit

theorem clocks_succ (c : Int) (k : Nat) : clocks c (k + 1) = clocks c k ++ [c + k + 1] := by
  simp [clocks, List.range_succ]

theorem clocks_length (c : Int) (k : Nat) : (clocks c k).length = k := by simp [clocks]

theorem append_bad (s t : ByteArray) (v : Value) (w : World) (hv : v = .pointer none ∨ (nameB s = false ∧ ∃ p, v = .pointer (some p))) :
    Calls Try.prog 10 #[v, .string s, .string t] w fun e w' => e = .returned (.int .i64 1) ∧ w = w' := by
  rcases hv with rfl | ⟨hn, p, rfl⟩
  · go_enter Try.func10, Try.ntmps10
    go_wp2_with (first | ((with_reducible show WGd ..); (with_reducible apply wpA_guard); exact rfl; skip) | ((with_reducible show WLd ..); (with_reducible apply wpA_load); exact rfl; (first | ((with_reducible apply St.cellI hS); (focus repeat constructor); exact rfl) | assumption); kernel_rfl) | ((with_reducible show WSt ..); (with_reducible apply wpA_store1I hS); exact rfl; (focus repeat constructor); exact rfl; exact rfl; exact rfl; exact rfl; kernel_rfl; intro wx hS; (try simp only [Act.put, List.setIfInBounds_toArray, List.set_cons_zero, List.set_cons_succ]); (try simp only [Act.eval, Array.getD_eq_getD_getElem?, List.getElem?_toArray, List.getElem?_cons_succ, List.getElem?_cons_zero, Option.getD_some, List.set_cons_succ, List.set_cons_zero, Value.cells, List.toList_toArray] at hS)) | ((with_reducible show WBx ..); (with_reducible apply wpA_box hS); exact rfl; exact rfl; intro _ wx hS; (try simp only [Act.put, List.setIfInBounds_toArray, List.set_cons_zero, List.set_cons_succ]); (try simp only [Act.eval, Array.getD_eq_getD_getElem?, List.getElem?_toArray, List.getElem?_cons_succ, List.getElem?_cons_zero, Option.getD_some, List.set_cons_succ, List.set_cons_zero, Value.cells, List.toList_toArray] at hS)))
    go_ret
    exact ⟨rfl, rfl⟩
  · have hc := named_c s w
    rw [hn] at hc
    go_enter Try.func10, Try.ntmps10
    go_wp2_with (first | ((with_reducible show WGd ..); (with_reducible apply wpA_guard); exact rfl; skip) | (go_at_call 20; refine (hc).mono ?_; rintro _ _ ⟨rfl, rfl⟩) | ((with_reducible show WLd ..); (with_reducible apply wpA_load); exact rfl; (first | ((with_reducible apply St.cellI hS); (focus repeat constructor); exact rfl) | assumption); kernel_rfl) | ((with_reducible show WSt ..); (with_reducible apply wpA_store1I hS); exact rfl; (focus repeat constructor); exact rfl; exact rfl; exact rfl; exact rfl; kernel_rfl; intro wx hS; (try simp only [Act.put, List.setIfInBounds_toArray, List.set_cons_zero, List.set_cons_succ]); (try simp only [Act.eval, Array.getD_eq_getD_getElem?, List.getElem?_toArray, List.getElem?_cons_succ, List.getElem?_cons_zero, Option.getD_some, List.set_cons_succ, List.set_cons_zero, Value.cells, List.toList_toArray] at hS)) | ((with_reducible show WBx ..); (with_reducible apply wpA_box hS); exact rfl; exact rfl; intro _ wx hS; (try simp only [Act.put, List.setIfInBounds_toArray, List.set_cons_zero, List.set_cons_succ]); (try simp only [Act.eval, Array.getD_eq_getD_getElem?, List.getElem?_toArray, List.getElem?_cons_succ, List.getElem?_cons_zero, Option.getD_some, List.set_cons_succ, List.set_cons_zero, Value.cells, List.toList_toArray] at hS)))
    go_ret
    exact ⟨rfl, rfl⟩

set_option maxHeartbeats 1000000 in
set_option maxRecDepth 100000 in
theorem append_old (w0 w : World) (R : List Hp) (g : Nat) (σ : DiskS) (s t : ByteArray) (hD : DiskSt w0 w g σ R) (hok : σ.ok t.size) (hnm : nameB s = true) (i : Nat) (f : FileS) (hi : σ.l[i]? = some (s, f)) (hfit : f.b.length + t.size ≤ 4194304) :
    Calls Try.prog 10 #[.pointer (some ⟨g, 0, none⟩), .string s, .string t] w fun e w' => e = .returned (.int .i64 0) ∧
      DiskSt w0 w' g ⟨σ.l.set i (s, ⟨f.b ++ t.data.toList, f.sure, f.came ++ clocks σ.clock t.size⟩), σ.clock + t.size⟩ R := by
  obtain ⟨m, kvs, p, ao, cap, ao2, cap2, Hr, h1, hS, hset, _⟩ := hD.open_ hi
  have hcl0 := hok.clock0
  have hcl1 := hok.clock1
  have hfl := hok.files _ (List.mem_of_getElem? hi)
  have hcame : f.came.length ≤ 4194304 := by have := hfl.1; have := hfl.2; simp only at *; omega
  have hc := named_c s w
  rw [hnm] at hc
  have ht : (t.size : Int) ≤ 4194304 - f.b.length := by omega
  go_enter Try.func10, Try.ntmps10
  go_wp2_with (first | ((with_reducible show WGd ..); (with_reducible apply wpA_guard); exact rfl; skip) | (go_at_call 20; refine (hc).mono ?_; rintro _ _ ⟨rfl, rfl⟩) | ((with_reducible apply wpA_lookup hS 1 (z := .pointer none) (r := some (.pointer (some ⟨p, 0, none⟩)))); exact rfl; exact rfl; exact rfl; exact Try.underlying49; exact Try.underlying9; exact trivial; kernel_rfl; exact ⟨i, h1⟩; dsimp only [Option.getD, Option.isSome, if_true, Bool.false_eq_true, if_false]) | ((with_reducible show WUp ..); (with_reducible apply wpA_update_old hS 1); exact rfl; exact rfl; exact rfl; exact rfl; exact Try.underlying49; exact Try.underlying9; exact trivial; exact h1; intro wx hS; (try simp only [Act.put, List.setIfInBounds_toArray, List.set_cons_zero, List.set_cons_succ]); (try simp only [Act.eval, Array.getD_eq_getD_getElem?, List.getElem?_toArray, List.getElem?_cons_succ, List.getElem?_cons_zero, Option.getD_some, List.set_cons_succ, List.set_cons_zero, Value.cells, List.toList_toArray] at hS)) | ((with_reducible show WAp ..); (with_reducible apply wpA_append hS 3 (z := .int .u8 0) (size := 1) (bytes := 1)); exact rfl; exact rfl; exact rfl; exact Try.underlying33; exact .inl Try.underlying9; kernel_rfl; exact rfl; exact Src.string _; exact (by unfold maxLen; omega); exact (by omega); intro ao1 cap1 wx hS; (try simp only [Act.put, List.setIfInBounds_toArray, List.set_cons_zero, List.set_cons_succ])) | ((with_reducible show WLd ..); (with_reducible apply wpA_load); exact rfl; (first | ((with_reducible apply St.cellI hS); (focus repeat constructor); exact rfl) | assumption); kernel_rfl) | ((with_reducible show WSt ..); (with_reducible apply wpA_store1I hS); exact rfl; (focus repeat constructor); exact rfl; exact rfl; exact rfl; exact rfl; kernel_rfl; intro wx hS; (try simp only [Act.put, List.setIfInBounds_toArray, List.set_cons_zero, List.set_cons_succ]); (try simp only [Act.eval, Array.getD_eq_getD_getElem?, List.getElem?_toArray, List.getElem?_cons_succ, List.getElem?_cons_zero, Option.getD_some, List.set_cons_succ, List.set_cons_zero, Value.cells, List.toList_toArray] at hS)) | ((with_reducible show WBx ..); (with_reducible apply wpA_box hS); exact rfl; exact rfl; intro _ wx hS; (try simp only [Act.put, List.setIfInBounds_toArray, List.set_cons_zero, List.set_cons_succ]); (try simp only [Act.eval, Array.getD_eq_getD_getElem?, List.getElem?_toArray, List.getElem?_cons_succ, List.getElem?_cons_zero, Option.getD_some, List.set_cons_succ, List.set_cons_zero, Value.cells, List.toList_toArray] at hS)))
  have ekv : kvs.set i (.string s, .pointer (some ⟨p, 0, none⟩)) = kvs := by
    obtain ⟨hl, e⟩ := List.getElem?_eq_some_iff.1 h1
    rw [← e]; exact List.set_getElem_self hl
  have hS2 : St w0 wx (.cells g [.map (some m), .int .i64 σ.clock] 51 :: .mp m .string kvs :: .cells p [.slice ao1 (f.b.length + t.size) cap1, .int .i64 f.sure, .slice ao2 f.came.length cap2] 56 ::
        .row 5 1 ao1 (f.b.length + t.size) cap1 (f.b.map u8v ++ Lib.strCells t) :: .row 3 1 ao2 f.came.length cap2 (f.came.map (Value.int .i64)) :: (Hr ++ R)) := by rw [← ekv]; exact hS
  clear hS ekv
  have HSet := Lib.hid hset; clear hset
  have hS := hS2
  clear hS2
  go_loopw [51] (fun c wr => ∃ k : Nat, k ≤ t.size ∧ c = .int .i64 k ∧ ∃ ao3 cap3, St w0 wr (.cells g [.map (some m), .int .i64 (σ.clock + k)] 51 :: .mp m .string kvs :: .cells p [.slice ao1 (f.b.length + t.size) cap1, .int .i64 f.sure, .slice ao3 (f.came.length + k) cap3] 56 ::
        .row 5 1 ao1 (f.b.length + t.size) cap1 (f.b.map u8v ++ Lib.strCells t) :: .row 3 1 ao3 (f.came.length + k) cap3 ((f.came ++ clocks σ.clock k).map (Value.int .i64)) :: (Hr ++ R)))
    (fun c _ => t.size - (intOf c).toNat)
  case atStart => exact ⟨0, Nat.zero_le _, rfl, ao2, cap2, by simpa [clocks] using hS⟩
  case round =>
    clear hS
    obtain ⟨k, hk, rfl, ao3, cap3, hS⟩ := hrel
    by_cases hlt : k < t.size
    · go_wp2_with (first | ((with_reducible show WGd ..); (with_reducible apply wpA_guard); exact rfl; skip) | ((with_reducible show WLd ..); (with_reducible apply wpA_load); exact rfl; (first | ((with_reducible apply St.cellI hS); (focus repeat constructor); exact rfl) | assumption); kernel_rfl) | ((with_reducible show WSt ..); (with_reducible apply wpA_store1I hS); exact rfl; (focus repeat constructor); exact rfl; exact rfl; exact rfl; exact rfl; kernel_rfl; intro wx hS; (try simp only [Act.put, List.setIfInBounds_toArray, List.set_cons_zero, List.set_cons_succ]); (try simp only [Act.eval, Array.getD_eq_getD_getElem?, List.getElem?_toArray, List.getElem?_cons_succ, List.getElem?_cons_zero, Option.getD_some, List.set_cons_succ, List.set_cons_zero, Value.cells, List.toList_toArray] at hS)) | ((with_reducible show WBx ..); (with_reducible apply wpA_box hS); exact rfl; exact rfl; intro _ wx hS; (try simp only [Act.put, List.setIfInBounds_toArray, List.set_cons_zero, List.set_cons_succ]); (try simp only [Act.eval, Array.getD_eq_getD_getElem?, List.getElem?_toArray, List.getElem?_cons_succ, List.getElem?_cons_zero, Option.getD_some, List.set_cons_succ, List.set_cons_zero, Value.cells, List.toList_toArray] at hS)))
      refine wp_region_R (R := fun l w => (l.getD 13 true = false → w.cell? ⟨p, 2, none⟩ = some (.slice ao3 (f.came.length + k) cap3)) ∧ (w.cell? ⟨g, 1, none⟩ = some (.int .i64 (σ.clock + k + 1)))) (by kernel_rfl) ?_
      replace hS := hS.drew
      refine wpAnyR_takeL (i := 0) (v := ?_) (F := (fun _ => True)) [] rfl (by kernel_rfl) (by kernel_rfl) (by kernel_rfl) (by kernel_rfl) (by kernel_rfl) (fun _ _ _ h => h) (fun l w => by simp only [getD_set_ne _ (show (0 : Nat) ≠ 13 by decide)]) (fun _ _ _ _ => trivial) rfl ?_ (by exact ⟨(fun _ => (by first | exact hS.cell 2 rfl _ rfl | exact hS.cell 3 rfl _ rfl)), (by first | exact hS.cell 0 rfl _ rfl | exact hS.cell 1 rfl _ rfl)⟩) ?_
      rotate_left
      · intro w hF_; go_simp; (first | done | (with_reducible rfl) | (refine (if_pos ?_).trans ?_; (focus omega); with_reducible rfl) | skip)
      simp only [Act.put, List.setIfInBounds_toArray, List.set_cons_zero, List.set_cons_succ]
      refine wpAnyR_takeL (i := 1) (v := ?_) (F := (fun _ => True)) [] rfl (by kernel_rfl) (by kernel_rfl) (by kernel_rfl) (by kernel_rfl) (by kernel_rfl) (fun _ _ _ h => h) (fun l w => by simp only [getD_set_ne _ (show (1 : Nat) ≠ 13 by decide)]) (fun _ _ _ _ => trivial) rfl ?_ (by exact ⟨(fun _ => (by first | exact hS.cell 2 rfl _ rfl | exact hS.cell 3 rfl _ rfl)), (by first | exact hS.cell 0 rfl _ rfl | exact hS.cell 1 rfl _ rfl)⟩) ?_
      rotate_left
      · intro w hF_; go_simp; (first | done | (with_reducible rfl) | (refine (if_pos ?_).trans ?_; (focus omega); with_reducible rfl) | skip)
      simp only [Act.put, List.setIfInBounds_toArray, List.set_cons_zero, List.set_cons_succ]
      refine wpAnyR_takeL (i := 2) (v := ?_) (F := (fun _ => True)) [] rfl (by kernel_rfl) (by kernel_rfl) (by kernel_rfl) (by kernel_rfl) (by kernel_rfl) (fun _ _ _ h => h) (fun l w => by simp only [getD_set_ne _ (show (2 : Nat) ≠ 13 by decide)]) (fun _ _ _ _ => trivial) rfl ?_ (by exact ⟨(fun _ => (by first | exact hS.cell 2 rfl _ rfl | exact hS.cell 3 rfl _ rfl)), (by first | exact hS.cell 0 rfl _ rfl | exact hS.cell 1 rfl _ rfl)⟩) ?_
      rotate_left
      · intro w hF_; go_simp; (first | done | (with_reducible rfl) | (refine (if_pos ?_).trans ?_; (focus omega); with_reducible rfl) | skip)
      simp only [Act.put, List.setIfInBounds_toArray, List.set_cons_zero, List.set_cons_succ]
      refine wpAnyR_takeL (i := 3) (v := ?_) (F := (fun _ => True)) [] rfl (by kernel_rfl) (by kernel_rfl) (by kernel_rfl) (by kernel_rfl) (by kernel_rfl) (fun _ _ _ h => h) (fun l w => by simp only [getD_set_ne _ (show (3 : Nat) ≠ 13 by decide)]) (fun _ _ _ _ => trivial) rfl ?_ (by exact ⟨(fun _ => (by first | exact hS.cell 2 rfl _ rfl | exact hS.cell 3 rfl _ rfl)), (by first | exact hS.cell 0 rfl _ rfl | exact hS.cell 1 rfl _ rfl)⟩) ?_
      rotate_left
      · intro w hF_; go_simp; (first | done | (with_reducible rfl) | (refine (if_pos ?_).trans ?_; (focus omega); with_reducible rfl) | skip)
      simp only [Act.put, List.setIfInBounds_toArray, List.set_cons_zero, List.set_cons_succ]
      refine wpAnyR_takeL (i := 4) (v := ?_) (F := (fun w => w.cell? ⟨p, 2, none⟩ = some (.slice ao3 (f.came.length + k) cap3))) [10, 13] rfl (by kernel_rfl) (by kernel_rfl) (by kernel_rfl) (by kernel_rfl) (by kernel_rfl) (fun _ _ _ h => h) (fun l w => by simp only [getD_set_ne _ (show (4 : Nat) ≠ 13 by decide)]) (fun _ _ hD_ hR_ => (hR_.1) (hD_ _ (by simp))) rfl ?_ (by exact ⟨(fun _ => (by first | exact hS.cell 2 rfl _ rfl | exact hS.cell 3 rfl _ rfl)), (by first | exact hS.cell 0 rfl _ rfl | exact hS.cell 1 rfl _ rfl)⟩) ?_
      rotate_left
      · intro w hF_; go_simp; (first | done | (with_reducible rfl) | (refine (if_pos ?_).trans ?_; (focus omega); with_reducible rfl) | skip)
      simp only [Act.put, List.setIfInBounds_toArray, List.set_cons_zero, List.set_cons_succ]
      refine wpAnyR_takeL (i := 5) (v := ?_) (F := (fun _ => True)) [] rfl (by kernel_rfl) (by kernel_rfl) (by kernel_rfl) (by kernel_rfl) (by kernel_rfl) (fun _ _ _ h => h) (fun l w => by simp only [getD_set_ne _ (show (5 : Nat) ≠ 13 by decide)]) (fun _ _ _ _ => trivial) rfl ?_ (by exact ⟨(fun _ => (by first | exact hS.cell 2 rfl _ rfl | exact hS.cell 3 rfl _ rfl)), (by first | exact hS.cell 0 rfl _ rfl | exact hS.cell 1 rfl _ rfl)⟩) ?_
      rotate_left
      · intro w hF_; go_simp; (first | done | (with_reducible rfl) | (refine (if_pos ?_).trans ?_; (focus omega); with_reducible rfl) | skip)
      simp only [Act.put, List.setIfInBounds_toArray, List.set_cons_zero, List.set_cons_succ]
      refine wpAnyR_takeL (i := 6) (v := ?_) (F := (fun _ => True)) [] rfl (by kernel_rfl) (by kernel_rfl) (by kernel_rfl) (by kernel_rfl) (by kernel_rfl) (fun _ _ _ h => h) (fun l w => by simp only [getD_set_ne _ (show (6 : Nat) ≠ 13 by decide)]) (fun _ _ _ _ => trivial) rfl ?_ (by exact ⟨(fun _ => (by first | exact hS.cell 2 rfl _ rfl | exact hS.cell 3 rfl _ rfl)), (by first | exact hS.cell 0 rfl _ rfl | exact hS.cell 1 rfl _ rfl)⟩) ?_
      rotate_left
      · intro w hF_; go_simp; (first | done | (with_reducible rfl) | (refine (if_pos ?_).trans ?_; (focus omega); with_reducible rfl) | skip)
      simp only [Act.put, List.setIfInBounds_toArray, List.set_cons_zero, List.set_cons_succ]
      refine wpAnyR_takeL (i := 7) (v := ?_) (F := (fun _ => True)) [] rfl (by kernel_rfl) (by kernel_rfl) (by kernel_rfl) (by kernel_rfl) (by kernel_rfl) (fun _ _ _ h => h) (fun l w => by simp only [getD_set_ne _ (show (7 : Nat) ≠ 13 by decide)]) (fun _ _ _ _ => trivial) rfl ?_ (by exact ⟨(fun _ => (by first | exact hS.cell 2 rfl _ rfl | exact hS.cell 3 rfl _ rfl)), (by first | exact hS.cell 0 rfl _ rfl | exact hS.cell 1 rfl _ rfl)⟩) ?_
      rotate_left
      · intro w hF_; go_simp; (first | done | (with_reducible rfl) | (refine (if_pos ?_).trans ?_; (focus omega); with_reducible rfl) | skip)
      simp only [Act.put, List.setIfInBounds_toArray, List.set_cons_zero, List.set_cons_succ]
      refine wpAnyR_takeL (i := 8) (v := ?_) (F := (fun w => w.cell? ⟨g, 1, none⟩ = some (.int .i64 (σ.clock + k + 1)))) [] rfl (by kernel_rfl) (by kernel_rfl) (by kernel_rfl) (by kernel_rfl) (by kernel_rfl) (fun _ _ _ h => h) (fun l w => by simp only [getD_set_ne _ (show (8 : Nat) ≠ 13 by decide)]) (fun _ _ hD_ hR_ => hR_.2) rfl ?_ (by exact ⟨(fun _ => (by first | exact hS.cell 2 rfl _ rfl | exact hS.cell 3 rfl _ rfl)), (by first | exact hS.cell 0 rfl _ rfl | exact hS.cell 1 rfl _ rfl)⟩) ?_
      rotate_left
      · intro w hF_; go_simp; (first | done | (with_reducible rfl) | (refine (if_pos ?_).trans ?_; (focus omega); with_reducible rfl) | skip)
      simp only [Act.put, List.setIfInBounds_toArray, List.set_cons_zero, List.set_cons_succ]
      refine wpAnyR_oneL (i := 9) (by kernel_rfl) rfl rfl (fun K_ hK_ => ?_)
      ((with_reducible apply opA_one hS (z := .int .i64 0) (bytes := 8)); exact Try.underlying54; kernel_rfl; exact rfl; exact rfl; exact rfl; intro _ wx hS; (try simp only [Act.eval, Array.getD_eq_getD_getElem?, List.getElem?_toArray, List.getElem?_cons_succ, List.getElem?_cons_zero, Option.getD_some, List.set_cons_succ, List.set_cons_zero, Value.cells, List.toList_toArray] at hS))
      refine hK_ _ _ (by exact ⟨(fun _ => (by first | exact hS.cell 2 rfl _ rfl | exact hS.cell 3 rfl _ rfl)), (by first | exact hS.cell 0 rfl _ rfl | exact hS.cell 1 rfl _ rfl)⟩) ?_; clear hK_ K_
      simp only [Act.put, List.setIfInBounds_toArray, List.set_cons_zero, List.set_cons_succ]
      refine wpAnyR_oneL (i := 10) (by kernel_rfl) rfl rfl (fun K_ hK_ => ?_)
      ((with_reducible apply opA_append hS 5 (z := .int .i64 0) (size := 1) (bytes := 8)); exact rfl; exact rfl; exact rfl; exact Try.underlying54; exact .inr Try.underlying54; kernel_rfl; exact rfl; exact (Src.fresh hS 0 rfl rfl); exact (by unfold maxLen; omega); exact (by omega); intro ao5 cap5 wx hS)
      refine hK_ _ _ (by exact ⟨(fun _ => (by first | exact hS.cell 2 rfl _ rfl | exact hS.cell 3 rfl _ rfl)), (by first | exact hS.cell 0 rfl _ rfl | exact hS.cell 1 rfl _ rfl)⟩) ?_; clear hK_ K_
      simp only [Act.put, List.setIfInBounds_toArray, List.set_cons_zero, List.set_cons_succ]
      refine wpAnyR_takeL (i := 11) (v := ?_) (F := (fun _ => True)) [] rfl (by kernel_rfl) (by kernel_rfl) (by kernel_rfl) (by kernel_rfl) (by kernel_rfl) (fun _ _ _ h => h) (fun l w => by simp only [getD_set_ne _ (show (11 : Nat) ≠ 13 by decide)]) (fun _ _ _ _ => trivial) rfl ?_ (by exact ⟨(fun _ => (by first | exact hS.cell 2 rfl _ rfl | exact hS.cell 3 rfl _ rfl)), (by first | exact hS.cell 0 rfl _ rfl | exact hS.cell 1 rfl _ rfl)⟩) ?_
      rotate_left
      · intro w hF_; go_simp; (first | done | (with_reducible rfl) | (refine (if_pos ?_).trans ?_; (focus omega); with_reducible rfl) | skip)
      simp only [Act.put, List.setIfInBounds_toArray, List.set_cons_zero, List.set_cons_succ]
      refine wpAnyR_takeL (i := 12) (v := ?_) (F := (fun _ => True)) [] rfl (by kernel_rfl) (by kernel_rfl) (by kernel_rfl) (by kernel_rfl) (by kernel_rfl) (fun _ _ _ h => h) (fun l w => by simp only [getD_set_ne _ (show (12 : Nat) ≠ 13 by decide)]) (fun _ _ _ _ => trivial) rfl ?_ (by exact ⟨(fun _ => (by first | exact hS.cell 2 rfl _ rfl | exact hS.cell 3 rfl _ rfl)), (by first | exact hS.cell 0 rfl _ rfl | exact hS.cell 1 rfl _ rfl)⟩) ?_
      rotate_left
      · intro w hF_; go_simp; (first | done | (with_reducible rfl) | (refine (if_pos ?_).trans ?_; (focus omega); with_reducible rfl) | skip)
      simp only [Act.put, List.setIfInBounds_toArray, List.set_cons_zero, List.set_cons_succ]
      refine wpAnyR_oneL (i := 13) (by kernel_rfl) rfl rfl (fun K_ hK_ => ?_)
      ((with_reducible apply opA_store1I hS); exact rfl; (focus repeat constructor); exact rfl; exact rfl; exact rfl; exact rfl; kernel_rfl; intro wx hS; (try simp only [Act.eval, Array.getD_eq_getD_getElem?, List.getElem?_toArray, List.getElem?_cons_succ, List.getElem?_cons_zero, Option.getD_some, List.set_cons_succ, List.set_cons_zero, Value.cells, List.toList_toArray] at hS))
      refine hK_ _ _ (by exact ⟨(fun h => by cases h), (by first | exact hS.cell 0 rfl _ rfl | exact hS.cell 1 rfl _ rfl)⟩) ?_; clear hK_ K_
      simp only [Act.put, List.setIfInBounds_toArray, List.set_cons_zero, List.set_cons_succ]
      refine wpAnyR_done (by kernel_rfl) ?_ _
      go_wp2_with (first | ((with_reducible show WGd ..); (with_reducible apply wpA_guard); exact rfl; skip) | ((with_reducible show WLd ..); (with_reducible apply wpA_load); exact rfl; (first | ((with_reducible apply St.cellI hS); (focus repeat constructor); exact rfl) | assumption); kernel_rfl) | ((with_reducible show WSt ..); (with_reducible apply wpA_store1I hS); exact rfl; (focus repeat constructor); exact rfl; exact rfl; exact rfl; exact rfl; kernel_rfl; intro wx hS; (try simp only [Act.put, List.setIfInBounds_toArray, List.set_cons_zero, List.set_cons_succ]); (try simp only [Act.eval, Array.getD_eq_getD_getElem?, List.getElem?_toArray, List.getElem?_cons_succ, List.getElem?_cons_zero, Option.getD_some, List.set_cons_succ, List.set_cons_zero, Value.cells, List.toList_toArray] at hS)) | ((with_reducible show WBx ..); (with_reducible apply wpA_box hS); exact rfl; exact rfl; intro _ wx hS; (try simp only [Act.put, List.setIfInBounds_toArray, List.set_cons_zero, List.set_cons_succ]); (try simp only [Act.eval, Array.getD_eq_getD_getElem?, List.getElem?_toArray, List.getElem?_cons_succ, List.getElem?_cons_zero, Option.getD_some, List.set_cons_succ, List.set_cons_zero, Value.cells, List.toList_toArray] at hS)))
      go_roundw
      case rel =>
        refine ⟨k + 1, by omega, by go_num, ao5, cap5, ?_⟩
        have e1 : σ.clock + ((k + 1 : Nat) : Int) = σ.clock + k + 1 := by omega
        have e2 : (f.came ++ clocks σ.clock (k + 1)).map (Value.int .i64) = (f.came ++ clocks σ.clock k).map (Value.int .i64) ++ [.int .i64 (σ.clock + k + 1)] := by rw [clocks_succ, ← List.append_assoc, List.map_append]; rfl
        rw [e1, e2]
        exact ((hS).sel [1, 2, 3, 4, 5] 6 (by decide) (by decide) (by simp))
      case measure => simp [intOf]; omega
    · go_wp2_with (first | ((with_reducible show WGd ..); (with_reducible apply wpA_guard); exact rfl; skip) | ((with_reducible show WLd ..); (with_reducible apply wpA_load); exact rfl; (first | ((with_reducible apply St.cellI hS); (focus repeat constructor); exact rfl) | assumption); kernel_rfl) | ((with_reducible show WSt ..); (with_reducible apply wpA_store1I hS); exact rfl; (focus repeat constructor); exact rfl; exact rfl; exact rfl; exact rfl; kernel_rfl; intro wx hS; (try simp only [Act.put, List.setIfInBounds_toArray, List.set_cons_zero, List.set_cons_succ]); (try simp only [Act.eval, Array.getD_eq_getD_getElem?, List.getElem?_toArray, List.getElem?_cons_succ, List.getElem?_cons_zero, Option.getD_some, List.set_cons_succ, List.set_cons_zero, Value.cells, List.toList_toArray] at hS)) | ((with_reducible show WBx ..); (with_reducible apply wpA_box hS); exact rfl; exact rfl; intro _ wx hS; (try simp only [Act.put, List.setIfInBounds_toArray, List.set_cons_zero, List.set_cons_succ]); (try simp only [Act.eval, Array.getD_eq_getD_getElem?, List.getElem?_toArray, List.getElem?_cons_succ, List.getElem?_cons_zero, Option.getD_some, List.set_cons_succ, List.set_cons_zero, Value.cells, List.toList_toArray] at hS)))
      go_ret
      obtain rfl : k = t.size := by omega
      refine ⟨rfl, HSet.out _ _ _ [_, _, _] ⟨ao1, cap1, ao3, cap3, ?_⟩ hS⟩
      have e1 : (f.b ++ t.data.toList).length = f.b.length + t.size := by simp
      have e2 : (f.b ++ t.data.toList).map u8v = f.b.map u8v ++ Lib.strCells t := by rw [List.map_append]; rfl
      simp only [e1, e2, List.length_append, clocks_length]
set_option maxHeartbeats 1000000 in
set_option maxRecDepth 100000 in
theorem append_new (w0 w : World) (R : List Hp) (g : Nat) (σ : DiskS) (s t : ByteArray) (hD : DiskSt w0 w g σ R) (hok : σ.ok t.size) (hnm : nameB s = true) (hn : ∀ x ∈ σ.l, x.1 ≠ s) (hfit : t.size ≤ 4194304) :
    Calls Try.prog 10 #[.pointer (some ⟨g, 0, none⟩), .string s, .string t] w fun e w' => e = .returned (.int .i64 0) ∧
      DiskSt w0 w' g ⟨σ.l ++ [(s, ⟨t.data.toList, 0, clocks σ.clock t.size⟩)], σ.clock + t.size⟩ R := by
  obtain ⟨m, kvs, H, hF, hS⟩ := hD
  have hnk := hF.absent hn
  have hcl0 := hok.clock0
  have hcl1 := hok.clock1
  have hc := named_c s w
  rw [hnm] at hc
  have hb : decide ((4194304 : Int) < (t.size : Int)) = false := by simp; omega
  go_enter Try.func10, Try.ntmps10
  go_wp2_with (first | ((with_reducible show WGd ..); (with_reducible apply wpA_guard); exact rfl; skip) | (go_at_call 20; refine (hc).mono ?_; rintro _ _ ⟨rfl, rfl⟩) | ((with_reducible show WLk ..); (with_reducible apply wpA_lookup hS 1 (z := .pointer none) (r := none)); exact rfl; exact rfl; exact rfl; exact Try.underlying49; exact Try.underlying9; exact trivial; kernel_rfl; exact hnk; dsimp only [Option.getD, Option.isSome, if_true, Bool.false_eq_true, if_false]) | ((first | ((with_reducible show WBx ..); (with_reducible apply wpA_box hS); exact rfl; exact rfl; intro p wx hS) | ((with_reducible show WBx ..); (with_reducible apply wpA_box hS); exact rfl; exact rfl; intro _ wx hS)); (try simp only [Act.put, List.setIfInBounds_toArray, List.set_cons_zero, List.set_cons_succ]); (try simp only [Act.eval, Array.getD_eq_getD_getElem?, List.getElem?_toArray, List.getElem?_cons_succ, List.getElem?_cons_zero, Option.getD_some, List.set_cons_succ, List.set_cons_zero, Value.cells, List.toList_toArray] at hS)) | ((with_reducible show WUp ..); (with_reducible apply wpA_update_new hS 2); exact rfl; exact rfl; exact rfl; exact rfl; exact Try.underlying49; exact Try.underlying9; exact trivial; exact hnk; intro wx hS; (try simp only [Act.put, List.setIfInBounds_toArray, List.set_cons_zero, List.set_cons_succ]); (try simp only [Act.eval, Array.getD_eq_getD_getElem?, List.getElem?_toArray, List.getElem?_cons_succ, List.getElem?_cons_zero, Option.getD_some, List.set_cons_succ, List.set_cons_zero, Value.cells, List.toList_toArray] at hS)) | (have hS_ := hS.nilRow 5 1; ((with_reducible show WAp ..); (with_reducible apply wpA_append hS_ 0 (z := .int .u8 0) (size := 1) (bytes := 1)); exact rfl; exact rfl; exact rfl; exact Try.underlying33; exact .inl Try.underlying9; kernel_rfl; exact rfl; exact Src.string _; exact (by unfold maxLen; omega); exact (by omega); intro ao1 cap1 wx hS; (try simp only [Act.put, List.setIfInBounds_toArray, List.set_cons_zero, List.set_cons_succ])); simp only [Nat.zero_add, List.nil_append] at hS ⊢) | ((with_reducible show WLd ..); (with_reducible apply wpA_load); exact rfl; (first | ((with_reducible apply St.cellI hS); (focus repeat constructor); exact rfl) | assumption); kernel_rfl) | ((with_reducible show WSt ..); (with_reducible apply wpA_store1I hS); exact rfl; (focus repeat constructor); exact rfl; exact rfl; exact rfl; exact rfl; kernel_rfl; intro wx hS; (try simp only [Act.put, List.setIfInBounds_toArray, List.set_cons_zero, List.set_cons_succ]); (try simp only [Act.eval, Array.getD_eq_getD_getElem?, List.getElem?_toArray, List.getElem?_cons_succ, List.getElem?_cons_zero, Option.getD_some, List.set_cons_succ, List.set_cons_zero, Value.cells, List.toList_toArray] at hS)))
  have hS2 : St w0 wx (.cells g [.map (some m), .int .i64 σ.clock] 51 :: .mp m .string (kvs ++ [(.string s, .pointer (some ⟨p, 0, none⟩))]) :: .cells p [.slice ao1 (t.size) cap1, .int .i64 ((0 : Nat) : Int), .slice none 0 0] 56 ::
        .row 5 1 ao1 (t.size) cap1 (Lib.strCells t) :: .row 3 1 none 0 0 [] :: (H ++ R)) := ((hS.nilRow 3 1).sel [3, 4, 2, 1, 0] 5 (by decide) (by decide) (by simp))
  clear hS
  have hS := hS2
  clear hS2
  go_loopw [51] (fun c wr => ∃ k : Nat, k ≤ t.size ∧ c = .int .i64 k ∧ ∃ ao3 cap3, St w0 wr (.cells g [.map (some m), .int .i64 (σ.clock + k)] 51 :: .mp m .string (kvs ++ [(.string s, .pointer (some ⟨p, 0, none⟩))]) :: .cells p [.slice ao1 (t.size) cap1, .int .i64 ((0 : Nat) : Int), .slice ao3 k cap3] 56 ::
        .row 5 1 ao1 (t.size) cap1 (Lib.strCells t) :: .row 3 1 ao3 k cap3 ((clocks σ.clock k).map (Value.int .i64)) :: (H ++ R)))
    (fun c _ => t.size - (intOf c).toNat)
  case atStart => exact ⟨0, Nat.zero_le _, rfl, none, 0, by simpa [clocks] using hS⟩
  case round =>
    clear hS
    obtain ⟨k, hk, rfl, ao3, cap3, hS⟩ := hrel
    by_cases hlt : k < t.size
    · go_wp2_with (first | ((with_reducible show WGd ..); (with_reducible apply wpA_guard); exact rfl; skip) | ((with_reducible show WLd ..); (with_reducible apply wpA_load); exact rfl; (first | ((with_reducible apply St.cellI hS); (focus repeat constructor); exact rfl) | assumption); kernel_rfl) | ((with_reducible show WSt ..); (with_reducible apply wpA_store1I hS); exact rfl; (focus repeat constructor); exact rfl; exact rfl; exact rfl; exact rfl; kernel_rfl; intro wx hS; (try simp only [Act.put, List.setIfInBounds_toArray, List.set_cons_zero, List.set_cons_succ]); (try simp only [Act.eval, Array.getD_eq_getD_getElem?, List.getElem?_toArray, List.getElem?_cons_succ, List.getElem?_cons_zero, Option.getD_some, List.set_cons_succ, List.set_cons_zero, Value.cells, List.toList_toArray] at hS)) | ((with_reducible show WBx ..); (with_reducible apply wpA_box hS); exact rfl; exact rfl; intro _ wx hS; (try simp only [Act.put, List.setIfInBounds_toArray, List.set_cons_zero, List.set_cons_succ]); (try simp only [Act.eval, Array.getD_eq_getD_getElem?, List.getElem?_toArray, List.getElem?_cons_succ, List.getElem?_cons_zero, Option.getD_some, List.set_cons_succ, List.set_cons_zero, Value.cells, List.toList_toArray] at hS)))
      refine wp_region_R (R := fun l w => (l.getD 13 true = false → w.cell? ⟨p, 2, none⟩ = some (.slice ao3 k cap3)) ∧ (w.cell? ⟨g, 1, none⟩ = some (.int .i64 (σ.clock + k + 1)))) (by kernel_rfl) ?_
      replace hS := hS.drew
      refine wpAnyR_takeL (i := 0) (v := ?_) (F := (fun _ => True)) [] rfl (by kernel_rfl) (by kernel_rfl) (by kernel_rfl) (by kernel_rfl) (by kernel_rfl) (fun _ _ _ h => h) (fun l w => by simp only [getD_set_ne _ (show (0 : Nat) ≠ 13 by decide)]) (fun _ _ _ _ => trivial) rfl ?_ (by exact ⟨(fun _ => (by first | exact hS.cell 2 rfl _ rfl | exact hS.cell 3 rfl _ rfl)), (by first | exact hS.cell 0 rfl _ rfl | exact hS.cell 1 rfl _ rfl)⟩) ?_
      rotate_left
      · intro w hF_; go_simp; (first | done | (with_reducible rfl) | (refine (if_pos ?_).trans ?_; (focus omega); with_reducible rfl) | skip)
      simp only [Act.put, List.setIfInBounds_toArray, List.set_cons_zero, List.set_cons_succ]
      refine wpAnyR_takeL (i := 1) (v := ?_) (F := (fun _ => True)) [] rfl (by kernel_rfl) (by kernel_rfl) (by kernel_rfl) (by kernel_rfl) (by kernel_rfl) (fun _ _ _ h => h) (fun l w => by simp only [getD_set_ne _ (show (1 : Nat) ≠ 13 by decide)]) (fun _ _ _ _ => trivial) rfl ?_ (by exact ⟨(fun _ => (by first | exact hS.cell 2 rfl _ rfl | exact hS.cell 3 rfl _ rfl)), (by first | exact hS.cell 0 rfl _ rfl | exact hS.cell 1 rfl _ rfl)⟩) ?_
      rotate_left
      · intro w hF_; go_simp; (first | done | (with_reducible rfl) | (refine (if_pos ?_).trans ?_; (focus omega); with_reducible rfl) | skip)
      simp only [Act.put, List.setIfInBounds_toArray, List.set_cons_zero, List.set_cons_succ]
      refine wpAnyR_takeL (i := 2) (v := ?_) (F := (fun _ => True)) [] rfl (by kernel_rfl) (by kernel_rfl) (by kernel_rfl) (by kernel_rfl) (by kernel_rfl) (fun _ _ _ h => h) (fun l w => by simp only [getD_set_ne _ (show (2 : Nat) ≠ 13 by decide)]) (fun _ _ _ _ => trivial) rfl ?_ (by exact ⟨(fun _ => (by first | exact hS.cell 2 rfl _ rfl | exact hS.cell 3 rfl _ rfl)), (by first | exact hS.cell 0 rfl _ rfl | exact hS.cell 1 rfl _ rfl)⟩) ?_
      rotate_left
      · intro w hF_; go_simp; (first | done | (with_reducible rfl) | (refine (if_pos ?_).trans ?_; (focus omega); with_reducible rfl) | skip)
      simp only [Act.put, List.setIfInBounds_toArray, List.set_cons_zero, List.set_cons_succ]
      refine wpAnyR_takeL (i := 3) (v := ?_) (F := (fun _ => True)) [] rfl (by kernel_rfl) (by kernel_rfl) (by kernel_rfl) (by kernel_rfl) (by kernel_rfl) (fun _ _ _ h => h) (fun l w => by simp only [getD_set_ne _ (show (3 : Nat) ≠ 13 by decide)]) (fun _ _ _ _ => trivial) rfl ?_ (by exact ⟨(fun _ => (by first | exact hS.cell 2 rfl _ rfl | exact hS.cell 3 rfl _ rfl)), (by first | exact hS.cell 0 rfl _ rfl | exact hS.cell 1 rfl _ rfl)⟩) ?_
      rotate_left
      · intro w hF_; go_simp; (first | done | (with_reducible rfl) | (refine (if_pos ?_).trans ?_; (focus omega); with_reducible rfl) | skip)
      simp only [Act.put, List.setIfInBounds_toArray, List.set_cons_zero, List.set_cons_succ]
      refine wpAnyR_takeL (i := 4) (v := ?_) (F := (fun w => w.cell? ⟨p, 2, none⟩ = some (.slice ao3 k cap3))) [10, 13] rfl (by kernel_rfl) (by kernel_rfl) (by kernel_rfl) (by kernel_rfl) (by kernel_rfl) (fun _ _ _ h => h) (fun l w => by simp only [getD_set_ne _ (show (4 : Nat) ≠ 13 by decide)]) (fun _ _ hD_ hR_ => (hR_.1) (hD_ _ (by simp))) rfl ?_ (by exact ⟨(fun _ => (by first | exact hS.cell 2 rfl _ rfl | exact hS.cell 3 rfl _ rfl)), (by first | exact hS.cell 0 rfl _ rfl | exact hS.cell 1 rfl _ rfl)⟩) ?_
      rotate_left
      · intro w hF_; go_simp; (first | done | (with_reducible rfl) | (refine (if_pos ?_).trans ?_; (focus omega); with_reducible rfl) | skip)
      simp only [Act.put, List.setIfInBounds_toArray, List.set_cons_zero, List.set_cons_succ]
      refine wpAnyR_takeL (i := 5) (v := ?_) (F := (fun _ => True)) [] rfl (by kernel_rfl) (by kernel_rfl) (by kernel_rfl) (by kernel_rfl) (by kernel_rfl) (fun _ _ _ h => h) (fun l w => by simp only [getD_set_ne _ (show (5 : Nat) ≠ 13 by decide)]) (fun _ _ _ _ => trivial) rfl ?_ (by exact ⟨(fun _ => (by first | exact hS.cell 2 rfl _ rfl | exact hS.cell 3 rfl _ rfl)), (by first | exact hS.cell 0 rfl _ rfl | exact hS.cell 1 rfl _ rfl)⟩) ?_
      rotate_left
      · intro w hF_; go_simp; (first | done | (with_reducible rfl) | (refine (if_pos ?_).trans ?_; (focus omega); with_reducible rfl) | skip)
      simp only [Act.put, List.setIfInBounds_toArray, List.set_cons_zero, List.set_cons_succ]
      refine wpAnyR_takeL (i := 6) (v := ?_) (F := (fun _ => True)) [] rfl (by kernel_rfl) (by kernel_rfl) (by kernel_rfl) (by kernel_rfl) (by kernel_rfl) (fun _ _ _ h => h) (fun l w => by simp only [getD_set_ne _ (show (6 : Nat) ≠ 13 by decide)]) (fun _ _ _ _ => trivial) rfl ?_ (by exact ⟨(fun _ => (by first | exact hS.cell 2 rfl _ rfl | exact hS.cell 3 rfl _ rfl)), (by first | exact hS.cell 0 rfl _ rfl | exact hS.cell 1 rfl _ rfl)⟩) ?_
      rotate_left
      · intro w hF_; go_simp; (first | done | (with_reducible rfl) | (refine (if_pos ?_).trans ?_; (focus omega); with_reducible rfl) | skip)
      simp only [Act.put, List.setIfInBounds_toArray, List.set_cons_zero, List.set_cons_succ]
      refine wpAnyR_takeL (i := 7) (v := ?_) (F := (fun _ => True)) [] rfl (by kernel_rfl) (by kernel_rfl) (by kernel_rfl) (by kernel_rfl) (by kernel_rfl) (fun _ _ _ h => h) (fun l w => by simp only [getD_set_ne _ (show (7 : Nat) ≠ 13 by decide)]) (fun _ _ _ _ => trivial) rfl ?_ (by exact ⟨(fun _ => (by first | exact hS.cell 2 rfl _ rfl | exact hS.cell 3 rfl _ rfl)), (by first | exact hS.cell 0 rfl _ rfl | exact hS.cell 1 rfl _ rfl)⟩) ?_
      rotate_left
      · intro w hF_; go_simp; (first | done | (with_reducible rfl) | (refine (if_pos ?_).trans ?_; (focus omega); with_reducible rfl) | skip)
      simp only [Act.put, List.setIfInBounds_toArray, List.set_cons_zero, List.set_cons_succ]
      refine wpAnyR_takeL (i := 8) (v := ?_) (F := (fun w => w.cell? ⟨g, 1, none⟩ = some (.int .i64 (σ.clock + k + 1)))) [] rfl (by kernel_rfl) (by kernel_rfl) (by kernel_rfl) (by kernel_rfl) (by kernel_rfl) (fun _ _ _ h => h) (fun l w => by simp only [getD_set_ne _ (show (8 : Nat) ≠ 13 by decide)]) (fun _ _ hD_ hR_ => hR_.2) rfl ?_ (by exact ⟨(fun _ => (by first | exact hS.cell 2 rfl _ rfl | exact hS.cell 3 rfl _ rfl)), (by first | exact hS.cell 0 rfl _ rfl | exact hS.cell 1 rfl _ rfl)⟩) ?_
      rotate_left
      · intro w hF_; go_simp; (first | done | (with_reducible rfl) | (refine (if_pos ?_).trans ?_; (focus omega); with_reducible rfl) | skip)
      simp only [Act.put, List.setIfInBounds_toArray, List.set_cons_zero, List.set_cons_succ]
      refine wpAnyR_oneL (i := 9) (by kernel_rfl) rfl rfl (fun K_ hK_ => ?_)
      ((with_reducible apply opA_one hS (z := .int .i64 0) (bytes := 8)); exact Try.underlying54; kernel_rfl; exact rfl; exact rfl; exact rfl; intro _ wx hS; (try simp only [Act.eval, Array.getD_eq_getD_getElem?, List.getElem?_toArray, List.getElem?_cons_succ, List.getElem?_cons_zero, Option.getD_some, List.set_cons_succ, List.set_cons_zero, Value.cells, List.toList_toArray] at hS))
      refine hK_ _ _ (by exact ⟨(fun _ => (by first | exact hS.cell 2 rfl _ rfl | exact hS.cell 3 rfl _ rfl)), (by first | exact hS.cell 0 rfl _ rfl | exact hS.cell 1 rfl _ rfl)⟩) ?_; clear hK_ K_
      simp only [Act.put, List.setIfInBounds_toArray, List.set_cons_zero, List.set_cons_succ]
      refine wpAnyR_oneL (i := 10) (by kernel_rfl) rfl rfl (fun K_ hK_ => ?_)
      ((with_reducible apply opA_append hS 5 (z := .int .i64 0) (size := 1) (bytes := 8)); exact rfl; exact rfl; exact rfl; exact Try.underlying54; exact .inr Try.underlying54; kernel_rfl; exact rfl; exact (Src.fresh hS 0 rfl rfl); exact (by unfold maxLen; omega); exact (by omega); intro ao5 cap5 wx hS)
      refine hK_ _ _ (by exact ⟨(fun _ => (by first | exact hS.cell 2 rfl _ rfl | exact hS.cell 3 rfl _ rfl)), (by first | exact hS.cell 0 rfl _ rfl | exact hS.cell 1 rfl _ rfl)⟩) ?_; clear hK_ K_
      simp only [Act.put, List.setIfInBounds_toArray, List.set_cons_zero, List.set_cons_succ]
      refine wpAnyR_takeL (i := 11) (v := ?_) (F := (fun _ => True)) [] rfl (by kernel_rfl) (by kernel_rfl) (by kernel_rfl) (by kernel_rfl) (by kernel_rfl) (fun _ _ _ h => h) (fun l w => by simp only [getD_set_ne _ (show (11 : Nat) ≠ 13 by decide)]) (fun _ _ _ _ => trivial) rfl ?_ (by exact ⟨(fun _ => (by first | exact hS.cell 2 rfl _ rfl | exact hS.cell 3 rfl _ rfl)), (by first | exact hS.cell 0 rfl _ rfl | exact hS.cell 1 rfl _ rfl)⟩) ?_
      rotate_left
      · intro w hF_; go_simp; (first | done | (with_reducible rfl) | (refine (if_pos ?_).trans ?_; (focus omega); with_reducible rfl) | skip)
      simp only [Act.put, List.setIfInBounds_toArray, List.set_cons_zero, List.set_cons_succ]
      refine wpAnyR_takeL (i := 12) (v := ?_) (F := (fun _ => True)) [] rfl (by kernel_rfl) (by kernel_rfl) (by kernel_rfl) (by kernel_rfl) (by kernel_rfl) (fun _ _ _ h => h) (fun l w => by simp only [getD_set_ne _ (show (12 : Nat) ≠ 13 by decide)]) (fun _ _ _ _ => trivial) rfl ?_ (by exact ⟨(fun _ => (by first | exact hS.cell 2 rfl _ rfl | exact hS.cell 3 rfl _ rfl)), (by first | exact hS.cell 0 rfl _ rfl | exact hS.cell 1 rfl _ rfl)⟩) ?_
      rotate_left
      · intro w hF_; go_simp; (first | done | (with_reducible rfl) | (refine (if_pos ?_).trans ?_; (focus omega); with_reducible rfl) | skip)
      simp only [Act.put, List.setIfInBounds_toArray, List.set_cons_zero, List.set_cons_succ]
      refine wpAnyR_oneL (i := 13) (by kernel_rfl) rfl rfl (fun K_ hK_ => ?_)
      ((with_reducible apply opA_store1I hS); exact rfl; (focus repeat constructor); exact rfl; exact rfl; exact rfl; exact rfl; kernel_rfl; intro wx hS; (try simp only [Act.eval, Array.getD_eq_getD_getElem?, List.getElem?_toArray, List.getElem?_cons_succ, List.getElem?_cons_zero, Option.getD_some, List.set_cons_succ, List.set_cons_zero, Value.cells, List.toList_toArray] at hS))
      refine hK_ _ _ (by exact ⟨(fun h => by cases h), (by first | exact hS.cell 0 rfl _ rfl | exact hS.cell 1 rfl _ rfl)⟩) ?_; clear hK_ K_
      simp only [Act.put, List.setIfInBounds_toArray, List.set_cons_zero, List.set_cons_succ]
      refine wpAnyR_done (by kernel_rfl) ?_ _
      go_wp2_with (first | ((with_reducible show WGd ..); (with_reducible apply wpA_guard); exact rfl; skip) | ((with_reducible show WLd ..); (with_reducible apply wpA_load); exact rfl; (first | ((with_reducible apply St.cellI hS); (focus repeat constructor); exact rfl) | assumption); kernel_rfl) | ((with_reducible show WSt ..); (with_reducible apply wpA_store1I hS); exact rfl; (focus repeat constructor); exact rfl; exact rfl; exact rfl; exact rfl; kernel_rfl; intro wx hS; (try simp only [Act.put, List.setIfInBounds_toArray, List.set_cons_zero, List.set_cons_succ]); (try simp only [Act.eval, Array.getD_eq_getD_getElem?, List.getElem?_toArray, List.getElem?_cons_succ, List.getElem?_cons_zero, Option.getD_some, List.set_cons_succ, List.set_cons_zero, Value.cells, List.toList_toArray] at hS)) | ((with_reducible show WBx ..); (with_reducible apply wpA_box hS); exact rfl; exact rfl; intro _ wx hS; (try simp only [Act.put, List.setIfInBounds_toArray, List.set_cons_zero, List.set_cons_succ]); (try simp only [Act.eval, Array.getD_eq_getD_getElem?, List.getElem?_toArray, List.getElem?_cons_succ, List.getElem?_cons_zero, Option.getD_some, List.set_cons_succ, List.set_cons_zero, Value.cells, List.toList_toArray] at hS)))
      go_roundw
      case rel =>
        refine ⟨k + 1, by omega, by go_num, ao5, cap5, ?_⟩
        have e1 : σ.clock + ((k + 1 : Nat) : Int) = σ.clock + k + 1 := by omega
        have e2 : (clocks σ.clock (k + 1)).map (Value.int .i64) = (clocks σ.clock k).map (Value.int .i64) ++ [.int .i64 (σ.clock + k + 1)] := by rw [clocks_succ, List.map_append]; rfl
        rw [e1, e2]
        exact ((hS).sel [1, 2, 3, 4, 5] 6 (by decide) (by decide) (by simp))
      case measure => simp [intOf]; omega
    · go_wp2_with (first | ((with_reducible show WGd ..); (with_reducible apply wpA_guard); exact rfl; skip) | ((with_reducible show WLd ..); (with_reducible apply wpA_load); exact rfl; (first | ((with_reducible apply St.cellI hS); (focus repeat constructor); exact rfl) | assumption); kernel_rfl) | ((with_reducible show WSt ..); (with_reducible apply wpA_store1I hS); exact rfl; (focus repeat constructor); exact rfl; exact rfl; exact rfl; exact rfl; kernel_rfl; intro wx hS; (try simp only [Act.put, List.setIfInBounds_toArray, List.set_cons_zero, List.set_cons_succ]); (try simp only [Act.eval, Array.getD_eq_getD_getElem?, List.getElem?_toArray, List.getElem?_cons_succ, List.getElem?_cons_zero, Option.getD_some, List.set_cons_succ, List.set_cons_zero, Value.cells, List.toList_toArray] at hS)) | ((with_reducible show WBx ..); (with_reducible apply wpA_box hS); exact rfl; exact rfl; intro _ wx hS; (try simp only [Act.put, List.setIfInBounds_toArray, List.set_cons_zero, List.set_cons_succ]); (try simp only [Act.eval, Array.getD_eq_getD_getElem?, List.getElem?_toArray, List.getElem?_cons_succ, List.getElem?_cons_zero, Option.getD_some, List.set_cons_succ, List.set_cons_zero, Value.cells, List.toList_toArray] at hS)))
      go_ret
      obtain rfl : k = t.size := by omega
      have hf : FileH p ⟨t.data.toList, 0, clocks σ.clock t.size⟩ [.cells p [.slice ao1 (t.size) cap1, .int .i64 ((0 : Nat) : Int), .slice ao3 t.size cap3] 56, .row 5 1 ao1 (t.size) cap1 (Lib.strCells t), .row 3 1 ao3 t.size cap3 ((clocks σ.clock t.size).map (Value.int .i64))] := by
        refine ⟨ao1, cap1, ao3, cap3, ?_⟩
        have e1 : t.data.toList.length = t.size := by simp
        have e2 : t.data.toList.map u8v = Lib.strCells t := rfl
        simp only [e1, e2, clocks_length]
      obtain ⟨H', g1, g2⟩ := hF.snoc (nm := s) hf
      exact ⟨rfl, m, _, H', g1, hS.perm (.cons _ (.cons _ ((g2.append_right R).symm)))⟩

/-- Too long: nothing turns but garbage. -/
theorem append_long (w0 w : World) (R : List Hp) (g : Nat) (σ : DiskS) (s t : ByteArray) (hD : DiskSt w0 w g σ R) (hok : σ.ok 0) (ht : t.size ≤ 4611686018427387904) (hnm : nameB s = true) (r : Option FileS)
    (hr : match r with | none => (∀ x ∈ σ.l, x.1 ≠ s) ∧ 4194304 < t.size | some f => (∃ i : Nat, σ.l[i]? = some (s, f)) ∧ 4194304 < f.b.length + t.size) :
    Calls Try.prog 10 #[.pointer (some ⟨g, 0, none⟩), .string s, .string t] w fun e w' => e = .returned (.int .i64 15) ∧ DiskSt w0 w' g σ R := by
  have hc := named_c s w
  rw [hnm] at hc
  cases r with
  | none =>
    obtain ⟨hn, hl⟩ := hr
    obtain ⟨m, kvs, H, hF, hS⟩ := hD
    have hnk := hF.absent hn
    go_enter Try.func10, Try.ntmps10
    go_wp2_with (first | ((with_reducible show WGd ..); (with_reducible apply wpA_guard); exact rfl; skip) | (go_at_call 20; refine (hc).mono ?_; rintro _ _ ⟨rfl, rfl⟩) | ((with_reducible show WLk ..); (with_reducible apply wpA_lookup hS 1 (z := .pointer none) (r := none)); exact rfl; exact rfl; exact rfl; exact Try.underlying49; exact Try.underlying9; exact trivial; kernel_rfl; exact hnk; dsimp only [Option.getD, Option.isSome, if_true, Bool.false_eq_true, if_false]) | ((with_reducible show WLd ..); (with_reducible apply wpA_load); exact rfl; (first | ((with_reducible apply St.cellI hS); (focus repeat constructor); exact rfl) | assumption); kernel_rfl) | ((with_reducible show WSt ..); (with_reducible apply wpA_store1I hS); exact rfl; (focus repeat constructor); exact rfl; exact rfl; exact rfl; exact rfl; kernel_rfl; intro wx hS; (try simp only [Act.put, List.setIfInBounds_toArray, List.set_cons_zero, List.set_cons_succ]); (try simp only [Act.eval, Array.getD_eq_getD_getElem?, List.getElem?_toArray, List.getElem?_cons_succ, List.getElem?_cons_zero, Option.getD_some, List.set_cons_succ, List.set_cons_zero, Value.cells, List.toList_toArray] at hS)) | ((with_reducible show WBx ..); (with_reducible apply wpA_box hS); exact rfl; exact rfl; intro _ wx hS; (try simp only [Act.put, List.setIfInBounds_toArray, List.set_cons_zero, List.set_cons_succ]); (try simp only [Act.eval, Array.getD_eq_getD_getElem?, List.getElem?_toArray, List.getElem?_cons_succ, List.getElem?_cons_zero, Option.getD_some, List.set_cons_succ, List.set_cons_zero, Value.cells, List.toList_toArray] at hS)))
    go_ret
    exact ⟨rfl, m, kvs, H, hF, hS.tail⟩
  | some f =>
    obtain ⟨⟨i, hi⟩, hl⟩ := hr
    have hfl := hok.files _ (List.mem_of_getElem? hi)
    have hfb : f.b.length ≤ 4194304 := hfl.2
    have hD' := hD
    obtain ⟨m, kvs, p, ao, cap, ao2, cap2, Hr, h1, hS, _, _⟩ := hD.open_ hi
    have hl' : 4194304 - (f.b.length : Int) < (t.size : Int) := by omega
    go_enter Try.func10, Try.ntmps10
    go_wp2_with (first | ((with_reducible show WGd ..); (with_reducible apply wpA_guard); exact rfl; skip) | (go_at_call 20; refine (hc).mono ?_; rintro _ _ ⟨rfl, rfl⟩) | ((with_reducible apply wpA_lookup hS 1 (z := .pointer none) (r := some (.pointer (some ⟨p, 0, none⟩)))); exact rfl; exact rfl; exact rfl; exact Try.underlying49; exact Try.underlying9; exact trivial; kernel_rfl; exact ⟨i, h1⟩; dsimp only [Option.getD, Option.isSome, if_true, Bool.false_eq_true, if_false]) | ((with_reducible show WLd ..); (with_reducible apply wpA_load); exact rfl; (first | ((with_reducible apply St.cellI hS); (focus repeat constructor); exact rfl) | assumption); kernel_rfl) | ((with_reducible show WSt ..); (with_reducible apply wpA_store1I hS); exact rfl; (focus repeat constructor); exact rfl; exact rfl; exact rfl; exact rfl; kernel_rfl; intro wx hS; (try simp only [Act.put, List.setIfInBounds_toArray, List.set_cons_zero, List.set_cons_succ]); (try simp only [Act.eval, Array.getD_eq_getD_getElem?, List.getElem?_toArray, List.getElem?_cons_succ, List.getElem?_cons_zero, Option.getD_some, List.set_cons_succ, List.set_cons_zero, Value.cells, List.toList_toArray] at hS)) | ((with_reducible show WBx ..); (with_reducible apply wpA_box hS); exact rfl; exact rfl; intro _ wx hS; (try simp only [Act.put, List.setIfInBounds_toArray, List.set_cons_zero, List.set_cons_succ]); (try simp only [Act.eval, Array.getD_eq_getD_getElem?, List.getElem?_toArray, List.getElem?_cons_succ, List.getElem?_cons_zero, Option.getD_some, List.set_cons_succ, List.set_cons_zero, Value.cells, List.toList_toArray] at hS)))
    go_ret
    exact ⟨rfl, hD'⟩

end Go.Proofs.Ytbigkonbdnbnpaa
