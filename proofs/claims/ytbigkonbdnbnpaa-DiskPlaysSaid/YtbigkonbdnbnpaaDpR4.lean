/-
  The reference's disk: Remove, Rename, walked.
-/
import Derived.Test.YtbigkonbdnbnpaaDpR3
namespace Go.Proofs.Ytbigkonbdnbnpaa
set_option linter.unusedVariables false
set_option linter.unusedSimpArgs false
open Go.RowKit

def remL (L : List FileR) (s : ByteArray) : List FileR := match L.findIdx? (fun z => decide (z.nm = s)) with
  | none => L
  | some i => L.eraseIdx i
theorem remL_d {L : List FileR} {ρ : RefD} (hL : L.map FileR.d = ρ.l) (s : ByteArray) : (remL L s).map FileR.d = (removeR ρ s).1.l := by
  unfold remL removeR
  rw [rat_idx hL]
  cases L.findIdx? (fun z => decide (z.nm = s)) with
  | none => exact hL
  | some i => show (L.eraseIdx i).map FileR.d = ρ.l.eraseIdx i; rw [map_erase, hL]
theorem remL_sub (L : List FileR) (s : ByteArray) : (remL L s).Sublist L := by
  unfold remL
  split
  · exact List.Sublist.refl _
  · exact List.eraseIdx_sublist _ _

section
variable {w0 w : World} {D : List Hp} {x : Nat} {a : Option Addr} {c : Nat} {clk : Int} {L : List FileR}
set_option maxRecDepth 100000 in
set_option maxHeartbeats 4000000 in
theorem rrem_s (hS : St w0 w (rdc x a L.length c clk :: frow a c L :: D)) (s : ByteArray) (hl : L.length ≤ 1000000000) :
    Calls Try.prog 27 #[.pointer (some ⟨x, 0, none⟩), .string s] w fun e w' => e = .returned (.int .i64 (if (L.findIdx? (fun z => decide (z.nm = s))).isSome then 0 else 5)) ∧ ∃ a' c', St w0 w' (rdc x a' (remL L s).length c' clk :: frow a' c' (remL L s) :: D) := by
  unfold remL
  cases hr : L.findIdx? (fun z => decide (z.nm = s)) with
  | none =>
    have hf : fnd L s = -1 := by unfold fnd; rw [hr]
    simp only [Option.isSome_none, Bool.false_eq_true, if_false]
    clear hr
    go_enter Try.func27, Try.ntmps27
    go_wp2_with (first | ((with_reducible show WGd ..); (with_reducible apply wpA_guard); exact rfl; skip) | (go_at_call 40; go_loud (skip); go_loud (with_reducible refine (rfind_e hS s hl hf).mono ?_); go_loud (rintro _ _ ⟨rfl, hS⟩); go_loud (skip)) | ((with_reducible show WLd ..); (with_reducible apply wpA_load); exact rfl; (first | ((with_reducible apply St.cellI hS); (focus repeat constructor); exact rfl) | assumption); kernel_rfl) | ((with_reducible show WSt ..); (with_reducible apply wpA_store1I hS); exact rfl; (focus repeat constructor); exact rfl; exact rfl; exact rfl; exact rfl; kernel_rfl; intro wx hS; (try simp only [Act.put, List.setIfInBounds_toArray, List.set_cons_zero, List.set_cons_succ]); (try simp only [Act.eval, Array.getD_eq_getD_getElem?, List.getElem?_toArray, List.getElem?_cons_succ, List.getElem?_cons_zero, Option.getD_some, List.set_cons_succ, List.set_cons_zero, Value.cells, List.toList_toArray] at hS)) | ((with_reducible show WBx ..); (with_reducible apply wpA_box hS); exact rfl; exact rfl; intro _ wx hS; (try simp only [Act.put, List.setIfInBounds_toArray, List.set_cons_zero, List.set_cons_succ]); (try simp only [Act.eval, Array.getD_eq_getD_getElem?, List.getElem?_toArray, List.getElem?_cons_succ, List.getElem?_cons_zero, Option.getD_some, List.set_cons_succ, List.set_cons_zero, Value.cells, List.toList_toArray] at hS)))
    go_ret
    exact ⟨rfl, a, c, hS⟩
  | some i =>
    have hf : fnd L s = i := by unfold fnd; rw [hr]
    have hi : i < L.length := by obtain ⟨h, _⟩ := List.findIdx?_eq_some_iff_getElem.1 hr; exact h
    simp only [Option.isSome_some, if_true]
    have hd0 : decide ((i : Int) < 0) = false := by simp
    have hac : (a = none ∨ ∃ g, a = some ⟨g, 0, none⟩) ∧ L.length ≤ c := by
      rcases row_head (hS.at_ 1 rfl) with ⟨h1, h2, h3⟩ | ⟨h1, h2⟩
      · exact ⟨.inl h1, by omega⟩
      · exact ⟨.inr h1, h2⟩
    obtain ⟨ha, hc⟩ := hac
    clear hr
    go_enter Try.func27, Try.ntmps27
    go_upto_region 4 with (first | ((with_reducible show WGd ..); (with_reducible apply wpA_guard); exact rfl; skip) | (go_at_call 40; go_loud (skip); go_loud (with_reducible refine (rfind_e hS s hl hf).mono ?_); go_loud (rintro _ _ ⟨rfl, hS⟩); go_loud (skip)) | ((with_reducible show WLd ..); (with_reducible apply wpA_load); exact rfl; (first | ((with_reducible apply St.cellI hS); (focus repeat constructor); exact rfl) | assumption); kernel_rfl) | ((with_reducible show WSt ..); (with_reducible apply wpA_store1I hS); exact rfl; (focus repeat constructor); exact rfl; exact rfl; exact rfl; exact rfl; kernel_rfl; intro wx hS; (try simp only [Act.put, List.setIfInBounds_toArray, List.set_cons_zero, List.set_cons_succ]); (try simp only [Act.eval, Array.getD_eq_getD_getElem?, List.getElem?_toArray, List.getElem?_cons_succ, List.getElem?_cons_zero, Option.getD_some, List.set_cons_succ, List.set_cons_zero, Value.cells, List.toList_toArray] at hS)) | ((with_reducible show WBx ..); (with_reducible apply wpA_box hS); exact rfl; exact rfl; intro _ wx hS; (try simp only [Act.put, List.setIfInBounds_toArray, List.set_cons_zero, List.set_cons_succ]); (try simp only [Act.eval, Array.getD_eq_getD_getElem?, List.getElem?_toArray, List.getElem?_cons_succ, List.getElem?_cons_zero, Option.getD_some, List.set_cons_succ, List.set_cons_zero, Value.cells, List.toList_toArray] at hS)))
    replace hS := hS.nilRow 76 2
    have hw : IntKind.i64.wrap ((i : Int) + 1) = ((i + 1 : Nat) : Int) := by rw [IntKind.wrap_i64]; omega
    refine wp_region_E2 18 (fun _ h => St.sub h (.cons _ (.cons_cons _ (.cons_cons _ (List.nil_sublist _))))) hS (by kernel_rfl) (fun _ hR hS => ?_)
    simp only [List.length_cons, List.length_nil, Nat.reduceAdd]
    refine takeP_val (i := 0) ?_ rfl (by exact rfl) (by kernel_rfl) (fun _ _ _ h => h) ?_ hR (fun hR => ?_)
    rotate_left
    · intro w; go_simp; (first | done | (with_reducible rfl) | (refine (if_pos ?_).trans ?_; (focus omega); with_reducible rfl) | skip)
    (simp only [Act.put, List.setIfInBounds_toArray, List.set_cons_zero, List.set_cons_succ])
    refine takeP_val (i := 1) ?_ rfl (by exact rfl) (by kernel_rfl) (fun _ _ _ h => h) ?_ hR (fun hR => ?_)
    rotate_left
    · intro w; go_simp; (first | done | (with_reducible rfl) | (refine (if_pos ?_).trans ?_; (focus omega); with_reducible rfl) | skip)
    (simp only [Act.put, List.setIfInBounds_toArray, List.set_cons_zero, List.set_cons_succ])
    refine takeP_val (i := 2) ?_ rfl (by exact rfl) (by kernel_rfl) (fun _ _ _ h => h) ?_ hR (fun hR => ?_)
    rotate_left
    · intro w; go_simp; (first | done | (with_reducible rfl) | (refine (if_pos ?_).trans ?_; (focus omega); with_reducible rfl) | skip)
    (simp only [Act.put, List.setIfInBounds_toArray, List.set_cons_zero, List.set_cons_succ])
    refine takeP_val (i := 3) ?_ rfl (by exact rfl) (by kernel_rfl) (fun _ _ _ h => h) ?_ hR (fun hR => ?_)
    rotate_left
    · intro w; go_simp; (first | done | (with_reducible rfl) | (refine (if_pos ?_).trans ?_; (focus omega); with_reducible rfl) | skip)
    (simp only [Act.put, List.setIfInBounds_toArray, List.set_cons_zero, List.set_cons_succ])
    refine takeE_load (i := 4) [18] rfl (by exact rfl) (by kernel_rfl) (fun _ _ _ h => h) (by decide) rfl (fun w hS => by (first | ((with_reducible apply St.cellI hS); (focus repeat constructor); exact rfl) | assumption)) (by kernel_rfl) hR (fun hR => ?_)
    (simp only [Act.put, List.setIfInBounds_toArray, List.set_cons_zero, List.set_cons_succ])
    refine takeP_val (i := 5) ?_ rfl (by exact rfl) (by kernel_rfl) (fun _ _ _ h => h) ?_ hR (fun hR => ?_)
    rotate_left
    · intro w; go_simp; (first | done | (with_reducible rfl) | (refine (if_pos ?_).trans ?_; (focus omega); with_reducible rfl) | skip)
    (simp only [Act.put, List.setIfInBounds_toArray, List.set_cons_zero, List.set_cons_succ])
    refine takeP_val (i := 6) (.slice a i c) rfl (by exact rfl) (by kernel_rfl) (fun _ _ _ h => h) (fun w => by exact execOp_sliceHi (K := i) rfl rfl Try.underlying37 (by kernel_rfl) ha rfl (by omega)) hR (fun hR => ?_)
    (simp only [Act.put, List.setIfInBounds_toArray, List.set_cons_zero, List.set_cons_succ])
    refine takeP_val (i := 8) ?_ rfl (by exact rfl) (by kernel_rfl) (fun _ _ _ h => h) ?_ hR (fun hR => ?_)
    rotate_left
    · intro w; go_simp; (first | done | (with_reducible rfl) | (refine (if_pos ?_).trans ?_; (focus omega); with_reducible rfl) | skip)
    (simp only [Act.put, List.setIfInBounds_toArray, List.set_cons_zero, List.set_cons_succ])
    refine takeP_val (i := 9) ?_ rfl (by exact rfl) (by kernel_rfl) (fun _ _ _ h => h) ?_ hR (fun hR => ?_)
    rotate_left
    · intro w; go_simp; (first | done | (with_reducible rfl) | (refine (if_pos ?_).trans ?_; (focus omega); with_reducible rfl) | skip)
    (simp only [Act.put, List.setIfInBounds_toArray, List.set_cons_zero, List.set_cons_succ])
    refine takeP_val (i := 10) ?_ rfl (by exact rfl) (by kernel_rfl) (fun _ _ _ h => h) ?_ hR (fun hR => ?_)
    rotate_left
    · intro w; go_simp; (first | done | (with_reducible rfl) | (refine (if_pos ?_).trans ?_; (focus omega); with_reducible rfl) | skip)
    (simp only [Act.put, List.setIfInBounds_toArray, List.set_cons_zero, List.set_cons_succ])
    refine takeE_load (i := 11) [18] rfl (by exact rfl) (by kernel_rfl) (fun _ _ _ h => h) (by decide) rfl (fun w hS => by (first | ((with_reducible apply St.cellI hS); (focus repeat constructor); exact rfl) | assumption)) (by kernel_rfl) hR (fun hR => ?_)
    (simp only [Act.put, List.setIfInBounds_toArray, List.set_cons_zero, List.set_cons_succ])
    refine takeP_val (i := 12) ?_ rfl (by exact rfl) (by kernel_rfl) (fun _ _ _ h => h) ?_ hR (fun hR => ?_)
    rotate_left
    · intro w; go_simp; (first | done | (with_reducible rfl) | (refine (if_pos ?_).trans ?_; (focus omega); with_reducible rfl) | skip)
    (simp only [Act.put, List.setIfInBounds_toArray, List.set_cons_zero, List.set_cons_succ])
    refine takeP_val (i := 13) (.int .i64 ((i + 1 : Nat) : Int)) rfl (by exact rfl) (by kernel_rfl) (fun _ _ _ h => h) (fun w => by go_simp; (first | done | simp [hw])) hR (fun hR => ?_)
    (simp only [Act.put, List.setIfInBounds_toArray, List.set_cons_zero, List.set_cons_succ])
    refine takeP_val (i := 14) (.slice (loAd a c (i + 1) 2) (L.length - (i + 1)) (c - (i + 1))) rfl (by exact rfl) (by kernel_rfl) (fun _ _ _ h => h) (fun w => by exact execOp_sliceLo (K := i + 1) rfl rfl Try.underlying37 (by kernel_rfl) (by omega) hi hc) hR (fun hR => ?_)
    (simp only [Act.put, List.setIfInBounds_toArray, List.set_cons_zero, List.set_cons_succ])
    refine oneE (i := 7) (by kernel_rfl) rfl (by exact rfl) (fun K_ hK_ => ?_)
    ((with_reducible apply opA_append hS 0 (z := .agg #[.string ⟨#[]⟩, .slice none 0 0]) (size := 2) (bytes := 40)); exact rfl; exact rfl; exact rfl; exact Try.underlying37; exact .inr Try.underlying37; kernel_rfl; exact rfl; exact (Src.hi (hS.at_ 2 rfl) (Nat.le_of_lt hi) (files_one _)); exact (by unfold maxLen; omega); exact (by omega); intro ao2 cap2 wx hS)
    refine hK_ _ _ (fun _ => ((St.sub hS (.cons _ (.cons_cons _ (.cons_cons _ (List.nil_sublist _))))))) ?_; clear hK_ K_
    (simp only [Act.put, List.setIfInBounds_toArray, List.set_cons_zero, List.set_cons_succ])
    refine oneE (i := 15) (by kernel_rfl) rfl (by exact rfl) (fun K_ hK_ => ?_)
    ((with_reducible apply opA_append hS 0 (z := .agg #[.string ⟨#[]⟩, .slice none 0 0]) (size := 2) (bytes := 40)); exact rfl; exact rfl; exact rfl; exact Try.underlying37; exact .inr Try.underlying37; kernel_rfl; exact rfl; exact (Src.lo (k := i + 1) (hS.at_ 2 rfl) hi (files_one _)); exact (by unfold maxLen; omega); exact (by omega); intro ao3 cap3 wx hS)
    refine hK_ _ _ (fun _ => ((St.sub hS (.cons _ (.cons_cons _ (.cons_cons _ (List.nil_sublist _))))))) ?_; clear hK_ K_
    (simp only [Act.put, List.setIfInBounds_toArray, List.set_cons_zero, List.set_cons_succ])
    refine takeP_val (i := 16) ?_ rfl (by exact rfl) (by kernel_rfl) (fun _ _ _ h => h) ?_ (fun _ => (St.sub hS (.cons _ (.cons_cons _ (.cons_cons _ (List.nil_sublist _)))))) (fun hR => ?_)
    rotate_left
    · intro w; go_simp; (first | done | (with_reducible rfl) | (refine (if_pos ?_).trans ?_; (focus omega); with_reducible rfl) | skip)
    (simp only [Act.put, List.setIfInBounds_toArray, List.set_cons_zero, List.set_cons_succ])
    refine takeP_val (i := 17) ?_ rfl (by exact rfl) (by kernel_rfl) (fun _ _ _ h => h) ?_ hR (fun hR => ?_)
    rotate_left
    · intro w; go_simp; (first | done | (with_reducible rfl) | (refine (if_pos ?_).trans ?_; (focus omega); with_reducible rfl) | skip)
    (simp only [Act.put, List.setIfInBounds_toArray, List.set_cons_zero, List.set_cons_succ])
    refine oneE (i := 18) (by kernel_rfl) rfl (by exact rfl) (fun K_ hK_ => ?_)
    ((with_reducible apply opA_store1I hS); exact rfl; (focus repeat constructor); exact rfl; exact rfl; exact rfl; exact rfl; kernel_rfl; intro wx hS; (try simp only [Act.eval, Array.getD_eq_getD_getElem?, List.getElem?_toArray, List.getElem?_cons_succ, List.getElem?_cons_zero, Option.getD_some, List.set_cons_succ, List.set_cons_zero, Value.cells, List.toList_toArray] at hS))
    refine hK_ _ _ (fun h => by cases h) ?_; clear hK_ K_
    (simp only [Act.put, List.setIfInBounds_toArray, List.set_cons_zero, List.set_cons_succ])
    refine wpAnyR_done (by kernel_rfl) ?_ _
    go_wp2_with (first | ((with_reducible show WGd ..); (with_reducible apply wpA_guard); exact rfl; skip) | ((with_reducible show WLd ..); (with_reducible apply wpA_load); exact rfl; (first | ((with_reducible apply St.cellI hS); (focus repeat constructor); exact rfl) | assumption); kernel_rfl) | ((with_reducible show WSt ..); (with_reducible apply wpA_store1I hS); exact rfl; (focus repeat constructor); exact rfl; exact rfl; exact rfl; exact rfl; kernel_rfl; intro wx hS; (try simp only [Act.put, List.setIfInBounds_toArray, List.set_cons_zero, List.set_cons_succ]); (try simp only [Act.eval, Array.getD_eq_getD_getElem?, List.getElem?_toArray, List.getElem?_cons_succ, List.getElem?_cons_zero, Option.getD_some, List.set_cons_succ, List.set_cons_zero, Value.cells, List.toList_toArray] at hS)) | ((with_reducible show WBx ..); (with_reducible apply wpA_box hS); exact rfl; exact rfl; intro _ wx hS; (try simp only [Act.put, List.setIfInBounds_toArray, List.set_cons_zero, List.set_cons_succ]); (try simp only [Act.eval, Array.getD_eq_getD_getElem?, List.getElem?_toArray, List.getElem?_cons_succ, List.getElem?_cons_zero, Option.getD_some, List.set_cons_succ, List.set_cons_zero, Value.cells, List.toList_toArray] at hS)))
    go_ret
    refine ⟨rfl, ao3, cap3, ?_⟩
    have e1 : (L.flatMap FileR.cells).take (i * 2) ++ (L.flatMap FileR.cells).drop ((i + 1) * 2) = (L.eraseIdx i).flatMap FileR.cells := by
      have e3 : (L.flatMap FileR.cells).drop ((i + 1) * 2) = (L.drop (i + 1)).flatMap FileR.cells := by
        conv => lhs; rw [← List.take_append_drop (i + 1) L, List.flatMap_append]
        rw [List.drop_left']
        rw [flat_len FileR.cells_length, List.length_take, Nat.min_eq_left hi]
      rw [e3, flat_take FileR.cells_length, ← List.flatMap_append, List.eraseIdx_eq_take_drop_succ]
    have e2 : i + (L.length - (i + 1)) = (L.eraseIdx i).length := by rw [List.length_eraseIdx, if_pos hi]; omega
    rw [show 0 + i + (L.length - (i + 1)) = (L.eraseIdx i).length by omega, List.nil_append, e1] at hS
    ((try simp only [List.set_cons_succ, List.set_cons_zero] at hS); replace hS := hS.sel [1, 0] 3 (by decide) (by decide) (by simp); simp only [List.filterMap_cons, List.filterMap_nil, List.getElem?_cons_succ, List.getElem?_cons_zero, List.drop_succ_cons, List.drop_zero, List.cons_append, List.nil_append] at hS)
    exact hS

theorem rrem_e (hS : St w0 w (rdc x a L.length c clk :: frow a c L :: D)) (s : ByteArray) (hl : L.length ≤ 1000000000) :
    Calls Try.prog 27 #[.pointer (some ⟨x, 0, none⟩), .string s] w fun e w' => (∃ v, e = .returned v) ∧ ∃ a' c', St w0 w' (rdc x a' (remL L s).length c' clk :: frow a' c' (remL L s) :: D) :=
  (rrem_s hS s hl).mono fun _ _ h => ⟨⟨_, h.1⟩, h.2⟩
theorem rrem_m (hS : St w0 w (rdc x a L.length c clk :: frow a c L :: D)) (s : ByteArray) (hl : L.length ≤ 1000000000) {M : List FileR} (hM : remL L s = M) :
    Calls Try.prog 27 #[.pointer (some ⟨x, 0, none⟩), .string s] w fun e w' => (∃ v, e = .returned v) ∧ ∃ a' c', St w0 w' (rdc x a' M.length c' clk :: frow a' c' M :: D) := by
  subst hM
  exact rrem_e hS s hl
theorem rfind_n (hS : St w0 w (rdc x a L.length c clk :: frow a c L :: D)) (s : ByteArray) (hl : L.length ≤ 1000000000) (n : Nat) {v : Int} (hn : n = L.length) (hv : fnd L s = v) :
    Calls Try.prog 40 #[.pointer (some ⟨x, 0, none⟩), .string s] w fun e w' => e = .returned (.int .i64 v) ∧ St w0 w' (rdc x a L.length c clk :: frow a c L :: D) := rfind_e hS s hl hv
end

section
variable {w0 w : World} {x : Nat} {R : List Hp} {ρ : RefD}
theorem flat_sub_hp {γ : Type} {f : γ → List Hp} {M L : List γ} (h : M.Sublist L) : (M.flatMap f).Sublist (L.flatMap f) := by
  induction h with
  | slnil => exact .slnil
  | cons a _ ih => exact ih.trans (List.sublist_append_right _ _)
  | cons_cons a _ ih => exact (List.Sublist.refl _).append ih
theorem rremove_c (h : RefDSt w0 w x ρ R) (ok : ρ.ok) (s : ByteArray) :
    Calls Try.prog 27 #[.pointer (some ⟨x, 0, none⟩), .string s] w fun e w' => e = .returned (.int .i64 (removeR ρ s).2) ∧ RefDSt w0 w' x (removeR ρ s).1 R := by
  obtain ⟨a, c, L, hL, hS⟩ := h
  have hl : L.length ≤ 1000000000 := by rw [len_of hL]; have := ok.len; omega
  refine (rrem_s hS s hl).mono ?_
  rintro e w' ⟨rfl, a', c', h'⟩
  have hc : (removeR ρ s).1.clock = ρ.clock := by unfold removeR; split <;> rfl
  constructor
  · unfold removeR
    rw [rat_idx hL]
    cases L.findIdx? (fun z => decide (z.nm = s)) <;> rfl
  · refine ⟨a', c', remL L s, remL_d hL s, ?_⟩
    rw [hc]
    refine h'.sub (.cons_cons _ (.cons_cons _ ((List.Sublist.append ?_ (List.Sublist.refl _)))))
    exact flat_sub_hp (remL_sub L s)
theorem fnd_ins (L : List FileR) (s : ByteArray) : fnd (insL L s) s = ((L.takeWhile (fun z => ltB z.nm s)).length : Nat) := by
  have h1 := rat_ins (L.map FileR.d) s [] 0
  rw [← insL_d L s] at h1
  have h2 : (insL L s).findIdx? (fun z => decide (z.nm = s)) = some (L.takeWhile (fun z => ltB z.nm s)).length := by
    have := rat_idx (ρ := ⟨(insL L s).map FileR.d, 0⟩) (L := insL L s) rfl s
    rw [← this, h1, List.takeWhile_map, List.length_map]
    rfl
  unfold fnd; rw [h2]
theorem insL_get (L : List FileR) (s : ByteArray) : (insL L s)[(L.takeWhile (fun z => ltB z.nm s)).length]? = some ⟨s, none, 0, []⟩ := by
  unfold insL
  rw [List.getElem?_append_right (Nat.le_refl _), Nat.sub_self]; rfl
theorem insL_set (L : List FileR) (s : ByteArray) (z : FileR) : (insL L s).set (L.takeWhile (fun z => ltB z.nm s)).length z = L.takeWhile (fun z => ltB z.nm s) ++ z :: L.dropWhile (fun z => ltB z.nm s) := by
  unfold insL
  rw [List.set_append_right _ _ (Nat.le_refl _), Nat.sub_self]; rfl

set_option maxRecDepth 100000 in
set_option maxHeartbeats 4000000 in
theorem rrename_c (h : RefDSt w0 w x ρ R) (ok : ρ.ok) (s t : ByteArray) (ht : t.size ≤ 1000000000000000) :
    Calls Try.prog 28 #[.pointer (some ⟨x, 0, none⟩), .string s, .string t] w fun e w' => e = .returned (.int .i64 (renameR ρ s t).2) ∧ RefDSt w0 w' x (renameR ρ s t).1 R := by
  unfold renameR rfile
  cases hn : nameC t with
  | false =>
    rw [if_pos rfl]
    obtain ⟨a, c, L, hL, hS⟩ := h
    have hc := fun w => rname_c t w ht
    rw [hn] at hc
    have HL := Lib.hid hL
    clear hL ok hn
    go_enter Try.func28, Try.ntmps28
    go_wp2_with (first | ((with_reducible show WGd ..); (with_reducible apply wpA_guard); exact rfl; skip) | (go_at_call 39; go_loud (skip); go_loud (with_reducible refine (hc _).mono ?_); go_loud (rintro _ _ ⟨rfl, rfl⟩); go_loud (skip)) | ((with_reducible show WLd ..); (with_reducible apply wpA_load); exact rfl; (first | ((with_reducible apply St.cellI hS); (focus repeat constructor); exact rfl) | assumption); kernel_rfl) | ((with_reducible show WSt ..); (with_reducible apply wpA_store1I hS); exact rfl; (focus repeat constructor); exact rfl; exact rfl; exact rfl; exact rfl; kernel_rfl; intro wx hS; (try simp only [Act.put, List.setIfInBounds_toArray, List.set_cons_zero, List.set_cons_succ]); (try simp only [Act.eval, Array.getD_eq_getD_getElem?, List.getElem?_toArray, List.getElem?_cons_succ, List.getElem?_cons_zero, Option.getD_some, List.set_cons_succ, List.set_cons_zero, Value.cells, List.toList_toArray] at hS)) | ((with_reducible show WBx ..); (with_reducible apply wpA_box hS); exact rfl; exact rfl; intro _ wx hS; (try simp only [Act.put, List.setIfInBounds_toArray, List.set_cons_zero, List.set_cons_succ]); (try simp only [Act.eval, Array.getD_eq_getD_getElem?, List.getElem?_toArray, List.getElem?_cons_succ, List.getElem?_cons_zero, Option.getD_some, List.set_cons_succ, List.set_cons_zero, Value.cells, List.toList_toArray] at hS)))
    go_ret
    exact ⟨rfl, a, c, L, HL.out, hS⟩
  | true =>
    rw [if_neg (by simp)]
    have hc := fun w => rname_c t w ht
    rw [hn] at hc
    clear hn
    cases hr : rat ρ s with
    | none =>
      simp only [Option.bind_none]
      obtain ⟨a, c, L, hL, hS⟩ := h
      have hf := fnd_of_none hL hr
      have hl : L.length ≤ 999999999 := by rw [len_of hL]; have := ok.len; omega
      have HL := Lib.hid hL
      clear hL hr ok
      go_enter Try.func28, Try.ntmps28
      go_wp2_with (first | ((with_reducible show WGd ..); (with_reducible apply wpA_guard); exact rfl; skip) | (go_at_call 39; go_loud (skip); go_loud (with_reducible refine (hc _).mono ?_); go_loud (rintro _ _ ⟨rfl, rfl⟩); go_loud (skip)) | (go_at_call 40; go_loud (skip); go_loud (with_reducible refine (rfind_e hS s (by omega) hf).mono ?_); go_loud (rintro _ _ ⟨rfl, hS⟩); go_loud (skip)) | ((with_reducible show WLd ..); (with_reducible apply wpA_load); exact rfl; (first | ((with_reducible apply St.cellI hS); (focus repeat constructor); exact rfl) | assumption); kernel_rfl) | ((with_reducible show WSt ..); (with_reducible apply wpA_store1I hS); exact rfl; (focus repeat constructor); exact rfl; exact rfl; exact rfl; exact rfl; kernel_rfl; intro wx hS; (try simp only [Act.put, List.setIfInBounds_toArray, List.set_cons_zero, List.set_cons_succ]); (try simp only [Act.eval, Array.getD_eq_getD_getElem?, List.getElem?_toArray, List.getElem?_cons_succ, List.getElem?_cons_zero, Option.getD_some, List.set_cons_succ, List.set_cons_zero, Value.cells, List.toList_toArray] at hS)) | ((with_reducible show WBx ..); (with_reducible apply wpA_box hS); exact rfl; exact rfl; intro _ wx hS; (try simp only [Act.put, List.setIfInBounds_toArray, List.set_cons_zero, List.set_cons_succ]); (try simp only [Act.eval, Array.getD_eq_getD_getElem?, List.getElem?_toArray, List.getElem?_cons_succ, List.getElem?_cons_zero, Option.getD_some, List.set_cons_succ, List.set_cons_zero, Value.cells, List.toList_toArray] at hS)))
      go_ret
      exact ⟨rfl, a, c, L, HL.out, hS⟩
    | some i =>
      obtain ⟨a, c, L, hL, hS⟩ := h
      have hf := fnd_of_some hL hr
      have hl : L.length ≤ 999999999 := by rw [len_of hL]; have := ok.len; omega
      obtain ⟨ia, ic, b, hz, hb⟩ := file_of hL hr
      have hd0 : decide ((i : Int) < 0) = false := by simp
      simp only [Option.bind_some, hb, Option.map_some]
      by_cases hst : s = t
      · rw [if_pos hst]
        have hbq : (s.toList == t.toList) = true := by simp [hst]
        have HL := Lib.hid hL
        clear hL hr ok hz hb hst
        go_enter Try.func28, Try.ntmps28
        go_wp2_with (first | ((with_reducible show WGd ..); (with_reducible apply wpA_guard); exact rfl; skip) | (go_at_call 39; go_loud (skip); go_loud (with_reducible refine (hc _).mono ?_); go_loud (rintro _ _ ⟨rfl, rfl⟩); go_loud (skip)) | (go_at_call 40; go_loud (skip); go_loud (with_reducible refine (rfind_e hS s (by omega) hf).mono ?_); go_loud (rintro _ _ ⟨rfl, hS⟩); go_loud (skip)) | ((with_reducible show WLd ..); (with_reducible apply wpA_load); exact rfl; (first | ((with_reducible apply St.cellI hS); (focus repeat constructor); exact rfl) | assumption); kernel_rfl) | ((with_reducible show WSt ..); (with_reducible apply wpA_store1I hS); exact rfl; (focus repeat constructor); exact rfl; exact rfl; exact rfl; exact rfl; kernel_rfl; intro wx hS; (try simp only [Act.put, List.setIfInBounds_toArray, List.set_cons_zero, List.set_cons_succ]); (try simp only [Act.eval, Array.getD_eq_getD_getElem?, List.getElem?_toArray, List.getElem?_cons_succ, List.getElem?_cons_zero, Option.getD_some, List.set_cons_succ, List.set_cons_zero, Value.cells, List.toList_toArray] at hS)) | ((with_reducible show WBx ..); (with_reducible apply wpA_box hS); exact rfl; exact rfl; intro _ wx hS; (try simp only [Act.put, List.setIfInBounds_toArray, List.set_cons_zero, List.set_cons_succ]); (try simp only [Act.eval, Array.getD_eq_getD_getElem?, List.getElem?_toArray, List.getElem?_cons_succ, List.getElem?_cons_zero, Option.getD_some, List.set_cons_succ, List.set_cons_zero, Value.cells, List.toList_toArray] at hS)))
        go_ret
        exact ⟨rfl, a, c, L, HL.out, hS⟩
      · rw [if_neg hst]
        have hbq : (s.toList == t.toList) = false := by
          simp only [beq_eq_false_iff_ne, ne_eq]
          intro e
          rw [ByteArray.toList_eq, ByteArray.toList_eq] at e
          exact hst (ByteArray.ext (Array.toList_inj.1 e))
        have hi : i < L.length := (List.getElem?_eq_some_iff.1 hz).1
        rcases row_head (hS.at_ 1 rfl) with ⟨_, hh, _⟩ | ⟨⟨gF, rfl⟩, _⟩
        · omega
        have hidx : L.findIdx? (fun z => decide (z.nm = s)) = some i := by rw [← rat_idx hL]; exact hr
        have hrm : remL L s = L.eraseIdx i := by unfold remL; rw [hidx]
        obtain ⟨L2, hL2⟩ : ∃ L2, remL (remL L s) t = L2 := ⟨_, rfl⟩
        have hL2s : L2.Sublist (L.eraseIdx i) := by rw [← hL2, ← hrm]; exact remL_sub _ _
        have hL2d : L2.map FileR.d = (removeR (removeR ρ s).1 t).1.l := by rw [← hL2]; exact remL_d (remL_d hL s) t
        have hl1 : (remL L s).length ≤ 999999999 := Nat.le_trans (remL_sub L s).length_le hl
        have hl2 : L2.length ≤ 999999999 := by rw [← hL2]; exact Nat.le_trans (remL_sub _ t).length_le hl1
        have hl3 : (insL L2 t).length ≤ 1000000000 := by rw [insL_len]; omega
        obtain ⟨p, hp⟩ : ∃ p, (L2.takeWhile (fun z => ltB z.nm t)).length = p := ⟨_, rfl⟩
        have hfi : fnd (insL L2 t) t = (p : Nat) := by rw [fnd_ins, hp]
        have hget := insL_get L2 t
        rw [hp] at hget
        have hpl : p < (insL L2 t).length := (List.getElem?_eq_some_iff.1 hget).1
        obtain ⟨D, hD⟩ : ∃ D, L.flatMap fhp ++ R = D := ⟨_, rfl⟩
        rw [hD] at hS
        have HALL := Lib.hid (And.intro hL (And.intro hz (And.intro hL2s (And.intro hL2d (And.intro hp (And.intro hget hD))))))
        have HZ := Lib.hid hz
        have HM := Lib.hid hL2
        have HFI := Lib.hid hfi
        clear hL hz hL2s hL2d hp hget hD hL2 hfi hr hb ok hidx hrm
        go_enter Try.func28, Try.ntmps28
        go_upto_region 12 with (first | ((with_reducible show WGd ..); (with_reducible apply wpA_guard); exact rfl; skip) | (go_at_call 39; go_loud (skip); go_loud (with_reducible refine (hc _).mono ?_); go_loud (rintro _ _ ⟨rfl, rfl⟩); go_loud (skip)) | (go_at_call 40; go_loud (skip); go_loud (with_reducible refine (rfind_e hS s (by omega) hf).mono ?_); go_loud (rintro _ _ ⟨rfl, hS⟩); go_loud (skip)) | ((with_reducible show WLd ..); (with_reducible apply wpA_load); exact rfl; exact (row_elem FileR.cells_length (hS.at_ 1 rfl) HZ.out) 1 _ rfl; kernel_rfl) | (go_at_call 27; go_loud (skip); go_loud (with_reducible refine (rrem_e hS s (by omega)).mono ?_); go_loud (rintro _ _ ⟨⟨_, rfl⟩, a1, c1, hS⟩); go_loud (skip)) | (go_at_call 27; go_loud (skip); go_loud (with_reducible refine (rrem_m hS t (by omega) HM.out).mono ?_); go_loud (rintro _ _ ⟨⟨_, rfl⟩, a2, c2, hS⟩); go_loud (skip)) | (go_at_call 41; go_loud (skip); go_loud (with_reducible refine (rmake_s hS t (by omega)).mono ?_); go_loud (rintro _ _ ⟨⟨_, rfl⟩, a3, c3, hS⟩); go_loud (skip)) | ((with_reducible show WLd ..); (with_reducible apply wpA_load); exact rfl; (first | ((with_reducible apply St.cellI hS); (focus repeat constructor); exact rfl) | assumption); kernel_rfl) | ((with_reducible show WSt ..); (with_reducible apply wpA_store1I hS); exact rfl; (focus repeat constructor); exact rfl; exact rfl; exact rfl; exact rfl; kernel_rfl; intro wx hS; (try simp only [Act.put, List.setIfInBounds_toArray, List.set_cons_zero, List.set_cons_succ]); (try simp only [Act.eval, Array.getD_eq_getD_getElem?, List.getElem?_toArray, List.getElem?_cons_succ, List.getElem?_cons_zero, Option.getD_some, List.set_cons_succ, List.set_cons_zero, Value.cells, List.toList_toArray] at hS)) | ((with_reducible show WBx ..); (with_reducible apply wpA_box hS); exact rfl; exact rfl; intro _ wx hS; (try simp only [Act.put, List.setIfInBounds_toArray, List.set_cons_zero, List.set_cons_succ]); (try simp only [Act.eval, Array.getD_eq_getD_getElem?, List.getElem?_toArray, List.getElem?_cons_succ, List.getElem?_cons_zero, Option.getD_some, List.set_cons_succ, List.set_cons_zero, Value.cells, List.toList_toArray] at hS)))
        rcases row_head (hS.at_ 1 rfl) with ⟨_, hh, _⟩ | ⟨⟨g3, rfl⟩, hc3⟩
        · omega
        refine wp_region_E2 10 (fun _ h => St.sub h (.cons_cons _ (.cons_cons _ (List.nil_sublist _)))) hS (by kernel_rfl) (fun _ hR hS => ?_)
        simp only [List.length_cons, List.length_nil, Nat.reduceAdd]
        refine takeP_val (i := 0) ?_ rfl (by exact rfl) (by kernel_rfl) (fun _ _ _ h => h) ?_ hR (fun hR => ?_)
        rotate_left
        · intro w; go_simp; (first | done | (with_reducible rfl) | (refine (if_pos ?_).trans ?_; (focus omega); with_reducible rfl) | skip)
        (simp only [Act.put, List.setIfInBounds_toArray, List.set_cons_zero, List.set_cons_succ])
        refine takeP_val (i := 1) ?_ rfl (by exact rfl) (by kernel_rfl) (fun _ _ _ h => h) ?_ hR (fun hR => ?_)
        rotate_left
        · intro w; go_simp; (first | done | (with_reducible rfl) | (refine (if_pos ?_).trans ?_; (focus omega); with_reducible rfl) | skip)
        (simp only [Act.put, List.setIfInBounds_toArray, List.set_cons_zero, List.set_cons_succ])
        refine takeP_val (i := 2) ?_ rfl (by exact rfl) (by kernel_rfl) (fun _ _ _ h => h) ?_ hR (fun hR => ?_)
        rotate_left
        · intro w; go_simp; (first | done | (with_reducible rfl) | (refine (if_pos ?_).trans ?_; (focus omega); with_reducible rfl) | skip)
        (simp only [Act.put, List.setIfInBounds_toArray, List.set_cons_zero, List.set_cons_succ])
        refine takeE_load (i := 3) [10] rfl (by exact rfl) (by kernel_rfl) (fun _ _ _ h => h) (by decide) rfl (fun w hS => by (first | ((with_reducible apply St.cellI hS); (focus repeat constructor); exact rfl) | assumption)) (by kernel_rfl) hR (fun hR => ?_)
        (simp only [Act.put, List.setIfInBounds_toArray, List.set_cons_zero, List.set_cons_succ])
        refine takeP_val (i := 4) ?_ rfl (by exact rfl) (by kernel_rfl) (fun _ _ _ h => h) ?_ hR (fun hR => ?_)
        rotate_left
        · intro w; go_simp; (first | done | (with_reducible rfl) | (refine (if_pos ?_).trans ?_; (focus omega); with_reducible rfl) | skip)
        (simp only [Act.put, List.setIfInBounds_toArray, List.set_cons_zero, List.set_cons_succ])
        refine takeP_val (i := 5) ?_ rfl (by exact rfl) (by kernel_rfl) (fun _ _ _ h => h) ?_ hR (fun hR => ?_)
        rotate_left
        · intro w; go_simp; (first | done | (with_reducible rfl) | (refine (if_pos ?_).trans ?_; (focus omega); with_reducible rfl) | skip)
        (simp only [Act.put, List.setIfInBounds_toArray, List.set_cons_zero, List.set_cons_succ])
        refine takeP_val (i := 7) ?_ rfl (by exact rfl) (by kernel_rfl) (fun _ _ _ h => h) ?_ hR (fun hR => ?_)
        rotate_left
        · intro w; go_simp; (first | done | (with_reducible rfl) | (refine (if_pos ?_).trans ?_; (focus omega); with_reducible rfl) | skip)
        (simp only [Act.put, List.setIfInBounds_toArray, List.set_cons_zero, List.set_cons_succ])
        refine oneE (i := 6) (by kernel_rfl) rfl (by exact rfl) (fun K_ hK_ => ?_)
        (apply opA_call (f := 40) Try.func40 (by kernel_rfl); (focus ((try simp only [List.map_toArray, List.map_cons, List.map_nil, Act.eval, Array.getD_eq_getD_getElem?, List.getElem?_toArray, List.getElem?_cons_succ, List.getElem?_cons_zero, Option.getD_some]); exact rfl)); (focus (with_reducible exact (rfind_e hS t (by omega) HFI.out))); rintro _ _ ⟨rfl, hS⟩; refine ⟨_, rfl, ?_⟩; skip)
        refine hK_ _ _ (fun _ => ((St.sub hS (.cons_cons _ (.cons_cons _ (List.nil_sublist _)))))) ?_; clear hK_ K_
        (simp only [Act.put, List.setIfInBounds_toArray, List.set_cons_zero, List.set_cons_succ])
        refine takeP_val (i := 8) ?_ rfl (by exact rfl) (by kernel_rfl) (fun _ _ _ h => h) ?_ (fun _ => (St.sub hS (.cons_cons _ (.cons_cons _ (List.nil_sublist _))))) (fun hR => ?_)
        rotate_left
        · intro w; go_simp; (first | done | (with_reducible rfl) | (refine (if_pos ?_).trans ?_; (focus omega); with_reducible rfl) | skip)
        (simp only [Act.put, List.setIfInBounds_toArray, List.set_cons_zero, List.set_cons_succ])
        refine takeP_val (i := 9) ?_ rfl (by exact rfl) (by kernel_rfl) (fun _ _ _ h => h) ?_ hR (fun hR => ?_)
        rotate_left
        · intro w; go_simp; (first | done | (with_reducible rfl) | (refine (if_pos ?_).trans ?_; (focus omega); with_reducible rfl) | skip)
        (simp only [Act.put, List.setIfInBounds_toArray, List.set_cons_zero, List.set_cons_succ])
        refine oneE (i := 10) (by kernel_rfl) rfl (by exact rfl) (fun K_ hK_ => ?_)
        (obtain ⟨cur, q1, q2, q3, q4, hS⟩ := hS.rowCells 1 rfl; simp only [List.set_cons_succ, List.set_cons_zero] at hS; (have hcl : (insL L2 t).length * 2 ≤ cur.length := by rw [q1]; exact Nat.mul_le_mul_right _ q3); (have hfit : (cur[p * 2 + 1]?).isSome = true := by rw [List.getElem?_eq_getElem (by omega)]; rfl); (with_reducible apply opA_store1 hS 1); exact rfl; exact rfl; exact rfl; exact rfl; exact rfl; exact hfit; kernel_rfl; intro wx hS; (try simp only [Act.eval, Array.getD_eq_getD_getElem?, List.getElem?_toArray, List.getElem?_cons_succ, List.getElem?_cons_zero, Option.getD_some, List.set_cons_succ, List.set_cons_zero, Value.cells, List.toList_toArray] at hS))
        refine hK_ _ _ (fun h => by cases h) ?_; clear hK_ K_
        (simp only [Act.put, List.setIfInBounds_toArray, List.set_cons_zero, List.set_cons_succ])
        refine wpAnyR_done (by kernel_rfl) ?_ _
        go_wp2_with (first | ((with_reducible show WGd ..); (with_reducible apply wpA_guard); exact rfl; skip) | ((with_reducible show WLd ..); (with_reducible apply wpA_load); exact rfl; (first | ((with_reducible apply St.cellI hS); (focus repeat constructor); exact rfl) | assumption); kernel_rfl) | ((with_reducible show WSt ..); (with_reducible apply wpA_store1I hS); exact rfl; (focus repeat constructor); exact rfl; exact rfl; exact rfl; exact rfl; kernel_rfl; intro wx hS; (try simp only [Act.put, List.setIfInBounds_toArray, List.set_cons_zero, List.set_cons_succ]); (try simp only [Act.eval, Array.getD_eq_getD_getElem?, List.getElem?_toArray, List.getElem?_cons_succ, List.getElem?_cons_zero, Option.getD_some, List.set_cons_succ, List.set_cons_zero, Value.cells, List.toList_toArray] at hS)) | ((with_reducible show WBx ..); (with_reducible apply wpA_box hS); exact rfl; exact rfl; intro _ wx hS; (try simp only [Act.put, List.setIfInBounds_toArray, List.set_cons_zero, List.set_cons_succ]); (try simp only [Act.eval, Array.getD_eq_getD_getElem?, List.getElem?_toArray, List.getElem?_cons_succ, List.getElem?_cons_zero, Option.getD_some, List.set_cons_succ, List.set_cons_zero, Value.cells, List.toList_toArray] at hS)))
        go_ret
        refine ⟨rfl, ?_⟩
        obtain ⟨hL, hz, hL2s, hL2d, hp, hget, hD⟩ := HALL.out
        have hrow := row_set1 (f := FileR.cells) FileR.cells_length (v := .slice ia b.length ic) (q := 1) (y := ⟨t, ia, ic, b⟩) hget q2 hcl (by decide) rfl
        have hS2 := St.cellsRow hS 1 rfl (n := (insL L2 t).length) (cap := c3) (by rw [List.length_set]; exact q1) hrow q3 q4
        simp only [List.set_cons_succ, List.set_cons_zero] at hS2
        have e4 : (insL L2 t).set p ⟨t, ia, ic, b⟩ = L2.takeWhile (fun z => ltB z.nm t) ++ ⟨t, ia, ic, b⟩ :: L2.dropWhile (fun z => ltB z.nm t) := by rw [← hp]; exact insL_set L2 t _
        have e5 : ((insL L2 t).set p ⟨t, ia, ic, b⟩).length = (insL L2 t).length := List.length_set
        rw [← hD] at hS2
        have hS3 := St.takeOut (f := fhp) (A := [_, _]) (R := R) hz hS2
        have hS4 := hS3.sub (H' := [_, _] ++ (fhp ⟨s, ia, ic, b⟩ ++ (L2.flatMap fhp ++ R))) ((List.Sublist.refl [_, _]).append ((List.Sublist.refl _).append ((flat_sub_hp hL2s).append (List.Sublist.refl _))))
        have hpm : ((⟨t, ia, ic, b⟩ : FileR) :: L2).Perm ((insL L2 t).set p ⟨t, ia, ic, b⟩) := by
          rw [e4]
          refine List.Perm.trans ?_ List.perm_middle.symm
          rw [List.takeWhile_append_dropWhile]
        refine ⟨some ⟨g3, 0, none⟩, c3, (insL L2 t).set p ⟨t, ia, ic, b⟩, ?_, ?_⟩
        · rw [e4, List.map_append, List.map_cons]
          show _ = insR (removeR (removeR ρ s).1 t).1.l t b
          unfold insR
          rw [← hL2d, List.takeWhile_map, List.dropWhile_map]
          rfl
        · have hpf := (hpm.flatMap_right fhp).append_right R
          refine hS4.perm ?_
          show List.Perm (_ :: .row _ _ _ (insL L2 t).length _ _ :: _) (rdc x _ ((insL L2 t).set p ⟨t, ia, ic, b⟩).length c3 ρ.clock :: .row _ _ _ ((insL L2 t).set p ⟨t, ia, ic, b⟩).length _ _ :: _)
          rw [e5]
          refine List.Perm.cons _ (List.Perm.cons _ ?_)
          exact hpf
end
end Go.Proofs.Ytbigkonbdnbnpaa
