/-
  The disk's Rename and Files, walked.
-/
import Derived.Test.YtbigkonbdnbnpaaDiskFun
import Derived.Test.YtbigkonbdnbnpaaIterC
namespace Go.Proofs.Ytbigkonbdnbnpaa
set_option linter.unusedVariables false
set_option linter.unusedSimpArgs false
open Go.RowKit

theorem FilesH.put {l : List (ByteArray × FileS)} {kvs : List (Value × Value)} {H : List Hp} (h : FilesH l kvs H) : ∀ {i : Nat} {x : ByteArray × FileS}, l[i]? = some x → ∀ {nm : ByteArray} {f : FileS} {p : Nat} {Hf : List Hp}, FileH p f Hf →
    ∃ Hx Hr H' v, kvs[i]? = some (.string x.1, v) ∧ H.Perm (Hx ++ Hr) ∧ FilesH (l.set i (nm, f)) (kvs.set i (.string nm, .pointer (some ⟨p, 0, none⟩))) H' ∧ H'.Perm (Hf ++ Hr) := by
  induction h with
  | nil => intro i x hi; simp at hi
  | @cons nm0 f0 l p0 kvs Hf0 H hf r ih =>
    intro i x hi nm f p Hf hf'
    cases i with
    | zero =>
      simp at hi
      obtain rfl := hi
      exact ⟨Hf0, H, _, _, rfl, .refl _, .cons hf' r, .refl _⟩
    | succ i =>
      simp only [List.getElem?_cons_succ] at hi
      obtain ⟨Hx, Hr, H', v, h1, h2, h3, h4⟩ := ih hi hf'
      exact ⟨Hx, Hf0 ++ Hr, Hf0 ++ H', v, by simpa using h1, (h2.append_left Hf0).trans (swap3 _ _ _), .cons hf h3, (h4.append_left Hf0).trans (swap3 _ _ _)⟩

def renameD (σ : DiskS) (s t : ByteArray) : DiskS × Int :=
  if nameC t = false then (σ, 1) else
  match at? σ s with
  | none => (σ, 5)
  | some i => match σ.l[i]? with
    | none => (σ, 0)
    | some (_, f) => match at? ⟨σ.l.eraseIdx i, σ.clock⟩ t with
      | none => (⟨σ.l.eraseIdx i ++ [(t, f)], σ.clock⟩, 0)
      | some j => (⟨(σ.l.eraseIdx i).set j (t, f), σ.clock⟩, 0)

set_option maxHeartbeats 1000000 in
theorem rename_d (w0 w : World) (R : List Hp) (g : Nat) (σ : DiskS) (s t : ByteArray) (hD : DiskSt w0 w g σ R) :
    Calls Try.prog 18 #[.pointer (some ⟨g, 0, none⟩), .string s, .string t] w fun e w' => e = .returned (.int .i64 (renameD σ s t).2) ∧ DiskSt w0 w' g (renameD σ s t).1 R := by
  unfold renameD
  rw [← nameB_eq]
  have hc := named_c t w
  by_cases hn : nameB t = false
  · rw [if_pos hn]
    rw [hn] at hc
    go_enter Try.func18, Try.ntmps18
    go_wp2_with (first | ((with_reducible show WGd ..); (with_reducible apply wpA_guard); exact rfl; skip) | (go_at_call 20; with_reducible refine (hc).mono ?_; rintro _ _ ⟨rfl, rfl⟩) | ((with_reducible show WLd ..); (with_reducible apply wpA_load); exact rfl; (first | ((with_reducible apply St.cellI hS); (focus repeat constructor); exact rfl) | assumption); kernel_rfl) | ((with_reducible show WSt ..); (with_reducible apply wpA_store1I hS); exact rfl; (focus repeat constructor); exact rfl; exact rfl; exact rfl; exact rfl; kernel_rfl; intro wx hS; (try simp only [Act.put, List.setIfInBounds_toArray, List.set_cons_zero, List.set_cons_succ]); (try simp only [Act.eval, Array.getD_eq_getD_getElem?, List.getElem?_toArray, List.getElem?_cons_succ, List.getElem?_cons_zero, Option.getD_some, List.set_cons_succ, List.set_cons_zero, Value.cells, List.toList_toArray] at hS)) | ((with_reducible show WBx ..); (with_reducible apply wpA_box hS); exact rfl; exact rfl; intro _ wx hS; (try simp only [Act.put, List.setIfInBounds_toArray, List.set_cons_zero, List.set_cons_succ]); (try simp only [Act.eval, Array.getD_eq_getD_getElem?, List.getElem?_toArray, List.getElem?_cons_succ, List.getElem?_cons_zero, Option.getD_some, List.set_cons_succ, List.set_cons_zero, Value.cells, List.toList_toArray] at hS)))
    go_ret
    exact ⟨rfl, hD⟩
  · rw [if_neg hn]
    have hn : nameB t = true := by simpa using hn
    rw [hn] at hc
    cases hi : at? σ s with
    | none =>
      obtain ⟨m, kvs, H, hF, hS⟩ := hD
      have hf := find_c w0 w _ g m σ.clock kvs s hS none (hF.absent (at?_none hi))
      go_enter Try.func18, Try.ntmps18
      go_wp2_with (first | ((with_reducible show WGd ..); (with_reducible apply wpA_guard); exact rfl; skip) | (go_at_call 20; with_reducible refine (hc).mono ?_; rintro _ _ ⟨rfl, rfl⟩) | (go_at_call 21; with_reducible refine (hf).mono ?_; rintro _ _ ⟨rfl, rfl⟩) | ((with_reducible show WLd ..); (with_reducible apply wpA_load); exact rfl; (first | ((with_reducible apply St.cellI hS); (focus repeat constructor); exact rfl) | assumption); kernel_rfl) | ((with_reducible show WSt ..); (with_reducible apply wpA_store1I hS); exact rfl; (focus repeat constructor); exact rfl; exact rfl; exact rfl; exact rfl; kernel_rfl; intro wx hS; (try simp only [Act.put, List.setIfInBounds_toArray, List.set_cons_zero, List.set_cons_succ]); (try simp only [Act.eval, Array.getD_eq_getD_getElem?, List.getElem?_toArray, List.getElem?_cons_succ, List.getElem?_cons_zero, Option.getD_some, List.set_cons_succ, List.set_cons_zero, Value.cells, List.toList_toArray] at hS)) | ((with_reducible show WBx ..); (with_reducible apply wpA_box hS); exact rfl; exact rfl; intro _ wx hS; (try simp only [Act.put, List.setIfInBounds_toArray, List.set_cons_zero, List.set_cons_succ]); (try simp only [Act.eval, Array.getD_eq_getD_getElem?, List.getElem?_toArray, List.getElem?_cons_succ, List.getElem?_cons_zero, Option.getD_some, List.set_cons_succ, List.set_cons_zero, Value.cells, List.toList_toArray] at hS)))
      go_ret
      exact ⟨rfl, m, kvs, H, hF, hS⟩
    | some i =>
      obtain ⟨f, hf⟩ := at?_some hi
      simp only [hf]
      obtain ⟨m, kvs, H, hF, hS⟩ := hD
      obtain ⟨p, Hf, Hr, h1, h2, h3, _, H5, h5, h6⟩ := hF.get hf
      have hfind := find_c w0 w _ g m σ.clock kvs s hS (some ⟨p, 0, none⟩) ⟨i, h1⟩
      cases hj : at? ⟨σ.l.eraseIdx i, σ.clock⟩ t with
      | none =>
        have hab := h5.absent (at?_none hj)
        have HJ := Lib.hid hj
        clear hj
        go_enter Try.func18, Try.ntmps18
        go_wp2_with (first | ((with_reducible show WGd ..); (with_reducible apply wpA_guard); exact rfl; skip) | (go_at_call 20; with_reducible refine (hc).mono ?_; rintro _ _ ⟨rfl, rfl⟩) | (go_at_call 21; with_reducible refine (hfind).mono ?_; rintro _ _ ⟨rfl, rfl⟩) | ((with_reducible show WDe ..); (with_reducible apply wpA_delete hS 1); exact rfl; exact rfl; exact rfl; exact Try.underlying49; exact Try.underlying9; exact trivial; exact (.inr ⟨i, _, h1, rfl⟩); intro wx hS; (try simp only [Act.put, List.setIfInBounds_toArray, List.set_cons_zero, List.set_cons_succ])) | ((with_reducible show WUp ..); (with_reducible apply wpA_update_new hS 1); exact rfl; exact rfl; exact rfl; exact rfl; exact Try.underlying49; exact Try.underlying9; exact trivial; exact hab; intro wx hS; (try simp only [Act.put, List.setIfInBounds_toArray, List.set_cons_zero, List.set_cons_succ]); (try simp only [Act.eval, Array.getD_eq_getD_getElem?, List.getElem?_toArray, List.getElem?_cons_succ, List.getElem?_cons_zero, Option.getD_some, List.set_cons_succ, List.set_cons_zero, Value.cells, List.toList_toArray] at hS)) | ((with_reducible show WLd ..); (with_reducible apply wpA_load); exact rfl; (first | ((with_reducible apply St.cellI hS); (focus repeat constructor); exact rfl) | assumption); kernel_rfl) | ((with_reducible show WSt ..); (with_reducible apply wpA_store1I hS); exact rfl; (focus repeat constructor); exact rfl; exact rfl; exact rfl; exact rfl; kernel_rfl; intro wx hS; (try simp only [Act.put, List.setIfInBounds_toArray, List.set_cons_zero, List.set_cons_succ]); (try simp only [Act.eval, Array.getD_eq_getD_getElem?, List.getElem?_toArray, List.getElem?_cons_succ, List.getElem?_cons_zero, Option.getD_some, List.set_cons_succ, List.set_cons_zero, Value.cells, List.toList_toArray] at hS)) | ((with_reducible show WBx ..); (with_reducible apply wpA_box hS); exact rfl; exact rfl; intro _ wx hS; (try simp only [Act.put, List.setIfInBounds_toArray, List.set_cons_zero, List.set_cons_succ]); (try simp only [Act.eval, Array.getD_eq_getD_getElem?, List.getElem?_toArray, List.getElem?_cons_succ, List.getElem?_cons_zero, Option.getD_some, List.set_cons_succ, List.set_cons_zero, Value.cells, List.toList_toArray] at hS)))
        go_ret
        obtain ⟨H7, g1, g2⟩ := h5.snoc (nm := t) h2
        refine ⟨rfl, m, _, H7, g1, hS.perm (.cons _ (.cons _ (((g2.trans (h6.append_left Hf)).trans h3.symm).append_right R).symm))⟩
      | some j =>
        obtain ⟨f2, hf2⟩ := at?_some hj
        obtain ⟨Hx, Hr2, H7, v, g0, g1, g2, g3⟩ := h5.put hf2 (nm := t) h2
        have HJ := Lib.hid hj
        clear hj
        go_enter Try.func18, Try.ntmps18
        go_wp2_with (first | ((with_reducible show WGd ..); (with_reducible apply wpA_guard); exact rfl; skip) | (go_at_call 20; with_reducible refine (hc).mono ?_; rintro _ _ ⟨rfl, rfl⟩) | (go_at_call 21; with_reducible refine (hfind).mono ?_; rintro _ _ ⟨rfl, rfl⟩) | ((with_reducible show WDe ..); (with_reducible apply wpA_delete hS 1); exact rfl; exact rfl; exact rfl; exact Try.underlying49; exact Try.underlying9; exact trivial; exact (.inr ⟨i, _, h1, rfl⟩); intro wx hS; (try simp only [Act.put, List.setIfInBounds_toArray, List.set_cons_zero, List.set_cons_succ])) | ((with_reducible show WUp ..); (with_reducible apply wpA_update_old hS 1); exact rfl; exact rfl; exact rfl; exact rfl; exact Try.underlying49; exact Try.underlying9; exact trivial; exact g0; intro wx hS; (try simp only [Act.put, List.setIfInBounds_toArray, List.set_cons_zero, List.set_cons_succ]); (try simp only [Act.eval, Array.getD_eq_getD_getElem?, List.getElem?_toArray, List.getElem?_cons_succ, List.getElem?_cons_zero, Option.getD_some, List.set_cons_succ, List.set_cons_zero, Value.cells, List.toList_toArray] at hS)) | ((with_reducible show WLd ..); (with_reducible apply wpA_load); exact rfl; (first | ((with_reducible apply St.cellI hS); (focus repeat constructor); exact rfl) | assumption); kernel_rfl) | ((with_reducible show WSt ..); (with_reducible apply wpA_store1I hS); exact rfl; (focus repeat constructor); exact rfl; exact rfl; exact rfl; exact rfl; kernel_rfl; intro wx hS; (try simp only [Act.put, List.setIfInBounds_toArray, List.set_cons_zero, List.set_cons_succ]); (try simp only [Act.eval, Array.getD_eq_getD_getElem?, List.getElem?_toArray, List.getElem?_cons_succ, List.getElem?_cons_zero, Option.getD_some, List.set_cons_succ, List.set_cons_zero, Value.cells, List.toList_toArray] at hS)) | ((with_reducible show WBx ..); (with_reducible apply wpA_box hS); exact rfl; exact rfl; intro _ wx hS; (try simp only [Act.put, List.setIfInBounds_toArray, List.set_cons_zero, List.set_cons_succ]); (try simp only [Act.eval, Array.getD_eq_getD_getElem?, List.getElem?_toArray, List.getElem?_cons_succ, List.getElem?_cons_zero, Option.getD_some, List.set_cons_succ, List.set_cons_zero, Value.cells, List.toList_toArray] at hS)))
        go_ret
        have e1 : H.Perm (Hx ++ (Hf ++ Hr2)) := (h3.trans ((h6.symm.trans g1).append_left Hf)).trans (swap3 _ _ _)
        have hS2 := hS.perm (.cons _ (.cons _ (e1.append_right R)))
        rw [List.append_assoc] at hS2
        have hS3 := hS2.sub (.cons_cons _ (.cons_cons _ (List.sublist_append_right Hx _)))
        exact ⟨rfl, m, _, H7, g2, hS3.perm (.cons _ (.cons _ (g3.append_right R).symm))⟩

def namesD (σ : DiskS) : List ByteArray := σ.l.map (·.1)

theorem files_d (w0 w : World) (R : List Hp) (g : Nat) (σ : DiskS) (hD : DiskSt w0 w g σ R) (hl : σ.l.length ≤ 4611686018427) (hs : ∀ x ∈ σ.l, x.1.size ≤ maxLen) :
    Calls Try.prog 19 #[.pointer (some ⟨g, 0, none⟩)] w fun e w' => ∃ ao cap, e = .returned (.slice ao σ.l.length cap) ∧ DiskSt w0 w' g σ (.row 9 1 ao σ.l.length cap ((sortB (namesD σ)).map Value.string) :: R) := by
  obtain ⟨m, kvs, H, hF, hS⟩ := hD
  have hk : kvs.map (·.1) = (namesD σ).map Value.string := by rw [hF.keys, namesD, List.map_map]; rfl
  have hn : (namesD σ).length = σ.l.length := by simp [namesD]
  have hs' : ∀ s ∈ namesD σ, s.size ≤ maxLen := fun s h => by
    obtain ⟨x, h1, rfl⟩ := List.mem_map.1 h
    exact hs x h1
  have hK := callsIn_wide.1 (Try.maps_Keys_34 (some m) w)
  have hSo := sorted_keys_c hS 1 rfl hk (by omega) hs'
  rw [hn] at hSo
  clear hs' hn hk
  go_enter Try.func19, Try.ntmps19
  go_wp2_with (first | ((with_reducible show WGd ..); (with_reducible apply wpA_guard); exact rfl; skip) | (go_at_call 34; with_reducible refine (hK).mono ?_; rintro _ _ ⟨rfl, rfl⟩) | (go_at_call 33; refine hSo.mono ?_; rintro _ wx ⟨ao, cap, rfl, hS⟩) | ((with_reducible show WLd ..); (with_reducible apply wpA_load); exact rfl; (first | ((with_reducible apply St.cellI hS); (focus repeat constructor); exact rfl) | assumption); kernel_rfl) | ((with_reducible show WSt ..); (with_reducible apply wpA_store1I hS); exact rfl; (focus repeat constructor); exact rfl; exact rfl; exact rfl; exact rfl; kernel_rfl; intro wx hS; (try simp only [Act.put, List.setIfInBounds_toArray, List.set_cons_zero, List.set_cons_succ]); (try simp only [Act.eval, Array.getD_eq_getD_getElem?, List.getElem?_toArray, List.getElem?_cons_succ, List.getElem?_cons_zero, Option.getD_some, List.set_cons_succ, List.set_cons_zero, Value.cells, List.toList_toArray] at hS)) | ((with_reducible show WBx ..); (with_reducible apply wpA_box hS); exact rfl; exact rfl; intro _ wx hS; (try simp only [Act.put, List.setIfInBounds_toArray, List.set_cons_zero, List.set_cons_succ]); (try simp only [Act.eval, Array.getD_eq_getD_getElem?, List.getElem?_toArray, List.getElem?_cons_succ, List.getElem?_cons_zero, Option.getD_some, List.set_cons_succ, List.set_cons_zero, Value.cells, List.toList_toArray] at hS)))
  go_ret
  exact ⟨ao, cap, rfl, m, kvs, H, hF, hS.perm (by
    refine .trans (.swap _ _ _) (.cons _ (.trans (.swap _ _ _) (.cons _ ?_)))
    exact (List.perm_middle (a := Hp.row 9 1 ao σ.l.length cap ((sortB (namesD σ)).map Value.string)) (l₁ := H) (l₂ := R)).symm)⟩
end Go.Proofs.Ytbigkonbdnbnpaa
