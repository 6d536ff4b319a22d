/-
  The locks, walked: names, Gone.
-/
import Derived.Sort.OwnSorted
import Derived.Test.YtelbpnlpmaihhaaLkP
import Derived.Test.YtelbpnlpmaihhaaSl19b
import Derived.Test.YtelbpnlpmaihhaaMapIter
import Derived.Test.YtelbpnlpmaihhaaGen2
import Derived.Deep.LoopGhost
namespace Go.Proofs.Ytelbpnlpmaihhaa
set_option linter.unusedVariables false
set_option linter.unusedSimpArgs false
open Go.RowKit Go.Sort

theorem enc_map (names : List ByteArray) : names.map Value.string = (names.map (·.data.toList)).map encStr := by
  rw [List.map_map]; rfl
theorem srtB_len (a : List ByteArray) : (srtB a).length = a.length := (srtB_self a).length_eq
theorem sortS_c {w0 w : World} {H : List Hp} (hS : St w0 w H) (i : Nat) {ao : Option Addr} {cap : Nat} {names : List ByteArray} (hi : H[i]? = some (.row 9 1 ao (names).length cap ((names).map Value.string))) (hl : names.length < 4611686018427387904) :
    Calls Try.prog 91 #[.slice ao names.length cap] w fun e w' => e = .returned (.tuple #[]) ∧ St w0 w' (H.set i (.row 9 1 ao names.length cap ((srtB names).map Value.string))) := by
  rcases row_cases (hS.at_ i hi) with ⟨rfl, h0, rfl, _⟩ | ⟨g, cur, rfl, hg, h1, h2, h3, h4⟩
  · obtain rfl := List.length_eq_zero_iff.1 h0
    refine (Try.slices_Sort_string_none none 0 w).mono ?_
    rintro e w' ⟨rfl, rfl⟩
    refine ⟨rfl, ?_⟩
    obtain ⟨hlt, e⟩ := List.getElem?_eq_some_iff.1 hi
    have : srtB [] = [] := by simp [srtB]
    rw [this, ← e, List.set_getElem_self]
    exact hS
  · have hln : (names.map (·.data.toList)).length = names.length := List.length_map _
    have h4' : cur.toList.take (names.map (·.data.toList)).length = (names.map (·.data.toList)).map encStr := by rw [hln, ← enc_map]; simpa using h4
    have hc := Try.slices_Sort_string g 0 cap (names.map (·.data.toList)) w (holds_of_block hg h4') (Array.getElem?_eq_some_iff.1 hg).1 (by rw [hln]; exact hl)
    rw [hln] at hc
    refine hc.mono ?_
    rintro e w' ⟨rfl, n, os, rfl⟩
    refine ⟨rfl, hS.setAt i hi (Turn.of_grown (grownBy_sorted _)) (by simp [Hp.fp]) (fun b hb => .inl hb) ?_⟩
    have := ownsRow_sorted (n := n) (os := os) (ss := names.map (·.data.toList)) (ts := (names.map (·.data.toList)).mergeSort fun x y => decide (x ≤ y)) (List.length_mergeSort _) (Nat.zero_le g) hg (by rw [hln]; exact h1) h2 h3
    rw [hln] at this
    have e2 : (srtB names).map Value.string = ((names.map (·.data.toList)).mergeSort fun x y => decide (x ≤ y)).map encStr := by
      unfold srtB
      rw [List.map_map]; rfl
    show World.ownsRow _ _ _ _ _ _ _
    rw [e2]
    exact this
theorem strings_c {w0 w : World} {H : List Hp} (hS : St w0 w H) (i : Nat) {ao : Option Addr} {cap : Nat} {names : List ByteArray} (hi : H[i]? = some (.row 9 1 ao (names).length cap ((names).map Value.string))) (hl : names.length < 4611686018427387904) :
    Calls Try.prog 82 #[.slice ao names.length cap] w fun e w' => (∃ v, e = .returned v) ∧ St w0 w' (H.set i (.row 9 1 ao names.length cap ((srtB names).map Value.string))) := by
  go_enter Try.func82, Try.ntmps82
  go_wp2_with (first | ((with_reducible show WGd ..); (with_reducible apply wpA_guard); exact rfl; skip) | (go_at_call 91; with_reducible refine (sortS_c hS i hi hl).mono ?_; rintro _ _ ⟨rfl, hS⟩) | ((with_reducible show WLd ..); (with_reducible apply wpA_load); exact rfl; (first | ((with_reducible apply St.cellI hS); (focus repeat constructor); exact rfl) | assumption); kernel_rfl) | ((with_reducible show WSt ..); (with_reducible apply wpA_store1I hS); exact rfl; (focus repeat constructor); exact rfl; exact rfl; exact rfl; exact rfl; kernel_rfl; intro wx hS; (try simp only [Act.put, List.setIfInBounds_toArray, List.set_cons_zero, List.set_cons_succ]); (try simp only [Act.eval, Array.getD_eq_getD_getElem?, List.getElem?_toArray, List.getElem?_cons_succ, List.getElem?_cons_zero, Option.getD_some, List.set_cons_succ, List.set_cons_zero, Value.cells, List.toList_toArray] at hS)) | ((with_reducible show WBx ..); (with_reducible apply wpA_box hS); exact rfl; exact rfl; intro _ wx hS; (try simp only [Act.put, List.setIfInBounds_toArray, List.set_cons_zero, List.set_cons_succ]); (try simp only [Act.eval, Array.getD_eq_getD_getElem?, List.getElem?_toArray, List.getElem?_cons_succ, List.getElem?_cons_zero, Option.getD_some, List.set_cons_succ, List.set_cons_zero, Value.cells, List.toList_toArray] at hS)))
  (first | go_end0 | (refine bodyPost_ret (results_none rfl _ _ _) rfl ?_))
  exact ⟨⟨_, rfl⟩, hS⟩

set_option maxRecDepth 100000 in
set_option maxHeartbeats 4000000 in
theorem names_c (w0 w : World) (R : List Hp) (g : Nat) (σ : LocksS) (h : LocksSt w0 w g σ R) (hl : σ.l.length ≤ 1000000) :
    Calls Try.prog 42 #[.pointer (some ⟨g, 0, none⟩)] w fun e w' => ∃ ao cap, e = .returned (.slice ao σ.l.length cap) ∧ LocksSt w0 w' g σ (.row 9 1 ao σ.l.length cap ((srtB (σ.l.map (·.1))).map Value.string) :: R) := by
  obtain ⟨m, Z, hZ, hS⟩ := h
  have hzl : Z.length = σ.l.length := by rw [← hZ, List.length_map]
  obtain ⟨D, hD⟩ : ∃ D, Z.flatMap (fun x => x.2.hp) ++ R = D := ⟨_, rfl⟩
  rw [hD] at hS
  have HZ := Lib.hid (And.intro hZ hD)
  clear hZ hD
  go_enter Try.func42, Try.ntmps42
  go_wp2_with (first | ((with_reducible show WGd ..); (with_reducible apply wpA_guard); exact rfl; skip) | ((with_reducible show wpList _ _ _ (⟨_, .range _ _, _, _, _, none⟩ :: _) _ _); (with_reducible apply wpA_range hS 1); exact rfl; exact rfl; exact Try.underlying66; intro r wx hS; (try simp only [Act.put, List.setIfInBounds_toArray, List.set_cons_zero, List.set_cons_succ])) | ((with_reducible show WLd ..); (with_reducible apply wpA_load); exact rfl; (first | ((with_reducible apply St.cellI hS); (focus repeat constructor); exact rfl) | assumption); kernel_rfl) | ((with_reducible show WSt ..); (with_reducible apply wpA_store1I hS); exact rfl; (focus repeat constructor); exact rfl; exact rfl; exact rfl; exact rfl; kernel_rfl; intro wx hS; (try simp only [Act.put, List.setIfInBounds_toArray, List.set_cons_zero, List.set_cons_succ]); (try simp only [Act.eval, Array.getD_eq_getD_getElem?, List.getElem?_toArray, List.getElem?_cons_succ, List.getElem?_cons_zero, Option.getD_some, List.set_cons_succ, List.set_cons_zero, Value.cells, List.toList_toArray] at hS)) | ((with_reducible show WBx ..); (with_reducible apply wpA_box hS); exact rfl; exact rfl; intro _ wx hS; (try simp only [Act.put, List.setIfInBounds_toArray, List.set_cons_zero, List.set_cons_succ]); (try simp only [Act.eval, Array.getD_eq_getD_getElem?, List.getElem?_toArray, List.getElem?_cons_succ, List.getElem?_cons_zero, Option.getD_some, List.set_cons_succ, List.set_cons_zero, Value.cells, List.toList_toArray] at hS)))
  go_loopg [3] Z.length (fun gk v wr => ∃ (Lz Dz : List (ByteArray × LM)) (ns : List ByteArray) (ao : Option Addr) (cap : Nat) (cur : Option (Value × Value)), v = .slice ao ns.length cap ∧ (Lz ++ Dz).Perm Z ∧ Hid (ns.Perm (Dz.map (·.1))) ∧ ns.length + Lz.length = Z.length ∧ Lz.length ≤ gk ∧
    St w0 wr (.cells g [.map (some m), .int .u64 σ.tok] 68 :: .mpi m .string (Z.map kvL) r (Lz.map kvL) cur :: .row 9 1 ao (ns).length cap ((ns).map Value.string) :: D))
  case atStart => exact ⟨Z, [], [], none, 0, none, rfl, by simp, Lib.hid (by simp), by simp, Nat.le_refl _, ((hS.nilRow 9 1).sel [1, 2, 0] 3 (by decide) (by decide) (by simp))⟩
  case round =>
    clear hS
    obtain ⟨Lz, Dz, ns, ao, cap, cur, rfl, hp, hns, hnl, hgk, hS⟩ := hrel
    by_cases hL : Lz = []
    · subst hL
      simp only [List.nil_append] at hp
      have HP := Lib.hid hp
      simp only [List.length_nil, Nat.add_zero] at hnl
      have hnb : ns.length ≤ 1000000 := by omega
      have HNL := Lib.hid (And.intro hnl hzl)
      clear hp hnl hzl
      go_wp2_with (first | ((with_reducible show WGd ..); (with_reducible apply wpA_guard); exact rfl; skip) | ((with_reducible show wpList _ _ _ (⟨_, .next _ _, _, _, _, none⟩ :: _) _ _); (with_reducible apply wpA_next hS 1); exact rfl; exact rfl; rotate_left; (intro j p wx hj; simp at hj); intro _; replace hS := hS.unrange 1 rfl; (try simp only [Act.put, List.setIfInBounds_toArray, List.set_cons_zero, List.set_cons_succ])) | (go_at_call 82; with_reducible refine (strings_c (names := ns) hS 2 rfl (by omega)).mono ?_; rintro _ _ ⟨⟨_, rfl⟩, hS⟩) | ((with_reducible show WLd ..); (with_reducible apply wpA_load); exact rfl; (first | ((with_reducible apply St.cellI hS); (focus repeat constructor); exact rfl) | assumption); kernel_rfl) | ((with_reducible show WSt ..); (with_reducible apply wpA_store1I hS); exact rfl; (focus repeat constructor); exact rfl; exact rfl; exact rfl; exact rfl; kernel_rfl; intro wx hS; (try simp only [Act.put, List.setIfInBounds_toArray, List.set_cons_zero, List.set_cons_succ]); (try simp only [Act.eval, Array.getD_eq_getD_getElem?, List.getElem?_toArray, List.getElem?_cons_succ, List.getElem?_cons_zero, Option.getD_some, List.set_cons_succ, List.set_cons_zero, Value.cells, List.toList_toArray] at hS)) | ((with_reducible show WBx ..); (with_reducible apply wpA_box hS); exact rfl; exact rfl; intro _ wx hS; (try simp only [Act.put, List.setIfInBounds_toArray, List.set_cons_zero, List.set_cons_succ]); (try simp only [Act.eval, Array.getD_eq_getD_getElem?, List.getElem?_toArray, List.getElem?_cons_succ, List.getElem?_cons_zero, Option.getD_some, List.set_cons_succ, List.set_cons_zero, Value.cells, List.toList_toArray] at hS)))
      go_ret
      have e1 : srtB ns = srtB (σ.l.map (·.1)) := by
        refine srtB_perm (hns.out.trans ((HP.out.map _).trans (List.Perm.of_eq ?_)))
        rw [← HZ.out.1, List.map_map]; rfl
      simp only [List.set_cons_succ, List.set_cons_zero] at hS
      obtain ⟨hnl, hzl⟩ := HNL.out
      refine ⟨ao, cap, by rw [← hzl, ← hnl]; rfl, m, Z, HZ.out.1, ?_⟩
      rw [← HZ.out.2, e1, hnl, hzl] at hS
      refine hS.perm (List.Perm.cons _ (List.Perm.cons _ List.perm_middle.symm))
    · have hne : Lz.map kvL ≠ [] := by simpa using hL
      have hbd : ns.length ≤ 1000000 := by omega
      go_wp2_with (first | ((with_reducible show WGd ..); (with_reducible apply wpA_guard); exact rfl; skip) | ((with_reducible show wpList _ _ _ (⟨_, .next _ _, _, _, _, none⟩ :: _) _ _); (with_reducible apply wpA_next hS 1); exact rfl; exact rfl; (intro h0_; exact absurd h0_ hne); intro j p wx hj0 hS; obtain ⟨⟨nm, z⟩, hj, rfl⟩ : ∃ z, Lz[j]? = some z ∧ kvL z = p := (by simpa using hj0); dsimp only [kvL] at hS; (try simp only [Act.put, List.setIfInBounds_toArray, List.set_cons_zero, List.set_cons_succ])) | ((with_reducible show wpList _ _ _ (⟨_, .entry _, _, _, _, none⟩ :: _) _ _); (with_reducible apply wpA_entry hS 1); exact rfl; exact rfl; (try simp only [Act.put, List.setIfInBounds_toArray, List.set_cons_zero, List.set_cons_succ])) | ((first | ((with_reducible show WBs ..); (with_reducible apply wpA_oneN hS (z := .string ⟨#[]⟩) (bytes := 16) (size := 1)); exact Try.underlying84; kernel_rfl; exact rfl; exact rfl; exact rfl; exact (by decide); exact (by decide); intro _ wx hS) | ((with_reducible show WBx ..); (with_reducible apply wpA_box hS); exact rfl; exact rfl; intro _ wx hS)); (try simp only [Act.put, List.setIfInBounds_toArray, List.set_cons_zero, List.set_cons_succ]); (try simp only [Act.eval, Array.getD_eq_getD_getElem?, List.getElem?_toArray, List.getElem?_cons_succ, List.getElem?_cons_zero, Option.getD_some, List.set_cons_succ, List.set_cons_zero, Value.cells, List.toList_toArray] at hS)) | ((with_reducible show WAp ..); (with_reducible apply wpA_appendI hS (e := 9) (z := .string ⟨#[]⟩) (size := 1) (bytes := 16)); exact rfl; exact rfl; exact Try.underlying84; (focus repeat constructor); exact .inr Try.underlying84; kernel_rfl; exact rfl; exact (Src.freshN (m := 1) hS 0 rfl rfl (by rfl)); exact (by unfold maxLen; omega); exact (by omega); intro ao5 cap5 wx hS; (try simp only [Act.put, List.setIfInBounds_toArray, List.set_cons_zero, List.set_cons_succ])) | ((with_reducible show WLd ..); (with_reducible apply wpA_load); exact rfl; (first | ((with_reducible apply St.cellI hS); (focus repeat constructor); exact rfl) | assumption); kernel_rfl) | ((with_reducible show WSt ..); (with_reducible apply wpA_store1I hS); exact rfl; (focus repeat constructor); exact rfl; exact rfl; exact rfl; exact rfl; kernel_rfl; intro wx hS; (try simp only [Act.put, List.setIfInBounds_toArray, List.set_cons_zero, List.set_cons_succ]); (try simp only [Act.eval, Array.getD_eq_getD_getElem?, List.getElem?_toArray, List.getElem?_cons_succ, List.getElem?_cons_zero, Option.getD_some, List.set_cons_succ, List.set_cons_zero, Value.cells, List.toList_toArray] at hS)))
      have hjl : j < Lz.length := (List.getElem?_eq_some_iff.1 hj).1
      (try simp only [Act.eval, Array.getD_eq_getD_getElem?, List.getElem?_toArray, List.getElem?_cons_succ, List.getElem?_cons_zero, Option.getD_some, List.set_cons_succ, List.set_cons_zero, Value.cells, List.toList_toArray] at hS)
      go_roundg (Lz.eraseIdx j).length
      case measure => rw [List.length_eraseIdx_of_lt hjl]; omega
      case rel =>
        refine ⟨Lz.eraseIdx j, (nm, z) :: Dz, ns ++ [nm], ao5, cap5, some (kvL (nm, z)), by simp, ?_, Lib.hid ?_, ?_, Nat.le_refl _, ?_⟩
        · exact (List.perm_middle.trans ((perm_front Lz j _ hj).append_right Dz)).trans hp
        · rw [List.map_cons]
          exact (hns.out.append_right [nm]).trans List.perm_append_comm
        · rw [List.length_append, List.length_eraseIdx_of_lt hjl]; simp only [List.length_cons, List.length_nil]; omega
        · have e1 : (.row 9 1 ao5 (ns ++ [nm]).length cap5 ((ns ++ [nm]).map Value.string) : Hp) = .row 9 1 ao5 (ns.length + 1) cap5 (ns.map Value.string ++ [.string nm]) := by simp
          rw [e1, ChangeMaps.map_eraseIdx]
          exact hS.tail
end Go.Proofs.Ytelbpnlpmaihhaa
