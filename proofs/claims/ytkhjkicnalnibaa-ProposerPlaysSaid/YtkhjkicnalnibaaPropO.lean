/-
  A proposer's Open, walked.
-/
import Derived.Test.YtkhjkicnalnibaaPropW2
import Derived.Test.YtkhjkicnalnibaaIterCI
namespace Go.Proofs.Ytkhjkicnalnibaa
set_option linter.unusedVariables false
set_option linter.unusedSimpArgs false
open Go.RowKit

section
variable {w0 w : World} {R : List Hp} {p : Nat} {σ : PropS}

theorem sortI_rise {l : List SlotS} (hr : l.Pairwise fun x y => x.e.slot < y.e.slot) : sortIK (l.map fun x => x.e.slot) = l.map fun x => x.e.slot := by
  unfold sortIK
  refine List.mergeSort_of_pairwise ?_
  rw [List.pairwise_map]
  exact hr.imp fun h => by simp [leI]; omega

set_option maxRecDepth 100000 in
set_option maxHeartbeats 4000000 in
theorem open_c (h : PropSt w0 w p σ R) (hr : σ.opn.Pairwise fun x y => x.e.slot < y.e.slot) (hl : σ.opn.length ≤ 1000000) (hwf : ∀ x ∈ σ.opn, -9223372036854775808 ≤ x.e.slot ∧ x.e.slot ≤ 9223372036854775807) :
    Calls Try.prog 23 #[.pointer (some ⟨p, 0, none⟩)] w fun e w' => ∃ ao cap, e = .returned (.slice ao (σ.opn.map (·.e)).length cap) ∧ PropSt w0 w' p σ (vrow ao cap (σ.opn.map (·.e)) :: R) := by
  obtain ⟨mw, mb, mo, va, vc, O, hO, hS⟩ := h
  have hOl : O.length = σ.opn.length := by rw [← hO]; simp
  have hsort := sortI_rise hr
  have hnm : (O.map kvO).map (·.1) = (σ.opn.map fun x => x.e.slot).map (Value.int .i64) := by rw [← hO]; simp [kvO, List.map_map, Function.comp_def]
  have hwf2 : ∀ s ∈ (σ.opn.map fun x => x.e.slot), (Lit.int .i64 s).wf = true := by
    intro s hs
    obtain ⟨x, hx, rfl⟩ := List.mem_map.1 hs
    have := hwf x hx
    simp only [Lit.wf, Bool.and_eq_true, decide_eq_true_eq]
    exact this
  have hfin : ∀ ao cap w' l, l = σ.opn.map (·.e) → St w0 w' (vrow ao cap l :: pc p mw mb mo σ va σ.vals.length vc :: .mp mw (.int .i64) (σ.who.map kvW) :: .mp mb (.int .i64) (σ.best.map kvB) :: vrow va vc σ.vals :: .mp mo (.int .i64) (O.map kvO) :: (O.flatMap ohp ++ R)) → PropSt w0 w' p σ (vrow ao cap (σ.opn.map (·.e)) :: R) := fun ao cap w' l hl h => by
    subst hl
    exact ⟨mw, mb, mo, va, vc, O, hO, h.perm (List.perm_middle (l₁ := [_, _, _, _, _] ++ O.flatMap ohp)).symm⟩
  have hcell : ∀ w H (i : Nat) (z : SlotM), St w0 w (H ++ (O.flatMap ohp ++ R)) → O[i]? = some z → w.rangeAt z.blk 0 z.s.e.cells := by
    intro w H i z hS hz
    have h2 := St.takeOut (f := ohp) (A := H) (R := R) hz hS
    have h3 := Hp.range (St.perm h2 (swapL _ _ _)) 0 rfl 0 7
    simpa [EntS.cells] using h3
  have HC := Lib.hid hcell
  have HF := Lib.hid hfin
  have HN := Lib.hid (And.intro hnm (And.intro hwf2 (And.intro hsort (And.intro hO hOl))))
  clear hcell hfin hnm hwf2 hsort hO hr hwf
  obtain ⟨n, ballot, frm, next, who, best, ready, vals, opn⟩ := σ
  simp only at hS HF HN hl hOl ⊢
  obtain ⟨D, hD⟩ : ∃ D, O.flatMap ohp ++ R = D := ⟨_, rfl⟩
  rw [hD] at hS HC HF
  clear hD
  have hsz : (opn.map fun x => x.e.slot).length = opn.length := by simp
  have hS := hS.nilRow 30 7
  go_enter Try.func23, Try.ntmps23
  have hsrt : ∀ (w : World) (A B C D1 E1 : Hp) (H : List Hp), St w0 w (A :: B :: C :: D1 :: E1 :: .mp mo (.int .i64) (O.map kvO) :: H) → Calls Try.prog 33 #[.func (.func 38) #[] #[.pointer (some ⟨w.heap.size, 0, none⟩)]] (w.alloc (.cells #[.map (some mo)] 56)) fun e w' =>
      ∃ ao cap, e = .returned (.slice ao opn.length cap) ∧ St w0 w' (.row 3 1 ao opn.length cap ((opn.map fun x => x.e.slot).map (Value.int .i64)) :: A :: B :: C :: D1 :: E1 :: .mp mo (.int .i64) (O.map kvO) :: H) := by
    intro w A B C D1 E1 H h
    have h1 := sorted_keysI_c h 5 (names := opn.map fun x => x.e.slot) rfl HN.out.1 (by rw [hsz]; omega) HN.out.2.1
    rw [HN.out.2.2.1, hsz] at h1
    exact h1
  have HSR := Lib.hid hsrt
  clear hsrt hsz
  go_upto_block 0 with (first | ((with_reducible show WGd ..); (with_reducible apply wpA_guard); exact rfl; skip) | (go_at_call 34; with_reducible refine (callsIn_wide.1 (Try.imaps_Keys_34 (some mo) _)).mono ?_; rintro _ _ ⟨rfl, rfl⟩) | (go_at_call 33; refine (HSR.out _ _ _ _ _ _ _ hS).mono ?_; rintro _ wx ⟨aN, capN, rfl, hS⟩) | ((with_reducible show WLd ..); (with_reducible apply wpA_load); exact rfl; (first | ((with_reducible apply St.cellI hS); (focus repeat constructor); exact rfl) | assumption); kernel_rfl) | ((with_reducible show WSt ..); (with_reducible apply wpA_store1I hS); exact rfl; (focus repeat constructor); exact rfl; exact rfl; exact rfl; exact rfl; kernel_rfl; intro wx hS; (try simp only [Act.put, List.setIfInBounds_toArray, List.set_cons_zero, List.set_cons_succ]); (try simp only [Act.eval, Array.getD_eq_getD_getElem?, List.getElem?_toArray, List.getElem?_cons_succ, List.getElem?_cons_zero, Option.getD_some, List.set_cons_succ, List.set_cons_zero, Value.cells, List.toList_toArray] at hS)) | ((with_reducible show WBx ..); (with_reducible apply wpA_box hS); exact rfl; exact rfl; intro _ wx hS; (try simp only [Act.put, List.setIfInBounds_toArray, List.set_cons_zero, List.set_cons_succ]); (try simp only [Act.eval, Array.getD_eq_getD_getElem?, List.getElem?_toArray, List.getElem?_cons_succ, List.getElem?_cons_zero, Option.getD_some, List.set_cons_succ, List.set_cons_zero, Value.cells, List.toList_toArray] at hS)))
  go_cut [3] (fun v wr => ∃ ao cap, v = .slice ao (opn.map (·.e)).length cap ∧ PropSt w0 wr p ⟨n, ballot, frm, next, who, best, ready, vals, opn⟩ (vrow ao cap (opn.map (·.e)) :: R))
  case first =>
    go_wp2_with (first | ((with_reducible show WGd ..); (with_reducible apply wpA_guard); exact rfl; skip) | ((with_reducible show WLd ..); (with_reducible apply wpA_load); exact rfl; (first | ((with_reducible apply St.cellI hS); (focus repeat constructor); exact rfl) | assumption); kernel_rfl) | ((with_reducible show WSt ..); (with_reducible apply wpA_store1I hS); exact rfl; (focus repeat constructor); exact rfl; exact rfl; exact rfl; exact rfl; kernel_rfl; intro wx hS; (try simp only [Act.put, List.setIfInBounds_toArray, List.set_cons_zero, List.set_cons_succ]); (try simp only [Act.eval, Array.getD_eq_getD_getElem?, List.getElem?_toArray, List.getElem?_cons_succ, List.getElem?_cons_zero, Option.getD_some, List.set_cons_succ, List.set_cons_zero, Value.cells, List.toList_toArray] at hS)) | ((with_reducible show WBx ..); (with_reducible apply wpA_box hS); exact rfl; exact rfl; intro _ wx hS; (try simp only [Act.put, List.setIfInBounds_toArray, List.set_cons_zero, List.set_cons_succ]); (try simp only [Act.eval, Array.getD_eq_getD_getElem?, List.getElem?_toArray, List.getElem?_cons_succ, List.getElem?_cons_zero, Option.getD_some, List.set_cons_succ, List.set_cons_zero, Value.cells, List.toList_toArray] at hS)))
    go_loopw [15, 3] (fun c v wr => ∃ (i : Nat) (ao : Option Addr) (cap : Nat), i ≤ opn.length ∧ c = .int .i64 i ∧ v = .slice ao ((opn.take i).map (·.e)).length cap ∧
      St w0 wr (vrow ao cap ((opn.take i).map (·.e)) :: .row 3 1 aN opn.length capN ((opn.map fun x => x.e.slot).map (Value.int .i64)) :: pc p mw mb mo ⟨n, ballot, frm, next, who, best, ready, vals, opn⟩ va vals.length vc :: .mp mw (.int .i64) (who.map kvW) :: .mp mb (.int .i64) (best.map kvB) :: vrow va vc vals :: .mp mo (.int .i64) (O.map kvO) :: D)) (fun c _ _ => opn.length - (intOf c).toNat)
    case atStart => exact ⟨0, none, 0, Nat.zero_le _, rfl, rfl, hS.perm (.swap _ _ _)⟩
    case round =>
      clear hS
      obtain ⟨i, ao, cap, hi, rfl, rfl, hS⟩ := hrel
      by_cases hlt : i < opn.length
      · obtain ⟨z, hz⟩ : ∃ z, O[i]? = some z := ⟨_, List.getElem?_eq_getElem (by omega)⟩
        have ho : opn[i]? = some z.s := by
          have := HN.out.2.2.2.1
          rw [← this, List.getElem?_map, hz]; rfl
        have hcl := HC.out wr [_, _, _, _, _, _, _] i z hS hz
        rcases row_head (hS.at_ 1 rfl) with ⟨_, hh, _⟩ | ⟨⟨gN, rfl⟩, _⟩
        · omega
        have hk : ((opn.map fun x => x.e.slot).map (Value.int .i64))[i]? = some (.int .i64 z.s.e.slot) := by rw [List.getElem?_map, List.getElem?_map, ho]; rfl
        have hlk : ∃ j : Nat, (O.map kvO)[j]? = some (Value.int .i64 z.s.e.slot, Value.pointer (some ⟨z.blk, 0, none⟩)) := ⟨i, by rw [List.getElem?_map, hz]; rfl⟩
        have htk : (opn.take (i + 1)).map (·.e) = (opn.take i).map (·.e) ++ [z.s.e] := by rw [List.take_add_one, ho]; simp
        obtain ⟨blk, mw1, ⟨⟨sl, bl, ⟨ck, cs, cq, cn, c5⟩⟩, xw, mo1⟩⟩ := z
        simp only [EntS.cells] at hcl
        have HCL := Lib.hid hcl
        have HK := Lib.hid hk
        have HLK := Lib.hid hlk
        have HT := Lib.hid htk
        have hcl2 : ((opn.take i).map (·.e)).length = i := by rw [List.length_map, List.length_take]; omega
        simp only [vrow, hcl2] at hS ⊢
        clear hcl hk hlk htk hz ho hcl2
        go_wp2_with (first | ((with_reducible show WGd ..); (with_reducible apply wpA_guard); exact rfl; skip) | ((with_reducible show WLd ..); (with_reducible apply wpA_load); exact rfl; exact row_cell (hS.at_ 1 rfl) i HK.out; kernel_rfl) | ((with_reducible apply wpA_lookup hS 6 (z := .pointer none) (r := some (.pointer (some ⟨blk, 0, none⟩)))); exact rfl; exact rfl; exact rfl; exact Try.underlying56; exact Try.underlying3; exact rfl; kernel_rfl; exact HLK.out; dsimp only [Option.getD, Option.isSome, if_true, Bool.false_eq_true, if_false]) | ((with_reducible show WLd ..); (with_reducible apply wpA_loadN (t := 30)); exact rfl; exact HCL.out; kernel_rfl; kernel_rfl; (try simp only [Act.put, List.setIfInBounds_toArray, List.set_cons_zero, List.set_cons_succ])) | ((first | ((with_reducible show WBs ..); (with_reducible apply wpA_oneN hS (z := .agg #[.int .i64 0, .int .i64 0, .int .i64 0, .int .i64 0, .int .i64 0, .string ⟨#[]⟩, .int .i64 0]) (bytes := 64) (size := 7)); exact Try.underlying26; kernel_rfl; exact rfl; exact rfl; exact rfl; exact (by decide); exact (by decide); intro _ wx hS) | ((with_reducible show WBx ..); (with_reducible apply wpA_box hS); exact rfl; exact rfl; intro _ wx hS)); (try simp only [Act.put, List.setIfInBounds_toArray, List.set_cons_zero, List.set_cons_succ]); (try simp only [Act.eval, Array.getD_eq_getD_getElem?, List.getElem?_toArray, List.getElem?_cons_succ, List.getElem?_cons_zero, Option.getD_some, List.set_cons_succ, List.set_cons_zero, Value.cells, List.toList_toArray] at hS)) | ((with_reducible show WAp ..); (with_reducible apply wpA_appendI hS (e := 30) (z := .agg #[.int .i64 0, .int .i64 0, .int .i64 0, .int .i64 0, .int .i64 0, .string ⟨#[]⟩, .int .i64 0]) (size := 7) (bytes := 64)); exact rfl; exact rfl; exact Try.underlying26; (focus repeat constructor); exact .inr Try.underlying26; kernel_rfl; exact rfl; exact (Src.freshN (m := 1) hS 0 rfl rfl (by rfl)); exact (by unfold maxLen; omega); exact (by omega); intro ao2 cap2 wx hS; (try simp only [Act.put, List.setIfInBounds_toArray, List.set_cons_zero, List.set_cons_succ])) | ((with_reducible show WLd ..); (with_reducible apply wpA_load); exact rfl; (first | ((with_reducible apply St.cellI hS); (focus repeat constructor); exact rfl) | assumption); kernel_rfl) | ((with_reducible show WSt ..); (with_reducible apply wpA_store1I hS); exact rfl; (focus repeat constructor); exact rfl; exact rfl; exact rfl; exact rfl; kernel_rfl; intro wx hS; (try simp only [Act.put, List.setIfInBounds_toArray, List.set_cons_zero, List.set_cons_succ]); (try simp only [Act.eval, Array.getD_eq_getD_getElem?, List.getElem?_toArray, List.getElem?_cons_succ, List.getElem?_cons_zero, Option.getD_some, List.set_cons_succ, List.set_cons_zero, Value.cells, List.toList_toArray] at hS)))
        go_roundw
        case rel =>
          refine ⟨i + 1, ao2, cap2, by omega, by go_num, by rw [HT.out]; simp; omega, ?_⟩
          rw [HT.out]
          simp only [List.length_append, List.length_map, List.length_take, List.length_cons, List.length_nil, List.flatMap_append, Nat.min_eq_left hi]
          exact hS.tail
        case measure => simp [intOf]; omega
      · obtain rfl : i = opn.length := by omega
        go_wp2_with (first | ((with_reducible show WGd ..); (with_reducible apply wpA_guard); exact rfl; skip) | ((with_reducible show WLd ..); (with_reducible apply wpA_load); exact rfl; (first | ((with_reducible apply St.cellI hS); (focus repeat constructor); exact rfl) | assumption); kernel_rfl) | ((with_reducible show WSt ..); (with_reducible apply wpA_store1I hS); exact rfl; (focus repeat constructor); exact rfl; exact rfl; exact rfl; exact rfl; kernel_rfl; intro wx hS; (try simp only [Act.put, List.setIfInBounds_toArray, List.set_cons_zero, List.set_cons_succ]); (try simp only [Act.eval, Array.getD_eq_getD_getElem?, List.getElem?_toArray, List.getElem?_cons_succ, List.getElem?_cons_zero, Option.getD_some, List.set_cons_succ, List.set_cons_zero, Value.cells, List.toList_toArray] at hS)) | ((with_reducible show WBx ..); (with_reducible apply wpA_box hS); exact rfl; exact rfl; intro _ wx hS; (try simp only [Act.put, List.setIfInBounds_toArray, List.set_cons_zero, List.set_cons_succ]); (try simp only [Act.eval, Array.getD_eq_getD_getElem?, List.getElem?_toArray, List.getElem?_cons_succ, List.getElem?_cons_zero, Option.getD_some, List.set_cons_succ, List.set_cons_zero, Value.cells, List.toList_toArray] at hS)))
        go_meet
        refine ⟨ao, cap, by rw [List.take_length], ?_⟩
        rw [List.take_length] at hS
        exact HF.out _ _ _ _ rfl (St.perm hS (.swap _ _ _)).tail
  case rest =>
    clear hS
    obtain ⟨ao, cap, rfl, hL⟩ := hcut
    go_wp2_with (first | ((with_reducible show WGd ..); (with_reducible apply wpA_guard); exact rfl; skip) | ((with_reducible show WLd ..); (with_reducible apply wpA_load); exact rfl; (first | ((with_reducible apply St.cellI hS); (focus repeat constructor); exact rfl) | assumption); kernel_rfl) | ((with_reducible show WSt ..); (with_reducible apply wpA_store1I hS); exact rfl; (focus repeat constructor); exact rfl; exact rfl; exact rfl; exact rfl; kernel_rfl; intro wx hS; (try simp only [Act.put, List.setIfInBounds_toArray, List.set_cons_zero, List.set_cons_succ]); (try simp only [Act.eval, Array.getD_eq_getD_getElem?, List.getElem?_toArray, List.getElem?_cons_succ, List.getElem?_cons_zero, Option.getD_some, List.set_cons_succ, List.set_cons_zero, Value.cells, List.toList_toArray] at hS)) | ((with_reducible show WBx ..); (with_reducible apply wpA_box hS); exact rfl; exact rfl; intro _ wx hS; (try simp only [Act.put, List.setIfInBounds_toArray, List.set_cons_zero, List.set_cons_succ]); (try simp only [Act.eval, Array.getD_eq_getD_getElem?, List.getElem?_toArray, List.getElem?_cons_succ, List.getElem?_cons_zero, Option.getD_some, List.set_cons_succ, List.set_cons_zero, Value.cells, List.toList_toArray] at hS)))
    go_ret
    exact ⟨ao, cap, rfl, hL⟩
end
end Go.Proofs.Ytkhjkicnalnibaa
