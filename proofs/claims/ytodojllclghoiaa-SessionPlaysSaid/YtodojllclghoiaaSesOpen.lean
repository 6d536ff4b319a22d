/-
  All and Open, walked.
-/
import Derived.Test.YtodojllclghoiaaSesW
namespace Go.Proofs.Ytodojllclghoiaa
set_option linter.unusedVariables false
set_option linter.unusedSimpArgs false
open Go.RowKit

/-- The sessions with their places. -/
def enumZ (Z : List (Nat × OneS)) : List (Nat × (Nat × OneS)) := Z.mapIdx fun i z => (i, z)
def kvE (x : Nat × (Nat × OneS)) : Value × Value := kvI x.1 x.2
theorem enum_kv (Z : List (Nat × OneS)) : Z.mapIdx kvI = (enumZ Z).map kvE := by
  apply List.ext_getElem?
  intro i
  simp [enumZ, List.getElem?_mapIdx]
  cases Z[i]? <;> rfl
def idE (x : Nat × (Nat × OneS)) : Int := (x.1 : Int) + 1
def opE (x : Nat × (Nat × OneS)) : Bool := x.2.2.isOpen
theorem enum_mem {Z : List (Nat × OneS)} {x : Nat × (Nat × OneS)} (h : x ∈ enumZ Z) : Z[x.1]? = some x.2 := by
  obtain ⟨i, hi⟩ := List.getElem?_of_mem h
  unfold enumZ at hi
  rw [List.getElem?_mapIdx] at hi
  obtain ⟨z, hz, rfl⟩ := Option.map_eq_some_iff.1 hi
  exact hz
theorem allS_enum {σ : SesS} {Z : List (Nat × OneS)} (h : Z.map (·.2) = σ.l) : allS σ = ((enumZ Z).filter opE).map idE := by
  unfold allS
  have e : (σ.l.mapIdx fun i x => (i, x)) = (enumZ Z).map fun y => (y.1, y.2.2) := by
    rw [← h]
    apply List.ext_getElem?
    intro i
    simp [enumZ, List.getElem?_mapIdx]
    cases Z[i]? <;> rfl
  rw [e, List.filter_map, List.map_map]
  rfl
theorem allS_sorted (σ : SesS) : (allS σ).Pairwise (· ≤ ·) := by
  unfold allS
  rw [List.pairwise_map]
  refine List.Pairwise.imp (R := fun a b => a.1 ≤ b.1) (fun h => by omega) (List.Pairwise.filter _ ?_)
  rw [List.pairwise_iff_getElem]
  intro i j hi hj hij
  simp only [List.getElem_mapIdx]
  omega
theorem sortI_of_perm {xs ys : List Int} (h : xs.Perm ys) (hs : ys.Pairwise (· ≤ ·)) : sortI xs = ys := by
  have h1 := mergeSort_of_perm_i h
  show xs.mergeSort leI = ys
  rw [h1]
  exact List.mergeSort_of_pairwise (by simpa [leI] using hs)
theorem allS_len (σ : SesS) : (allS σ).length ≤ σ.l.length := by
  unfold allS
  rw [List.length_map]
  exact Nat.le_trans (List.length_filter_le _ _) (by simp)

theorem erase_mapE {α β : Type} (f : α → β) (Z : List α) (i : Nat) : (Z.map f).eraseIdx i = (Z.eraseIdx i).map f := by
  apply List.ext_getElem?
  intro q
  simp [List.getElem?_eraseIdx]
  split <;> rfl

theorem cell_mem {w0 w : World} {H : List Hp} (h : St w0 w H) {g : Nat} {vs : List Value} {t : TypeId} (hm : Hp.cells g vs t ∈ H) (j : Nat) {v : Value} (hj : vs[j]? = some v) : w.cell? ⟨g, j, none⟩ = some v := by
  obtain ⟨i, hi⟩ := List.getElem?_of_mem hm
  exact h.cell i hi j hj

set_option maxRecDepth 100000 in
set_option maxHeartbeats 4000000 in
theorem all_c (w0 w : World) (R : List Hp) (p : Nat) (σ : SesS) (h : SesSt w0 w p σ R) (hl : σ.l.length ≤ 1000000000) : Calls Try.prog 18 #[.pointer (some ⟨p, 0, none⟩)] w fun e w' =>
    ∃ ao cap, e = .returned (.slice ao (allS σ).length cap) ∧ SesSt w0 w' p σ (.row 3 1 ao (allS σ).length cap ((allS σ).map (Value.int .i64)) :: R) := by
  obtain ⟨ml, mc, Z, hZ, hS⟩ := h
  have hAS := allS_enum hZ
  have hAL : (enumZ Z).length = σ.l.length := by rw [← hZ]; simp [enumZ]
  rw [enum_kv] at hS
  have HZ := Lib.hid (And.intro hZ (And.intro hAS hAL))
  clear hZ hAS hAL
  obtain ⟨E, hE⟩ : ∃ E, enumZ Z = E := ⟨_, rfl⟩
  have hmem : ∀ x ∈ E, oneC x.2.1 x.2.2 ∈ Z.flatMap shp := fun x hx => by
    rw [← hE] at hx
    exact List.mem_flatMap.2 ⟨x.2, List.mem_of_getElem? (enum_mem hx), by simp⟩
  rw [hE] at hS
  have HE := Lib.hid (And.intro hE hmem)
  clear hE hmem
  have hS := hS.nilRow 3 1
  go_enter Try.func18, Try.ntmps18
  go_upto_block 0 with (first | ((with_reducible show WGd ..); (with_reducible apply wpA_guard); exact rfl; skip) | ((with_reducible show wpList _ _ _ (⟨_, .range _ _, _, _, _, none⟩ :: _) _ _); (with_reducible apply wpA_range hS 2); exact rfl; exact rfl; exact Try.underlying59; intro r wx hS; (try simp only [Act.put, List.setIfInBounds_toArray, List.set_cons_zero, List.set_cons_succ])) | ((with_reducible show WLd ..); (with_reducible apply wpA_load); exact rfl; (first | ((with_reducible apply St.cellI hS); (focus repeat constructor); exact rfl) | assumption); kernel_rfl) | ((with_reducible show WSt ..); (with_reducible apply wpA_store1I hS); exact rfl; (focus repeat constructor); exact rfl; exact rfl; exact rfl; exact rfl; kernel_rfl; intro wx hS; (try simp only [Act.put, List.setIfInBounds_toArray, List.set_cons_zero, List.set_cons_succ]); (try simp only [Act.eval, Array.getD_eq_getD_getElem?, List.getElem?_toArray, List.getElem?_cons_succ, List.getElem?_cons_zero, Option.getD_some, List.set_cons_succ, List.set_cons_zero, Value.cells, List.toList_toArray] at hS)) | ((with_reducible show WBx ..); (with_reducible apply wpA_box hS); exact rfl; exact rfl; intro _ wx hS; (try simp only [Act.put, List.setIfInBounds_toArray, List.set_cons_zero, List.set_cons_succ]); (try simp only [Act.eval, Array.getD_eq_getD_getElem?, List.getElem?_toArray, List.getElem?_cons_succ, List.getElem?_cons_zero, Option.getD_some, List.set_cons_succ, List.set_cons_zero, Value.cells, List.toList_toArray] at hS)))
  go_cut [3] (fun v wr => ∃ (xs : List Int) (ao : Option Addr) (cap : Nat), v = .slice ao xs.length cap ∧ xs.Perm ((E.filter opE).map idE) ∧ St w0 wr (.row 3 1 ao xs.length cap (xs.map (Value.int .i64)) :: sc p ml mc :: .mp ml (.int .i64) (E.map kvE) :: .mp mc (.int .i64) (σ.c.map kvC) :: (Z.flatMap shp ++ R)))
  case first =>
    go_wp2_with (first | ((with_reducible show WGd ..); (with_reducible apply wpA_guard); exact rfl; skip) | ((with_reducible show WLd ..); (with_reducible apply wpA_load); exact rfl; (first | ((with_reducible apply St.cellI hS); (focus repeat constructor); exact rfl) | assumption); kernel_rfl) | ((with_reducible show WSt ..); (with_reducible apply wpA_store1I hS); exact rfl; (focus repeat constructor); exact rfl; exact rfl; exact rfl; exact rfl; kernel_rfl; intro wx hS; (try simp only [Act.put, List.setIfInBounds_toArray, List.set_cons_zero, List.set_cons_succ]); (try simp only [Act.eval, Array.getD_eq_getD_getElem?, List.getElem?_toArray, List.getElem?_cons_succ, List.getElem?_cons_zero, Option.getD_some, List.set_cons_succ, List.set_cons_zero, Value.cells, List.toList_toArray] at hS)) | ((with_reducible show WBx ..); (with_reducible apply wpA_box hS); exact rfl; exact rfl; intro _ wx hS; (try simp only [Act.put, List.setIfInBounds_toArray, List.set_cons_zero, List.set_cons_succ]); (try simp only [Act.eval, Array.getD_eq_getD_getElem?, List.getElem?_toArray, List.getElem?_cons_succ, List.getElem?_cons_zero, Option.getD_some, List.set_cons_succ, List.set_cons_zero, Value.cells, List.toList_toArray] at hS)))
    go_loopg [3] E.length (fun gk v wr => ∃ (xs : List Int) (D0 L0 : List (Nat × (Nat × OneS))) (ao : Option Addr) (cap : Nat) (cur : Option (Value × Value)), v = .slice ao xs.length cap ∧ (D0 ++ L0).Perm E ∧ xs.Perm ((D0.filter opE).map idE) ∧ L0.length ≤ gk ∧ xs.length + L0.length ≤ E.length ∧
      St w0 wr (.row 3 1 ao xs.length cap (xs.map (Value.int .i64)) :: sc p ml mc :: .mpi ml (.int .i64) (E.map kvE) r (L0.map kvE) cur :: .mp mc (.int .i64) (σ.c.map kvC) :: (Z.flatMap shp ++ R)))
    case atStart => exact ⟨[], [], E, none, 0, none, rfl, by simp, by simp, Nat.le_refl _, by simp, hS⟩
    case round =>
      clear hS
      obtain ⟨xs, D0, L0, ao, cap, cur, rfl, hp, hxs, hgk, hxl, hS⟩ := hrel
      by_cases hL : L0 = []
      · subst hL
        go_wp2_with (first | ((with_reducible show WGd ..); (with_reducible apply wpA_guard); exact rfl; skip) | ((with_reducible show wpList _ _ _ (⟨_, .next _ _, _, _, _, none⟩ :: _) _ _); (with_reducible apply wpA_next hS 2); exact rfl; exact rfl; rotate_left; (intro j p wx hj; simp at hj); intro _; replace hS := hS.unrange 2 rfl; (try simp only [Act.put, List.setIfInBounds_toArray, List.set_cons_zero, List.set_cons_succ])) | ((with_reducible show WLd ..); (with_reducible apply wpA_load); exact rfl; (first | ((with_reducible apply St.cellI hS); (focus repeat constructor); exact rfl) | assumption); kernel_rfl) | ((with_reducible show WSt ..); (with_reducible apply wpA_store1I hS); exact rfl; (focus repeat constructor); exact rfl; exact rfl; exact rfl; exact rfl; kernel_rfl; intro wx hS; (try simp only [Act.put, List.setIfInBounds_toArray, List.set_cons_zero, List.set_cons_succ]); (try simp only [Act.eval, Array.getD_eq_getD_getElem?, List.getElem?_toArray, List.getElem?_cons_succ, List.getElem?_cons_zero, Option.getD_some, List.set_cons_succ, List.set_cons_zero, Value.cells, List.toList_toArray] at hS)) | ((with_reducible show WBx ..); (with_reducible apply wpA_box hS); exact rfl; exact rfl; intro _ wx hS; (try simp only [Act.put, List.setIfInBounds_toArray, List.set_cons_zero, List.set_cons_succ]); (try simp only [Act.eval, Array.getD_eq_getD_getElem?, List.getElem?_toArray, List.getElem?_cons_succ, List.getElem?_cons_zero, Option.getD_some, List.set_cons_succ, List.set_cons_zero, Value.cells, List.toList_toArray] at hS)))
        go_meet
        rw [List.append_nil] at hp
        exact ⟨xs, ao, cap, rfl, hxs.trans ((hp.filter _).map _), hS⟩
      · have hne : L0.map kvE ≠ [] := by simpa using hL
        have hEl : E.length ≤ 1000000000 := by have h1 := HZ.out.2.2; rw [HE.out.1] at h1; omega
        go_upto_region 7 with (first | ((with_reducible show WGd ..); (with_reducible apply wpA_guard); exact rfl; skip) | ((with_reducible show wpList _ _ _ (⟨_, .next _ _, _, _, _, none⟩ :: _) _ _); (with_reducible apply wpA_next hS 2); exact rfl; exact rfl; (intro h0_; exact absurd h0_ hne); intro j pv wx hj0 hS; rw [List.getElem?_map] at hj0; obtain ⟨⟨i, blk, x⟩, hz, rfl⟩ := Option.map_eq_some_iff.1 hj0; simp only [erase_mapE] at hS; have hop := cell_mem hS (List.mem_cons_of_mem _ (List.mem_cons_of_mem _ (List.mem_cons_of_mem _ (List.mem_cons_of_mem _ (List.mem_append_left _ (HE.out.2 (i, blk, x) (hp.mem_iff.1 (List.mem_append_right _ (List.mem_of_getElem? hz)))))))))  2 rfl; dsimp only [kvE, kvI]; (try simp only [Act.put, List.setIfInBounds_toArray, List.set_cons_zero, List.set_cons_succ])) | ((with_reducible show wpList _ _ _ (⟨_, .entry _, _, _, _, none⟩ :: _) _ _); (with_reducible apply wpA_entry hS 2); exact rfl; exact rfl; dsimp only [kvE, kvI]; (try simp only [Act.put, List.setIfInBounds_toArray, List.set_cons_zero, List.set_cons_succ])) | ((with_reducible show WLd ..); (with_reducible apply wpA_load); exact rfl; (first | ((with_reducible apply St.cellI hS); (focus repeat constructor); exact rfl) | assumption); kernel_rfl) | ((with_reducible show WSt ..); (with_reducible apply wpA_store1I hS); exact rfl; (focus repeat constructor); exact rfl; exact rfl; exact rfl; exact rfl; kernel_rfl; intro wx hS; (try simp only [Act.put, List.setIfInBounds_toArray, List.set_cons_zero, List.set_cons_succ]); (try simp only [Act.eval, Array.getD_eq_getD_getElem?, List.getElem?_toArray, List.getElem?_cons_succ, List.getElem?_cons_zero, Option.getD_some, List.set_cons_succ, List.set_cons_zero, Value.cells, List.toList_toArray] at hS)) | ((with_reducible show WBx ..); (with_reducible apply wpA_box hS); exact rfl; exact rfl; intro _ wx hS; (try simp only [Act.put, List.setIfInBounds_toArray, List.set_cons_zero, List.set_cons_succ]); (try simp only [Act.eval, Array.getD_eq_getD_getElem?, List.getElem?_toArray, List.getElem?_cons_succ, List.getElem?_cons_zero, Option.getD_some, List.set_cons_succ, List.set_cons_zero, Value.cells, List.toList_toArray] at hS)))
        have hjl : j < L0.length := (List.getElem?_eq_some_iff.1 hz).1
        have hpj : ((D0 ++ [(i, blk, x)]) ++ L0.eraseIdx j).Perm E := by
          rw [List.append_assoc]
          exact (List.Perm.append_left D0 (perm_front L0 j _ hz)).trans hp
        have HP := Lib.hid hpj
        have HXS := Lib.hid hxs
        have hel := List.length_eraseIdx_of_lt hjl
        cases hxo : x.isOpen with
        | true =>
          rw [hxo] at hop
          go_wp2_with (first | ((with_reducible show WGd ..); (with_reducible apply wpA_guard); exact rfl; skip) | ((first | ((with_reducible show WBs ..); (with_reducible apply wpA_oneN hS (z := .int .i64 0) (bytes := 8) (size := 1)); exact Try.underlying22; kernel_rfl; exact rfl; exact rfl; exact rfl; exact (by decide); exact (by decide); intro _ wx hS) | ((with_reducible show WBs ..); (with_reducible apply wpA_oneN hS (z := .int .i64 0) (bytes := 8) (size := 1)); exact Try.underlying22; kernel_rfl; exact rfl; exact rfl; exact rfl; exact (by decide); exact (by decide); intro _ wx hS) | ((with_reducible show WBx ..); (with_reducible apply wpA_box hS); exact rfl; exact rfl; intro _ wx hS)); (try simp only [Act.put, List.setIfInBounds_toArray, List.set_cons_zero, List.set_cons_succ]); (try simp only [Act.eval, Array.getD_eq_getD_getElem?, List.getElem?_toArray, List.getElem?_cons_succ, List.getElem?_cons_zero, Option.getD_some, List.set_cons_succ, List.set_cons_zero, Value.cells, List.toList_toArray] at hS)) | ((with_reducible show WAp ..); (with_reducible apply wpA_appendI hS (e := 3) (z := .int .i64 0) (size := 1) (bytes := 8)); exact rfl; exact rfl; exact Try.underlying22; (focus repeat constructor); exact .inr Try.underlying22; kernel_rfl; exact rfl; exact (Src.freshN (m := 1) hS 0 rfl rfl (by rfl)); exact (by unfold maxLen; omega); exact (by omega); intro ao2 cap2 wx hS; (try simp only [Act.put, List.setIfInBounds_toArray, List.set_cons_zero, List.set_cons_succ])) | ((with_reducible show WLd ..); (with_reducible apply wpA_load); exact rfl; (first | ((with_reducible apply St.cellI hS); (focus repeat constructor); exact rfl) | assumption); kernel_rfl) | ((with_reducible show WSt ..); (with_reducible apply wpA_store1I hS); exact rfl; (focus repeat constructor); exact rfl; exact rfl; exact rfl; exact rfl; kernel_rfl; intro wx hS; (try simp only [Act.put, List.setIfInBounds_toArray, List.set_cons_zero, List.set_cons_succ]); (try simp only [Act.eval, Array.getD_eq_getD_getElem?, List.getElem?_toArray, List.getElem?_cons_succ, List.getElem?_cons_zero, Option.getD_some, List.set_cons_succ, List.set_cons_zero, Value.cells, List.toList_toArray] at hS)))
          go_roundg (L0.eraseIdx j).length
          case rel =>
            refine ⟨xs ++ [(i : Int) + 1], D0 ++ [(i, blk, x)], L0.eraseIdx j, ao2, cap2, some (kvE (i, blk, x)), by simp, HP.out, ?_, Nat.le_refl _, by simp; omega, ?_⟩
            · rw [List.filter_append, List.map_append]
              have e : [(i, blk, x)].filter opE = [(i, blk, x)] := by simp [opE, hxo]
              rw [e]
              exact HXS.out.append_right _
            · ((try simp only [List.set_cons_succ, List.set_cons_zero] at hS); replace hS := hS.sel [1, 2, 3, 4] 5 (by decide) (by decide) (by simp); simp only [List.filterMap_cons, List.filterMap_nil, List.getElem?_cons_succ, List.getElem?_cons_zero, List.drop_succ_cons, List.drop_zero, List.cons_append, List.nil_append] at hS)
              simp only [List.length_append, List.length_cons, List.length_nil, List.map_append, List.map_cons, List.map_nil, Nat.zero_add]
              exact hS
          case measure => omega
        | false =>
          rw [hxo] at hop
          go_wp2_with (first | ((with_reducible show WGd ..); (with_reducible apply wpA_guard); exact rfl; skip) | ((with_reducible show WLd ..); (with_reducible apply wpA_load); exact rfl; (first | ((with_reducible apply St.cellI hS); (focus repeat constructor); exact rfl) | assumption); kernel_rfl) | ((with_reducible show WSt ..); (with_reducible apply wpA_store1I hS); exact rfl; (focus repeat constructor); exact rfl; exact rfl; exact rfl; exact rfl; kernel_rfl; intro wx hS; (try simp only [Act.put, List.setIfInBounds_toArray, List.set_cons_zero, List.set_cons_succ]); (try simp only [Act.eval, Array.getD_eq_getD_getElem?, List.getElem?_toArray, List.getElem?_cons_succ, List.getElem?_cons_zero, Option.getD_some, List.set_cons_succ, List.set_cons_zero, Value.cells, List.toList_toArray] at hS)) | ((with_reducible show WBx ..); (with_reducible apply wpA_box hS); exact rfl; exact rfl; intro _ wx hS; (try simp only [Act.put, List.setIfInBounds_toArray, List.set_cons_zero, List.set_cons_succ]); (try simp only [Act.eval, Array.getD_eq_getD_getElem?, List.getElem?_toArray, List.getElem?_cons_succ, List.getElem?_cons_zero, Option.getD_some, List.set_cons_succ, List.set_cons_zero, Value.cells, List.toList_toArray] at hS)))
          go_roundg (L0.eraseIdx j).length
          case rel =>
            refine ⟨xs, D0 ++ [(i, blk, x)], L0.eraseIdx j, ao, cap, some (kvE (i, blk, x)), rfl, HP.out, ?_, Nat.le_refl _, by omega, ?_⟩
            · rw [List.filter_append, List.map_append]
              have e : [(i, blk, x)].filter opE = [] := by simp [opE, hxo]
              rw [e]
              simpa using HXS.out
            · exact hS
          case measure => omega
  case rest =>
    clear hS
    obtain ⟨xs, ao, cap, rfl, hxs, hS⟩ := hcut
    have hxl : xs.length < 4611686018427387904 := by
      have h1 := hxs.length_eq
      have h2 := List.length_filter_le opE E
      have h3 := HZ.out.2.2
      rw [HE.out.1] at h3
      rw [List.length_map] at h1
      omega
    have hsx : sortI xs = allS σ := by
      rw [HZ.out.2.1, HE.out.1]
      refine sortI_of_perm hxs ?_
      have h1 := allS_sorted σ
      rwa [HZ.out.2.1, HE.out.1] at h1
    have hxa : xs.length = (allS σ).length := by rw [← hsx, sortI_length]
    have HSX := Lib.hid hsx
    rw [hxa] at hS
    have hXA : (allS σ).length < 4611686018427387904 := hxa ▸ hxl
    rw [hxa]
    clear hxa hsx hxl hxs
    go_wp2_with (first | ((with_reducible show WGd ..); (with_reducible apply wpA_guard); exact rfl; skip) | (go_at_call 40; with_reducible refine (sort_c hS 0 rfl hXA).mono ?_; rintro _ _ ⟨rfl, hS⟩) | ((with_reducible show WLd ..); (with_reducible apply wpA_load); exact rfl; (first | ((with_reducible apply St.cellI hS); (focus repeat constructor); exact rfl) | assumption); kernel_rfl) | ((with_reducible show WSt ..); (with_reducible apply wpA_store1I hS); exact rfl; (focus repeat constructor); exact rfl; exact rfl; exact rfl; exact rfl; kernel_rfl; intro wx hS; (try simp only [Act.put, List.setIfInBounds_toArray, List.set_cons_zero, List.set_cons_succ]); (try simp only [Act.eval, Array.getD_eq_getD_getElem?, List.getElem?_toArray, List.getElem?_cons_succ, List.getElem?_cons_zero, Option.getD_some, List.set_cons_succ, List.set_cons_zero, Value.cells, List.toList_toArray] at hS)) | ((with_reducible show WBx ..); (with_reducible apply wpA_box hS); exact rfl; exact rfl; intro _ wx hS; (try simp only [Act.put, List.setIfInBounds_toArray, List.set_cons_zero, List.set_cons_succ]); (try simp only [Act.eval, Array.getD_eq_getD_getElem?, List.getElem?_toArray, List.getElem?_cons_succ, List.getElem?_cons_zero, Option.getD_some, List.set_cons_succ, List.set_cons_zero, Value.cells, List.toList_toArray] at hS)))
    go_ret
    rw [HSX.out] at hS
    refine ⟨ao, cap, rfl, ml, mc, Z, HZ.out.1, ?_⟩
    rw [enum_kv, HE.out.1]
    exact hS.perm ((front3 [.row 3 1 ao (allS σ).length cap ((allS σ).map (Value.int .i64))] _ _ _ _).trans (.cons _ (.cons _ (.cons _ (by exact swapL [Hp.row 3 1 ao (allS σ).length cap ((allS σ).map (Value.int .i64))] _ _)))))

/-- All of them, and a new one, in the words of the map's length. -/
theorem ses_new {w0 w : World} {p : Nat} {σ : SesS} {R : List Hp} (h : SesSt w0 w p σ R) : ∃ (ml mc : Nat) (kl : List (Value × Value)) (D : List Hp), (∀ q ∈ kl, q.1 ≠ .int .i64 ((kl.length : Int) + 1)) ∧ kl.length = σ.l.length ∧
    St w0 w (sc p ml mc :: .mp ml (.int .i64) kl :: .mp mc (.int .i64) (σ.c.map kvC) :: D) ∧
    (∀ w' c' A, St w0 w' (A ++ (sc p ml mc :: .mp ml (.int .i64) kl :: .mp mc (.int .i64) (c'.map kvC) :: D)) → SesSt w0 w' p ⟨σ.l, c'⟩ (A ++ R)) ∧
    (∀ w' x' blk c' A, St w0 w' (A ++ (sc p ml mc :: .mp ml (.int .i64) (kl ++ [(.int .i64 ((kl.length : Int) + 1), .pointer (some ⟨blk, 0, none⟩))]) :: .mp mc (.int .i64) (c'.map kvC) :: oneC blk x' :: D)) → SesSt w0 w' p ⟨σ.l ++ [x'], c'⟩ (A ++ R)) := by
  obtain ⟨ml, mc, kl, D, hn, hlen, hS, hf, hg⟩ := ses_all h
  refine ⟨ml, mc, kl, D, hn _ (fun k hk => by rw [hlen]; omega), hlen, hS, hf, fun w' x' blk c' A h => hg w' x' blk c' A (by rw [← hlen]; exact h)⟩

set_option maxRecDepth 100000 in
set_option maxHeartbeats 4000000 in
theorem open_c (w0 w : World) (R : List Hp) (p : Nat) (σ : SesS) (client life : Int) (h : SesSt w0 w p σ R) (hl : σ.l.length ≤ 1000000000) : Calls Try.prog 9 #[.pointer (some ⟨p, 0, none⟩), .int .i64 client, .int .i64 life] w fun e w' =>
    e = .returned (.tuple #[.int .i64 (openS σ client life).1.1, .bool (openS σ client life).1.2.1, .int .i64 (openS σ client life).1.2.2]) ∧ SesSt w0 w' p (openS σ client life).2 R := by
  by_cases c0 : client < 0 ∨ 8 ≤ client ∨ life < 1 ∨ 1073741824 < life
  · have e : openS σ client life = ((0, false, 1), σ) := by unfold openS; rw [if_pos c0]
    rw [e]
    clear e
    obtain ⟨ml, mc, kl, D, hn, hlen, hS, hfin, hnew⟩ := ses_all h
    have HF := Lib.hid hfin
    clear hn hfin hnew h hlen
    by_cases a1 : client < 0
    · clear c0
      go_enter Try.func9, Try.ntmps9
      go_wp2_with (first | ((with_reducible show WGd ..); (with_reducible apply wpA_guard); exact rfl; skip) | ((with_reducible show WLd ..); (with_reducible apply wpA_load); exact rfl; (first | ((with_reducible apply St.cellI hS); (focus repeat constructor); exact rfl) | assumption); kernel_rfl) | ((with_reducible show WSt ..); (with_reducible apply wpA_store1I hS); exact rfl; (focus repeat constructor); exact rfl; exact rfl; exact rfl; exact rfl; kernel_rfl; intro wx hS; (try simp only [Act.put, List.setIfInBounds_toArray, List.set_cons_zero, List.set_cons_succ]); (try simp only [Act.eval, Array.getD_eq_getD_getElem?, List.getElem?_toArray, List.getElem?_cons_succ, List.getElem?_cons_zero, Option.getD_some, List.set_cons_succ, List.set_cons_zero, Value.cells, List.toList_toArray] at hS)) | ((with_reducible show WBx ..); (with_reducible apply wpA_box hS); exact rfl; exact rfl; intro _ wx hS; (try simp only [Act.put, List.setIfInBounds_toArray, List.set_cons_zero, List.set_cons_succ]); (try simp only [Act.eval, Array.getD_eq_getD_getElem?, List.getElem?_toArray, List.getElem?_cons_succ, List.getElem?_cons_zero, Option.getD_some, List.set_cons_succ, List.set_cons_zero, Value.cells, List.toList_toArray] at hS)))
      go_ret3
      exact ⟨rfl, HF.out _ σ.c [] hS⟩
    by_cases a2 : 8 ≤ client
    · clear c0
      go_enter Try.func9, Try.ntmps9
      go_wp2_with (first | ((with_reducible show WGd ..); (with_reducible apply wpA_guard); exact rfl; skip) | ((with_reducible show WLd ..); (with_reducible apply wpA_load); exact rfl; (first | ((with_reducible apply St.cellI hS); (focus repeat constructor); exact rfl) | assumption); kernel_rfl) | ((with_reducible show WSt ..); (with_reducible apply wpA_store1I hS); exact rfl; (focus repeat constructor); exact rfl; exact rfl; exact rfl; exact rfl; kernel_rfl; intro wx hS; (try simp only [Act.put, List.setIfInBounds_toArray, List.set_cons_zero, List.set_cons_succ]); (try simp only [Act.eval, Array.getD_eq_getD_getElem?, List.getElem?_toArray, List.getElem?_cons_succ, List.getElem?_cons_zero, Option.getD_some, List.set_cons_succ, List.set_cons_zero, Value.cells, List.toList_toArray] at hS)) | ((with_reducible show WBx ..); (with_reducible apply wpA_box hS); exact rfl; exact rfl; intro _ wx hS; (try simp only [Act.put, List.setIfInBounds_toArray, List.set_cons_zero, List.set_cons_succ]); (try simp only [Act.eval, Array.getD_eq_getD_getElem?, List.getElem?_toArray, List.getElem?_cons_succ, List.getElem?_cons_zero, Option.getD_some, List.set_cons_succ, List.set_cons_zero, Value.cells, List.toList_toArray] at hS)))
      go_ret3
      exact ⟨rfl, HF.out _ σ.c [] hS⟩
    by_cases a3 : life < 1
    · clear c0
      go_enter Try.func9, Try.ntmps9
      go_wp2_with (first | ((with_reducible show WGd ..); (with_reducible apply wpA_guard); exact rfl; skip) | ((with_reducible show WLd ..); (with_reducible apply wpA_load); exact rfl; (first | ((with_reducible apply St.cellI hS); (focus repeat constructor); exact rfl) | assumption); kernel_rfl) | ((with_reducible show WSt ..); (with_reducible apply wpA_store1I hS); exact rfl; (focus repeat constructor); exact rfl; exact rfl; exact rfl; exact rfl; kernel_rfl; intro wx hS; (try simp only [Act.put, List.setIfInBounds_toArray, List.set_cons_zero, List.set_cons_succ]); (try simp only [Act.eval, Array.getD_eq_getD_getElem?, List.getElem?_toArray, List.getElem?_cons_succ, List.getElem?_cons_zero, Option.getD_some, List.set_cons_succ, List.set_cons_zero, Value.cells, List.toList_toArray] at hS)) | ((with_reducible show WBx ..); (with_reducible apply wpA_box hS); exact rfl; exact rfl; intro _ wx hS; (try simp only [Act.put, List.setIfInBounds_toArray, List.set_cons_zero, List.set_cons_succ]); (try simp only [Act.eval, Array.getD_eq_getD_getElem?, List.getElem?_toArray, List.getElem?_cons_succ, List.getElem?_cons_zero, Option.getD_some, List.set_cons_succ, List.set_cons_zero, Value.cells, List.toList_toArray] at hS)))
      go_ret3
      exact ⟨rfl, HF.out _ σ.c [] hS⟩
    have a4 : 1073741824 < life := by omega
    clear c0
    go_enter Try.func9, Try.ntmps9
    go_wp2_with (first | ((with_reducible show WGd ..); (with_reducible apply wpA_guard); exact rfl; skip) | ((with_reducible show WLd ..); (with_reducible apply wpA_load); exact rfl; (first | ((with_reducible apply St.cellI hS); (focus repeat constructor); exact rfl) | assumption); kernel_rfl) | ((with_reducible show WSt ..); (with_reducible apply wpA_store1I hS); exact rfl; (focus repeat constructor); exact rfl; exact rfl; exact rfl; exact rfl; kernel_rfl; intro wx hS; (try simp only [Act.put, List.setIfInBounds_toArray, List.set_cons_zero, List.set_cons_succ]); (try simp only [Act.eval, Array.getD_eq_getD_getElem?, List.getElem?_toArray, List.getElem?_cons_succ, List.getElem?_cons_zero, Option.getD_some, List.set_cons_succ, List.set_cons_zero, Value.cells, List.toList_toArray] at hS)) | ((with_reducible show WBx ..); (with_reducible apply wpA_box hS); exact rfl; exact rfl; intro _ wx hS; (try simp only [Act.put, List.setIfInBounds_toArray, List.set_cons_zero, List.set_cons_succ]); (try simp only [Act.eval, Array.getD_eq_getD_getElem?, List.getElem?_toArray, List.getElem?_cons_succ, List.getElem?_cons_zero, Option.getD_some, List.set_cons_succ, List.set_cons_zero, Value.cells, List.toList_toArray] at hS)))
    go_ret3
    exact ⟨rfl, HF.out _ σ.c [] hS⟩
  obtain ⟨c1, c2, c3, c4⟩ : 0 ≤ client ∧ client < 8 ∧ 1 ≤ life ∧ life ≤ 1073741824 := by omega
  have e : openS σ client life = if life < (latS σ client).1 then ((0, false, 18), σ)
      else if life = (latS σ client).1 then (((latS σ client).2, false, 0), σ)
      else if 256 ≤ (allS σ).length then ((0, false, 17), σ)
      else (((σ.l.length : Int) + 1, true, 0), ⟨σ.l ++ [⟨client, life, true, 0, false, rep0⟩], aput σ.c client (life, (σ.l.length : Int) + 1)⟩) := by unfold openS; rw [if_neg c0]
  rw [e]
  clear e c0
  obtain ⟨ml, mc, kl, D, hn, hlen, hS, hfin, hnew⟩ := ses_all h
  obtain ⟨lat, hlat⟩ : ∃ r, latS σ client = r := ⟨_, rfl⟩
  obtain ⟨r, hr, hrv⟩ : ∃ r : Option Value, (match r with | none => ∀ q ∈ σ.c.map kvC, q.1 ≠ .int .i64 client | some v => ∃ j : Nat, (σ.c.map kvC)[j]? = some (.int .i64 client, v)) ∧ r.getD (.agg #[.int .i64 0, .int .i64 0]) = .agg #[.int .i64 lat.1, .int .i64 lat.2] := by
    unfold latS at hlat
    cases hq : aget σ.c client with
    | none =>
      rw [hq] at hlat
      exact ⟨none, aget_none int_inj hq, by rw [← hlat]; rfl⟩
    | some v =>
      rw [hq] at hlat
      exact ⟨some (evC v), aget_some hq, by rw [← hlat]; rfl⟩
  rw [hlat]
  have HF := Lib.hid hfin
  have HR := Lib.hid hr
  clear hn hfin hnew h hlen hlat hr
  obtain ⟨lf, lid⟩ := lat
  simp only at hrv ⊢
  by_cases d1 : life < lf
  · rw [if_pos d1]
    go_enter Try.func9, Try.ntmps9
    go_wp2_with (first | ((with_reducible show WGd ..); (with_reducible apply wpA_guard); exact rfl; skip) | ((with_reducible show WLk ..); (with_reducible apply wpA_lookup hS 2 (z := .agg #[.int .i64 0, .int .i64 0]) (r := r)); exact rfl; exact rfl; exact rfl; exact Try.underlying60; exact Try.underlying3; exact rfl; kernel_rfl; exact HR.out; simp only [Bool.false_eq_true, if_false, hrv]) | ((first | ((with_reducible show WAl ..); (with_reducible apply wpA_alloc (t := 64) hS (v := .agg #[.int .i64 0, .int .i64 0])); kernel_rfl; exact rfl; intro _ wx hS) | ((with_reducible show WBx ..); (with_reducible apply wpA_box hS); exact rfl; exact rfl; intro _ wx hS)); (try simp only [Act.put, List.setIfInBounds_toArray, List.set_cons_zero, List.set_cons_succ]); (try simp only [Act.eval, Array.getD_eq_getD_getElem?, List.getElem?_toArray, List.getElem?_cons_succ, List.getElem?_cons_zero, Option.getD_some, List.set_cons_succ, List.set_cons_zero, Value.cells, List.toList_toArray] at hS)) | ((with_reducible show WSt ..); (with_reducible apply wpA_storeI hS); exact rfl; (focus repeat constructor); exact rfl; exact rfl; exact rfl; exact (Nat.le_of_ble_eq_true rfl); kernel_rfl; intro wx hS; (try simp only [Act.put, List.setIfInBounds_toArray, List.set_cons_zero, List.set_cons_succ]); (try simp only [Act.eval, Array.getD_eq_getD_getElem?, List.getElem?_toArray, List.getElem?_cons_succ, List.getElem?_cons_zero, Option.getD_some, List.set_cons_succ, List.set_cons_zero, Value.cells, List.toList_toArray] at hS); (try simp only [List.take_zero, List.take_succ_cons, List.nil_append, List.cons_append, List.length_cons, List.length_nil, Nat.reduceAdd, Nat.zero_add, List.drop_succ_cons, List.drop_zero, List.drop_nil, List.append_nil] at hS)) | ((with_reducible show WLd ..); (with_reducible apply wpA_load); exact rfl; (first | ((with_reducible apply St.cellI hS); (focus repeat constructor); exact rfl) | assumption); kernel_rfl) | ((with_reducible show WSt ..); (with_reducible apply wpA_store1I hS); exact rfl; (focus repeat constructor); exact rfl; exact rfl; exact rfl; exact rfl; kernel_rfl; intro wx hS; (try simp only [Act.put, List.setIfInBounds_toArray, List.set_cons_zero, List.set_cons_succ]); (try simp only [Act.eval, Array.getD_eq_getD_getElem?, List.getElem?_toArray, List.getElem?_cons_succ, List.getElem?_cons_zero, Option.getD_some, List.set_cons_succ, List.set_cons_zero, Value.cells, List.toList_toArray] at hS)))
    go_ret3
    exact ⟨rfl, HF.out _ σ.c [] hS.tail⟩
  rw [if_neg d1]
  by_cases d2 : life = lf
  · rw [if_pos d2]
    have hb : (life == lf) = true := by simpa using d2
    have D2 := Lib.hid d2
    clear d2
    go_enter Try.func9, Try.ntmps9
    go_wp2_with (first | ((with_reducible show WGd ..); (with_reducible apply wpA_guard); exact rfl; skip) | ((with_reducible show WLk ..); (with_reducible apply wpA_lookup hS 2 (z := .agg #[.int .i64 0, .int .i64 0]) (r := r)); exact rfl; exact rfl; exact rfl; exact Try.underlying60; exact Try.underlying3; exact rfl; kernel_rfl; exact HR.out; simp only [Bool.false_eq_true, if_false, hrv]) | ((first | ((with_reducible show WAl ..); (with_reducible apply wpA_alloc (t := 64) hS (v := .agg #[.int .i64 0, .int .i64 0])); kernel_rfl; exact rfl; intro _ wx hS) | ((with_reducible show WBx ..); (with_reducible apply wpA_box hS); exact rfl; exact rfl; intro _ wx hS)); (try simp only [Act.put, List.setIfInBounds_toArray, List.set_cons_zero, List.set_cons_succ]); (try simp only [Act.eval, Array.getD_eq_getD_getElem?, List.getElem?_toArray, List.getElem?_cons_succ, List.getElem?_cons_zero, Option.getD_some, List.set_cons_succ, List.set_cons_zero, Value.cells, List.toList_toArray] at hS)) | ((with_reducible show WSt ..); (with_reducible apply wpA_storeI hS); exact rfl; (focus repeat constructor); exact rfl; exact rfl; exact rfl; exact (Nat.le_of_ble_eq_true rfl); kernel_rfl; intro wx hS; (try simp only [Act.put, List.setIfInBounds_toArray, List.set_cons_zero, List.set_cons_succ]); (try simp only [Act.eval, Array.getD_eq_getD_getElem?, List.getElem?_toArray, List.getElem?_cons_succ, List.getElem?_cons_zero, Option.getD_some, List.set_cons_succ, List.set_cons_zero, Value.cells, List.toList_toArray] at hS); (try simp only [List.take_zero, List.take_succ_cons, List.nil_append, List.cons_append, List.length_cons, List.length_nil, Nat.reduceAdd, Nat.zero_add, List.drop_succ_cons, List.drop_zero, List.drop_nil, List.append_nil] at hS)) | ((with_reducible show WLd ..); (with_reducible apply wpA_load); exact rfl; (first | ((with_reducible apply St.cellI hS); (focus repeat constructor); exact rfl) | assumption); kernel_rfl) | ((with_reducible show WSt ..); (with_reducible apply wpA_store1I hS); exact rfl; (focus repeat constructor); exact rfl; exact rfl; exact rfl; exact rfl; kernel_rfl; intro wx hS; (try simp only [Act.put, List.setIfInBounds_toArray, List.set_cons_zero, List.set_cons_succ]); (try simp only [Act.eval, Array.getD_eq_getD_getElem?, List.getElem?_toArray, List.getElem?_cons_succ, List.getElem?_cons_zero, Option.getD_some, List.set_cons_succ, List.set_cons_zero, Value.cells, List.toList_toArray] at hS)))
    go_ret3
    exact ⟨rfl, HF.out _ σ.c [] hS.tail⟩
  rw [if_neg d2]
  have hb : (life == lf) = false := by simpa using d2
  by_cases d3 : 256 ≤ (allS σ).length
  · rw [if_pos d3]
    go_enter Try.func9, Try.ntmps9
    go_wp2_with (first | ((with_reducible show WGd ..); (with_reducible apply wpA_guard); exact rfl; skip) | ((with_reducible show WLk ..); (with_reducible apply wpA_lookup hS 2 (z := .agg #[.int .i64 0, .int .i64 0]) (r := r)); exact rfl; exact rfl; exact rfl; exact Try.underlying60; exact Try.underlying3; exact rfl; kernel_rfl; exact HR.out; simp only [Bool.false_eq_true, if_false, hrv]) | (go_at_call 18; replace hS := HF.out _ σ.c [_] (by exact hS); with_reducible refine (all_c w0 _ _ p σ hS hl).mono ?_; rintro _ _ ⟨ao, cap, rfl, hL⟩; obtain ⟨ml2, mc2, kl2, D2, hn2, hlen2, hS, hfin2, hnew2⟩ := ses_new hL; have HN2 := Lib.hid hn2; have HL2 := Lib.hid hlen2; have HF2 := Lib.hid hfin2; have HW2 := Lib.hid hnew2; have hk2 : kl2.length ≤ 1000000000 := (by omega); clear hn2 hlen2 hfin2 hnew2 hL) | ((first | ((with_reducible show WAl ..); (with_reducible apply wpA_alloc (t := 64) hS (v := .agg #[.int .i64 0, .int .i64 0])); kernel_rfl; exact rfl; intro _ wx hS) | ((with_reducible show WBx ..); (with_reducible apply wpA_box hS); exact rfl; exact rfl; intro _ wx hS)); (try simp only [Act.put, List.setIfInBounds_toArray, List.set_cons_zero, List.set_cons_succ]); (try simp only [Act.eval, Array.getD_eq_getD_getElem?, List.getElem?_toArray, List.getElem?_cons_succ, List.getElem?_cons_zero, Option.getD_some, List.set_cons_succ, List.set_cons_zero, Value.cells, List.toList_toArray] at hS)) | ((with_reducible show WSt ..); (with_reducible apply wpA_storeI hS); exact rfl; (focus repeat constructor); exact rfl; exact rfl; exact rfl; exact (Nat.le_of_ble_eq_true rfl); kernel_rfl; intro wx hS; (try simp only [Act.put, List.setIfInBounds_toArray, List.set_cons_zero, List.set_cons_succ]); (try simp only [Act.eval, Array.getD_eq_getD_getElem?, List.getElem?_toArray, List.getElem?_cons_succ, List.getElem?_cons_zero, Option.getD_some, List.set_cons_succ, List.set_cons_zero, Value.cells, List.toList_toArray] at hS); (try simp only [List.take_zero, List.take_succ_cons, List.nil_append, List.cons_append, List.length_cons, List.length_nil, Nat.reduceAdd, Nat.zero_add, List.drop_succ_cons, List.drop_zero, List.drop_nil, List.append_nil] at hS)) | ((with_reducible show WLd ..); (with_reducible apply wpA_load); exact rfl; (first | ((with_reducible apply St.cellI hS); (focus repeat constructor); exact rfl) | assumption); kernel_rfl) | ((with_reducible show WSt ..); (with_reducible apply wpA_store1I hS); exact rfl; (focus repeat constructor); exact rfl; exact rfl; exact rfl; exact rfl; kernel_rfl; intro wx hS; (try simp only [Act.put, List.setIfInBounds_toArray, List.set_cons_zero, List.set_cons_succ]); (try simp only [Act.eval, Array.getD_eq_getD_getElem?, List.getElem?_toArray, List.getElem?_cons_succ, List.getElem?_cons_zero, Option.getD_some, List.set_cons_succ, List.set_cons_zero, Value.cells, List.toList_toArray] at hS)))
    go_ret3
    exact ⟨rfl, (HF2.out _ σ.c [] hS).sub (by exact .cons _ (.cons _ (List.Sublist.refl _)))⟩
  rw [if_neg d3]
  go_enter Try.func9, Try.ntmps9
  go_wp2_with (first | ((with_reducible show WGd ..); (with_reducible apply wpA_guard); exact rfl; skip) | ((with_reducible show WLk ..); (with_reducible apply wpA_lookup hS 2 (z := .agg #[.int .i64 0, .int .i64 0]) (r := r)); exact rfl; exact rfl; exact rfl; exact Try.underlying60; exact Try.underlying3; exact rfl; kernel_rfl; exact HR.out; simp only [Bool.false_eq_true, if_false, hrv]) | (go_at_call 18; replace hS := HF.out _ σ.c [_] (by exact hS); with_reducible refine (all_c w0 _ _ p σ hS hl).mono ?_; rintro _ _ ⟨ao, cap, rfl, hL⟩; obtain ⟨ml2, mc2, kl2, D2, hn2, hlen2, hS, hfin2, hnew2⟩ := ses_new hL; have HN2 := Lib.hid hn2; have HL2 := Lib.hid hlen2; have HF2 := Lib.hid hfin2; have HW2 := Lib.hid hnew2; have hk2 : kl2.length ≤ 1000000000 := (by omega); clear hn2 hlen2 hfin2 hnew2 hL) | ((with_reducible show WLn ..); (with_reducible apply wpA_lenMap hS 1); exact rfl; exact rfl; exact Try.underlying59) | ((with_reducible show WUp ..); (with_reducible apply wpA_update_new hS 2); exact rfl; exact rfl; exact rfl; exact rfl; exact Try.underlying59; exact Try.underlying3; exact rfl; exact HN2.out; intro wx hS; (try simp only [Act.put, List.setIfInBounds_toArray, List.set_cons_zero, List.set_cons_succ]); (try simp only [Act.eval, Array.getD_eq_getD_getElem?, List.getElem?_toArray, List.getElem?_cons_succ, List.getElem?_cons_zero, Option.getD_some, List.set_cons_succ, List.set_cons_zero, Value.cells, List.toList_toArray] at hS)) | ((first | ((with_reducible show WBx ..); (with_reducible apply wpA_box hS); exact rfl; exact rfl; intro blk wx hS) | ((with_reducible show WAl ..); (with_reducible apply wpA_alloc (t := 64) hS (v := .agg #[.int .i64 0, .int .i64 0])); kernel_rfl; exact rfl; intro _ wx hS) | ((with_reducible show WBx ..); (with_reducible apply wpA_box hS); exact rfl; exact rfl; intro _ wx hS)); (try simp only [Act.put, List.setIfInBounds_toArray, List.set_cons_zero, List.set_cons_succ]); (try simp only [Act.eval, Array.getD_eq_getD_getElem?, List.getElem?_toArray, List.getElem?_cons_succ, List.getElem?_cons_zero, Option.getD_some, List.set_cons_succ, List.set_cons_zero, Value.cells, List.toList_toArray] at hS)) | ((with_reducible apply wpA_put (κ := Int) (ev := evC) (v := (life, (kl2.length : Int) + 1)) hS 3); exact rfl; exact rfl; exact rfl; exact rfl; exact Try.underlying60; exact Try.underlying3; exact rfl; exact int_inj; intro wx hS; (try simp only [Act.put, List.setIfInBounds_toArray, List.set_cons_zero, List.set_cons_succ])) | ((with_reducible show WSt ..); (with_reducible apply wpA_storeI hS); exact rfl; (focus repeat constructor); exact rfl; exact rfl; exact rfl; exact (Nat.le_of_ble_eq_true rfl); kernel_rfl; intro wx hS; (try simp only [Act.put, List.setIfInBounds_toArray, List.set_cons_zero, List.set_cons_succ]); (try simp only [Act.eval, Array.getD_eq_getD_getElem?, List.getElem?_toArray, List.getElem?_cons_succ, List.getElem?_cons_zero, Option.getD_some, List.set_cons_succ, List.set_cons_zero, Value.cells, List.toList_toArray] at hS); (try simp only [List.take_zero, List.take_succ_cons, List.nil_append, List.cons_append, List.length_cons, List.length_nil, Nat.reduceAdd, Nat.zero_add, List.drop_succ_cons, List.drop_zero, List.drop_nil, List.append_nil] at hS)) | ((with_reducible show WLd ..); (with_reducible apply wpA_load); exact rfl; (first | ((with_reducible apply St.cellI hS); (focus repeat constructor); exact rfl) | assumption); kernel_rfl) | ((with_reducible show WSt ..); (with_reducible apply wpA_store1I hS); exact rfl; (focus repeat constructor); exact rfl; exact rfl; exact rfl; exact rfl; kernel_rfl; intro wx hS; (try simp only [Act.put, List.setIfInBounds_toArray, List.set_cons_zero, List.set_cons_succ]); (try simp only [Act.eval, Array.getD_eq_getD_getElem?, List.getElem?_toArray, List.getElem?_cons_succ, List.getElem?_cons_zero, Option.getD_some, List.set_cons_succ, List.set_cons_zero, Value.cells, List.toList_toArray] at hS)))
  go_ret3
  have h2 := HW2.out _ ⟨client, life, true, 0, false, rep0⟩ blk (aput σ.c client (life, (kl2.length : Int) + 1)) [] (by ((try simp only [List.set_cons_succ, List.set_cons_zero] at hS); replace hS := hS.sel [1, 2, 3, 0] 4 (by decide) (by decide) (by simp); simp only [List.filterMap_cons, List.filterMap_nil, List.getElem?_cons_succ, List.getElem?_cons_zero, List.drop_succ_cons, List.drop_zero, List.cons_append, List.nil_append] at hS); exact hS)
  rw [HL2.out] at h2 ⊢
  exact ⟨rfl, h2.sub (by exact .cons _ (.cons _ (List.Sublist.refl _)))⟩
end Go.Proofs.Ytodojllclghoiaa
